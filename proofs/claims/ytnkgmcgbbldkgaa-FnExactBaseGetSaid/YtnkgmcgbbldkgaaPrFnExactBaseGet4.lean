import Derived.Test.YtnkgmcgbbldkgaaPrFnExactBaseGet3
/- Texts of this claim, one behind the other: words on worlds and rows, printed functions and their walks, plain lemmas. -/
namespace Go.Proofs.Ytnkgmcgbbldkgaa.P
open Go.RowKit Go.Proofs.YtnkgmcgbbldkgaaW.PrintWords Go.Proofs.YtnkgmcgbbldkgaaW.PrintLast Go.Proofs.YtnkgmcgbbldkgaaW.PrintMore
attribute [local go_sem] max2_int min2_int max_two min_two max_three min_three max_four min_four   -- for this text's walks alone
set_option linter.unusedVariables false
set_option linter.unusedSimpArgs false
def spec_BaseOk.T5 : Bool × List (List Nat × List Nat) := (true, [([], []), ([0], [0]), ([1], [1]), ([2, 1], [2]), ([3], [3]), ([4, 3], [3, 4]), ([5, 3], [3, 5]), ([6, 3, 3], [3, 6]), ([7], [7]), ([8, 7], [7, 8]), ([7], [7]), ([10, 7], [7, 10]), ([9, 11, 7], [7, 9, 11]), ([7, 12, 3], [3, 7, 12]), ([3, 13], [3, 13]), ([14, 7], [14]), ([15], [15]), ([16, 15], [15, 16]), ([17, 15, 15], [15, 17]), ([18], [18]), ([19, 18], [18, 19]), ([18], [18]), ([21, 18], [18, 21]), ([20, 22, 18], [18, 20, 22]), ([23, 18], [18, 23]), ([24, 18], [18, 24]), ([18], [18]), ([26, 18], [18, 26]), ([25, 27, 18], [18, 25, 27]), ([18, 28, 15], [15, 18, 28]), ([15, 29], [15, 29])])
def spec_BaseOk.B5 : List Nat := [0, 1, 3, 7, 15, 31, 63, 127, 255, 511, 255, 1279, 4095, 8191, 16383, 32767, 65535, 131071, 262143, 524287, 1048575, 524287, 2621439, 8388607, 16777215, 33554431, 524287, 67633151, 268435455, 536870911, 1073741823]
theorem spec_BaseOk.tab5 : rtab .any (opsOf Try.f17 5) = spec_BaseOk.T5 := by kernel_rfl
theorem spec_BaseOk.bits5 : waitsOk spec_BaseOk.T5.2 spec_BaseOk.B5 = true := by kernel_rfl
set_option maxHeartbeats 8000000 in
set_option maxRecDepth 100000 in
theorem spec_BaseOk.calls (k : Nat) (a0_0 : Int) (A0_1 : Option Addr) (c0_1 : Nat) (l0_1 : List (S32)) (r : Bool) (w : World) (hr0_1 : Kd.C k32 w A0_1 l0_1.length l0_1) (hc0_1 : l0_1.length ≤ c0_1) (h : spec_BaseOk.f k a0_0 l0_1 = some r) :
  Calls Try.prog 17 #[.agg #[.int .i64 a0_0, .slice A0_1 l0_1.length c0_1]] w fun e w' => e = .returned (.bool r) ∧ Below w.heap.size w w' := by
 have hu46 := Try.underlying46; have hu32 := Try.underlying32; have HR0_1 := zq9 hr0_1; have HC0_1 := zq9 hc0_1; clear hr0_1 hc0_1
 have HB := zq9 (Below.refl w.heap.size w)
 have H : (spec_BaseOk.l0 k 0 a0_0 l0_1) = some r := h
 clear h; have H' := zq9 H; clear H
 go_enter Try.func17, Try.ntmps17
 go_wp2_with (first | ((with_reducible refine zq25 (N := 1) rfl ?_); (try (refine gate_guard (by rfl) ?_; dsimp only)); refine bx 1 #[.int .i64 a0_0, .slice A0_1 l0_1.length c0_1] 46 ?_; intro gb645 hg w2 hbox hb; have n0_ := zq9 (zq27 (by exact bl HB) hb); have n1_ := zq9 (hbox); have n2_ := zq9 ((by rw [hg]; exact (zq29 (by exact bl HB)) : w.heap.size ≤ gb645)); have n3_ := n2_; clear HB; have HB := n0_; have BK645 := n1_; have GW645 := n2_; have GE645 := n3_; clear n0_ n1_ n2_ n3_; clear hb hbox hg))
 go_loopg [3] k (fun kq v3 w' => ∃ (x3_1 : Int), v3 = .int .i64 x3_1 ∧ Aside0 (spec_BaseOk.l0 kq x3_1 a0_0 l0_1 = some r) ∧ Aside0 (kq ≤ k) ∧ Aside0 (w'.heap[gb645]? = some (.cells #[.int .i64 a0_0, (.slice A0_1 l0_1.length c0_1)] 46 (0, 0))) ∧ Aside0 (Below w.heap.size w w'))
 case atStart => exact ⟨(0), (by first | rfl | (simp; done) | (simp [*]; done)), H', ⟨Nat.le_refl _⟩, ⟨by refine bp ?_; exact BK645.out⟩, ⟨by exact b1 HB GE645⟩⟩
 case round =>
  clear H'
  try clear c1
  try clear p2
  obtain ⟨x3_1, rfl, HA, HK1, BK645, HB⟩ := hrel
  cases gk with
  | zero => exact absurd HA.out (by simp [spec_BaseOk.l0])
  | succ k1 =>
   have H := HA.out; clear HA
   simp only [spec_BaseOk.l0] at H
   refine (Classical.em (x3_1 < (l0_1.length : Int))).elim (fun c3 => ?p0) (fun c3 => ?n0)
   case p0 =>
    rw [if_pos c3] at H; have c3b0 : decide (x3_1 < (l0_1.length : Int)) = true := decide_eq_true c3; clear c3
    by_cases c4 : 0 ≤ x3_1
    ·rw [if_pos c4] at H; have c4b0 : decide (0 ≤ x3_1) = true := decide_eq_true c4; clear c4; have HC5 := zq9 H; clear H
     have hcz6_0 : wr.cell? ⟨gb645, 0, none⟩ = some (.int .i64 a0_0) := bc BK645 0
     have hcz6_1 : wr.cell? ⟨gb645, 1, none⟩ = some (.slice A0_1 l0_1.length c0_1) := bc BK645 1
     have hfz6_0 := zq6 BK645.out 0
     have hfz6_1 := zq6 BK645.out 1
     have p647 : 0 ≤ (x3_1 : Int) := of_decide_eq_true ‹_›
     have q647 : x3_1 < (l0_1.length : Int) := of_decide_eq_true ‹_›
     obtain ⟨ad647, A647_4, c647_4, A647_5, c647_5, A647_6, c647_6, e647, hx647_0, hx647_1, hx647_2, hx647_3, hx647_4, hx647_5, hx647_6, hl647_4, hi647_4, hl647_5, hi647_5, hl647_6, hi647_6⟩ := at_T32 HR0_1.out x3_1 p647 q647
     cases e647; replace hx647_0 := hcl HB hx647_0; replace hx647_1 := hcl HB hx647_1; replace hx647_2 := hcl HB hx647_2; replace hx647_3 := hcl HB hx647_3; replace hx647_4 := hcl HB hx647_4; replace hx647_5 := hcl HB hx647_5; replace hx647_6 := hcl HB hx647_6; have HR647_4 := zq9 hi647_4; have HC647_4 := zq9 hl647_4; clear hi647_4 hl647_4; have HR647_5 := zq9 hi647_5; have HC647_5 := zq9 hl647_5; clear hi647_5 hl647_5
     have HR647_6 := zq9 hi647_6; have HC647_6 := zq9 hl647_6; clear hi647_6 hl647_6; replace p647 := eq_true p647; replace q647 := eq_true q647
     go_upto_region 5 with (first | ((with_reducible refine zq25 (N := 4) rfl ?_); (try (refine gate_guard (by rfl) ?_; dsimp only)); refine bx 4 #[.string (⟨#[]⟩ : ByteArray), .int .i64 0, .int .i64 0, .string (⟨#[]⟩ : ByteArray), .slice none 0 0, .slice none 0 0, .slice none 0 0] 32 ?_; intro gb648 hg w7 hbox hb; have n0_ := zq9 (zq30 (g := gb645) (o := .cells #[.int .i64 a0_0, .slice (some ad647) l0_1.length c0_1] 46 (0, 0)) (by exact bk BK645) hb); have n1_ := zq9 (zq27 (by exact b1 HB GE645) hb); have n2_ := zq9 (hbox); have n3_ := zq9 ((by rw [hg]; exact (zq29 (by exact b1 HB GE645)) : w.heap.size ≤ gb648)); have n4_ := n3_; have n5_ := zq9 ((by rw [hg]; exact Nat.ne_of_lt (blk_lt (g := gb645) (o := .cells #[.int .i64 a0_0, .slice (some ad647) l0_1.length c0_1] 46 (0, 0)) (by exact bk BK645)) : gb645 ≠ gb648)); have n6_ := zq9 ((by rw [hg]; exact Nat.ne_of_gt (blk_lt (g := gb645) (o := .cells #[.int .i64 a0_0, .slice (some ad647) l0_1.length c0_1] 46 (0, 0)) (by exact bk BK645)) : gb648 ≠ gb645)); clear BK645; clear HB; have BK645 := n0_; have HB := n1_; have BK648 := n2_; have GW648 := n3_; have GE648 := n4_; have NB645_648 := n5_; have NB648_645 := n6_; clear n0_ n1_ n2_ n3_ n4_ n5_ n6_; clear hb hbox hg; have hnb8 := NB648_645.out; have hnc8 := NB645_648.out; have hcz9_0 : w7.cell? ⟨gb648, 0, none⟩ = some (.string (⟨#[]⟩ : ByteArray)) := bc BK648 0; have hcz9_1 : w7.cell? ⟨gb648, 1, none⟩ = some (.int .i64 0) := bc BK648 1; have hcz9_2 : w7.cell? ⟨gb648, 2, none⟩ = some (.int .i64 0) := bc BK648 2; have hcz9_3 : w7.cell? ⟨gb648, 3, none⟩ = some (.string (⟨#[]⟩ : ByteArray)) := bc BK648 3; have hcz9_4 : w7.cell? ⟨gb648, 4, none⟩ = some (.slice none 0 0) := bc BK648 4; have hcz9_5 : w7.cell? ⟨gb648, 5, none⟩ = some (.slice none 0 0) := bc BK648 5; have hcz9_6 : w7.cell? ⟨gb648, 6, none⟩ = some (.slice none 0 0) := bc BK648 6; have hfz9_0 := zq6 BK648.out 0; have hfz9_1 := zq6 BK648.out 1; have hfz9_2 := zq6 BK648.out 2; have hfz9_3 := zq6 BK648.out 3; have hfz9_4 := zq6 BK648.out 4; have hfz9_5 := zq6 BK648.out 5; have hfz9_6 := zq6 BK648.out 6))
     (try simp only [Act.put, zq0, zq1, zq2])
     go_cut [47] (fun v47 wc => ∃ (kq : Nat) (x47_4 : Bool), v47 = .bool x47_4 ∧ Aside0 (spec_BaseOk.j1 kq x3_1 x47_4 a0_0 l0_1 = some r) ∧ Aside0 (kq ≤ k1) ∧ Aside0 (wc.heap[gb645]? = some (.cells #[.int .i64 a0_0, (.slice (some ad647) l0_1.length c0_1)] 46 (0, 0))) ∧ Aside0 (wc.heap[gb648]? = some (.cells #[.string ((rd_T32 l0_1 x3_1).f0), .int .i64 ((rd_T32 l0_1 x3_1).f1), .int .i64 ((rd_T32 l0_1 x3_1).f2), .string ((rd_T32 l0_1 x3_1).f3), (.slice A647_4 ((rd_T32 l0_1 x3_1).f4).length c647_4), (.slice A647_5 ((rd_T32 l0_1 x3_1).f5).length c647_5), (.slice A647_6 ((rd_T32 l0_1 x3_1).f6).length c647_6)] 32 (0, 0))) ∧ Aside0 (Below w.heap.size w wc))
     case first =>
      have H := HC5.out; clear HC5; replace H := Option.bind_eq_some_iff.mp H; obtain ⟨t649, A100, H⟩ := H
      try dsimp only at H
      have A10 := zq9 A100; clear A100
      by_cases c11 : t649 = true
      ·subst c11
       have H1 : (if ((rd_T32 l0_1 x3_1).f1) = 0 then (if x3_1 > 0 then (if 0 ≤ (wrap64 (x3_1 - 1)) then (if (wrap64 (x3_1 - 1)) < (l0_1.length : Int) then (spec_BaseOk.j1 k1 x3_1 (!(Op.bytesLess (((rd_T32 l0_1 (wrap64 (x3_1 - 1))).f0).toList) (((rd_T32 l0_1 x3_1).f0).toList))) a0_0 l0_1) else (none)) else (none)) else (spec_BaseOk.j1 k1 x3_1 false a0_0 l0_1)) else (if ((rd_T32 l0_1 x3_1).f1) ≤ a0_0 then (spec_BaseOk.j1 k1 x3_1 true a0_0 l0_1) else (if x3_1 > 0 then (if 0 ≤ (wrap64 (x3_1 - 1)) then (if (wrap64 (x3_1 - 1)) < (l0_1.length : Int) then (spec_BaseOk.j1 k1 x3_1 (!(Op.bytesLess (((rd_T32 l0_1 (wrap64 (x3_1 - 1))).f0).toList) (((rd_T32 l0_1 x3_1).f0).toList))) a0_0 l0_1) else (none)) else (none)) else (spec_BaseOk.j1 k1 x3_1 false a0_0 l0_1)))) = some r := by rw [if_pos rfl] at H; exact H
       clear H; have H := H1; clear H1
       by_cases c12 : ((rd_T32 l0_1 x3_1).f1) = 0
       ·rw [if_pos c12] at H
        have c12b0 : (((rd_T32 l0_1 x3_1).f1) == 0) = true := beq_iff_eq.mpr c12
        have c12b1 : (((rd_T32 l0_1 x3_1).f1) != 0) = false := bne_eq_false_iff_eq.mpr c12
        clear c12
        (first | rw [c12b0] | (simp only [i64_w, i32_w]; rw [c12b0]) | skip)
        try go_wp2
        have n0_ : Aside0 ((((((((w7.setCell ⟨gb648, 0, none⟩ (.string ((rd_T32 l0_1 x3_1).f0))).setCell ⟨gb648, 1, none⟩ (.int .i64 ((rd_T32 l0_1 x3_1).f1))).setCell ⟨gb648, 2, none⟩ (.int .i64 ((rd_T32 l0_1 x3_1).f2))).setCell ⟨gb648, 3, none⟩ (.string ((rd_T32 l0_1 x3_1).f3))).setCell ⟨gb648, 4, none⟩ (.slice A647_4 ((rd_T32 l0_1 x3_1).f4).length c647_4)).setCell ⟨gb648, 5, none⟩ (.slice A647_5 ((rd_T32 l0_1 x3_1).f5).length c647_5)).setCell ⟨gb648, 6, none⟩ (.slice A647_6 ((rd_T32 l0_1 x3_1).f6).length c647_6)).heap[gb645]? = some (.cells #[.int .i64 a0_0, .slice (some ad647) l0_1.length c0_1] 46 (0, 0))) := ⟨by refine bp ?_; refine blk_far ?_ NB645_648.out _; refine bp ?_; refine blk_far ?_ NB645_648.out _; refine bp ?_; refine blk_far ?_ NB645_648.out _; refine bp ?_; refine blk_far ?_ NB645_648.out _; refine bp ?_; refine blk_far ?_ NB645_648.out _; refine bp ?_; refine blk_far ?_ NB645_648.out _; refine bp ?_; refine blk_far ?_ NB645_648.out _; refine bp ?_; exact BK645.out⟩
        have n1_ : Aside0 ((((((((w7.setCell ⟨gb648, 0, none⟩ (.string ((rd_T32 l0_1 x3_1).f0))).setCell ⟨gb648, 1, none⟩ (.int .i64 ((rd_T32 l0_1 x3_1).f1))).setCell ⟨gb648, 2, none⟩ (.int .i64 ((rd_T32 l0_1 x3_1).f2))).setCell ⟨gb648, 3, none⟩ (.string ((rd_T32 l0_1 x3_1).f3))).setCell ⟨gb648, 4, none⟩ (.slice A647_4 ((rd_T32 l0_1 x3_1).f4).length c647_4)).setCell ⟨gb648, 5, none⟩ (.slice A647_5 ((rd_T32 l0_1 x3_1).f5).length c647_5)).setCell ⟨gb648, 6, none⟩ (.slice A647_6 ((rd_T32 l0_1 x3_1).f6).length c647_6)).heap[gb648]? = some (.cells #[.string ((rd_T32 l0_1 x3_1).f0), .int .i64 ((rd_T32 l0_1 x3_1).f1), .int .i64 ((rd_T32 l0_1 x3_1).f2), .string ((rd_T32 l0_1 x3_1).f3), .slice A647_4 ((rd_T32 l0_1 x3_1).f4).length c647_4, .slice A647_5 ((rd_T32 l0_1 x3_1).f5).length c647_5, .slice A647_6 ((rd_T32 l0_1 x3_1).f6).length c647_6] 32 (0, 0))) := ⟨(blk_set (blk_set (blk_set (blk_set (blk_set (blk_set (blk_set BK648.out 0 _) 1 _) 2 _) 3 _) 4 _) 5 _) 6 _)⟩
        have n2_ : Aside0 (Below w.heap.size w (((((((w7.setCell ⟨gb648, 0, none⟩ (.string ((rd_T32 l0_1 x3_1).f0))).setCell ⟨gb648, 1, none⟩ (.int .i64 ((rd_T32 l0_1 x3_1).f1))).setCell ⟨gb648, 2, none⟩ (.int .i64 ((rd_T32 l0_1 x3_1).f2))).setCell ⟨gb648, 3, none⟩ (.string ((rd_T32 l0_1 x3_1).f3))).setCell ⟨gb648, 4, none⟩ (.slice A647_4 ((rd_T32 l0_1 x3_1).f4).length c647_4)).setCell ⟨gb648, 5, none⟩ (.slice A647_5 ((rd_T32 l0_1 x3_1).f5).length c647_5)).setCell ⟨gb648, 6, none⟩ (.slice A647_6 ((rd_T32 l0_1 x3_1).f6).length c647_6))) := ⟨by exact b2 HB GE645 GE648⟩
        (try clear BK645)
        (try clear BK648)
        (try clear HB)
        generalize (((((((w7.setCell ⟨gb648, 0, none⟩ (.string ((rd_T32 l0_1 x3_1).f0))).setCell ⟨gb648, 1, none⟩ (.int .i64 ((rd_T32 l0_1 x3_1).f1))).setCell ⟨gb648, 2, none⟩ (.int .i64 ((rd_T32 l0_1 x3_1).f2))).setCell ⟨gb648, 3, none⟩ (.string ((rd_T32 l0_1 x3_1).f3))).setCell ⟨gb648, 4, none⟩ (.slice A647_4 ((rd_T32 l0_1 x3_1).f4).length c647_4)).setCell ⟨gb648, 5, none⟩ (.slice A647_5 ((rd_T32 l0_1 x3_1).f5).length c647_5)).setCell ⟨gb648, 6, none⟩ (.slice A647_6 ((rd_T32 l0_1 x3_1).f6).length c647_6)) = w17 at n0_ n1_ n2_ ⊢
        have BK645 := n0_; have BK648 := n1_; have HB := n2_; clear n0_ n1_ n2_
        have n0_ := zq9 (blk_drew BK645.out)
        have n1_ := zq9 (blk_drew BK648.out)
        have n2_ := zq9 (zq4 HB.out)
        clear BK645; clear BK648; clear HB; have BK645 := n0_; have BK648 := n1_; have HB := n2_; clear n0_ n1_ n2_
        by_cases c13 : x3_1 > 0
        ·rw [if_pos c13] at H; have c13b0 : decide (0 < x3_1) = true := decide_eq_true c13; clear c13
         obtain ⟨ji14, hji14⟩ : ∃ j_ : Int, (wrap64 (x3_1 - 1)) = j_ := ⟨_, rfl⟩
         replace H : (if 0 ≤ (ji14) then (if (ji14) < (l0_1.length : Int) then (spec_BaseOk.j1 k1 x3_1 (!(Op.bytesLess (((rd_T32 l0_1 (ji14)).f0).toList) (((rd_T32 l0_1 x3_1).f0).toList))) a0_0 l0_1) else (none)) else (none)) = some r := by first | (rw [hji14] at H; exact H) | (simp only [hji14] at H ⊢; exact H)
         (try rw [hji14] at A10)
         have hji14w : (IntKind.i64.wrap (x3_1 - 1)) = ji14 := (i64_w _).trans hji14
         by_cases c15 : 0 ≤ (ji14)
         ·rw [if_pos c15] at H; have c15b0 : decide (0 ≤ (ji14)) = true := decide_eq_true c15; clear c15
          by_cases c16 : (ji14) < (l0_1.length : Int)
          ·rw [if_pos c16] at H; have c16b0 : decide ((ji14) < (l0_1.length : Int)) = true := decide_eq_true c16; clear c16; have H' := zq9 H; clear H
           have p650 : 0 ≤ ((ji14) : Int) := of_decide_eq_true ‹_›
           have q650 : (ji14) < (l0_1.length : Int) := of_decide_eq_true ‹_›
           obtain ⟨ad650, A650_4, c650_4, A650_5, c650_5, A650_6, c650_6, e650, hx650_0, hx650_1, hx650_2, hx650_3, hx650_4, hx650_5, hx650_6, hl650_4, hi650_4, hl650_5, hi650_5, hl650_6, hi650_6⟩ := at_T32 HR0_1.out (ji14) p650 q650
           have hw650_6 := hx650_6; have hw650_5 := hx650_5; have hw650_4 := hx650_4; have hw650_3 := hx650_3; have hw650_2 := hx650_2; have hw650_1 := hx650_1; have hw650_0 := hx650_0
           obtain rfl : ad647 = ad650 := (by injection e650)
           replace hx650_0 := hcl HB hx650_0; replace hx650_1 := hcl HB hx650_1; replace hx650_2 := hcl HB hx650_2; replace hx650_3 := hcl HB hx650_3; replace hx650_4 := hcl HB hx650_4; replace hx650_5 := hcl HB hx650_5; replace hx650_6 := hcl HB hx650_6; have HR650_4 := zq9 hi650_4; have HC650_4 := zq9 hl650_4; clear hi650_4 hl650_4; have HR650_5 := zq9 hi650_5; have HC650_5 := zq9 hl650_5; clear hi650_5 hl650_5
           have HR650_6 := zq9 hi650_6; have HC650_6 := zq9 hl650_6; clear hi650_6 hl650_6; replace p650 := eq_true p650; replace q650 := eq_true q650
           refine start_ (n := 31) (S := fun w' => w'.cell? ⟨gb648, 0, none⟩ = some (.string ((rd_T32 l0_1 x3_1).f0)) ∧ w'.cell? ⟨gb648, 1, none⟩ = some (.int .i64 ((rd_T32 l0_1 x3_1).f1)) ∧ w'.cell? ⟨gb648, 2, none⟩ = some (.int .i64 ((rd_T32 l0_1 x3_1).f2)) ∧ w'.cell? ⟨gb648, 3, none⟩ = some (.string ((rd_T32 l0_1 x3_1).f3)) ∧ w'.cell? ⟨gb648, 4, none⟩ = some (.slice A647_4 ((rd_T32 l0_1 x3_1).f4).length c647_4) ∧ w'.cell? ⟨gb648, 5, none⟩ = some (.slice A647_5 ((rd_T32 l0_1 x3_1).f5).length c647_5) ∧ w'.cell? ⟨gb648, 6, none⟩ = some (.slice A647_6 ((rd_T32 l0_1 x3_1).f6).length c647_6) ∧ w'.cell? ⟨gb645, 0, none⟩ = some (.int .i64 a0_0) ∧ w'.cell? ⟨gb645, 1, none⟩ = some (.slice (some ad647) l0_1.length c0_1) ∧ w'.cell? (ad647.add (((ji14)).toNat * 7)) = some (.string ((rd_T32 l0_1 (ji14)).f0)) ∧ w'.cell? ⟨(ad647.add (((ji14)).toNat * 7)).block, (ad647.add (((ji14)).toNat * 7)).off + 1, none⟩ = some (.int .i64 ((rd_T32 l0_1 (ji14)).f1)) ∧ w'.cell? ⟨(ad647.add (((ji14)).toNat * 7)).block, (ad647.add (((ji14)).toNat * 7)).off + 2, none⟩ = some (.int .i64 ((rd_T32 l0_1 (ji14)).f2)) ∧ w'.cell? ⟨(ad647.add (((ji14)).toNat * 7)).block, (ad647.add (((ji14)).toNat * 7)).off + 3, none⟩ = some (.string ((rd_T32 l0_1 (ji14)).f3)) ∧ w'.cell? ⟨(ad647.add (((ji14)).toNat * 7)).block, (ad647.add (((ji14)).toNat * 7)).off + 4, none⟩ = some (.slice A650_4 ((rd_T32 l0_1 (ji14)).f4).length c650_4) ∧ w'.cell? ⟨(ad647.add (((ji14)).toNat * 7)).block, (ad647.add (((ji14)).toNat * 7)).off + 5, none⟩ = some (.slice A650_5 ((rd_T32 l0_1 (ji14)).f5).length c650_5) ∧ w'.cell? ⟨(ad647.add (((ji14)).toNat * 7)).block, (ad647.add (((ji14)).toNat * 7)).off + 6, none⟩ = some (.slice A650_6 ((rd_T32 l0_1 (ji14)).f6).length c650_6)) (ds := []) #[false, false, false, false, false, false, false, false, false, false, false, false, false, false, false, false, false, false, false, false, false, false, false, false, false, false, false, false, false, false, false] (by kernel_rfl) rfl rfl ⟨bc BK648 0, bc BK648 1, bc BK648 2, bc BK648 3, bc BK648 4, bc BK648 5, bc BK648 6, bc BK645 0, bc BK645 1, (hcm HB hw650_0), (hcm HB hw650_1), (hcm HB hw650_2), (hcm HB hw650_3), (hcm HB hw650_4), (hcm HB hw650_5), (hcm HB hw650_6)⟩ (fun hHeld => ?_); refine with_tabW spec_BaseOk.tab5 spec_BaseOk.bits5 (fun HT_ HW_ => ?_)
           generalize w17.drew = w18 at BK645 BK648 HB HR650_4 HR650_5 HR650_6 hx650_0 hx650_1 hx650_2 hx650_3 hx650_4 hx650_5 hx650_6 hHeld ⊢
           refine take_ (i := 0) (N := some 17) (v := ?_) (a' := ?_) (zb 31 1) rfl rfl (take_ofW HT_.out HW_.out (by kernel_rfl)) (fun _ _ _ h => h) (Or.inl ⟨by rfl, ?_⟩) hHeld ?_ ?_
           rotate_left; ·rintro w' ⟨s0, s1, s2, s3, s4, s5, s6, s7, s8, s9, s10, s11, s12, s13, s14, s15⟩; go_simp; with_reducible rfl
           rotate_left; ·simp only [Act.put, zq0, zq1, zq2, i64_w, i32_w]; rfl
           refine one_ (i := 1) (N := some 18) (zb 31 3) rfl rfl (one_of HT_.out (by kernel_rfl)) (by decide) (fun K hK => ?_)
           refine gs Try.func11 #[.agg #[.string ((rd_T32 l0_1 x3_1).f0), .int .i64 ((rd_T32 l0_1 x3_1).f1), .int .i64 ((rd_T32 l0_1 x3_1).f2), .string ((rd_T32 l0_1 x3_1).f3), .slice A647_4 ((rd_T32 l0_1 x3_1).f4).length c647_4, .slice A647_5 ((rd_T32 l0_1 x3_1).f5).length c647_5, .slice A647_6 ((rd_T32 l0_1 x3_1).f6).length c647_6]] ?_
           with_reducible refine (spec_EntryOk.calls k1 ((rd_T32 l0_1 x3_1).f0) ((rd_T32 l0_1 x3_1).f1) ((rd_T32 l0_1 x3_1).f2) ((rd_T32 l0_1 x3_1).f3) _ _ ((rd_T32 l0_1 x3_1).f4) _ _ ((rd_T32 l0_1 x3_1).f5) _ _ ((rd_T32 l0_1 x3_1).f6) true _ ?side1 ?side2 ?side3 ?side4 ?side5 ?side6 A10.out).mono ?_
           (case side1 => exact kc HR647_4 HB)
           (case side2 => exact HC647_4.out)
           (case side3 => exact kc HR647_5 HB)
           (case side4 => exact HC647_5.out)
           (case side5 => exact kc HR647_6 HB)
           (case side6 => exact HC647_6.out)
           rintro e w19 ⟨rfl, hb⟩
           refine ⟨_, rfl, ?_⟩
           have n0_ := zq9 (zq30 (g := gb645) (o := .cells #[.int .i64 a0_0, .slice (some ad647) l0_1.length c0_1] 46 (0, 0)) (by exact bk BK645) hb)
           have n1_ := zq9 (zq30 (g := gb648) (o := .cells #[.string ((rd_T32 l0_1 x3_1).f0), .int .i64 ((rd_T32 l0_1 x3_1).f1), .int .i64 ((rd_T32 l0_1 x3_1).f2), .string ((rd_T32 l0_1 x3_1).f3), .slice A647_4 ((rd_T32 l0_1 x3_1).f4).length c647_4, .slice A647_5 ((rd_T32 l0_1 x3_1).f5).length c647_5, .slice A647_6 ((rd_T32 l0_1 x3_1).f6).length c647_6] 32 (0, 0)) (by exact bk BK648) hb)
           have n2_ := zq9 (zq27 (by exact b2 HB GE645 GE648) hb)
           clear BK645; clear BK648; clear HB; have BK645 := n0_; have BK648 := n1_; have HB := n2_; clear n0_ n1_ n2_
           (try clear hb)
           (try clear hb2)
           (try clear hk)
           (try clear hi)
           refine hK.out _ _ ⟨bc BK648 0, bc BK648 1, bc BK648 2, bc BK648 3, bc BK648 4, bc BK648 5, bc BK648 6, bc BK645 0, bc BK645 1, (hcm HB hw650_0), (hcm HB hw650_1), (hcm HB hw650_2), (hcm HB hw650_3), (hcm HB hw650_4), (hcm HB hw650_5), (hcm HB hw650_6)⟩ (fun hHeld => ?_)
           clear hK K
           refine norm_ (a' := ?_) ?_ ?_
           rotate_left; ·show Act.put _ (some 18) _ = _; simp only [Act.put, zq0, zq1, zq2, i64_w, i32_w]; rfl
           refine pa HT_ 2 19 (zb 31 7) ?_; refine pa HT_ 3 20 (zb 31 15) ?_; refine pa HT_ 4 21 (zb 31 31) ?_
           refine take_ (i := 5) (N := some 22) (v := ?_) (a' := ?_) (zb 31 63) rfl rfl (take_ofW HT_.out HW_.out (by kernel_rfl)) (fun _ _ _ h => h) (Or.inl ⟨by rfl, ?_⟩) hHeld ?_ ?_
           rotate_left; ·rintro w' ⟨s0, s1, s2, s3, s4, s5, s6, s7, s8, s9, s10, s11, s12, s13, s14, s15⟩; go_simp; with_reducible rfl
           rotate_left; ·simp only [Act.put, zq0, zq1, zq2, i64_w, i32_w]; rfl
           refine pa HT_ 6 23 (zb 31 127) ?_; refine pa HT_ 7 24 (zb 31 255) ?_; refine pb HT_ 8 25 (zb 31 511) ?_; refine pb HT_ 9 26 (zb 31 1023) ?_; refine pb HT_ 10 27 (zb 31 2047) ?_; refine pb HT_ 11 28 (zb 31 4095) ?_; refine pb HT_ 12 29 (zb 31 8191) ?_; refine pa HT_ 13 30 (zb 31 16383) ?_; refine pa HT_ 14 31 (zb 31 32767) ?_; refine pa HT_ 15 32 (zb 31 65535) ?_; refine pa HT_ 16 33 (zb 31 131071) ?_
           refine pa HT_ 17 34 (zb 31 262143) ?_; refine pa HT_ 18 35 (zb 31 524287) ?_; refine pa HT_ 19 36 (zb 31 1048575) ?_; refine pa HT_ 21 38 (zb 31 3145727) ?_; refine pa HT_ 22 39 (zb 31 7340031) ?_; refine pa HT_ 26 43 (zb 31 74448895) ?_
           refine take_ (i := 20) (N := some 37) (v := ?_) (a' := ?_) (zb 31 75497471) rfl rfl (take_ofW HT_.out HW_.out (by kernel_rfl)) (fun _ _ _ h => h) (Or.inl ⟨by rfl, ?_⟩) hHeld ?_ ?_
           rotate_left; ·rintro w' ⟨s0, s1, s2, s3, s4, s5, s6, s7, s8, s9, s10, s11, s12, s13, s14, s15⟩; go_simp; with_reducible rfl
           rotate_left; ·simp only [Act.put, zq0, zq1, zq2, i64_w, i32_w]; rfl
           refine pa HT_ 23 40 (zb 31 83886079) ?_; refine pa HT_ 24 41 (zb 31 100663295) ?_
           refine take_ (i := 25) (N := some 42) (v := ?_) (a' := ?_) (zb 31 134217727) rfl rfl (take_ofW HT_.out HW_.out (by kernel_rfl)) (fun _ _ _ h => h) (Or.inl ⟨by rfl, ?_⟩) hHeld ?_ ?_
           rotate_left; ·rintro w' ⟨s0, s1, s2, s3, s4, s5, s6, s7, s8, s9, s10, s11, s12, s13, s14, s15⟩; go_simp; with_reducible rfl
           rotate_left; ·simp only [Act.put, zq0, zq1, zq2, i64_w, i32_w]; rfl
           refine take_ (i := 27) (N := some 44) (v := ?_) (a' := ?_) (zb 31 268435455) rfl rfl (take_ofW HT_.out HW_.out (by kernel_rfl)) (fun _ _ _ h => h) (Or.inl ⟨by rfl, ?_⟩) hHeld ?_ ?_
           rotate_left; ·rintro w' ⟨s0, s1, s2, s3, s4, s5, s6, s7, s8, s9, s10, s11, s12, s13, s14, s15⟩; go_simp; with_reducible rfl
           rotate_left; ·simp only [Act.put, zq0, zq1, zq2, i64_w, i32_w]; rfl
           refine pa HT_ 28 45 (zb 31 536870911) ?_; refine pa HT_ 29 46 (zb 31 1073741823) ?_; refine pa HT_ 30 47 (zb 31 2147483647) ?_
           refine done_ (done_of HT_.out (by kernel_rfl)) ?_
           try go_wp2
           go_meet
           case rel => exact ⟨_, (!(Op.bytesLess (((rd_T32 l0_1 (ji14)).f0).toList) (((rd_T32 l0_1 x3_1).f0).toList))), (by first | rfl | (simp; done) | (simp only [← hji14] <;> (first | rfl | simp)) | (simp [*]; done)), H', ⟨by have := HK1.out; first | omega | exact Nat.le_refl _⟩, ⟨by refine bp ?_; exact BK645.out⟩, ⟨by refine bp ?_; exact BK648.out⟩, ⟨by exact b2 HB GE645 GE648⟩⟩
          ·rw [if_neg c16] at H
           exact absurd H (by simp)
         ·rw [if_neg c15] at H
          exact absurd H (by simp)
        ·rw [if_neg c13] at H; have c13b0 : decide (0 < x3_1) = false := decide_eq_false c13; clear c13; have H' := zq9 H; clear H
         refine start_ (n := 31) (S := fun w' => w'.cell? ⟨gb648, 0, none⟩ = some (.string ((rd_T32 l0_1 x3_1).f0)) ∧ w'.cell? ⟨gb648, 1, none⟩ = some (.int .i64 ((rd_T32 l0_1 x3_1).f1)) ∧ w'.cell? ⟨gb648, 2, none⟩ = some (.int .i64 ((rd_T32 l0_1 x3_1).f2)) ∧ w'.cell? ⟨gb648, 3, none⟩ = some (.string ((rd_T32 l0_1 x3_1).f3)) ∧ w'.cell? ⟨gb648, 4, none⟩ = some (.slice A647_4 ((rd_T32 l0_1 x3_1).f4).length c647_4) ∧ w'.cell? ⟨gb648, 5, none⟩ = some (.slice A647_5 ((rd_T32 l0_1 x3_1).f5).length c647_5) ∧ w'.cell? ⟨gb648, 6, none⟩ = some (.slice A647_6 ((rd_T32 l0_1 x3_1).f6).length c647_6)) (ds := []) #[false, false, false, false, false, false, false, false, false, false, false, false, false, false, false, false, false, false, false, false, false, false, false, false, false, false, false, false, false, false, false] (by kernel_rfl) rfl rfl ⟨bc BK648 0, bc BK648 1, bc BK648 2, bc BK648 3, bc BK648 4, bc BK648 5, bc BK648 6⟩ (fun hHeld => ?_); refine with_tabW spec_BaseOk.tab5 spec_BaseOk.bits5 (fun HT_ HW_ => ?_)
         generalize w17.drew = w21 at BK645 BK648 HB hHeld ⊢
         refine take_ (i := 0) (N := some 17) (v := ?_) (a' := ?_) (zb 31 1) rfl rfl (take_ofW HT_.out HW_.out (by kernel_rfl)) (fun _ _ _ h => h) (Or.inl ⟨by rfl, ?_⟩) hHeld ?_ ?_
         rotate_left; ·rintro w' ⟨s0, s1, s2, s3, s4, s5, s6⟩; go_simp; with_reducible rfl
         rotate_left; ·simp only [Act.put, zq0, zq1, zq2, i64_w, i32_w]; rfl
         refine one_ (i := 1) (N := some 18) (zb 31 3) rfl rfl (one_of HT_.out (by kernel_rfl)) (by decide) (fun K hK => ?_)
         refine gs Try.func11 #[.agg #[.string ((rd_T32 l0_1 x3_1).f0), .int .i64 ((rd_T32 l0_1 x3_1).f1), .int .i64 ((rd_T32 l0_1 x3_1).f2), .string ((rd_T32 l0_1 x3_1).f3), .slice A647_4 ((rd_T32 l0_1 x3_1).f4).length c647_4, .slice A647_5 ((rd_T32 l0_1 x3_1).f5).length c647_5, .slice A647_6 ((rd_T32 l0_1 x3_1).f6).length c647_6]] ?_
         with_reducible refine (spec_EntryOk.calls k1 ((rd_T32 l0_1 x3_1).f0) ((rd_T32 l0_1 x3_1).f1) ((rd_T32 l0_1 x3_1).f2) ((rd_T32 l0_1 x3_1).f3) _ _ ((rd_T32 l0_1 x3_1).f4) _ _ ((rd_T32 l0_1 x3_1).f5) _ _ ((rd_T32 l0_1 x3_1).f6) true _ ?side1 ?side2 ?side3 ?side4 ?side5 ?side6 A10.out).mono ?_
         (case side1 => exact kc HR647_4 HB)
         (case side2 => exact HC647_4.out)
         (case side3 => exact kc HR647_5 HB)
         (case side4 => exact HC647_5.out)
         (case side5 => exact kc HR647_6 HB)
         (case side6 => exact HC647_6.out)
         rintro e w22 ⟨rfl, hb⟩
         refine ⟨_, rfl, ?_⟩
         have n0_ := zq9 (zq30 (g := gb645) (o := .cells #[.int .i64 a0_0, .slice (some ad647) l0_1.length c0_1] 46 (0, 0)) (by exact bk BK645) hb)
         have n1_ := zq9 (zq30 (g := gb648) (o := .cells #[.string ((rd_T32 l0_1 x3_1).f0), .int .i64 ((rd_T32 l0_1 x3_1).f1), .int .i64 ((rd_T32 l0_1 x3_1).f2), .string ((rd_T32 l0_1 x3_1).f3), .slice A647_4 ((rd_T32 l0_1 x3_1).f4).length c647_4, .slice A647_5 ((rd_T32 l0_1 x3_1).f5).length c647_5, .slice A647_6 ((rd_T32 l0_1 x3_1).f6).length c647_6] 32 (0, 0)) (by exact bk BK648) hb)
         have n2_ := zq9 (zq27 (by exact b2 HB GE645 GE648) hb)
         clear BK645; clear BK648; clear HB; have BK645 := n0_; have BK648 := n1_; have HB := n2_; clear n0_ n1_ n2_
         (try clear hb)
         (try clear hb2)
         (try clear hk)
         (try clear hi)
         refine hK.out _ _ ⟨bc BK648 0, bc BK648 1, bc BK648 2, bc BK648 3, bc BK648 4, bc BK648 5, bc BK648 6⟩ (fun hHeld => ?_)
         clear hK K
         refine norm_ (a' := ?_) ?_ ?_
         rotate_left; ·show Act.put _ (some 18) _ = _; simp only [Act.put, zq0, zq1, zq2, i64_w, i32_w]; rfl
         refine pa HT_ 2 19 (zb 31 7) ?_; refine pa HT_ 3 20 (zb 31 15) ?_; refine pa HT_ 4 21 (zb 31 31) ?_
         refine take_ (i := 5) (N := some 22) (v := ?_) (a' := ?_) (zb 31 63) rfl rfl (take_ofW HT_.out HW_.out (by kernel_rfl)) (fun _ _ _ h => h) (Or.inl ⟨by rfl, ?_⟩) hHeld ?_ ?_
         rotate_left; ·rintro w' ⟨s0, s1, s2, s3, s4, s5, s6⟩; go_simp; with_reducible rfl
         rotate_left; ·simp only [Act.put, zq0, zq1, zq2, i64_w, i32_w]; rfl
         refine pa HT_ 6 23 (zb 31 127) ?_; refine pa HT_ 7 24 (zb 31 255) ?_; refine pb HT_ 8 25 (zb 31 511) ?_; refine pb HT_ 9 26 (zb 31 1023) ?_; refine pb HT_ 10 27 (zb 31 2047) ?_; refine pb HT_ 11 28 (zb 31 4095) ?_; refine pb HT_ 12 29 (zb 31 8191) ?_; refine pa HT_ 13 30 (zb 31 16383) ?_; refine pa HT_ 14 31 (zb 31 32767) ?_; refine pa HT_ 15 32 (zb 31 65535) ?_; refine pa HT_ 16 33 (zb 31 131071) ?_
         refine pa HT_ 17 34 (zb 31 262143) ?_; refine pa HT_ 18 35 (zb 31 524287) ?_; refine pb HT_ 19 36 (zb 31 1048575) ?_; refine pb HT_ 20 37 (zb 31 2097151) ?_; refine pb HT_ 21 38 (zb 31 4194303) ?_; refine pb HT_ 22 39 (zb 31 8388607) ?_; refine pb HT_ 23 40 (zb 31 16777215) ?_; refine pb HT_ 24 41 (zb 31 33554431) ?_; refine pb HT_ 25 42 (zb 31 67108863) ?_; refine pb HT_ 26 43 (zb 31 134217727) ?_
         refine pb HT_ 27 44 (zb 31 268435455) ?_; refine pb HT_ 28 45 (zb 31 536870911) ?_; refine pa HT_ 29 46 (zb 31 1073741823) ?_; refine pa HT_ 30 47 (zb 31 2147483647) ?_
         refine done_ (done_of HT_.out (by kernel_rfl)) ?_
         try go_wp2
         go_meet
         case rel => exact ⟨_, (false), (by first | rfl | (simp; done) | (simp [*]; done)), H', ⟨by have := HK1.out; first | omega | exact Nat.le_refl _⟩, ⟨by refine bp ?_; exact BK645.out⟩, ⟨by refine bp ?_; exact BK648.out⟩, ⟨by exact b2 HB GE645 GE648⟩⟩
       ·rw [if_neg c12] at H
        have c12b0 : (((rd_T32 l0_1 x3_1).f1) == 0) = false := beq_eq_false_iff_ne.mpr c12
        have c12b1 : (((rd_T32 l0_1 x3_1).f1) != 0) = true := bne_iff_ne.mpr c12
        (first | rw [c12b0] | (simp only [i64_w, i32_w]; rw [c12b0]) | skip)
        try go_wp2
        have n0_ : Aside0 ((((((((w7.setCell ⟨gb648, 0, none⟩ (.string ((rd_T32 l0_1 x3_1).f0))).setCell ⟨gb648, 1, none⟩ (.int .i64 ((rd_T32 l0_1 x3_1).f1))).setCell ⟨gb648, 2, none⟩ (.int .i64 ((rd_T32 l0_1 x3_1).f2))).setCell ⟨gb648, 3, none⟩ (.string ((rd_T32 l0_1 x3_1).f3))).setCell ⟨gb648, 4, none⟩ (.slice A647_4 ((rd_T32 l0_1 x3_1).f4).length c647_4)).setCell ⟨gb648, 5, none⟩ (.slice A647_5 ((rd_T32 l0_1 x3_1).f5).length c647_5)).setCell ⟨gb648, 6, none⟩ (.slice A647_6 ((rd_T32 l0_1 x3_1).f6).length c647_6)).heap[gb645]? = some (.cells #[.int .i64 a0_0, .slice (some ad647) l0_1.length c0_1] 46 (0, 0))) := ⟨by refine bp ?_; refine blk_far ?_ NB645_648.out _; refine bp ?_; refine blk_far ?_ NB645_648.out _; refine bp ?_; refine blk_far ?_ NB645_648.out _; refine bp ?_; refine blk_far ?_ NB645_648.out _; refine bp ?_; refine blk_far ?_ NB645_648.out _; refine bp ?_; refine blk_far ?_ NB645_648.out _; refine bp ?_; refine blk_far ?_ NB645_648.out _; refine bp ?_; exact BK645.out⟩
        have n1_ : Aside0 ((((((((w7.setCell ⟨gb648, 0, none⟩ (.string ((rd_T32 l0_1 x3_1).f0))).setCell ⟨gb648, 1, none⟩ (.int .i64 ((rd_T32 l0_1 x3_1).f1))).setCell ⟨gb648, 2, none⟩ (.int .i64 ((rd_T32 l0_1 x3_1).f2))).setCell ⟨gb648, 3, none⟩ (.string ((rd_T32 l0_1 x3_1).f3))).setCell ⟨gb648, 4, none⟩ (.slice A647_4 ((rd_T32 l0_1 x3_1).f4).length c647_4)).setCell ⟨gb648, 5, none⟩ (.slice A647_5 ((rd_T32 l0_1 x3_1).f5).length c647_5)).setCell ⟨gb648, 6, none⟩ (.slice A647_6 ((rd_T32 l0_1 x3_1).f6).length c647_6)).heap[gb648]? = some (.cells #[.string ((rd_T32 l0_1 x3_1).f0), .int .i64 ((rd_T32 l0_1 x3_1).f1), .int .i64 ((rd_T32 l0_1 x3_1).f2), .string ((rd_T32 l0_1 x3_1).f3), .slice A647_4 ((rd_T32 l0_1 x3_1).f4).length c647_4, .slice A647_5 ((rd_T32 l0_1 x3_1).f5).length c647_5, .slice A647_6 ((rd_T32 l0_1 x3_1).f6).length c647_6] 32 (0, 0))) := ⟨(blk_set (blk_set (blk_set (blk_set (blk_set (blk_set (blk_set BK648.out 0 _) 1 _) 2 _) 3 _) 4 _) 5 _) 6 _)⟩
        have n2_ : Aside0 (Below w.heap.size w (((((((w7.setCell ⟨gb648, 0, none⟩ (.string ((rd_T32 l0_1 x3_1).f0))).setCell ⟨gb648, 1, none⟩ (.int .i64 ((rd_T32 l0_1 x3_1).f1))).setCell ⟨gb648, 2, none⟩ (.int .i64 ((rd_T32 l0_1 x3_1).f2))).setCell ⟨gb648, 3, none⟩ (.string ((rd_T32 l0_1 x3_1).f3))).setCell ⟨gb648, 4, none⟩ (.slice A647_4 ((rd_T32 l0_1 x3_1).f4).length c647_4)).setCell ⟨gb648, 5, none⟩ (.slice A647_5 ((rd_T32 l0_1 x3_1).f5).length c647_5)).setCell ⟨gb648, 6, none⟩ (.slice A647_6 ((rd_T32 l0_1 x3_1).f6).length c647_6))) := ⟨by exact b2 HB GE645 GE648⟩
        (try clear BK645)
        (try clear BK648)
        (try clear HB)
        generalize (((((((w7.setCell ⟨gb648, 0, none⟩ (.string ((rd_T32 l0_1 x3_1).f0))).setCell ⟨gb648, 1, none⟩ (.int .i64 ((rd_T32 l0_1 x3_1).f1))).setCell ⟨gb648, 2, none⟩ (.int .i64 ((rd_T32 l0_1 x3_1).f2))).setCell ⟨gb648, 3, none⟩ (.string ((rd_T32 l0_1 x3_1).f3))).setCell ⟨gb648, 4, none⟩ (.slice A647_4 ((rd_T32 l0_1 x3_1).f4).length c647_4)).setCell ⟨gb648, 5, none⟩ (.slice A647_5 ((rd_T32 l0_1 x3_1).f5).length c647_5)).setCell ⟨gb648, 6, none⟩ (.slice A647_6 ((rd_T32 l0_1 x3_1).f6).length c647_6)) = w24 at n0_ n1_ n2_ ⊢
        have BK645 := n0_; have BK648 := n1_; have HB := n2_; clear n0_ n1_ n2_
        have n0_ := zq9 (blk_drew BK645.out)
        have n1_ := zq9 (blk_drew BK648.out)
        have n2_ := zq9 (zq4 HB.out)
        clear BK645; clear BK648; clear HB; have BK645 := n0_; have BK648 := n1_; have HB := n2_; clear n0_ n1_ n2_
        by_cases c23 : ((rd_T32 l0_1 x3_1).f1) ≤ a0_0
        ·rw [if_pos c23] at H; have c23b0 : decide (((rd_T32 l0_1 x3_1).f1) ≤ a0_0) = true := decide_eq_true c23; clear c23; have H' := zq9 H; clear H
         refine start_ (n := 31) (S := fun w' => w'.cell? ⟨gb648, 0, none⟩ = some (.string ((rd_T32 l0_1 x3_1).f0)) ∧ w'.cell? ⟨gb648, 1, none⟩ = some (.int .i64 ((rd_T32 l0_1 x3_1).f1)) ∧ w'.cell? ⟨gb648, 2, none⟩ = some (.int .i64 ((rd_T32 l0_1 x3_1).f2)) ∧ w'.cell? ⟨gb648, 3, none⟩ = some (.string ((rd_T32 l0_1 x3_1).f3)) ∧ w'.cell? ⟨gb648, 4, none⟩ = some (.slice A647_4 ((rd_T32 l0_1 x3_1).f4).length c647_4) ∧ w'.cell? ⟨gb648, 5, none⟩ = some (.slice A647_5 ((rd_T32 l0_1 x3_1).f5).length c647_5) ∧ w'.cell? ⟨gb648, 6, none⟩ = some (.slice A647_6 ((rd_T32 l0_1 x3_1).f6).length c647_6) ∧ w'.cell? ⟨gb645, 0, none⟩ = some (.int .i64 a0_0) ∧ w'.cell? ⟨gb645, 1, none⟩ = some (.slice (some ad647) l0_1.length c0_1)) (ds := []) #[false, false, false, false, false, false, false, false, false, false, false, false, false, false, false, false, false, false, false, false, false, false, false, false, false, false, false, false, false, false, false] (by kernel_rfl) rfl rfl ⟨bc BK648 0, bc BK648 1, bc BK648 2, bc BK648 3, bc BK648 4, bc BK648 5, bc BK648 6, bc BK645 0, bc BK645 1⟩ (fun hHeld => ?_); refine with_tabW spec_BaseOk.tab5 spec_BaseOk.bits5 (fun HT_ HW_ => ?_)
         generalize w24.drew = w25 at BK645 BK648 HB hHeld ⊢
         refine take_ (i := 0) (N := some 17) (v := ?_) (a' := ?_) (zb 31 1) rfl rfl (take_ofW HT_.out HW_.out (by kernel_rfl)) (fun _ _ _ h => h) (Or.inl ⟨by rfl, ?_⟩) hHeld ?_ ?_
         rotate_left; ·rintro w' ⟨s0, s1, s2, s3, s4, s5, s6, s7, s8⟩; go_simp; with_reducible rfl
         rotate_left; ·simp only [Act.put, zq0, zq1, zq2, i64_w, i32_w]; rfl
         refine one_ (i := 1) (N := some 18) (zb 31 3) rfl rfl (one_of HT_.out (by kernel_rfl)) (by decide) (fun K hK => ?_)
         refine gs Try.func11 #[.agg #[.string ((rd_T32 l0_1 x3_1).f0), .int .i64 ((rd_T32 l0_1 x3_1).f1), .int .i64 ((rd_T32 l0_1 x3_1).f2), .string ((rd_T32 l0_1 x3_1).f3), .slice A647_4 ((rd_T32 l0_1 x3_1).f4).length c647_4, .slice A647_5 ((rd_T32 l0_1 x3_1).f5).length c647_5, .slice A647_6 ((rd_T32 l0_1 x3_1).f6).length c647_6]] ?_
         with_reducible refine (spec_EntryOk.calls k1 ((rd_T32 l0_1 x3_1).f0) ((rd_T32 l0_1 x3_1).f1) ((rd_T32 l0_1 x3_1).f2) ((rd_T32 l0_1 x3_1).f3) _ _ ((rd_T32 l0_1 x3_1).f4) _ _ ((rd_T32 l0_1 x3_1).f5) _ _ ((rd_T32 l0_1 x3_1).f6) true _ ?side1 ?side2 ?side3 ?side4 ?side5 ?side6 A10.out).mono ?_
         (case side1 => exact kc HR647_4 HB)
         (case side2 => exact HC647_4.out)
         (case side3 => exact kc HR647_5 HB)
         (case side4 => exact HC647_5.out)
         (case side5 => exact kc HR647_6 HB)
         (case side6 => exact HC647_6.out)
         rintro e w26 ⟨rfl, hb⟩
         refine ⟨_, rfl, ?_⟩
         have n0_ := zq9 (zq30 (g := gb645) (o := .cells #[.int .i64 a0_0, .slice (some ad647) l0_1.length c0_1] 46 (0, 0)) (by exact bk BK645) hb)
         have n1_ := zq9 (zq30 (g := gb648) (o := .cells #[.string ((rd_T32 l0_1 x3_1).f0), .int .i64 ((rd_T32 l0_1 x3_1).f1), .int .i64 ((rd_T32 l0_1 x3_1).f2), .string ((rd_T32 l0_1 x3_1).f3), .slice A647_4 ((rd_T32 l0_1 x3_1).f4).length c647_4, .slice A647_5 ((rd_T32 l0_1 x3_1).f5).length c647_5, .slice A647_6 ((rd_T32 l0_1 x3_1).f6).length c647_6] 32 (0, 0)) (by exact bk BK648) hb)
         have n2_ := zq9 (zq27 (by exact b2 HB GE645 GE648) hb)
         clear BK645; clear BK648; clear HB; have BK645 := n0_; have BK648 := n1_; have HB := n2_; clear n0_ n1_ n2_
         (try clear hb)
         (try clear hb2)
         (try clear hk)
         (try clear hi)
         refine hK.out _ _ ⟨bc BK648 0, bc BK648 1, bc BK648 2, bc BK648 3, bc BK648 4, bc BK648 5, bc BK648 6, bc BK645 0, bc BK645 1⟩ (fun hHeld => ?_)
         clear hK K
         refine norm_ (a' := ?_) ?_ ?_
         rotate_left; ·show Act.put _ (some 18) _ = _; simp only [Act.put, zq0, zq1, zq2, i64_w, i32_w]; rfl
         refine pa HT_ 2 19 (zb 31 7) ?_; refine pa HT_ 3 20 (zb 31 15) ?_; refine pa HT_ 4 21 (zb 31 31) ?_
         refine take_ (i := 5) (N := some 22) (v := ?_) (a' := ?_) (zb 31 63) rfl rfl (take_ofW HT_.out HW_.out (by kernel_rfl)) (fun _ _ _ h => h) (Or.inl ⟨by rfl, ?_⟩) hHeld ?_ ?_
         rotate_left; ·rintro w' ⟨s0, s1, s2, s3, s4, s5, s6, s7, s8⟩; go_simp; with_reducible rfl
         rotate_left; ·simp only [Act.put, zq0, zq1, zq2, i64_w, i32_w]; rfl
         refine pa HT_ 6 23 (zb 31 127) ?_; refine pa HT_ 7 24 (zb 31 255) ?_; refine pa HT_ 8 25 (zb 31 511) ?_; refine pa HT_ 10 27 (zb 31 1535) ?_
         refine take_ (i := 9) (N := some 26) (v := ?_) (a' := ?_) (zb 31 2047) rfl rfl (take_ofW HT_.out HW_.out (by kernel_rfl)) (fun _ _ _ h => h) (Or.inl ⟨by rfl, ?_⟩) hHeld ?_ ?_
         rotate_left; ·rintro w' ⟨s0, s1, s2, s3, s4, s5, s6, s7, s8⟩; go_simp; with_reducible rfl
         rotate_left; ·simp only [Act.put, zq0, zq1, zq2, i64_w, i32_w]; rfl
         refine take_ (i := 11) (N := some 28) (v := ?_) (a' := ?_) (zb 31 4095) rfl rfl (take_ofW HT_.out HW_.out (by kernel_rfl)) (fun _ _ _ h => h) (Or.inl ⟨by rfl, ?_⟩) hHeld ?_ ?_
         rotate_left; ·rintro w' ⟨s0, s1, s2, s3, s4, s5, s6, s7, s8⟩; go_simp; with_reducible rfl
         rotate_left; ·simp only [Act.put, zq0, zq1, zq2, i64_w, i32_w]; rfl
         refine pa HT_ 12 29 (zb 31 8191) ?_; refine pa HT_ 13 30 (zb 31 16383) ?_; refine pa HT_ 14 31 (zb 31 32767) ?_; refine pa HT_ 15 32 (zb 31 65535) ?_; refine pb HT_ 16 33 (zb 31 131071) ?_; refine pb HT_ 17 34 (zb 31 262143) ?_; refine pb HT_ 18 35 (zb 31 524287) ?_; refine pb HT_ 19 36 (zb 31 1048575) ?_; refine pb HT_ 20 37 (zb 31 2097151) ?_; refine pb HT_ 21 38 (zb 31 4194303) ?_; refine pb HT_ 22 39 (zb 31 8388607) ?_
         refine pb HT_ 23 40 (zb 31 16777215) ?_; refine pb HT_ 24 41 (zb 31 33554431) ?_; refine pb HT_ 25 42 (zb 31 67108863) ?_; refine pb HT_ 26 43 (zb 31 134217727) ?_; refine pb HT_ 27 44 (zb 31 268435455) ?_; refine pb HT_ 28 45 (zb 31 536870911) ?_; refine pb HT_ 29 46 (zb 31 1073741823) ?_; refine pa HT_ 30 47 (zb 31 2147483647) ?_
         refine done_ (done_of HT_.out (by kernel_rfl)) ?_
         try go_wp2
         go_meet
         case rel => exact ⟨_, (true), (by first | rfl | (simp; done) | (simp [*]; done)), H', ⟨by have := HK1.out; first | omega | exact Nat.le_refl _⟩, ⟨by refine bp ?_; exact BK645.out⟩, ⟨by refine bp ?_; exact BK648.out⟩, ⟨by exact b2 HB GE645 GE648⟩⟩
        ·rw [if_neg c23] at H; have c23b0 : decide (((rd_T32 l0_1 x3_1).f1) ≤ a0_0) = false := decide_eq_false c23; clear c23
         by_cases c27 : x3_1 > 0
         ·rw [if_pos c27] at H; have c27b0 : decide (0 < x3_1) = true := decide_eq_true c27; clear c27
          obtain ⟨ji28, hji28⟩ : ∃ j_ : Int, (wrap64 (x3_1 - 1)) = j_ := ⟨_, rfl⟩
          replace H : (if 0 ≤ (ji28) then (if (ji28) < (l0_1.length : Int) then (spec_BaseOk.j1 k1 x3_1 (!(Op.bytesLess (((rd_T32 l0_1 (ji28)).f0).toList) (((rd_T32 l0_1 x3_1).f0).toList))) a0_0 l0_1) else (none)) else (none)) = some r := by first | (rw [hji28] at H; exact H) | (simp only [hji28] at H ⊢; exact H)
          (try rw [hji28] at A10)
          have hji28w : (IntKind.i64.wrap (x3_1 - 1)) = ji28 := (i64_w _).trans hji28
          by_cases c29 : 0 ≤ (ji28)
          ·rw [if_pos c29] at H; have c29b0 : decide (0 ≤ (ji28)) = true := decide_eq_true c29; clear c29
           by_cases c30 : (ji28) < (l0_1.length : Int)
           ·rw [if_pos c30] at H; have c30b0 : decide ((ji28) < (l0_1.length : Int)) = true := decide_eq_true c30; clear c30; have H' := zq9 H; clear H
            have p651 : 0 ≤ ((ji28) : Int) := of_decide_eq_true ‹_›
            have q651 : (ji28) < (l0_1.length : Int) := of_decide_eq_true ‹_›
            obtain ⟨ad651, A651_4, c651_4, A651_5, c651_5, A651_6, c651_6, e651, hx651_0, hx651_1, hx651_2, hx651_3, hx651_4, hx651_5, hx651_6, hl651_4, hi651_4, hl651_5, hi651_5, hl651_6, hi651_6⟩ := at_T32 HR0_1.out (ji28) p651 q651
            have hw651_6 := hx651_6; have hw651_5 := hx651_5; have hw651_4 := hx651_4; have hw651_3 := hx651_3; have hw651_2 := hx651_2; have hw651_1 := hx651_1; have hw651_0 := hx651_0
            obtain rfl : ad647 = ad651 := (by injection e651)
            replace hx651_0 := hcl HB hx651_0; replace hx651_1 := hcl HB hx651_1; replace hx651_2 := hcl HB hx651_2; replace hx651_3 := hcl HB hx651_3; replace hx651_4 := hcl HB hx651_4; replace hx651_5 := hcl HB hx651_5; replace hx651_6 := hcl HB hx651_6; have HR651_4 := zq9 hi651_4; have HC651_4 := zq9 hl651_4; clear hi651_4 hl651_4; have HR651_5 := zq9 hi651_5; have HC651_5 := zq9 hl651_5; clear hi651_5 hl651_5
            have HR651_6 := zq9 hi651_6; have HC651_6 := zq9 hl651_6; clear hi651_6 hl651_6; replace p651 := eq_true p651; replace q651 := eq_true q651
            refine start_ (n := 31) (S := fun w' => w'.cell? ⟨gb648, 0, none⟩ = some (.string ((rd_T32 l0_1 x3_1).f0)) ∧ w'.cell? ⟨gb648, 1, none⟩ = some (.int .i64 ((rd_T32 l0_1 x3_1).f1)) ∧ w'.cell? ⟨gb648, 2, none⟩ = some (.int .i64 ((rd_T32 l0_1 x3_1).f2)) ∧ w'.cell? ⟨gb648, 3, none⟩ = some (.string ((rd_T32 l0_1 x3_1).f3)) ∧ w'.cell? ⟨gb648, 4, none⟩ = some (.slice A647_4 ((rd_T32 l0_1 x3_1).f4).length c647_4) ∧ w'.cell? ⟨gb648, 5, none⟩ = some (.slice A647_5 ((rd_T32 l0_1 x3_1).f5).length c647_5) ∧ w'.cell? ⟨gb648, 6, none⟩ = some (.slice A647_6 ((rd_T32 l0_1 x3_1).f6).length c647_6) ∧ w'.cell? ⟨gb645, 0, none⟩ = some (.int .i64 a0_0) ∧ w'.cell? ⟨gb645, 1, none⟩ = some (.slice (some ad647) l0_1.length c0_1) ∧ w'.cell? (ad647.add (((ji28)).toNat * 7)) = some (.string ((rd_T32 l0_1 (ji28)).f0)) ∧ w'.cell? ⟨(ad647.add (((ji28)).toNat * 7)).block, (ad647.add (((ji28)).toNat * 7)).off + 1, none⟩ = some (.int .i64 ((rd_T32 l0_1 (ji28)).f1)) ∧ w'.cell? ⟨(ad647.add (((ji28)).toNat * 7)).block, (ad647.add (((ji28)).toNat * 7)).off + 2, none⟩ = some (.int .i64 ((rd_T32 l0_1 (ji28)).f2)) ∧ w'.cell? ⟨(ad647.add (((ji28)).toNat * 7)).block, (ad647.add (((ji28)).toNat * 7)).off + 3, none⟩ = some (.string ((rd_T32 l0_1 (ji28)).f3)) ∧ w'.cell? ⟨(ad647.add (((ji28)).toNat * 7)).block, (ad647.add (((ji28)).toNat * 7)).off + 4, none⟩ = some (.slice A651_4 ((rd_T32 l0_1 (ji28)).f4).length c651_4) ∧ w'.cell? ⟨(ad647.add (((ji28)).toNat * 7)).block, (ad647.add (((ji28)).toNat * 7)).off + 5, none⟩ = some (.slice A651_5 ((rd_T32 l0_1 (ji28)).f5).length c651_5) ∧ w'.cell? ⟨(ad647.add (((ji28)).toNat * 7)).block, (ad647.add (((ji28)).toNat * 7)).off + 6, none⟩ = some (.slice A651_6 ((rd_T32 l0_1 (ji28)).f6).length c651_6)) (ds := []) #[false, false, false, false, false, false, false, false, false, false, false, false, false, false, false, false, false, false, false, false, false, false, false, false, false, false, false, false, false, false, false] (by kernel_rfl) rfl rfl ⟨bc BK648 0, bc BK648 1, bc BK648 2, bc BK648 3, bc BK648 4, bc BK648 5, bc BK648 6, bc BK645 0, bc BK645 1, (hcm HB hw651_0), (hcm HB hw651_1), (hcm HB hw651_2), (hcm HB hw651_3), (hcm HB hw651_4), (hcm HB hw651_5), (hcm HB hw651_6)⟩ (fun hHeld => ?_); refine with_tabW spec_BaseOk.tab5 spec_BaseOk.bits5 (fun HT_ HW_ => ?_)
            generalize w24.drew = w32 at BK645 BK648 HB HR651_4 HR651_5 HR651_6 hx651_0 hx651_1 hx651_2 hx651_3 hx651_4 hx651_5 hx651_6 hHeld ⊢
            refine take_ (i := 0) (N := some 17) (v := ?_) (a' := ?_) (zb 31 1) rfl rfl (take_ofW HT_.out HW_.out (by kernel_rfl)) (fun _ _ _ h => h) (Or.inl ⟨by rfl, ?_⟩) hHeld ?_ ?_
            rotate_left; ·rintro w' ⟨s0, s1, s2, s3, s4, s5, s6, s7, s8, s9, s10, s11, s12, s13, s14, s15⟩; go_simp; with_reducible rfl
            rotate_left; ·simp only [Act.put, zq0, zq1, zq2, i64_w, i32_w]; rfl
            refine one_ (i := 1) (N := some 18) (zb 31 3) rfl rfl (one_of HT_.out (by kernel_rfl)) (by decide) (fun K hK => ?_)
            refine gs Try.func11 #[.agg #[.string ((rd_T32 l0_1 x3_1).f0), .int .i64 ((rd_T32 l0_1 x3_1).f1), .int .i64 ((rd_T32 l0_1 x3_1).f2), .string ((rd_T32 l0_1 x3_1).f3), .slice A647_4 ((rd_T32 l0_1 x3_1).f4).length c647_4, .slice A647_5 ((rd_T32 l0_1 x3_1).f5).length c647_5, .slice A647_6 ((rd_T32 l0_1 x3_1).f6).length c647_6]] ?_
            with_reducible refine (spec_EntryOk.calls k1 ((rd_T32 l0_1 x3_1).f0) ((rd_T32 l0_1 x3_1).f1) ((rd_T32 l0_1 x3_1).f2) ((rd_T32 l0_1 x3_1).f3) _ _ ((rd_T32 l0_1 x3_1).f4) _ _ ((rd_T32 l0_1 x3_1).f5) _ _ ((rd_T32 l0_1 x3_1).f6) true _ ?side1 ?side2 ?side3 ?side4 ?side5 ?side6 A10.out).mono ?_
            (case side1 => exact kc HR647_4 HB)
            (case side2 => exact HC647_4.out)
            (case side3 => exact kc HR647_5 HB)
            (case side4 => exact HC647_5.out)
            (case side5 => exact kc HR647_6 HB)
            (case side6 => exact HC647_6.out)
            rintro e w33 ⟨rfl, hb⟩
            refine ⟨_, rfl, ?_⟩
            have n0_ := zq9 (zq30 (g := gb645) (o := .cells #[.int .i64 a0_0, .slice (some ad647) l0_1.length c0_1] 46 (0, 0)) (by exact bk BK645) hb)
            have n1_ := zq9 (zq30 (g := gb648) (o := .cells #[.string ((rd_T32 l0_1 x3_1).f0), .int .i64 ((rd_T32 l0_1 x3_1).f1), .int .i64 ((rd_T32 l0_1 x3_1).f2), .string ((rd_T32 l0_1 x3_1).f3), .slice A647_4 ((rd_T32 l0_1 x3_1).f4).length c647_4, .slice A647_5 ((rd_T32 l0_1 x3_1).f5).length c647_5, .slice A647_6 ((rd_T32 l0_1 x3_1).f6).length c647_6] 32 (0, 0)) (by exact bk BK648) hb)
            have n2_ := zq9 (zq27 (by exact b2 HB GE645 GE648) hb)
            clear BK645; clear BK648; clear HB; have BK645 := n0_; have BK648 := n1_; have HB := n2_; clear n0_ n1_ n2_
            (try clear hb)
            (try clear hb2)
            (try clear hk)
            (try clear hi)
            refine hK.out _ _ ⟨bc BK648 0, bc BK648 1, bc BK648 2, bc BK648 3, bc BK648 4, bc BK648 5, bc BK648 6, bc BK645 0, bc BK645 1, (hcm HB hw651_0), (hcm HB hw651_1), (hcm HB hw651_2), (hcm HB hw651_3), (hcm HB hw651_4), (hcm HB hw651_5), (hcm HB hw651_6)⟩ (fun hHeld => ?_)
            clear hK K
            refine norm_ (a' := ?_) ?_ ?_
            rotate_left; ·show Act.put _ (some 18) _ = _; simp only [Act.put, zq0, zq1, zq2, i64_w, i32_w]; rfl
            refine pa HT_ 2 19 (zb 31 7) ?_; refine pa HT_ 3 20 (zb 31 15) ?_; refine pa HT_ 4 21 (zb 31 31) ?_
            refine take_ (i := 5) (N := some 22) (v := ?_) (a' := ?_) (zb 31 63) rfl rfl (take_ofW HT_.out HW_.out (by kernel_rfl)) (fun _ _ _ h => h) (Or.inl ⟨by rfl, ?_⟩) hHeld ?_ ?_
            rotate_left; ·rintro w' ⟨s0, s1, s2, s3, s4, s5, s6, s7, s8, s9, s10, s11, s12, s13, s14, s15⟩; go_simp; with_reducible rfl
            rotate_left; ·simp only [Act.put, zq0, zq1, zq2, i64_w, i32_w]; rfl
            refine pa HT_ 6 23 (zb 31 127) ?_; refine pa HT_ 7 24 (zb 31 255) ?_; refine pa HT_ 8 25 (zb 31 511) ?_; refine pa HT_ 10 27 (zb 31 1535) ?_
            refine take_ (i := 9) (N := some 26) (v := ?_) (a' := ?_) (zb 31 2047) rfl rfl (take_ofW HT_.out HW_.out (by kernel_rfl)) (fun _ _ _ h => h) (Or.inl ⟨by rfl, ?_⟩) hHeld ?_ ?_
            rotate_left; ·rintro w' ⟨s0, s1, s2, s3, s4, s5, s6, s7, s8, s9, s10, s11, s12, s13, s14, s15⟩; go_simp; with_reducible rfl
            rotate_left; ·simp only [Act.put, zq0, zq1, zq2, i64_w, i32_w]; rfl
            refine take_ (i := 11) (N := some 28) (v := ?_) (a' := ?_) (zb 31 4095) rfl rfl (take_ofW HT_.out HW_.out (by kernel_rfl)) (fun _ _ _ h => h) (Or.inl ⟨by rfl, ?_⟩) hHeld ?_ ?_
            rotate_left; ·rintro w' ⟨s0, s1, s2, s3, s4, s5, s6, s7, s8, s9, s10, s11, s12, s13, s14, s15⟩; go_simp; with_reducible rfl
            rotate_left; ·simp only [Act.put, zq0, zq1, zq2, i64_w, i32_w]; rfl
            refine pa HT_ 12 29 (zb 31 8191) ?_; refine pa HT_ 13 30 (zb 31 16383) ?_; refine pa HT_ 14 31 (zb 31 32767) ?_; refine pa HT_ 15 32 (zb 31 65535) ?_; refine pa HT_ 16 33 (zb 31 131071) ?_; refine pa HT_ 17 34 (zb 31 262143) ?_; refine pa HT_ 18 35 (zb 31 524287) ?_; refine pa HT_ 19 36 (zb 31 1048575) ?_; refine pa HT_ 21 38 (zb 31 3145727) ?_; refine pa HT_ 22 39 (zb 31 7340031) ?_; refine pa HT_ 26 43 (zb 31 74448895) ?_
            refine take_ (i := 20) (N := some 37) (v := ?_) (a' := ?_) (zb 31 75497471) rfl rfl (take_ofW HT_.out HW_.out (by kernel_rfl)) (fun _ _ _ h => h) (Or.inl ⟨by rfl, ?_⟩) hHeld ?_ ?_
            rotate_left; ·rintro w' ⟨s0, s1, s2, s3, s4, s5, s6, s7, s8, s9, s10, s11, s12, s13, s14, s15⟩; go_simp; with_reducible rfl
            rotate_left; ·simp only [Act.put, zq0, zq1, zq2, i64_w, i32_w]; rfl
            refine pa HT_ 23 40 (zb 31 83886079) ?_; refine pa HT_ 24 41 (zb 31 100663295) ?_
            refine take_ (i := 25) (N := some 42) (v := ?_) (a' := ?_) (zb 31 134217727) rfl rfl (take_ofW HT_.out HW_.out (by kernel_rfl)) (fun _ _ _ h => h) (Or.inl ⟨by rfl, ?_⟩) hHeld ?_ ?_
            rotate_left; ·rintro w' ⟨s0, s1, s2, s3, s4, s5, s6, s7, s8, s9, s10, s11, s12, s13, s14, s15⟩; go_simp; with_reducible rfl
            rotate_left; ·simp only [Act.put, zq0, zq1, zq2, i64_w, i32_w]; rfl
            refine take_ (i := 27) (N := some 44) (v := ?_) (a' := ?_) (zb 31 268435455) rfl rfl (take_ofW HT_.out HW_.out (by kernel_rfl)) (fun _ _ _ h => h) (Or.inl ⟨by rfl, ?_⟩) hHeld ?_ ?_
            rotate_left; ·rintro w' ⟨s0, s1, s2, s3, s4, s5, s6, s7, s8, s9, s10, s11, s12, s13, s14, s15⟩; go_simp; with_reducible rfl
            rotate_left; ·simp only [Act.put, zq0, zq1, zq2, i64_w, i32_w]; rfl
            refine pa HT_ 28 45 (zb 31 536870911) ?_; refine pa HT_ 29 46 (zb 31 1073741823) ?_; refine pa HT_ 30 47 (zb 31 2147483647) ?_
            refine done_ (done_of HT_.out (by kernel_rfl)) ?_
            try go_wp2
            go_meet
            case rel => exact ⟨_, (!(Op.bytesLess (((rd_T32 l0_1 (ji28)).f0).toList) (((rd_T32 l0_1 x3_1).f0).toList))), (by first | rfl | (simp; done) | (simp only [← hji28] <;> (first | rfl | simp)) | (simp [*]; done)), H', ⟨by have := HK1.out; first | omega | exact Nat.le_refl _⟩, ⟨by refine bp ?_; exact BK645.out⟩, ⟨by refine bp ?_; exact BK648.out⟩, ⟨by exact b2 HB GE645 GE648⟩⟩
           ·rw [if_neg c30] at H
            exact absurd H (by simp)
          ·rw [if_neg c29] at H
           exact absurd H (by simp)
         ·rw [if_neg c27] at H; have c27b0 : decide (0 < x3_1) = false := decide_eq_false c27; clear c27; have H' := zq9 H; clear H
          refine start_ (n := 31) (S := fun w' => w'.cell? ⟨gb648, 0, none⟩ = some (.string ((rd_T32 l0_1 x3_1).f0)) ∧ w'.cell? ⟨gb648, 1, none⟩ = some (.int .i64 ((rd_T32 l0_1 x3_1).f1)) ∧ w'.cell? ⟨gb648, 2, none⟩ = some (.int .i64 ((rd_T32 l0_1 x3_1).f2)) ∧ w'.cell? ⟨gb648, 3, none⟩ = some (.string ((rd_T32 l0_1 x3_1).f3)) ∧ w'.cell? ⟨gb648, 4, none⟩ = some (.slice A647_4 ((rd_T32 l0_1 x3_1).f4).length c647_4) ∧ w'.cell? ⟨gb648, 5, none⟩ = some (.slice A647_5 ((rd_T32 l0_1 x3_1).f5).length c647_5) ∧ w'.cell? ⟨gb648, 6, none⟩ = some (.slice A647_6 ((rd_T32 l0_1 x3_1).f6).length c647_6) ∧ w'.cell? ⟨gb645, 0, none⟩ = some (.int .i64 a0_0) ∧ w'.cell? ⟨gb645, 1, none⟩ = some (.slice (some ad647) l0_1.length c0_1)) (ds := []) #[false, false, false, false, false, false, false, false, false, false, false, false, false, false, false, false, false, false, false, false, false, false, false, false, false, false, false, false, false, false, false] (by kernel_rfl) rfl rfl ⟨bc BK648 0, bc BK648 1, bc BK648 2, bc BK648 3, bc BK648 4, bc BK648 5, bc BK648 6, bc BK645 0, bc BK645 1⟩ (fun hHeld => ?_); refine with_tabW spec_BaseOk.tab5 spec_BaseOk.bits5 (fun HT_ HW_ => ?_)
          generalize w24.drew = w35 at BK645 BK648 HB hHeld ⊢
          refine take_ (i := 0) (N := some 17) (v := ?_) (a' := ?_) (zb 31 1) rfl rfl (take_ofW HT_.out HW_.out (by kernel_rfl)) (fun _ _ _ h => h) (Or.inl ⟨by rfl, ?_⟩) hHeld ?_ ?_
          rotate_left; ·rintro w' ⟨s0, s1, s2, s3, s4, s5, s6, s7, s8⟩; go_simp; with_reducible rfl
          rotate_left; ·simp only [Act.put, zq0, zq1, zq2, i64_w, i32_w]; rfl
          refine one_ (i := 1) (N := some 18) (zb 31 3) rfl rfl (one_of HT_.out (by kernel_rfl)) (by decide) (fun K hK => ?_)
          refine gs Try.func11 #[.agg #[.string ((rd_T32 l0_1 x3_1).f0), .int .i64 ((rd_T32 l0_1 x3_1).f1), .int .i64 ((rd_T32 l0_1 x3_1).f2), .string ((rd_T32 l0_1 x3_1).f3), .slice A647_4 ((rd_T32 l0_1 x3_1).f4).length c647_4, .slice A647_5 ((rd_T32 l0_1 x3_1).f5).length c647_5, .slice A647_6 ((rd_T32 l0_1 x3_1).f6).length c647_6]] ?_
          with_reducible refine (spec_EntryOk.calls k1 ((rd_T32 l0_1 x3_1).f0) ((rd_T32 l0_1 x3_1).f1) ((rd_T32 l0_1 x3_1).f2) ((rd_T32 l0_1 x3_1).f3) _ _ ((rd_T32 l0_1 x3_1).f4) _ _ ((rd_T32 l0_1 x3_1).f5) _ _ ((rd_T32 l0_1 x3_1).f6) true _ ?side1 ?side2 ?side3 ?side4 ?side5 ?side6 A10.out).mono ?_
          (case side1 => exact kc HR647_4 HB)
          (case side2 => exact HC647_4.out)
          (case side3 => exact kc HR647_5 HB)
          (case side4 => exact HC647_5.out)
          (case side5 => exact kc HR647_6 HB)
          (case side6 => exact HC647_6.out)
          rintro e w36 ⟨rfl, hb⟩
          refine ⟨_, rfl, ?_⟩
          have n0_ := zq9 (zq30 (g := gb645) (o := .cells #[.int .i64 a0_0, .slice (some ad647) l0_1.length c0_1] 46 (0, 0)) (by exact bk BK645) hb)
          have n1_ := zq9 (zq30 (g := gb648) (o := .cells #[.string ((rd_T32 l0_1 x3_1).f0), .int .i64 ((rd_T32 l0_1 x3_1).f1), .int .i64 ((rd_T32 l0_1 x3_1).f2), .string ((rd_T32 l0_1 x3_1).f3), .slice A647_4 ((rd_T32 l0_1 x3_1).f4).length c647_4, .slice A647_5 ((rd_T32 l0_1 x3_1).f5).length c647_5, .slice A647_6 ((rd_T32 l0_1 x3_1).f6).length c647_6] 32 (0, 0)) (by exact bk BK648) hb)
          have n2_ := zq9 (zq27 (by exact b2 HB GE645 GE648) hb)
          clear BK645; clear BK648; clear HB; have BK645 := n0_; have BK648 := n1_; have HB := n2_; clear n0_ n1_ n2_
          (try clear hb)
          (try clear hb2)
          (try clear hk)
          (try clear hi)
          refine hK.out _ _ ⟨bc BK648 0, bc BK648 1, bc BK648 2, bc BK648 3, bc BK648 4, bc BK648 5, bc BK648 6, bc BK645 0, bc BK645 1⟩ (fun hHeld => ?_)
          clear hK K
          refine norm_ (a' := ?_) ?_ ?_
          rotate_left; ·show Act.put _ (some 18) _ = _; simp only [Act.put, zq0, zq1, zq2, i64_w, i32_w]; rfl
          refine pa HT_ 2 19 (zb 31 7) ?_; refine pa HT_ 3 20 (zb 31 15) ?_; refine pa HT_ 4 21 (zb 31 31) ?_
          refine take_ (i := 5) (N := some 22) (v := ?_) (a' := ?_) (zb 31 63) rfl rfl (take_ofW HT_.out HW_.out (by kernel_rfl)) (fun _ _ _ h => h) (Or.inl ⟨by rfl, ?_⟩) hHeld ?_ ?_
          rotate_left; ·rintro w' ⟨s0, s1, s2, s3, s4, s5, s6, s7, s8⟩; go_simp; with_reducible rfl
          rotate_left; ·simp only [Act.put, zq0, zq1, zq2, i64_w, i32_w]; rfl
          refine pa HT_ 6 23 (zb 31 127) ?_; refine pa HT_ 7 24 (zb 31 255) ?_; refine pa HT_ 8 25 (zb 31 511) ?_; refine pa HT_ 10 27 (zb 31 1535) ?_
          refine take_ (i := 9) (N := some 26) (v := ?_) (a' := ?_) (zb 31 2047) rfl rfl (take_ofW HT_.out HW_.out (by kernel_rfl)) (fun _ _ _ h => h) (Or.inl ⟨by rfl, ?_⟩) hHeld ?_ ?_
          rotate_left; ·rintro w' ⟨s0, s1, s2, s3, s4, s5, s6, s7, s8⟩; go_simp; with_reducible rfl
          rotate_left; ·simp only [Act.put, zq0, zq1, zq2, i64_w, i32_w]; rfl
          refine take_ (i := 11) (N := some 28) (v := ?_) (a' := ?_) (zb 31 4095) rfl rfl (take_ofW HT_.out HW_.out (by kernel_rfl)) (fun _ _ _ h => h) (Or.inl ⟨by rfl, ?_⟩) hHeld ?_ ?_
          rotate_left; ·rintro w' ⟨s0, s1, s2, s3, s4, s5, s6, s7, s8⟩; go_simp; with_reducible rfl
          rotate_left; ·simp only [Act.put, zq0, zq1, zq2, i64_w, i32_w]; rfl
          refine pa HT_ 12 29 (zb 31 8191) ?_; refine pa HT_ 13 30 (zb 31 16383) ?_; refine pa HT_ 14 31 (zb 31 32767) ?_; refine pa HT_ 15 32 (zb 31 65535) ?_; refine pa HT_ 16 33 (zb 31 131071) ?_; refine pa HT_ 17 34 (zb 31 262143) ?_; refine pa HT_ 18 35 (zb 31 524287) ?_; refine pb HT_ 19 36 (zb 31 1048575) ?_; refine pb HT_ 20 37 (zb 31 2097151) ?_; refine pb HT_ 21 38 (zb 31 4194303) ?_; refine pb HT_ 22 39 (zb 31 8388607) ?_
          refine pb HT_ 23 40 (zb 31 16777215) ?_; refine pb HT_ 24 41 (zb 31 33554431) ?_; refine pb HT_ 25 42 (zb 31 67108863) ?_; refine pb HT_ 26 43 (zb 31 134217727) ?_; refine pb HT_ 27 44 (zb 31 268435455) ?_; refine pb HT_ 28 45 (zb 31 536870911) ?_; refine pa HT_ 29 46 (zb 31 1073741823) ?_; refine pa HT_ 30 47 (zb 31 2147483647) ?_
          refine done_ (done_of HT_.out (by kernel_rfl)) ?_
          try go_wp2
          go_meet
          case rel => exact ⟨_, (false), (by first | rfl | (simp; done) | (simp [*]; done)), H', ⟨by have := HK1.out; first | omega | exact Nat.le_refl _⟩, ⟨by refine bp ?_; exact BK645.out⟩, ⟨by refine bp ?_; exact BK648.out⟩, ⟨by exact b2 HB GE645 GE648⟩⟩
      ·replace c11 := Bool.eq_false_iff.mpr c11
       subst c11
       have H1 : (spec_BaseOk.j1 k1 x3_1 true a0_0 l0_1) = some r := by rw [if_neg (show ¬ (false = true) by decide)] at H; exact H
       clear H; have H := H1; clear H1; have H' := zq9 H; clear H
       try go_wp2
       have n0_ : Aside0 ((((((((w7.setCell ⟨gb648, 0, none⟩ (.string ((rd_T32 l0_1 x3_1).f0))).setCell ⟨gb648, 1, none⟩ (.int .i64 ((rd_T32 l0_1 x3_1).f1))).setCell ⟨gb648, 2, none⟩ (.int .i64 ((rd_T32 l0_1 x3_1).f2))).setCell ⟨gb648, 3, none⟩ (.string ((rd_T32 l0_1 x3_1).f3))).setCell ⟨gb648, 4, none⟩ (.slice A647_4 ((rd_T32 l0_1 x3_1).f4).length c647_4)).setCell ⟨gb648, 5, none⟩ (.slice A647_5 ((rd_T32 l0_1 x3_1).f5).length c647_5)).setCell ⟨gb648, 6, none⟩ (.slice A647_6 ((rd_T32 l0_1 x3_1).f6).length c647_6)).heap[gb645]? = some (.cells #[.int .i64 a0_0, .slice (some ad647) l0_1.length c0_1] 46 (0, 0))) := ⟨by refine bp ?_; refine blk_far ?_ NB645_648.out _; refine bp ?_; refine blk_far ?_ NB645_648.out _; refine bp ?_; refine blk_far ?_ NB645_648.out _; refine bp ?_; refine blk_far ?_ NB645_648.out _; refine bp ?_; refine blk_far ?_ NB645_648.out _; refine bp ?_; refine blk_far ?_ NB645_648.out _; refine bp ?_; refine blk_far ?_ NB645_648.out _; refine bp ?_; exact BK645.out⟩
       have n1_ : Aside0 ((((((((w7.setCell ⟨gb648, 0, none⟩ (.string ((rd_T32 l0_1 x3_1).f0))).setCell ⟨gb648, 1, none⟩ (.int .i64 ((rd_T32 l0_1 x3_1).f1))).setCell ⟨gb648, 2, none⟩ (.int .i64 ((rd_T32 l0_1 x3_1).f2))).setCell ⟨gb648, 3, none⟩ (.string ((rd_T32 l0_1 x3_1).f3))).setCell ⟨gb648, 4, none⟩ (.slice A647_4 ((rd_T32 l0_1 x3_1).f4).length c647_4)).setCell ⟨gb648, 5, none⟩ (.slice A647_5 ((rd_T32 l0_1 x3_1).f5).length c647_5)).setCell ⟨gb648, 6, none⟩ (.slice A647_6 ((rd_T32 l0_1 x3_1).f6).length c647_6)).heap[gb648]? = some (.cells #[.string ((rd_T32 l0_1 x3_1).f0), .int .i64 ((rd_T32 l0_1 x3_1).f1), .int .i64 ((rd_T32 l0_1 x3_1).f2), .string ((rd_T32 l0_1 x3_1).f3), .slice A647_4 ((rd_T32 l0_1 x3_1).f4).length c647_4, .slice A647_5 ((rd_T32 l0_1 x3_1).f5).length c647_5, .slice A647_6 ((rd_T32 l0_1 x3_1).f6).length c647_6] 32 (0, 0))) := ⟨(blk_set (blk_set (blk_set (blk_set (blk_set (blk_set (blk_set BK648.out 0 _) 1 _) 2 _) 3 _) 4 _) 5 _) 6 _)⟩
       have n2_ : Aside0 (Below w.heap.size w (((((((w7.setCell ⟨gb648, 0, none⟩ (.string ((rd_T32 l0_1 x3_1).f0))).setCell ⟨gb648, 1, none⟩ (.int .i64 ((rd_T32 l0_1 x3_1).f1))).setCell ⟨gb648, 2, none⟩ (.int .i64 ((rd_T32 l0_1 x3_1).f2))).setCell ⟨gb648, 3, none⟩ (.string ((rd_T32 l0_1 x3_1).f3))).setCell ⟨gb648, 4, none⟩ (.slice A647_4 ((rd_T32 l0_1 x3_1).f4).length c647_4)).setCell ⟨gb648, 5, none⟩ (.slice A647_5 ((rd_T32 l0_1 x3_1).f5).length c647_5)).setCell ⟨gb648, 6, none⟩ (.slice A647_6 ((rd_T32 l0_1 x3_1).f6).length c647_6))) := ⟨by exact b2 HB GE645 GE648⟩
       (try clear BK645)
       (try clear BK648)
       (try clear HB)
       generalize (((((((w7.setCell ⟨gb648, 0, none⟩ (.string ((rd_T32 l0_1 x3_1).f0))).setCell ⟨gb648, 1, none⟩ (.int .i64 ((rd_T32 l0_1 x3_1).f1))).setCell ⟨gb648, 2, none⟩ (.int .i64 ((rd_T32 l0_1 x3_1).f2))).setCell ⟨gb648, 3, none⟩ (.string ((rd_T32 l0_1 x3_1).f3))).setCell ⟨gb648, 4, none⟩ (.slice A647_4 ((rd_T32 l0_1 x3_1).f4).length c647_4)).setCell ⟨gb648, 5, none⟩ (.slice A647_5 ((rd_T32 l0_1 x3_1).f5).length c647_5)).setCell ⟨gb648, 6, none⟩ (.slice A647_6 ((rd_T32 l0_1 x3_1).f6).length c647_6)) = w37 at n0_ n1_ n2_ ⊢
       have BK645 := n0_; have BK648 := n1_; have HB := n2_; clear n0_ n1_ n2_
       have n0_ := zq9 (blk_drew BK645.out)
       have n1_ := zq9 (blk_drew BK648.out)
       have n2_ := zq9 (zq4 HB.out)
       clear BK645; clear BK648; clear HB; have BK645 := n0_; have BK648 := n1_; have HB := n2_; clear n0_ n1_ n2_
       refine start_ (n := 31) (S := fun w' => w'.cell? ⟨gb648, 0, none⟩ = some (.string ((rd_T32 l0_1 x3_1).f0)) ∧ w'.cell? ⟨gb648, 1, none⟩ = some (.int .i64 ((rd_T32 l0_1 x3_1).f1)) ∧ w'.cell? ⟨gb648, 2, none⟩ = some (.int .i64 ((rd_T32 l0_1 x3_1).f2)) ∧ w'.cell? ⟨gb648, 3, none⟩ = some (.string ((rd_T32 l0_1 x3_1).f3)) ∧ w'.cell? ⟨gb648, 4, none⟩ = some (.slice A647_4 ((rd_T32 l0_1 x3_1).f4).length c647_4) ∧ w'.cell? ⟨gb648, 5, none⟩ = some (.slice A647_5 ((rd_T32 l0_1 x3_1).f5).length c647_5) ∧ w'.cell? ⟨gb648, 6, none⟩ = some (.slice A647_6 ((rd_T32 l0_1 x3_1).f6).length c647_6)) (ds := []) #[false, false, false, false, false, false, false, false, false, false, false, false, false, false, false, false, false, false, false, false, false, false, false, false, false, false, false, false, false, false, false] (by kernel_rfl) rfl rfl ⟨bc BK648 0, bc BK648 1, bc BK648 2, bc BK648 3, bc BK648 4, bc BK648 5, bc BK648 6⟩ (fun hHeld => ?_); refine with_tabW spec_BaseOk.tab5 spec_BaseOk.bits5 (fun HT_ HW_ => ?_)
       generalize w37.drew = w38 at BK645 BK648 HB hHeld ⊢
       refine take_ (i := 0) (N := some 17) (v := ?_) (a' := ?_) (zb 31 1) rfl rfl (take_ofW HT_.out HW_.out (by kernel_rfl)) (fun _ _ _ h => h) (Or.inl ⟨by rfl, ?_⟩) hHeld ?_ ?_
       rotate_left; ·rintro w' ⟨s0, s1, s2, s3, s4, s5, s6⟩; go_simp; with_reducible rfl
       rotate_left; ·simp only [Act.put, zq0, zq1, zq2, i64_w, i32_w]; rfl
       refine one_ (i := 1) (N := some 18) (zb 31 3) rfl rfl (one_of HT_.out (by kernel_rfl)) (by decide) (fun K hK => ?_)
       refine gs Try.func11 #[.agg #[.string ((rd_T32 l0_1 x3_1).f0), .int .i64 ((rd_T32 l0_1 x3_1).f1), .int .i64 ((rd_T32 l0_1 x3_1).f2), .string ((rd_T32 l0_1 x3_1).f3), .slice A647_4 ((rd_T32 l0_1 x3_1).f4).length c647_4, .slice A647_5 ((rd_T32 l0_1 x3_1).f5).length c647_5, .slice A647_6 ((rd_T32 l0_1 x3_1).f6).length c647_6]] ?_
       with_reducible refine (spec_EntryOk.calls k1 ((rd_T32 l0_1 x3_1).f0) ((rd_T32 l0_1 x3_1).f1) ((rd_T32 l0_1 x3_1).f2) ((rd_T32 l0_1 x3_1).f3) _ _ ((rd_T32 l0_1 x3_1).f4) _ _ ((rd_T32 l0_1 x3_1).f5) _ _ ((rd_T32 l0_1 x3_1).f6) false _ ?side1 ?side2 ?side3 ?side4 ?side5 ?side6 A10.out).mono ?_
       (case side1 => exact kc HR647_4 HB)
       (case side2 => exact HC647_4.out)
       (case side3 => exact kc HR647_5 HB)
       (case side4 => exact HC647_5.out)
       (case side5 => exact kc HR647_6 HB)
       (case side6 => exact HC647_6.out)
       rintro e w39 ⟨rfl, hb⟩
       refine ⟨_, rfl, ?_⟩
       have n0_ := zq9 (zq30 (g := gb645) (o := .cells #[.int .i64 a0_0, .slice (some ad647) l0_1.length c0_1] 46 (0, 0)) (by exact bk BK645) hb)
       have n1_ := zq9 (zq30 (g := gb648) (o := .cells #[.string ((rd_T32 l0_1 x3_1).f0), .int .i64 ((rd_T32 l0_1 x3_1).f1), .int .i64 ((rd_T32 l0_1 x3_1).f2), .string ((rd_T32 l0_1 x3_1).f3), .slice A647_4 ((rd_T32 l0_1 x3_1).f4).length c647_4, .slice A647_5 ((rd_T32 l0_1 x3_1).f5).length c647_5, .slice A647_6 ((rd_T32 l0_1 x3_1).f6).length c647_6] 32 (0, 0)) (by exact bk BK648) hb)
       have n2_ := zq9 (zq27 (by exact b2 HB GE645 GE648) hb)
       clear BK645; clear BK648; clear HB; have BK645 := n0_; have BK648 := n1_; have HB := n2_; clear n0_ n1_ n2_
       (try clear hb)
       (try clear hb2)
       (try clear hk)
       (try clear hi)
       refine hK.out _ _ ⟨bc BK648 0, bc BK648 1, bc BK648 2, bc BK648 3, bc BK648 4, bc BK648 5, bc BK648 6⟩ (fun hHeld => ?_)
       clear hK K
       refine norm_ (a' := ?_) ?_ ?_
       rotate_left; ·show Act.put _ (some 18) _ = _; simp only [Act.put, zq0, zq1, zq2, i64_w, i32_w]; rfl
       refine pa HT_ 2 19 (zb 31 7) ?_; refine pa HT_ 3 20 (zb 31 15) ?_; refine pb HT_ 4 21 (zb 31 31) ?_; refine pb HT_ 5 22 (zb 31 63) ?_; refine pb HT_ 6 23 (zb 31 127) ?_; refine pb HT_ 7 24 (zb 31 255) ?_; refine pb HT_ 8 25 (zb 31 511) ?_; refine pb HT_ 9 26 (zb 31 1023) ?_; refine pb HT_ 10 27 (zb 31 2047) ?_; refine pb HT_ 11 28 (zb 31 4095) ?_; refine pb HT_ 12 29 (zb 31 8191) ?_; refine pb HT_ 13 30 (zb 31 16383) ?_
       refine pa HT_ 14 31 (zb 31 32767) ?_; refine pa HT_ 15 32 (zb 31 65535) ?_; refine pb HT_ 16 33 (zb 31 131071) ?_; refine pb HT_ 17 34 (zb 31 262143) ?_; refine pb HT_ 18 35 (zb 31 524287) ?_; refine pb HT_ 19 36 (zb 31 1048575) ?_; refine pb HT_ 20 37 (zb 31 2097151) ?_; refine pb HT_ 21 38 (zb 31 4194303) ?_; refine pb HT_ 22 39 (zb 31 8388607) ?_; refine pb HT_ 23 40 (zb 31 16777215) ?_; refine pb HT_ 24 41 (zb 31 33554431) ?_
       refine pb HT_ 25 42 (zb 31 67108863) ?_; refine pb HT_ 26 43 (zb 31 134217727) ?_; refine pb HT_ 27 44 (zb 31 268435455) ?_; refine pb HT_ 28 45 (zb 31 536870911) ?_; refine pb HT_ 29 46 (zb 31 1073741823) ?_; refine pa HT_ 30 47 (zb 31 2147483647) ?_
       refine done_ (done_of HT_.out (by kernel_rfl)) ?_
       try go_wp2
       go_meet
       case rel => exact ⟨_, (true), (by first | rfl | (simp; done) | (simp [*]; done)), H', ⟨by have := HK1.out; first | omega | exact Nat.le_refl _⟩, ⟨by refine bp ?_; exact BK645.out⟩, ⟨by refine bp ?_; exact BK648.out⟩, ⟨by exact b2 HB GE645 GE648⟩⟩
     case rest =>
      clear HC5
      try clear c1
      try clear c2
      try clear p2
      try clear c3
      try clear c6
      try clear c11
      try clear c27
      try clear c27b0
      try clear c29
      try clear c30
      obtain ⟨kq, x47_4, rfl, HA, HJ4, BK645, BK648, HB⟩ := hcut
      cases kq with
      | zero => exact absurd HA.out (by simp [spec_BaseOk.j1])
      | succ kj4 =>
       have H := HA.out; clear HA
       simp only [spec_BaseOk.j1] at H
       by_cases c40 : x47_4 = true
       ·subst c40
        have H1 : (some false) = some r := by rw [if_pos rfl] at H; exact H
        clear H; have H := H1; clear H1; obtain rfl := Option.some.inj H
        go_wp2
        go_ret
        exact fz (by exact b2 HB GE645 GE648)
       ·replace c40 := Bool.eq_false_iff.mpr c40
        subst c40
        have H1 : (spec_BaseOk.l0 kj4 (wrap64 (x3_1 + 1)) a0_0 l0_1) = some r := by rw [if_neg (show ¬ (false = true) by decide)] at H; exact H
        clear H; have H := H1; clear H1; have H' := zq9 H; clear H
        go_wp2
        go_roundg kj4
        case measure => have := HK1.out; have := HJ4.out; omega
        case rel => exact ⟨(wrap64 (x3_1 + 1)), (by first | rfl | (simp; done) | (simp [*]; done)), H', ⟨by have := HK1.out; have := HJ4.out; omega⟩, ⟨by refine bp ?_; exact BK645.out⟩, ⟨by exact b2 HB GE645 GE648⟩⟩
    ·rw [if_neg c4] at H
     exact absurd H (by simp)
   case' n0 =>
    rw [if_neg c3] at H; have c3b0 : decide (x3_1 < (l0_1.length : Int)) = false := decide_eq_false c3; clear c3; replace H := Option.bind_eq_some_iff.mp H; obtain ⟨t646, A410, H⟩ := H
    try dsimp only at H
    have A41 := zq9 A410; clear A410
    have hcz43_0 : wr.cell? ⟨gb645, 0, none⟩ = some (.int .i64 a0_0) := bc BK645 0
    have hcz43_1 : wr.cell? ⟨gb645, 1, none⟩ = some (.slice A0_1 l0_1.length c0_1) := bc BK645 1
    have hfz43_0 := zq6 BK645.out 0
    have hfz43_1 := zq6 BK645.out 1
    refine (Classical.em (t646 = true)).elim (fun c42 => ?p12) (fun c42 => ?n12)
    case' p12 =>
     subst c42
     have H1 : (some (decide ((l0_1.length : Int) ≤ 12))) = some r := by rw [if_pos rfl] at H; exact H
     clear H; have H := H1; clear H1; obtain rfl := Option.some.inj H
    case' n12 =>
     replace c42 := Bool.eq_false_iff.mpr c42
     subst c42
     have H1 : (some false) = some r := by rw [if_neg (show ¬ (false = true) by decide)] at H; exact H
     clear H; have H := H1; clear H1; obtain rfl := Option.some.inj H
   case p12 | n12 =>
    try go_wp2_with (first | ((with_reducible refine zq24 (f := 40) rfl ?_); refine gl (some 50) Try.func40 #[.int .i64 a0_0, .int .i64 0, .int .i64 1000000] ?_; (with_reducible refine (spec_l1In.calls a0_0 0 1000000 false _ A41.out).mono ?_); rintro e w' ⟨rfl, ⟨nd, rfl⟩⟩; refine ⟨_, rfl, ?_⟩) | ((with_reducible refine zq24 (f := 40) rfl ?_); refine gl (some 50) Try.func40 #[.int .i64 a0_0, .int .i64 0, .int .i64 1000000] ?_; (with_reducible refine (spec_l1In.calls a0_0 0 1000000 true _ A41.out).mono ?_); rintro e w' ⟨rfl, ⟨nd, rfl⟩⟩; refine ⟨_, rfl, ?_⟩))
    go_ret
    exact fz (by exact b1 HB GE645)
set_option maxHeartbeats 8000000 in
set_option maxRecDepth 100000 in
theorem spec_l4At.calls (k : Nat) (a0_0 : Int) (A0_1 : Option Addr) (c0_1 : Nat) (l0_1 : List (S32)) (a1 : ByteArray) (r1 : Int) (r2 : Bool) (w : World) (hr0_1 : Kd.C k32 w A0_1 l0_1.length l0_1) (hc0_1 : l0_1.length ≤ c0_1) (h : spec_l4At.f k a0_0 l0_1 a1 = some (r1, r2)) :
    Calls Try.prog 65 #[.agg #[.int .i64 a0_0, .slice A0_1 l0_1.length c0_1], .string a1] w fun e w' => e = .returned (.tuple #[.int .i64 r1, .bool r2]) ∧ Below w.heap.size w w' := by
  have hu46 := Try.underlying46; have HR0_1 := zq9 hr0_1; have HC0_1 := zq9 hc0_1; clear hr0_1 hc0_1
  have HB := zq9 (Below.refl w.heap.size w)
  have H : (spec_l4At.l0 k a1 0 a0_0 l0_1) = some (r1, r2) := h
  clear h; have H' := zq9 H; clear H
  go_enter Try.func65, Try.ntmps65
  go_wp2_with (first | ((with_reducible refine zq25 (N := 2) rfl ?_); refine bx 2 #[.int .i64 a0_0, .slice A0_1 l0_1.length c0_1] 46 ?_; intro gb801 hg w3 hbox hb; have n0_ := zq9 (zq27 (by exact bl HB) hb); have n1_ := zq9 (hbox); have n2_ := zq9 ((by rw [hg]; exact (zq29 (by exact bl HB)) : w.heap.size ≤ gb801)); have n3_ := n2_; clear HB; have HB := n0_; have BK801 := n1_; have GW801 := n2_; have GE801 := n3_; clear n0_ n1_ n2_ n3_; clear hb hbox hg))
  repeat (go_quiet (first | ((with_reducible refine zq25 (N := 2) rfl ?_); refine bx 2 #[.int .i64 a0_0, .slice A0_1 l0_1.length c0_1] 46 ?_; intro gb801 hg w3 hbox hb; have n0_ := zq9 (zq27 (by exact bl HB) hb); have n1_ := zq9 (hbox); have n2_ := zq9 ((by rw [hg]; exact (zq29 (by exact bl HB)) : w.heap.size ≤ gb801)); have n3_ := n2_; clear HB; have HB := n0_; have BK801 := n1_; have GW801 := n2_; have GE801 := n3_; clear n0_ n1_ n2_ n3_; clear hb hbox hg)); try go_wp2_with (first | ((with_reducible refine zq25 (N := 2) rfl ?_); refine bx 2 #[.int .i64 a0_0, .slice A0_1 l0_1.length c0_1] 46 ?_; intro gb801 hg w3 hbox hb; have n0_ := zq9 (zq27 (by exact bl HB) hb); have n1_ := zq9 (hbox); have n2_ := zq9 ((by rw [hg]; exact (zq29 (by exact bl HB)) : w.heap.size ≤ gb801)); have n3_ := n2_; clear HB; have HB := n0_; have BK801 := n1_; have GW801 := n2_; have GE801 := n3_; clear n0_ n1_ n2_ n3_; clear hb hbox hg)))
  go_loopg [6] k (fun kq v6 w' => ∃ (x6_1 : Int), v6 = .int .i64 x6_1 ∧ Aside0 (spec_l4At.l0 kq a1 x6_1 a0_0 l0_1 = some (r1, r2)) ∧ Aside0 (kq ≤ k) ∧ Aside0 (w'.heap[gb801]? = some (.cells #[.int .i64 a0_0, (.slice A0_1 l0_1.length c0_1)] 46 (0, 0))) ∧ Aside0 (Below w.heap.size w w'))
  case atStart => exact ⟨(0), (by first | rfl | (simp; done) | (simp [*]; done)), H', ⟨Nat.le_refl _⟩, ⟨by refine bp ?_; exact BK801.out⟩, ⟨by exact b1 HB GE801⟩⟩
  case round =>
    clear H'
    try clear p2
    obtain ⟨x6_1, rfl, HA, HK1, BK801, HB⟩ := hrel
    cases gk with
    | zero => exact absurd HA.out (by simp [spec_l4At.l0])
    | succ k1 =>
      have H := HA.out; clear HA
      simp only [spec_l4At.l0] at H
      by_cases c4 : x6_1 < (l0_1.length : Int)
      · rw [if_pos c4] at H; have c4b0 : decide (x6_1 < (l0_1.length : Int)) = true := decide_eq_true c4; clear c4
        by_cases c5 : 0 ≤ x6_1
        · rw [if_pos c5] at H; have c5b0 : decide (0 ≤ x6_1) = true := decide_eq_true c5; clear c5
          by_cases c6 : (Op.bytesLess (((rd_T32 l0_1 x6_1).f0).toList) a1.toList) = true
          · rw [if_pos c6] at H
            have c6b0 : (Op.bytesLess (((rd_T32 l0_1 x6_1).f0).toList) a1.toList) = true := c6
            clear c6; have H' := zq9 H; clear H
            have hcz7_0 : wr.cell? ⟨gb801, 0, none⟩ = some (.int .i64 a0_0) := bc BK801 0
            have hcz7_1 : wr.cell? ⟨gb801, 1, none⟩ = some (.slice A0_1 l0_1.length c0_1) := bc BK801 1
            have hfz7_0 := zq6 BK801.out 0
            have hfz7_1 := zq6 BK801.out 1
            have p802 : 0 ≤ (x6_1 : Int) := of_decide_eq_true ‹_›
            have q802 : x6_1 < (l0_1.length : Int) := of_decide_eq_true ‹_›
            obtain ⟨ad802, A802_4, c802_4, A802_5, c802_5, A802_6, c802_6, e802, hx802_0, hx802_1, hx802_2, hx802_3, hx802_4, hx802_5, hx802_6, hl802_4, hi802_4, hl802_5, hi802_5, hl802_6, hi802_6⟩ := at_T32 HR0_1.out x6_1 p802 q802
            cases e802; replace hx802_0 := hcl HB hx802_0; replace hx802_1 := hcl HB hx802_1; replace hx802_2 := hcl HB hx802_2; replace hx802_3 := hcl HB hx802_3; replace hx802_4 := hcl HB hx802_4; replace hx802_5 := hcl HB hx802_5; replace hx802_6 := hcl HB hx802_6; have HR802_4 := zq9 hi802_4; have HC802_4 := zq9 hl802_4; clear hi802_4 hl802_4; have HR802_5 := zq9 hi802_5; have HC802_5 := zq9 hl802_5
            clear hi802_5 hl802_5; have HR802_6 := zq9 hi802_6; have HC802_6 := zq9 hl802_6; clear hi802_6 hl802_6; replace p802 := eq_true p802; replace q802 := eq_true q802
            go_wp2
            repeat (go_quiet (fail); try go_wp2)
            go_roundg k1
            case measure => have := HK1.out; omega
            case rel => exact ⟨(wrap64 (x6_1 + 1)), (by first | rfl | (simp; done) | (simp [*]; done)), H', ⟨by have := HK1.out; omega⟩, ⟨by refine bp ?_; exact BK801.out⟩, ⟨by exact b1 HB GE801⟩⟩
          · rw [if_neg c6] at H
            have c6b0 : (Op.bytesLess (((rd_T32 l0_1 x6_1).f0).toList) a1.toList) = false := by simpa using c6
            clear c6
            simp only [Option.some.injEq, Prod.mk.injEq] at H
            obtain ⟨rfl, rfl⟩ := H
            have hcz8_0 : wr.cell? ⟨gb801, 0, none⟩ = some (.int .i64 a0_0) := bc BK801 0
            have hcz8_1 : wr.cell? ⟨gb801, 1, none⟩ = some (.slice A0_1 l0_1.length c0_1) := bc BK801 1
            have hfz8_0 := zq6 BK801.out 0
            have hfz8_1 := zq6 BK801.out 1
            have p802 : 0 ≤ (x6_1 : Int) := of_decide_eq_true ‹_›
            have q802 : x6_1 < (l0_1.length : Int) := of_decide_eq_true ‹_›
            obtain ⟨ad802, A802_4, c802_4, A802_5, c802_5, A802_6, c802_6, e802, hx802_0, hx802_1, hx802_2, hx802_3, hx802_4, hx802_5, hx802_6, hl802_4, hi802_4, hl802_5, hi802_5, hl802_6, hi802_6⟩ := at_T32 HR0_1.out x6_1 p802 q802
            cases e802; replace hx802_0 := hcl HB hx802_0; replace hx802_1 := hcl HB hx802_1; replace hx802_2 := hcl HB hx802_2; replace hx802_3 := hcl HB hx802_3; replace hx802_4 := hcl HB hx802_4; replace hx802_5 := hcl HB hx802_5; replace hx802_6 := hcl HB hx802_6; have HR802_4 := zq9 hi802_4; have HC802_4 := zq9 hl802_4; clear hi802_4 hl802_4; have HR802_5 := zq9 hi802_5; have HC802_5 := zq9 hl802_5
            clear hi802_5 hl802_5; have HR802_6 := zq9 hi802_6; have HC802_6 := zq9 hl802_6; clear hi802_6 hl802_6; replace p802 := eq_true p802; replace q802 := eq_true q802
            have p803 : 0 ≤ (x6_1 : Int) := of_decide_eq_true ‹_›
            have q803 : x6_1 < (l0_1.length : Int) := of_decide_eq_true ‹_›
            obtain ⟨ad803, A803_4, c803_4, A803_5, c803_5, A803_6, c803_6, e803, hx803_0, hx803_1, hx803_2, hx803_3, hx803_4, hx803_5, hx803_6, hl803_4, hi803_4, hl803_5, hi803_5, hl803_6, hi803_6⟩ := at_T32 HR0_1.out x6_1 p803 q803
            obtain rfl : ad802 = ad803 := (by injection e803)
            replace hx803_0 := hcl HB hx803_0; replace hx803_1 := hcl HB hx803_1; replace hx803_2 := hcl HB hx803_2; replace hx803_3 := hcl HB hx803_3; replace hx803_4 := hcl HB hx803_4; replace hx803_5 := hcl HB hx803_5; replace hx803_6 := hcl HB hx803_6; have HR803_4 := zq9 hi803_4; have HC803_4 := zq9 hl803_4; clear hi803_4 hl803_4; have HR803_5 := zq9 hi803_5; have HC803_5 := zq9 hl803_5; clear hi803_5 hl803_5
            have HR803_6 := zq9 hi803_6; have HC803_6 := zq9 hl803_6; clear hi803_6 hl803_6; replace p803 := eq_true p803; replace q803 := eq_true q803
            have ea_ := Option.some.inj (hx802_4.symm.trans hx803_4)
            injection ea_ with ea_ en_ ec_
            subst ea_; subst ec_; clear en_
            have ea_ := Option.some.inj (hx802_5.symm.trans hx803_5)
            injection ea_ with ea_ en_ ec_
            subst ea_; subst ec_; clear en_
            have ea_ := Option.some.inj (hx802_6.symm.trans hx803_6)
            injection ea_ with ea_ en_ ec_
            subst ea_; subst ec_; clear en_
            go_wp2
            repeat (go_quiet (fail); try go_wp2)
            go_ret2
            exact fz (by exact b1 HB GE801)
        · rw [if_neg c5] at H
          exact absurd H (by simp)
      · rw [if_neg c4] at H; have c4b0 : decide (x6_1 < (l0_1.length : Int)) = false := decide_eq_false c4; clear c4
        simp only [Option.some.injEq, Prod.mk.injEq] at H
        obtain ⟨rfl, rfl⟩ := H
        have hcz9_0 : wr.cell? ⟨gb801, 0, none⟩ = some (.int .i64 a0_0) := bc BK801 0
        have hcz9_1 : wr.cell? ⟨gb801, 1, none⟩ = some (.slice A0_1 l0_1.length c0_1) := bc BK801 1
        have hfz9_0 := zq6 BK801.out 0
        have hfz9_1 := zq6 BK801.out 1
        go_wp2
        repeat (go_quiet (fail); try go_wp2)
        go_ret2
        exact fz (by exact b1 HB GE801)
set_option maxHeartbeats 8000000 in
set_option maxRecDepth 100000 in
theorem spec_l2Copy.calls (A0 : Option Addr) (c0 : Nat) (l0 : List ByteArray) (r : List ByteArray) (w : World) (hr0 : Kd.C Kd.string w A0 l0.length l0) (hc0 : l0.length ≤ c0) (h : spec_l2Copy.f l0 = some r) :
    Calls Try.prog 116 #[.slice A0 l0.length c0] w fun e w' => ∃ v0_ : Value, e = .returned (v0_) ∧ Kd.R Kd.string 9 w' w.heap.size (fun _ => True) v0_ r ∧ Below w.heap.size w w' := by
  have HR0 := zq9 hr0; have HC0 := zq9 hc0; clear hr0 hc0
  have HB := zq9 (Below.refl w.heap.size w)
  have H : ((some (([] : List ByteArray) : List ByteArray)).bind fun y804 => (if y804.length + l0.length < 8796093022208 then (some (y804 ++ l0)) else (none))) = some r := h
  clear h
  obtain ⟨y804, hy804⟩ : ∃ y_ : List ByteArray, y_ = (([] : List ByteArray)) := ⟨_, rfl⟩
  replace H : (if y804.length + l0.length < 8796093022208 then (some (y804 ++ l0)) else (none)) = some r := by first | (rw [hy804]; with_reducible exact H) | (have H2_ := (Option.bind_some _ _).symm.trans H; rw [hy804]; with_reducible exact H2_) | (have H2_ := (Option.bind_some _ _).symm.trans H; with_reducible exact H2_) | with_reducible exact H | (rw [hy804]; exact H) | exact H
  have Ny804 := zq9 hy804; clear hy804
  by_cases c2 : y804.length + l0.length < 8796093022208
  · rw [if_pos c2] at H; have LMc2 := zq9 c2; clear c2
    obtain ⟨y807, hy807⟩ : ∃ y_ : List ByteArray, y_ = (y804 ++ l0) := ⟨_, rfl⟩
    replace H : (some y807) = some r := by first | (rw [hy807]; with_reducible exact H) | (have H2_ := (Option.bind_some _ _).symm.trans H; rw [hy807]; with_reducible exact H2_) | (have H2_ := (Option.bind_some _ _).symm.trans H; with_reducible exact H2_) | with_reducible exact H | (rw [hy807]; exact H) | exact H
    have Ny807 := zq9 hy807; clear hy807; obtain rfl := Option.some.inj H
    go_enter Try.func116, Try.ntmps116
    go_wp2_with (first | ((with_reducible refine zq25 (N := 3) rfl ?_); refine Kd.R_lit Kd.string _ 9 ?hg (N := 3) ?hd (xs := ([] : List ByteArray)) (inner := []) (ok := fun _ => True) (okp := fun _ => True) ?hr ?hp (fun _ hk => hk) trivial (Below.refl _ _) (Nat.le_refl _) (by simp) ?_; (case hd => rfl); (case hg => rfl); (case hr => first | (go_simp; done) | (go_simp; rfl)); (case hp => exact (Reps.none _ _)); intro v805 w3 ho4 hb hg_ hnew_; clear hg_ hnew_; (first | rw [← Ny804.out] at ho4 | (simp only [Int.reduceToNat] at ho4; rw [← Ny804.out] at ho4)); have n0_ := zq9 (Kd.R_lower ho4 (zq29 (by exact bl HB))); have n1_ := zq9 (zq27 (by exact bl HB) hb); clear HB; have HO806 := n0_; have HB := n1_; clear n0_ n1_; clear hb ho4) | ((with_reducible refine gate_builtin (b := .append) (xs := #[.tmp 3, .tmp 4]) rfl ?_); at_builtin; refine Kd.R_append_rows Kd.string (w0 := w) w.heap.size rfl (.tmp 3) (.tmp 4) 22 9 (.string ⟨#[]⟩) 16 rfl Try.underlying22 info9 rfl (by decide) (by omega) v805 y804 l0 _ _ _ (fun _ => True) (fun _ => False) rfl rfl ?aO ?aR (fun _ _ h => h) (fun _ h => h.elim) ?aF ?aB ?aS ?aL ?_; (case aR => exact kc HR0 HB); (case aB => exact (by exact bl HB)); (case aF => exact (fun _ _ => trivial)); (case aO => exact (by exact rz HO806)); (case aS => exact (zq29 (by exact bl HB))); (case aL => have := LMc2.out; omega); intro v808 w5 ho hb hg hat; rw [← Ny807.out] at ho; have n0_ := zq9 (hb); have n1_ := zq9 (ho); clear HB; clear HO806; have HB := n0_; have HO809 := n1_; clear n0_ n1_; clear ho hb hg hat))
    go_ret
    exact ⟨_, by first | rfl | (simp [errW_none, errW_some] <;> rfl) | (simp [*, errW_none, errW_some] <;> rfl), by (with_reducible repeat (first | apply zq10 | apply zq11 | apply zq12)); exact HO809.out, by exact bl HB⟩
  · rw [if_neg c2] at H
    exact absurd H (by simp)
set_option maxHeartbeats 8000000 in
set_option maxRecDepth 100000 in
theorem spec_l4Entry.calls (a0_0 : ByteArray) (a0_1 : Int) (a0_2 : Int) (a0_3 : ByteArray) (A0_4 : Option Addr) (c0_4 : Nat) (l0_4 : List ByteArray) (A0_5 : Option Addr) (c0_5 : Nat) (l0_5 : List (S99)) (A0_6 : Option Addr) (c0_6 : Nat) (l0_6 : List (S101)) (r1 : ByteArray) (r2 : Int) (r3 : Int) (r4 : ByteArray) (r5 : List ByteArray) (r6 : List (S99)) (r7 : List (S101)) (w : World) (hr0_4 : Kd.C Kd.string w A0_4 l0_4.length l0_4) (hc0_4 : l0_4.length ≤ c0_4) (hr0_5 : Kd.C k99 w A0_5 l0_5.length l0_5) (hc0_5 : l0_5.length ≤ c0_5) (hr0_6 : Kd.C k101 w A0_6 l0_6.length l0_6) (hc0_6 : l0_6.length ≤ c0_6) (h : spec_l4Entry.f a0_0 a0_1 a0_2 a0_3 l0_4 l0_5 l0_6 = some (r1, r2, r3, r4, r5, r6, r7)) :
    Calls Try.prog 98 #[.agg #[.string a0_0, .int .i64 a0_1, .int .i64 a0_2, .string a0_3, .slice A0_4 l0_4.length c0_4, .slice A0_5 l0_5.length c0_5, .slice A0_6 l0_6.length c0_6]] w fun e w' => ∃ v4_ v5_ v6_ : Value, e = .returned (.agg #[.string r1, .int .i64 r2, .int .i64 r3, .string r4, v4_, v5_, v6_]) ∧ Kd.R Kd.string 9 w' w.heap.size (fun _ => True) v4_ r5 ∧ Kd.R k99 99 w' w.heap.size (fun _ => True) v5_ r6 ∧ Kd.R k101 101 w' w.heap.size (fun _ => True) v6_ r7 ∧ Below w.heap.size w w' := by
  have hu32 := Try.underlying32; have HR0_4 := zq9 hr0_4; have HC0_4 := zq9 hc0_4; clear hr0_4 hc0_4; have HR0_5 := zq9 hr0_5; have HC0_5 := zq9 hc0_5; clear hr0_5 hc0_5; have HR0_6 := zq9 hr0_6; have HC0_6 := zq9 hc0_6; clear hr0_6 hc0_6
  have HB := zq9 (Below.refl w.heap.size w)
  have H : ((spec_l2Copy.f l0_4).bind fun t812 => ((some (([] : List (S99)) : List (S99))).bind fun y815 => (if y815.length + l0_5.length < 5864062014805 then ((some (([] : List (S101)) : List (S101))).bind fun y821 => (if y821.length + l0_6.length < 4398046511104 then (some (a0_0, a0_1, a0_2, a0_3, t812, (y815 ++ l0_5), (y821 ++ l0_6))) else (none))) else (none)))) = some (r1, r2, r3, r4, r5, r6, r7) := h
  clear h; replace H := Option.bind_eq_some_iff.mp H; obtain ⟨t812, A20, H⟩ := H
  try dsimp only at H
  have A2 := zq9 A20; clear A20
  obtain ⟨y815, hy815⟩ : ∃ y_ : List (S99), y_ = (([] : List (S99))) := ⟨_, rfl⟩
  replace H : (if y815.length + l0_5.length < 5864062014805 then ((some (([] : List (S101)) : List (S101))).bind fun y821 => (if y821.length + l0_6.length < 4398046511104 then (some (a0_0, a0_1, a0_2, a0_3, t812, (y815 ++ l0_5), (y821 ++ l0_6))) else (none))) else (none)) = some (r1, r2, r3, r4, r5, r6, r7) := by first | (rw [hy815]; with_reducible exact H) | (have H2_ := (Option.bind_some _ _).symm.trans H; rw [hy815]; with_reducible exact H2_) | (have H2_ := (Option.bind_some _ _).symm.trans H; with_reducible exact H2_) | with_reducible exact H | (rw [hy815]; exact H) | exact H
  have Ny815 := zq9 hy815; clear hy815
  by_cases c3 : y815.length + l0_5.length < 5864062014805
  · rw [if_pos c3] at H; have LMc3 := zq9 c3; clear c3
    obtain ⟨y818, hy818⟩ : ∃ y_ : List (S99), y_ = (y815 ++ l0_5) := ⟨_, rfl⟩
    replace H : ((some (([] : List (S101)) : List (S101))).bind fun y821 => (if y821.length + l0_6.length < 4398046511104 then (some (a0_0, a0_1, a0_2, a0_3, t812, y818, (y821 ++ l0_6))) else (none))) = some (r1, r2, r3, r4, r5, r6, r7) := by first | (rw [hy818]; with_reducible exact H) | (have H2_ := (Option.bind_some _ _).symm.trans H; rw [hy818]; with_reducible exact H2_) | (have H2_ := (Option.bind_some _ _).symm.trans H; with_reducible exact H2_) | with_reducible exact H | (rw [hy818]; exact H) | exact H
    have Ny818 := zq9 hy818; clear hy818
    obtain ⟨y821, hy821⟩ : ∃ y_ : List (S101), y_ = (([] : List (S101))) := ⟨_, rfl⟩
    replace H : (if y821.length + l0_6.length < 4398046511104 then (some (a0_0, a0_1, a0_2, a0_3, t812, y818, (y821 ++ l0_6))) else (none)) = some (r1, r2, r3, r4, r5, r6, r7) := by first | (rw [hy821]; with_reducible exact H) | (have H2_ := (Option.bind_some _ _).symm.trans H; rw [hy821]; with_reducible exact H2_) | (have H2_ := (Option.bind_some _ _).symm.trans H; with_reducible exact H2_) | with_reducible exact H | (rw [hy821]; exact H) | exact H
    have Ny821 := zq9 hy821; clear hy821
    by_cases c4 : y821.length + l0_6.length < 4398046511104
    · rw [if_pos c4] at H; have LMc4 := zq9 c4; clear c4
      obtain ⟨y824, hy824⟩ : ∃ y_ : List (S101), y_ = (y821 ++ l0_6) := ⟨_, rfl⟩
      replace H : (some (a0_0, a0_1, a0_2, a0_3, t812, y818, y824)) = some (r1, r2, r3, r4, r5, r6, r7) := by first | (rw [hy824]; with_reducible exact H) | (have H2_ := (Option.bind_some _ _).symm.trans H; rw [hy824]; with_reducible exact H2_) | (have H2_ := (Option.bind_some _ _).symm.trans H; with_reducible exact H2_) | with_reducible exact H | (rw [hy824]; exact H) | exact H
      have Ny824 := zq9 hy824; clear hy824
      simp only [Option.some.injEq, Prod.mk.injEq] at H
      obtain ⟨rfl, rfl, rfl, rfl, rfl, rfl, rfl⟩ := H
      go_enter Try.func98, Try.ntmps98
      go_wp2_with (first | ((with_reducible refine zq25 (N := 1) rfl ?_); refine bx 1 #[.string a0_0, .int .i64 a0_1, .int .i64 a0_2, .string a0_3, .slice A0_4 l0_4.length c0_4, .slice A0_5 l0_5.length c0_5, .slice A0_6 l0_6.length c0_6] 32 ?_; intro gb810 hg w5 hbox hb; have n0_ := zq9 (zq27 (by exact bl HB) hb); have n1_ := zq9 (hbox); have n2_ := zq9 ((by rw [hg]; exact (zq29 (by exact bl HB)) : w.heap.size ≤ gb810)); have n3_ := n2_; clear HB; have HB := n0_; have BK810 := n1_; have GW810 := n2_; have GE810 := n3_; clear n0_ n1_ n2_ n3_; clear hb hbox hg) | ((with_reducible refine zq25 (N := 2) rfl ?_); refine bx 2 #[.string (⟨#[]⟩ : ByteArray), .int .i64 0, .int .i64 0, .string (⟨#[]⟩ : ByteArray), .slice none 0 0, .slice none 0 0, .slice none 0 0] 32 ?_; intro gb811 hg w6 hbox hb; have n0_ := zq9 (zq30 (g := gb810) (o := .cells #[.string a0_0, .int .i64 a0_1, .int .i64 a0_2, .string a0_3, .slice A0_4 l0_4.length c0_4, .slice A0_5 l0_5.length c0_5, .slice A0_6 l0_6.length c0_6] 32 (0, 0)) (by exact bk BK810) hb); have n1_ := zq9 (zq27 (by exact b1 HB GE810) hb); have n2_ := zq9 (hbox); have n3_ := zq9 ((by rw [hg]; exact (zq29 (by exact b1 HB GE810)) : w.heap.size ≤ gb811)); have n4_ := n3_; have n5_ := zq9 ((by rw [hg]; exact Nat.ne_of_lt (blk_lt (g := gb810) (o := .cells #[.string a0_0, .int .i64 a0_1, .int .i64 a0_2, .string a0_3, .slice A0_4 l0_4.length c0_4, .slice A0_5 l0_5.length c0_5, .slice A0_6 l0_6.length c0_6] 32 (0, 0)) (by exact bk BK810)) : gb810 ≠ gb811)); have n6_ := zq9 ((by rw [hg]; exact Nat.ne_of_gt (blk_lt (g := gb810) (o := .cells #[.string a0_0, .int .i64 a0_1, .int .i64 a0_2, .string a0_3, .slice A0_4 l0_4.length c0_4, .slice A0_5 l0_5.length c0_5, .slice A0_6 l0_6.length c0_6] 32 (0, 0)) (by exact bk BK810)) : gb811 ≠ gb810)); clear BK810; clear HB; have BK810 := n0_; have HB := n1_; have BK811 := n2_; have GW811 := n3_; have GE811 := n4_; have NB810_811 := n5_; have NB811_810 := n6_; clear n0_ n1_ n2_ n3_ n4_ n5_ n6_; clear hb hbox hg; have hnb7 := NB810_811.out; have hnc7 := NB811_810.out; have hcz8_0 : w6.cell? ⟨gb810, 0, none⟩ = some (.string a0_0) := bc BK810 0; have hcz8_1 : w6.cell? ⟨gb810, 1, none⟩ = some (.int .i64 a0_1) := bc BK810 1; have hcz8_2 : w6.cell? ⟨gb810, 2, none⟩ = some (.int .i64 a0_2) := bc BK810 2; have hcz8_3 : w6.cell? ⟨gb810, 3, none⟩ = some (.string a0_3) := bc BK810 3; have hcz8_4 : w6.cell? ⟨gb810, 4, none⟩ = some (.slice A0_4 l0_4.length c0_4) := bc BK810 4; have hcz8_5 : w6.cell? ⟨gb810, 5, none⟩ = some (.slice A0_5 l0_5.length c0_5) := bc BK810 5; have hcz8_6 : w6.cell? ⟨gb810, 6, none⟩ = some (.slice A0_6 l0_6.length c0_6) := bc BK810 6; have hfz8_0 := zq6 BK810.out 0; have hfz8_1 := zq6 BK810.out 1; have hfz8_2 := zq6 BK810.out 2; have hfz8_3 := zq6 BK810.out 3; have hfz8_4 := zq6 BK810.out 4; have hfz8_5 := zq6 BK810.out 5; have hfz8_6 := zq6 BK810.out 6) | ((with_reducible refine zq24 (f := 116) rfl ?_); refine gl (some 5) Try.func116 #[.slice A0_4 l0_4.length c0_4] ?_; (with_reducible refine (spec_l2Copy.calls _ _ l0_4 t812 _ ?side1 ?side2 A2.out).mono ?_); (case side1 => exact kc HR0_4 HB); (case side2 => exact HC0_4.out); rintro e w9 ⟨v813, rfl, ho0, hb⟩; refine ⟨_, rfl, ?_⟩; have n0_ := zq9 (Kd.R_lower ho0 (zq29 (by exact b2 HB GE810 GE811))); have n1_ := zq9 (zq30 (g := gb810) (o := .cells #[.string a0_0, .int .i64 a0_1, .int .i64 a0_2, .string a0_3, .slice A0_4 l0_4.length c0_4, .slice A0_5 l0_5.length c0_5, .slice A0_6 l0_6.length c0_6] 32 (0, 0)) (by exact bk BK810) hb); have n2_ := zq9 (zq30 (g := gb811) (o := .cells #[.string (⟨#[]⟩ : ByteArray), .int .i64 0, .int .i64 0, .string (⟨#[]⟩ : ByteArray), .slice none 0 0, .slice none 0 0, .slice none 0 0] 32 (0, 0)) (by exact bk BK811) hb); have n3_ := zq9 (zq27 (by exact b2 HB GE810 GE811) hb); clear BK810; clear BK811; clear HB; have HO814 := n0_; have BK810 := n1_; have BK811 := n2_; have HB := n3_; clear n0_ n1_ n2_ n3_; (try clear hb); (try clear hb2); (try clear hk); (try clear hi); (try clear ho0); obtain ⟨Ao10, co10, eo10⟩ := Kd.R_slice HO814.out; subst eo10; have hcz11_0 : w9.cell? ⟨gb810, 0, none⟩ = some (.string a0_0) := bc BK810 0; have hcz11_1 : w9.cell? ⟨gb810, 1, none⟩ = some (.int .i64 a0_1) := bc BK810 1; have hcz11_2 : w9.cell? ⟨gb810, 2, none⟩ = some (.int .i64 a0_2) := bc BK810 2; have hcz11_3 : w9.cell? ⟨gb810, 3, none⟩ = some (.string a0_3) := bc BK810 3; have hcz11_4 : w9.cell? ⟨gb810, 4, none⟩ = some (.slice A0_4 l0_4.length c0_4) := bc BK810 4; have hcz11_5 : w9.cell? ⟨gb810, 5, none⟩ = some (.slice A0_5 l0_5.length c0_5) := bc BK810 5; have hcz11_6 : w9.cell? ⟨gb810, 6, none⟩ = some (.slice A0_6 l0_6.length c0_6) := bc BK810 6; have hfz11_0 := zq6 BK810.out 0; have hfz11_1 := zq6 BK810.out 1; have hfz11_2 := zq6 BK810.out 2; have hfz11_3 := zq6 BK810.out 3; have hfz11_4 := zq6 BK810.out 4; have hfz11_5 := zq6 BK810.out 5; have hfz11_6 := zq6 BK810.out 6) | ((with_reducible refine zq25 (N := 7) rfl ?_); refine Kd.R_lit k99 _ 99 ?hg (N := 7) ?hd (xs := ([] : List (S99))) (inner := []) (ok := fun _ => True) (okp := fun _ => True) ?hr ?hp (fun _ hk => hk) trivial (Below.refl _ _) (Nat.le_refl _) (by simp) ?_; (case hd => rfl); (case hg => rfl); (case hr => first | (go_simp; done) | (go_simp; rfl)); (case hp => exact (Reps.none _ _)); intro v816 w12 ho13 hb hg_ hnew_; clear hg_ hnew_; (first | rw [← Ny815.out] at ho13 | (simp only [Int.reduceToNat] at ho13; rw [← Ny815.out] at ho13)); have n0_ := zq9 (Kd.R_below (by (with_reducible repeat (first | apply zq10 | apply zq11 | apply zq12)); exact (Kd.R_mono (Kd.R_far (p := ⟨gb810, 4, none⟩) (Kd.R_types HO814.out BK810.out (by decide)) (fun _ hk => hk.2) (.slice Ao10 t812.length co10)) (fun _ h_ => h_.1))) hb); have n1_ := zq9 (Kd.R_lower ho13 (zq29 (by exact b2 HB GE810 GE811))); have n2_ := zq9 (zq30 (g := gb810) (o := .cells #[.string a0_0, .int .i64 a0_1, .int .i64 a0_2, .string a0_3, .slice Ao10 t812.length co10, .slice A0_5 l0_5.length c0_5, .slice A0_6 l0_6.length c0_6] 32 (0, 0)) (by refine bp ?_; refine blk_put (cs := #[.string a0_0, .int .i64 a0_1, .int .i64 a0_2, .string a0_3, .slice A0_4 l0_4.length c0_4, .slice A0_5 l0_5.length c0_5, .slice A0_6 l0_6.length c0_6]) ?_ 4 _ rfl; refine bp ?_; exact BK810.out) hb); have n3_ := zq9 (zq30 (g := gb811) (o := .cells #[.string (⟨#[]⟩ : ByteArray), .int .i64 0, .int .i64 0, .string (⟨#[]⟩ : ByteArray), .slice none 0 0, .slice none 0 0, .slice none 0 0] 32 (0, 0)) (by refine bp ?_; refine blk_far ?_ NB811_810.out _; refine bp ?_; exact BK811.out) hb); have n4_ := zq9 (zq27 (by exact b2 HB GE810 GE811) hb); clear HO814; clear BK810; clear BK811; clear HB; have HO814 := n0_; have HO817 := n1_; have BK810 := n2_; have BK811 := n3_; have HB := n4_; clear n0_ n1_ n2_ n3_ n4_; clear hb ho13; have hcz14_0 : w12.cell? ⟨gb810, 0, none⟩ = some (.string a0_0) := bc BK810 0; have hcz14_1 : w12.cell? ⟨gb810, 1, none⟩ = some (.int .i64 a0_1) := bc BK810 1; have hcz14_2 : w12.cell? ⟨gb810, 2, none⟩ = some (.int .i64 a0_2) := bc BK810 2; have hcz14_3 : w12.cell? ⟨gb810, 3, none⟩ = some (.string a0_3) := bc BK810 3; have hcz14_4 : w12.cell? ⟨gb810, 4, none⟩ = some (.slice Ao10 t812.length co10) := bc BK810 4; have hcz14_5 : w12.cell? ⟨gb810, 5, none⟩ = some (.slice A0_5 l0_5.length c0_5) := bc BK810 5; have hcz14_6 : w12.cell? ⟨gb810, 6, none⟩ = some (.slice A0_6 l0_6.length c0_6) := bc BK810 6; have hfz14_0 := zq6 BK810.out 0; have hfz14_1 := zq6 BK810.out 1; have hfz14_2 := zq6 BK810.out 2; have hfz14_3 := zq6 BK810.out 3; have hfz14_4 := zq6 BK810.out 4; have hfz14_5 := zq6 BK810.out 5; have hfz14_6 := zq6 BK810.out 6) | ((with_reducible refine gate_builtin (b := .append) (xs := #[.tmp 7, .tmp 9]) rfl ?_); at_builtin; refine Kd.R_append_rows k99 (w0 := w) w.heap.size rfl (.tmp 7) (.tmp 9) 29 99 (.agg #[(.string ⟨#[]⟩), (.int .i64 0)]) 24 rfl Try.underlying29 info99 rfl (by decide) (by omega) v816 y815 l0_5 _ _ _ (fun _ => True) (fun _ => False) rfl rfl ?aO ?aR (fun _ _ h => h) (fun _ h => h.elim) ?aF ?aB ?aS ?aL ?_; (case aR => exact kc HR0_5 HB); (case aB => exact (by exact b2 HB GE810 GE811)); (case aF => exact (fun _ _ => trivial)); (case aO => exact (by exact rz HO817)); (case aS => exact (zq29 (by exact b2 HB GE810 GE811))); (case aL => have := LMc3.out; omega); intro v819 w15 ho hb hg hat; rw [← Ny818.out] at ho; have n0_ := zq9 (blk_grown (g := gb810) (o := .cells #[.string a0_0, .int .i64 a0_1, .int .i64 a0_2, .string a0_3, .slice Ao10 t812.length co10, .slice A0_5 l0_5.length c0_5, .slice A0_6 l0_6.length c0_6] 32 (0, 0)) (by exact bk BK810) hg (Kd.R_ne HO817.out BK810.out (by decide))); have n1_ := zq9 (blk_grown (g := gb811) (o := .cells #[.string (⟨#[]⟩ : ByteArray), .int .i64 0, .int .i64 0, .string (⟨#[]⟩ : ByteArray), .slice none 0 0, .slice none 0 0, .slice none 0 0] 32 (0, 0)) (by exact bk BK811) hg (Kd.R_ne HO817.out BK811.out (by decide))); have n2_ := zq9 (Kd.R_over' (by exact rz HO814) (Kd.R_typed (by exact rz HO817)) (by decide) hg); have n3_ := zq9 (hb); have n4_ := zq9 (ho); clear BK810; clear BK811; clear HO814; clear HB; clear HO817; have BK810 := n0_; have BK811 := n1_; have HO814 := n2_; have HB := n3_; have HO820 := n4_; clear n0_ n1_ n2_ n3_ n4_; clear ho hb hg hat; obtain ⟨Ao16, co16, eo16⟩ := Kd.R_slice HO820.out; subst eo16; have hcz17_0 : w15.cell? ⟨gb810, 0, none⟩ = some (.string a0_0) := bc BK810 0; have hcz17_1 : w15.cell? ⟨gb810, 1, none⟩ = some (.int .i64 a0_1) := bc BK810 1; have hcz17_2 : w15.cell? ⟨gb810, 2, none⟩ = some (.int .i64 a0_2) := bc BK810 2; have hcz17_3 : w15.cell? ⟨gb810, 3, none⟩ = some (.string a0_3) := bc BK810 3; have hcz17_4 : w15.cell? ⟨gb810, 4, none⟩ = some (.slice Ao10 t812.length co10) := bc BK810 4; have hcz17_5 : w15.cell? ⟨gb810, 5, none⟩ = some (.slice A0_5 l0_5.length c0_5) := bc BK810 5; have hcz17_6 : w15.cell? ⟨gb810, 6, none⟩ = some (.slice A0_6 l0_6.length c0_6) := bc BK810 6; have hfz17_0 := zq6 BK810.out 0; have hfz17_1 := zq6 BK810.out 1; have hfz17_2 := zq6 BK810.out 2; have hfz17_3 := zq6 BK810.out 3; have hfz17_4 := zq6 BK810.out 4; have hfz17_5 := zq6 BK810.out 5; have hfz17_6 := zq6 BK810.out 6) | ((with_reducible refine zq25 (N := 12) rfl ?_); refine Kd.R_lit k101 _ 101 ?hg (N := 12) ?hd (xs := ([] : List (S101))) (inner := []) (ok := fun _ => True) (okp := fun _ => True) ?hr ?hp (fun _ hk => hk) trivial (Below.refl _ _) (Nat.le_refl _) (by simp) ?_; (case hd => rfl); (case hg => rfl); (case hr => first | (go_simp; done) | (go_simp; rfl)); (case hp => exact (Reps.none _ _)); intro v822 w18 ho19 hb hg_ hnew_; clear hg_ hnew_; (first | rw [← Ny821.out] at ho19 | (simp only [Int.reduceToNat] at ho19; rw [← Ny821.out] at ho19)); have n0_ := zq9 (Kd.R_below (by (with_reducible repeat (first | apply zq10 | apply zq11 | apply zq12)); exact (Kd.R_mono (Kd.R_far (p := ⟨gb810, 5, none⟩) (Kd.R_types HO814.out BK810.out (by decide)) (fun _ hk => hk.2) (.slice Ao16 y818.length co16)) (fun _ h_ => h_.1))) hb); have n1_ := zq9 (Kd.R_below (by (with_reducible repeat (first | apply zq10 | apply zq11 | apply zq12)); exact (Kd.R_mono (Kd.R_far (p := ⟨gb810, 5, none⟩) (Kd.R_types HO820.out BK810.out (by decide)) (fun _ hk => hk.2) (.slice Ao16 y818.length co16)) (fun _ h_ => h_.1))) hb); have n2_ := zq9 (Kd.R_lower ho19 (zq29 (by exact b2 HB GE810 GE811))); have n3_ := zq9 (zq30 (g := gb810) (o := .cells #[.string a0_0, .int .i64 a0_1, .int .i64 a0_2, .string a0_3, .slice Ao10 t812.length co10, .slice Ao16 y818.length co16, .slice A0_6 l0_6.length c0_6] 32 (0, 0)) (by refine bp ?_; refine blk_put (cs := #[.string a0_0, .int .i64 a0_1, .int .i64 a0_2, .string a0_3, .slice Ao10 t812.length co10, .slice A0_5 l0_5.length c0_5, .slice A0_6 l0_6.length c0_6]) ?_ 5 _ rfl; refine bp ?_; exact BK810.out) hb); have n4_ := zq9 (zq30 (g := gb811) (o := .cells #[.string (⟨#[]⟩ : ByteArray), .int .i64 0, .int .i64 0, .string (⟨#[]⟩ : ByteArray), .slice none 0 0, .slice none 0 0, .slice none 0 0] 32 (0, 0)) (by refine bp ?_; refine blk_far ?_ NB811_810.out _; refine bp ?_; exact BK811.out) hb); have n5_ := zq9 (zq27 (by exact b2 HB GE810 GE811) hb); clear HO814; clear HO820; clear BK810; clear BK811; clear HB; have HO814 := n0_; have HO820 := n1_; have HO823 := n2_; have BK810 := n3_; have BK811 := n4_; have HB := n5_; clear n0_ n1_ n2_ n3_ n4_ n5_; clear hb ho19; have hcz20_0 : w18.cell? ⟨gb810, 0, none⟩ = some (.string a0_0) := bc BK810 0; have hcz20_1 : w18.cell? ⟨gb810, 1, none⟩ = some (.int .i64 a0_1) := bc BK810 1; have hcz20_2 : w18.cell? ⟨gb810, 2, none⟩ = some (.int .i64 a0_2) := bc BK810 2; have hcz20_3 : w18.cell? ⟨gb810, 3, none⟩ = some (.string a0_3) := bc BK810 3; have hcz20_4 : w18.cell? ⟨gb810, 4, none⟩ = some (.slice Ao10 t812.length co10) := bc BK810 4; have hcz20_5 : w18.cell? ⟨gb810, 5, none⟩ = some (.slice Ao16 y818.length co16) := bc BK810 5; have hcz20_6 : w18.cell? ⟨gb810, 6, none⟩ = some (.slice A0_6 l0_6.length c0_6) := bc BK810 6; have hfz20_0 := zq6 BK810.out 0; have hfz20_1 := zq6 BK810.out 1; have hfz20_2 := zq6 BK810.out 2; have hfz20_3 := zq6 BK810.out 3; have hfz20_4 := zq6 BK810.out 4; have hfz20_5 := zq6 BK810.out 5; have hfz20_6 := zq6 BK810.out 6) | ((with_reducible refine gate_builtin (b := .append) (xs := #[.tmp 12, .tmp 14]) rfl ?_); at_builtin; refine Kd.R_append_rows k101 (w0 := w) w.heap.size rfl (.tmp 12) (.tmp 14) 30 101 (.agg #[(.string ⟨#[]⟩), (.string ⟨#[]⟩)]) 32 rfl Try.underlying30 info101 rfl (by decide) (by omega) v822 y821 l0_6 _ _ _ (fun _ => True) (fun _ => False) rfl rfl ?aO ?aR (fun _ _ h => h) (fun _ h => h.elim) ?aF ?aB ?aS ?aL ?_; (case aR => exact kc HR0_6 HB); (case aB => exact (by exact b2 HB GE810 GE811)); (case aF => exact (fun _ _ => trivial)); (case aO => exact (by exact rz HO823)); (case aS => exact (zq29 (by exact b2 HB GE810 GE811))); (case aL => have := LMc4.out; omega); intro v825 w21 ho hb hg hat; rw [← Ny824.out] at ho; have n0_ := zq9 (blk_grown (g := gb810) (o := .cells #[.string a0_0, .int .i64 a0_1, .int .i64 a0_2, .string a0_3, .slice Ao10 t812.length co10, .slice Ao16 y818.length co16, .slice A0_6 l0_6.length c0_6] 32 (0, 0)) (by exact bk BK810) hg (Kd.R_ne HO823.out BK810.out (by decide))); have n1_ := zq9 (blk_grown (g := gb811) (o := .cells #[.string (⟨#[]⟩ : ByteArray), .int .i64 0, .int .i64 0, .string (⟨#[]⟩ : ByteArray), .slice none 0 0, .slice none 0 0, .slice none 0 0] 32 (0, 0)) (by exact bk BK811) hg (Kd.R_ne HO823.out BK811.out (by decide))); have n2_ := zq9 (Kd.R_over' (by exact rz HO814) (Kd.R_typed (by exact rz HO823)) (by decide) hg); have n3_ := zq9 (Kd.R_over' (by exact rz HO820) (Kd.R_typed (by exact rz HO823)) (by decide) hg); have n4_ := zq9 (hb); have n5_ := zq9 (ho); clear BK810; clear BK811; clear HO814; clear HO820; clear HB; clear HO823; have BK810 := n0_; have BK811 := n1_; have HO814 := n2_; have HO820 := n3_; have HB := n4_; have HO826 := n5_; clear n0_ n1_ n2_ n3_ n4_ n5_; clear ho hb hg hat; obtain ⟨Ao22, co22, eo22⟩ := Kd.R_slice HO826.out; subst eo22; have hcz23_0 : w21.cell? ⟨gb810, 0, none⟩ = some (.string a0_0) := bc BK810 0; have hcz23_1 : w21.cell? ⟨gb810, 1, none⟩ = some (.int .i64 a0_1) := bc BK810 1; have hcz23_2 : w21.cell? ⟨gb810, 2, none⟩ = some (.int .i64 a0_2) := bc BK810 2; have hcz23_3 : w21.cell? ⟨gb810, 3, none⟩ = some (.string a0_3) := bc BK810 3; have hcz23_4 : w21.cell? ⟨gb810, 4, none⟩ = some (.slice Ao10 t812.length co10) := bc BK810 4; have hcz23_5 : w21.cell? ⟨gb810, 5, none⟩ = some (.slice Ao16 y818.length co16) := bc BK810 5; have hcz23_6 : w21.cell? ⟨gb810, 6, none⟩ = some (.slice A0_6 l0_6.length c0_6) := bc BK810 6; have hfz23_0 := zq6 BK810.out 0; have hfz23_1 := zq6 BK810.out 1; have hfz23_2 := zq6 BK810.out 2; have hfz23_3 := zq6 BK810.out 3; have hfz23_4 := zq6 BK810.out 4; have hfz23_5 := zq6 BK810.out 5; have hfz23_6 := zq6 BK810.out 6; have hcz24_0 : w21.cell? ⟨gb811, 0, none⟩ = some (.string (⟨#[]⟩ : ByteArray)) := bc BK811 0; have hcz24_1 : w21.cell? ⟨gb811, 1, none⟩ = some (.int .i64 0) := bc BK811 1; have hcz24_2 : w21.cell? ⟨gb811, 2, none⟩ = some (.int .i64 0) := bc BK811 2; have hcz24_3 : w21.cell? ⟨gb811, 3, none⟩ = some (.string (⟨#[]⟩ : ByteArray)) := bc BK811 3; have hcz24_4 : w21.cell? ⟨gb811, 4, none⟩ = some (.slice none 0 0) := bc BK811 4; have hcz24_5 : w21.cell? ⟨gb811, 5, none⟩ = some (.slice none 0 0) := bc BK811 5; have hcz24_6 : w21.cell? ⟨gb811, 6, none⟩ = some (.slice none 0 0) := bc BK811 6; have hfz24_0 := zq6 BK811.out 0; have hfz24_1 := zq6 BK811.out 1; have hfz24_2 := zq6 BK811.out 2; have hfz24_3 := zq6 BK811.out 3; have hfz24_4 := zq6 BK811.out 4; have hfz24_5 := zq6 BK811.out 5; have hfz24_6 := zq6 BK811.out 6))
      refine bodyPost_ret (results_cell_row rfl _ _ gb811 32 #[.string a0_0, .int .i64 a0_1, .int .i64 a0_2, .string a0_3, .slice Ao10 t812.length co10, .slice Ao16 y818.length co16, .slice Ao22 y824.length co22] (0, 0) _ rfl (by refine bp ?_; refine blk_put (cs := #[.string a0_0, .int .i64 a0_1, .int .i64 a0_2, .string a0_3, .slice Ao10 t812.length co10, .slice Ao16 y818.length co16, .slice none 0 0]) ?_ 6 _ rfl; refine bp ?_; refine blk_put (cs := #[.string a0_0, .int .i64 a0_1, .int .i64 a0_2, .string a0_3, .slice Ao10 t812.length co10, .slice none 0 0, .slice none 0 0]) ?_ 5 _ rfl; refine bp ?_; refine blk_put (cs := #[.string a0_0, .int .i64 a0_1, .int .i64 a0_2, .string a0_3, .slice none 0 0, .slice none 0 0, .slice none 0 0]) ?_ 4 _ rfl; refine bp ?_; refine blk_put (cs := #[.string a0_0, .int .i64 a0_1, .int .i64 a0_2, .string (⟨#[]⟩ : ByteArray), .slice none 0 0, .slice none 0 0, .slice none 0 0]) ?_ 3 _ rfl; refine bp ?_; refine blk_put (cs := #[.string a0_0, .int .i64 a0_1, .int .i64 0, .string (⟨#[]⟩ : ByteArray), .slice none 0 0, .slice none 0 0, .slice none 0 0]) ?_ 2 _ rfl; refine bp ?_; refine blk_put (cs := #[.string a0_0, .int .i64 0, .int .i64 0, .string (⟨#[]⟩ : ByteArray), .slice none 0 0, .slice none 0 0, .slice none 0 0]) ?_ 1 _ rfl; refine bp ?_; refine blk_put (cs := #[.string (⟨#[]⟩ : ByteArray), .int .i64 0, .int .i64 0, .string (⟨#[]⟩ : ByteArray), .slice none 0 0, .slice none 0 0, .slice none 0 0]) ?_ 0 _ rfl; refine bp ?_; refine blk_far ?_ NB811_810.out _; refine bp ?_; exact BK811.out) Try.underlying32 rfl (by kernel_rfl)) rfl ?_
      exact ⟨_, _, _, by first | rfl | (simp [errW_none, errW_some] <;> rfl) | (simp [*, errW_none, errW_some] <;> rfl), by (with_reducible repeat (first | apply zq10 | apply zq11 | apply zq12)); exact Kd.R_mono (Kd.R_far (p := ⟨gb811, 6, none⟩) (Kd.R_far (p := ⟨gb811, 5, none⟩) (Kd.R_far (p := ⟨gb811, 4, none⟩) (Kd.R_far (p := ⟨gb811, 3, none⟩) (Kd.R_far (p := ⟨gb811, 2, none⟩) (Kd.R_far (p := ⟨gb811, 1, none⟩) (Kd.R_far (p := ⟨gb811, 0, none⟩) (Kd.R_far (p := ⟨gb810, 6, none⟩) (Kd.R_types (Kd.R_types HO814.out BK810.out (by decide)) BK811.out (by decide)) (fun _ hk => hk.1.2) (.slice Ao22 y824.length co22)) (fun _ hk => hk.2) (.string a0_0)) (fun _ hk => hk.2) (.int .i64 a0_1)) (fun _ hk => hk.2) (.int .i64 a0_2)) (fun _ hk => hk.2) (.string a0_3)) (fun _ hk => hk.2) (.slice Ao10 t812.length co10)) (fun _ hk => hk.2) (.slice Ao16 y818.length co16)) (fun _ hk => hk.2) (.slice Ao22 y824.length co22)) (fun _ hk => trivial), by (with_reducible repeat (first | apply zq10 | apply zq11 | apply zq12)); exact Kd.R_mono (Kd.R_far (p := ⟨gb811, 6, none⟩) (Kd.R_far (p := ⟨gb811, 5, none⟩) (Kd.R_far (p := ⟨gb811, 4, none⟩) (Kd.R_far (p := ⟨gb811, 3, none⟩) (Kd.R_far (p := ⟨gb811, 2, none⟩) (Kd.R_far (p := ⟨gb811, 1, none⟩) (Kd.R_far (p := ⟨gb811, 0, none⟩) (Kd.R_far (p := ⟨gb810, 6, none⟩) (Kd.R_types (Kd.R_types HO820.out BK810.out (by decide)) BK811.out (by decide)) (fun _ hk => hk.1.2) (.slice Ao22 y824.length co22)) (fun _ hk => hk.2) (.string a0_0)) (fun _ hk => hk.2) (.int .i64 a0_1)) (fun _ hk => hk.2) (.int .i64 a0_2)) (fun _ hk => hk.2) (.string a0_3)) (fun _ hk => hk.2) (.slice Ao10 t812.length co10)) (fun _ hk => hk.2) (.slice Ao16 y818.length co16)) (fun _ hk => hk.2) (.slice Ao22 y824.length co22)) (fun _ hk => trivial), by (with_reducible repeat (first | apply zq10 | apply zq11 | apply zq12)); exact Kd.R_mono (Kd.R_far (p := ⟨gb811, 6, none⟩) (Kd.R_far (p := ⟨gb811, 5, none⟩) (Kd.R_far (p := ⟨gb811, 4, none⟩) (Kd.R_far (p := ⟨gb811, 3, none⟩) (Kd.R_far (p := ⟨gb811, 2, none⟩) (Kd.R_far (p := ⟨gb811, 1, none⟩) (Kd.R_far (p := ⟨gb811, 0, none⟩) (Kd.R_far (p := ⟨gb810, 6, none⟩) (Kd.R_types (Kd.R_types HO826.out BK810.out (by decide)) BK811.out (by decide)) (fun _ hk => hk.1.2) (.slice Ao22 y824.length co22)) (fun _ hk => hk.2) (.string a0_0)) (fun _ hk => hk.2) (.int .i64 a0_1)) (fun _ hk => hk.2) (.int .i64 a0_2)) (fun _ hk => hk.2) (.string a0_3)) (fun _ hk => hk.2) (.slice Ao10 t812.length co10)) (fun _ hk => hk.2) (.slice Ao16 y818.length co16)) (fun _ hk => hk.2) (.slice Ao22 y824.length co22)) (fun _ hk => trivial), by exact b2 HB GE810 GE811⟩
    · rw [if_neg c4] at H
      exact absurd H (by simp)
  · rw [if_neg c3] at H
    exact absurd H (by simp)
set_option maxHeartbeats 8000000 in
set_option maxRecDepth 100000 in
theorem spec_l4Get.calls (k : Nat) (a0_0 : Int) (A0_1 : Option Addr) (c0_1 : Nat) (l0_1 : List (S32)) (a1 : ByteArray) (r1 : ByteArray) (r2 : Int) (r3 : Int) (r4 : ByteArray) (r5 : List ByteArray) (r6 : List (S99)) (r7 : List (S101)) (w : World) (hr0_1 : Kd.C k32 w A0_1 l0_1.length l0_1) (hc0_1 : l0_1.length ≤ c0_1) (h : spec_l4Get.f k a0_0 l0_1 a1 = some (r1, r2, r3, r4, r5, r6, r7)) :
    Calls Try.prog 66 #[.agg #[.int .i64 a0_0, .slice A0_1 l0_1.length c0_1], .string a1] w fun e w' => ∃ v4_ v5_ v6_ : Value, e = .returned (.agg #[.string r1, .int .i64 r2, .int .i64 r3, .string r4, v4_, v5_, v6_]) ∧ Kd.R Kd.string 9 w' w.heap.size (fun _ => True) v4_ r5 ∧ Kd.R k99 99 w' w.heap.size (fun _ => True) v5_ r6 ∧ Kd.R k101 101 w' w.heap.size (fun _ => True) v6_ r7 ∧ Below w.heap.size w w' := by
  have hu46 := Try.underlying46; have hu32 := Try.underlying32; have HR0_1 := zq9 hr0_1; have HC0_1 := zq9 hc0_1; clear hr0_1 hc0_1
  have HB := zq9 (Below.refl w.heap.size w)
  have H : ((spec_l4At.f k a0_0 l0_1 a1).bind fun bt829 => (if bt829.2 = true then (if 0 ≤ bt829.1 then (if bt829.1 < (l0_1.length : Int) then ((spec_l4Entry.f ((rd_T32 l0_1 bt829.1).f0) ((rd_T32 l0_1 bt829.1).f1) ((rd_T32 l0_1 bt829.1).f2) ((rd_T32 l0_1 bt829.1).f3) ((rd_T32 l0_1 bt829.1).f4) ((rd_T32 l0_1 bt829.1).f5) ((rd_T32 l0_1 bt829.1).f6)).bind fun bt832 => (some (bt832.1, bt832.2.1, bt832.2.2.1, bt832.2.2.2.1, bt832.2.2.2.2.1, bt832.2.2.2.2.2.1, bt832.2.2.2.2.2.2))) else (none)) else (none)) else (some (a1, 0, 0, (⟨#[]⟩ : ByteArray), ([] : List ByteArray), ([] : List (S99)), ([] : List (S101)))))) = some (r1, r2, r3, r4, r5, r6, r7) := h
  clear h; replace H := Option.bind_eq_some_iff.mp H
  obtain ⟨⟨t829, t830⟩, A30, H⟩ := H
  try dsimp only at H
  have A3 := zq9 A30; clear A30
  by_cases c4 : t830 = true
  · subst c4
    have H1 : (if 0 ≤ t829 then (if t829 < (l0_1.length : Int) then ((spec_l4Entry.f ((rd_T32 l0_1 t829).f0) ((rd_T32 l0_1 t829).f1) ((rd_T32 l0_1 t829).f2) ((rd_T32 l0_1 t829).f3) ((rd_T32 l0_1 t829).f4) ((rd_T32 l0_1 t829).f5) ((rd_T32 l0_1 t829).f6)).bind fun bt832 => (some (bt832.1, bt832.2.1, bt832.2.2.1, bt832.2.2.2.1, bt832.2.2.2.2.1, bt832.2.2.2.2.2.1, bt832.2.2.2.2.2.2))) else (none)) else (none)) = some (r1, r2, r3, r4, r5, r6, r7) := by rw [if_pos rfl] at H; exact H
    clear H; have H := H1; clear H1
    by_cases c5 : 0 ≤ t829
    · rw [if_pos c5] at H; have c5b0 : decide (0 ≤ t829) = true := decide_eq_true c5; clear c5
      by_cases c6 : t829 < (l0_1.length : Int)
      · rw [if_pos c6] at H; have c6b0 : decide (t829 < (l0_1.length : Int)) = true := decide_eq_true c6; clear c6; replace H := Option.bind_eq_some_iff.mp H
        obtain ⟨⟨t832, t833, t834, t835, t836, t839, t842⟩, A70, H⟩ := H
        try dsimp only at H
        have A7 := zq9 A70; clear A70
        simp only [Option.some.injEq, Prod.mk.injEq] at H
        obtain ⟨rfl, rfl, rfl, rfl, rfl, rfl, rfl⟩ := H
        go_enter Try.func66, Try.ntmps66
        go_wp2_with (first | ((with_reducible refine zq25 (N := 2) rfl ?_); refine bx 2 #[.int .i64 a0_0, .slice A0_1 l0_1.length c0_1] 46 ?_; intro gb827 hg w8 hbox hb; have n0_ := zq9 (zq27 (by exact bl HB) hb); have n1_ := zq9 (hbox); have n2_ := zq9 ((by rw [hg]; exact (zq29 (by exact bl HB)) : w.heap.size ≤ gb827)); have n3_ := n2_; clear HB; have HB := n0_; have BK827 := n1_; have GW827 := n2_; have GE827 := n3_; clear n0_ n1_ n2_ n3_; clear hb hbox hg) | ((with_reducible refine zq25 (N := 4) rfl ?_); refine bx 4 #[.string (⟨#[]⟩ : ByteArray), .int .i64 0, .int .i64 0, .string (⟨#[]⟩ : ByteArray), .slice none 0 0, .slice none 0 0, .slice none 0 0] 32 ?_; intro gb828 hg w9 hbox hb; have n0_ := zq9 (zq30 (g := gb827) (o := .cells #[.int .i64 a0_0, .slice A0_1 l0_1.length c0_1] 46 (0, 0)) (by exact bk BK827) hb); have n1_ := zq9 (zq27 (by exact b1 HB GE827) hb); have n2_ := zq9 (hbox); have n3_ := zq9 ((by rw [hg]; exact (zq29 (by exact b1 HB GE827)) : w.heap.size ≤ gb828)); have n4_ := n3_; have n5_ := zq9 ((by rw [hg]; exact Nat.ne_of_lt (blk_lt (g := gb827) (o := .cells #[.int .i64 a0_0, .slice A0_1 l0_1.length c0_1] 46 (0, 0)) (by exact bk BK827)) : gb827 ≠ gb828)); have n6_ := zq9 ((by rw [hg]; exact Nat.ne_of_gt (blk_lt (g := gb827) (o := .cells #[.int .i64 a0_0, .slice A0_1 l0_1.length c0_1] 46 (0, 0)) (by exact bk BK827)) : gb828 ≠ gb827)); clear BK827; clear HB; have BK827 := n0_; have HB := n1_; have BK828 := n2_; have GW828 := n3_; have GE828 := n4_; have NB827_828 := n5_; have NB828_827 := n6_; clear n0_ n1_ n2_ n3_ n4_ n5_ n6_; clear hb hbox hg; have hnb10 := NB827_828.out; have hnc10 := NB828_827.out; have hcz11_0 : w9.cell? ⟨gb827, 0, none⟩ = some (.int .i64 a0_0) := bc BK827 0; have hcz11_1 : w9.cell? ⟨gb827, 1, none⟩ = some (.slice A0_1 l0_1.length c0_1) := bc BK827 1; have hfz11_0 := zq6 BK827.out 0; have hfz11_1 := zq6 BK827.out 1) | ((with_reducible refine zq24 (f := 65) rfl ?_); refine gl (some 10) Try.func65 #[.agg #[.int .i64 a0_0, .slice A0_1 l0_1.length c0_1], .string a1] ?_; (with_reducible refine (spec_l4At.calls k a0_0 _ _ l0_1 a1 t829 true _ ?side1 ?side2 A3.out).mono ?_); (case side1 => exact kc HR0_1 HB); (case side2 => exact HC0_1.out); rintro e w12 ⟨rfl, hb⟩; refine ⟨_, rfl, ?_⟩; have n0_ := zq9 (zq30 (g := gb827) (o := .cells #[.int .i64 a0_0, .slice A0_1 l0_1.length c0_1] 46 (0, 0)) (by exact bk BK827) hb); have n1_ := zq9 (zq30 (g := gb828) (o := .cells #[.string (⟨#[]⟩ : ByteArray), .int .i64 0, .int .i64 0, .string (⟨#[]⟩ : ByteArray), .slice none 0 0, .slice none 0 0, .slice none 0 0] 32 (0, 0)) (by exact bk BK828) hb); have n2_ := zq9 (zq27 (by exact b2 HB GE827 GE828) hb); clear BK827; clear BK828; clear HB; have BK827 := n0_; have BK828 := n1_; have HB := n2_; clear n0_ n1_ n2_; (try clear hb); (try clear hb2); (try clear hk); (try clear hi); have hcz13_0 : w12.cell? ⟨gb827, 0, none⟩ = some (.int .i64 a0_0) := bc BK827 0; have hcz13_1 : w12.cell? ⟨gb827, 1, none⟩ = some (.slice A0_1 l0_1.length c0_1) := bc BK827 1; have hfz13_0 := zq6 BK827.out 0; have hfz13_1 := zq6 BK827.out 1; have p831 : 0 ≤ (t829 : Int) := of_decide_eq_true ‹_›; have q831 : t829 < (l0_1.length : Int) := of_decide_eq_true ‹_›; obtain ⟨ad831, A831_4, c831_4, A831_5, c831_5, A831_6, c831_6, e831, hx831_0, hx831_1, hx831_2, hx831_3, hx831_4, hx831_5, hx831_6, hl831_4, hi831_4, hl831_5, hi831_5, hl831_6, hi831_6⟩ := at_T32 HR0_1.out t829 p831 q831; cases e831; replace hx831_0 := hcl HB hx831_0; replace hx831_1 := hcl HB hx831_1; replace hx831_2 := hcl HB hx831_2; replace hx831_3 := hcl HB hx831_3; replace hx831_4 := hcl HB hx831_4; replace hx831_5 := hcl HB hx831_5; replace hx831_6 := hcl HB hx831_6; have HR831_4 := zq9 hi831_4; have HC831_4 := zq9 hl831_4; clear hi831_4 hl831_4; have HR831_5 := zq9 hi831_5; have HC831_5 := zq9 hl831_5; clear hi831_5 hl831_5; have HR831_6 := zq9 hi831_6; have HC831_6 := zq9 hl831_6; clear hi831_6 hl831_6; replace p831 := eq_true p831; replace q831 := eq_true q831) | ((with_reducible refine zq24 (f := 98) rfl ?_); refine gl (some 22) Try.func98 #[.agg #[.string ((rd_T32 l0_1 t829).f0), .int .i64 ((rd_T32 l0_1 t829).f1), .int .i64 ((rd_T32 l0_1 t829).f2), .string ((rd_T32 l0_1 t829).f3), .slice A831_4 ((rd_T32 l0_1 t829).f4).length c831_4, .slice A831_5 ((rd_T32 l0_1 t829).f5).length c831_5, .slice A831_6 ((rd_T32 l0_1 t829).f6).length c831_6]] ?_; (with_reducible refine (spec_l4Entry.calls ((rd_T32 l0_1 t829).f0) ((rd_T32 l0_1 t829).f1) ((rd_T32 l0_1 t829).f2) ((rd_T32 l0_1 t829).f3) _ _ ((rd_T32 l0_1 t829).f4) _ _ ((rd_T32 l0_1 t829).f5) _ _ ((rd_T32 l0_1 t829).f6) t832 t833 t834 t835 t836 t839 t842 _ ?side1 ?side2 ?side3 ?side4 ?side5 ?side6 A7.out).mono ?_); (case side1 => exact kc HR831_4 HB); (case side2 => exact HC831_4.out); (case side3 => exact kc HR831_5 HB); (case side4 => exact HC831_5.out); (case side5 => exact kc HR831_6 HB); (case side6 => exact HC831_6.out); rintro e w14 ⟨v837, v840, v843, rfl, ho0, ho1, ho2, hb⟩; refine ⟨_, rfl, ?_⟩; have n0_ := zq9 (Kd.R_lower ho0 (zq29 (by exact b2 HB GE827 GE828))); have n1_ := zq9 (Kd.R_lower ho1 (zq29 (by exact b2 HB GE827 GE828))); have n2_ := zq9 (Kd.R_lower ho2 (zq29 (by exact b2 HB GE827 GE828))); have n3_ := zq9 (zq30 (g := gb827) (o := .cells #[.int .i64 a0_0, .slice (some ad831) l0_1.length c0_1] 46 (0, 0)) (by exact bk BK827) hb); have n4_ := zq9 (zq30 (g := gb828) (o := .cells #[.string (⟨#[]⟩ : ByteArray), .int .i64 0, .int .i64 0, .string (⟨#[]⟩ : ByteArray), .slice none 0 0, .slice none 0 0, .slice none 0 0] 32 (0, 0)) (by exact bk BK828) hb); have n5_ := zq9 (zq27 (by exact b2 HB GE827 GE828) hb); clear BK827; clear BK828; clear HB; have HO838 := n0_; have HO841 := n1_; have HO844 := n2_; have BK827 := n3_; have BK828 := n4_; have HB := n5_; clear n0_ n1_ n2_ n3_ n4_ n5_; (try clear hb); (try clear hb2); (try clear hk); (try clear hi); (try clear ho0); (try clear ho1); (try clear ho2); have hcz15_0 : w14.cell? ⟨gb828, 0, none⟩ = some (.string (⟨#[]⟩ : ByteArray)) := bc BK828 0; have hcz15_1 : w14.cell? ⟨gb828, 1, none⟩ = some (.int .i64 0) := bc BK828 1; have hcz15_2 : w14.cell? ⟨gb828, 2, none⟩ = some (.int .i64 0) := bc BK828 2; have hcz15_3 : w14.cell? ⟨gb828, 3, none⟩ = some (.string (⟨#[]⟩ : ByteArray)) := bc BK828 3; have hcz15_4 : w14.cell? ⟨gb828, 4, none⟩ = some (.slice none 0 0) := bc BK828 4; have hcz15_5 : w14.cell? ⟨gb828, 5, none⟩ = some (.slice none 0 0) := bc BK828 5; have hcz15_6 : w14.cell? ⟨gb828, 6, none⟩ = some (.slice none 0 0) := bc BK828 6; have hfz15_0 := zq6 BK828.out 0; have hfz15_1 := zq6 BK828.out 1; have hfz15_2 := zq6 BK828.out 2; have hfz15_3 := zq6 BK828.out 3; have hfz15_4 := zq6 BK828.out 4; have hfz15_5 := zq6 BK828.out 5; have hfz15_6 := zq6 BK828.out 6; obtain ⟨Ao16, co16, eo16⟩ := Kd.R_slice HO838.out; subst eo16; obtain ⟨Ao17, co17, eo17⟩ := Kd.R_slice HO841.out; subst eo17; obtain ⟨Ao18, co18, eo18⟩ := Kd.R_slice HO844.out; subst eo18))
        refine bodyPost_ret (results_cell_row rfl _ _ gb828 32 #[.string t832, .int .i64 t833, .int .i64 t834, .string t835, .slice Ao16 t836.length co16, .slice Ao17 t839.length co17, .slice Ao18 t842.length co18] (0, 0) _ rfl (by refine bp ?_; refine blk_put (cs := #[.string t832, .int .i64 t833, .int .i64 t834, .string t835, .slice Ao16 t836.length co16, .slice Ao17 t839.length co17, .slice none 0 0]) ?_ 6 _ rfl; refine bp ?_; refine blk_put (cs := #[.string t832, .int .i64 t833, .int .i64 t834, .string t835, .slice Ao16 t836.length co16, .slice none 0 0, .slice none 0 0]) ?_ 5 _ rfl; refine bp ?_; refine blk_put (cs := #[.string t832, .int .i64 t833, .int .i64 t834, .string t835, .slice none 0 0, .slice none 0 0, .slice none 0 0]) ?_ 4 _ rfl; refine bp ?_; refine blk_put (cs := #[.string t832, .int .i64 t833, .int .i64 t834, .string (⟨#[]⟩ : ByteArray), .slice none 0 0, .slice none 0 0, .slice none 0 0]) ?_ 3 _ rfl; refine bp ?_; refine blk_put (cs := #[.string t832, .int .i64 t833, .int .i64 0, .string (⟨#[]⟩ : ByteArray), .slice none 0 0, .slice none 0 0, .slice none 0 0]) ?_ 2 _ rfl; refine bp ?_; refine blk_put (cs := #[.string t832, .int .i64 0, .int .i64 0, .string (⟨#[]⟩ : ByteArray), .slice none 0 0, .slice none 0 0, .slice none 0 0]) ?_ 1 _ rfl; refine bp ?_; refine blk_put (cs := #[.string (⟨#[]⟩ : ByteArray), .int .i64 0, .int .i64 0, .string (⟨#[]⟩ : ByteArray), .slice none 0 0, .slice none 0 0, .slice none 0 0]) ?_ 0 _ rfl; refine bp ?_; exact BK828.out) Try.underlying32 rfl (by kernel_rfl)) rfl ?_
        exact ⟨_, _, _, by first | rfl | (simp [errW_none, errW_some] <;> rfl) | (simp [*, errW_none, errW_some] <;> rfl), by (with_reducible repeat (first | apply zq10 | apply zq11 | apply zq12)); exact Kd.R_mono (Kd.R_far (p := ⟨gb828, 6, none⟩) (Kd.R_far (p := ⟨gb828, 5, none⟩) (Kd.R_far (p := ⟨gb828, 4, none⟩) (Kd.R_far (p := ⟨gb828, 3, none⟩) (Kd.R_far (p := ⟨gb828, 2, none⟩) (Kd.R_far (p := ⟨gb828, 1, none⟩) (Kd.R_far (p := ⟨gb828, 0, none⟩) (Kd.R_types HO838.out BK828.out (by decide)) (fun _ hk => hk.2) (.string t832)) (fun _ hk => hk.2) (.int .i64 t833)) (fun _ hk => hk.2) (.int .i64 t834)) (fun _ hk => hk.2) (.string t835)) (fun _ hk => hk.2) (.slice Ao16 t836.length co16)) (fun _ hk => hk.2) (.slice Ao17 t839.length co17)) (fun _ hk => hk.2) (.slice Ao18 t842.length co18)) (fun _ hk => trivial), by (with_reducible repeat (first | apply zq10 | apply zq11 | apply zq12)); exact Kd.R_mono (Kd.R_far (p := ⟨gb828, 6, none⟩) (Kd.R_far (p := ⟨gb828, 5, none⟩) (Kd.R_far (p := ⟨gb828, 4, none⟩) (Kd.R_far (p := ⟨gb828, 3, none⟩) (Kd.R_far (p := ⟨gb828, 2, none⟩) (Kd.R_far (p := ⟨gb828, 1, none⟩) (Kd.R_far (p := ⟨gb828, 0, none⟩) (Kd.R_types HO841.out BK828.out (by decide)) (fun _ hk => hk.2) (.string t832)) (fun _ hk => hk.2) (.int .i64 t833)) (fun _ hk => hk.2) (.int .i64 t834)) (fun _ hk => hk.2) (.string t835)) (fun _ hk => hk.2) (.slice Ao16 t836.length co16)) (fun _ hk => hk.2) (.slice Ao17 t839.length co17)) (fun _ hk => hk.2) (.slice Ao18 t842.length co18)) (fun _ hk => trivial), by (with_reducible repeat (first | apply zq10 | apply zq11 | apply zq12)); exact Kd.R_mono (Kd.R_far (p := ⟨gb828, 6, none⟩) (Kd.R_far (p := ⟨gb828, 5, none⟩) (Kd.R_far (p := ⟨gb828, 4, none⟩) (Kd.R_far (p := ⟨gb828, 3, none⟩) (Kd.R_far (p := ⟨gb828, 2, none⟩) (Kd.R_far (p := ⟨gb828, 1, none⟩) (Kd.R_far (p := ⟨gb828, 0, none⟩) (Kd.R_types HO844.out BK828.out (by decide)) (fun _ hk => hk.2) (.string t832)) (fun _ hk => hk.2) (.int .i64 t833)) (fun _ hk => hk.2) (.int .i64 t834)) (fun _ hk => hk.2) (.string t835)) (fun _ hk => hk.2) (.slice Ao16 t836.length co16)) (fun _ hk => hk.2) (.slice Ao17 t839.length co17)) (fun _ hk => hk.2) (.slice Ao18 t842.length co18)) (fun _ hk => trivial), by exact b2 HB GE827 GE828⟩
      · rw [if_neg c6] at H
        exact absurd H (by simp)
    · rw [if_neg c5] at H
      exact absurd H (by simp)
  · replace c4 := Bool.eq_false_iff.mpr c4
    subst c4
    have H1 : (some (a1, 0, 0, (⟨#[]⟩ : ByteArray), ([] : List ByteArray), ([] : List (S99)), ([] : List (S101)))) = some (r1, r2, r3, r4, r5, r6, r7) := by rw [if_neg (show ¬ (false = true) by decide)] at H; exact H
    clear H; have H := H1; clear H1
    simp only [Option.some.injEq, Prod.mk.injEq] at H
    obtain ⟨rfl, rfl, rfl, rfl, rfl, rfl, rfl⟩ := H
    go_enter Try.func66, Try.ntmps66
    go_wp2_with (first | ((with_reducible refine zq25 (N := 2) rfl ?_); refine bx 2 #[.int .i64 a0_0, .slice A0_1 l0_1.length c0_1] 46 ?_; intro gb827 hg w19 hbox hb; have n0_ := zq9 (zq27 (by exact bl HB) hb); have n1_ := zq9 (hbox); have n2_ := zq9 ((by rw [hg]; exact (zq29 (by exact bl HB)) : w.heap.size ≤ gb827)); have n3_ := n2_; clear HB; have HB := n0_; have BK827 := n1_; have GW827 := n2_; have GE827 := n3_; clear n0_ n1_ n2_ n3_; clear hb hbox hg) | ((with_reducible refine zq25 (N := 4) rfl ?_); refine bx 4 #[.string (⟨#[]⟩ : ByteArray), .int .i64 0, .int .i64 0, .string (⟨#[]⟩ : ByteArray), .slice none 0 0, .slice none 0 0, .slice none 0 0] 32 ?_; intro gb828 hg w20 hbox hb; have n0_ := zq9 (zq30 (g := gb827) (o := .cells #[.int .i64 a0_0, .slice A0_1 l0_1.length c0_1] 46 (0, 0)) (by exact bk BK827) hb); have n1_ := zq9 (zq27 (by exact b1 HB GE827) hb); have n2_ := zq9 (hbox); have n3_ := zq9 ((by rw [hg]; exact (zq29 (by exact b1 HB GE827)) : w.heap.size ≤ gb828)); have n4_ := n3_; have n5_ := zq9 ((by rw [hg]; exact Nat.ne_of_lt (blk_lt (g := gb827) (o := .cells #[.int .i64 a0_0, .slice A0_1 l0_1.length c0_1] 46 (0, 0)) (by exact bk BK827)) : gb827 ≠ gb828)); have n6_ := zq9 ((by rw [hg]; exact Nat.ne_of_gt (blk_lt (g := gb827) (o := .cells #[.int .i64 a0_0, .slice A0_1 l0_1.length c0_1] 46 (0, 0)) (by exact bk BK827)) : gb828 ≠ gb827)); clear BK827; clear HB; have BK827 := n0_; have HB := n1_; have BK828 := n2_; have GW828 := n3_; have GE828 := n4_; have NB827_828 := n5_; have NB828_827 := n6_; clear n0_ n1_ n2_ n3_ n4_ n5_ n6_; clear hb hbox hg; have hnb21 := NB827_828.out; have hnc21 := NB828_827.out; have hcz22_0 : w20.cell? ⟨gb827, 0, none⟩ = some (.int .i64 a0_0) := bc BK827 0; have hcz22_1 : w20.cell? ⟨gb827, 1, none⟩ = some (.slice A0_1 l0_1.length c0_1) := bc BK827 1; have hfz22_0 := zq6 BK827.out 0; have hfz22_1 := zq6 BK827.out 1) | ((with_reducible refine zq24 (f := 65) rfl ?_); refine gl (some 10) Try.func65 #[.agg #[.int .i64 a0_0, .slice A0_1 l0_1.length c0_1], .string a1] ?_; (with_reducible refine (spec_l4At.calls k a0_0 _ _ l0_1 a1 t829 false _ ?side1 ?side2 A3.out).mono ?_); (case side1 => exact kc HR0_1 HB); (case side2 => exact HC0_1.out); rintro e w23 ⟨rfl, hb⟩; refine ⟨_, rfl, ?_⟩; have n0_ := zq9 (zq30 (g := gb827) (o := .cells #[.int .i64 a0_0, .slice A0_1 l0_1.length c0_1] 46 (0, 0)) (by exact bk BK827) hb); have n1_ := zq9 (zq30 (g := gb828) (o := .cells #[.string (⟨#[]⟩ : ByteArray), .int .i64 0, .int .i64 0, .string (⟨#[]⟩ : ByteArray), .slice none 0 0, .slice none 0 0, .slice none 0 0] 32 (0, 0)) (by exact bk BK828) hb); have n2_ := zq9 (zq27 (by exact b2 HB GE827 GE828) hb); clear BK827; clear BK828; clear HB; have BK827 := n0_; have BK828 := n1_; have HB := n2_; clear n0_ n1_ n2_; (try clear hb); (try clear hb2); (try clear hk); (try clear hi); have hcz24_0 : w23.cell? ⟨gb828, 0, none⟩ = some (.string (⟨#[]⟩ : ByteArray)) := bc BK828 0; have hcz24_1 : w23.cell? ⟨gb828, 1, none⟩ = some (.int .i64 0) := bc BK828 1; have hcz24_2 : w23.cell? ⟨gb828, 2, none⟩ = some (.int .i64 0) := bc BK828 2; have hcz24_3 : w23.cell? ⟨gb828, 3, none⟩ = some (.string (⟨#[]⟩ : ByteArray)) := bc BK828 3; have hcz24_4 : w23.cell? ⟨gb828, 4, none⟩ = some (.slice none 0 0) := bc BK828 4; have hcz24_5 : w23.cell? ⟨gb828, 5, none⟩ = some (.slice none 0 0) := bc BK828 5; have hcz24_6 : w23.cell? ⟨gb828, 6, none⟩ = some (.slice none 0 0) := bc BK828 6; have hfz24_0 := zq6 BK828.out 0; have hfz24_1 := zq6 BK828.out 1; have hfz24_2 := zq6 BK828.out 2; have hfz24_3 := zq6 BK828.out 3; have hfz24_4 := zq6 BK828.out 4; have hfz24_5 := zq6 BK828.out 5; have hfz24_6 := zq6 BK828.out 6))
    refine bodyPost_ret (results_cell_row rfl _ _ gb828 32 #[.string a1, .int .i64 0, .int .i64 0, .string (⟨#[]⟩ : ByteArray), .slice none 0 0, .slice none 0 0, .slice none 0 0] (0, 0) _ rfl (by refine bp ?_; refine blk_put (cs := #[.string a1, .int .i64 0, .int .i64 0, .string (⟨#[]⟩ : ByteArray), .slice none 0 0, .slice none 0 0, .slice none 0 0]) ?_ 6 _ rfl; refine bp ?_; refine blk_put (cs := #[.string a1, .int .i64 0, .int .i64 0, .string (⟨#[]⟩ : ByteArray), .slice none 0 0, .slice none 0 0, .slice none 0 0]) ?_ 5 _ rfl; refine bp ?_; refine blk_put (cs := #[.string a1, .int .i64 0, .int .i64 0, .string (⟨#[]⟩ : ByteArray), .slice none 0 0, .slice none 0 0, .slice none 0 0]) ?_ 4 _ rfl; refine bp ?_; refine blk_put (cs := #[.string a1, .int .i64 0, .int .i64 0, .string (⟨#[]⟩ : ByteArray), .slice none 0 0, .slice none 0 0, .slice none 0 0]) ?_ 3 _ rfl; refine bp ?_; refine blk_put (cs := #[.string a1, .int .i64 0, .int .i64 0, .string (⟨#[]⟩ : ByteArray), .slice none 0 0, .slice none 0 0, .slice none 0 0]) ?_ 2 _ rfl; refine bp ?_; refine blk_put (cs := #[.string a1, .int .i64 0, .int .i64 0, .string (⟨#[]⟩ : ByteArray), .slice none 0 0, .slice none 0 0, .slice none 0 0]) ?_ 1 _ rfl; refine bp ?_; refine blk_put (cs := #[.string (⟨#[]⟩ : ByteArray), .int .i64 0, .int .i64 0, .string (⟨#[]⟩ : ByteArray), .slice none 0 0, .slice none 0 0, .slice none 0 0]) ?_ 0 _ rfl; refine bp ?_; exact BK828.out) Try.underlying32 rfl (by kernel_rfl)) rfl ?_
    exact ⟨_, _, _, by first | rfl | (simp [errW_none, errW_some] <;> rfl) | (simp [*, errW_none, errW_some] <;> rfl), by first | exact Kd.R_nil _ _ _ _ _ | exact Kd.N_nil _ _ _ _ _ | exact Kd.V_nil _ _ _ _ _ | exact Kd.Q_nil _ _ _ _ _ | exact Kd.S_nil _ _ _ _ _, by first | exact Kd.R_nil _ _ _ _ _ | exact Kd.N_nil _ _ _ _ _ | exact Kd.V_nil _ _ _ _ _ | exact Kd.Q_nil _ _ _ _ _ | exact Kd.S_nil _ _ _ _ _, by first | exact Kd.R_nil _ _ _ _ _ | exact Kd.N_nil _ _ _ _ _ | exact Kd.V_nil _ _ _ _ _ | exact Kd.Q_nil _ _ _ _ _ | exact Kd.S_nil _ _ _ _ _, by exact b2 HB GE827 GE828⟩
set_option maxHeartbeats 8000000 in
set_option maxRecDepth 100000 in
theorem spec_BaseGet.calls (k : Nat) (a0_0 : Int) (A0_1 : Option Addr) (c0_1 : Nat) (l0_1 : List (S32)) (a1 : ByteArray) (r1 : ByteArray) (r2 : Int) (r3 : Int) (r4 : ByteArray) (r5 : List ByteArray) (r6 : List (S99)) (r7 : List (S101)) (r8 : Bool) (w : World) (hr0_1 : Kd.C k32 w A0_1 l0_1.length l0_1) (hc0_1 : l0_1.length ≤ c0_1) (h : spec_BaseGet.f k a0_0 l0_1 a1 = some (r1, r2, r3, r4, r5, r6, r7, r8)) :
    Calls Try.prog 27 #[.agg #[.int .i64 a0_0, .slice A0_1 l0_1.length c0_1], .string a1] w fun e w' => ∃ v4_ v5_ v6_ : Value, e = .returned (.tuple #[.agg #[.string r1, .int .i64 r2, .int .i64 r3, .string r4, v4_, v5_, v6_], .bool r8]) ∧ Kd.R Kd.string 9 w' w.heap.size (fun _ => True) v4_ r5 ∧ Kd.R k99 99 w' w.heap.size (fun _ => True) v5_ r6 ∧ Kd.R k101 101 w' w.heap.size (fun _ => True) v6_ r7 ∧ Below w.heap.size w w' := by
  have hu46 := Try.underlying46; have hu32 := Try.underlying32; have HR0_1 := zq9 hr0_1; have HC0_1 := zq9 hc0_1; clear hr0_1 hc0_1
  have HB := zq9 (Below.refl w.heap.size w)
  have H : ((spec_BaseOk.f k a0_0 l0_1).bind fun t847 => (if t847 = true then ((spec_l4At.f k a0_0 l0_1 a1).bind fun bt848 => (if bt848.2 = true then ((spec_l4Get.f k a0_0 l0_1 a1).bind fun bt850 => (some (bt850.1, bt850.2.1, bt850.2.2.1, bt850.2.2.2.1, bt850.2.2.2.2.1, bt850.2.2.2.2.2.1, bt850.2.2.2.2.2.2, true))) else (some ((⟨#[]⟩ : ByteArray), 0, 0, (⟨#[]⟩ : ByteArray), ([] : List ByteArray), ([] : List (S99)), ([] : List (S101)), false)))) else (some ((⟨#[]⟩ : ByteArray), 0, 0, (⟨#[]⟩ : ByteArray), ([] : List ByteArray), ([] : List (S99)), ([] : List (S101)), false)))) = some (r1, r2, r3, r4, r5, r6, r7, r8) := h
  clear h; replace H := Option.bind_eq_some_iff.mp H; obtain ⟨t847, A30, H⟩ := H
  try dsimp only at H
  have A3 := zq9 A30; clear A30
  by_cases c4 : t847 = true
  · subst c4
    have H1 : ((spec_l4At.f k a0_0 l0_1 a1).bind fun bt848 => (if bt848.2 = true then ((spec_l4Get.f k a0_0 l0_1 a1).bind fun bt850 => (some (bt850.1, bt850.2.1, bt850.2.2.1, bt850.2.2.2.1, bt850.2.2.2.2.1, bt850.2.2.2.2.2.1, bt850.2.2.2.2.2.2, true))) else (some ((⟨#[]⟩ : ByteArray), 0, 0, (⟨#[]⟩ : ByteArray), ([] : List ByteArray), ([] : List (S99)), ([] : List (S101)), false)))) = some (r1, r2, r3, r4, r5, r6, r7, r8) := by rw [if_pos rfl] at H; exact H
    clear H; have H := H1; clear H1; replace H := Option.bind_eq_some_iff.mp H
    obtain ⟨⟨t848, t849⟩, A50, H⟩ := H
    try dsimp only at H
    have A5 := zq9 A50; clear A50
    by_cases c6 : t849 = true
    · subst c6
      have H1 : ((spec_l4Get.f k a0_0 l0_1 a1).bind fun bt850 => (some (bt850.1, bt850.2.1, bt850.2.2.1, bt850.2.2.2.1, bt850.2.2.2.2.1, bt850.2.2.2.2.2.1, bt850.2.2.2.2.2.2, true))) = some (r1, r2, r3, r4, r5, r6, r7, r8) := by rw [if_pos rfl] at H; exact H
      clear H; have H := H1; clear H1; replace H := Option.bind_eq_some_iff.mp H
      obtain ⟨⟨t850, t851, t852, t853, t854, t857, t860⟩, A70, H⟩ := H
      try dsimp only at H
      have A7 := zq9 A70; clear A70
      simp only [Option.some.injEq, Prod.mk.injEq] at H
      obtain ⟨rfl, rfl, rfl, rfl, rfl, rfl, rfl, rfl⟩ := H
      go_enter Try.func27, Try.ntmps27
      go_wp2_with (first | ((with_reducible refine zq25 (N := 2) rfl ?_); refine bx 2 #[.int .i64 a0_0, .slice A0_1 l0_1.length c0_1] 46 ?_; intro gb845 hg w8 hbox hb; have n0_ := zq9 (zq27 (by exact bl HB) hb); have n1_ := zq9 (hbox); have n2_ := zq9 ((by rw [hg]; exact (zq29 (by exact bl HB)) : w.heap.size ≤ gb845)); have n3_ := n2_; clear HB; have HB := n0_; have BK845 := n1_; have GW845 := n2_; have GE845 := n3_; clear n0_ n1_ n2_ n3_; clear hb hbox hg) | ((with_reducible refine zq25 (N := 4) rfl ?_); refine bx 4 #[.string (⟨#[]⟩ : ByteArray), .int .i64 0, .int .i64 0, .string (⟨#[]⟩ : ByteArray), .slice none 0 0, .slice none 0 0, .slice none 0 0] 32 ?_; intro gb846 hg w9 hbox hb; have n0_ := zq9 (zq30 (g := gb845) (o := .cells #[.int .i64 a0_0, .slice A0_1 l0_1.length c0_1] 46 (0, 0)) (by exact bk BK845) hb); have n1_ := zq9 (zq27 (by exact b1 HB GE845) hb); have n2_ := zq9 (hbox); have n3_ := zq9 ((by rw [hg]; exact (zq29 (by exact b1 HB GE845)) : w.heap.size ≤ gb846)); have n4_ := n3_; have n5_ := zq9 ((by rw [hg]; exact Nat.ne_of_lt (blk_lt (g := gb845) (o := .cells #[.int .i64 a0_0, .slice A0_1 l0_1.length c0_1] 46 (0, 0)) (by exact bk BK845)) : gb845 ≠ gb846)); have n6_ := zq9 ((by rw [hg]; exact Nat.ne_of_gt (blk_lt (g := gb845) (o := .cells #[.int .i64 a0_0, .slice A0_1 l0_1.length c0_1] 46 (0, 0)) (by exact bk BK845)) : gb846 ≠ gb845)); clear BK845; clear HB; have BK845 := n0_; have HB := n1_; have BK846 := n2_; have GW846 := n3_; have GE846 := n4_; have NB845_846 := n5_; have NB846_845 := n6_; clear n0_ n1_ n2_ n3_ n4_ n5_ n6_; clear hb hbox hg; have hnb10 := NB845_846.out; have hnc10 := NB846_845.out; have hcz11_0 : w9.cell? ⟨gb845, 0, none⟩ = some (.int .i64 a0_0) := bc BK845 0; have hcz11_1 : w9.cell? ⟨gb845, 1, none⟩ = some (.slice A0_1 l0_1.length c0_1) := bc BK845 1; have hfz11_0 := zq6 BK845.out 0; have hfz11_1 := zq6 BK845.out 1) | ((with_reducible refine zq24 (f := 17) rfl ?_); refine gl (some 9) Try.func17 #[.agg #[.int .i64 a0_0, .slice A0_1 l0_1.length c0_1]] ?_; (with_reducible refine (spec_BaseOk.calls k a0_0 _ _ l0_1 true _ ?side1 ?side2 A3.out).mono ?_); (case side1 => exact kc HR0_1 HB); (case side2 => exact HC0_1.out); rintro e w12 ⟨rfl, hb⟩; refine ⟨_, rfl, ?_⟩; have n0_ := zq9 (zq30 (g := gb845) (o := .cells #[.int .i64 a0_0, .slice A0_1 l0_1.length c0_1] 46 (0, 0)) (by exact bk BK845) hb); have n1_ := zq9 (zq30 (g := gb846) (o := .cells #[.string (⟨#[]⟩ : ByteArray), .int .i64 0, .int .i64 0, .string (⟨#[]⟩ : ByteArray), .slice none 0 0, .slice none 0 0, .slice none 0 0] 32 (0, 0)) (by exact bk BK846) hb); have n2_ := zq9 (zq27 (by exact b2 HB GE845 GE846) hb); clear BK845; clear BK846; clear HB; have BK845 := n0_; have BK846 := n1_; have HB := n2_; clear n0_ n1_ n2_; (try clear hb); (try clear hb2); (try clear hk); (try clear hi); have hcz13_0 : w12.cell? ⟨gb845, 0, none⟩ = some (.int .i64 a0_0) := bc BK845 0; have hcz13_1 : w12.cell? ⟨gb845, 1, none⟩ = some (.slice A0_1 l0_1.length c0_1) := bc BK845 1; have hfz13_0 := zq6 BK845.out 0; have hfz13_1 := zq6 BK845.out 1) | ((with_reducible refine zq24 (f := 65) rfl ?_); refine gl (some 15) Try.func65 #[.agg #[.int .i64 a0_0, .slice A0_1 l0_1.length c0_1], .string a1] ?_; (with_reducible refine (spec_l4At.calls k a0_0 _ _ l0_1 a1 t848 true _ ?side1 ?side2 A5.out).mono ?_); (case side1 => exact kc HR0_1 HB); (case side2 => exact HC0_1.out); rintro e w14 ⟨rfl, hb⟩; refine ⟨_, rfl, ?_⟩; have n0_ := zq9 (zq30 (g := gb845) (o := .cells #[.int .i64 a0_0, .slice A0_1 l0_1.length c0_1] 46 (0, 0)) (by exact bk BK845) hb); have n1_ := zq9 (zq30 (g := gb846) (o := .cells #[.string (⟨#[]⟩ : ByteArray), .int .i64 0, .int .i64 0, .string (⟨#[]⟩ : ByteArray), .slice none 0 0, .slice none 0 0, .slice none 0 0] 32 (0, 0)) (by exact bk BK846) hb); have n2_ := zq9 (zq27 (by exact b2 HB GE845 GE846) hb); clear BK845; clear BK846; clear HB; have BK845 := n0_; have BK846 := n1_; have HB := n2_; clear n0_ n1_ n2_; (try clear hb); (try clear hb2); (try clear hk); (try clear hi); have hcz15_0 : w14.cell? ⟨gb845, 0, none⟩ = some (.int .i64 a0_0) := bc BK845 0; have hcz15_1 : w14.cell? ⟨gb845, 1, none⟩ = some (.slice A0_1 l0_1.length c0_1) := bc BK845 1; have hfz15_0 := zq6 BK845.out 0; have hfz15_1 := zq6 BK845.out 1) | ((with_reducible refine zq24 (f := 66) rfl ?_); refine gl (some 23) Try.func66 #[.agg #[.int .i64 a0_0, .slice A0_1 l0_1.length c0_1], .string a1] ?_; (with_reducible refine (spec_l4Get.calls k a0_0 _ _ l0_1 a1 t850 t851 t852 t853 t854 t857 t860 _ ?side1 ?side2 A7.out).mono ?_); (case side1 => exact kc HR0_1 HB); (case side2 => exact HC0_1.out); rintro e w16 ⟨v855, v858, v861, rfl, ho0, ho1, ho2, hb⟩; refine ⟨_, rfl, ?_⟩; have n0_ := zq9 (Kd.R_lower ho0 (zq29 (by exact b2 HB GE845 GE846))); have n1_ := zq9 (Kd.R_lower ho1 (zq29 (by exact b2 HB GE845 GE846))); have n2_ := zq9 (Kd.R_lower ho2 (zq29 (by exact b2 HB GE845 GE846))); have n3_ := zq9 (zq30 (g := gb845) (o := .cells #[.int .i64 a0_0, .slice A0_1 l0_1.length c0_1] 46 (0, 0)) (by exact bk BK845) hb); have n4_ := zq9 (zq30 (g := gb846) (o := .cells #[.string (⟨#[]⟩ : ByteArray), .int .i64 0, .int .i64 0, .string (⟨#[]⟩ : ByteArray), .slice none 0 0, .slice none 0 0, .slice none 0 0] 32 (0, 0)) (by exact bk BK846) hb); have n5_ := zq9 (zq27 (by exact b2 HB GE845 GE846) hb); clear BK845; clear BK846; clear HB; have HO856 := n0_; have HO859 := n1_; have HO862 := n2_; have BK845 := n3_; have BK846 := n4_; have HB := n5_; clear n0_ n1_ n2_ n3_ n4_ n5_; (try clear hb); (try clear hb2); (try clear hk); (try clear hi); (try clear ho0); (try clear ho1); (try clear ho2); have hcz17_0 : w16.cell? ⟨gb846, 0, none⟩ = some (.string (⟨#[]⟩ : ByteArray)) := bc BK846 0; have hcz17_1 : w16.cell? ⟨gb846, 1, none⟩ = some (.int .i64 0) := bc BK846 1; have hcz17_2 : w16.cell? ⟨gb846, 2, none⟩ = some (.int .i64 0) := bc BK846 2; have hcz17_3 : w16.cell? ⟨gb846, 3, none⟩ = some (.string (⟨#[]⟩ : ByteArray)) := bc BK846 3; have hcz17_4 : w16.cell? ⟨gb846, 4, none⟩ = some (.slice none 0 0) := bc BK846 4; have hcz17_5 : w16.cell? ⟨gb846, 5, none⟩ = some (.slice none 0 0) := bc BK846 5; have hcz17_6 : w16.cell? ⟨gb846, 6, none⟩ = some (.slice none 0 0) := bc BK846 6; have hfz17_0 := zq6 BK846.out 0; have hfz17_1 := zq6 BK846.out 1; have hfz17_2 := zq6 BK846.out 2; have hfz17_3 := zq6 BK846.out 3; have hfz17_4 := zq6 BK846.out 4; have hfz17_5 := zq6 BK846.out 5; have hfz17_6 := zq6 BK846.out 6; obtain ⟨Ao18, co18, eo18⟩ := Kd.R_slice HO856.out; subst eo18; obtain ⟨Ao19, co19, eo19⟩ := Kd.R_slice HO859.out; subst eo19; obtain ⟨Ao20, co20, eo20⟩ := Kd.R_slice HO862.out; subst eo20))
      refine bodyPost_ret (results_ct rfl _ _ gb846 32 #[.string t850, .int .i64 t851, .int .i64 t852, .string t853, .slice Ao18 t854.length co18, .slice Ao19 t857.length co19, .slice Ao20 t860.length co20] (0, 0) _ rfl (by refine bp ?_; refine blk_put (cs := #[.string t850, .int .i64 t851, .int .i64 t852, .string t853, .slice Ao18 t854.length co18, .slice Ao19 t857.length co19, .slice none 0 0]) ?_ 6 _ rfl; refine bp ?_; refine blk_put (cs := #[.string t850, .int .i64 t851, .int .i64 t852, .string t853, .slice Ao18 t854.length co18, .slice none 0 0, .slice none 0 0]) ?_ 5 _ rfl; refine bp ?_; refine blk_put (cs := #[.string t850, .int .i64 t851, .int .i64 t852, .string t853, .slice none 0 0, .slice none 0 0, .slice none 0 0]) ?_ 4 _ rfl; refine bp ?_; refine blk_put (cs := #[.string t850, .int .i64 t851, .int .i64 t852, .string (⟨#[]⟩ : ByteArray), .slice none 0 0, .slice none 0 0, .slice none 0 0]) ?_ 3 _ rfl; refine bp ?_; refine blk_put (cs := #[.string t850, .int .i64 t851, .int .i64 0, .string (⟨#[]⟩ : ByteArray), .slice none 0 0, .slice none 0 0, .slice none 0 0]) ?_ 2 _ rfl; refine bp ?_; refine blk_put (cs := #[.string t850, .int .i64 0, .int .i64 0, .string (⟨#[]⟩ : ByteArray), .slice none 0 0, .slice none 0 0, .slice none 0 0]) ?_ 1 _ rfl; refine bp ?_; refine blk_put (cs := #[.string (⟨#[]⟩ : ByteArray), .int .i64 0, .int .i64 0, .string (⟨#[]⟩ : ByteArray), .slice none 0 0, .slice none 0 0, .slice none 0 0]) ?_ 0 _ rfl; refine bp ?_; exact BK846.out) Try.underlying32 rfl (by kernel_rfl)) rfl ?_
      exact ⟨_, _, _, by first | rfl | (simp [errW_none, errW_some] <;> rfl) | (simp [*, errW_none, errW_some] <;> rfl), by (with_reducible repeat (first | apply zq10 | apply zq11 | apply zq12)); exact Kd.R_mono (Kd.R_far (p := ⟨gb846, 6, none⟩) (Kd.R_far (p := ⟨gb846, 5, none⟩) (Kd.R_far (p := ⟨gb846, 4, none⟩) (Kd.R_far (p := ⟨gb846, 3, none⟩) (Kd.R_far (p := ⟨gb846, 2, none⟩) (Kd.R_far (p := ⟨gb846, 1, none⟩) (Kd.R_far (p := ⟨gb846, 0, none⟩) (Kd.R_types HO856.out BK846.out (by decide)) (fun _ hk => hk.2) (.string t850)) (fun _ hk => hk.2) (.int .i64 t851)) (fun _ hk => hk.2) (.int .i64 t852)) (fun _ hk => hk.2) (.string t853)) (fun _ hk => hk.2) (.slice Ao18 t854.length co18)) (fun _ hk => hk.2) (.slice Ao19 t857.length co19)) (fun _ hk => hk.2) (.slice Ao20 t860.length co20)) (fun _ hk => trivial), by (with_reducible repeat (first | apply zq10 | apply zq11 | apply zq12)); exact Kd.R_mono (Kd.R_far (p := ⟨gb846, 6, none⟩) (Kd.R_far (p := ⟨gb846, 5, none⟩) (Kd.R_far (p := ⟨gb846, 4, none⟩) (Kd.R_far (p := ⟨gb846, 3, none⟩) (Kd.R_far (p := ⟨gb846, 2, none⟩) (Kd.R_far (p := ⟨gb846, 1, none⟩) (Kd.R_far (p := ⟨gb846, 0, none⟩) (Kd.R_types HO859.out BK846.out (by decide)) (fun _ hk => hk.2) (.string t850)) (fun _ hk => hk.2) (.int .i64 t851)) (fun _ hk => hk.2) (.int .i64 t852)) (fun _ hk => hk.2) (.string t853)) (fun _ hk => hk.2) (.slice Ao18 t854.length co18)) (fun _ hk => hk.2) (.slice Ao19 t857.length co19)) (fun _ hk => hk.2) (.slice Ao20 t860.length co20)) (fun _ hk => trivial), by (with_reducible repeat (first | apply zq10 | apply zq11 | apply zq12)); exact Kd.R_mono (Kd.R_far (p := ⟨gb846, 6, none⟩) (Kd.R_far (p := ⟨gb846, 5, none⟩) (Kd.R_far (p := ⟨gb846, 4, none⟩) (Kd.R_far (p := ⟨gb846, 3, none⟩) (Kd.R_far (p := ⟨gb846, 2, none⟩) (Kd.R_far (p := ⟨gb846, 1, none⟩) (Kd.R_far (p := ⟨gb846, 0, none⟩) (Kd.R_types HO862.out BK846.out (by decide)) (fun _ hk => hk.2) (.string t850)) (fun _ hk => hk.2) (.int .i64 t851)) (fun _ hk => hk.2) (.int .i64 t852)) (fun _ hk => hk.2) (.string t853)) (fun _ hk => hk.2) (.slice Ao18 t854.length co18)) (fun _ hk => hk.2) (.slice Ao19 t857.length co19)) (fun _ hk => hk.2) (.slice Ao20 t860.length co20)) (fun _ hk => trivial), by exact b2 HB GE845 GE846⟩
    · replace c6 := Bool.eq_false_iff.mpr c6
      subst c6
      have H1 : (some ((⟨#[]⟩ : ByteArray), 0, 0, (⟨#[]⟩ : ByteArray), ([] : List ByteArray), ([] : List (S99)), ([] : List (S101)), false)) = some (r1, r2, r3, r4, r5, r6, r7, r8) := by rw [if_neg (show ¬ (false = true) by decide)] at H; exact H
      clear H; have H := H1; clear H1
      simp only [Option.some.injEq, Prod.mk.injEq] at H
      obtain ⟨rfl, rfl, rfl, rfl, rfl, rfl, rfl, rfl⟩ := H
      go_enter Try.func27, Try.ntmps27
      go_wp2_with (first | ((with_reducible refine zq25 (N := 2) rfl ?_); refine bx 2 #[.int .i64 a0_0, .slice A0_1 l0_1.length c0_1] 46 ?_; intro gb845 hg w21 hbox hb; have n0_ := zq9 (zq27 (by exact bl HB) hb); have n1_ := zq9 (hbox); have n2_ := zq9 ((by rw [hg]; exact (zq29 (by exact bl HB)) : w.heap.size ≤ gb845)); have n3_ := n2_; clear HB; have HB := n0_; have BK845 := n1_; have GW845 := n2_; have GE845 := n3_; clear n0_ n1_ n2_ n3_; clear hb hbox hg) | ((with_reducible refine zq25 (N := 4) rfl ?_); refine bx 4 #[.string (⟨#[]⟩ : ByteArray), .int .i64 0, .int .i64 0, .string (⟨#[]⟩ : ByteArray), .slice none 0 0, .slice none 0 0, .slice none 0 0] 32 ?_; intro gb846 hg w22 hbox hb; have n0_ := zq9 (zq30 (g := gb845) (o := .cells #[.int .i64 a0_0, .slice A0_1 l0_1.length c0_1] 46 (0, 0)) (by exact bk BK845) hb); have n1_ := zq9 (zq27 (by exact b1 HB GE845) hb); have n2_ := zq9 (hbox); have n3_ := zq9 ((by rw [hg]; exact (zq29 (by exact b1 HB GE845)) : w.heap.size ≤ gb846)); have n4_ := n3_; have n5_ := zq9 ((by rw [hg]; exact Nat.ne_of_lt (blk_lt (g := gb845) (o := .cells #[.int .i64 a0_0, .slice A0_1 l0_1.length c0_1] 46 (0, 0)) (by exact bk BK845)) : gb845 ≠ gb846)); have n6_ := zq9 ((by rw [hg]; exact Nat.ne_of_gt (blk_lt (g := gb845) (o := .cells #[.int .i64 a0_0, .slice A0_1 l0_1.length c0_1] 46 (0, 0)) (by exact bk BK845)) : gb846 ≠ gb845)); clear BK845; clear HB; have BK845 := n0_; have HB := n1_; have BK846 := n2_; have GW846 := n3_; have GE846 := n4_; have NB845_846 := n5_; have NB846_845 := n6_; clear n0_ n1_ n2_ n3_ n4_ n5_ n6_; clear hb hbox hg; have hnb23 := NB845_846.out; have hnc23 := NB846_845.out; have hcz24_0 : w22.cell? ⟨gb845, 0, none⟩ = some (.int .i64 a0_0) := bc BK845 0; have hcz24_1 : w22.cell? ⟨gb845, 1, none⟩ = some (.slice A0_1 l0_1.length c0_1) := bc BK845 1; have hfz24_0 := zq6 BK845.out 0; have hfz24_1 := zq6 BK845.out 1) | ((with_reducible refine zq24 (f := 17) rfl ?_); refine gl (some 9) Try.func17 #[.agg #[.int .i64 a0_0, .slice A0_1 l0_1.length c0_1]] ?_; (with_reducible refine (spec_BaseOk.calls k a0_0 _ _ l0_1 true _ ?side1 ?side2 A3.out).mono ?_); (case side1 => exact kc HR0_1 HB); (case side2 => exact HC0_1.out); rintro e w25 ⟨rfl, hb⟩; refine ⟨_, rfl, ?_⟩; have n0_ := zq9 (zq30 (g := gb845) (o := .cells #[.int .i64 a0_0, .slice A0_1 l0_1.length c0_1] 46 (0, 0)) (by exact bk BK845) hb); have n1_ := zq9 (zq30 (g := gb846) (o := .cells #[.string (⟨#[]⟩ : ByteArray), .int .i64 0, .int .i64 0, .string (⟨#[]⟩ : ByteArray), .slice none 0 0, .slice none 0 0, .slice none 0 0] 32 (0, 0)) (by exact bk BK846) hb); have n2_ := zq9 (zq27 (by exact b2 HB GE845 GE846) hb); clear BK845; clear BK846; clear HB; have BK845 := n0_; have BK846 := n1_; have HB := n2_; clear n0_ n1_ n2_; (try clear hb); (try clear hb2); (try clear hk); (try clear hi); have hcz26_0 : w25.cell? ⟨gb845, 0, none⟩ = some (.int .i64 a0_0) := bc BK845 0; have hcz26_1 : w25.cell? ⟨gb845, 1, none⟩ = some (.slice A0_1 l0_1.length c0_1) := bc BK845 1; have hfz26_0 := zq6 BK845.out 0; have hfz26_1 := zq6 BK845.out 1) | ((with_reducible refine zq24 (f := 65) rfl ?_); refine gl (some 15) Try.func65 #[.agg #[.int .i64 a0_0, .slice A0_1 l0_1.length c0_1], .string a1] ?_; (with_reducible refine (spec_l4At.calls k a0_0 _ _ l0_1 a1 t848 false _ ?side1 ?side2 A5.out).mono ?_); (case side1 => exact kc HR0_1 HB); (case side2 => exact HC0_1.out); rintro e w27 ⟨rfl, hb⟩; refine ⟨_, rfl, ?_⟩; have n0_ := zq9 (zq30 (g := gb845) (o := .cells #[.int .i64 a0_0, .slice A0_1 l0_1.length c0_1] 46 (0, 0)) (by exact bk BK845) hb); have n1_ := zq9 (zq30 (g := gb846) (o := .cells #[.string (⟨#[]⟩ : ByteArray), .int .i64 0, .int .i64 0, .string (⟨#[]⟩ : ByteArray), .slice none 0 0, .slice none 0 0, .slice none 0 0] 32 (0, 0)) (by exact bk BK846) hb); have n2_ := zq9 (zq27 (by exact b2 HB GE845 GE846) hb); clear BK845; clear BK846; clear HB; have BK845 := n0_; have BK846 := n1_; have HB := n2_; clear n0_ n1_ n2_; (try clear hb); (try clear hb2); (try clear hk); (try clear hi); have hcz28_0 : w27.cell? ⟨gb846, 0, none⟩ = some (.string (⟨#[]⟩ : ByteArray)) := bc BK846 0; have hcz28_1 : w27.cell? ⟨gb846, 1, none⟩ = some (.int .i64 0) := bc BK846 1; have hcz28_2 : w27.cell? ⟨gb846, 2, none⟩ = some (.int .i64 0) := bc BK846 2; have hcz28_3 : w27.cell? ⟨gb846, 3, none⟩ = some (.string (⟨#[]⟩ : ByteArray)) := bc BK846 3; have hcz28_4 : w27.cell? ⟨gb846, 4, none⟩ = some (.slice none 0 0) := bc BK846 4; have hcz28_5 : w27.cell? ⟨gb846, 5, none⟩ = some (.slice none 0 0) := bc BK846 5; have hcz28_6 : w27.cell? ⟨gb846, 6, none⟩ = some (.slice none 0 0) := bc BK846 6; have hfz28_0 := zq6 BK846.out 0; have hfz28_1 := zq6 BK846.out 1; have hfz28_2 := zq6 BK846.out 2; have hfz28_3 := zq6 BK846.out 3; have hfz28_4 := zq6 BK846.out 4; have hfz28_5 := zq6 BK846.out 5; have hfz28_6 := zq6 BK846.out 6))
      refine bodyPost_ret (results_ct rfl _ _ gb846 32 #[.string (⟨#[]⟩ : ByteArray), .int .i64 0, .int .i64 0, .string (⟨#[]⟩ : ByteArray), .slice none 0 0, .slice none 0 0, .slice none 0 0] (0, 0) _ rfl (by refine bp ?_; refine blk_put (cs := #[.string (⟨#[]⟩ : ByteArray), .int .i64 0, .int .i64 0, .string (⟨#[]⟩ : ByteArray), .slice none 0 0, .slice none 0 0, .slice none 0 0]) ?_ 6 _ rfl; refine bp ?_; refine blk_put (cs := #[.string (⟨#[]⟩ : ByteArray), .int .i64 0, .int .i64 0, .string (⟨#[]⟩ : ByteArray), .slice none 0 0, .slice none 0 0, .slice none 0 0]) ?_ 5 _ rfl; refine bp ?_; refine blk_put (cs := #[.string (⟨#[]⟩ : ByteArray), .int .i64 0, .int .i64 0, .string (⟨#[]⟩ : ByteArray), .slice none 0 0, .slice none 0 0, .slice none 0 0]) ?_ 4 _ rfl; refine bp ?_; refine blk_put (cs := #[.string (⟨#[]⟩ : ByteArray), .int .i64 0, .int .i64 0, .string (⟨#[]⟩ : ByteArray), .slice none 0 0, .slice none 0 0, .slice none 0 0]) ?_ 3 _ rfl; refine bp ?_; refine blk_put (cs := #[.string (⟨#[]⟩ : ByteArray), .int .i64 0, .int .i64 0, .string (⟨#[]⟩ : ByteArray), .slice none 0 0, .slice none 0 0, .slice none 0 0]) ?_ 2 _ rfl; refine bp ?_; refine blk_put (cs := #[.string (⟨#[]⟩ : ByteArray), .int .i64 0, .int .i64 0, .string (⟨#[]⟩ : ByteArray), .slice none 0 0, .slice none 0 0, .slice none 0 0]) ?_ 1 _ rfl; refine bp ?_; refine blk_put (cs := #[.string (⟨#[]⟩ : ByteArray), .int .i64 0, .int .i64 0, .string (⟨#[]⟩ : ByteArray), .slice none 0 0, .slice none 0 0, .slice none 0 0]) ?_ 0 _ rfl; refine bp ?_; exact BK846.out) Try.underlying32 rfl (by kernel_rfl)) rfl ?_
      exact ⟨_, _, _, by first | rfl | (simp [errW_none, errW_some] <;> rfl) | (simp [*, errW_none, errW_some] <;> rfl), by first | exact Kd.R_nil _ _ _ _ _ | exact Kd.N_nil _ _ _ _ _ | exact Kd.V_nil _ _ _ _ _ | exact Kd.Q_nil _ _ _ _ _ | exact Kd.S_nil _ _ _ _ _, by first | exact Kd.R_nil _ _ _ _ _ | exact Kd.N_nil _ _ _ _ _ | exact Kd.V_nil _ _ _ _ _ | exact Kd.Q_nil _ _ _ _ _ | exact Kd.S_nil _ _ _ _ _, by first | exact Kd.R_nil _ _ _ _ _ | exact Kd.N_nil _ _ _ _ _ | exact Kd.V_nil _ _ _ _ _ | exact Kd.Q_nil _ _ _ _ _ | exact Kd.S_nil _ _ _ _ _, by exact b2 HB GE845 GE846⟩
  · replace c4 := Bool.eq_false_iff.mpr c4
    subst c4
    have H1 : (some ((⟨#[]⟩ : ByteArray), 0, 0, (⟨#[]⟩ : ByteArray), ([] : List ByteArray), ([] : List (S99)), ([] : List (S101)), false)) = some (r1, r2, r3, r4, r5, r6, r7, r8) := by rw [if_neg (show ¬ (false = true) by decide)] at H; exact H
    clear H; have H := H1; clear H1
    simp only [Option.some.injEq, Prod.mk.injEq] at H
    obtain ⟨rfl, rfl, rfl, rfl, rfl, rfl, rfl, rfl⟩ := H
    go_enter Try.func27, Try.ntmps27
    go_wp2_with (first | ((with_reducible refine zq25 (N := 2) rfl ?_); refine bx 2 #[.int .i64 a0_0, .slice A0_1 l0_1.length c0_1] 46 ?_; intro gb845 hg w29 hbox hb; have n0_ := zq9 (zq27 (by exact bl HB) hb); have n1_ := zq9 (hbox); have n2_ := zq9 ((by rw [hg]; exact (zq29 (by exact bl HB)) : w.heap.size ≤ gb845)); have n3_ := n2_; clear HB; have HB := n0_; have BK845 := n1_; have GW845 := n2_; have GE845 := n3_; clear n0_ n1_ n2_ n3_; clear hb hbox hg) | ((with_reducible refine zq25 (N := 4) rfl ?_); refine bx 4 #[.string (⟨#[]⟩ : ByteArray), .int .i64 0, .int .i64 0, .string (⟨#[]⟩ : ByteArray), .slice none 0 0, .slice none 0 0, .slice none 0 0] 32 ?_; intro gb846 hg w30 hbox hb; have n0_ := zq9 (zq30 (g := gb845) (o := .cells #[.int .i64 a0_0, .slice A0_1 l0_1.length c0_1] 46 (0, 0)) (by exact bk BK845) hb); have n1_ := zq9 (zq27 (by exact b1 HB GE845) hb); have n2_ := zq9 (hbox); have n3_ := zq9 ((by rw [hg]; exact (zq29 (by exact b1 HB GE845)) : w.heap.size ≤ gb846)); have n4_ := n3_; have n5_ := zq9 ((by rw [hg]; exact Nat.ne_of_lt (blk_lt (g := gb845) (o := .cells #[.int .i64 a0_0, .slice A0_1 l0_1.length c0_1] 46 (0, 0)) (by exact bk BK845)) : gb845 ≠ gb846)); have n6_ := zq9 ((by rw [hg]; exact Nat.ne_of_gt (blk_lt (g := gb845) (o := .cells #[.int .i64 a0_0, .slice A0_1 l0_1.length c0_1] 46 (0, 0)) (by exact bk BK845)) : gb846 ≠ gb845)); clear BK845; clear HB; have BK845 := n0_; have HB := n1_; have BK846 := n2_; have GW846 := n3_; have GE846 := n4_; have NB845_846 := n5_; have NB846_845 := n6_; clear n0_ n1_ n2_ n3_ n4_ n5_ n6_; clear hb hbox hg; have hnb31 := NB845_846.out; have hnc31 := NB846_845.out; have hcz32_0 : w30.cell? ⟨gb845, 0, none⟩ = some (.int .i64 a0_0) := bc BK845 0; have hcz32_1 : w30.cell? ⟨gb845, 1, none⟩ = some (.slice A0_1 l0_1.length c0_1) := bc BK845 1; have hfz32_0 := zq6 BK845.out 0; have hfz32_1 := zq6 BK845.out 1) | ((with_reducible refine zq24 (f := 17) rfl ?_); refine gl (some 9) Try.func17 #[.agg #[.int .i64 a0_0, .slice A0_1 l0_1.length c0_1]] ?_; (with_reducible refine (spec_BaseOk.calls k a0_0 _ _ l0_1 false _ ?side1 ?side2 A3.out).mono ?_); (case side1 => exact kc HR0_1 HB); (case side2 => exact HC0_1.out); rintro e w33 ⟨rfl, hb⟩; refine ⟨_, rfl, ?_⟩; have n0_ := zq9 (zq30 (g := gb845) (o := .cells #[.int .i64 a0_0, .slice A0_1 l0_1.length c0_1] 46 (0, 0)) (by exact bk BK845) hb); have n1_ := zq9 (zq30 (g := gb846) (o := .cells #[.string (⟨#[]⟩ : ByteArray), .int .i64 0, .int .i64 0, .string (⟨#[]⟩ : ByteArray), .slice none 0 0, .slice none 0 0, .slice none 0 0] 32 (0, 0)) (by exact bk BK846) hb); have n2_ := zq9 (zq27 (by exact b2 HB GE845 GE846) hb); clear BK845; clear BK846; clear HB; have BK845 := n0_; have BK846 := n1_; have HB := n2_; clear n0_ n1_ n2_; (try clear hb); (try clear hb2); (try clear hk); (try clear hi); have hcz34_0 : w33.cell? ⟨gb846, 0, none⟩ = some (.string (⟨#[]⟩ : ByteArray)) := bc BK846 0; have hcz34_1 : w33.cell? ⟨gb846, 1, none⟩ = some (.int .i64 0) := bc BK846 1; have hcz34_2 : w33.cell? ⟨gb846, 2, none⟩ = some (.int .i64 0) := bc BK846 2; have hcz34_3 : w33.cell? ⟨gb846, 3, none⟩ = some (.string (⟨#[]⟩ : ByteArray)) := bc BK846 3; have hcz34_4 : w33.cell? ⟨gb846, 4, none⟩ = some (.slice none 0 0) := bc BK846 4; have hcz34_5 : w33.cell? ⟨gb846, 5, none⟩ = some (.slice none 0 0) := bc BK846 5; have hcz34_6 : w33.cell? ⟨gb846, 6, none⟩ = some (.slice none 0 0) := bc BK846 6; have hfz34_0 := zq6 BK846.out 0; have hfz34_1 := zq6 BK846.out 1; have hfz34_2 := zq6 BK846.out 2; have hfz34_3 := zq6 BK846.out 3; have hfz34_4 := zq6 BK846.out 4; have hfz34_5 := zq6 BK846.out 5; have hfz34_6 := zq6 BK846.out 6))
    refine bodyPost_ret (results_ct rfl _ _ gb846 32 #[.string (⟨#[]⟩ : ByteArray), .int .i64 0, .int .i64 0, .string (⟨#[]⟩ : ByteArray), .slice none 0 0, .slice none 0 0, .slice none 0 0] (0, 0) _ rfl (by refine bp ?_; refine blk_put (cs := #[.string (⟨#[]⟩ : ByteArray), .int .i64 0, .int .i64 0, .string (⟨#[]⟩ : ByteArray), .slice none 0 0, .slice none 0 0, .slice none 0 0]) ?_ 6 _ rfl; refine bp ?_; refine blk_put (cs := #[.string (⟨#[]⟩ : ByteArray), .int .i64 0, .int .i64 0, .string (⟨#[]⟩ : ByteArray), .slice none 0 0, .slice none 0 0, .slice none 0 0]) ?_ 5 _ rfl; refine bp ?_; refine blk_put (cs := #[.string (⟨#[]⟩ : ByteArray), .int .i64 0, .int .i64 0, .string (⟨#[]⟩ : ByteArray), .slice none 0 0, .slice none 0 0, .slice none 0 0]) ?_ 4 _ rfl; refine bp ?_; refine blk_put (cs := #[.string (⟨#[]⟩ : ByteArray), .int .i64 0, .int .i64 0, .string (⟨#[]⟩ : ByteArray), .slice none 0 0, .slice none 0 0, .slice none 0 0]) ?_ 3 _ rfl; refine bp ?_; refine blk_put (cs := #[.string (⟨#[]⟩ : ByteArray), .int .i64 0, .int .i64 0, .string (⟨#[]⟩ : ByteArray), .slice none 0 0, .slice none 0 0, .slice none 0 0]) ?_ 2 _ rfl; refine bp ?_; refine blk_put (cs := #[.string (⟨#[]⟩ : ByteArray), .int .i64 0, .int .i64 0, .string (⟨#[]⟩ : ByteArray), .slice none 0 0, .slice none 0 0, .slice none 0 0]) ?_ 1 _ rfl; refine bp ?_; refine blk_put (cs := #[.string (⟨#[]⟩ : ByteArray), .int .i64 0, .int .i64 0, .string (⟨#[]⟩ : ByteArray), .slice none 0 0, .slice none 0 0, .slice none 0 0]) ?_ 0 _ rfl; refine bp ?_; exact BK846.out) Try.underlying32 rfl (by kernel_rfl)) rfl ?_
    exact ⟨_, _, _, by first | rfl | (simp [errW_none, errW_some] <;> rfl) | (simp [*, errW_none, errW_some] <;> rfl), by first | exact Kd.R_nil _ _ _ _ _ | exact Kd.N_nil _ _ _ _ _ | exact Kd.V_nil _ _ _ _ _ | exact Kd.Q_nil _ _ _ _ _ | exact Kd.S_nil _ _ _ _ _, by first | exact Kd.R_nil _ _ _ _ _ | exact Kd.N_nil _ _ _ _ _ | exact Kd.V_nil _ _ _ _ _ | exact Kd.Q_nil _ _ _ _ _ | exact Kd.S_nil _ _ _ _ _, by first | exact Kd.R_nil _ _ _ _ _ | exact Kd.N_nil _ _ _ _ _ | exact Kd.V_nil _ _ _ _ _ | exact Kd.Q_nil _ _ _ _ _ | exact Kd.S_nil _ _ _ _ _, by exact b2 HB GE845 GE846⟩
set_option maxHeartbeats 8000000 in
set_option maxRecDepth 100000 in
theorem impl_within.calls (a0 : Int) (a1 : Int) (a2 : Int) (r : Bool) (w : World) (h : impl_within.f a0 a1 a2 = some r) :
    Calls Try.prog 49 #[.int .i64 a0, .int .i64 a1, .int .i64 a2] w fun e w' => e = .returned (.bool r) ∧ Drawn0 w w' := by
  have H : (if a0 ≥ a1 then (some (decide (a0 ≤ a2))) else (some false)) = some r := h
  clear h
  by_cases c4 : a0 ≥ a1
  · rw [if_pos c4] at H; have c4b0 : decide (a1 ≤ a0) = true := decide_eq_true c4; clear c4; obtain rfl := Option.some.inj H
    go_enter Try.func49, Try.ntmps49
    go_wp2
    go_ret
    exact ⟨by first | rfl | (simp; done) | (simp [*]; done), by repeat (first | exact Drawn0.refl _ | apply Drawn0.step)⟩
  · rw [if_neg c4] at H; have c4b0 : decide (a1 ≤ a0) = false := decide_eq_false c4; clear c4; obtain rfl := Option.some.inj H
    go_enter Try.func49, Try.ntmps49
    go_wp2
    go_ret
    exact ⟨by first | rfl | (simp; done) | (simp [*]; done), by repeat (first | exact Drawn0.refl _ | apply Drawn0.step)⟩
set_option maxHeartbeats 8000000 in
set_option maxRecDepth 100000 in
theorem impl_keyOk.calls (a0 : ByteArray) (r : Bool) (w : World) (h : impl_keyOk.f a0 = some r) :
    Calls Try.prog 48 #[.string a0] w fun e w' => e = .returned (.bool r) ∧ Drawn0 w w' := by
  have H : ((impl_within.f (a0.size : Int) 1 12).bind fun t175 => (some t175)) = some r := h
  clear h; replace H := Option.bind_eq_some_iff.mp H; obtain ⟨t175, A20, H⟩ := H
  try dsimp only at H
  have A2 := zq9 A20; clear A20; obtain rfl := Option.some.inj H
  go_enter Try.func48, Try.ntmps48
  go_wp2_with (first | ((with_reducible refine zq24 (f := 49) rfl ?_); refine gl (some 5) Try.func49 #[.int .i64 (a0.size : Int), .int .i64 1, .int .i64 12] ?_; (with_reducible refine (impl_within.calls (a0.size : Int) 1 12 t175 _ A2.out).mono ?_); rintro e w' ⟨rfl, ⟨nd, rfl⟩⟩; refine ⟨_, rfl, ?_⟩))
  go_ret
  exact ⟨by first | rfl | (simp; done) | (simp [*]; done), by repeat (first | exact Drawn0.refl _ | apply Drawn0.step)⟩
set_option maxHeartbeats 8000000 in
set_option maxRecDepth 100000 in
theorem impl_textsOk.calls (k : Nat) (A0 : Option Addr) (c0 : Nat) (l0 : List ByteArray) (a1 : Int) (r : Bool) (w : World) (hr0 : Kd.C Kd.string w A0 l0.length l0) (hc0 : l0.length ≤ c0) (h : impl_textsOk.f k l0 a1 = some r) :
  Calls Try.prog 84 #[.slice A0 l0.length c0, .int .i64 a1] w fun e w' => e = .returned (.bool r) ∧ Drawn0 w w' := by
 have HR0 := zq9 hr0; have HC0 := zq9 hc0; clear hr0 hc0
 have H : (impl_textsOk.l0 k l0 a1 l0 (l0.length : Int) 0) = some r := h
 clear h; have H' := zq9 H; clear H
 go_enter Try.func84, Try.ntmps84
 go_wp2
 go_loopg [9] k (fun kq v9 w' => ∃ (x9_1 : Int), v9 = .int .i64 x9_1 ∧ Aside0 (impl_textsOk.l0 kq l0 a1 l0 (l0.length : Int) x9_1 = some r) ∧ Aside0 (kq ≤ k) ∧ Drawn0 w w')
 case atStart => exact ⟨(0), (by first | rfl | (simp; done) | (simp [*]; done)), H', ⟨Nat.le_refl _⟩, by repeat (first | exact Drawn0.refl _ | apply Drawn0.step)⟩
 case round =>
  clear H'
  try clear p2
  obtain ⟨x9_1, rfl, HA, HK1, ⟨m1, rfl⟩⟩ := hrel
  cases gk with
  | zero => exact absurd HA.out (by simp [impl_textsOk.l0])
  | succ k1 =>
   have H := HA.out; clear HA
   simp only [impl_textsOk.l0] at H
   by_cases c3 : x9_1 < (l0.length : Int)
   ·rw [if_pos c3] at H; have c3b0 : decide (x9_1 < (l0.length : Int)) = true := decide_eq_true c3; clear c3
    by_cases c4 : 0 ≤ x9_1
    ·rw [if_pos c4] at H; have c4b0 : decide (0 ≤ x9_1) = true := decide_eq_true c4; clear c4
     by_cases c5 : x9_1 < (l0.length : Int)
     ·rw [if_pos c5] at H; have c5b0 : decide (x9_1 < (l0.length : Int)) = true := decide_eq_true c5; clear c5
      by_cases c6 : ((rdOf ByteArray.empty l0 x9_1).size : Int) > 40
      ·rw [if_pos c6] at H; have c6b0 : decide (40 < ((rdOf ByteArray.empty l0 x9_1).size : Int)) = true := decide_eq_true c6
       have c6b1 : decide (40 < (rdOf ByteArray.empty l0 x9_1).size) = true := decide_eq_true (by omega)
       clear c6; obtain rfl := Option.some.inj H
       have p176 : 0 ≤ (x9_1 : Int) := of_decide_eq_true ‹_›
       have q176 : x9_1 < (l0.length : Int) := of_decide_eq_true ‹_›
       obtain ⟨ad176, e176, hx176_0⟩ := Kd.at_string HR0.out x9_1 p176 q176
       cases e176; replace p176 := eq_true p176; replace q176 := eq_true q176
       go_wp2
       go_ret
       exact ⟨by first | rfl | (simp; done) | (simp [*]; done), by repeat (first | exact Drawn0.refl _ | apply Drawn0.step)⟩
      ·rw [if_neg c6] at H; have c6b0 : decide (40 < ((rdOf ByteArray.empty l0 x9_1).size : Int)) = false := decide_eq_false c6
       have c6b1 : decide (40 < (rdOf ByteArray.empty l0 x9_1).size) = false := decide_eq_false (by omega)
       clear c6; have H' := zq9 H; clear H
       have p176 : 0 ≤ (x9_1 : Int) := of_decide_eq_true ‹_›
       have q176 : x9_1 < (l0.length : Int) := of_decide_eq_true ‹_›
       obtain ⟨ad176, e176, hx176_0⟩ := Kd.at_string HR0.out x9_1 p176 q176
       cases e176; replace p176 := eq_true p176; replace q176 := eq_true q176
       go_wp2
       go_roundg k1
       case measure => have := HK1.out; omega
       case rel => exact ⟨(wrap64 (x9_1 + 1)), (by first | rfl | (simp; done) | (simp [*]; done)), H', ⟨by have := HK1.out; omega⟩, by repeat (first | exact Drawn0.refl _ | apply Drawn0.step)⟩
     ·rw [if_neg c5] at H
      exact absurd H (by simp)
    ·rw [if_neg c4] at H
     exact absurd H (by simp)
   ·rw [if_neg c3] at H; have c3b0 : decide (x9_1 < (l0.length : Int)) = false := decide_eq_false c3; clear c3; obtain rfl := Option.some.inj H
    go_wp2
    go_ret
    exact ⟨by first | rfl | (simp; done) | (simp [*]; done), by repeat (first | exact Drawn0.refl _ | apply Drawn0.step)⟩
set_option maxHeartbeats 8000000 in
set_option maxRecDepth 100000 in
theorem impl_listOk.calls (k : Nat) (A0 : Option Addr) (c0 : Nat) (l0 : List ByteArray) (r : Bool) (w : World) (hr0 : Kd.C Kd.string w A0 l0.length l0) (hc0 : l0.length ≤ c0) (h : impl_listOk.f k l0 = some r) :
    Calls Try.prog 50 #[.slice A0 l0.length c0] w fun e w' => e = .returned (.bool r) ∧ Drawn0 w w' := by
  have HR0 := zq9 hr0; have HC0 := zq9 hc0; clear hr0 hc0
  have H : ((impl_textsOk.f k l0 16).bind fun t177 => (some t177)) = some r := h
  clear h; replace H := Option.bind_eq_some_iff.mp H; obtain ⟨t177, A20, H⟩ := H
  try dsimp only at H
  have A2 := zq9 A20; clear A20; obtain rfl := Option.some.inj H
  go_enter Try.func50, Try.ntmps50
  go_wp2_with (first | ((with_reducible refine zq24 (f := 84) rfl ?_); refine gl (some 4) Try.func84 #[.slice A0 l0.length c0, .int .i64 16] ?_; (with_reducible refine (impl_textsOk.calls k _ _ l0 16 t177 _ ?side1 ?side2 A2.out).mono ?_); (case side1 => repeat (first | exact HR0.out | (with_reducible refine zq18 ?_ _) | (with_reducible refine zq19 ?_ _) | (with_reducible refine zq20 ?_))); (case side2 => exact HC0.out); rintro e w' ⟨rfl, ⟨nd, rfl⟩⟩; refine ⟨_, rfl, ?_⟩))
  go_ret
  exact ⟨by first | rfl | (simp; done) | (simp [*]; done), by repeat (first | exact Drawn0.refl _ | apply Drawn0.step)⟩
set_option maxHeartbeats 8000000 in
set_option maxRecDepth 100000 in
theorem impl_SetOk.calls (k : Nat) (A0 : Option Addr) (c0 : Nat) (l0 : List ByteArray) (r : Bool) (w : World) (hr0 : Kd.C Kd.string w A0 l0.length l0) (hc0 : l0.length ≤ c0) (h : impl_SetOk.f k l0 = some r) :
  Calls Try.prog 51 #[.slice A0 l0.length c0] w fun e w' => e = .returned (.bool r) ∧ Drawn0 w w' := by
 have HR0 := zq9 hr0; have HC0 := zq9 hc0; clear hr0 hc0
 have H : (impl_SetOk.l0 k l0 1) = some r := h
 clear h; have H' := zq9 H; clear H
 go_enter Try.func51, Try.ntmps51
 go_wp2
 repeat (go_quiet (fail); try go_wp2)
 go_loopg [3] k (fun kq v3 w' => ∃ (x3_1 : Int), v3 = .int .i64 x3_1 ∧ Aside0 (impl_SetOk.l0 kq l0 x3_1 = some r) ∧ Aside0 (kq ≤ k) ∧ Drawn0 w w')
 case atStart => exact ⟨(1), (by first | rfl | (simp; done) | (simp [*]; done)), H', ⟨Nat.le_refl _⟩, by repeat (first | exact Drawn0.refl _ | apply Drawn0.step)⟩
 case round =>
  clear H'
  obtain ⟨x3_1, rfl, HA, HK1, ⟨m1, rfl⟩⟩ := hrel
  cases gk with
  | zero => exact absurd HA.out (by simp [impl_SetOk.l0])
  | succ k1 =>
   have H := HA.out; clear HA
   simp only [impl_SetOk.l0] at H
   by_cases c2 : x3_1 < (l0.length : Int)
   ·rw [if_pos c2] at H; have c2b0 : decide (x3_1 < (l0.length : Int)) = true := decide_eq_true c2; clear c2
    obtain ⟨ji3, hji3⟩ : ∃ j_ : Int, (wrap64 (x3_1 - 1)) = j_ := ⟨_, rfl⟩
    replace H : (if 0 ≤ (ji3) then (if (ji3) < (l0.length : Int) then (if 0 ≤ x3_1 then (if ((Op.bytesLess ((rdOf ByteArray.empty l0 (ji3)).toList) ((rdOf ByteArray.empty l0 x3_1).toList)) = true) then (impl_SetOk.l0 k1 l0 (wrap64 (x3_1 + 1))) else (some false)) else (none)) else (none)) else (none)) = some r := by first | (rw [hji3] at H; exact H) | (simp only [hji3] at H ⊢; exact H)
    have hji3w : (IntKind.i64.wrap (x3_1 - 1)) = ji3 := (i64_w _).trans hji3
    by_cases c4 : 0 ≤ (ji3)
    ·rw [if_pos c4] at H; have c4b0 : decide (0 ≤ (ji3)) = true := decide_eq_true c4; clear c4
     by_cases c5 : (ji3) < (l0.length : Int)
     ·rw [if_pos c5] at H; have c5b0 : decide ((ji3) < (l0.length : Int)) = true := decide_eq_true c5; clear c5
      by_cases c6 : 0 ≤ x3_1
      ·rw [if_pos c6] at H; have c6b0 : decide (0 ≤ x3_1) = true := decide_eq_true c6; clear c6
       have p178 : 0 ≤ ((ji3) : Int) := of_decide_eq_true ‹_›
       have q178 : (ji3) < (l0.length : Int) := of_decide_eq_true ‹_›
       obtain ⟨ad178, e178, hx178_0⟩ := Kd.at_string HR0.out (ji3) p178 q178
       cases e178; replace p178 := eq_true p178; replace q178 := eq_true q178
       have p179 : 0 ≤ (x3_1 : Int) := of_decide_eq_true ‹_›
       have q179 : x3_1 < (l0.length : Int) := of_decide_eq_true ‹_›
       obtain ⟨ad179, e179, hx179_0⟩ := Kd.at_string HR0.out x3_1 p179 q179
       obtain rfl : ad178 = ad179 := (by injection e179)
       replace p179 := eq_true p179; replace q179 := eq_true q179
       go_wp2
       by_cases c7 : ((Op.bytesLess ((rdOf ByteArray.empty l0 (ji3)).toList) ((rdOf ByteArray.empty l0 x3_1).toList)) = true)
       ·rw [if_pos c7] at H
        have c7b0 : (Op.bytesLess ((rdOf ByteArray.empty l0 (ji3)).toList) ((rdOf ByteArray.empty l0 x3_1).toList)) = true := c7
        clear c7; have H' := zq9 H; clear H
        repeat (go_quiet (fail); try go_wp2)
        go_roundg k1
        case measure => have := HK1.out; omega
        case rel => exact ⟨(wrap64 (x3_1 + 1)), (by first | rfl | (simp; done) | (simp [*]; done)), H', ⟨by have := HK1.out; omega⟩, by repeat (first | exact Drawn0.refl _ | apply Drawn0.step)⟩
       ·rw [if_neg c7] at H
        have c7b0 : (Op.bytesLess ((rdOf ByteArray.empty l0 (ji3)).toList) ((rdOf ByteArray.empty l0 x3_1).toList)) = false := by simpa using c7
        clear c7; obtain rfl := Option.some.inj H
        repeat (go_quiet (fail); try go_wp2)
        go_ret
        exact ⟨by first | rfl | (simp; done) | (simp only [← hji3] <;> (first | rfl | simp)) | (simp [*]; done), by repeat (first | exact Drawn0.refl _ | apply Drawn0.step)⟩
      ·rw [if_neg c6] at H
       exact absurd H (by simp)
     ·rw [if_neg c5] at H
      exact absurd H (by simp)
    ·rw [if_neg c4] at H
     exact absurd H (by simp)
   ·rw [if_neg c2] at H; have c2b0 : decide (x3_1 < (l0.length : Int)) = false := decide_eq_false c2; clear c2; replace H := Option.bind_eq_some_iff.mp H; obtain ⟨t180, A80, H⟩ := H
    try dsimp only at H
    have A8 := zq9 A80; clear A80; obtain rfl := Option.some.inj H
    go_wp2_with (first | (go_at_call 50; (with_reducible refine (impl_listOk.calls k1 _ _ l0 t180 _ ?side1 ?side2 A8.out).mono ?_); (case side1 => repeat (first | exact HR0.out | (with_reducible refine zq18 ?_ _) | (with_reducible refine zq19 ?_ _) | (with_reducible refine zq20 ?_))); (case side2 => exact HC0.out); rintro e w' ⟨rfl, ⟨nd, rfl⟩⟩; (try first | exact ⟨rfl, _, zq32 _ _ _⟩ | exact ⟨rfl, _, Eq.trans (zq32 _ _ _) (congrArg (World.drewN _) (Nat.add_assoc _ _ _))⟩)))
    repeat (go_quiet (first | (go_at_call 50; (with_reducible refine (impl_listOk.calls k1 _ _ l0 t180 _ ?side1 ?side2 A8.out).mono ?_); (case side1 => repeat (first | exact HR0.out | (with_reducible refine zq18 ?_ _) | (with_reducible refine zq19 ?_ _) | (with_reducible refine zq20 ?_))); (case side2 => exact HC0.out); rintro e w' ⟨rfl, ⟨nd, rfl⟩⟩; (try first | exact ⟨rfl, _, zq32 _ _ _⟩ | exact ⟨rfl, _, Eq.trans (zq32 _ _ _) (congrArg (World.drewN _) (Nat.add_assoc _ _ _))⟩))); try go_wp2_with (first | (go_at_call 50; (with_reducible refine (impl_listOk.calls k1 _ _ l0 t180 _ ?side1 ?side2 A8.out).mono ?_); (case side1 => repeat (first | exact HR0.out | (with_reducible refine zq18 ?_ _) | (with_reducible refine zq19 ?_ _) | (with_reducible refine zq20 ?_))); (case side2 => exact HC0.out); rintro e w' ⟨rfl, ⟨nd, rfl⟩⟩; (try first | exact ⟨rfl, _, zq32 _ _ _⟩ | exact ⟨rfl, _, Eq.trans (zq32 _ _ _) (congrArg (World.drewN _) (Nat.add_assoc _ _ _))⟩))))
    go_ret
    exact ⟨by first | rfl | (simp; done) | (simp [*]; done), by repeat (first | exact Drawn0.refl _ | apply Drawn0.step)⟩
set_option maxHeartbeats 8000000 in
set_option maxRecDepth 100000 in
theorem impl_position.calls (a0 : Int) (r : Bool) (w : World) (h : impl_position.f a0 = some r) :
    Calls Try.prog 85 #[.int .i64 a0] w fun e w' => e = .returned (.bool r) ∧ Drawn0 w w' := by
  have H : ((impl_within.f a0 (-1000000000) 1000000000).bind fun t181 => (some t181)) = some r := h
  clear h; replace H := Option.bind_eq_some_iff.mp H; obtain ⟨t181, A20, H⟩ := H
  try dsimp only at H
  have A2 := zq9 A20; clear A20; obtain rfl := Option.some.inj H
  go_enter Try.func85, Try.ntmps85
  go_wp2_with (first | ((with_reducible refine zq24 (f := 49) rfl ?_); refine gl (some 4) Try.func49 #[.int .i64 a0, .int .i64 (-1000000000), .int .i64 1000000000] ?_; (with_reducible refine (impl_within.calls a0 (-1000000000) 1000000000 t181 _ A2.out).mono ?_); rintro e w' ⟨rfl, ⟨nd, rfl⟩⟩; refine ⟨_, rfl, ?_⟩))
  go_ret
  exact ⟨by first | rfl | (simp; done) | (simp [*]; done), by repeat (first | exact Drawn0.refl _ | apply Drawn0.step)⟩
set_option maxHeartbeats 8000000 in
set_option maxRecDepth 100000 in
theorem cmp_Or_int.calls (k : Nat) (A0 : Option Addr) (c0 : Nat) (l0 : List Int) (r : Int) (w : World) (hr0 : Kd.C (Kd.int .i64) w A0 l0.length l0) (hc0 : l0.length ≤ c0) (h : cmp_Or_int.f k l0 = some r) :
  Calls Try.prog 104 #[.slice A0 l0.length c0] w fun e w' => e = .returned (.int .i64 r) ∧ Drawn0 w w' := by
 have HR0 := zq9 hr0; have HC0 := zq9 hc0; clear hr0 hc0
 have H : (cmp_Or_int.l0 k 0 l0 (l0.length : Int) 0) = some r := h
 clear h; have H' := zq9 H; clear H
 go_enter Try.func104, Try.ntmps104
 go_wp2
 go_loopg [8] k (fun kq v8 w' => ∃ (x8_1 : Int), v8 = .int .i64 x8_1 ∧ Aside0 (cmp_Or_int.l0 kq 0 l0 (l0.length : Int) x8_1 = some r) ∧ Aside0 (kq ≤ k) ∧ Drawn0 w w')
 case atStart => exact ⟨(0), (by first | rfl | (simp; done) | (simp [*]; done)), H', ⟨Nat.le_refl _⟩, by repeat (first | exact Drawn0.refl _ | apply Drawn0.step)⟩
 case round =>
  clear H'
  try clear c1
  obtain ⟨x8_1, rfl, HA, HK1, ⟨m1, rfl⟩⟩ := hrel
  cases gk with
  | zero => exact absurd HA.out (by simp [cmp_Or_int.l0])
  | succ k1 =>
   have H := HA.out; clear HA
   simp only [cmp_Or_int.l0] at H
   by_cases c2 : x8_1 < (l0.length : Int)
   ·rw [if_pos c2] at H; have c2b0 : decide (x8_1 < (l0.length : Int)) = true := decide_eq_true c2; clear c2
    by_cases c3 : 0 ≤ x8_1
    ·rw [if_pos c3] at H; have c3b0 : decide (0 ≤ x8_1) = true := decide_eq_true c3; clear c3
     by_cases c4 : x8_1 < (l0.length : Int)
     ·rw [if_pos c4] at H; have c4b0 : decide (x8_1 < (l0.length : Int)) = true := decide_eq_true c4; clear c4
      by_cases c5 : (rd l0 x8_1) = 0
      ·rw [if_pos c5] at H
       have c5b0 : ((rd l0 x8_1) == 0) = true := beq_iff_eq.mpr c5
       have c5b1 : ((rd l0 x8_1) != 0) = false := bne_eq_false_iff_eq.mpr c5
       clear c5; have H' := zq9 H; clear H
       have p182 : 0 ≤ (x8_1 : Int) := of_decide_eq_true ‹_›
       have q182 : x8_1 < (l0.length : Int) := of_decide_eq_true ‹_›
       obtain ⟨ad182, e182, hx182_0⟩ := Kd.at_int HR0.out x8_1 p182 q182
       cases e182; replace p182 := eq_true p182; replace q182 := eq_true q182
       go_wp2
       go_roundg k1
       case measure => have := HK1.out; omega
       case rel => exact ⟨(wrap64 (x8_1 + 1)), (by first | rfl | (simp; done) | (simp [*]; done)), H', ⟨by have := HK1.out; omega⟩, by repeat (first | exact Drawn0.refl _ | apply Drawn0.step)⟩
      ·rw [if_neg c5] at H
       have c5b0 : ((rd l0 x8_1) == 0) = false := beq_eq_false_iff_ne.mpr c5
       have c5b1 : ((rd l0 x8_1) != 0) = true := bne_iff_ne.mpr c5
       obtain rfl := Option.some.inj H
       have p182 : 0 ≤ (x8_1 : Int) := of_decide_eq_true ‹_›
       have q182 : x8_1 < (l0.length : Int) := of_decide_eq_true ‹_›
       obtain ⟨ad182, e182, hx182_0⟩ := Kd.at_int HR0.out x8_1 p182 q182
       cases e182; replace p182 := eq_true p182; replace q182 := eq_true q182
       go_wp2
       go_ret
       exact ⟨by first | rfl | (simp; done) | (simp [*]; done), by repeat (first | exact Drawn0.refl _ | apply Drawn0.step)⟩
     ·rw [if_neg c4] at H
      exact absurd H (by simp)
    ·rw [if_neg c3] at H
     exact absurd H (by simp)
   ·rw [if_neg c2] at H; have c2b0 : decide (x8_1 < (l0.length : Int)) = false := decide_eq_false c2; clear c2; obtain rfl := Option.some.inj H
    go_wp2
    go_ret
    exact ⟨by first | rfl | (simp; done) | (simp [*]; done), by repeat (first | exact Drawn0.refl _ | apply Drawn0.step)⟩
set_option maxHeartbeats 8000000 in
set_option maxRecDepth 100000 in
theorem cmp_isNaN_int.calls (a0 : Int) (r : Bool) (w : World) (h : cmp_isNaN_int.f a0 = some r) :
    Calls Try.prog 117 #[.int .i64 a0] w fun e w' => e = .returned (.bool r) ∧ Drawn0 w w' := by
  have H : (some (a0 != a0)) = some r := h
  clear h; obtain rfl := Option.some.inj H
  go_enter Try.func117, Try.ntmps117
  go_wp2
  go_ret
  exact ⟨by first | rfl | (simp; done) | (simp [*]; done), by repeat (first | exact Drawn0.refl _ | apply Drawn0.step)⟩
set_option maxHeartbeats 8000000 in
set_option maxRecDepth 100000 in
theorem cmp_Compare_int.calls (a0 : Int) (a1 : Int) (r : Int) (w : World) (h : cmp_Compare_int.f a0 a1 = some r) :
    Calls Try.prog 105 #[.int .i64 a0, .int .i64 a1] w fun e w' => e = .returned (.int .i64 r) ∧ Drawn0 w w' := by
  have H : ((cmp_isNaN_int.f a0).bind fun t183 => ((cmp_isNaN_int.f a1).bind fun t184 => (if t183 = true then (if t184 = true then (some 0) else (some (-1))) else (if t184 = true then (some 1) else (if a0 < a1 then (some (-1)) else (if a0 > a1 then (some 1) else (some 0))))))) = some r := h
  clear h; replace H := Option.bind_eq_some_iff.mp H; obtain ⟨t183, A30, H⟩ := H
  try dsimp only at H
  have A3 := zq9 A30; clear A30; replace H := Option.bind_eq_some_iff.mp H; obtain ⟨t184, A40, H⟩ := H
  try dsimp only at H
  have A4 := zq9 A40; clear A40
  go_enter Try.func105, Try.ntmps105
  refine (Classical.em (t183 = true)).elim (fun c5 => ?p0) (fun c5 => ?n0)
  case' p0 =>
    subst c5
    have H1 : (if t184 = true then (some 0) else (some (-1))) = some r := by rw [if_pos rfl] at H; exact H
    clear H; have H := H1; clear H1
    refine (Classical.em (t184 = true)).elim (fun c6 => ?p1) (fun c6 => ?n1)
    case' p1 =>
      subst c6
      have H1 : (some 0) = some r := by rw [if_pos rfl] at H; exact H
      clear H; have H := H1; clear H1; obtain rfl := Option.some.inj H
    case' n1 =>
      replace c6 := Bool.eq_false_iff.mpr c6
      subst c6
      have H1 : (some (-1)) = some r := by rw [if_neg (show ¬ (false = true) by decide)] at H; exact H
      clear H; have H := H1; clear H1; obtain rfl := Option.some.inj H
  case' n0 =>
    replace c5 := Bool.eq_false_iff.mpr c5
    subst c5
    have H1 : (if t184 = true then (some 1) else (if a0 < a1 then (some (-1)) else (if a0 > a1 then (some 1) else (some 0)))) = some r := by rw [if_neg (show ¬ (false = true) by decide)] at H; exact H
    clear H; have H := H1; clear H1
    refine (Classical.em (t184 = true)).elim (fun c7 => ?p2) (fun c7 => ?n2)
    case' p2 =>
      subst c7
      have H1 : (some 1) = some r := by rw [if_pos rfl] at H; exact H
      clear H; have H := H1; clear H1; obtain rfl := Option.some.inj H
    case' n2 =>
      replace c7 := Bool.eq_false_iff.mpr c7
      subst c7
      have H1 : (if a0 < a1 then (some (-1)) else (if a0 > a1 then (some 1) else (some 0))) = some r := by rw [if_neg (show ¬ (false = true) by decide)] at H; exact H
      clear H; have H := H1; clear H1
      refine (Classical.em (a0 < a1)).elim (fun c8 => ?p3) (fun c8 => ?n3)
      case' p3 =>
        rw [if_pos c8] at H; have c8b0 : decide (a0 < a1) = true := decide_eq_true c8; clear c8; obtain rfl := Option.some.inj H
      case' n3 =>
        rw [if_neg c8] at H; have c8b0 : decide (a0 < a1) = false := decide_eq_false c8; clear c8
        refine (Classical.em (a0 > a1)).elim (fun c9 => ?p4) (fun c9 => ?n4)
        case' p4 =>
          rw [if_pos c9] at H; have c9b0 : decide (a1 < a0) = true := decide_eq_true c9; clear c9; obtain rfl := Option.some.inj H
        case' n4 =>
          rw [if_neg c9] at H; have c9b0 : decide (a1 < a0) = false := decide_eq_false c9; clear c9; obtain rfl := Option.some.inj H
  case p1 | n1 | p2 | p3 | p4 | n4 =>
    try go_wp2_with (first | ((with_reducible refine zq24 (f := 117) rfl ?_); refine gl (some 8) Try.func117 #[.int .i64 a0] ?_; (with_reducible refine (cmp_isNaN_int.calls a0 false _ A3.out).mono ?_); rintro e w' ⟨rfl, ⟨nd, rfl⟩⟩; refine ⟨_, rfl, ?_⟩) | ((with_reducible refine zq24 (f := 117) rfl ?_); refine gl (some 8) Try.func117 #[.int .i64 a0] ?_; (with_reducible refine (cmp_isNaN_int.calls a0 true _ A3.out).mono ?_); rintro e w' ⟨rfl, ⟨nd, rfl⟩⟩; refine ⟨_, rfl, ?_⟩) | ((with_reducible refine zq24 (f := 117) rfl ?_); refine gl (some 10) Try.func117 #[.int .i64 a1] ?_; (with_reducible refine (cmp_isNaN_int.calls a1 false _ A4.out).mono ?_); rintro e w' ⟨rfl, ⟨nd, rfl⟩⟩; refine ⟨_, rfl, ?_⟩) | ((with_reducible refine zq24 (f := 117) rfl ?_); refine gl (some 10) Try.func117 #[.int .i64 a1] ?_; (with_reducible refine (cmp_isNaN_int.calls a1 true _ A4.out).mono ?_); rintro e w' ⟨rfl, ⟨nd, rfl⟩⟩; refine ⟨_, rfl, ?_⟩))
    go_ret
    exact ⟨by first | rfl | (simp; done) | (simp [*]; done), by repeat (first | exact Drawn0.refl _ | apply Drawn0.step)⟩
set_option maxHeartbeats 8000000 in
set_option maxRecDepth 100000 in
theorem cmp_isNaN_string.calls (a0 : ByteArray) (r : Bool) (w : World) (h : cmp_isNaN_string.f a0 = some r) :
    Calls Try.prog 118 #[.string a0] w fun e w' => e = .returned (.bool r) ∧ Drawn0 w w' := by
  have H : (some (a0.toList != a0.toList)) = some r := h
  clear h; obtain rfl := Option.some.inj H
  go_enter Try.func118, Try.ntmps118
  go_wp2
  go_ret
  exact ⟨by first | rfl | (simp; done) | (simp [*]; done), by repeat (first | exact Drawn0.refl _ | apply Drawn0.step)⟩
set_option maxHeartbeats 8000000 in
set_option maxRecDepth 100000 in
theorem cmp_Compare_string.calls (a0 : ByteArray) (a1 : ByteArray) (r : Int) (w : World) (h : cmp_Compare_string.f a0 a1 = some r) :
    Calls Try.prog 106 #[.string a0, .string a1] w fun e w' => e = .returned (.int .i64 r) ∧ Drawn0 w w' := by
  have H : ((cmp_isNaN_string.f a0).bind fun t185 => ((cmp_isNaN_string.f a1).bind fun t186 => (if t185 = true then (if t186 = true then (some 0) else (some (-1))) else (if t186 = true then (some 1) else (if (Op.bytesLess a0.toList a1.toList) = true then (some (-1)) else (if (Op.bytesLess a1.toList a0.toList) = true then (some 1) else (some 0))))))) = some r := h
  clear h; replace H := Option.bind_eq_some_iff.mp H; obtain ⟨t185, A30, H⟩ := H
  try dsimp only at H
  have A3 := zq9 A30; clear A30; replace H := Option.bind_eq_some_iff.mp H; obtain ⟨t186, A40, H⟩ := H
  try dsimp only at H
  have A4 := zq9 A40; clear A40
  go_enter Try.func106, Try.ntmps106
  refine (Classical.em (t185 = true)).elim (fun c5 => ?p0) (fun c5 => ?n0)
  case' p0 =>
    subst c5
    have H1 : (if t186 = true then (some 0) else (some (-1))) = some r := by rw [if_pos rfl] at H; exact H
    clear H; have H := H1; clear H1
    refine (Classical.em (t186 = true)).elim (fun c6 => ?p1) (fun c6 => ?n1)
    case' p1 =>
      subst c6
      have H1 : (some 0) = some r := by rw [if_pos rfl] at H; exact H
      clear H; have H := H1; clear H1; obtain rfl := Option.some.inj H
    case' n1 =>
      replace c6 := Bool.eq_false_iff.mpr c6
      subst c6
      have H1 : (some (-1)) = some r := by rw [if_neg (show ¬ (false = true) by decide)] at H; exact H
      clear H; have H := H1; clear H1; obtain rfl := Option.some.inj H
  case' n0 =>
    replace c5 := Bool.eq_false_iff.mpr c5
    subst c5
    have H1 : (if t186 = true then (some 1) else (if (Op.bytesLess a0.toList a1.toList) = true then (some (-1)) else (if (Op.bytesLess a1.toList a0.toList) = true then (some 1) else (some 0)))) = some r := by rw [if_neg (show ¬ (false = true) by decide)] at H; exact H
    clear H; have H := H1; clear H1
    refine (Classical.em (t186 = true)).elim (fun c7 => ?p2) (fun c7 => ?n2)
    case' p2 =>
      subst c7
      have H1 : (some 1) = some r := by rw [if_pos rfl] at H; exact H
      clear H; have H := H1; clear H1; obtain rfl := Option.some.inj H
    case' n2 =>
      replace c7 := Bool.eq_false_iff.mpr c7
      subst c7
      have H1 : (if (Op.bytesLess a0.toList a1.toList) = true then (some (-1)) else (if (Op.bytesLess a1.toList a0.toList) = true then (some 1) else (some 0))) = some r := by rw [if_neg (show ¬ (false = true) by decide)] at H; exact H
      clear H; have H := H1; clear H1
      refine (Classical.em ((Op.bytesLess a0.toList a1.toList) = true)).elim (fun c8 => ?p3) (fun c8 => ?n3)
      case' p3 =>
        rw [if_pos c8] at H
        have c8b0 : (Op.bytesLess a0.toList a1.toList) = true := c8
        have c8q : (a1.toList == a0.toList) = false := X.bl_ne c8b0
        clear c8; obtain rfl := Option.some.inj H
      case' n3 =>
        rw [if_neg c8] at H
        have c8b0 : (Op.bytesLess a0.toList a1.toList) = false := by simpa using c8
        try have c8q : (a1.toList == a0.toList) = true := X.bl_eq (by assumption) c8b0
        clear c8
        refine (Classical.em ((Op.bytesLess a1.toList a0.toList) = true)).elim (fun c9 => ?p4) (fun c9 => ?n4)
        case' p4 =>
          rw [if_pos c9] at H
          have c9b0 : (Op.bytesLess a1.toList a0.toList) = true := c9
          have c9q : (a0.toList == a1.toList) = false := X.bl_ne c9b0
          clear c9; obtain rfl := Option.some.inj H
        case' n4 =>
          rw [if_neg c9] at H
          have c9b0 : (Op.bytesLess a1.toList a0.toList) = false := by simpa using c9
          try have c9q : (a0.toList == a1.toList) = true := X.bl_eq (by assumption) c9b0
          clear c9; obtain rfl := Option.some.inj H
  case p1 | n1 | p2 | p3 | p4 | n4 =>
    try go_wp2_with (first | ((with_reducible refine zq24 (f := 118) rfl ?_); refine gl (some 8) Try.func118 #[.string a0] ?_; (with_reducible refine (cmp_isNaN_string.calls a0 false _ A3.out).mono ?_); rintro e w' ⟨rfl, ⟨nd, rfl⟩⟩; refine ⟨_, rfl, ?_⟩) | ((with_reducible refine zq24 (f := 118) rfl ?_); refine gl (some 8) Try.func118 #[.string a0] ?_; (with_reducible refine (cmp_isNaN_string.calls a0 true _ A3.out).mono ?_); rintro e w' ⟨rfl, ⟨nd, rfl⟩⟩; refine ⟨_, rfl, ?_⟩) | ((with_reducible refine zq24 (f := 118) rfl ?_); refine gl (some 10) Try.func118 #[.string a1] ?_; (with_reducible refine (cmp_isNaN_string.calls a1 false _ A4.out).mono ?_); rintro e w' ⟨rfl, ⟨nd, rfl⟩⟩; refine ⟨_, rfl, ?_⟩) | ((with_reducible refine zq24 (f := 118) rfl ?_); refine gl (some 10) Try.func118 #[.string a1] ?_; (with_reducible refine (cmp_isNaN_string.calls a1 true _ A4.out).mono ?_); rintro e w' ⟨rfl, ⟨nd, rfl⟩⟩; refine ⟨_, rfl, ?_⟩))
    go_ret
    exact ⟨by first | rfl | (simp; done) | (simp [*]; done), by repeat (first | exact Drawn0.refl _ | apply Drawn0.step)⟩
def impl_scoreOrder.T1 : Bool × List (List Nat × List Nat) := (true, [([], []), ([0], [0]), ([], []), ([2], [2]), ([1, 3], [1, 3]), ([], []), ([5], [5]), ([], []), ([7], [7]), ([6, 8, 4], [6, 8]), ([4, 9], [4, 9]), ([10, 9], [10]), ([11, 11, 0, 1, 2, 3, 4, 5, 6, 7, 8, 9, 10, 11], [11])])
def impl_scoreOrder.B1 : List Nat := [0, 1, 0, 4, 15, 0, 32, 0, 128, 511, 1023, 2047, 4095]
theorem impl_scoreOrder.tab1 : rtab .any (opsOf Try.f86 1) = impl_scoreOrder.T1 := by kernel_rfl
theorem impl_scoreOrder.bits1 : waitsOk impl_scoreOrder.T1.2 impl_scoreOrder.B1 = true := by kernel_rfl
set_option maxHeartbeats 8000000 in
set_option maxRecDepth 100000 in
theorem impl_scoreOrder.calls (k : Nat) (a0_0 : ByteArray) (a0_1 : Int) (a1_0 : ByteArray) (a1_1 : Int) (r : Int) (w : World) (h : impl_scoreOrder.f k a0_0 a0_1 a1_0 a1_1 = some r) :
    Calls Try.prog 86 #[.agg #[.string a0_0, .int .i64 a0_1], .agg #[.string a1_0, .int .i64 a1_1]] w fun e w' => e = .returned (.int .i64 r) ∧ Below w.heap.size w w' := by
  have hu99 := Try.underlying99
  have HB := zq9 (Below.refl w.heap.size w)
  have H : ((cmp_Compare_int.f a0_1 a1_1).bind fun t189 => ((cmp_Compare_string.f a0_0 a1_0).bind fun t190 => ((cmp_Or_int.f k (([t189, t190] : List Int))).bind fun t194 => (some t194)))) = some r := h
  clear h; replace H := Option.bind_eq_some_iff.mp H; obtain ⟨t189, A30, H⟩ := H
  try dsimp only at H
  have A3 := zq9 A30; clear A30; replace H := Option.bind_eq_some_iff.mp H; obtain ⟨t190, A40, H⟩ := H
  try dsimp only at H
  have A4 := zq9 A40; clear A40
  obtain ⟨y191, hy191⟩ : ∃ y_ : List Int, y_ = (([t189, t190] : List Int)) := ⟨_, rfl⟩
  replace H : ((cmp_Or_int.f k y191).bind fun t194 => (some t194)) = some r := by first | (rw [hy191]; with_reducible exact H) | (have H2_ := (Option.bind_some _ _).symm.trans H; rw [hy191]; with_reducible exact H2_) | (have H2_ := (Option.bind_some _ _).symm.trans H; with_reducible exact H2_) | with_reducible exact H | (rw [hy191]; exact H) | exact H
  have Ny191 := zq9 hy191; clear hy191; replace H := Option.bind_eq_some_iff.mp H; obtain ⟨t194, A50, H⟩ := H
  try dsimp only at H
  have A5 := zq9 A50; clear A50; obtain rfl := Option.some.inj H
  go_enter Try.func86, Try.ntmps86
  try go_wp2_with (first | ((with_reducible refine zq25 (N := 2) rfl ?_); refine bx 2 #[.string a0_0, .int .i64 a0_1] 99 ?_; intro gb187 hg w6 hbox hb; have n0_ := zq9 (zq27 (by exact bl HB) hb); have n1_ := zq9 (hbox); have n2_ := zq9 ((by rw [hg]; exact (zq29 (by exact bl HB)) : w.heap.size ≤ gb187)); have n3_ := n2_; clear HB; have HB := n0_; have BK187 := n1_; have GW187 := n2_; have GE187 := n3_; clear n0_ n1_ n2_ n3_; clear hb hbox hg) | ((with_reducible refine zq25 (N := 3) rfl ?_); refine bx 3 #[.string a1_0, .int .i64 a1_1] 99 ?_; intro gb188 hg w7 hbox hb; have n0_ := zq9 (zq30 (g := gb187) (o := .cells #[.string a0_0, .int .i64 a0_1] 99 (0, 0)) (by exact bk BK187) hb); have n1_ := zq9 (zq27 (by exact b1 HB GE187) hb); have n2_ := zq9 (hbox); have n3_ := zq9 ((by rw [hg]; exact (zq29 (by exact b1 HB GE187)) : w.heap.size ≤ gb188)); have n4_ := n3_; have n5_ := zq9 ((by rw [hg]; exact Nat.ne_of_lt (blk_lt (g := gb187) (o := .cells #[.string a0_0, .int .i64 a0_1] 99 (0, 0)) (by exact bk BK187)) : gb187 ≠ gb188)); have n6_ := zq9 ((by rw [hg]; exact Nat.ne_of_gt (blk_lt (g := gb187) (o := .cells #[.string a0_0, .int .i64 a0_1] 99 (0, 0)) (by exact bk BK187)) : gb188 ≠ gb187)); clear BK187; clear HB; have BK187 := n0_; have HB := n1_; have BK188 := n2_; have GW188 := n3_; have GE188 := n4_; have NB187_188 := n5_; have NB188_187 := n6_; clear n0_ n1_ n2_ n3_ n4_ n5_ n6_; clear hb hbox hg))
  have n0_ := zq9 (blk_drew BK187.out)
  have n1_ := zq9 (blk_drew BK188.out)
  have n2_ := zq9 (zq4 HB.out)
  clear BK187; clear BK188; clear HB; have BK187 := n0_; have BK188 := n1_; have HB := n2_; clear n0_ n1_ n2_
  refine start_ (n := 13) (S := fun w' => w'.cell? ⟨gb187, 0, none⟩ = some (.string a0_0) ∧ w'.cell? ⟨gb187, 1, none⟩ = some (.int .i64 a0_1) ∧ w'.cell? ⟨gb188, 0, none⟩ = some (.string a1_0) ∧ w'.cell? ⟨gb188, 1, none⟩ = some (.int .i64 a1_1)) (ds := []) #[false, false, false, false, false, false, false, false, false, false, false, false, false] (by kernel_rfl) rfl rfl ⟨bc BK187 0, bc BK187 1, bc BK188 0, bc BK188 1⟩ (fun hHeld => ?_); refine with_tabW impl_scoreOrder.tab1 impl_scoreOrder.bits1 (fun HT_ HW_ => ?_)
  generalize w7.drew = w8 at BK187 BK188 HB hHeld ⊢
  refine pa HT_ 0 5 (zb 13 1) ?_; refine pa HT_ 2 7 (zb 13 5) ?_; refine pa HT_ 5 10 (zb 13 37) ?_; refine pa HT_ 7 12 (zb 13 165) ?_
  refine take_ (i := 1) (N := some 6) (v := ?_) (a' := ?_) (zb 13 167) rfl rfl (take_ofW HT_.out HW_.out (by kernel_rfl)) (fun _ _ _ h => h) (Or.inl ⟨by rfl, ?_⟩) hHeld ?_ ?_
  rotate_left; · rintro w' ⟨s0, s1, s2, s3⟩; go_simp; with_reducible rfl
  rotate_left; · simp only [Act.put, zq0, zq1, zq2, i64_w, i32_w]; rfl
  refine take_ (i := 3) (N := some 8) (v := ?_) (a' := ?_) (zb 13 175) rfl rfl (take_ofW HT_.out HW_.out (by kernel_rfl)) (fun _ _ _ h => h) (Or.inl ⟨by rfl, ?_⟩) hHeld ?_ ?_
  rotate_left; · rintro w' ⟨s0, s1, s2, s3⟩; go_simp; with_reducible rfl
  rotate_left; · simp only [Act.put, zq0, zq1, zq2, i64_w, i32_w]; rfl
  refine take_ (i := 6) (N := some 11) (v := ?_) (a' := ?_) (zb 13 239) rfl rfl (take_ofW HT_.out HW_.out (by kernel_rfl)) (fun _ _ _ h => h) (Or.inl ⟨by rfl, ?_⟩) hHeld ?_ ?_
  rotate_left; · rintro w' ⟨s0, s1, s2, s3⟩; go_simp; with_reducible rfl
  rotate_left; · simp only [Act.put, zq0, zq1, zq2, i64_w, i32_w]; rfl
  refine take_ (i := 8) (N := some 13) (v := ?_) (a' := ?_) (zb 13 495) rfl rfl (take_ofW HT_.out HW_.out (by kernel_rfl)) (fun _ _ _ h => h) (Or.inl ⟨by rfl, ?_⟩) hHeld ?_ ?_
  rotate_left; · rintro w' ⟨s0, s1, s2, s3⟩; go_simp; with_reducible rfl
  rotate_left; · simp only [Act.put, zq0, zq1, zq2, i64_w, i32_w]; rfl
  refine one_ (i := 4) (N := some 9) (zb 13 511) rfl rfl (one_of HT_.out (by kernel_rfl)) (by decide) (fun K hK => ?_)
  refine gs Try.func105 #[.int .i64 a0_1, .int .i64 a1_1] ?_
  with_reducible refine (cmp_Compare_int.calls a0_1 a1_1 t189 _ A3.out).mono ?_
  rintro e w' ⟨rfl, ⟨nd, rfl⟩⟩
  refine ⟨_, rfl, ?_⟩
  refine hK.out _ _ ⟨bc BK187 0, bc BK187 1, bc BK188 0, bc BK188 1⟩ (fun hHeld => ?_)
  clear hK K
  refine norm_ (a' := ?_) ?_ ?_
  rotate_left; · show Act.put _ (some 9) _ = _; simp only [Act.put, zq0, zq1, zq2, i64_w, i32_w]; rfl
  refine one_ (i := 9) (N := some 14) (zb 13 1023) rfl rfl (one_of HT_.out (by kernel_rfl)) (by decide) (fun K hK => ?_)
  refine gs Try.func106 #[.string a0_0, .string a1_0] ?_
  with_reducible refine (cmp_Compare_string.calls a0_0 a1_0 t190 _ A4.out).mono ?_
  rintro e w' ⟨rfl, ⟨nd, rfl⟩⟩
  refine ⟨_, rfl, ?_⟩
  refine hK.out _ _ ⟨bc BK187 0, bc BK187 1, bc BK188 0, bc BK188 1⟩ (fun hHeld => ?_)
  clear hK K
  refine norm_ (a' := ?_) ?_ ?_
  rotate_left; · show Act.put _ (some 14) _ = _; simp only [Act.put, zq0, zq1, zq2, i64_w, i32_w]; rfl
  refine one_ (i := 10) (N := some 15) (zb 13 2047) rfl rfl (one_of HT_.out (by kernel_rfl)) (by decide) (fun K hK => ?_)
  refine Kd.R_lit_step (Kd.int .i64) _ 3 ?hg (N := 15) ?hd (xs := ([t189, t190] : List Int)) (inner := [.int .i64 t189, .int .i64 t190]) (ok := fun _ => True) (okp := fun _ => True) ?hr ?hp (fun _ hk => hk) trivial (Below.refl _ _) (Nat.le_refl _) (by simp) ?_; (case hd => rfl); (case hg => rfl); (case hr => first | (go_simp; done) | (go_simp; rfl)); (case hp => exact (Reps.one (show Kd.M (Kd.int .i64) _ _ _ t189 [.int .i64 t189] from rfl) (Reps.one (show Kd.M (Kd.int .i64) _ _ _ t190 [.int .i64 t190] from rfl) (Reps.none _ _))))
  intro v192 w9 ho10 hb hg_ hnew_
  clear hg_ hnew_
  (first | rw [← Ny191.out] at ho10 | (simp only [Int.reduceToNat] at ho10; rw [← Ny191.out] at ho10))
  have n0_ := zq9 (Kd.R_lower ho10 (zq29 (by exact b2 HB GE187 GE188)))
  have n1_ := zq9 (zq30 (g := gb187) (o := .cells #[.string a0_0, .int .i64 a0_1] 99 (0, 0)) (by exact bk BK187) hb)
  have n2_ := zq9 (zq30 (g := gb188) (o := .cells #[.string a1_0, .int .i64 a1_1] 99 (0, 0)) (by exact bk BK188) hb)
  have n3_ := zq9 (zq27 (by exact b2 HB GE187 GE188) hb)
  clear BK187; clear BK188; clear HB; have HO193 := n0_; have BK187 := n1_; have BK188 := n2_; have HB := n3_; clear n0_ n1_ n2_ n3_; clear hb ho10
  obtain ⟨Ao11, co11, eo11⟩ := Kd.R_slice HO193.out
  (first | subst eo11 | (injection eo11 with f1_ f2_ f3_; have f4_ := f1_.symm; have f5_ := f3_.symm; clear f1_ f2_ f3_; subst f4_; subst f5_))
  refine hK.out _ _ ⟨bc BK187 0, bc BK187 1, bc BK188 0, bc BK188 1⟩ (fun hHeld => ?_)
  clear hK K
  refine norm_ (a' := ?_) ?_ ?_
  rotate_left; · show Act.put _ (some 15) _ = _; simp only [Act.put, zq0, zq1, zq2, i64_w, i32_w]; rfl
  refine one_ (i := 11) (N := some 16) (zb 13 4095) rfl rfl (one_of HT_.out (by kernel_rfl)) (by decide) (fun K hK => ?_)
  refine gs Try.func104 #[.slice Ao11 y191.length co11] ?_
  with_reducible refine (cmp_Or_int.calls k _ _ y191 t194 _ ?side1 ?side2 A5.out).mono ?_
  (case side1 => repeat (first | exact (Kd.R_reads' HO193.out).2.2 | (with_reducible refine zq18 ?_ _) | (with_reducible refine zq19 ?_ _) | (with_reducible refine zq20 ?_)))
  (case side2 => exact (Kd.R_reads' HO193.out).2.1)
  rintro e w' ⟨rfl, ⟨nd, rfl⟩⟩
  refine ⟨_, rfl, ?_⟩
  refine hK.out _ _ ⟨bc BK187 0, bc BK187 1, bc BK188 0, bc BK188 1⟩ (fun hHeld => ?_)
  clear hK K
  refine norm_ (a' := ?_) ?_ ?_
  rotate_left; · show Act.put _ (some 16) _ = _; simp only [Act.put, zq0, zq1, zq2, i64_w, i32_w]; rfl
  refine pa HT_ 12 4 (zb 13 8191) ?_
  refine done_ (done_of HT_.out (by kernel_rfl)) ?_
  try go_wp2
  go_ret
  exact fz (by exact b2 HB GE187 GE188)
set_option maxHeartbeats 400000 in
theorem impl_scoreAt.calls_lit (x0 : ByteArray) (x1 : Int) (t : ByteArray) (B : Nat) (w : World) (hB : w.cell? ⟨B, 0, none⟩ = some (.string t)) :
    Calls Try.prog 108 #[.agg #[.string x0, .int .i64 x1], .pointer (some ⟨B, 0, none⟩)] w fun e w' => e = .returned (.bool (x0.toList == t.toList)) ∧ Below w.heap.size w w' := by
  have hlt := zq8 w ⟨B, 0, none⟩ hB
  go_enter Try.func108, Try.ntmps108
  go_wp2
  go_ret
  exact ⟨rfl, (Below.refl _ _).alloc (Nat.le_refl _) _⟩
theorem impl_scoreAt.hit (t : ByteArray) (l : List S99) (i : Nat) (h : i < l.length) (he : (l[i].f0.toList == t.toList) = true) : impl_scoreAt.from t (l.drop i) i = i := by
  rw [List.drop_eq_getElem_cons h, impl_scoreAt.from, if_pos (by simpa using he)]
theorem impl_scoreAt.step (t : ByteArray) (l : List S99) (i : Nat) (h : i < l.length) (he : (l[i].f0.toList == t.toList) = false) : impl_scoreAt.from t (l.drop i) i = impl_scoreAt.from t (l.drop (i + 1)) (i + 1) := by
  rw [List.drop_eq_getElem_cons h, impl_scoreAt.from, if_neg (by simpa using he)]
set_option maxHeartbeats 2000000 in
theorem impl_scoreAt.finds (A0 : Option Addr) (c0 : Nat) (l0 : List S99) (t : ByteArray) (B : Nat) (w : World) (hr0 : Kd.C k99 w A0 l0.length l0) (hB : w.cell? ⟨B, 0, none⟩ = some (.string t)) :
    Calls Try.prog 107 #[.slice A0 l0.length c0, .func (.func 108) #[] #[.pointer (some ⟨B, 0, none⟩)]] w fun e w' => e = .returned (.int .i64 (impl_scoreAt.from t l0 0)) ∧ Below w.heap.size w w' := by
  have hlt := zq8 w ⟨B, 0, none⟩ hB
  have hbig : l0.length ≤ 9223372036854775807 := hr0.2.1
  have HR0 := zq9 hr0; clear hr0
  go_enter Try.func107, Try.ntmps107
  go_wp2
  go_loopg [5, 8] l0.length (fun gg _ s8 wr => ∃ kk : Nat, kk ≤ l0.length ∧ l0.length - kk ≤ gg ∧ s8 = .int .i64 kk ∧ Aside0 (Below w.heap.size w wr) ∧ Aside0 (impl_scoreAt.from t (l0.drop kk) kk = impl_scoreAt.from t l0 0))
  case atStart => exact ⟨0, Nat.zero_le _, by omega, rfl, ⟨Below.refl _ w⟩, ⟨rfl⟩⟩
  case round =>
    obtain ⟨kk, hkk, hg, rfl, BW, A⟩ := hrel
    by_cases hlt2 : kk < l0.length
    · have hltz : (kk : Int) < (l0.length : Int) := by omega
      have hel : rd_T99 l0 (kk : Int) = l0[kk] := by simp [rd_T99, List.getD_eq_getElem?_getD, hlt2]
      obtain ⟨ad, e0, hx0, hx1⟩ := at_T99 (zq31 HR0.out BW.out) (kk : Int) (by omega) (by omega)
      cases e0
      simp only [Int.toNat_natCast] at hx0 hx1
      have hcall := impl_scoreAt.calls_lit (rd_T99 l0 kk).f0 (rd_T99 l0 kk).f1 t B wr ((BW.out.cell (p := ⟨B, 0, none⟩) hlt).trans hB)
      cases hq : ((rd_T99 l0 (kk : Int)).f0.toList == t.toList) with
      | true =>
        rw [hq] at hcall
        have HIT := zq9 (impl_scoreAt.hit t l0 kk hlt2 (by rw [← hel]; exact hq))
        clear hq hel
        go_wp2_with (refine hcall.mono ?_; rintro e w' ⟨rfl, hb'⟩)
        go_ret
        exact ⟨congrArg (fun z => Ending.returned (.int .i64 z)) (HIT.out.symm.trans A.out), BW.out.trans (hb'.mono BW.out.size)⟩
      | false =>
        rw [hq] at hcall
        have MISS := zq9 (impl_scoreAt.step t l0 kk hlt2 (by rw [← hel]; exact hq))
        clear hq hel
        go_wp2_with (refine hcall.mono ?_; rintro e w' ⟨rfl, hb'⟩)
        go_roundg (l0.length - (kk + 1))
        case measure => omega
        case rel => exact ⟨kk + 1, by omega, by omega, by go_num, ⟨BW.out.trans (hb'.mono BW.out.size)⟩, ⟨by rw [← MISS.out]; exact A.out⟩⟩
    · have hltz : ¬ (kk : Int) < (l0.length : Int) := by omega
      obtain rfl : kk = l0.length := by omega
      go_wp2
      go_ret
      have e1 := A.out
      rw [List.drop_of_length_le (Nat.le_refl _)] at e1
      exact ⟨congrArg (fun z => Ending.returned (.int .i64 z)) e1, BW.out⟩
set_option maxHeartbeats 2000000 in
theorem impl_scoreAt.calls (A0 : Option Addr) (c0 : Nat) (l0 : List S99) (a1 : ByteArray) (r : Int) (w : World) (hr0 : Kd.C k99 w A0 l0.length l0) (hc0 : l0.length ≤ c0) (h : impl_scoreAt.f l0 a1 = some r) :
    Calls Try.prog 87 #[.slice A0 l0.length c0, .string a1] w fun e w' => e = .returned (.int .i64 r) ∧ Below w.heap.size w w' := by
  obtain rfl := Option.some.inj h
  have hr1 : Kd.C k99 (w.alloc (.cells #[.string a1] 9)) A0 l0.length l0 := zq31 hr0 ((Below.refl _ _).alloc (Nat.le_refl _) _)
  have HF := fun hB => impl_scoreAt.finds A0 c0 l0 a1 w.heap.size (w.alloc (.cells #[.string a1] 9)) hr1 hB
  go_enter Try.func87, Try.ntmps87
  go_wp2_with fail
  refine (HF (by simp)).mono ?_
  rintro e w' ⟨rfl, hb⟩
  go_wp2
  go_ret
  exact ⟨rfl, ((Below.refl _ _).alloc (Nat.le_refl _) _).trans (hb.mono (by simp))⟩
def impl_ScoresOk.T4 : Bool × List (List Nat × List Nat) := (true, [([], []), ([0], [0]), ([1], [1]), ([2], [2]), ([3], [3]), ([4], [4]), ([5, 4], [4, 5]), ([6, 4, 4], [4, 6]), ([7, 4], [4, 7]), ([4, 8], [4, 8]), ([9, 7], [9]), ([10], [10]), ([11, 10], [10, 11]), ([12, 10, 10], [10, 12]), ([13], [13]), ([13], [13]), ([15, 13], [13, 15]), ([14, 16, 13], [13, 14, 16]), ([17, 13], [13, 17]), ([13], [13]), ([18, 19, 13, 13], [13, 18, 19]), ([20, 13], [13, 20]), ([13, 21, 10], [10, 13, 21]), ([10, 22], [10, 22]), ([23, 20], [23]), ([24], [24]), ([24], [24]), ([26, 24], [24, 26]), ([25, 27, 24, 24], [24, 25, 27]), ([24], [24]), ([28, 29, 24], [24, 28, 29]), ([24, 30], [24, 30])])
def impl_ScoresOk.B4 : List Nat := [0, 1, 3, 7, 15, 31, 63, 127, 255, 511, 1023, 2047, 4095, 8191, 16383, 16383, 49151, 131071, 262143, 16383, 1048575, 2097151, 4194303, 8388607, 16777215, 33554431, 33554431, 100663295, 268435455, 33554431, 1073741823, 2147483647]
theorem impl_ScoresOk.tab4 : rtab .any (opsOf Try.f52 4) = impl_ScoresOk.T4 := by kernel_rfl
theorem impl_ScoresOk.bits4 : waitsOk impl_ScoresOk.T4.2 impl_ScoresOk.B4 = true := by kernel_rfl
set_option maxHeartbeats 8000000 in
set_option maxRecDepth 100000 in
theorem impl_ScoresOk.calls (k : Nat) (A0 : Option Addr) (c0 : Nat) (l0 : List (S99)) (r : Bool) (w : World) (hr0 : Kd.C k99 w A0 l0.length l0) (hc0 : l0.length ≤ c0) (h : impl_ScoresOk.f k l0 = some r) :
  Calls Try.prog 52 #[.slice A0 l0.length c0] w fun e w' => e = .returned (.bool r) ∧ Below w.heap.size w w' := by
 have hu99 := Try.underlying99; have HR0 := zq9 hr0; have HC0 := zq9 hc0; clear hr0 hc0
 have HB := zq9 (Below.refl w.heap.size w)
 have H : (impl_ScoresOk.l0 k l0 l0 (l0.length : Int) 0) = some r := h
 clear h; have H' := zq9 H; clear H
 go_enter Try.func52, Try.ntmps52
 go_wp2
 go_loopg [7] k (fun kq v7 w' => ∃ (x7_1 : Int), v7 = .int .i64 x7_1 ∧ Aside0 (impl_ScoresOk.l0 kq l0 l0 (l0.length : Int) x7_1 = some r) ∧ Aside0 (kq ≤ k) ∧ Aside0 (Below w.heap.size w w'))
 case atStart => exact ⟨(0), (by first | rfl | (simp; done) | (simp [*]; done)), H', ⟨Nat.le_refl _⟩, ⟨by exact bl HB⟩⟩
 case round =>
  clear H'
  obtain ⟨x7_1, rfl, HA, HK1, HB⟩ := hrel
  cases gk with
  | zero => exact absurd HA.out (by simp [impl_ScoresOk.l0])
  | succ k1 =>
   have H := HA.out; clear HA
   simp only [impl_ScoresOk.l0] at H
   refine (Classical.em (x7_1 < (l0.length : Int))).elim (fun c2 => ?p0) (fun c2 => ?n0)
   case' p0 =>
    rw [if_pos c2] at H; have c2b0 : decide (x7_1 < (l0.length : Int)) = true := decide_eq_true c2; clear c2
    refine (Classical.em (0 ≤ x7_1)).elim (fun c3 => ?p1) (fun c3 => ?n1)
    case' p1 =>
     rw [if_pos c3] at H; have c3b0 : decide (0 ≤ x7_1) = true := decide_eq_true c3; clear c3
     refine (Classical.em (x7_1 < (l0.length : Int))).elim (fun c4 => ?p2) (fun c4 => ?n2)
     case' p2 =>
      rw [if_pos c4] at H; have c4b0 : decide (x7_1 < (l0.length : Int)) = true := decide_eq_true c4; clear c4
      have p195 : 0 ≤ (x7_1 : Int) := of_decide_eq_true ‹_›
      have q195 : x7_1 < (l0.length : Int) := of_decide_eq_true ‹_›
      obtain ⟨ad195, e195, hx195_0, hx195_1⟩ := at_T99 HR0.out x7_1 p195 q195
      cases e195; replace hx195_0 := hcl HB hx195_0; replace hx195_1 := hcl HB hx195_1; replace p195 := eq_true p195; replace q195 := eq_true q195
      try go_wp2_with (first | ((with_reducible refine zq25 (N := 4) rfl ?_); refine bx 4 #[.string (⟨#[]⟩ : ByteArray), .int .i64 0] 99 ?_; intro gb196 hg w6 hbox hb; have n0_ := zq9 (zq27 (by exact bl HB) hb); have n1_ := zq9 (hbox); have n2_ := zq9 ((by rw [hg]; exact (zq29 (by exact bl HB)) : w.heap.size ≤ gb196)); have n3_ := n2_; clear HB; have HB := n0_; have BK196 := n1_; have GW196 := n2_; have GE196 := n3_; clear n0_ n1_ n2_ n3_; clear hb hbox hg; have hcz7_0 : w6.cell? ⟨gb196, 0, none⟩ = some (.string (⟨#[]⟩ : ByteArray)) := bc BK196 0; have hcz7_1 : w6.cell? ⟨gb196, 1, none⟩ = some (.int .i64 0) := bc BK196 1; have hfz7_0 := zq6 BK196.out 0; have hfz7_1 := zq6 BK196.out 1))
      have n0_ : Aside0 (((w6.setCell ⟨gb196, 0, none⟩ (.string ((rd_T99 l0 x7_1).f0))).setCell ⟨gb196, 1, none⟩ (.int .i64 ((rd_T99 l0 x7_1).f1))).heap[gb196]? = some (.cells #[.string ((rd_T99 l0 x7_1).f0), .int .i64 ((rd_T99 l0 x7_1).f1)] 99 (0, 0))) := ⟨(blk_set (blk_set BK196.out 0 _) 1 _)⟩
      have n1_ : Aside0 (Below w.heap.size w ((w6.setCell ⟨gb196, 0, none⟩ (.string ((rd_T99 l0 x7_1).f0))).setCell ⟨gb196, 1, none⟩ (.int .i64 ((rd_T99 l0 x7_1).f1)))) := ⟨by exact b1 HB GE196⟩
      (try clear BK196)
      (try clear HB)
      generalize ((w6.setCell ⟨gb196, 0, none⟩ (.string ((rd_T99 l0 x7_1).f0))).setCell ⟨gb196, 1, none⟩ (.int .i64 ((rd_T99 l0 x7_1).f1))) = w8 at n0_ n1_ ⊢
      have BK196 := n0_; have HB := n1_; clear n0_ n1_
      have n0_ := zq9 (blk_drew BK196.out)
      have n1_ := zq9 (zq4 HB.out)
      clear BK196; clear HB; have BK196 := n0_; have HB := n1_; clear n0_ n1_
      refine (Classical.em ((((rd_T99 l0 x7_1).f0).size : Int) > 40)).elim (fun c5 => ?p3) (fun c5 => ?n3)
      case p3 =>
       rw [if_pos c5] at H; have c5b0 : decide (40 < (((rd_T99 l0 x7_1).f0).size : Int)) = true := decide_eq_true c5
       have c5b1 : decide (40 < ((rd_T99 l0 x7_1).f0).size) = true := decide_eq_true (by omega)
       clear c5; obtain rfl := Option.some.inj H
       refine start_ (n := 32) (S := fun w' => w'.cell? ⟨gb196, 0, none⟩ = some (.string ((rd_T99 l0 x7_1).f0)) ∧ w'.cell? ⟨gb196, 1, none⟩ = some (.int .i64 ((rd_T99 l0 x7_1).f1))) (ds := []) #[false, false, false, false, false, false, false, false, false, false, false, false, false, false, false, false, false, false, false, false, false, false, false, false, false, false, false, false, false, false, false, false] (by kernel_rfl) rfl rfl ⟨bc BK196 0, bc BK196 1⟩ (fun hHeld => ?_); refine with_tabW impl_ScoresOk.tab4 impl_ScoresOk.bits4 (fun HT_ HW_ => ?_)
       generalize w8.drew = w9 at BK196 HB hHeld ⊢
       refine pa HT_ 0 12 (zb 32 1) ?_
       refine take_ (i := 1) (N := some 13) (v := ?_) (a' := ?_) (zb 32 3) rfl rfl (take_ofW HT_.out HW_.out (by kernel_rfl)) (fun _ _ _ h => h) (Or.inl ⟨by rfl, ?_⟩) hHeld ?_ ?_
       rotate_left; ·rintro w' ⟨s0, s1⟩; go_simp; with_reducible rfl
       rotate_left; ·simp only [Act.put, zq0, zq1, zq2, i64_w, i32_w]; rfl
       refine pa HT_ 2 14 (zb 32 7) ?_; refine pa HT_ 3 15 (zb 32 15) ?_; refine pa HT_ 4 16 (zb 32 31) ?_; refine pb HT_ 5 17 (zb 32 63) ?_; refine pb HT_ 6 18 (zb 32 127) ?_; refine pb HT_ 7 19 (zb 32 255) ?_; refine pb HT_ 8 20 (zb 32 511) ?_; refine pa HT_ 9 21 (zb 32 1023) ?_; refine pa HT_ 10 22 (zb 32 2047) ?_; refine pb HT_ 11 23 (zb 32 4095) ?_; refine pb HT_ 12 24 (zb 32 8191) ?_; refine pb HT_ 13 25 (zb 32 16383) ?_
       refine pb HT_ 14 26 (zb 32 32767) ?_; refine pb HT_ 15 27 (zb 32 65535) ?_; refine pb HT_ 16 28 (zb 32 131071) ?_; refine pb HT_ 17 29 (zb 32 262143) ?_; refine pb HT_ 18 30 (zb 32 524287) ?_; refine pb HT_ 19 31 (zb 32 1048575) ?_; refine pb HT_ 20 32 (zb 32 2097151) ?_; refine pb HT_ 21 33 (zb 32 4194303) ?_; refine pb HT_ 22 34 (zb 32 8388607) ?_; refine pa HT_ 23 35 (zb 32 16777215) ?_; refine pa HT_ 24 36 (zb 32 33554431) ?_
       refine pb HT_ 25 37 (zb 32 67108863) ?_; refine pb HT_ 26 38 (zb 32 134217727) ?_; refine pb HT_ 27 39 (zb 32 268435455) ?_; refine pb HT_ 28 40 (zb 32 536870911) ?_; refine pb HT_ 29 41 (zb 32 1073741823) ?_; refine pb HT_ 30 42 (zb 32 2147483647) ?_; refine pa HT_ 31 43 (zb 32 4294967295) ?_
       refine done_ (done_of HT_.out (by kernel_rfl)) ?_
       try go_wp2
       go_ret
       exact fz (by exact b1 HB GE196)
      case' n3 =>
       rw [if_neg c5] at H; have c5b0 : decide (40 < (((rd_T99 l0 x7_1).f0).size : Int)) = false := decide_eq_false c5
       have c5b1 : decide (40 < ((rd_T99 l0 x7_1).f0).size) = false := decide_eq_false (by omega)
       clear c5; replace H := Option.bind_eq_some_iff.mp H; obtain ⟨t197, A100, H⟩ := H
       try dsimp only at H
       have A10 := zq9 A100; clear A100
       refine (Classical.em (t197 = true)).elim (fun c11 => ?p4) (fun c11 => ?n4)
       case' p4 =>
        subst c11
        have H1 : (if x7_1 > 0 then (if 0 ≤ (wrap64 (x7_1 - 1)) then (if (wrap64 (x7_1 - 1)) < (l0.length : Int) then ((impl_scoreOrder.f k1 ((rd_T99 l0 (wrap64 (x7_1 - 1))).f0) ((rd_T99 l0 (wrap64 (x7_1 - 1))).f1) ((rd_T99 l0 x7_1).f0) ((rd_T99 l0 x7_1).f1)).bind fun t199 => (if t199 ≥ 0 then (some false) else ((impl_scoreAt.f l0 ((rd_T99 l0 x7_1).f0)).bind fun t200 => (if t200 = x7_1 then (impl_ScoresOk.l0 k1 l0 l0 (l0.length : Int) (wrap64 (x7_1 + 1))) else (some false))))) else (none)) else (none)) else ((impl_scoreAt.f l0 ((rd_T99 l0 x7_1).f0)).bind fun t201 => (if t201 = x7_1 then (impl_ScoresOk.l0 k1 l0 l0 (l0.length : Int) (wrap64 (x7_1 + 1))) else (some false)))) = some r := by rw [if_pos rfl] at H; exact H
        clear H; have H := H1; clear H1
        refine (Classical.em (x7_1 > 0)).elim (fun c12 => ?p5) (fun c12 => ?n5)
        case' p5 =>
         rw [if_pos c12] at H; have c12b0 : decide (0 < x7_1) = true := decide_eq_true c12; clear c12
         obtain ⟨ji13, hji13⟩ : ∃ j_ : Int, (wrap64 (x7_1 - 1)) = j_ := ⟨_, rfl⟩
         replace H : (if 0 ≤ (ji13) then (if (ji13) < (l0.length : Int) then ((impl_scoreOrder.f k1 ((rd_T99 l0 (ji13)).f0) ((rd_T99 l0 (ji13)).f1) ((rd_T99 l0 x7_1).f0) ((rd_T99 l0 x7_1).f1)).bind fun t199 => (if t199 ≥ 0 then (some false) else ((impl_scoreAt.f l0 ((rd_T99 l0 x7_1).f0)).bind fun t200 => (if t200 = x7_1 then (impl_ScoresOk.l0 k1 l0 l0 (l0.length : Int) (wrap64 (x7_1 + 1))) else (some false))))) else (none)) else (none)) = some r := by first | (rw [hji13] at H; exact H) | (simp only [hji13] at H ⊢; exact H)
         (try rw [hji13] at A10)
         have hji13w : (IntKind.i64.wrap (x7_1 - 1)) = ji13 := (i64_w _).trans hji13
         refine (Classical.em (0 ≤ (ji13))).elim (fun c14 => ?p6) (fun c14 => ?n6)
         case' p6 =>
          rw [if_pos c14] at H; have c14b0 : decide (0 ≤ (ji13)) = true := decide_eq_true c14; clear c14
          refine (Classical.em ((ji13) < (l0.length : Int))).elim (fun c15 => ?p7) (fun c15 => ?n7)
          case' p7 =>
           rw [if_pos c15] at H; have c15b0 : decide ((ji13) < (l0.length : Int)) = true := decide_eq_true c15; clear c15; replace H := Option.bind_eq_some_iff.mp H; obtain ⟨t199, A160, H⟩ := H
           try dsimp only at H
           have A16 := zq9 A160; clear A160
           have p198 : 0 ≤ ((ji13) : Int) := of_decide_eq_true ‹_›
           have q198 : (ji13) < (l0.length : Int) := of_decide_eq_true ‹_›
           obtain ⟨ad198, e198, hx198_0, hx198_1⟩ := at_T99 HR0.out (ji13) p198 q198
           have hw198_1 := hx198_1; have hw198_0 := hx198_0
           obtain rfl : ad195 = ad198 := (by injection e198)
           replace hx198_0 := hcl HB hx198_0; replace hx198_1 := hcl HB hx198_1; replace p198 := eq_true p198; replace q198 := eq_true q198
           refine start_ (n := 32) (S := fun w' => w'.cell? ⟨gb196, 0, none⟩ = some (.string ((rd_T99 l0 x7_1).f0)) ∧ w'.cell? ⟨gb196, 1, none⟩ = some (.int .i64 ((rd_T99 l0 x7_1).f1)) ∧ w'.cell? (ad195.add (((ji13)).toNat * 2)) = some (.string ((rd_T99 l0 (ji13)).f0)) ∧ w'.cell? ⟨(ad195.add (((ji13)).toNat * 2)).block, (ad195.add (((ji13)).toNat * 2)).off + 1, none⟩ = some (.int .i64 ((rd_T99 l0 (ji13)).f1))) (ds := []) #[false, false, false, false, false, false, false, false, false, false, false, false, false, false, false, false, false, false, false, false, false, false, false, false, false, false, false, false, false, false, false, false] (by kernel_rfl) rfl rfl ⟨bc BK196 0, bc BK196 1, (hcm HB hw198_0), (hcm HB hw198_1)⟩ (fun hHeld => ?_); refine with_tabW impl_ScoresOk.tab4 impl_ScoresOk.bits4 (fun HT_ HW_ => ?_)
           generalize w8.drew = w21 at BK196 HB hx198_0 hx198_1 hHeld ⊢
           refine pa HT_ 0 12 (zb 32 1) ?_
           refine take_ (i := 1) (N := some 13) (v := ?_) (a' := ?_) (zb 32 3) rfl rfl (take_ofW HT_.out HW_.out (by kernel_rfl)) (fun _ _ _ h => h) (Or.inl ⟨by rfl, ?_⟩) hHeld ?_ ?_
           rotate_left; ·rintro w' ⟨s0, s1, s2, s3⟩; go_simp; with_reducible rfl
           rotate_left; ·simp only [Act.put, zq0, zq1, zq2, i64_w, i32_w]; rfl
           refine pa HT_ 2 14 (zb 32 7) ?_; refine pa HT_ 3 15 (zb 32 15) ?_; refine pa HT_ 4 16 (zb 32 31) ?_; refine pa HT_ 5 17 (zb 32 63) ?_
           refine take_ (i := 6) (N := some 18) (v := ?_) (a' := ?_) (zb 32 127) rfl rfl (take_ofW HT_.out HW_.out (by kernel_rfl)) (fun _ _ _ h => h) (Or.inl ⟨by rfl, ?_⟩) hHeld ?_ ?_
           rotate_left; ·rintro w' ⟨s0, s1, s2, s3⟩; go_simp; with_reducible rfl
           rotate_left; ·simp only [Act.put, zq0, zq1, zq2, i64_w, i32_w]; rfl
           refine one_ (i := 7) (N := some 19) (zb 32 255) rfl rfl (one_of HT_.out (by kernel_rfl)) (by decide) (fun K hK => ?_)
           refine gs Try.func85 #[.int .i64 ((rd_T99 l0 x7_1).f1)] ?_
           with_reducible refine (impl_position.calls ((rd_T99 l0 x7_1).f1) true _ A10.out).mono ?_
           rintro e w' ⟨rfl, ⟨nd, rfl⟩⟩
           refine ⟨_, rfl, ?_⟩
           refine hK.out _ _ ⟨bc BK196 0, bc BK196 1, (hcm HB hw198_0), (hcm HB hw198_1)⟩ (fun hHeld => ?_)
           clear hK K
           refine norm_ (a' := ?_) ?_ ?_
           rotate_left; ·show Act.put _ (some 19) _ = _; simp only [Act.put, zq0, zq1, zq2, i64_w, i32_w]; rfl
           refine pa HT_ 8 20 (zb 32 511) ?_; refine pa HT_ 9 21 (zb 32 1023) ?_; refine pa HT_ 10 22 (zb 32 2047) ?_; refine pa HT_ 11 23 (zb 32 4095) ?_; refine pa HT_ 12 24 (zb 32 8191) ?_; refine pa HT_ 13 25 (zb 32 16383) ?_; refine pa HT_ 14 26 (zb 32 32767) ?_; refine pa HT_ 15 27 (zb 32 65535) ?_; refine pa HT_ 16 28 (zb 32 131071) ?_; refine pa HT_ 17 29 (zb 32 262143) ?_
           refine take_ (i := 18) (N := some 30) (v := ?_) (a' := ?_) (zb 32 524287) rfl rfl (take_ofW HT_.out HW_.out (by kernel_rfl)) (fun _ _ _ h => h) (Or.inl ⟨by rfl, ?_⟩) hHeld ?_ ?_
           rotate_left; ·rintro w' ⟨s0, s1, s2, s3⟩; go_simp; with_reducible rfl
           rotate_left; ·simp only [Act.put, zq0, zq1, zq2, i64_w, i32_w]; rfl
           refine take_ (i := 19) (N := some 31) (v := ?_) (a' := ?_) (zb 32 1048575) rfl rfl (take_ofW HT_.out HW_.out (by kernel_rfl)) (fun _ _ _ h => h) (Or.inl ⟨by rfl, ?_⟩) hHeld ?_ ?_
           rotate_left; ·rintro w' ⟨s0, s1, s2, s3⟩; go_simp; with_reducible rfl
           rotate_left; ·simp only [Act.put, zq0, zq1, zq2, i64_w, i32_w]; rfl
           refine one_ (i := 20) (N := some 32) (zb 32 2097151) rfl rfl (one_of HT_.out (by kernel_rfl)) (by decide) (fun K hK => ?_)
           refine goes_ Try.func86 (by kernel_rfl) rfl #[.agg #[.string ((rd_T99 l0 (ji13)).f0), .int .i64 ((rd_T99 l0 (ji13)).f1)], .agg #[.string ((rd_T99 l0 x7_1).f0), .int .i64 ((rd_T99 l0 x7_1).f1)]] (by rfl) rfl rfl (by (try simp only [List.map_toArray, List.map_cons, List.map_nil]); first | done | (simp only [hji13]; rfl) | rfl | (simp only [zq33, zq34]; rfl)) ?_
           with_reducible refine (impl_scoreOrder.calls k1 ((rd_T99 l0 (ji13)).f0) ((rd_T99 l0 (ji13)).f1) ((rd_T99 l0 x7_1).f0) ((rd_T99 l0 x7_1).f1) t199 _ A16.out).mono ?_
           rintro e w22 ⟨rfl, hb⟩
           refine ⟨_, rfl, ?_⟩
           have n0_ := zq9 (zq30 (g := gb196) (o := .cells #[.string ((rd_T99 l0 x7_1).f0), .int .i64 ((rd_T99 l0 x7_1).f1)] 99 (0, 0)) (by exact bk BK196) hb)
           have n1_ := zq9 (zq27 (by exact b1 HB GE196) hb)
           clear BK196; clear HB; have BK196 := n0_; have HB := n1_; clear n0_ n1_
           (try clear hb)
           (try clear hb2)
           (try clear hk)
           (try clear hi)
           refine hK.out _ _ ⟨bc BK196 0, bc BK196 1, (hcm HB hw198_0), (hcm HB hw198_1)⟩ (fun hHeld => ?_)
           clear hK K
           refine norm_ (a' := ?_) ?_ ?_
           rotate_left; ·show Act.put _ (some 32) _ = _; simp only [Act.put, zq0, zq1, zq2, i64_w, i32_w]; rfl
           refine pa HT_ 21 33 (zb 32 4194303) ?_; refine pa HT_ 22 34 (zb 32 8388607) ?_; refine pa HT_ 23 35 (zb 32 16777215) ?_; refine pa HT_ 24 36 (zb 32 33554431) ?_
           refine (Classical.em (t199 ≥ 0)).elim (fun c17 => ?p8) (fun c17 => ?n8)
           case p8 =>
            rw [if_pos c17] at H; have c17b0 : decide (0 ≤ t199) = true := decide_eq_true c17; clear c17; obtain rfl := Option.some.inj H
            (try rw [c17b0])
            refine pb HT_ 25 37 (zb 32 67108863) ?_; refine pb HT_ 26 38 (zb 32 134217727) ?_; refine pb HT_ 27 39 (zb 32 268435455) ?_; refine pb HT_ 28 40 (zb 32 536870911) ?_; refine pb HT_ 29 41 (zb 32 1073741823) ?_; refine pb HT_ 30 42 (zb 32 2147483647) ?_; refine pa HT_ 31 43 (zb 32 4294967295) ?_
            refine done_ (done_of HT_.out (by kernel_rfl)) ?_
            try go_wp2
            go_ret
            exact ⟨by first | rfl | (simp [errW_none, errW_some] <;> rfl) | (simp only [← hji13]; first | rfl | (simp [errW_none, errW_some] <;> rfl)) | (simp [*, errW_none, errW_some] <;> rfl), by exact b1 HB GE196⟩
           case' n8 =>
            rw [if_neg c17] at H; have c17b0 : decide (0 ≤ t199) = false := decide_eq_false c17; clear c17; replace H := Option.bind_eq_some_iff.mp H; obtain ⟨t200, A230, H⟩ := H
            try dsimp only at H
            have A23 := zq9 A230; clear A230
            (try rw [c17b0])
            refine pa HT_ 25 37 (zb 32 67108863) ?_; refine pa HT_ 26 38 (zb 32 134217727) ?_; refine pa HT_ 29 41 (zb 32 671088639) ?_
            refine take_ (i := 27) (N := some 39) (v := ?_) (a' := ?_) (zb 32 805306367) rfl rfl (take_ofW HT_.out HW_.out (by kernel_rfl)) (fun _ _ _ h => h) (Or.inl ⟨by rfl, ?_⟩) hHeld ?_ ?_
            rotate_left; ·rintro w' ⟨s0, s1, s2, s3⟩; go_simp; with_reducible rfl
            rotate_left; ·simp only [Act.put, zq0, zq1, zq2, i64_w, i32_w]; rfl
            refine one_ (i := 28) (N := some 40) (zb 32 1073741823) rfl rfl (one_of HT_.out (by kernel_rfl)) (by decide) (fun K hK => ?_)
            refine gs Try.func87 #[.slice (some ad195) l0.length c0, .string ((rd_T99 l0 x7_1).f0)] ?_
            with_reducible refine (impl_scoreAt.calls _ _ l0 ((rd_T99 l0 x7_1).f0) t200 _ ?side1 ?side2 A23.out).mono ?_
            (case side1 => exact kc HR0 HB)
            (case side2 => exact HC0.out)
            rintro e w30 ⟨rfl, hb⟩
            refine ⟨_, rfl, ?_⟩
            have n0_ := zq9 (zq30 (g := gb196) (o := .cells #[.string ((rd_T99 l0 x7_1).f0), .int .i64 ((rd_T99 l0 x7_1).f1)] 99 (0, 0)) (by exact bk BK196) hb)
            have n1_ := zq9 (zq27 (by exact b1 HB GE196) hb)
            clear BK196; clear HB; have BK196 := n0_; have HB := n1_; clear n0_ n1_
            (try clear hb)
            (try clear hb2)
            (try clear hk)
            (try clear hi)
            refine hK.out _ _ ⟨bc BK196 0, bc BK196 1, (hcm HB hw198_0), (hcm HB hw198_1)⟩ (fun hHeld => ?_)
            clear hK K
            refine norm_ (a' := ?_) ?_ ?_
            rotate_left; ·show Act.put _ (some 40) _ = _; simp only [Act.put, zq0, zq1, zq2, i64_w, i32_w]; rfl
            refine pa HT_ 30 42 (zb 32 2147483647) ?_; refine pa HT_ 31 43 (zb 32 4294967295) ?_
            refine done_ (done_of HT_.out (by kernel_rfl)) ?_
            refine (Classical.em (t200 = x7_1)).elim (fun c24 => ?p9) (fun c24 => ?n9)
            case' p9 =>
             rw [if_pos c24] at H
             have c24b0 : (t200 == x7_1) = true := beq_iff_eq.mpr c24
             have c24b1 : (t200 != x7_1) = false := bne_eq_false_iff_eq.mpr c24
             clear c24; have H' := zq9 H; clear H
             (try rw [c24b0]); (try rw [c24b1])
            case n9 =>
             rw [if_neg c24] at H
             have c24b0 : (t200 == x7_1) = false := beq_eq_false_iff_ne.mpr c24
             have c24b1 : (t200 != x7_1) = true := bne_iff_ne.mpr c24
             obtain rfl := Option.some.inj H
             (try rw [c24b0]); (try rw [c24b1])
             try go_wp2
             go_ret
             exact ⟨by first | rfl | (simp [errW_none, errW_some] <;> rfl) | (simp only [← hji13]; first | rfl | (simp [errW_none, errW_some] <;> rfl)) | (simp [*, errW_none, errW_some] <;> rfl), by exact b1 HB GE196⟩
          case n7 =>
           rw [if_neg c15] at H
           exact absurd H (by simp)
         case n6 =>
          rw [if_neg c14] at H
          exact absurd H (by simp)
        case' n5 =>
         rw [if_neg c12] at H; have c12b0 : decide (0 < x7_1) = false := decide_eq_false c12; clear c12; replace H := Option.bind_eq_some_iff.mp H; obtain ⟨t201, A370, H⟩ := H
         try dsimp only at H
         have A37 := zq9 A370; clear A370
         refine start_ (n := 32) (S := fun w' => w'.cell? ⟨gb196, 0, none⟩ = some (.string ((rd_T99 l0 x7_1).f0)) ∧ w'.cell? ⟨gb196, 1, none⟩ = some (.int .i64 ((rd_T99 l0 x7_1).f1))) (ds := []) #[false, false, false, false, false, false, false, false, false, false, false, false, false, false, false, false, false, false, false, false, false, false, false, false, false, false, false, false, false, false, false, false] (by kernel_rfl) rfl rfl ⟨bc BK196 0, bc BK196 1⟩ (fun hHeld => ?_); refine with_tabW impl_ScoresOk.tab4 impl_ScoresOk.bits4 (fun HT_ HW_ => ?_)
         generalize w8.drew = w42 at BK196 HB hHeld ⊢
         refine pa HT_ 0 12 (zb 32 1) ?_
         refine take_ (i := 1) (N := some 13) (v := ?_) (a' := ?_) (zb 32 3) rfl rfl (take_ofW HT_.out HW_.out (by kernel_rfl)) (fun _ _ _ h => h) (Or.inl ⟨by rfl, ?_⟩) hHeld ?_ ?_
         rotate_left; ·rintro w' ⟨s0, s1⟩; go_simp; with_reducible rfl
         rotate_left; ·simp only [Act.put, zq0, zq1, zq2, i64_w, i32_w]; rfl
         refine pa HT_ 2 14 (zb 32 7) ?_; refine pa HT_ 3 15 (zb 32 15) ?_; refine pa HT_ 4 16 (zb 32 31) ?_; refine pa HT_ 5 17 (zb 32 63) ?_
         refine take_ (i := 6) (N := some 18) (v := ?_) (a' := ?_) (zb 32 127) rfl rfl (take_ofW HT_.out HW_.out (by kernel_rfl)) (fun _ _ _ h => h) (Or.inl ⟨by rfl, ?_⟩) hHeld ?_ ?_
         rotate_left; ·rintro w' ⟨s0, s1⟩; go_simp; with_reducible rfl
         rotate_left; ·simp only [Act.put, zq0, zq1, zq2, i64_w, i32_w]; rfl
         refine one_ (i := 7) (N := some 19) (zb 32 255) rfl rfl (one_of HT_.out (by kernel_rfl)) (by decide) (fun K hK => ?_)
         refine gs Try.func85 #[.int .i64 ((rd_T99 l0 x7_1).f1)] ?_
         with_reducible refine (impl_position.calls ((rd_T99 l0 x7_1).f1) true _ A10.out).mono ?_
         rintro e w' ⟨rfl, ⟨nd, rfl⟩⟩
         refine ⟨_, rfl, ?_⟩
         refine hK.out _ _ ⟨bc BK196 0, bc BK196 1⟩ (fun hHeld => ?_)
         clear hK K
         refine norm_ (a' := ?_) ?_ ?_
         rotate_left; ·show Act.put _ (some 19) _ = _; simp only [Act.put, zq0, zq1, zq2, i64_w, i32_w]; rfl
         refine pa HT_ 8 20 (zb 32 511) ?_; refine pa HT_ 9 21 (zb 32 1023) ?_; refine pa HT_ 10 22 (zb 32 2047) ?_; refine pa HT_ 11 23 (zb 32 4095) ?_; refine pa HT_ 12 24 (zb 32 8191) ?_; refine pa HT_ 13 25 (zb 32 16383) ?_; refine pb HT_ 14 26 (zb 32 32767) ?_; refine pb HT_ 15 27 (zb 32 65535) ?_; refine pb HT_ 16 28 (zb 32 131071) ?_; refine pb HT_ 17 29 (zb 32 262143) ?_; refine pb HT_ 18 30 (zb 32 524287) ?_
         refine pb HT_ 19 31 (zb 32 1048575) ?_; refine pb HT_ 20 32 (zb 32 2097151) ?_; refine pb HT_ 21 33 (zb 32 4194303) ?_; refine pa HT_ 22 34 (zb 32 8388607) ?_; refine pa HT_ 23 35 (zb 32 16777215) ?_; refine pa HT_ 24 36 (zb 32 33554431) ?_; refine pa HT_ 25 37 (zb 32 67108863) ?_; refine pa HT_ 26 38 (zb 32 134217727) ?_; refine pa HT_ 29 41 (zb 32 671088639) ?_
         refine take_ (i := 27) (N := some 39) (v := ?_) (a' := ?_) (zb 32 805306367) rfl rfl (take_ofW HT_.out HW_.out (by kernel_rfl)) (fun _ _ _ h => h) (Or.inl ⟨by rfl, ?_⟩) hHeld ?_ ?_
         rotate_left; ·rintro w' ⟨s0, s1⟩; go_simp; with_reducible rfl
         rotate_left; ·simp only [Act.put, zq0, zq1, zq2, i64_w, i32_w]; rfl
         refine one_ (i := 28) (N := some 40) (zb 32 1073741823) rfl rfl (one_of HT_.out (by kernel_rfl)) (by decide) (fun K hK => ?_)
         refine gs Try.func87 #[.slice (some ad195) l0.length c0, .string ((rd_T99 l0 x7_1).f0)] ?_
         with_reducible refine (impl_scoreAt.calls _ _ l0 ((rd_T99 l0 x7_1).f0) t201 _ ?side1 ?side2 A37.out).mono ?_
         (case side1 => repeat (first | exact (zq31 HR0.out (by exact b1 HB GE196)) | (with_reducible refine zq18 ?_ _) | (with_reducible refine zq19 ?_ _) | (with_reducible refine zq20 ?_)))
         (case side2 => exact HC0.out)
         rintro e w43 ⟨rfl, hb⟩
         refine ⟨_, rfl, ?_⟩
         have n0_ := zq9 (zq30 (g := gb196) (o := .cells #[.string ((rd_T99 l0 x7_1).f0), .int .i64 ((rd_T99 l0 x7_1).f1)] 99 (0, 0)) (by exact bk BK196) hb)
         have n1_ := zq9 (zq27 (by exact b1 HB GE196) hb)
         clear BK196; clear HB; have BK196 := n0_; have HB := n1_; clear n0_ n1_
         (try clear hb)
         (try clear hb2)
         (try clear hk)
         (try clear hi)
         refine hK.out _ _ ⟨bc BK196 0, bc BK196 1⟩ (fun hHeld => ?_)
         clear hK K
         refine norm_ (a' := ?_) ?_ ?_
         rotate_left; ·show Act.put _ (some 40) _ = _; simp only [Act.put, zq0, zq1, zq2, i64_w, i32_w]; rfl
         refine pa HT_ 30 42 (zb 32 2147483647) ?_; refine pa HT_ 31 43 (zb 32 4294967295) ?_
         refine done_ (done_of HT_.out (by kernel_rfl)) ?_
         refine (Classical.em (t201 = x7_1)).elim (fun c38 => ?p10) (fun c38 => ?n10)
         case' p10 =>
          rw [if_pos c38] at H
          have c38b0 : (t201 == x7_1) = true := beq_iff_eq.mpr c38
          have c38b1 : (t201 != x7_1) = false := bne_eq_false_iff_eq.mpr c38
          clear c38; have H' := zq9 H; clear H
          (try rw [c38b0]); (try rw [c38b1])
         case n10 =>
          rw [if_neg c38] at H
          have c38b0 : (t201 == x7_1) = false := beq_eq_false_iff_ne.mpr c38
          have c38b1 : (t201 != x7_1) = true := bne_iff_ne.mpr c38
          obtain rfl := Option.some.inj H
          (try rw [c38b0]); (try rw [c38b1])
          try go_wp2
          go_ret
          exact fz (by exact b1 HB GE196)
       case n4 =>
        replace c11 := Bool.eq_false_iff.mpr c11
        subst c11
        have H1 : (some false) = some r := by rw [if_neg (show ¬ (false = true) by decide)] at H; exact H
        clear H; have H := H1; clear H1; obtain rfl := Option.some.inj H
        refine start_ (n := 32) (S := fun w' => w'.cell? ⟨gb196, 0, none⟩ = some (.string ((rd_T99 l0 x7_1).f0)) ∧ w'.cell? ⟨gb196, 1, none⟩ = some (.int .i64 ((rd_T99 l0 x7_1).f1))) (ds := []) #[false, false, false, false, false, false, false, false, false, false, false, false, false, false, false, false, false, false, false, false, false, false, false, false, false, false, false, false, false, false, false, false] (by kernel_rfl) rfl rfl ⟨bc BK196 0, bc BK196 1⟩ (fun hHeld => ?_); refine with_tabW impl_ScoresOk.tab4 impl_ScoresOk.bits4 (fun HT_ HW_ => ?_)
        generalize w8.drew = w52 at BK196 HB hHeld ⊢
        refine pa HT_ 0 12 (zb 32 1) ?_
        refine take_ (i := 1) (N := some 13) (v := ?_) (a' := ?_) (zb 32 3) rfl rfl (take_ofW HT_.out HW_.out (by kernel_rfl)) (fun _ _ _ h => h) (Or.inl ⟨by rfl, ?_⟩) hHeld ?_ ?_
        rotate_left; ·rintro w' ⟨s0, s1⟩; go_simp; with_reducible rfl
        rotate_left; ·simp only [Act.put, zq0, zq1, zq2, i64_w, i32_w]; rfl
        refine pa HT_ 2 14 (zb 32 7) ?_; refine pa HT_ 3 15 (zb 32 15) ?_; refine pa HT_ 4 16 (zb 32 31) ?_; refine pa HT_ 5 17 (zb 32 63) ?_
        refine take_ (i := 6) (N := some 18) (v := ?_) (a' := ?_) (zb 32 127) rfl rfl (take_ofW HT_.out HW_.out (by kernel_rfl)) (fun _ _ _ h => h) (Or.inl ⟨by rfl, ?_⟩) hHeld ?_ ?_
        rotate_left; ·rintro w' ⟨s0, s1⟩; go_simp; with_reducible rfl
        rotate_left; ·simp only [Act.put, zq0, zq1, zq2, i64_w, i32_w]; rfl
        refine one_ (i := 7) (N := some 19) (zb 32 255) rfl rfl (one_of HT_.out (by kernel_rfl)) (by decide) (fun K hK => ?_)
        refine gs Try.func85 #[.int .i64 ((rd_T99 l0 x7_1).f1)] ?_
        with_reducible refine (impl_position.calls ((rd_T99 l0 x7_1).f1) false _ A10.out).mono ?_
        rintro e w' ⟨rfl, ⟨nd, rfl⟩⟩
        refine ⟨_, rfl, ?_⟩
        refine hK.out _ _ ⟨bc BK196 0, bc BK196 1⟩ (fun hHeld => ?_)
        clear hK K
        refine norm_ (a' := ?_) ?_ ?_
        rotate_left; ·show Act.put _ (some 19) _ = _; simp only [Act.put, zq0, zq1, zq2, i64_w, i32_w]; rfl
        refine pa HT_ 8 20 (zb 32 511) ?_; refine pa HT_ 9 21 (zb 32 1023) ?_; refine pa HT_ 10 22 (zb 32 2047) ?_; refine pb HT_ 11 23 (zb 32 4095) ?_; refine pb HT_ 12 24 (zb 32 8191) ?_; refine pb HT_ 13 25 (zb 32 16383) ?_; refine pb HT_ 14 26 (zb 32 32767) ?_; refine pb HT_ 15 27 (zb 32 65535) ?_; refine pb HT_ 16 28 (zb 32 131071) ?_; refine pb HT_ 17 29 (zb 32 262143) ?_; refine pb HT_ 18 30 (zb 32 524287) ?_
        refine pb HT_ 19 31 (zb 32 1048575) ?_; refine pb HT_ 20 32 (zb 32 2097151) ?_; refine pb HT_ 21 33 (zb 32 4194303) ?_; refine pb HT_ 22 34 (zb 32 8388607) ?_; refine pa HT_ 23 35 (zb 32 16777215) ?_; refine pa HT_ 24 36 (zb 32 33554431) ?_; refine pb HT_ 25 37 (zb 32 67108863) ?_; refine pb HT_ 26 38 (zb 32 134217727) ?_; refine pb HT_ 27 39 (zb 32 268435455) ?_; refine pb HT_ 28 40 (zb 32 536870911) ?_
        refine pb HT_ 29 41 (zb 32 1073741823) ?_; refine pb HT_ 30 42 (zb 32 2147483647) ?_; refine pa HT_ 31 43 (zb 32 4294967295) ?_
        refine done_ (done_of HT_.out (by kernel_rfl)) ?_
        try go_wp2
        go_ret
        exact fz (by exact b1 HB GE196)
     case n2 =>
      rw [if_neg c4] at H
      exact absurd H (by simp)
    case n1 =>
     rw [if_neg c3] at H
     exact absurd H (by simp)
   case n0 =>
    rw [if_neg c2] at H; have c2b0 : decide (x7_1 < (l0.length : Int)) = false := decide_eq_false c2; clear c2; obtain rfl := Option.some.inj H
    go_wp2
    go_ret
    exact fz (by exact bl HB)
   case p5 | n5 =>
    try go_wp2
    go_roundg k1
    case measure => have := HK1.out; omega
    case rel => exact ⟨(wrap64 (x7_1 + 1)), (by first | rfl | (simp; done) | (simp [*]; done)), H', ⟨by have := HK1.out; omega⟩, ⟨by exact b1 HB GE196⟩⟩
set_option maxHeartbeats 8000000 in
set_option maxRecDepth 100000 in
theorem impl_FieldsOk.calls (k : Nat) (A0 : Option Addr) (c0 : Nat) (l0 : List (S101)) (r : Bool) (w : World) (hr0 : Kd.C k101 w A0 l0.length l0) (hc0 : l0.length ≤ c0) (h : impl_FieldsOk.f k l0 = some r) :
  Calls Try.prog 53 #[.slice A0 l0.length c0] w fun e w' => e = .returned (.bool r) ∧ Below w.heap.size w w' := by
 have hu101 := Try.underlying101; have HR0 := zq9 hr0; have HC0 := zq9 hc0; clear hr0 hc0
 have HB := zq9 (Below.refl w.heap.size w)
 have H : (impl_FieldsOk.l0 k l0 l0 (l0.length : Int) 0) = some r := h
 clear h; have H' := zq9 H; clear H
 go_enter Try.func53, Try.ntmps53
 go_wp2
 repeat (go_quiet (fail); try go_wp2)
 go_loopg [7] k (fun kq v7 w' => ∃ (x7_1 : Int), v7 = .int .i64 x7_1 ∧ Aside0 (impl_FieldsOk.l0 kq l0 l0 (l0.length : Int) x7_1 = some r) ∧ Aside0 (kq ≤ k) ∧ Aside0 (Below w.heap.size w w'))
 case atStart => exact ⟨(0), (by first | rfl | (simp; done) | (simp [*]; done)), H', ⟨Nat.le_refl _⟩, ⟨by exact bl HB⟩⟩
 case round =>
  clear H'
  obtain ⟨x7_1, rfl, HA, HK1, HB⟩ := hrel
  cases gk with
  | zero => exact absurd HA.out (by simp [impl_FieldsOk.l0])
  | succ k1 =>
   have H := HA.out; clear HA
   simp only [impl_FieldsOk.l0] at H
   refine (Classical.em (x7_1 < (l0.length : Int))).elim (fun c2 => ?p0) (fun c2 => ?n0)
   case' p0 =>
    rw [if_pos c2] at H; have c2b0 : decide (x7_1 < (l0.length : Int)) = true := decide_eq_true c2; clear c2
    refine (Classical.em (0 ≤ x7_1)).elim (fun c3 => ?p1) (fun c3 => ?n1)
    case' p1 =>
     rw [if_pos c3] at H; have c3b0 : decide (0 ≤ x7_1) = true := decide_eq_true c3; clear c3
     refine (Classical.em (x7_1 < (l0.length : Int))).elim (fun c4 => ?p2) (fun c4 => ?n2)
     case' p2 =>
      rw [if_pos c4] at H; have c4b0 : decide (x7_1 < (l0.length : Int)) = true := decide_eq_true c4; clear c4
      refine (Classical.em ((((rd_T101 l0 x7_1).f0).size : Int) > 40)).elim (fun c5 => ?p3) (fun c5 => ?n3)
      case' p3 =>
       rw [if_pos c5] at H; have c5b0 : decide (40 < (((rd_T101 l0 x7_1).f0).size : Int)) = true := decide_eq_true c5
       have c5b1 : decide (40 < ((rd_T101 l0 x7_1).f0).size) = true := decide_eq_true (by omega)
       clear c5; obtain rfl := Option.some.inj H
      case' n3 =>
       rw [if_neg c5] at H; have c5b0 : decide (40 < (((rd_T101 l0 x7_1).f0).size : Int)) = false := decide_eq_false c5
       have c5b1 : decide (40 < ((rd_T101 l0 x7_1).f0).size) = false := decide_eq_false (by omega)
       clear c5
       refine (Classical.em ((((rd_T101 l0 x7_1).f1).size : Int) > 40)).elim (fun c8 => ?p4) (fun c8 => ?n4)
       case' p4 =>
        rw [if_pos c8] at H; have c8b0 : decide (40 < (((rd_T101 l0 x7_1).f1).size : Int)) = true := decide_eq_true c8
        have c8b1 : decide (40 < ((rd_T101 l0 x7_1).f1).size) = true := decide_eq_true (by omega)
        clear c8; obtain rfl := Option.some.inj H
       case n4 =>
        rw [if_neg c8] at H; have c8b0 : decide (40 < (((rd_T101 l0 x7_1).f1).size : Int)) = false := decide_eq_false c8
        have c8b1 : decide (40 < ((rd_T101 l0 x7_1).f1).size) = false := decide_eq_false (by omega)
        clear c8
        by_cases c11 : x7_1 > 0
        ·rw [if_pos c11] at H; have c11b0 : decide (0 < x7_1) = true := decide_eq_true c11; clear c11
         obtain ⟨ji12, hji12⟩ : ∃ j_ : Int, (wrap64 (x7_1 - 1)) = j_ := ⟨_, rfl⟩
         replace H : (if 0 ≤ (ji12) then (if (ji12) < (l0.length : Int) then (if ((Op.bytesLess (((rd_T101 l0 (ji12)).f0).toList) (((rd_T101 l0 x7_1).f0).toList)) = true) then (impl_FieldsOk.l0 k1 l0 l0 (l0.length : Int) (wrap64 (x7_1 + 1))) else (some false)) else (none)) else (none)) = some r := by first | (rw [hji12] at H; exact H) | (simp only [hji12] at H ⊢; exact H)
         have hji12w : (IntKind.i64.wrap (x7_1 - 1)) = ji12 := (i64_w _).trans hji12
         by_cases c13 : 0 ≤ (ji12)
         ·rw [if_pos c13] at H; have c13b0 : decide (0 ≤ (ji12)) = true := decide_eq_true c13; clear c13
          by_cases c14 : (ji12) < (l0.length : Int)
          ·rw [if_pos c14] at H; have c14b0 : decide ((ji12) < (l0.length : Int)) = true := decide_eq_true c14; clear c14
           by_cases c15 : ((Op.bytesLess (((rd_T101 l0 (ji12)).f0).toList) (((rd_T101 l0 x7_1).f0).toList)) = true)
           ·rw [if_pos c15] at H
            have c15b0 : (Op.bytesLess (((rd_T101 l0 (ji12)).f0).toList) (((rd_T101 l0 x7_1).f0).toList)) = true := c15
            clear c15; have H' := zq9 H; clear H
            have p202 : 0 ≤ (x7_1 : Int) := of_decide_eq_true ‹_›
            have q202 : x7_1 < (l0.length : Int) := of_decide_eq_true ‹_›
            obtain ⟨ad202, e202, hx202_0, hx202_1⟩ := at_T101 HR0.out x7_1 p202 q202
            cases e202; replace hx202_0 := hcl HB hx202_0; replace hx202_1 := hcl HB hx202_1; replace p202 := eq_true p202; replace q202 := eq_true q202
            go_wp2_with (first | ((with_reducible refine zq25 (N := 4) rfl ?_); (try (refine gate_guard (by rfl) ?_; dsimp only)); refine bx 4 #[.string (⟨#[]⟩ : ByteArray), .string (⟨#[]⟩ : ByteArray)] 101 ?_; intro gb203 hg w16 hbox hb; have n0_ := zq9 (zq27 (by exact bl HB) hb); have n1_ := zq9 (hbox); have n2_ := zq9 ((by rw [hg]; exact (zq29 (by exact bl HB)) : w.heap.size ≤ gb203)); have n3_ := n2_; clear HB; have HB := n0_; have BK203 := n1_; have GW203 := n2_; have GE203 := n3_; clear n0_ n1_ n2_ n3_; clear hb hbox hg; have hcz17_0 : w16.cell? ⟨gb203, 0, none⟩ = some (.string (⟨#[]⟩ : ByteArray)) := bc BK203 0; have hcz17_1 : w16.cell? ⟨gb203, 1, none⟩ = some (.string (⟨#[]⟩ : ByteArray)) := bc BK203 1; have hfz17_0 := zq6 BK203.out 0; have hfz17_1 := zq6 BK203.out 1; have p204 : 0 ≤ ((ji12) : Int) := of_decide_eq_true ‹_›; have q204 : (ji12) < (l0.length : Int) := of_decide_eq_true ‹_›; obtain ⟨ad204, e204, hx204_0, hx204_1⟩ := at_T101 HR0.out (ji12) p204 q204; obtain rfl : ad202 = ad204 := (by injection e204); have hn204_0 : ad202.block ≠ gb203 := Nat.ne_of_lt (Nat.lt_of_lt_of_le (by have := zq8 _ _ hx204_0; first | rwa [add_block] at this | exact this) GW203.out); have hn204_1 : ad202.block ≠ gb203 := Nat.ne_of_lt (Nat.lt_of_lt_of_le (by have := zq8 _ _ hx204_0; first | rwa [add_block] at this | exact this) GW203.out); replace hx204_0 := hcl HB hx204_0; replace hx204_1 := hcl HB hx204_1; replace hx204_0 := (cell_far (p := ⟨gb203, 0, none⟩) (by first | (rw [add_block]; exact hn204_0) | (show (Addr.add _ _).block ≠ _; rw [add_block]; exact hn204_0) | exact hn204_0) (.string ((rd_T101 l0 x7_1).f0))).trans hx204_0; replace hx204_1 := (cell_far (p := ⟨gb203, 0, none⟩) (by first | (rw [add_block]; exact hn204_0) | (show (Addr.add _ _).block ≠ _; rw [add_block]; exact hn204_0) | exact hn204_0) (.string ((rd_T101 l0 x7_1).f0))).trans hx204_1; replace hx204_0 := (cell_far (p := ⟨gb203, 1, none⟩) (by first | (rw [add_block]; exact hn204_1) | (show (Addr.add _ _).block ≠ _; rw [add_block]; exact hn204_1) | exact hn204_1) (.string ((rd_T101 l0 x7_1).f1))).trans hx204_0; replace hx204_1 := (cell_far (p := ⟨gb203, 1, none⟩) (by first | (rw [add_block]; exact hn204_1) | (show (Addr.add _ _).block ≠ _; rw [add_block]; exact hn204_1) | exact hn204_1) (.string ((rd_T101 l0 x7_1).f1))).trans hx204_1; (try have hy204_0 := fun (n_ : Nat) => (show ((((w16.drewN n_).setCell ⟨gb203, 0, none⟩ (.string ((rd_T101 l0 x7_1).f0))).setCell ⟨gb203, 1, none⟩ (.string ((rd_T101 l0 x7_1).f1)))).cell? _ = some _ from hx204_0)); (try have hy204_1 := fun (n_ : Nat) => (show ((((w16.drewN n_).setCell ⟨gb203, 0, none⟩ (.string ((rd_T101 l0 x7_1).f0))).setCell ⟨gb203, 1, none⟩ (.string ((rd_T101 l0 x7_1).f1)))).cell? _ = some _ from hx204_1)); clear hn204_0; clear hn204_1; replace p204 := eq_true p204; replace q204 := eq_true q204))
            repeat (go_quiet (first | ((with_reducible refine zq25 (N := 4) rfl ?_); (try (refine gate_guard (by rfl) ?_; dsimp only)); refine bx 4 #[.string (⟨#[]⟩ : ByteArray), .string (⟨#[]⟩ : ByteArray)] 101 ?_; intro gb203 hg w16 hbox hb; have n0_ := zq9 (zq27 (by exact bl HB) hb); have n1_ := zq9 (hbox); have n2_ := zq9 ((by rw [hg]; exact (zq29 (by exact bl HB)) : w.heap.size ≤ gb203)); have n3_ := n2_; clear HB; have HB := n0_; have BK203 := n1_; have GW203 := n2_; have GE203 := n3_; clear n0_ n1_ n2_ n3_; clear hb hbox hg; have hcz17_0 : w16.cell? ⟨gb203, 0, none⟩ = some (.string (⟨#[]⟩ : ByteArray)) := bc BK203 0; have hcz17_1 : w16.cell? ⟨gb203, 1, none⟩ = some (.string (⟨#[]⟩ : ByteArray)) := bc BK203 1; have hfz17_0 := zq6 BK203.out 0; have hfz17_1 := zq6 BK203.out 1; have p204 : 0 ≤ ((ji12) : Int) := of_decide_eq_true ‹_›; have q204 : (ji12) < (l0.length : Int) := of_decide_eq_true ‹_›; obtain ⟨ad204, e204, hx204_0, hx204_1⟩ := at_T101 HR0.out (ji12) p204 q204; obtain rfl : ad202 = ad204 := (by injection e204); have hn204_0 : ad202.block ≠ gb203 := Nat.ne_of_lt (Nat.lt_of_lt_of_le (by have := zq8 _ _ hx204_0; first | rwa [add_block] at this | exact this) GW203.out); have hn204_1 : ad202.block ≠ gb203 := Nat.ne_of_lt (Nat.lt_of_lt_of_le (by have := zq8 _ _ hx204_0; first | rwa [add_block] at this | exact this) GW203.out); replace hx204_0 := hcl HB hx204_0; replace hx204_1 := hcl HB hx204_1; replace hx204_0 := (cell_far (p := ⟨gb203, 0, none⟩) (by first | (rw [add_block]; exact hn204_0) | (show (Addr.add _ _).block ≠ _; rw [add_block]; exact hn204_0) | exact hn204_0) (.string ((rd_T101 l0 x7_1).f0))).trans hx204_0; replace hx204_1 := (cell_far (p := ⟨gb203, 0, none⟩) (by first | (rw [add_block]; exact hn204_0) | (show (Addr.add _ _).block ≠ _; rw [add_block]; exact hn204_0) | exact hn204_0) (.string ((rd_T101 l0 x7_1).f0))).trans hx204_1; replace hx204_0 := (cell_far (p := ⟨gb203, 1, none⟩) (by first | (rw [add_block]; exact hn204_1) | (show (Addr.add _ _).block ≠ _; rw [add_block]; exact hn204_1) | exact hn204_1) (.string ((rd_T101 l0 x7_1).f1))).trans hx204_0; replace hx204_1 := (cell_far (p := ⟨gb203, 1, none⟩) (by first | (rw [add_block]; exact hn204_1) | (show (Addr.add _ _).block ≠ _; rw [add_block]; exact hn204_1) | exact hn204_1) (.string ((rd_T101 l0 x7_1).f1))).trans hx204_1; (try have hy204_0 := fun (n_ : Nat) => (show ((((w16.drewN n_).setCell ⟨gb203, 0, none⟩ (.string ((rd_T101 l0 x7_1).f0))).setCell ⟨gb203, 1, none⟩ (.string ((rd_T101 l0 x7_1).f1)))).cell? _ = some _ from hx204_0)); (try have hy204_1 := fun (n_ : Nat) => (show ((((w16.drewN n_).setCell ⟨gb203, 0, none⟩ (.string ((rd_T101 l0 x7_1).f0))).setCell ⟨gb203, 1, none⟩ (.string ((rd_T101 l0 x7_1).f1)))).cell? _ = some _ from hx204_1)); clear hn204_0; clear hn204_1; replace p204 := eq_true p204; replace q204 := eq_true q204)); try go_wp2_with (first | ((with_reducible refine zq25 (N := 4) rfl ?_); (try (refine gate_guard (by rfl) ?_; dsimp only)); refine bx 4 #[.string (⟨#[]⟩ : ByteArray), .string (⟨#[]⟩ : ByteArray)] 101 ?_; intro gb203 hg w16 hbox hb; have n0_ := zq9 (zq27 (by exact bl HB) hb); have n1_ := zq9 (hbox); have n2_ := zq9 ((by rw [hg]; exact (zq29 (by exact bl HB)) : w.heap.size ≤ gb203)); have n3_ := n2_; clear HB; have HB := n0_; have BK203 := n1_; have GW203 := n2_; have GE203 := n3_; clear n0_ n1_ n2_ n3_; clear hb hbox hg; have hcz17_0 : w16.cell? ⟨gb203, 0, none⟩ = some (.string (⟨#[]⟩ : ByteArray)) := bc BK203 0; have hcz17_1 : w16.cell? ⟨gb203, 1, none⟩ = some (.string (⟨#[]⟩ : ByteArray)) := bc BK203 1; have hfz17_0 := zq6 BK203.out 0; have hfz17_1 := zq6 BK203.out 1; have p204 : 0 ≤ ((ji12) : Int) := of_decide_eq_true ‹_›; have q204 : (ji12) < (l0.length : Int) := of_decide_eq_true ‹_›; obtain ⟨ad204, e204, hx204_0, hx204_1⟩ := at_T101 HR0.out (ji12) p204 q204; obtain rfl : ad202 = ad204 := (by injection e204); have hn204_0 : ad202.block ≠ gb203 := Nat.ne_of_lt (Nat.lt_of_lt_of_le (by have := zq8 _ _ hx204_0; first | rwa [add_block] at this | exact this) GW203.out); have hn204_1 : ad202.block ≠ gb203 := Nat.ne_of_lt (Nat.lt_of_lt_of_le (by have := zq8 _ _ hx204_0; first | rwa [add_block] at this | exact this) GW203.out); replace hx204_0 := hcl HB hx204_0; replace hx204_1 := hcl HB hx204_1; replace hx204_0 := (cell_far (p := ⟨gb203, 0, none⟩) (by first | (rw [add_block]; exact hn204_0) | (show (Addr.add _ _).block ≠ _; rw [add_block]; exact hn204_0) | exact hn204_0) (.string ((rd_T101 l0 x7_1).f0))).trans hx204_0; replace hx204_1 := (cell_far (p := ⟨gb203, 0, none⟩) (by first | (rw [add_block]; exact hn204_0) | (show (Addr.add _ _).block ≠ _; rw [add_block]; exact hn204_0) | exact hn204_0) (.string ((rd_T101 l0 x7_1).f0))).trans hx204_1; replace hx204_0 := (cell_far (p := ⟨gb203, 1, none⟩) (by first | (rw [add_block]; exact hn204_1) | (show (Addr.add _ _).block ≠ _; rw [add_block]; exact hn204_1) | exact hn204_1) (.string ((rd_T101 l0 x7_1).f1))).trans hx204_0; replace hx204_1 := (cell_far (p := ⟨gb203, 1, none⟩) (by first | (rw [add_block]; exact hn204_1) | (show (Addr.add _ _).block ≠ _; rw [add_block]; exact hn204_1) | exact hn204_1) (.string ((rd_T101 l0 x7_1).f1))).trans hx204_1; (try have hy204_0 := fun (n_ : Nat) => (show ((((w16.drewN n_).setCell ⟨gb203, 0, none⟩ (.string ((rd_T101 l0 x7_1).f0))).setCell ⟨gb203, 1, none⟩ (.string ((rd_T101 l0 x7_1).f1)))).cell? _ = some _ from hx204_0)); (try have hy204_1 := fun (n_ : Nat) => (show ((((w16.drewN n_).setCell ⟨gb203, 0, none⟩ (.string ((rd_T101 l0 x7_1).f0))).setCell ⟨gb203, 1, none⟩ (.string ((rd_T101 l0 x7_1).f1)))).cell? _ = some _ from hx204_1)); clear hn204_0; clear hn204_1; replace p204 := eq_true p204; replace q204 := eq_true q204)))
            go_roundg k1
            case measure => have := HK1.out; omega
            case rel => exact ⟨(wrap64 (x7_1 + 1)), (by first | rfl | (simp; done) | (simp [*]; done)), H', ⟨by have := HK1.out; omega⟩, ⟨by exact b1 HB GE203⟩⟩
           ·rw [if_neg c15] at H
            have c15b0 : (Op.bytesLess (((rd_T101 l0 (ji12)).f0).toList) (((rd_T101 l0 x7_1).f0).toList)) = false := by simpa using c15
            clear c15; obtain rfl := Option.some.inj H
            have p202 : 0 ≤ (x7_1 : Int) := of_decide_eq_true ‹_›
            have q202 : x7_1 < (l0.length : Int) := of_decide_eq_true ‹_›
            obtain ⟨ad202, e202, hx202_0, hx202_1⟩ := at_T101 HR0.out x7_1 p202 q202
            cases e202; replace hx202_0 := hcl HB hx202_0; replace hx202_1 := hcl HB hx202_1; replace p202 := eq_true p202; replace q202 := eq_true q202
            go_wp2_with (first | ((with_reducible refine zq25 (N := 4) rfl ?_); (try (refine gate_guard (by rfl) ?_; dsimp only)); refine bx 4 #[.string (⟨#[]⟩ : ByteArray), .string (⟨#[]⟩ : ByteArray)] 101 ?_; intro gb203 hg w18 hbox hb; have n0_ := zq9 (zq27 (by exact bl HB) hb); have n1_ := zq9 (hbox); have n2_ := zq9 ((by rw [hg]; exact (zq29 (by exact bl HB)) : w.heap.size ≤ gb203)); have n3_ := n2_; clear HB; have HB := n0_; have BK203 := n1_; have GW203 := n2_; have GE203 := n3_; clear n0_ n1_ n2_ n3_; clear hb hbox hg; have hcz19_0 : w18.cell? ⟨gb203, 0, none⟩ = some (.string (⟨#[]⟩ : ByteArray)) := bc BK203 0; have hcz19_1 : w18.cell? ⟨gb203, 1, none⟩ = some (.string (⟨#[]⟩ : ByteArray)) := bc BK203 1; have hfz19_0 := zq6 BK203.out 0; have hfz19_1 := zq6 BK203.out 1; have p204 : 0 ≤ ((ji12) : Int) := of_decide_eq_true ‹_›; have q204 : (ji12) < (l0.length : Int) := of_decide_eq_true ‹_›; obtain ⟨ad204, e204, hx204_0, hx204_1⟩ := at_T101 HR0.out (ji12) p204 q204; obtain rfl : ad202 = ad204 := (by injection e204); have hn204_0 : ad202.block ≠ gb203 := Nat.ne_of_lt (Nat.lt_of_lt_of_le (by have := zq8 _ _ hx204_0; first | rwa [add_block] at this | exact this) GW203.out); have hn204_1 : ad202.block ≠ gb203 := Nat.ne_of_lt (Nat.lt_of_lt_of_le (by have := zq8 _ _ hx204_0; first | rwa [add_block] at this | exact this) GW203.out); replace hx204_0 := hcl HB hx204_0; replace hx204_1 := hcl HB hx204_1; replace hx204_0 := (cell_far (p := ⟨gb203, 0, none⟩) (by first | (rw [add_block]; exact hn204_0) | (show (Addr.add _ _).block ≠ _; rw [add_block]; exact hn204_0) | exact hn204_0) (.string ((rd_T101 l0 x7_1).f0))).trans hx204_0; replace hx204_1 := (cell_far (p := ⟨gb203, 0, none⟩) (by first | (rw [add_block]; exact hn204_0) | (show (Addr.add _ _).block ≠ _; rw [add_block]; exact hn204_0) | exact hn204_0) (.string ((rd_T101 l0 x7_1).f0))).trans hx204_1; replace hx204_0 := (cell_far (p := ⟨gb203, 1, none⟩) (by first | (rw [add_block]; exact hn204_1) | (show (Addr.add _ _).block ≠ _; rw [add_block]; exact hn204_1) | exact hn204_1) (.string ((rd_T101 l0 x7_1).f1))).trans hx204_0; replace hx204_1 := (cell_far (p := ⟨gb203, 1, none⟩) (by first | (rw [add_block]; exact hn204_1) | (show (Addr.add _ _).block ≠ _; rw [add_block]; exact hn204_1) | exact hn204_1) (.string ((rd_T101 l0 x7_1).f1))).trans hx204_1; (try have hy204_0 := fun (n_ : Nat) => (show ((((w18.drewN n_).setCell ⟨gb203, 0, none⟩ (.string ((rd_T101 l0 x7_1).f0))).setCell ⟨gb203, 1, none⟩ (.string ((rd_T101 l0 x7_1).f1)))).cell? _ = some _ from hx204_0)); (try have hy204_1 := fun (n_ : Nat) => (show ((((w18.drewN n_).setCell ⟨gb203, 0, none⟩ (.string ((rd_T101 l0 x7_1).f0))).setCell ⟨gb203, 1, none⟩ (.string ((rd_T101 l0 x7_1).f1)))).cell? _ = some _ from hx204_1)); clear hn204_0; clear hn204_1; replace p204 := eq_true p204; replace q204 := eq_true q204))
            repeat (go_quiet (first | ((with_reducible refine zq25 (N := 4) rfl ?_); (try (refine gate_guard (by rfl) ?_; dsimp only)); refine bx 4 #[.string (⟨#[]⟩ : ByteArray), .string (⟨#[]⟩ : ByteArray)] 101 ?_; intro gb203 hg w18 hbox hb; have n0_ := zq9 (zq27 (by exact bl HB) hb); have n1_ := zq9 (hbox); have n2_ := zq9 ((by rw [hg]; exact (zq29 (by exact bl HB)) : w.heap.size ≤ gb203)); have n3_ := n2_; clear HB; have HB := n0_; have BK203 := n1_; have GW203 := n2_; have GE203 := n3_; clear n0_ n1_ n2_ n3_; clear hb hbox hg; have hcz19_0 : w18.cell? ⟨gb203, 0, none⟩ = some (.string (⟨#[]⟩ : ByteArray)) := bc BK203 0; have hcz19_1 : w18.cell? ⟨gb203, 1, none⟩ = some (.string (⟨#[]⟩ : ByteArray)) := bc BK203 1; have hfz19_0 := zq6 BK203.out 0; have hfz19_1 := zq6 BK203.out 1; have p204 : 0 ≤ ((ji12) : Int) := of_decide_eq_true ‹_›; have q204 : (ji12) < (l0.length : Int) := of_decide_eq_true ‹_›; obtain ⟨ad204, e204, hx204_0, hx204_1⟩ := at_T101 HR0.out (ji12) p204 q204; obtain rfl : ad202 = ad204 := (by injection e204); have hn204_0 : ad202.block ≠ gb203 := Nat.ne_of_lt (Nat.lt_of_lt_of_le (by have := zq8 _ _ hx204_0; first | rwa [add_block] at this | exact this) GW203.out); have hn204_1 : ad202.block ≠ gb203 := Nat.ne_of_lt (Nat.lt_of_lt_of_le (by have := zq8 _ _ hx204_0; first | rwa [add_block] at this | exact this) GW203.out); replace hx204_0 := hcl HB hx204_0; replace hx204_1 := hcl HB hx204_1; replace hx204_0 := (cell_far (p := ⟨gb203, 0, none⟩) (by first | (rw [add_block]; exact hn204_0) | (show (Addr.add _ _).block ≠ _; rw [add_block]; exact hn204_0) | exact hn204_0) (.string ((rd_T101 l0 x7_1).f0))).trans hx204_0; replace hx204_1 := (cell_far (p := ⟨gb203, 0, none⟩) (by first | (rw [add_block]; exact hn204_0) | (show (Addr.add _ _).block ≠ _; rw [add_block]; exact hn204_0) | exact hn204_0) (.string ((rd_T101 l0 x7_1).f0))).trans hx204_1; replace hx204_0 := (cell_far (p := ⟨gb203, 1, none⟩) (by first | (rw [add_block]; exact hn204_1) | (show (Addr.add _ _).block ≠ _; rw [add_block]; exact hn204_1) | exact hn204_1) (.string ((rd_T101 l0 x7_1).f1))).trans hx204_0; replace hx204_1 := (cell_far (p := ⟨gb203, 1, none⟩) (by first | (rw [add_block]; exact hn204_1) | (show (Addr.add _ _).block ≠ _; rw [add_block]; exact hn204_1) | exact hn204_1) (.string ((rd_T101 l0 x7_1).f1))).trans hx204_1; (try have hy204_0 := fun (n_ : Nat) => (show ((((w18.drewN n_).setCell ⟨gb203, 0, none⟩ (.string ((rd_T101 l0 x7_1).f0))).setCell ⟨gb203, 1, none⟩ (.string ((rd_T101 l0 x7_1).f1)))).cell? _ = some _ from hx204_0)); (try have hy204_1 := fun (n_ : Nat) => (show ((((w18.drewN n_).setCell ⟨gb203, 0, none⟩ (.string ((rd_T101 l0 x7_1).f0))).setCell ⟨gb203, 1, none⟩ (.string ((rd_T101 l0 x7_1).f1)))).cell? _ = some _ from hx204_1)); clear hn204_0; clear hn204_1; replace p204 := eq_true p204; replace q204 := eq_true q204)); try go_wp2_with (first | ((with_reducible refine zq25 (N := 4) rfl ?_); (try (refine gate_guard (by rfl) ?_; dsimp only)); refine bx 4 #[.string (⟨#[]⟩ : ByteArray), .string (⟨#[]⟩ : ByteArray)] 101 ?_; intro gb203 hg w18 hbox hb; have n0_ := zq9 (zq27 (by exact bl HB) hb); have n1_ := zq9 (hbox); have n2_ := zq9 ((by rw [hg]; exact (zq29 (by exact bl HB)) : w.heap.size ≤ gb203)); have n3_ := n2_; clear HB; have HB := n0_; have BK203 := n1_; have GW203 := n2_; have GE203 := n3_; clear n0_ n1_ n2_ n3_; clear hb hbox hg; have hcz19_0 : w18.cell? ⟨gb203, 0, none⟩ = some (.string (⟨#[]⟩ : ByteArray)) := bc BK203 0; have hcz19_1 : w18.cell? ⟨gb203, 1, none⟩ = some (.string (⟨#[]⟩ : ByteArray)) := bc BK203 1; have hfz19_0 := zq6 BK203.out 0; have hfz19_1 := zq6 BK203.out 1; have p204 : 0 ≤ ((ji12) : Int) := of_decide_eq_true ‹_›; have q204 : (ji12) < (l0.length : Int) := of_decide_eq_true ‹_›; obtain ⟨ad204, e204, hx204_0, hx204_1⟩ := at_T101 HR0.out (ji12) p204 q204; obtain rfl : ad202 = ad204 := (by injection e204); have hn204_0 : ad202.block ≠ gb203 := Nat.ne_of_lt (Nat.lt_of_lt_of_le (by have := zq8 _ _ hx204_0; first | rwa [add_block] at this | exact this) GW203.out); have hn204_1 : ad202.block ≠ gb203 := Nat.ne_of_lt (Nat.lt_of_lt_of_le (by have := zq8 _ _ hx204_0; first | rwa [add_block] at this | exact this) GW203.out); replace hx204_0 := hcl HB hx204_0; replace hx204_1 := hcl HB hx204_1; replace hx204_0 := (cell_far (p := ⟨gb203, 0, none⟩) (by first | (rw [add_block]; exact hn204_0) | (show (Addr.add _ _).block ≠ _; rw [add_block]; exact hn204_0) | exact hn204_0) (.string ((rd_T101 l0 x7_1).f0))).trans hx204_0; replace hx204_1 := (cell_far (p := ⟨gb203, 0, none⟩) (by first | (rw [add_block]; exact hn204_0) | (show (Addr.add _ _).block ≠ _; rw [add_block]; exact hn204_0) | exact hn204_0) (.string ((rd_T101 l0 x7_1).f0))).trans hx204_1; replace hx204_0 := (cell_far (p := ⟨gb203, 1, none⟩) (by first | (rw [add_block]; exact hn204_1) | (show (Addr.add _ _).block ≠ _; rw [add_block]; exact hn204_1) | exact hn204_1) (.string ((rd_T101 l0 x7_1).f1))).trans hx204_0; replace hx204_1 := (cell_far (p := ⟨gb203, 1, none⟩) (by first | (rw [add_block]; exact hn204_1) | (show (Addr.add _ _).block ≠ _; rw [add_block]; exact hn204_1) | exact hn204_1) (.string ((rd_T101 l0 x7_1).f1))).trans hx204_1; (try have hy204_0 := fun (n_ : Nat) => (show ((((w18.drewN n_).setCell ⟨gb203, 0, none⟩ (.string ((rd_T101 l0 x7_1).f0))).setCell ⟨gb203, 1, none⟩ (.string ((rd_T101 l0 x7_1).f1)))).cell? _ = some _ from hx204_0)); (try have hy204_1 := fun (n_ : Nat) => (show ((((w18.drewN n_).setCell ⟨gb203, 0, none⟩ (.string ((rd_T101 l0 x7_1).f0))).setCell ⟨gb203, 1, none⟩ (.string ((rd_T101 l0 x7_1).f1)))).cell? _ = some _ from hx204_1)); clear hn204_0; clear hn204_1; replace p204 := eq_true p204; replace q204 := eq_true q204)))
            go_ret
            exact ⟨by first | rfl | (simp [errW_none, errW_some] <;> rfl) | (simp only [← hji12]; first | rfl | (simp [errW_none, errW_some] <;> rfl)) | (simp [*, errW_none, errW_some] <;> rfl), by exact b1 HB GE203⟩
          ·rw [if_neg c14] at H
           exact absurd H (by simp)
         ·rw [if_neg c13] at H
          exact absurd H (by simp)
        ·rw [if_neg c11] at H; have c11b0 : decide (0 < x7_1) = false := decide_eq_false c11; clear c11; have H' := zq9 H; clear H
         have p202 : 0 ≤ (x7_1 : Int) := of_decide_eq_true ‹_›
         have q202 : x7_1 < (l0.length : Int) := of_decide_eq_true ‹_›
         obtain ⟨ad202, e202, hx202_0, hx202_1⟩ := at_T101 HR0.out x7_1 p202 q202
         cases e202; replace hx202_0 := hcl HB hx202_0; replace hx202_1 := hcl HB hx202_1; replace p202 := eq_true p202; replace q202 := eq_true q202
         go_wp2_with (first | ((with_reducible refine zq25 (N := 4) rfl ?_); (try (refine gate_guard (by rfl) ?_; dsimp only)); refine bx 4 #[.string (⟨#[]⟩ : ByteArray), .string (⟨#[]⟩ : ByteArray)] 101 ?_; intro gb203 hg w20 hbox hb; have n0_ := zq9 (zq27 (by exact bl HB) hb); have n1_ := zq9 (hbox); have n2_ := zq9 ((by rw [hg]; exact (zq29 (by exact bl HB)) : w.heap.size ≤ gb203)); have n3_ := n2_; clear HB; have HB := n0_; have BK203 := n1_; have GW203 := n2_; have GE203 := n3_; clear n0_ n1_ n2_ n3_; clear hb hbox hg; have hcz21_0 : w20.cell? ⟨gb203, 0, none⟩ = some (.string (⟨#[]⟩ : ByteArray)) := bc BK203 0; have hcz21_1 : w20.cell? ⟨gb203, 1, none⟩ = some (.string (⟨#[]⟩ : ByteArray)) := bc BK203 1; have hfz21_0 := zq6 BK203.out 0; have hfz21_1 := zq6 BK203.out 1))
         repeat (go_quiet (first | ((with_reducible refine zq25 (N := 4) rfl ?_); (try (refine gate_guard (by rfl) ?_; dsimp only)); refine bx 4 #[.string (⟨#[]⟩ : ByteArray), .string (⟨#[]⟩ : ByteArray)] 101 ?_; intro gb203 hg w20 hbox hb; have n0_ := zq9 (zq27 (by exact bl HB) hb); have n1_ := zq9 (hbox); have n2_ := zq9 ((by rw [hg]; exact (zq29 (by exact bl HB)) : w.heap.size ≤ gb203)); have n3_ := n2_; clear HB; have HB := n0_; have BK203 := n1_; have GW203 := n2_; have GE203 := n3_; clear n0_ n1_ n2_ n3_; clear hb hbox hg; have hcz21_0 : w20.cell? ⟨gb203, 0, none⟩ = some (.string (⟨#[]⟩ : ByteArray)) := bc BK203 0; have hcz21_1 : w20.cell? ⟨gb203, 1, none⟩ = some (.string (⟨#[]⟩ : ByteArray)) := bc BK203 1; have hfz21_0 := zq6 BK203.out 0; have hfz21_1 := zq6 BK203.out 1)); try go_wp2_with (first | ((with_reducible refine zq25 (N := 4) rfl ?_); (try (refine gate_guard (by rfl) ?_; dsimp only)); refine bx 4 #[.string (⟨#[]⟩ : ByteArray), .string (⟨#[]⟩ : ByteArray)] 101 ?_; intro gb203 hg w20 hbox hb; have n0_ := zq9 (zq27 (by exact bl HB) hb); have n1_ := zq9 (hbox); have n2_ := zq9 ((by rw [hg]; exact (zq29 (by exact bl HB)) : w.heap.size ≤ gb203)); have n3_ := n2_; clear HB; have HB := n0_; have BK203 := n1_; have GW203 := n2_; have GE203 := n3_; clear n0_ n1_ n2_ n3_; clear hb hbox hg; have hcz21_0 : w20.cell? ⟨gb203, 0, none⟩ = some (.string (⟨#[]⟩ : ByteArray)) := bc BK203 0; have hcz21_1 : w20.cell? ⟨gb203, 1, none⟩ = some (.string (⟨#[]⟩ : ByteArray)) := bc BK203 1; have hfz21_0 := zq6 BK203.out 0; have hfz21_1 := zq6 BK203.out 1)))
         go_roundg k1
         case measure => have := HK1.out; omega
         case rel => exact ⟨(wrap64 (x7_1 + 1)), (by first | rfl | (simp; done) | (simp [*]; done)), H', ⟨by have := HK1.out; omega⟩, ⟨by exact b1 HB GE203⟩⟩
     case n2 =>
      rw [if_neg c4] at H
      exact absurd H (by simp)
    case n1 =>
     rw [if_neg c3] at H
     exact absurd H (by simp)
   case n0 =>
    rw [if_neg c2] at H; have c2b0 : decide (x7_1 < (l0.length : Int)) = false := decide_eq_false c2; clear c2; obtain rfl := Option.some.inj H
    go_wp2
    repeat (go_quiet (fail); try go_wp2)
    go_ret
    exact fz (by exact bl HB)
   case p3 | n3 =>
    have p202 : 0 ≤ (x7_1 : Int) := of_decide_eq_true ‹_›
    have q202 : x7_1 < (l0.length : Int) := of_decide_eq_true ‹_›
    obtain ⟨ad202, e202, hx202_0, hx202_1⟩ := at_T101 HR0.out x7_1 p202 q202
    cases e202; replace hx202_0 := hcl HB hx202_0; replace hx202_1 := hcl HB hx202_1; replace p202 := eq_true p202; replace q202 := eq_true q202
    try go_wp2_with (first | ((with_reducible refine zq25 (N := 4) rfl ?_); (try (refine gate_guard (by rfl) ?_; dsimp only)); refine bx 4 #[.string (⟨#[]⟩ : ByteArray), .string (⟨#[]⟩ : ByteArray)] 101 ?_; intro gb203 hg w6 hbox hb; have n0_ := zq9 (zq27 (by exact bl HB) hb); have n1_ := zq9 (hbox); have n2_ := zq9 ((by rw [hg]; exact (zq29 (by exact bl HB)) : w.heap.size ≤ gb203)); have n3_ := n2_; clear HB; have HB := n0_; have BK203 := n1_; have GW203 := n2_; have GE203 := n3_; clear n0_ n1_ n2_ n3_; clear hb hbox hg; have hcz7_0 : w6.cell? ⟨gb203, 0, none⟩ = some (.string (⟨#[]⟩ : ByteArray)) := bc BK203 0; have hcz7_1 : w6.cell? ⟨gb203, 1, none⟩ = some (.string (⟨#[]⟩ : ByteArray)) := bc BK203 1; have hfz7_0 := zq6 BK203.out 0; have hfz7_1 := zq6 BK203.out 1))
    repeat (go_quiet (first | ((with_reducible refine zq25 (N := 4) rfl ?_); (try (refine gate_guard (by rfl) ?_; dsimp only)); refine bx 4 #[.string (⟨#[]⟩ : ByteArray), .string (⟨#[]⟩ : ByteArray)] 101 ?_; intro gb203 hg w6 hbox hb; have n0_ := zq9 (zq27 (by exact bl HB) hb); have n1_ := zq9 (hbox); have n2_ := zq9 ((by rw [hg]; exact (zq29 (by exact bl HB)) : w.heap.size ≤ gb203)); have n3_ := n2_; clear HB; have HB := n0_; have BK203 := n1_; have GW203 := n2_; have GE203 := n3_; clear n0_ n1_ n2_ n3_; clear hb hbox hg; have hcz7_0 : w6.cell? ⟨gb203, 0, none⟩ = some (.string (⟨#[]⟩ : ByteArray)) := bc BK203 0; have hcz7_1 : w6.cell? ⟨gb203, 1, none⟩ = some (.string (⟨#[]⟩ : ByteArray)) := bc BK203 1; have hfz7_0 := zq6 BK203.out 0; have hfz7_1 := zq6 BK203.out 1)); try go_wp2_with (first | ((with_reducible refine zq25 (N := 4) rfl ?_); (try (refine gate_guard (by rfl) ?_; dsimp only)); refine bx 4 #[.string (⟨#[]⟩ : ByteArray), .string (⟨#[]⟩ : ByteArray)] 101 ?_; intro gb203 hg w6 hbox hb; have n0_ := zq9 (zq27 (by exact bl HB) hb); have n1_ := zq9 (hbox); have n2_ := zq9 ((by rw [hg]; exact (zq29 (by exact bl HB)) : w.heap.size ≤ gb203)); have n3_ := n2_; clear HB; have HB := n0_; have BK203 := n1_; have GW203 := n2_; have GE203 := n3_; clear n0_ n1_ n2_ n3_; clear hb hbox hg; have hcz7_0 : w6.cell? ⟨gb203, 0, none⟩ = some (.string (⟨#[]⟩ : ByteArray)) := bc BK203 0; have hcz7_1 : w6.cell? ⟨gb203, 1, none⟩ = some (.string (⟨#[]⟩ : ByteArray)) := bc BK203 1; have hfz7_0 := zq6 BK203.out 0; have hfz7_1 := zq6 BK203.out 1)))
    go_ret
    exact fz (by exact b1 HB GE203)
end Go.Proofs.Ytnkgmcgbbldkgaa.P
