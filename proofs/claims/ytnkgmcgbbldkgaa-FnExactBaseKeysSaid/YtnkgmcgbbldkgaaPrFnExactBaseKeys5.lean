import Derived.Test.YtnkgmcgbbldkgaaPrFnExactBaseKeys4
import Derived.ProofKit
import Derived.SizedLaws
/- Texts of this claim, one behind the other: words on worlds and rows, printed functions and their walks, plain lemmas. -/
namespace Go.Proofs.Ytnkgmcgbbldkgaa.P
open Go.RowKit Go.Proofs.YtnkgmcgbbldkgaaW.PrintWords Go.Proofs.YtnkgmcgbbldkgaaW.PrintLast Go.Proofs.YtnkgmcgbbldkgaaW.PrintMore
attribute [local go_sem] max2_int min2_int max_two min_two max_three min_three max_four min_four   -- for this text's walks alone
set_option linter.unusedVariables false
set_option linter.unusedSimpArgs false
def impl_BaseOk.T6 : Bool × List (List Nat × List Nat) := (true, [([], []), ([0], [0]), ([1], [1]), ([2, 1], [2]), ([3], [3]), ([4, 3], [3, 4]), ([5, 3, 3], [3, 5]), ([6], [6]), ([7, 6], [6, 7]), ([6], [6]), ([9, 6], [6, 9]), ([8, 10, 6], [6, 8, 10]), ([11, 6], [6, 11]), ([12, 6], [6, 12]), ([6], [6]), ([14, 6], [6, 14]), ([13, 15, 6], [6, 13, 15]), ([6, 16, 3], [3, 6, 16]), ([3, 17], [3, 17]), ([18, 6], [18]), ([19], [19]), ([20, 19], [19, 20]), ([21, 19], [19, 21]), ([22, 19, 19], [19, 22]), ([23], [23]), ([24, 23], [23, 24]), ([23], [23]), ([26, 23], [23, 26]), ([25, 27, 23], [23, 25, 27]), ([23, 28, 19], [19, 23, 28]), ([19, 29], [19, 29])])
def impl_BaseOk.B6 : List Nat := [0, 1, 3, 7, 15, 31, 63, 127, 255, 127, 639, 2047, 4095, 8191, 127, 16511, 65535, 131071, 262143, 524287, 1048575, 2097151, 4194303, 8388607, 16777215, 33554431, 16777215, 83886079, 268435455, 536870911, 1073741823]
theorem impl_BaseOk.tab6 : rtab .any (opsOf Try.f19 6) = impl_BaseOk.T6 := by kernel_rfl
theorem impl_BaseOk.bits6 : waitsOk impl_BaseOk.T6.2 impl_BaseOk.B6 = true := by kernel_rfl
set_option maxHeartbeats 8000000 in
set_option maxRecDepth 100000 in
theorem impl_BaseOk.calls (k : Nat) (a0_0 : Int) (A0_1 : Option Addr) (c0_1 : Nat) (l0_1 : List (S32)) (r : Bool) (w : World) (hr0_1 : Kd.C k32 w A0_1 l0_1.length l0_1) (hc0_1 : l0_1.length ≤ c0_1) (h : impl_BaseOk.f k a0_0 l0_1 = some r) :
  Calls Try.prog 19 #[.agg #[.int .i64 a0_0, .slice A0_1 l0_1.length c0_1]] w fun e w' => e = .returned (.bool r) ∧ Below w.heap.size w w' := by
 have hu46 := Try.underlying46; have hu32 := Try.underlying32; have HR0_1 := zq9 hr0_1; have HC0_1 := zq9 hc0_1; clear hr0_1 hc0_1
 have HB := zq9 (Below.refl w.heap.size w)
 have H : ((impl_within.f a0_0 0 1000000).bind fun t677 => (if t677 = true then (impl_BaseOk.j0 k (decide ((l0_1.length : Int) > 12)) a0_0 l0_1) else (impl_BaseOk.j0 k true a0_0 l0_1))) = some r := h
 clear h; have HC2 := zq9 H; clear H
 go_enter Try.func19, Try.ntmps19
 go_upto_region 1 with (first | ((with_reducible refine zq25 (N := 1) rfl ?_); (try (refine gate_guard (by rfl) ?_; dsimp only)); refine bx 1 #[.int .i64 a0_0, .slice A0_1 l0_1.length c0_1] 46 ?_; intro gb676 hg w3 hbox hb; have n0_ := zq9 (zq27 (by exact bl HB) hb); have n1_ := zq9 (hbox); have n2_ := zq9 ((by rw [hg]; exact (zq29 (by exact bl HB)) : w.heap.size ≤ gb676)); have n3_ := n2_; clear HB; have HB := n0_; have BK676 := n1_; have GW676 := n2_; have GE676 := n3_; clear n0_ n1_ n2_ n3_; clear hb hbox hg))
 (try simp only [Act.put, zq0, zq1, zq2])
 go_cut [14] (fun v14 wc => ∃ (kq : Nat) (x14_1 : Bool), v14 = .bool x14_1 ∧ Aside0 (impl_BaseOk.j0 kq x14_1 a0_0 l0_1 = some r) ∧ Aside0 (kq ≤ k) ∧ Aside0 (wc.heap[gb676]? = some (.cells #[.int .i64 a0_0, (.slice A0_1 l0_1.length c0_1)] 46 (0, 0))) ∧ Aside0 (Below w.heap.size w wc))
 case first =>
  have H := HC2.out; clear HC2; replace H := Option.bind_eq_some_iff.mp H; obtain ⟨t677, A40, H⟩ := H
  try dsimp only at H
  have A4 := zq9 A40; clear A40
  have hcz6_0 : w3.cell? ⟨gb676, 0, none⟩ = some (.int .i64 a0_0) := bc BK676 0
  have hcz6_1 : w3.cell? ⟨gb676, 1, none⟩ = some (.slice A0_1 l0_1.length c0_1) := bc BK676 1
  have hfz6_0 := zq6 BK676.out 0
  have hfz6_1 := zq6 BK676.out 1
  by_cases c5 : t677 = true
  ·subst c5
   have H1 : (impl_BaseOk.j0 k (decide ((l0_1.length : Int) > 12)) a0_0 l0_1) = some r := by rw [if_pos rfl] at H; exact H
   clear H; have H := H1; clear H1; have H' := zq9 H; clear H
   go_wp2_with (first | ((with_reducible refine zq24 (f := 49) rfl ?_); refine gl (some 7) Try.func49 #[.int .i64 a0_0, .int .i64 0, .int .i64 1000000] ?_; (with_reducible refine (impl_within.calls a0_0 0 1000000 true _ A4.out).mono ?_); rintro e w' ⟨rfl, ⟨nd, rfl⟩⟩; refine ⟨_, rfl, ?_⟩))
   go_meet
   case rel => exact ⟨_, (decide ((l0_1.length : Int) > 12)), (by first | rfl | (simp; done) | (simp [*]; done)), H', ⟨by first | omega | exact Nat.le_refl _⟩, ⟨by refine bp ?_; exact BK676.out⟩, ⟨by exact b1 HB GE676⟩⟩
  ·replace c5 := Bool.eq_false_iff.mpr c5
   subst c5
   have H1 : (impl_BaseOk.j0 k true a0_0 l0_1) = some r := by rw [if_neg (show ¬ (false = true) by decide)] at H; exact H
   clear H; have H := H1; clear H1; have H' := zq9 H; clear H
   go_wp2_with (first | ((with_reducible refine zq24 (f := 49) rfl ?_); refine gl (some 7) Try.func49 #[.int .i64 a0_0, .int .i64 0, .int .i64 1000000] ?_; (with_reducible refine (impl_within.calls a0_0 0 1000000 false _ A4.out).mono ?_); rintro e w' ⟨rfl, ⟨nd, rfl⟩⟩; refine ⟨_, rfl, ?_⟩))
   go_meet
   case rel => exact ⟨_, (true), (by first | rfl | (simp; done) | (simp [*]; done)), H', ⟨by first | omega | exact Nat.le_refl _⟩, ⟨by refine bp ?_; exact BK676.out⟩, ⟨by exact b1 HB GE676⟩⟩
 case rest =>
  clear HC2
  try clear c1
  try clear p2
  try clear c4
  try clear c5
  try clear hcz6_0
  try clear hcz6_1
  try clear hcz7_0
  try clear hcz7_1
  try clear hfz6_0
  try clear hfz6_1
  try clear hfz7_0
  try clear hfz7_1
  obtain ⟨kq, x14_1, rfl, HA, HJ1, BK676, HB⟩ := hcut
  cases kq with
  | zero => exact absurd HA.out (by simp [impl_BaseOk.j0])
  | succ kj1 =>
   have H := HA.out; clear HA
   simp only [impl_BaseOk.j0] at H
   by_cases c8 : x14_1 = true
   ·subst c8
    have H1 : (some false) = some r := by rw [if_pos rfl] at H; exact H
    clear H; have H := H1; clear H1; obtain rfl := Option.some.inj H
    go_wp2
    go_ret
    exact fz (by exact b1 HB GE676)
   ·replace c8 := Bool.eq_false_iff.mpr c8
    subst c8
    have H1 : (impl_BaseOk.l0 kj1 l0_1 (l0_1.length : Int) 0 a0_0 l0_1) = some r := by rw [if_neg (show ¬ (false = true) by decide)] at H; exact H
    clear H; have H := H1; clear H1; have H' := zq9 H; clear H
    have hcz9_0 : wc.cell? ⟨gb676, 0, none⟩ = some (.int .i64 a0_0) := bc BK676 0
    have hcz9_1 : wc.cell? ⟨gb676, 1, none⟩ = some (.slice A0_1 l0_1.length c0_1) := bc BK676 1
    have hfz9_0 := zq6 BK676.out 0
    have hfz9_1 := zq6 BK676.out 1
    go_wp2
    go_loopg [18] kj1 (fun kq v18 w' => ∃ (x18_2 : Int), v18 = .int .i64 x18_2 ∧ Aside0 (impl_BaseOk.l0 kq l0_1 (l0_1.length : Int) x18_2 a0_0 l0_1 = some r) ∧ Aside0 (kq ≤ kj1) ∧ Aside0 (w'.heap[gb676]? = some (.cells #[.int .i64 a0_0, (.slice A0_1 l0_1.length c0_1)] 46 (0, 0))) ∧ Aside0 (Below w.heap.size w w'))
    case atStart => exact ⟨(0), (by first | rfl | (simp; done) | (simp [*]; done)), H', ⟨Nat.le_refl _⟩, ⟨by refine bp ?_; exact BK676.out⟩, ⟨by exact b1 HB GE676⟩⟩
    case round =>
     clear H'
     try clear c1
     try clear p2
     try clear c4
     try clear c5
     try clear c8
     try clear hcz6_0
     try clear hcz6_1
     try clear hcz7_0
     try clear hcz7_1
     try clear hcz9_0
     try clear hcz9_1
     try clear hfz6_0
     try clear hfz6_1
     try clear hfz7_0
     try clear hfz7_1
     try clear hfz9_0
     try clear hfz9_1
     try clear p2
     obtain ⟨x18_2, rfl, HA, HK2, BK676, HB⟩ := hrel
     cases gk with
     | zero => exact absurd HA.out (by simp [impl_BaseOk.l0])
     | succ k2 =>
      have H := HA.out; clear HA
      simp only [impl_BaseOk.l0] at H
      by_cases c10 : x18_2 < (l0_1.length : Int)
      ·rw [if_pos c10] at H; have c10b0 : decide (x18_2 < (l0_1.length : Int)) = true := decide_eq_true c10; clear c10
       by_cases c11 : 0 ≤ x18_2
       ·rw [if_pos c11] at H; have c11b0 : decide (0 ≤ x18_2) = true := decide_eq_true c11; clear c11
        by_cases c12 : x18_2 < (l0_1.length : Int)
        ·rw [if_pos c12] at H; have c12b0 : decide (x18_2 < (l0_1.length : Int)) = true := decide_eq_true c12; clear c12; have HC13 := zq9 H; clear H
         have p678 : 0 ≤ (x18_2 : Int) := of_decide_eq_true ‹_›
         have q678 : x18_2 < (l0_1.length : Int) := of_decide_eq_true ‹_›
         obtain ⟨ad678, A678_4, c678_4, A678_5, c678_5, A678_6, c678_6, e678, hx678_0, hx678_1, hx678_2, hx678_3, hx678_4, hx678_5, hx678_6, hl678_4, hi678_4, hl678_5, hi678_5, hl678_6, hi678_6⟩ := at_T32 HR0_1.out x18_2 p678 q678
         cases e678; replace hx678_0 := hcl HB hx678_0; replace hx678_1 := hcl HB hx678_1; replace hx678_2 := hcl HB hx678_2; replace hx678_3 := hcl HB hx678_3; replace hx678_4 := hcl HB hx678_4; replace hx678_5 := hcl HB hx678_5; replace hx678_6 := hcl HB hx678_6; have HR678_4 := zq9 hi678_4; have HC678_4 := zq9 hl678_4; clear hi678_4 hl678_4; have HR678_5 := zq9 hi678_5; have HC678_5 := zq9 hl678_5
         clear hi678_5 hl678_5; have HR678_6 := zq9 hi678_6; have HC678_6 := zq9 hl678_6; clear hi678_6 hl678_6; replace p678 := eq_true p678; replace q678 := eq_true q678
         go_upto_region 6 with (first | ((with_reducible refine zq25 (N := 4) rfl ?_); (try (refine gate_guard (by rfl) ?_; dsimp only)); refine bx 4 #[.string (⟨#[]⟩ : ByteArray), .int .i64 0, .int .i64 0, .string (⟨#[]⟩ : ByteArray), .slice none 0 0, .slice none 0 0, .slice none 0 0] 32 ?_; intro gb679 hg w14 hbox hb; have n0_ := zq9 (zq30 (g := gb676) (o := .cells #[.int .i64 a0_0, .slice (some ad678) l0_1.length c0_1] 46 (0, 0)) (by exact bk BK676) hb); have n1_ := zq9 (zq27 (by exact b1 HB GE676) hb); have n2_ := zq9 (hbox); have n3_ := zq9 ((by rw [hg]; exact (zq29 (by exact b1 HB GE676)) : w.heap.size ≤ gb679)); have n4_ := n3_; have n5_ := zq9 ((by rw [hg]; exact Nat.ne_of_lt (blk_lt (g := gb676) (o := .cells #[.int .i64 a0_0, .slice (some ad678) l0_1.length c0_1] 46 (0, 0)) (by exact bk BK676)) : gb676 ≠ gb679)); have n6_ := zq9 ((by rw [hg]; exact Nat.ne_of_gt (blk_lt (g := gb676) (o := .cells #[.int .i64 a0_0, .slice (some ad678) l0_1.length c0_1] 46 (0, 0)) (by exact bk BK676)) : gb679 ≠ gb676)); clear BK676; clear HB; have BK676 := n0_; have HB := n1_; have BK679 := n2_; have GW679 := n3_; have GE679 := n4_; have NB676_679 := n5_; have NB679_676 := n6_; clear n0_ n1_ n2_ n3_ n4_ n5_ n6_; clear hb hbox hg; have hnb15 := NB679_676.out; have hnc15 := NB676_679.out; have hcz16_0 : w14.cell? ⟨gb679, 0, none⟩ = some (.string (⟨#[]⟩ : ByteArray)) := bc BK679 0; have hcz16_1 : w14.cell? ⟨gb679, 1, none⟩ = some (.int .i64 0) := bc BK679 1; have hcz16_2 : w14.cell? ⟨gb679, 2, none⟩ = some (.int .i64 0) := bc BK679 2; have hcz16_3 : w14.cell? ⟨gb679, 3, none⟩ = some (.string (⟨#[]⟩ : ByteArray)) := bc BK679 3; have hcz16_4 : w14.cell? ⟨gb679, 4, none⟩ = some (.slice none 0 0) := bc BK679 4; have hcz16_5 : w14.cell? ⟨gb679, 5, none⟩ = some (.slice none 0 0) := bc BK679 5; have hcz16_6 : w14.cell? ⟨gb679, 6, none⟩ = some (.slice none 0 0) := bc BK679 6; have hfz16_0 := zq6 BK679.out 0; have hfz16_1 := zq6 BK679.out 1; have hfz16_2 := zq6 BK679.out 2; have hfz16_3 := zq6 BK679.out 3; have hfz16_4 := zq6 BK679.out 4; have hfz16_5 := zq6 BK679.out 5; have hfz16_6 := zq6 BK679.out 6))
         (try simp only [Act.put, zq0, zq1, zq2])
         go_cut [53] (fun v53 wc => ∃ (kq : Nat) (x53_12 : Bool), v53 = .bool x53_12 ∧ Aside0 (impl_BaseOk.j2 kq l0_1 (l0_1.length : Int) x18_2 x53_12 a0_0 l0_1 = some r) ∧ Aside0 (kq ≤ k2) ∧ Aside0 (wc.heap[gb676]? = some (.cells #[.int .i64 a0_0, (.slice (some ad678) l0_1.length c0_1)] 46 (0, 0))) ∧ Aside0 (wc.heap[gb679]? = some (.cells #[.string ((rd_T32 l0_1 x18_2).f0), .int .i64 ((rd_T32 l0_1 x18_2).f1), .int .i64 ((rd_T32 l0_1 x18_2).f2), .string ((rd_T32 l0_1 x18_2).f3), (.slice A678_4 ((rd_T32 l0_1 x18_2).f4).length c678_4), (.slice A678_5 ((rd_T32 l0_1 x18_2).f5).length c678_5), (.slice A678_6 ((rd_T32 l0_1 x18_2).f6).length c678_6)] 32 (0, 0))) ∧ Aside0 (Below w.heap.size w wc))
         case first =>
          have H := HC13.out; clear HC13; replace H := Option.bind_eq_some_iff.mp H; obtain ⟨t680, A170, H⟩ := H
          try dsimp only at H
          have A17 := zq9 A170; clear A170
          by_cases c18 : t680 = true
          ·subst c18
           have H1 : (if x18_2 > 0 then (if 0 ≤ (wrap64 (x18_2 - 1)) then (if (wrap64 (x18_2 - 1)) < (l0_1.length : Int) then (if ((Op.bytesLess (((rd_T32 l0_1 (wrap64 (x18_2 - 1))).f0).toList) (((rd_T32 l0_1 x18_2).f0).toList)) = true) then (if ((rd_T32 l0_1 x18_2).f1) = 0 then (impl_BaseOk.j2 k2 l0_1 (l0_1.length : Int) x18_2 false a0_0 l0_1) else (impl_BaseOk.j2 k2 l0_1 (l0_1.length : Int) x18_2 (decide (((rd_T32 l0_1 x18_2).f1) ≤ a0_0)) a0_0 l0_1)) else (impl_BaseOk.j2 k2 l0_1 (l0_1.length : Int) x18_2 true a0_0 l0_1)) else (none)) else (none)) else (if ((rd_T32 l0_1 x18_2).f1) = 0 then (impl_BaseOk.j2 k2 l0_1 (l0_1.length : Int) x18_2 false a0_0 l0_1) else (impl_BaseOk.j2 k2 l0_1 (l0_1.length : Int) x18_2 (decide (((rd_T32 l0_1 x18_2).f1) ≤ a0_0)) a0_0 l0_1))) = some r := by rw [if_pos rfl] at H; exact H
           clear H; have H := H1; clear H1
           by_cases c19 : x18_2 > 0
           ·rw [if_pos c19] at H; have c19b0 : decide (0 < x18_2) = true := decide_eq_true c19; clear c19
            (first | rw [c19b0] | (simp only [i64_w, i32_w]; rw [c19b0]) | skip)
            obtain ⟨ji20, hji20⟩ : ∃ j_ : Int, (wrap64 (x18_2 - 1)) = j_ := ⟨_, rfl⟩
            replace H : (if 0 ≤ (ji20) then (if (ji20) < (l0_1.length : Int) then (if ((Op.bytesLess (((rd_T32 l0_1 (ji20)).f0).toList) (((rd_T32 l0_1 x18_2).f0).toList)) = true) then (if ((rd_T32 l0_1 x18_2).f1) = 0 then (impl_BaseOk.j2 k2 l0_1 (l0_1.length : Int) x18_2 false a0_0 l0_1) else (impl_BaseOk.j2 k2 l0_1 (l0_1.length : Int) x18_2 (decide (((rd_T32 l0_1 x18_2).f1) ≤ a0_0)) a0_0 l0_1)) else (impl_BaseOk.j2 k2 l0_1 (l0_1.length : Int) x18_2 true a0_0 l0_1)) else (none)) else (none)) = some r := by first | (rw [hji20] at H; exact H) | (simp only [hji20] at H ⊢; exact H)
            (try rw [hji20] at A17)
            have hji20w : (IntKind.i64.wrap (x18_2 - 1)) = ji20 := (i64_w _).trans hji20
            by_cases c21 : 0 ≤ (ji20)
            ·rw [if_pos c21] at H; have c21b0 : decide (0 ≤ (ji20)) = true := decide_eq_true c21; clear c21
             by_cases c22 : (ji20) < (l0_1.length : Int)
             ·rw [if_pos c22] at H; have c22b0 : decide ((ji20) < (l0_1.length : Int)) = true := decide_eq_true c22; clear c22
              try go_wp2
              have n0_ : Aside0 ((((((((w14.setCell ⟨gb679, 0, none⟩ (.string ((rd_T32 l0_1 x18_2).f0))).setCell ⟨gb679, 1, none⟩ (.int .i64 ((rd_T32 l0_1 x18_2).f1))).setCell ⟨gb679, 2, none⟩ (.int .i64 ((rd_T32 l0_1 x18_2).f2))).setCell ⟨gb679, 3, none⟩ (.string ((rd_T32 l0_1 x18_2).f3))).setCell ⟨gb679, 4, none⟩ (.slice A678_4 ((rd_T32 l0_1 x18_2).f4).length c678_4)).setCell ⟨gb679, 5, none⟩ (.slice A678_5 ((rd_T32 l0_1 x18_2).f5).length c678_5)).setCell ⟨gb679, 6, none⟩ (.slice A678_6 ((rd_T32 l0_1 x18_2).f6).length c678_6)).heap[gb676]? = some (.cells #[.int .i64 a0_0, .slice (some ad678) l0_1.length c0_1] 46 (0, 0))) := ⟨by refine bp ?_; refine blk_far ?_ NB676_679.out _; refine bp ?_; refine blk_far ?_ NB676_679.out _; refine bp ?_; refine blk_far ?_ NB676_679.out _; refine bp ?_; refine blk_far ?_ NB676_679.out _; refine bp ?_; refine blk_far ?_ NB676_679.out _; refine bp ?_; refine blk_far ?_ NB676_679.out _; refine bp ?_; refine blk_far ?_ NB676_679.out _; refine bp ?_; exact BK676.out⟩
              have n1_ : Aside0 ((((((((w14.setCell ⟨gb679, 0, none⟩ (.string ((rd_T32 l0_1 x18_2).f0))).setCell ⟨gb679, 1, none⟩ (.int .i64 ((rd_T32 l0_1 x18_2).f1))).setCell ⟨gb679, 2, none⟩ (.int .i64 ((rd_T32 l0_1 x18_2).f2))).setCell ⟨gb679, 3, none⟩ (.string ((rd_T32 l0_1 x18_2).f3))).setCell ⟨gb679, 4, none⟩ (.slice A678_4 ((rd_T32 l0_1 x18_2).f4).length c678_4)).setCell ⟨gb679, 5, none⟩ (.slice A678_5 ((rd_T32 l0_1 x18_2).f5).length c678_5)).setCell ⟨gb679, 6, none⟩ (.slice A678_6 ((rd_T32 l0_1 x18_2).f6).length c678_6)).heap[gb679]? = some (.cells #[.string ((rd_T32 l0_1 x18_2).f0), .int .i64 ((rd_T32 l0_1 x18_2).f1), .int .i64 ((rd_T32 l0_1 x18_2).f2), .string ((rd_T32 l0_1 x18_2).f3), .slice A678_4 ((rd_T32 l0_1 x18_2).f4).length c678_4, .slice A678_5 ((rd_T32 l0_1 x18_2).f5).length c678_5, .slice A678_6 ((rd_T32 l0_1 x18_2).f6).length c678_6] 32 (0, 0))) := ⟨(blk_set (blk_set (blk_set (blk_set (blk_set (blk_set (blk_set BK679.out 0 _) 1 _) 2 _) 3 _) 4 _) 5 _) 6 _)⟩
              have n2_ : Aside0 (Below w.heap.size w (((((((w14.setCell ⟨gb679, 0, none⟩ (.string ((rd_T32 l0_1 x18_2).f0))).setCell ⟨gb679, 1, none⟩ (.int .i64 ((rd_T32 l0_1 x18_2).f1))).setCell ⟨gb679, 2, none⟩ (.int .i64 ((rd_T32 l0_1 x18_2).f2))).setCell ⟨gb679, 3, none⟩ (.string ((rd_T32 l0_1 x18_2).f3))).setCell ⟨gb679, 4, none⟩ (.slice A678_4 ((rd_T32 l0_1 x18_2).f4).length c678_4)).setCell ⟨gb679, 5, none⟩ (.slice A678_5 ((rd_T32 l0_1 x18_2).f5).length c678_5)).setCell ⟨gb679, 6, none⟩ (.slice A678_6 ((rd_T32 l0_1 x18_2).f6).length c678_6))) := ⟨by exact b2 HB GE676 GE679⟩
              (try clear BK676)
              (try clear BK679)
              (try clear HB)
              generalize (((((((w14.setCell ⟨gb679, 0, none⟩ (.string ((rd_T32 l0_1 x18_2).f0))).setCell ⟨gb679, 1, none⟩ (.int .i64 ((rd_T32 l0_1 x18_2).f1))).setCell ⟨gb679, 2, none⟩ (.int .i64 ((rd_T32 l0_1 x18_2).f2))).setCell ⟨gb679, 3, none⟩ (.string ((rd_T32 l0_1 x18_2).f3))).setCell ⟨gb679, 4, none⟩ (.slice A678_4 ((rd_T32 l0_1 x18_2).f4).length c678_4)).setCell ⟨gb679, 5, none⟩ (.slice A678_5 ((rd_T32 l0_1 x18_2).f5).length c678_5)).setCell ⟨gb679, 6, none⟩ (.slice A678_6 ((rd_T32 l0_1 x18_2).f6).length c678_6)) = w25 at n0_ n1_ n2_ ⊢
              have BK676 := n0_; have BK679 := n1_; have HB := n2_; clear n0_ n1_ n2_
              have n0_ := zq9 (blk_drew BK676.out)
              have n1_ := zq9 (blk_drew BK679.out)
              have n2_ := zq9 (zq4 HB.out)
              clear BK676; clear BK679; clear HB; have BK676 := n0_; have BK679 := n1_; have HB := n2_; clear n0_ n1_ n2_
              have p681 : 0 ≤ ((ji20) : Int) := of_decide_eq_true ‹_›
              have q681 : (ji20) < (l0_1.length : Int) := of_decide_eq_true ‹_›
              obtain ⟨ad681, A681_4, c681_4, A681_5, c681_5, A681_6, c681_6, e681, hx681_0, hx681_1, hx681_2, hx681_3, hx681_4, hx681_5, hx681_6, hl681_4, hi681_4, hl681_5, hi681_5, hl681_6, hi681_6⟩ := at_T32 HR0_1.out (ji20) p681 q681
              have hw681_6 := hx681_6; have hw681_5 := hx681_5; have hw681_4 := hx681_4; have hw681_3 := hx681_3; have hw681_2 := hx681_2; have hw681_1 := hx681_1; have hw681_0 := hx681_0
              obtain rfl : ad678 = ad681 := (by injection e681)
              replace hx681_0 := hcl HB hx681_0; replace hx681_1 := hcl HB hx681_1; replace hx681_2 := hcl HB hx681_2; replace hx681_3 := hcl HB hx681_3; replace hx681_4 := hcl HB hx681_4; replace hx681_5 := hcl HB hx681_5; replace hx681_6 := hcl HB hx681_6; have HR681_4 := zq9 hi681_4; have HC681_4 := zq9 hl681_4; clear hi681_4 hl681_4; have HR681_5 := zq9 hi681_5; have HC681_5 := zq9 hl681_5; clear hi681_5 hl681_5
              have HR681_6 := zq9 hi681_6; have HC681_6 := zq9 hl681_6; clear hi681_6 hl681_6; replace p681 := eq_true p681; replace q681 := eq_true q681
              refine start_ (n := 31) (S := fun w' => w'.cell? ⟨gb679, 0, none⟩ = some (.string ((rd_T32 l0_1 x18_2).f0)) ∧ w'.cell? ⟨gb679, 1, none⟩ = some (.int .i64 ((rd_T32 l0_1 x18_2).f1)) ∧ w'.cell? ⟨gb679, 2, none⟩ = some (.int .i64 ((rd_T32 l0_1 x18_2).f2)) ∧ w'.cell? ⟨gb679, 3, none⟩ = some (.string ((rd_T32 l0_1 x18_2).f3)) ∧ w'.cell? ⟨gb679, 4, none⟩ = some (.slice A678_4 ((rd_T32 l0_1 x18_2).f4).length c678_4) ∧ w'.cell? ⟨gb679, 5, none⟩ = some (.slice A678_5 ((rd_T32 l0_1 x18_2).f5).length c678_5) ∧ w'.cell? ⟨gb679, 6, none⟩ = some (.slice A678_6 ((rd_T32 l0_1 x18_2).f6).length c678_6) ∧ w'.cell? ⟨gb676, 0, none⟩ = some (.int .i64 a0_0) ∧ w'.cell? ⟨gb676, 1, none⟩ = some (.slice (some ad678) l0_1.length c0_1) ∧ w'.cell? (ad678.add (((ji20)).toNat * 7)) = some (.string ((rd_T32 l0_1 (ji20)).f0)) ∧ w'.cell? ⟨(ad678.add (((ji20)).toNat * 7)).block, (ad678.add (((ji20)).toNat * 7)).off + 1, none⟩ = some (.int .i64 ((rd_T32 l0_1 (ji20)).f1)) ∧ w'.cell? ⟨(ad678.add (((ji20)).toNat * 7)).block, (ad678.add (((ji20)).toNat * 7)).off + 2, none⟩ = some (.int .i64 ((rd_T32 l0_1 (ji20)).f2)) ∧ w'.cell? ⟨(ad678.add (((ji20)).toNat * 7)).block, (ad678.add (((ji20)).toNat * 7)).off + 3, none⟩ = some (.string ((rd_T32 l0_1 (ji20)).f3)) ∧ w'.cell? ⟨(ad678.add (((ji20)).toNat * 7)).block, (ad678.add (((ji20)).toNat * 7)).off + 4, none⟩ = some (.slice A681_4 ((rd_T32 l0_1 (ji20)).f4).length c681_4) ∧ w'.cell? ⟨(ad678.add (((ji20)).toNat * 7)).block, (ad678.add (((ji20)).toNat * 7)).off + 5, none⟩ = some (.slice A681_5 ((rd_T32 l0_1 (ji20)).f5).length c681_5) ∧ w'.cell? ⟨(ad678.add (((ji20)).toNat * 7)).block, (ad678.add (((ji20)).toNat * 7)).off + 6, none⟩ = some (.slice A681_6 ((rd_T32 l0_1 (ji20)).f6).length c681_6)) (ds := []) #[false, false, false, false, false, false, false, false, false, false, false, false, false, false, false, false, false, false, false, false, false, false, false, false, false, false, false, false, false, false, false] (by kernel_rfl) rfl rfl ⟨bc BK679 0, bc BK679 1, bc BK679 2, bc BK679 3, bc BK679 4, bc BK679 5, bc BK679 6, bc BK676 0, bc BK676 1, (hcm HB hw681_0), (hcm HB hw681_1), (hcm HB hw681_2), (hcm HB hw681_3), (hcm HB hw681_4), (hcm HB hw681_5), (hcm HB hw681_6)⟩ (fun hHeld => ?_); refine with_tabW impl_BaseOk.tab6 impl_BaseOk.bits6 (fun HT_ HW_ => ?_)
              generalize w25.drew = w26 at BK676 BK679 HB HR681_4 HR681_5 HR681_6 hx681_0 hx681_1 hx681_2 hx681_3 hx681_4 hx681_5 hx681_6 hHeld ⊢
              refine take_ (i := 0) (N := some 23) (v := ?_) (a' := ?_) (zb 31 1) rfl rfl (take_ofW HT_.out HW_.out (by kernel_rfl)) (fun _ _ _ h => h) (Or.inl ⟨by rfl, ?_⟩) hHeld ?_ ?_
              rotate_left; ·rintro w' ⟨s0, s1, s2, s3, s4, s5, s6, s7, s8, s9, s10, s11, s12, s13, s14, s15⟩; go_simp; with_reducible rfl
              rotate_left; ·simp only [Act.put, zq0, zq1, zq2, i64_w, i32_w]; rfl
              refine one_ (i := 1) (N := some 24) (zb 31 3) rfl rfl (one_of HT_.out (by kernel_rfl)) (by decide) (fun K hK => ?_)
              refine gs Try.func13 #[.agg #[.string ((rd_T32 l0_1 x18_2).f0), .int .i64 ((rd_T32 l0_1 x18_2).f1), .int .i64 ((rd_T32 l0_1 x18_2).f2), .string ((rd_T32 l0_1 x18_2).f3), .slice A678_4 ((rd_T32 l0_1 x18_2).f4).length c678_4, .slice A678_5 ((rd_T32 l0_1 x18_2).f5).length c678_5, .slice A678_6 ((rd_T32 l0_1 x18_2).f6).length c678_6]] ?_
              with_reducible refine (impl_EntryOk.calls k2 ((rd_T32 l0_1 x18_2).f0) ((rd_T32 l0_1 x18_2).f1) ((rd_T32 l0_1 x18_2).f2) ((rd_T32 l0_1 x18_2).f3) _ _ ((rd_T32 l0_1 x18_2).f4) _ _ ((rd_T32 l0_1 x18_2).f5) _ _ ((rd_T32 l0_1 x18_2).f6) true _ ?side1 ?side2 ?side3 ?side4 ?side5 ?side6 A17.out).mono ?_
              (case side1 => exact kc HR678_4 HB)
              (case side2 => exact HC678_4.out)
              (case side3 => exact kc HR678_5 HB)
              (case side4 => exact HC678_5.out)
              (case side5 => exact kc HR678_6 HB)
              (case side6 => exact HC678_6.out)
              rintro e w27 ⟨rfl, hb⟩
              refine ⟨_, rfl, ?_⟩
              have n0_ := zq9 (zq30 (g := gb676) (o := .cells #[.int .i64 a0_0, .slice (some ad678) l0_1.length c0_1] 46 (0, 0)) (by exact bk BK676) hb)
              have n1_ := zq9 (zq30 (g := gb679) (o := .cells #[.string ((rd_T32 l0_1 x18_2).f0), .int .i64 ((rd_T32 l0_1 x18_2).f1), .int .i64 ((rd_T32 l0_1 x18_2).f2), .string ((rd_T32 l0_1 x18_2).f3), .slice A678_4 ((rd_T32 l0_1 x18_2).f4).length c678_4, .slice A678_5 ((rd_T32 l0_1 x18_2).f5).length c678_5, .slice A678_6 ((rd_T32 l0_1 x18_2).f6).length c678_6] 32 (0, 0)) (by exact bk BK679) hb)
              have n2_ := zq9 (zq27 (by exact b2 HB GE676 GE679) hb)
              clear BK676; clear BK679; clear HB; have BK676 := n0_; have BK679 := n1_; have HB := n2_; clear n0_ n1_ n2_
              (try clear hb)
              (try clear hb2)
              (try clear hk)
              (try clear hi)
              refine hK.out _ _ ⟨bc BK679 0, bc BK679 1, bc BK679 2, bc BK679 3, bc BK679 4, bc BK679 5, bc BK679 6, bc BK676 0, bc BK676 1, (hcm HB hw681_0), (hcm HB hw681_1), (hcm HB hw681_2), (hcm HB hw681_3), (hcm HB hw681_4), (hcm HB hw681_5), (hcm HB hw681_6)⟩ (fun hHeld => ?_)
              clear hK K
              refine norm_ (a' := ?_) ?_ ?_
              rotate_left; ·show Act.put _ (some 24) _ = _; simp only [Act.put, zq0, zq1, zq2, i64_w, i32_w]; rfl
              refine pa HT_ 2 25 (zb 31 7) ?_; refine pa HT_ 3 26 (zb 31 15) ?_; refine pa HT_ 4 27 (zb 31 31) ?_; refine pa HT_ 5 28 (zb 31 63) ?_; refine pa HT_ 6 29 (zb 31 127) ?_; refine pa HT_ 7 30 (zb 31 255) ?_; refine pa HT_ 9 32 (zb 31 767) ?_; refine pa HT_ 10 33 (zb 31 1791) ?_; refine pa HT_ 14 37 (zb 31 18175) ?_
              refine take_ (i := 8) (N := some 31) (v := ?_) (a' := ?_) (zb 31 18431) rfl rfl (take_ofW HT_.out HW_.out (by kernel_rfl)) (fun _ _ _ h => h) (Or.inl ⟨by rfl, ?_⟩) hHeld ?_ ?_
              rotate_left; ·rintro w' ⟨s0, s1, s2, s3, s4, s5, s6, s7, s8, s9, s10, s11, s12, s13, s14, s15⟩; go_simp; with_reducible rfl
              rotate_left; ·simp only [Act.put, zq0, zq1, zq2, i64_w, i32_w]; rfl
              refine pa HT_ 11 34 (zb 31 20479) ?_; refine pa HT_ 12 35 (zb 31 24575) ?_
              refine take_ (i := 13) (N := some 36) (v := ?_) (a' := ?_) (zb 31 32767) rfl rfl (take_ofW HT_.out HW_.out (by kernel_rfl)) (fun _ _ _ h => h) (Or.inl ⟨by rfl, ?_⟩) hHeld ?_ ?_
              rotate_left; ·rintro w' ⟨s0, s1, s2, s3, s4, s5, s6, s7, s8, s9, s10, s11, s12, s13, s14, s15⟩; go_simp; with_reducible rfl
              rotate_left; ·simp only [Act.put, zq0, zq1, zq2, i64_w, i32_w]; rfl
              refine take_ (i := 15) (N := some 38) (v := ?_) (a' := ?_) (zb 31 65535) rfl rfl (take_ofW HT_.out HW_.out (by kernel_rfl)) (fun _ _ _ h => h) (Or.inl ⟨by rfl, ?_⟩) hHeld ?_ ?_
              rotate_left; ·rintro w' ⟨s0, s1, s2, s3, s4, s5, s6, s7, s8, s9, s10, s11, s12, s13, s14, s15⟩; go_simp; with_reducible rfl
              rotate_left; ·simp only [Act.put, zq0, zq1, zq2, i64_w, i32_w]; rfl
              refine pa HT_ 16 39 (zb 31 131071) ?_; refine pa HT_ 17 40 (zb 31 262143) ?_; refine pa HT_ 18 41 (zb 31 524287) ?_; refine pa HT_ 19 42 (zb 31 1048575) ?_
              by_cases c23 : ((Op.bytesLess (((rd_T32 l0_1 (ji20)).f0).toList) (((rd_T32 l0_1 x18_2).f0).toList)) = true)
              ·rw [if_pos c23] at H
               have c23b0 : (Op.bytesLess (((rd_T32 l0_1 (ji20)).f0).toList) (((rd_T32 l0_1 x18_2).f0).toList)) = true := c23
               clear c23
               (try rw [c23b0])
               refine pa HT_ 20 43 (zb 31 2097151) ?_
               refine take_ (i := 21) (N := some 44) (v := ?_) (a' := ?_) (zb 31 4194303) rfl rfl (take_ofW HT_.out HW_.out (by kernel_rfl)) (fun _ _ _ h => h) (Or.inl ⟨by rfl, ?_⟩) hHeld ?_ ?_
               rotate_left; ·rintro w' ⟨s0, s1, s2, s3, s4, s5, s6, s7, s8, s9, s10, s11, s12, s13, s14, s15⟩; go_simp; with_reducible rfl
               rotate_left; ·simp only [Act.put, zq0, zq1, zq2, i64_w, i32_w]; rfl
               refine pa HT_ 22 45 (zb 31 8388607) ?_; refine pa HT_ 23 46 (zb 31 16777215) ?_
               by_cases c24 : ((rd_T32 l0_1 x18_2).f1) = 0
               ·rw [if_pos c24] at H
                have c24b0 : (((rd_T32 l0_1 x18_2).f1) == 0) = true := beq_iff_eq.mpr c24
                have c24b1 : (((rd_T32 l0_1 x18_2).f1) != 0) = false := bne_eq_false_iff_eq.mpr c24
                clear c24; have H' := zq9 H; clear H
                (try rw [c24b0]); (try rw [c24b1])
                refine pb HT_ 24 47 (zb 31 33554431) ?_; refine pb HT_ 25 48 (zb 31 67108863) ?_; refine pb HT_ 26 49 (zb 31 134217727) ?_; refine pb HT_ 27 50 (zb 31 268435455) ?_; refine pb HT_ 28 51 (zb 31 536870911) ?_; refine pa HT_ 29 52 (zb 31 1073741823) ?_; refine pa HT_ 30 53 (zb 31 2147483647) ?_
                refine done_ (done_of HT_.out (by kernel_rfl)) ?_
                try go_wp2
                go_meet
                case rel => exact ⟨_, (false), (by first | rfl | (simp; done) | (simp [*]; done)), H', ⟨by have := HJ1.out; have := HK2.out; first | omega | exact Nat.le_refl _⟩, ⟨by refine bp ?_; exact BK676.out⟩, ⟨by refine bp ?_; exact BK679.out⟩, ⟨by exact b2 HB GE676 GE679⟩⟩
               ·rw [if_neg c24] at H
                have c24b0 : (((rd_T32 l0_1 x18_2).f1) == 0) = false := beq_eq_false_iff_ne.mpr c24
                have c24b1 : (((rd_T32 l0_1 x18_2).f1) != 0) = true := bne_iff_ne.mpr c24
                have H' := zq9 H; clear H
                (try rw [c24b0]); (try rw [c24b1])
                refine pa HT_ 24 47 (zb 31 33554431) ?_; refine pa HT_ 26 49 (zb 31 100663295) ?_
                refine take_ (i := 25) (N := some 48) (v := ?_) (a' := ?_) (zb 31 134217727) rfl rfl (take_ofW HT_.out HW_.out (by kernel_rfl)) (fun _ _ _ h => h) (Or.inl ⟨by rfl, ?_⟩) hHeld ?_ ?_
                rotate_left; ·rintro w' ⟨s0, s1, s2, s3, s4, s5, s6, s7, s8, s9, s10, s11, s12, s13, s14, s15⟩; go_simp; with_reducible rfl
                rotate_left; ·simp only [Act.put, zq0, zq1, zq2, i64_w, i32_w]; rfl
                refine take_ (i := 27) (N := some 50) (v := ?_) (a' := ?_) (zb 31 268435455) rfl rfl (take_ofW HT_.out HW_.out (by kernel_rfl)) (fun _ _ _ h => h) (Or.inl ⟨by rfl, ?_⟩) hHeld ?_ ?_
                rotate_left; ·rintro w' ⟨s0, s1, s2, s3, s4, s5, s6, s7, s8, s9, s10, s11, s12, s13, s14, s15⟩; go_simp; with_reducible rfl
                rotate_left; ·simp only [Act.put, zq0, zq1, zq2, i64_w, i32_w]; rfl
                refine pa HT_ 28 51 (zb 31 536870911) ?_; refine pa HT_ 29 52 (zb 31 1073741823) ?_; refine pa HT_ 30 53 (zb 31 2147483647) ?_
                refine done_ (done_of HT_.out (by kernel_rfl)) ?_
                try go_wp2
                go_meet
                case rel => exact ⟨_, (decide (((rd_T32 l0_1 x18_2).f1) ≤ a0_0)), (by first | rfl | (simp; done) | (simp [*]; done)), H', ⟨by have := HJ1.out; have := HK2.out; first | omega | exact Nat.le_refl _⟩, ⟨by refine bp ?_; exact BK676.out⟩, ⟨by refine bp ?_; exact BK679.out⟩, ⟨by exact b2 HB GE676 GE679⟩⟩
              ·rw [if_neg c23] at H
               have c23b0 : (Op.bytesLess (((rd_T32 l0_1 (ji20)).f0).toList) (((rd_T32 l0_1 x18_2).f0).toList)) = false := by simpa using c23
               clear c23; have H' := zq9 H; clear H
               (try rw [c23b0])
               refine pb HT_ 20 43 (zb 31 2097151) ?_; refine pb HT_ 21 44 (zb 31 4194303) ?_; refine pb HT_ 22 45 (zb 31 8388607) ?_; refine pb HT_ 23 46 (zb 31 16777215) ?_; refine pb HT_ 24 47 (zb 31 33554431) ?_; refine pb HT_ 25 48 (zb 31 67108863) ?_; refine pb HT_ 26 49 (zb 31 134217727) ?_; refine pb HT_ 27 50 (zb 31 268435455) ?_; refine pb HT_ 28 51 (zb 31 536870911) ?_; refine pb HT_ 29 52 (zb 31 1073741823) ?_
               refine pa HT_ 30 53 (zb 31 2147483647) ?_
               refine done_ (done_of HT_.out (by kernel_rfl)) ?_
               try go_wp2
               go_meet
               case rel => exact ⟨_, (true), (by first | rfl | (simp; done) | (simp [*]; done)), H', ⟨by have := HJ1.out; have := HK2.out; first | omega | exact Nat.le_refl _⟩, ⟨by refine bp ?_; exact BK676.out⟩, ⟨by refine bp ?_; exact BK679.out⟩, ⟨by exact b2 HB GE676 GE679⟩⟩
             ·rw [if_neg c22] at H
              exact absurd H (by simp)
            ·rw [if_neg c21] at H
             exact absurd H (by simp)
           ·rw [if_neg c19] at H; have c19b0 : decide (0 < x18_2) = false := decide_eq_false c19; clear c19
            (first | rw [c19b0] | (simp only [i64_w, i32_w]; rw [c19b0]) | skip)
            try go_wp2
            have n0_ : Aside0 ((((((((w14.setCell ⟨gb679, 0, none⟩ (.string ((rd_T32 l0_1 x18_2).f0))).setCell ⟨gb679, 1, none⟩ (.int .i64 ((rd_T32 l0_1 x18_2).f1))).setCell ⟨gb679, 2, none⟩ (.int .i64 ((rd_T32 l0_1 x18_2).f2))).setCell ⟨gb679, 3, none⟩ (.string ((rd_T32 l0_1 x18_2).f3))).setCell ⟨gb679, 4, none⟩ (.slice A678_4 ((rd_T32 l0_1 x18_2).f4).length c678_4)).setCell ⟨gb679, 5, none⟩ (.slice A678_5 ((rd_T32 l0_1 x18_2).f5).length c678_5)).setCell ⟨gb679, 6, none⟩ (.slice A678_6 ((rd_T32 l0_1 x18_2).f6).length c678_6)).heap[gb676]? = some (.cells #[.int .i64 a0_0, .slice (some ad678) l0_1.length c0_1] 46 (0, 0))) := ⟨by refine bp ?_; refine blk_far ?_ NB676_679.out _; refine bp ?_; refine blk_far ?_ NB676_679.out _; refine bp ?_; refine blk_far ?_ NB676_679.out _; refine bp ?_; refine blk_far ?_ NB676_679.out _; refine bp ?_; refine blk_far ?_ NB676_679.out _; refine bp ?_; refine blk_far ?_ NB676_679.out _; refine bp ?_; refine blk_far ?_ NB676_679.out _; refine bp ?_; exact BK676.out⟩
            have n1_ : Aside0 ((((((((w14.setCell ⟨gb679, 0, none⟩ (.string ((rd_T32 l0_1 x18_2).f0))).setCell ⟨gb679, 1, none⟩ (.int .i64 ((rd_T32 l0_1 x18_2).f1))).setCell ⟨gb679, 2, none⟩ (.int .i64 ((rd_T32 l0_1 x18_2).f2))).setCell ⟨gb679, 3, none⟩ (.string ((rd_T32 l0_1 x18_2).f3))).setCell ⟨gb679, 4, none⟩ (.slice A678_4 ((rd_T32 l0_1 x18_2).f4).length c678_4)).setCell ⟨gb679, 5, none⟩ (.slice A678_5 ((rd_T32 l0_1 x18_2).f5).length c678_5)).setCell ⟨gb679, 6, none⟩ (.slice A678_6 ((rd_T32 l0_1 x18_2).f6).length c678_6)).heap[gb679]? = some (.cells #[.string ((rd_T32 l0_1 x18_2).f0), .int .i64 ((rd_T32 l0_1 x18_2).f1), .int .i64 ((rd_T32 l0_1 x18_2).f2), .string ((rd_T32 l0_1 x18_2).f3), .slice A678_4 ((rd_T32 l0_1 x18_2).f4).length c678_4, .slice A678_5 ((rd_T32 l0_1 x18_2).f5).length c678_5, .slice A678_6 ((rd_T32 l0_1 x18_2).f6).length c678_6] 32 (0, 0))) := ⟨(blk_set (blk_set (blk_set (blk_set (blk_set (blk_set (blk_set BK679.out 0 _) 1 _) 2 _) 3 _) 4 _) 5 _) 6 _)⟩
            have n2_ : Aside0 (Below w.heap.size w (((((((w14.setCell ⟨gb679, 0, none⟩ (.string ((rd_T32 l0_1 x18_2).f0))).setCell ⟨gb679, 1, none⟩ (.int .i64 ((rd_T32 l0_1 x18_2).f1))).setCell ⟨gb679, 2, none⟩ (.int .i64 ((rd_T32 l0_1 x18_2).f2))).setCell ⟨gb679, 3, none⟩ (.string ((rd_T32 l0_1 x18_2).f3))).setCell ⟨gb679, 4, none⟩ (.slice A678_4 ((rd_T32 l0_1 x18_2).f4).length c678_4)).setCell ⟨gb679, 5, none⟩ (.slice A678_5 ((rd_T32 l0_1 x18_2).f5).length c678_5)).setCell ⟨gb679, 6, none⟩ (.slice A678_6 ((rd_T32 l0_1 x18_2).f6).length c678_6))) := ⟨by exact b2 HB GE676 GE679⟩
            (try clear BK676)
            (try clear BK679)
            (try clear HB)
            generalize (((((((w14.setCell ⟨gb679, 0, none⟩ (.string ((rd_T32 l0_1 x18_2).f0))).setCell ⟨gb679, 1, none⟩ (.int .i64 ((rd_T32 l0_1 x18_2).f1))).setCell ⟨gb679, 2, none⟩ (.int .i64 ((rd_T32 l0_1 x18_2).f2))).setCell ⟨gb679, 3, none⟩ (.string ((rd_T32 l0_1 x18_2).f3))).setCell ⟨gb679, 4, none⟩ (.slice A678_4 ((rd_T32 l0_1 x18_2).f4).length c678_4)).setCell ⟨gb679, 5, none⟩ (.slice A678_5 ((rd_T32 l0_1 x18_2).f5).length c678_5)).setCell ⟨gb679, 6, none⟩ (.slice A678_6 ((rd_T32 l0_1 x18_2).f6).length c678_6)) = w35 at n0_ n1_ n2_ ⊢
            have BK676 := n0_; have BK679 := n1_; have HB := n2_; clear n0_ n1_ n2_
            have n0_ := zq9 (blk_drew BK676.out)
            have n1_ := zq9 (blk_drew BK679.out)
            have n2_ := zq9 (zq4 HB.out)
            clear BK676; clear BK679; clear HB; have BK676 := n0_; have BK679 := n1_; have HB := n2_; clear n0_ n1_ n2_
            by_cases c34 : ((rd_T32 l0_1 x18_2).f1) = 0
            ·rw [if_pos c34] at H
             have c34b0 : (((rd_T32 l0_1 x18_2).f1) == 0) = true := beq_iff_eq.mpr c34
             have c34b1 : (((rd_T32 l0_1 x18_2).f1) != 0) = false := bne_eq_false_iff_eq.mpr c34
             clear c34; have H' := zq9 H; clear H
             refine start_ (n := 31) (S := fun w' => w'.cell? ⟨gb679, 0, none⟩ = some (.string ((rd_T32 l0_1 x18_2).f0)) ∧ w'.cell? ⟨gb679, 1, none⟩ = some (.int .i64 ((rd_T32 l0_1 x18_2).f1)) ∧ w'.cell? ⟨gb679, 2, none⟩ = some (.int .i64 ((rd_T32 l0_1 x18_2).f2)) ∧ w'.cell? ⟨gb679, 3, none⟩ = some (.string ((rd_T32 l0_1 x18_2).f3)) ∧ w'.cell? ⟨gb679, 4, none⟩ = some (.slice A678_4 ((rd_T32 l0_1 x18_2).f4).length c678_4) ∧ w'.cell? ⟨gb679, 5, none⟩ = some (.slice A678_5 ((rd_T32 l0_1 x18_2).f5).length c678_5) ∧ w'.cell? ⟨gb679, 6, none⟩ = some (.slice A678_6 ((rd_T32 l0_1 x18_2).f6).length c678_6)) (ds := []) #[false, false, false, false, false, false, false, false, false, false, false, false, false, false, false, false, false, false, false, false, false, false, false, false, false, false, false, false, false, false, false] (by kernel_rfl) rfl rfl ⟨bc BK679 0, bc BK679 1, bc BK679 2, bc BK679 3, bc BK679 4, bc BK679 5, bc BK679 6⟩ (fun hHeld => ?_); refine with_tabW impl_BaseOk.tab6 impl_BaseOk.bits6 (fun HT_ HW_ => ?_)
             generalize w35.drew = w36 at BK676 BK679 HB hHeld ⊢
             refine take_ (i := 0) (N := some 23) (v := ?_) (a' := ?_) (zb 31 1) rfl rfl (take_ofW HT_.out HW_.out (by kernel_rfl)) (fun _ _ _ h => h) (Or.inl ⟨by rfl, ?_⟩) hHeld ?_ ?_
             rotate_left; ·rintro w' ⟨s0, s1, s2, s3, s4, s5, s6⟩; go_simp; with_reducible rfl
             rotate_left; ·simp only [Act.put, zq0, zq1, zq2, i64_w, i32_w]; rfl
             refine one_ (i := 1) (N := some 24) (zb 31 3) rfl rfl (one_of HT_.out (by kernel_rfl)) (by decide) (fun K hK => ?_)
             refine gs Try.func13 #[.agg #[.string ((rd_T32 l0_1 x18_2).f0), .int .i64 ((rd_T32 l0_1 x18_2).f1), .int .i64 ((rd_T32 l0_1 x18_2).f2), .string ((rd_T32 l0_1 x18_2).f3), .slice A678_4 ((rd_T32 l0_1 x18_2).f4).length c678_4, .slice A678_5 ((rd_T32 l0_1 x18_2).f5).length c678_5, .slice A678_6 ((rd_T32 l0_1 x18_2).f6).length c678_6]] ?_
             with_reducible refine (impl_EntryOk.calls k2 ((rd_T32 l0_1 x18_2).f0) ((rd_T32 l0_1 x18_2).f1) ((rd_T32 l0_1 x18_2).f2) ((rd_T32 l0_1 x18_2).f3) _ _ ((rd_T32 l0_1 x18_2).f4) _ _ ((rd_T32 l0_1 x18_2).f5) _ _ ((rd_T32 l0_1 x18_2).f6) true _ ?side1 ?side2 ?side3 ?side4 ?side5 ?side6 A17.out).mono ?_
             (case side1 => exact kc HR678_4 HB)
             (case side2 => exact HC678_4.out)
             (case side3 => exact kc HR678_5 HB)
             (case side4 => exact HC678_5.out)
             (case side5 => exact kc HR678_6 HB)
             (case side6 => exact HC678_6.out)
             rintro e w37 ⟨rfl, hb⟩
             refine ⟨_, rfl, ?_⟩
             have n0_ := zq9 (zq30 (g := gb676) (o := .cells #[.int .i64 a0_0, .slice (some ad678) l0_1.length c0_1] 46 (0, 0)) (by exact bk BK676) hb)
             have n1_ := zq9 (zq30 (g := gb679) (o := .cells #[.string ((rd_T32 l0_1 x18_2).f0), .int .i64 ((rd_T32 l0_1 x18_2).f1), .int .i64 ((rd_T32 l0_1 x18_2).f2), .string ((rd_T32 l0_1 x18_2).f3), .slice A678_4 ((rd_T32 l0_1 x18_2).f4).length c678_4, .slice A678_5 ((rd_T32 l0_1 x18_2).f5).length c678_5, .slice A678_6 ((rd_T32 l0_1 x18_2).f6).length c678_6] 32 (0, 0)) (by exact bk BK679) hb)
             have n2_ := zq9 (zq27 (by exact b2 HB GE676 GE679) hb)
             clear BK676; clear BK679; clear HB; have BK676 := n0_; have BK679 := n1_; have HB := n2_; clear n0_ n1_ n2_
             (try clear hb)
             (try clear hb2)
             (try clear hk)
             (try clear hi)
             refine hK.out _ _ ⟨bc BK679 0, bc BK679 1, bc BK679 2, bc BK679 3, bc BK679 4, bc BK679 5, bc BK679 6⟩ (fun hHeld => ?_)
             clear hK K
             refine norm_ (a' := ?_) ?_ ?_
             rotate_left; ·show Act.put _ (some 24) _ = _; simp only [Act.put, zq0, zq1, zq2, i64_w, i32_w]; rfl
             refine pa HT_ 2 25 (zb 31 7) ?_; refine pa HT_ 3 26 (zb 31 15) ?_; refine pa HT_ 4 27 (zb 31 31) ?_; refine pa HT_ 5 28 (zb 31 63) ?_; refine pa HT_ 6 29 (zb 31 127) ?_; refine pb HT_ 7 30 (zb 31 255) ?_; refine pb HT_ 8 31 (zb 31 511) ?_; refine pb HT_ 9 32 (zb 31 1023) ?_; refine pb HT_ 10 33 (zb 31 2047) ?_; refine pb HT_ 11 34 (zb 31 4095) ?_; refine pb HT_ 12 35 (zb 31 8191) ?_; refine pb HT_ 13 36 (zb 31 16383) ?_
             refine pb HT_ 14 37 (zb 31 32767) ?_; refine pb HT_ 15 38 (zb 31 65535) ?_; refine pb HT_ 16 39 (zb 31 131071) ?_; refine pa HT_ 17 40 (zb 31 262143) ?_; refine pa HT_ 18 41 (zb 31 524287) ?_; refine pa HT_ 19 42 (zb 31 1048575) ?_; refine pa HT_ 20 43 (zb 31 2097151) ?_
             refine take_ (i := 21) (N := some 44) (v := ?_) (a' := ?_) (zb 31 4194303) rfl rfl (take_ofW HT_.out HW_.out (by kernel_rfl)) (fun _ _ _ h => h) (Or.inl ⟨by rfl, ?_⟩) hHeld ?_ ?_
             rotate_left; ·rintro w' ⟨s0, s1, s2, s3, s4, s5, s6⟩; go_simp; with_reducible rfl
             rotate_left; ·simp only [Act.put, zq0, zq1, zq2, i64_w, i32_w]; rfl
             refine pa HT_ 22 45 (zb 31 8388607) ?_; refine pa HT_ 23 46 (zb 31 16777215) ?_; refine pb HT_ 24 47 (zb 31 33554431) ?_; refine pb HT_ 25 48 (zb 31 67108863) ?_; refine pb HT_ 26 49 (zb 31 134217727) ?_; refine pb HT_ 27 50 (zb 31 268435455) ?_; refine pb HT_ 28 51 (zb 31 536870911) ?_; refine pa HT_ 29 52 (zb 31 1073741823) ?_; refine pa HT_ 30 53 (zb 31 2147483647) ?_
             refine done_ (done_of HT_.out (by kernel_rfl)) ?_
             try go_wp2
             go_meet
             case rel => exact ⟨_, (false), (by first | rfl | (simp; done) | (simp [*]; done)), H', ⟨by have := HJ1.out; have := HK2.out; first | omega | exact Nat.le_refl _⟩, ⟨by refine bp ?_; exact BK676.out⟩, ⟨by refine bp ?_; exact BK679.out⟩, ⟨by exact b2 HB GE676 GE679⟩⟩
            ·rw [if_neg c34] at H
             have c34b0 : (((rd_T32 l0_1 x18_2).f1) == 0) = false := beq_eq_false_iff_ne.mpr c34
             have c34b1 : (((rd_T32 l0_1 x18_2).f1) != 0) = true := bne_iff_ne.mpr c34
             have H' := zq9 H; clear H
             refine start_ (n := 31) (S := fun w' => w'.cell? ⟨gb679, 0, none⟩ = some (.string ((rd_T32 l0_1 x18_2).f0)) ∧ w'.cell? ⟨gb679, 1, none⟩ = some (.int .i64 ((rd_T32 l0_1 x18_2).f1)) ∧ w'.cell? ⟨gb679, 2, none⟩ = some (.int .i64 ((rd_T32 l0_1 x18_2).f2)) ∧ w'.cell? ⟨gb679, 3, none⟩ = some (.string ((rd_T32 l0_1 x18_2).f3)) ∧ w'.cell? ⟨gb679, 4, none⟩ = some (.slice A678_4 ((rd_T32 l0_1 x18_2).f4).length c678_4) ∧ w'.cell? ⟨gb679, 5, none⟩ = some (.slice A678_5 ((rd_T32 l0_1 x18_2).f5).length c678_5) ∧ w'.cell? ⟨gb679, 6, none⟩ = some (.slice A678_6 ((rd_T32 l0_1 x18_2).f6).length c678_6) ∧ w'.cell? ⟨gb676, 0, none⟩ = some (.int .i64 a0_0) ∧ w'.cell? ⟨gb676, 1, none⟩ = some (.slice (some ad678) l0_1.length c0_1)) (ds := []) #[false, false, false, false, false, false, false, false, false, false, false, false, false, false, false, false, false, false, false, false, false, false, false, false, false, false, false, false, false, false, false] (by kernel_rfl) rfl rfl ⟨bc BK679 0, bc BK679 1, bc BK679 2, bc BK679 3, bc BK679 4, bc BK679 5, bc BK679 6, bc BK676 0, bc BK676 1⟩ (fun hHeld => ?_); refine with_tabW impl_BaseOk.tab6 impl_BaseOk.bits6 (fun HT_ HW_ => ?_)
             generalize w35.drew = w39 at BK676 BK679 HB hHeld ⊢
             refine take_ (i := 0) (N := some 23) (v := ?_) (a' := ?_) (zb 31 1) rfl rfl (take_ofW HT_.out HW_.out (by kernel_rfl)) (fun _ _ _ h => h) (Or.inl ⟨by rfl, ?_⟩) hHeld ?_ ?_
             rotate_left; ·rintro w' ⟨s0, s1, s2, s3, s4, s5, s6, s7, s8⟩; go_simp; with_reducible rfl
             rotate_left; ·simp only [Act.put, zq0, zq1, zq2, i64_w, i32_w]; rfl
             refine one_ (i := 1) (N := some 24) (zb 31 3) rfl rfl (one_of HT_.out (by kernel_rfl)) (by decide) (fun K hK => ?_)
             refine gs Try.func13 #[.agg #[.string ((rd_T32 l0_1 x18_2).f0), .int .i64 ((rd_T32 l0_1 x18_2).f1), .int .i64 ((rd_T32 l0_1 x18_2).f2), .string ((rd_T32 l0_1 x18_2).f3), .slice A678_4 ((rd_T32 l0_1 x18_2).f4).length c678_4, .slice A678_5 ((rd_T32 l0_1 x18_2).f5).length c678_5, .slice A678_6 ((rd_T32 l0_1 x18_2).f6).length c678_6]] ?_
             with_reducible refine (impl_EntryOk.calls k2 ((rd_T32 l0_1 x18_2).f0) ((rd_T32 l0_1 x18_2).f1) ((rd_T32 l0_1 x18_2).f2) ((rd_T32 l0_1 x18_2).f3) _ _ ((rd_T32 l0_1 x18_2).f4) _ _ ((rd_T32 l0_1 x18_2).f5) _ _ ((rd_T32 l0_1 x18_2).f6) true _ ?side1 ?side2 ?side3 ?side4 ?side5 ?side6 A17.out).mono ?_
             (case side1 => exact kc HR678_4 HB)
             (case side2 => exact HC678_4.out)
             (case side3 => exact kc HR678_5 HB)
             (case side4 => exact HC678_5.out)
             (case side5 => exact kc HR678_6 HB)
             (case side6 => exact HC678_6.out)
             rintro e w40 ⟨rfl, hb⟩
             refine ⟨_, rfl, ?_⟩
             have n0_ := zq9 (zq30 (g := gb676) (o := .cells #[.int .i64 a0_0, .slice (some ad678) l0_1.length c0_1] 46 (0, 0)) (by exact bk BK676) hb)
             have n1_ := zq9 (zq30 (g := gb679) (o := .cells #[.string ((rd_T32 l0_1 x18_2).f0), .int .i64 ((rd_T32 l0_1 x18_2).f1), .int .i64 ((rd_T32 l0_1 x18_2).f2), .string ((rd_T32 l0_1 x18_2).f3), .slice A678_4 ((rd_T32 l0_1 x18_2).f4).length c678_4, .slice A678_5 ((rd_T32 l0_1 x18_2).f5).length c678_5, .slice A678_6 ((rd_T32 l0_1 x18_2).f6).length c678_6] 32 (0, 0)) (by exact bk BK679) hb)
             have n2_ := zq9 (zq27 (by exact b2 HB GE676 GE679) hb)
             clear BK676; clear BK679; clear HB; have BK676 := n0_; have BK679 := n1_; have HB := n2_; clear n0_ n1_ n2_
             (try clear hb)
             (try clear hb2)
             (try clear hk)
             (try clear hi)
             refine hK.out _ _ ⟨bc BK679 0, bc BK679 1, bc BK679 2, bc BK679 3, bc BK679 4, bc BK679 5, bc BK679 6, bc BK676 0, bc BK676 1⟩ (fun hHeld => ?_)
             clear hK K
             refine norm_ (a' := ?_) ?_ ?_
             rotate_left; ·show Act.put _ (some 24) _ = _; simp only [Act.put, zq0, zq1, zq2, i64_w, i32_w]; rfl
             refine pa HT_ 2 25 (zb 31 7) ?_; refine pa HT_ 3 26 (zb 31 15) ?_; refine pa HT_ 4 27 (zb 31 31) ?_; refine pa HT_ 5 28 (zb 31 63) ?_; refine pa HT_ 6 29 (zb 31 127) ?_; refine pb HT_ 7 30 (zb 31 255) ?_; refine pb HT_ 8 31 (zb 31 511) ?_; refine pb HT_ 9 32 (zb 31 1023) ?_; refine pb HT_ 10 33 (zb 31 2047) ?_; refine pb HT_ 11 34 (zb 31 4095) ?_; refine pb HT_ 12 35 (zb 31 8191) ?_; refine pb HT_ 13 36 (zb 31 16383) ?_
             refine pb HT_ 14 37 (zb 31 32767) ?_; refine pb HT_ 15 38 (zb 31 65535) ?_; refine pb HT_ 16 39 (zb 31 131071) ?_; refine pa HT_ 17 40 (zb 31 262143) ?_; refine pa HT_ 18 41 (zb 31 524287) ?_; refine pa HT_ 19 42 (zb 31 1048575) ?_; refine pa HT_ 20 43 (zb 31 2097151) ?_
             refine take_ (i := 21) (N := some 44) (v := ?_) (a' := ?_) (zb 31 4194303) rfl rfl (take_ofW HT_.out HW_.out (by kernel_rfl)) (fun _ _ _ h => h) (Or.inl ⟨by rfl, ?_⟩) hHeld ?_ ?_
             rotate_left; ·rintro w' ⟨s0, s1, s2, s3, s4, s5, s6, s7, s8⟩; go_simp; with_reducible rfl
             rotate_left; ·simp only [Act.put, zq0, zq1, zq2, i64_w, i32_w]; rfl
             refine pa HT_ 22 45 (zb 31 8388607) ?_; refine pa HT_ 23 46 (zb 31 16777215) ?_; refine pa HT_ 24 47 (zb 31 33554431) ?_; refine pa HT_ 26 49 (zb 31 100663295) ?_
             refine take_ (i := 25) (N := some 48) (v := ?_) (a' := ?_) (zb 31 134217727) rfl rfl (take_ofW HT_.out HW_.out (by kernel_rfl)) (fun _ _ _ h => h) (Or.inl ⟨by rfl, ?_⟩) hHeld ?_ ?_
             rotate_left; ·rintro w' ⟨s0, s1, s2, s3, s4, s5, s6, s7, s8⟩; go_simp; with_reducible rfl
             rotate_left; ·simp only [Act.put, zq0, zq1, zq2, i64_w, i32_w]; rfl
             refine take_ (i := 27) (N := some 50) (v := ?_) (a' := ?_) (zb 31 268435455) rfl rfl (take_ofW HT_.out HW_.out (by kernel_rfl)) (fun _ _ _ h => h) (Or.inl ⟨by rfl, ?_⟩) hHeld ?_ ?_
             rotate_left; ·rintro w' ⟨s0, s1, s2, s3, s4, s5, s6, s7, s8⟩; go_simp; with_reducible rfl
             rotate_left; ·simp only [Act.put, zq0, zq1, zq2, i64_w, i32_w]; rfl
             refine pa HT_ 28 51 (zb 31 536870911) ?_; refine pa HT_ 29 52 (zb 31 1073741823) ?_; refine pa HT_ 30 53 (zb 31 2147483647) ?_
             refine done_ (done_of HT_.out (by kernel_rfl)) ?_
             try go_wp2
             go_meet
             case rel => exact ⟨_, (decide (((rd_T32 l0_1 x18_2).f1) ≤ a0_0)), (by first | rfl | (simp; done) | (simp [*]; done)), H', ⟨by have := HJ1.out; have := HK2.out; first | omega | exact Nat.le_refl _⟩, ⟨by refine bp ?_; exact BK676.out⟩, ⟨by refine bp ?_; exact BK679.out⟩, ⟨by exact b2 HB GE676 GE679⟩⟩
          ·replace c18 := Bool.eq_false_iff.mpr c18
           subst c18
           have H1 : (impl_BaseOk.j2 k2 l0_1 (l0_1.length : Int) x18_2 true a0_0 l0_1) = some r := by rw [if_neg (show ¬ (false = true) by decide)] at H; exact H
           clear H; have H := H1; clear H1; have H' := zq9 H; clear H
           try go_wp2
           have n0_ : Aside0 ((((((((w14.setCell ⟨gb679, 0, none⟩ (.string ((rd_T32 l0_1 x18_2).f0))).setCell ⟨gb679, 1, none⟩ (.int .i64 ((rd_T32 l0_1 x18_2).f1))).setCell ⟨gb679, 2, none⟩ (.int .i64 ((rd_T32 l0_1 x18_2).f2))).setCell ⟨gb679, 3, none⟩ (.string ((rd_T32 l0_1 x18_2).f3))).setCell ⟨gb679, 4, none⟩ (.slice A678_4 ((rd_T32 l0_1 x18_2).f4).length c678_4)).setCell ⟨gb679, 5, none⟩ (.slice A678_5 ((rd_T32 l0_1 x18_2).f5).length c678_5)).setCell ⟨gb679, 6, none⟩ (.slice A678_6 ((rd_T32 l0_1 x18_2).f6).length c678_6)).heap[gb676]? = some (.cells #[.int .i64 a0_0, .slice (some ad678) l0_1.length c0_1] 46 (0, 0))) := ⟨by refine bp ?_; refine blk_far ?_ NB676_679.out _; refine bp ?_; refine blk_far ?_ NB676_679.out _; refine bp ?_; refine blk_far ?_ NB676_679.out _; refine bp ?_; refine blk_far ?_ NB676_679.out _; refine bp ?_; refine blk_far ?_ NB676_679.out _; refine bp ?_; refine blk_far ?_ NB676_679.out _; refine bp ?_; refine blk_far ?_ NB676_679.out _; refine bp ?_; exact BK676.out⟩
           have n1_ : Aside0 ((((((((w14.setCell ⟨gb679, 0, none⟩ (.string ((rd_T32 l0_1 x18_2).f0))).setCell ⟨gb679, 1, none⟩ (.int .i64 ((rd_T32 l0_1 x18_2).f1))).setCell ⟨gb679, 2, none⟩ (.int .i64 ((rd_T32 l0_1 x18_2).f2))).setCell ⟨gb679, 3, none⟩ (.string ((rd_T32 l0_1 x18_2).f3))).setCell ⟨gb679, 4, none⟩ (.slice A678_4 ((rd_T32 l0_1 x18_2).f4).length c678_4)).setCell ⟨gb679, 5, none⟩ (.slice A678_5 ((rd_T32 l0_1 x18_2).f5).length c678_5)).setCell ⟨gb679, 6, none⟩ (.slice A678_6 ((rd_T32 l0_1 x18_2).f6).length c678_6)).heap[gb679]? = some (.cells #[.string ((rd_T32 l0_1 x18_2).f0), .int .i64 ((rd_T32 l0_1 x18_2).f1), .int .i64 ((rd_T32 l0_1 x18_2).f2), .string ((rd_T32 l0_1 x18_2).f3), .slice A678_4 ((rd_T32 l0_1 x18_2).f4).length c678_4, .slice A678_5 ((rd_T32 l0_1 x18_2).f5).length c678_5, .slice A678_6 ((rd_T32 l0_1 x18_2).f6).length c678_6] 32 (0, 0))) := ⟨(blk_set (blk_set (blk_set (blk_set (blk_set (blk_set (blk_set BK679.out 0 _) 1 _) 2 _) 3 _) 4 _) 5 _) 6 _)⟩
           have n2_ : Aside0 (Below w.heap.size w (((((((w14.setCell ⟨gb679, 0, none⟩ (.string ((rd_T32 l0_1 x18_2).f0))).setCell ⟨gb679, 1, none⟩ (.int .i64 ((rd_T32 l0_1 x18_2).f1))).setCell ⟨gb679, 2, none⟩ (.int .i64 ((rd_T32 l0_1 x18_2).f2))).setCell ⟨gb679, 3, none⟩ (.string ((rd_T32 l0_1 x18_2).f3))).setCell ⟨gb679, 4, none⟩ (.slice A678_4 ((rd_T32 l0_1 x18_2).f4).length c678_4)).setCell ⟨gb679, 5, none⟩ (.slice A678_5 ((rd_T32 l0_1 x18_2).f5).length c678_5)).setCell ⟨gb679, 6, none⟩ (.slice A678_6 ((rd_T32 l0_1 x18_2).f6).length c678_6))) := ⟨by exact b2 HB GE676 GE679⟩
           (try clear BK676)
           (try clear BK679)
           (try clear HB)
           generalize (((((((w14.setCell ⟨gb679, 0, none⟩ (.string ((rd_T32 l0_1 x18_2).f0))).setCell ⟨gb679, 1, none⟩ (.int .i64 ((rd_T32 l0_1 x18_2).f1))).setCell ⟨gb679, 2, none⟩ (.int .i64 ((rd_T32 l0_1 x18_2).f2))).setCell ⟨gb679, 3, none⟩ (.string ((rd_T32 l0_1 x18_2).f3))).setCell ⟨gb679, 4, none⟩ (.slice A678_4 ((rd_T32 l0_1 x18_2).f4).length c678_4)).setCell ⟨gb679, 5, none⟩ (.slice A678_5 ((rd_T32 l0_1 x18_2).f5).length c678_5)).setCell ⟨gb679, 6, none⟩ (.slice A678_6 ((rd_T32 l0_1 x18_2).f6).length c678_6)) = w41 at n0_ n1_ n2_ ⊢
           have BK676 := n0_; have BK679 := n1_; have HB := n2_; clear n0_ n1_ n2_
           have n0_ := zq9 (blk_drew BK676.out)
           have n1_ := zq9 (blk_drew BK679.out)
           have n2_ := zq9 (zq4 HB.out)
           clear BK676; clear BK679; clear HB; have BK676 := n0_; have BK679 := n1_; have HB := n2_; clear n0_ n1_ n2_
           refine start_ (n := 31) (S := fun w' => w'.cell? ⟨gb679, 0, none⟩ = some (.string ((rd_T32 l0_1 x18_2).f0)) ∧ w'.cell? ⟨gb679, 1, none⟩ = some (.int .i64 ((rd_T32 l0_1 x18_2).f1)) ∧ w'.cell? ⟨gb679, 2, none⟩ = some (.int .i64 ((rd_T32 l0_1 x18_2).f2)) ∧ w'.cell? ⟨gb679, 3, none⟩ = some (.string ((rd_T32 l0_1 x18_2).f3)) ∧ w'.cell? ⟨gb679, 4, none⟩ = some (.slice A678_4 ((rd_T32 l0_1 x18_2).f4).length c678_4) ∧ w'.cell? ⟨gb679, 5, none⟩ = some (.slice A678_5 ((rd_T32 l0_1 x18_2).f5).length c678_5) ∧ w'.cell? ⟨gb679, 6, none⟩ = some (.slice A678_6 ((rd_T32 l0_1 x18_2).f6).length c678_6)) (ds := []) #[false, false, false, false, false, false, false, false, false, false, false, false, false, false, false, false, false, false, false, false, false, false, false, false, false, false, false, false, false, false, false] (by kernel_rfl) rfl rfl ⟨bc BK679 0, bc BK679 1, bc BK679 2, bc BK679 3, bc BK679 4, bc BK679 5, bc BK679 6⟩ (fun hHeld => ?_); refine with_tabW impl_BaseOk.tab6 impl_BaseOk.bits6 (fun HT_ HW_ => ?_)
           generalize w41.drew = w42 at BK676 BK679 HB hHeld ⊢
           refine take_ (i := 0) (N := some 23) (v := ?_) (a' := ?_) (zb 31 1) rfl rfl (take_ofW HT_.out HW_.out (by kernel_rfl)) (fun _ _ _ h => h) (Or.inl ⟨by rfl, ?_⟩) hHeld ?_ ?_
           rotate_left; ·rintro w' ⟨s0, s1, s2, s3, s4, s5, s6⟩; go_simp; with_reducible rfl
           rotate_left; ·simp only [Act.put, zq0, zq1, zq2, i64_w, i32_w]; rfl
           refine one_ (i := 1) (N := some 24) (zb 31 3) rfl rfl (one_of HT_.out (by kernel_rfl)) (by decide) (fun K hK => ?_)
           refine gs Try.func13 #[.agg #[.string ((rd_T32 l0_1 x18_2).f0), .int .i64 ((rd_T32 l0_1 x18_2).f1), .int .i64 ((rd_T32 l0_1 x18_2).f2), .string ((rd_T32 l0_1 x18_2).f3), .slice A678_4 ((rd_T32 l0_1 x18_2).f4).length c678_4, .slice A678_5 ((rd_T32 l0_1 x18_2).f5).length c678_5, .slice A678_6 ((rd_T32 l0_1 x18_2).f6).length c678_6]] ?_
           with_reducible refine (impl_EntryOk.calls k2 ((rd_T32 l0_1 x18_2).f0) ((rd_T32 l0_1 x18_2).f1) ((rd_T32 l0_1 x18_2).f2) ((rd_T32 l0_1 x18_2).f3) _ _ ((rd_T32 l0_1 x18_2).f4) _ _ ((rd_T32 l0_1 x18_2).f5) _ _ ((rd_T32 l0_1 x18_2).f6) false _ ?side1 ?side2 ?side3 ?side4 ?side5 ?side6 A17.out).mono ?_
           (case side1 => exact kc HR678_4 HB)
           (case side2 => exact HC678_4.out)
           (case side3 => exact kc HR678_5 HB)
           (case side4 => exact HC678_5.out)
           (case side5 => exact kc HR678_6 HB)
           (case side6 => exact HC678_6.out)
           rintro e w43 ⟨rfl, hb⟩
           refine ⟨_, rfl, ?_⟩
           have n0_ := zq9 (zq30 (g := gb676) (o := .cells #[.int .i64 a0_0, .slice (some ad678) l0_1.length c0_1] 46 (0, 0)) (by exact bk BK676) hb)
           have n1_ := zq9 (zq30 (g := gb679) (o := .cells #[.string ((rd_T32 l0_1 x18_2).f0), .int .i64 ((rd_T32 l0_1 x18_2).f1), .int .i64 ((rd_T32 l0_1 x18_2).f2), .string ((rd_T32 l0_1 x18_2).f3), .slice A678_4 ((rd_T32 l0_1 x18_2).f4).length c678_4, .slice A678_5 ((rd_T32 l0_1 x18_2).f5).length c678_5, .slice A678_6 ((rd_T32 l0_1 x18_2).f6).length c678_6] 32 (0, 0)) (by exact bk BK679) hb)
           have n2_ := zq9 (zq27 (by exact b2 HB GE676 GE679) hb)
           clear BK676; clear BK679; clear HB; have BK676 := n0_; have BK679 := n1_; have HB := n2_; clear n0_ n1_ n2_
           (try clear hb)
           (try clear hb2)
           (try clear hk)
           (try clear hi)
           refine hK.out _ _ ⟨bc BK679 0, bc BK679 1, bc BK679 2, bc BK679 3, bc BK679 4, bc BK679 5, bc BK679 6⟩ (fun hHeld => ?_)
           clear hK K
           refine norm_ (a' := ?_) ?_ ?_
           rotate_left; ·show Act.put _ (some 24) _ = _; simp only [Act.put, zq0, zq1, zq2, i64_w, i32_w]; rfl
           refine pa HT_ 2 25 (zb 31 7) ?_; refine pa HT_ 3 26 (zb 31 15) ?_; refine pb HT_ 4 27 (zb 31 31) ?_; refine pb HT_ 5 28 (zb 31 63) ?_; refine pb HT_ 6 29 (zb 31 127) ?_; refine pb HT_ 7 30 (zb 31 255) ?_; refine pb HT_ 8 31 (zb 31 511) ?_; refine pb HT_ 9 32 (zb 31 1023) ?_; refine pb HT_ 10 33 (zb 31 2047) ?_; refine pb HT_ 11 34 (zb 31 4095) ?_; refine pb HT_ 12 35 (zb 31 8191) ?_; refine pb HT_ 13 36 (zb 31 16383) ?_
           refine pb HT_ 14 37 (zb 31 32767) ?_; refine pb HT_ 15 38 (zb 31 65535) ?_; refine pb HT_ 16 39 (zb 31 131071) ?_; refine pb HT_ 17 40 (zb 31 262143) ?_; refine pa HT_ 18 41 (zb 31 524287) ?_; refine pa HT_ 19 42 (zb 31 1048575) ?_; refine pb HT_ 20 43 (zb 31 2097151) ?_; refine pb HT_ 21 44 (zb 31 4194303) ?_; refine pb HT_ 22 45 (zb 31 8388607) ?_; refine pb HT_ 23 46 (zb 31 16777215) ?_
           refine pb HT_ 24 47 (zb 31 33554431) ?_; refine pb HT_ 25 48 (zb 31 67108863) ?_; refine pb HT_ 26 49 (zb 31 134217727) ?_; refine pb HT_ 27 50 (zb 31 268435455) ?_; refine pb HT_ 28 51 (zb 31 536870911) ?_; refine pb HT_ 29 52 (zb 31 1073741823) ?_; refine pa HT_ 30 53 (zb 31 2147483647) ?_
           refine done_ (done_of HT_.out (by kernel_rfl)) ?_
           try go_wp2
           go_meet
           case rel => exact ⟨_, (true), (by first | rfl | (simp; done) | (simp [*]; done)), H', ⟨by have := HJ1.out; have := HK2.out; first | omega | exact Nat.le_refl _⟩, ⟨by refine bp ?_; exact BK676.out⟩, ⟨by refine bp ?_; exact BK679.out⟩, ⟨by exact b2 HB GE676 GE679⟩⟩
         case rest =>
          clear HC13
          try clear c1
          try clear p2
          try clear c3
          try clear c6
          try clear c13
          try clear c18
          try clear c34
          try clear c34b0
          try clear c34b1
          obtain ⟨kq, x53_12, rfl, HA, HJ12, BK676, BK679, HB⟩ := hcut
          cases kq with
          | zero => exact absurd HA.out (by simp [impl_BaseOk.j2])
          | succ kj12 =>
           have H := HA.out; clear HA
           simp only [impl_BaseOk.j2] at H
           by_cases c44 : x53_12 = true
           ·subst c44
            have H1 : (some false) = some r := by rw [if_pos rfl] at H; exact H
            clear H; have H := H1; clear H1; obtain rfl := Option.some.inj H
            go_wp2
            go_ret
            exact fz (by exact b2 HB GE676 GE679)
           ·replace c44 := Bool.eq_false_iff.mpr c44
            subst c44
            have H1 : (impl_BaseOk.l0 kj12 l0_1 (l0_1.length : Int) (wrap64 (x18_2 + 1)) a0_0 l0_1) = some r := by rw [if_neg (show ¬ (false = true) by decide)] at H; exact H
            clear H; have H := H1; clear H1; have H' := zq9 H; clear H
            go_wp2
            go_roundg kj12
            case measure => have := HJ1.out; have := HK2.out; have := HJ12.out; omega
            case rel => exact ⟨(wrap64 (x18_2 + 1)), (by first | rfl | (simp; done) | (simp [*]; done)), H', ⟨by have := HJ1.out; have := HK2.out; have := HJ12.out; omega⟩, ⟨by refine bp ?_; exact BK676.out⟩, ⟨by exact b2 HB GE676 GE679⟩⟩
        ·rw [if_neg c12] at H
         exact absurd H (by simp)
       ·rw [if_neg c11] at H
        exact absurd H (by simp)
      ·rw [if_neg c10] at H; have c10b0 : decide (x18_2 < (l0_1.length : Int)) = false := decide_eq_false c10; clear c10; obtain rfl := Option.some.inj H
       go_wp2
       go_ret
       exact fz (by exact b1 HB GE676)
set_option maxHeartbeats 8000000 in
set_option maxRecDepth 100000 in
theorem impl_Match.calls (k : Nat) (a0 : ByteArray) (a1 : ByteArray) (r : Bool) (w : World) (h : impl_Match.f k a0 a1 = some r) :
  Calls Try.prog 62 #[.string a0, .string a1] w fun e w' => e = .returned (.bool r) ∧ Below w.heap.size w w' := by
 have HB := zq9 (Below.refl w.heap.size w)
 have H : (if 0 ≤ (wrap64 ((a1.size : Int) + 1)) then (if (wrap64 ((a1.size : Int) + 1) : Int).toNat ≤ 281474976710656 then ((some (List.replicate (wrap64 ((a1.size : Int) + 1) : Int).toNat false : List Bool)).bind fun y721 => (if 0 < (y721.length : Int) then (impl_Match.l0 k a0 a1 (y721.set (0 : Int).toNat true) (a0.size : Int) 0) else (none))) else (none)) else (none)) = some r := h
 clear h
 obtain ⟨ji3, hji3⟩ : ∃ j_ : Int, (wrap64 ((a1.size : Int) + 1)) = j_ := ⟨_, rfl⟩
 replace H : (if 0 ≤ (ji3) then (if (ji3 : Int).toNat ≤ 281474976710656 then ((some (List.replicate (ji3 : Int).toNat false : List Bool)).bind fun y721 => (if 0 < (y721.length : Int) then (impl_Match.l0 k a0 a1 (y721.set (0 : Int).toNat true) (a0.size : Int) 0) else (none))) else (none)) else (none)) = some r := by first | (rw [hji3] at H; exact H) | (simp only [hji3] at H ⊢; exact H)
 have hji3w : (IntKind.i64.wrap ((a1.size : Int) + 1)) = ji3 := (i64_w _).trans hji3
 by_cases c4 : 0 ≤ (ji3)
 ·rw [if_pos c4] at H
  have c4b0 := eq_true c4
  have c4b1 : decide (0 ≤ (ji3)) = true := decide_eq_true c4; clear c4
  by_cases c5 : (ji3 : Int).toNat ≤ 281474976710656
  ·rw [if_pos c5] at H
   have c5b0 := eq_true c5
   have c5b1 : decide ((ji3 : Int).toNat ≤ 281474976710656) = true := decide_eq_true c5; clear c5
   obtain ⟨y721, hy721⟩ : ∃ y_ : List Bool, y_ = (List.replicate (ji3 : Int).toNat false) := ⟨_, rfl⟩
   replace H : (if 0 < (y721.length : Int) then (impl_Match.l0 k a0 a1 (y721.set (0 : Int).toNat true) (a0.size : Int) 0) else (none)) = some r := by first | (rw [hy721]; with_reducible exact H) | (have H2_ := (Option.bind_some _ _).symm.trans H; rw [hy721]; with_reducible exact H2_) | (have H2_ := (Option.bind_some _ _).symm.trans H; with_reducible exact H2_) | with_reducible exact H | (rw [hy721]; exact H) | exact H
   have Ny721 := zq9 hy721; clear hy721
   by_cases c6 : 0 < (y721.length : Int)
   ·rw [if_pos c6] at H; have c6b0 : decide (0 < (y721.length : Int)) = true := decide_eq_true c6
    have c6b1 : decide (0 < y721.length) = true := decide_eq_true (by omega)
    clear c6
    obtain ⟨y724, hy724⟩ : ∃ y_ : List Bool, y_ = (y721.set (0 : Int).toNat true) := ⟨_, rfl⟩
    replace H : (impl_Match.l0 k a0 a1 y724 (a0.size : Int) 0) = some r := by first | (rw [hy724]; with_reducible exact H) | (have H2_ := (Option.bind_some _ _).symm.trans H; rw [hy724]; with_reducible exact H2_) | (have H2_ := (Option.bind_some _ _).symm.trans H; with_reducible exact H2_) | with_reducible exact H | (rw [hy724]; exact H) | exact H
    have Ny724 := zq9 hy724; clear hy724; have H' := zq9 H; clear H
    go_enter Try.func62, Try.ntmps62
    go_wp2_with (first | ((with_reducible refine zq25 (N := 12) rfl ?_); refine Kd.R_make Kd.bool _ 4 rfl (N := 12) rfl 119 _ _ rfl ji3 rfl rfl Try.underlying119 (.bool false) 1 info4 rfl (by decide) (by omega) false (ok := fun _ => True) (okp := fun _ => True) rfl (fun _ hk => hk) trivial (of_decide_eq_true ‹_›) (Nat.le_trans (Nat.mul_le_mul_right _ (of_decide_eq_true ‹_› : ji3.toNat ≤ 281474976710656)) (by omega)) (Below.refl _ _) (Nat.le_refl _) ?_; intro v722 w8 ho9 hb hg_ hnew_; clear hg_ hnew_; (first | rw [← Ny721.out] at ho9 | (simp only [Int.reduceToNat] at ho9; rw [← Ny721.out] at ho9)); have n0_ := zq9 (Kd.R_lower ho9 (zq29 (by exact bl HB))); have n1_ := zq9 (zq27 (by exact bl HB) hb); clear HB; have HO723 := n0_; have HB := n1_; clear n0_ n1_; clear hb ho9; have p7 : 0 ≤ (0 : Int) := (by omega); have q7 : (0 : Int) < ((y721.length : Int) : Int) := of_decide_eq_true ‹_›; have qi7 : (0 < y721.length) = True := eq_true (by omega); obtain ⟨go7, co7, eo7, gb7, gl7, cl7, HG7⟩ := Kd.R_form HO723.out (by omega); (first | cases eo7 | (injection eo7 with ea_ en_ ec_; (first | subst ea_ | (injection ea_ with ea_; subst ea_)); subst ec_; clear en_)); have GB7 := zq9 gb7; have GG7 := zq9 HG7; clear gb7 gl7 HG7; obtain ⟨hx7_0, hf7_0⟩ := Kd.R_celln false HO723.out (0 : Int) p7 q7; (try rw [show ((0 : Int)).toNat = 0 from rfl] at hx7_0); (try simp only [Nat.reduceMul, Nat.zero_mul, Nat.zero_add, Nat.reduceAdd] at hx7_0); (try rw [show ((0 : Int)).toNat = 0 from rfl] at hf7_0); (try simp only [Nat.reduceMul, Nat.zero_mul, Nat.zero_add, Nat.reduceAdd] at hf7_0); replace p7 := eq_true p7; replace q7 := eq_true q7; obtain ⟨hy10_, hz10_⟩ := Kd.R_celln false HO723.out (0 : Int) (by omega) (of_decide_eq_true ‹_›); (try simp only [Int.reduceToNat, Int.toNat_zero, Int.toNat_ofNat, Nat.reduceMul, Nat.zero_mul, Nat.zero_add] at hy10_ hz10_); (try rw [show ((0 : Int)).toNat = 0 from rfl] at hy10_); (try rw [show ((0 : Int)).toNat = 0 from rfl] at hz10_); have HP10 := Kd.R_putg HO723.out (0 : Int) true) | ((with_reducible refine zq26 (t := 4) (p := 14) rfl ?_); (try (rw [drewN_self w8]; generalize hq_ : World.drewN w8 _ = w8; have n0_ := zq9 (Kd.R_at hq_ HO723.out); have n1_ := zq9 (below_at hq_ HB.out); clear hq_ HO723 HB; have HO723 := n0_; have HB := n1_; clear n0_ n1_; (try (obtain ⟨hy10_, hz10_⟩ := Kd.R_celln false HO723.out (0 : Int) (by omega) (of_decide_eq_true ‹_›))); (try (try simp only [Int.reduceToNat, Int.toNat_zero, Int.toNat_ofNat, Nat.reduceMul, Nat.zero_mul, Nat.zero_add] at hy10_ hz10_)); (try (try rw [show ((0 : Int)).toNat = 0 from rfl] at hy10_)); (try (try rw [show ((0 : Int)).toNat = 0 from rfl] at hz10_)); (try (have HP10 := Kd.R_putg HO723.out (0 : Int) true)))); refine store_event (t := 4) (p := 14) (v := ?vo_w11) (w1 := (w8.setCell ⟨go7, (0 : Int).toNat, none⟩ (.bool true))) ?hg ?ho ?hn ?hr ?_; (case ho => rfl); (case hg => rfl); (case hn => rfl); (case hr => first | (go_simp; done) | (go_simp; rfl)); intro w11 hw; have hg : w8.grownBy w11 (some go7) := (by rw [hw]; exact HP10.2); have hp_ : Kd.R Kd.bool 4 w11 w.heap.size (fun _ => True) (.slice (some ⟨go7, 0, none⟩) y721.length co7) y724 := (by rw [hw, Ny724.out]; exact HP10.1); clear HP10; have n0_ := zq9 (hp_); have n1_ := zq9 ((by rw [hw]; exact zq28 (HB.out) GB7.out : Below w.heap.size w w11)); clear HO723; clear HB; have HO723 := n0_; have HB := n1_; clear n0_ n1_; clear hg hw hp_))
    repeat (go_quiet (first | ((with_reducible refine zq25 (N := 12) rfl ?_); refine Kd.R_make Kd.bool _ 4 rfl (N := 12) rfl 119 _ _ rfl ji3 rfl rfl Try.underlying119 (.bool false) 1 info4 rfl (by decide) (by omega) false (ok := fun _ => True) (okp := fun _ => True) rfl (fun _ hk => hk) trivial (of_decide_eq_true ‹_›) (Nat.le_trans (Nat.mul_le_mul_right _ (of_decide_eq_true ‹_› : ji3.toNat ≤ 281474976710656)) (by omega)) (Below.refl _ _) (Nat.le_refl _) ?_; intro v722 w8 ho9 hb hg_ hnew_; clear hg_ hnew_; (first | rw [← Ny721.out] at ho9 | (simp only [Int.reduceToNat] at ho9; rw [← Ny721.out] at ho9)); have n0_ := zq9 (Kd.R_lower ho9 (zq29 (by exact bl HB))); have n1_ := zq9 (zq27 (by exact bl HB) hb); clear HB; have HO723 := n0_; have HB := n1_; clear n0_ n1_; clear hb ho9; have p7 : 0 ≤ (0 : Int) := (by omega); have q7 : (0 : Int) < ((y721.length : Int) : Int) := of_decide_eq_true ‹_›; have qi7 : (0 < y721.length) = True := eq_true (by omega); obtain ⟨go7, co7, eo7, gb7, gl7, cl7, HG7⟩ := Kd.R_form HO723.out (by omega); (first | cases eo7 | (injection eo7 with ea_ en_ ec_; (first | subst ea_ | (injection ea_ with ea_; subst ea_)); subst ec_; clear en_)); have GB7 := zq9 gb7; have GG7 := zq9 HG7; clear gb7 gl7 HG7; obtain ⟨hx7_0, hf7_0⟩ := Kd.R_celln false HO723.out (0 : Int) p7 q7; (try rw [show ((0 : Int)).toNat = 0 from rfl] at hx7_0); (try simp only [Nat.reduceMul, Nat.zero_mul, Nat.zero_add, Nat.reduceAdd] at hx7_0); (try rw [show ((0 : Int)).toNat = 0 from rfl] at hf7_0); (try simp only [Nat.reduceMul, Nat.zero_mul, Nat.zero_add, Nat.reduceAdd] at hf7_0); replace p7 := eq_true p7; replace q7 := eq_true q7; obtain ⟨hy10_, hz10_⟩ := Kd.R_celln false HO723.out (0 : Int) (by omega) (of_decide_eq_true ‹_›); (try simp only [Int.reduceToNat, Int.toNat_zero, Int.toNat_ofNat, Nat.reduceMul, Nat.zero_mul, Nat.zero_add] at hy10_ hz10_); (try rw [show ((0 : Int)).toNat = 0 from rfl] at hy10_); (try rw [show ((0 : Int)).toNat = 0 from rfl] at hz10_); have HP10 := Kd.R_putg HO723.out (0 : Int) true) | ((with_reducible refine zq26 (t := 4) (p := 14) rfl ?_); (try (rw [drewN_self w8]; generalize hq_ : World.drewN w8 _ = w8; have n0_ := zq9 (Kd.R_at hq_ HO723.out); have n1_ := zq9 (below_at hq_ HB.out); clear hq_ HO723 HB; have HO723 := n0_; have HB := n1_; clear n0_ n1_; (try (obtain ⟨hy10_, hz10_⟩ := Kd.R_celln false HO723.out (0 : Int) (by omega) (of_decide_eq_true ‹_›))); (try (try simp only [Int.reduceToNat, Int.toNat_zero, Int.toNat_ofNat, Nat.reduceMul, Nat.zero_mul, Nat.zero_add] at hy10_ hz10_)); (try (try rw [show ((0 : Int)).toNat = 0 from rfl] at hy10_)); (try (try rw [show ((0 : Int)).toNat = 0 from rfl] at hz10_)); (try (have HP10 := Kd.R_putg HO723.out (0 : Int) true)))); refine store_event (t := 4) (p := 14) (v := ?vo_w11) (w1 := (w8.setCell ⟨go7, (0 : Int).toNat, none⟩ (.bool true))) ?hg ?ho ?hn ?hr ?_; (case ho => rfl); (case hg => rfl); (case hn => rfl); (case hr => first | (go_simp; done) | (go_simp; rfl)); intro w11 hw; have hg : w8.grownBy w11 (some go7) := (by rw [hw]; exact HP10.2); have hp_ : Kd.R Kd.bool 4 w11 w.heap.size (fun _ => True) (.slice (some ⟨go7, 0, none⟩) y721.length co7) y724 := (by rw [hw, Ny724.out]; exact HP10.1); clear HP10; have n0_ := zq9 (hp_); have n1_ := zq9 ((by rw [hw]; exact zq28 (HB.out) GB7.out : Below w.heap.size w w11)); clear HO723; clear HB; have HO723 := n0_; have HB := n1_; clear n0_ n1_; clear hg hw hp_)); try go_wp2_with (first | ((with_reducible refine zq25 (N := 12) rfl ?_); refine Kd.R_make Kd.bool _ 4 rfl (N := 12) rfl 119 _ _ rfl ji3 rfl rfl Try.underlying119 (.bool false) 1 info4 rfl (by decide) (by omega) false (ok := fun _ => True) (okp := fun _ => True) rfl (fun _ hk => hk) trivial (of_decide_eq_true ‹_›) (Nat.le_trans (Nat.mul_le_mul_right _ (of_decide_eq_true ‹_› : ji3.toNat ≤ 281474976710656)) (by omega)) (Below.refl _ _) (Nat.le_refl _) ?_; intro v722 w8 ho9 hb hg_ hnew_; clear hg_ hnew_; (first | rw [← Ny721.out] at ho9 | (simp only [Int.reduceToNat] at ho9; rw [← Ny721.out] at ho9)); have n0_ := zq9 (Kd.R_lower ho9 (zq29 (by exact bl HB))); have n1_ := zq9 (zq27 (by exact bl HB) hb); clear HB; have HO723 := n0_; have HB := n1_; clear n0_ n1_; clear hb ho9; have p7 : 0 ≤ (0 : Int) := (by omega); have q7 : (0 : Int) < ((y721.length : Int) : Int) := of_decide_eq_true ‹_›; have qi7 : (0 < y721.length) = True := eq_true (by omega); obtain ⟨go7, co7, eo7, gb7, gl7, cl7, HG7⟩ := Kd.R_form HO723.out (by omega); (first | cases eo7 | (injection eo7 with ea_ en_ ec_; (first | subst ea_ | (injection ea_ with ea_; subst ea_)); subst ec_; clear en_)); have GB7 := zq9 gb7; have GG7 := zq9 HG7; clear gb7 gl7 HG7; obtain ⟨hx7_0, hf7_0⟩ := Kd.R_celln false HO723.out (0 : Int) p7 q7; (try rw [show ((0 : Int)).toNat = 0 from rfl] at hx7_0); (try simp only [Nat.reduceMul, Nat.zero_mul, Nat.zero_add, Nat.reduceAdd] at hx7_0); (try rw [show ((0 : Int)).toNat = 0 from rfl] at hf7_0); (try simp only [Nat.reduceMul, Nat.zero_mul, Nat.zero_add, Nat.reduceAdd] at hf7_0); replace p7 := eq_true p7; replace q7 := eq_true q7; obtain ⟨hy10_, hz10_⟩ := Kd.R_celln false HO723.out (0 : Int) (by omega) (of_decide_eq_true ‹_›); (try simp only [Int.reduceToNat, Int.toNat_zero, Int.toNat_ofNat, Nat.reduceMul, Nat.zero_mul, Nat.zero_add] at hy10_ hz10_); (try rw [show ((0 : Int)).toNat = 0 from rfl] at hy10_); (try rw [show ((0 : Int)).toNat = 0 from rfl] at hz10_); have HP10 := Kd.R_putg HO723.out (0 : Int) true) | ((with_reducible refine zq26 (t := 4) (p := 14) rfl ?_); (try (rw [drewN_self w8]; generalize hq_ : World.drewN w8 _ = w8; have n0_ := zq9 (Kd.R_at hq_ HO723.out); have n1_ := zq9 (below_at hq_ HB.out); clear hq_ HO723 HB; have HO723 := n0_; have HB := n1_; clear n0_ n1_; (try (obtain ⟨hy10_, hz10_⟩ := Kd.R_celln false HO723.out (0 : Int) (by omega) (of_decide_eq_true ‹_›))); (try (try simp only [Int.reduceToNat, Int.toNat_zero, Int.toNat_ofNat, Nat.reduceMul, Nat.zero_mul, Nat.zero_add] at hy10_ hz10_)); (try (try rw [show ((0 : Int)).toNat = 0 from rfl] at hy10_)); (try (try rw [show ((0 : Int)).toNat = 0 from rfl] at hz10_)); (try (have HP10 := Kd.R_putg HO723.out (0 : Int) true)))); refine store_event (t := 4) (p := 14) (v := ?vo_w11) (w1 := (w8.setCell ⟨go7, (0 : Int).toNat, none⟩ (.bool true))) ?hg ?ho ?hn ?hr ?_; (case ho => rfl); (case hg => rfl); (case hn => rfl); (case hr => first | (go_simp; done) | (go_simp; rfl)); intro w11 hw; have hg : w8.grownBy w11 (some go7) := (by rw [hw]; exact HP10.2); have hp_ : Kd.R Kd.bool 4 w11 w.heap.size (fun _ => True) (.slice (some ⟨go7, 0, none⟩) y721.length co7) y724 := (by rw [hw, Ny724.out]; exact HP10.1); clear HP10; have n0_ := zq9 (hp_); have n1_ := zq9 ((by rw [hw]; exact zq28 (HB.out) GB7.out : Below w.heap.size w w11)); clear HO723; clear HB; have HO723 := n0_; have HB := n1_; clear n0_ n1_; clear hg hw hp_)))
    go_loopg [5, 17] k (fun kq v5 v17 w' => ∃ (x5_1 : List Bool) (x17_1 : Int), v17 = .int .i64 x17_1 ∧ Aside0 (impl_Match.l0 kq a0 a1 x5_1 (a0.size : Int) x17_1 = some r) ∧ Aside0 (kq ≤ k) ∧ Aside0 (Kd.R Kd.bool 4 w' w.heap.size (fun _ => True) v5 x5_1) ∧ Aside0 (Below w.heap.size w w'))
    case atStart => exact ⟨(y724), (0), (by first | rfl | (simp; done) | (simp [*]; done)), H', ⟨Nat.le_refl _⟩, ⟨by (with_reducible repeat (first | apply zq10 | apply zq11 | apply zq12)); exact HO723.out⟩, ⟨by exact bl HB⟩⟩
    case round =>
     clear H'
     try clear p2
     try clear c4
     try clear c4b0
     try clear c4b1
     try clear c5
     try clear c5b0
     try clear c5b1
     try clear c6
     try clear c6b0
     try clear c6b1
     try clear p6
     try clear p7
     try clear q7
     try clear hx7
     try clear qi7
     try clear hf7
     try clear hx7_0
     try clear p7
     try clear q7
     obtain ⟨x5_1, x17_1, rfl, HA, HK1, HO_5, HB⟩ := hrel
     cases gk with
     | zero => exact absurd HA.out (by simp [impl_Match.l0])
     | succ k1 =>
      have H := HA.out; clear HA
      simp only [impl_Match.l0] at H
      by_cases c12 : x17_1 < (a0.size : Int)
      ·rw [if_pos c12] at H; have c12b0 : decide (x17_1 < (a0.size : Int)) = true := decide_eq_true c12; clear c12
       try clear hji3 hji3w
       obtain ⟨ji13, hji13⟩ : ∃ j_ : Int, (wrap64 ((a1.size : Int) + 1)) = j_ := ⟨_, rfl⟩
       replace H : (if 0 ≤ (ji13) then (if (ji13 : Int).toNat ≤ 281474976710656 then (impl_Match.l1 k1 a0 a1 x5_1 x17_1 (List.replicate (ji13 : Int).toNat false) (a0.size : Int) x17_1 (x5_1.length : Int) 0) else (none)) else (none)) = some r := by first | (rw [hji13] at H; exact H) | (simp only [hji13] at H ⊢; exact H)
       have hji13w : (IntKind.i64.wrap ((a1.size : Int) + 1)) = ji13 := (i64_w _).trans hji13
       by_cases c14 : 0 ≤ (ji13)
       ·rw [if_pos c14] at H
        have c14b0 := eq_true c14
        have c14b1 : decide (0 ≤ (ji13)) = true := decide_eq_true c14; clear c14
        by_cases c15 : (ji13 : Int).toNat ≤ 281474976710656
        ·rw [if_pos c15] at H
         have c15b0 := eq_true c15
         have c15b1 : decide ((ji13 : Int).toNat ≤ 281474976710656) = true := decide_eq_true c15; clear c15
         obtain ⟨y726, hy726⟩ : ∃ y_ : List Bool, y_ = (List.replicate (ji13 : Int).toNat false) := ⟨_, rfl⟩
         replace H : (impl_Match.l1 k1 a0 a1 x5_1 x17_1 y726 (a0.size : Int) x17_1 (x5_1.length : Int) 0) = some r := by first | (rw [hy726]; with_reducible exact H) | (have H2_ := (Option.bind_some _ _).symm.trans H; rw [hy726]; with_reducible exact H2_) | (have H2_ := (Option.bind_some _ _).symm.trans H; with_reducible exact H2_) | with_reducible exact H | (rw [hy726]; exact H) | exact H
         have Ny726 := zq9 hy726; clear hy726; have H' := zq9 H; clear H
         go_wp2_with (first | ((with_reducible refine zq25 (N := 23) rfl ?_); refine Kd.R_make Kd.bool _ 4 rfl (N := 23) rfl 119 _ _ rfl ji13 rfl rfl Try.underlying119 (.bool false) 1 info4 rfl (by decide) (by omega) false (ok := fun _ => True) (okp := fun _ => True) rfl (fun _ hk => hk) trivial (of_decide_eq_true ‹_›) (Nat.le_trans (Nat.mul_le_mul_right _ (of_decide_eq_true ‹_› : ji13.toNat ≤ 281474976710656)) (by omega)) (Below.refl _ _) (Nat.le_refl _) ?_; intro v727 w16 ho17 hb hg_ hnew_; clear hg_ hnew_; (first | rw [← Ny726.out] at ho17 | (simp only [Int.reduceToNat] at ho17; rw [← Ny726.out] at ho17)); have n0_ := zq9 (Kd.R_elder' (by exact rz HO_5) (Kd.R_base ho17) hb); have n1_ := zq9 (Kd.R_lower (Kd.R_new' ho17 (Kd.R_lt (by exact rz HO_5))) (zq29 (by exact bl HB))); have n2_ := zq9 (zq27 (by exact bl HB) hb); clear HO_5; clear HB; have HO_5 := n0_; have HO728 := n1_; have HB := n2_; clear n0_ n1_ n2_; clear hb ho17; obtain ⟨Ao18, co18, eo18⟩ := Kd.R_slice HO_5.out; subst eo18))
         repeat (go_quiet (first | ((with_reducible refine zq25 (N := 23) rfl ?_); refine Kd.R_make Kd.bool _ 4 rfl (N := 23) rfl 119 _ _ rfl ji13 rfl rfl Try.underlying119 (.bool false) 1 info4 rfl (by decide) (by omega) false (ok := fun _ => True) (okp := fun _ => True) rfl (fun _ hk => hk) trivial (of_decide_eq_true ‹_›) (Nat.le_trans (Nat.mul_le_mul_right _ (of_decide_eq_true ‹_› : ji13.toNat ≤ 281474976710656)) (by omega)) (Below.refl _ _) (Nat.le_refl _) ?_; intro v727 w16 ho17 hb hg_ hnew_; clear hg_ hnew_; (first | rw [← Ny726.out] at ho17 | (simp only [Int.reduceToNat] at ho17; rw [← Ny726.out] at ho17)); have n0_ := zq9 (Kd.R_elder' (by exact rz HO_5) (Kd.R_base ho17) hb); have n1_ := zq9 (Kd.R_lower (Kd.R_new' ho17 (Kd.R_lt (by exact rz HO_5))) (zq29 (by exact bl HB))); have n2_ := zq9 (zq27 (by exact bl HB) hb); clear HO_5; clear HB; have HO_5 := n0_; have HO728 := n1_; have HB := n2_; clear n0_ n1_ n2_; clear hb ho17; obtain ⟨Ao18, co18, eo18⟩ := Kd.R_slice HO_5.out; subst eo18)); try go_wp2_with (first | ((with_reducible refine zq25 (N := 23) rfl ?_); refine Kd.R_make Kd.bool _ 4 rfl (N := 23) rfl 119 _ _ rfl ji13 rfl rfl Try.underlying119 (.bool false) 1 info4 rfl (by decide) (by omega) false (ok := fun _ => True) (okp := fun _ => True) rfl (fun _ hk => hk) trivial (of_decide_eq_true ‹_›) (Nat.le_trans (Nat.mul_le_mul_right _ (of_decide_eq_true ‹_› : ji13.toNat ≤ 281474976710656)) (by omega)) (Below.refl _ _) (Nat.le_refl _) ?_; intro v727 w16 ho17 hb hg_ hnew_; clear hg_ hnew_; (first | rw [← Ny726.out] at ho17 | (simp only [Int.reduceToNat] at ho17; rw [← Ny726.out] at ho17)); have n0_ := zq9 (Kd.R_elder' (by exact rz HO_5) (Kd.R_base ho17) hb); have n1_ := zq9 (Kd.R_lower (Kd.R_new' ho17 (Kd.R_lt (by exact rz HO_5))) (zq29 (by exact bl HB))); have n2_ := zq9 (zq27 (by exact bl HB) hb); clear HO_5; clear HB; have HO_5 := n0_; have HO728 := n1_; have HB := n2_; clear n0_ n1_ n2_; clear hb ho17; obtain ⟨Ao18, co18, eo18⟩ := Kd.R_slice HO_5.out; subst eo18)))
         go_loopg [26] k1 (fun kq v26 w' => ∃ (x7_2 : List Bool) (x26_2 : Int), v26 = .int .i64 x26_2 ∧ Aside0 (impl_Match.l1 kq a0 a1 x5_1 x17_1 x7_2 (a0.size : Int) x17_1 (x5_1.length : Int) x26_2 = some r) ∧ Aside0 (kq ≤ k1) ∧ Aside0 (Kd.R Kd.bool 4 w' w.heap.size (fun k_ => some k_ ≠ (v727 : Value).ownBlock) (.slice Ao18 x5_1.length co18) x5_1) ∧ Aside0 (Kd.R Kd.bool 4 w' w.heap.size (fun k_ => some k_ ≠ ((.slice Ao18 x5_1.length co18) : Value).ownBlock) v727 x7_2) ∧ Aside0 (Below w.heap.size w w'))
         case atStart => exact ⟨(y726), (0), (by first | rfl | (simp; done) | (simp [*]; done)), H', ⟨Nat.le_refl _⟩, ⟨by (with_reducible repeat (first | apply zq10 | apply zq11 | apply zq12)); exact Kd.R_mono HO_5.out (fun _ hk => hk.2)⟩, ⟨by (with_reducible repeat (first | apply zq10 | apply zq11 | apply zq12)); exact Kd.R_mono HO728.out (fun _ hk => hk.2)⟩, ⟨by exact bl HB⟩⟩
         case round =>
          clear H'
          try clear c1
          try clear p2
          try clear c4
          try clear c4b0
          try clear c4b1
          try clear c5
          try clear c5b0
          try clear c5b1
          try clear c6
          try clear c6b0
          try clear c6b1
          try clear p6
          try clear p7
          try clear q7
          try clear hx7
          try clear qi7
          try clear hf7
          try clear c12
          try clear c12b0
          try clear c14
          try clear c14b0
          try clear c14b1
          try clear c15
          try clear c15b0
          try clear c15b1
          try clear hx7_0
          try clear p2
          try clear p6
          try clear p7
          try clear q7
          obtain ⟨x7_2, x26_2, rfl, HA, HK2, HO_5, HO_7, HB⟩ := hrel
          cases gk with
          | zero => exact absurd HA.out (by simp [impl_Match.l1])
          | succ k2 =>
           have H := HA.out; clear HA
           simp only [impl_Match.l1] at H
           by_cases c19 : x26_2 < (x5_1.length : Int)
           ·rw [if_pos c19] at H; have c19b0 : decide (x26_2 < (x5_1.length : Int)) = true := decide_eq_true c19; clear c19
            by_cases c20 : 0 ≤ x17_1
            ·rw [if_pos c20] at H; have c20b0 : decide (0 ≤ x17_1) = true := decide_eq_true c20; clear c20
             by_cases c21 : x17_1 < (a0.size : Int)
             ·rw [if_pos c21] at H; have c21b0 : decide (x17_1 < (a0.size : Int)) = true := decide_eq_true c21; clear c21
              by_cases c23 : (bt a0 x17_1) = 42
              ·rw [if_pos c23] at H
               have c23b0 : ((bt a0 x17_1) == 42) = true := beq_iff_eq.mpr c23
               have c23b1 : ((bt a0 x17_1) != 42) = false := bne_eq_false_iff_eq.mpr c23
               clear c23
               by_cases c24 : 0 ≤ x26_2
               ·rw [if_pos c24] at H; have c24b0 : decide (0 ≤ x26_2) = true := decide_eq_true c24; clear c24
                by_cases c25 : x26_2 < (x5_1.length : Int)
                ·rw [if_pos c25] at H; have c25b0 : decide (x26_2 < (x5_1.length : Int)) = true := decide_eq_true c25; clear c25
                 obtain ⟨bq26, hbq26⟩ : ∃ b_ : Bool, b_ = (rdOf false x5_1 x26_2) := ⟨_, rfl⟩
                 replace H : (if bq26 = true then (if x26_2 < (x7_2.length : Int) then (impl_Match.l1 k2 a0 a1 x5_1 x17_1 (x7_2.set (x26_2 : Int).toNat true) (a0.size : Int) x17_1 (x5_1.length : Int) (wrap64 (x26_2 + 1))) else (none)) else (if x26_2 > 0 then (if 0 ≤ (wrap64 (x26_2 - 1)) then (if (wrap64 (x26_2 - 1)) < (x7_2.length : Int) then (if x26_2 < (x7_2.length : Int) then (impl_Match.l1 k2 a0 a1 x5_1 x17_1 (x7_2.set (x26_2 : Int).toNat (rdOf false x7_2 (wrap64 (x26_2 - 1)))) (a0.size : Int) x17_1 (x5_1.length : Int) (wrap64 (x26_2 + 1))) else (none)) else (none)) else (none)) else (if x26_2 < (x7_2.length : Int) then (impl_Match.l1 k2 a0 a1 x5_1 x17_1 (x7_2.set (x26_2 : Int).toNat false) (a0.size : Int) x17_1 (x5_1.length : Int) (wrap64 (x26_2 + 1))) else (none)))) = some r := by rw [← hbq26] at H; exact H
                 have Nbq26 := zq9 hbq26; clear hbq26
                 by_cases c27 : bq26 = true
                 ·subst c27
                  have H1 : (if x26_2 < (x7_2.length : Int) then (impl_Match.l1 k2 a0 a1 x5_1 x17_1 (x7_2.set (x26_2 : Int).toNat true) (a0.size : Int) x17_1 (x5_1.length : Int) (wrap64 (x26_2 + 1))) else (none)) = some r := by rw [if_pos rfl] at H; exact H
                  clear H; have H := H1; clear H1
                  by_cases c28 : x26_2 < (x7_2.length : Int)
                  ·rw [if_pos c28] at H; have c28b0 : decide (x26_2 < (x7_2.length : Int)) = true := decide_eq_true c28; clear c28
                   obtain ⟨y730, hy730⟩ : ∃ y_ : List Bool, y_ = (x7_2.set (x26_2 : Int).toNat true) := ⟨_, rfl⟩
                   replace H : (impl_Match.l1 k2 a0 a1 x5_1 x17_1 y730 (a0.size : Int) x17_1 (x5_1.length : Int) (wrap64 (x26_2 + 1))) = some r := by first | (rw [hy730]; with_reducible exact H) | (have H2_ := (Option.bind_some _ _).symm.trans H; rw [hy730]; with_reducible exact H2_) | (have H2_ := (Option.bind_some _ _).symm.trans H; with_reducible exact H2_) | with_reducible exact H | (rw [hy730]; exact H) | exact H
                   have Ny730 := zq9 hy730; clear hy730; have H' := zq9 H; clear H
                   have p22 : 0 ≤ (x17_1 : Int) := of_decide_eq_true ‹_›
                   have q22 : x17_1 < (a0.size : Int) := of_decide_eq_true ‹_›
                   have hx22 := bt_at a0 x17_1
                   replace p22 := eq_true p22; replace q22 := eq_true q22
                   have p729 : 0 ≤ (x26_2 : Int) := of_decide_eq_true ‹_›
                   have q729 : x26_2 < (x5_1.length : Int) := of_decide_eq_true ‹_›
                   obtain ⟨ad729, e729, hx729_0⟩ := Kd.at_bool (Kd.R_reads' HO_5.out).2.2 x26_2 p729 q729
                   (try rw [← Nbq26.out] at hx729_0)
                   cases e729; replace p729 := eq_true p729; replace q729 := eq_true q729
                   have p29 : 0 ≤ (x26_2 : Int) := of_decide_eq_true ‹_›
                   have q29 : (x26_2 : Int) < ((x7_2.length : Int) : Int) := of_decide_eq_true ‹_›
                   obtain ⟨go29, co29, eo29, gb29, gl29, cl29, HG29⟩ := Kd.R_form HO_7.out (by omega)
                   (first | cases eo29 | (injection eo29 with ea_ en_ ec_; (first | subst ea_ | (injection ea_ with ea_; subst ea_)); subst ec_; clear en_))
                   have GB29 := zq9 gb29; have GG29 := zq9 HG29; clear gb29 gl29 HG29
                   obtain ⟨hx29_0, hf29_0⟩ := Kd.R_celln false HO_7.out (x26_2 : Int) p29 q29
                   replace p29 := eq_true p29; replace q29 := eq_true q29
                   have HP30 := Kd.R_putg HO_7.out (x26_2 : Int) true
                   go_wp2_with (first | ((with_reducible refine zq26 (t := 4) (p := 51) rfl ?_); (try (rw [drewN_self wr]; generalize hq_ : World.drewN wr _ = wr; have n0_ := zq9 (Kd.R_at hq_ HO_5.out); have n1_ := zq9 (Kd.R_at hq_ HO_7.out); have n2_ := zq9 (below_at hq_ HB.out); clear hq_ HO_5 HO_7 HB; have HO_5 := n0_; have HO_7 := n1_; have HB := n2_; clear n0_ n1_ n2_; (try (have HP30 := Kd.R_putg HO_7.out (x26_2 : Int) true)); (try (obtain ⟨hx29_0, hf29_0⟩ := Kd.R_celln false HO_7.out (x26_2 : Int) (of_eq_true p29) (of_eq_true q29))))); refine store_event (t := 4) (p := 51) (v := ?vo_w31) (w1 := (wr.setCell ⟨go29, (x26_2 : Int).toNat, none⟩ (.bool true))) ?hg ?ho ?hn ?hr ?_; (case ho => rfl); (case hg => rfl); (case hn => rfl); (case hr => first | (go_simp; done) | (go_simp; rfl)); intro w31 hw; have hg : wr.grownBy w31 (some go29) := (by rw [hw]; exact HP30.2); have hp_ : Kd.R Kd.bool 4 w31 w.heap.size (fun k_ => some k_ ≠ (.slice (some ad729) x5_1.length co18 : Value).ownBlock) (.slice (some ⟨go29, 0, none⟩) x7_2.length co29) y730 := (by rw [hw, Ny730.out]; exact HP30.1); clear HP30; have n0_ := zq9 (Kd.R_after (v := (.slice (some ⟨go29, 0, none⟩) x7_2.length co29)) (v1 := (.slice (some ⟨go29, 0, none⟩) x7_2.length co29)) (ok := (fun _ => True)) (by (with_reducible repeat (first | apply zq10 | apply zq11 | apply zq12)); exact Kd.R_mono HO_5.out (fun _ hk => ⟨trivial, hk⟩)) hg (.inl rfl)); have n1_ := zq9 (hp_); have n2_ := zq9 ((by rw [hw]; exact zq28 (HB.out) GB29.out : Below w.heap.size w w31)); clear HO_5; clear HO_7; clear HB; have HO_5 := n0_; have HO_7 := n1_; have HB := n2_; clear n0_ n1_ n2_; clear hg hw hp_))
                   repeat (go_quiet (first | ((with_reducible refine zq26 (t := 4) (p := 51) rfl ?_); (try (rw [drewN_self wr]; generalize hq_ : World.drewN wr _ = wr; have n0_ := zq9 (Kd.R_at hq_ HO_5.out); have n1_ := zq9 (Kd.R_at hq_ HO_7.out); have n2_ := zq9 (below_at hq_ HB.out); clear hq_ HO_5 HO_7 HB; have HO_5 := n0_; have HO_7 := n1_; have HB := n2_; clear n0_ n1_ n2_; (try (have HP30 := Kd.R_putg HO_7.out (x26_2 : Int) true)); (try (obtain ⟨hx29_0, hf29_0⟩ := Kd.R_celln false HO_7.out (x26_2 : Int) (of_eq_true p29) (of_eq_true q29))))); refine store_event (t := 4) (p := 51) (v := ?vo_w31) (w1 := (wr.setCell ⟨go29, (x26_2 : Int).toNat, none⟩ (.bool true))) ?hg ?ho ?hn ?hr ?_; (case ho => rfl); (case hg => rfl); (case hn => rfl); (case hr => first | (go_simp; done) | (go_simp; rfl)); intro w31 hw; have hg : wr.grownBy w31 (some go29) := (by rw [hw]; exact HP30.2); have hp_ : Kd.R Kd.bool 4 w31 w.heap.size (fun k_ => some k_ ≠ (.slice (some ad729) x5_1.length co18 : Value).ownBlock) (.slice (some ⟨go29, 0, none⟩) x7_2.length co29) y730 := (by rw [hw, Ny730.out]; exact HP30.1); clear HP30; have n0_ := zq9 (Kd.R_after (v := (.slice (some ⟨go29, 0, none⟩) x7_2.length co29)) (v1 := (.slice (some ⟨go29, 0, none⟩) x7_2.length co29)) (ok := (fun _ => True)) (by (with_reducible repeat (first | apply zq10 | apply zq11 | apply zq12)); exact Kd.R_mono HO_5.out (fun _ hk => ⟨trivial, hk⟩)) hg (.inl rfl)); have n1_ := zq9 (hp_); have n2_ := zq9 ((by rw [hw]; exact zq28 (HB.out) GB29.out : Below w.heap.size w w31)); clear HO_5; clear HO_7; clear HB; have HO_5 := n0_; have HO_7 := n1_; have HB := n2_; clear n0_ n1_ n2_; clear hg hw hp_)); try go_wp2_with (first | ((with_reducible refine zq26 (t := 4) (p := 51) rfl ?_); (try (rw [drewN_self wr]; generalize hq_ : World.drewN wr _ = wr; have n0_ := zq9 (Kd.R_at hq_ HO_5.out); have n1_ := zq9 (Kd.R_at hq_ HO_7.out); have n2_ := zq9 (below_at hq_ HB.out); clear hq_ HO_5 HO_7 HB; have HO_5 := n0_; have HO_7 := n1_; have HB := n2_; clear n0_ n1_ n2_; (try (have HP30 := Kd.R_putg HO_7.out (x26_2 : Int) true)); (try (obtain ⟨hx29_0, hf29_0⟩ := Kd.R_celln false HO_7.out (x26_2 : Int) (of_eq_true p29) (of_eq_true q29))))); refine store_event (t := 4) (p := 51) (v := ?vo_w31) (w1 := (wr.setCell ⟨go29, (x26_2 : Int).toNat, none⟩ (.bool true))) ?hg ?ho ?hn ?hr ?_; (case ho => rfl); (case hg => rfl); (case hn => rfl); (case hr => first | (go_simp; done) | (go_simp; rfl)); intro w31 hw; have hg : wr.grownBy w31 (some go29) := (by rw [hw]; exact HP30.2); have hp_ : Kd.R Kd.bool 4 w31 w.heap.size (fun k_ => some k_ ≠ (.slice (some ad729) x5_1.length co18 : Value).ownBlock) (.slice (some ⟨go29, 0, none⟩) x7_2.length co29) y730 := (by rw [hw, Ny730.out]; exact HP30.1); clear HP30; have n0_ := zq9 (Kd.R_after (v := (.slice (some ⟨go29, 0, none⟩) x7_2.length co29)) (v1 := (.slice (some ⟨go29, 0, none⟩) x7_2.length co29)) (ok := (fun _ => True)) (by (with_reducible repeat (first | apply zq10 | apply zq11 | apply zq12)); exact Kd.R_mono HO_5.out (fun _ hk => ⟨trivial, hk⟩)) hg (.inl rfl)); have n1_ := zq9 (hp_); have n2_ := zq9 ((by rw [hw]; exact zq28 (HB.out) GB29.out : Below w.heap.size w w31)); clear HO_5; clear HO_7; clear HB; have HO_5 := n0_; have HO_7 := n1_; have HB := n2_; clear n0_ n1_ n2_; clear hg hw hp_)))
                   go_roundg k2
                   case measure => have := HK1.out; have := HK2.out; omega
                   case rel => exact ⟨(y730), (wrap64 (x26_2 + 1)), (by first | rfl | (simp; done) | (simp [*]; done)), H', ⟨by have := HK1.out; have := HK2.out; omega⟩, ⟨by (with_reducible repeat (first | apply zq10 | apply zq11 | apply zq12)); exact Kd.R_mono HO_5.out (fun _ hk => hk.2)⟩, ⟨by (with_reducible repeat (first | apply zq10 | apply zq11 | apply zq12)); exact HO_7.out⟩, ⟨by exact bl HB⟩⟩
                  ·rw [if_neg c28] at H
                   exact absurd H (by simp)
                 ·replace c27 := Bool.eq_false_iff.mpr c27
                  subst c27
                  have H1 : (if x26_2 > 0 then (if 0 ≤ (wrap64 (x26_2 - 1)) then (if (wrap64 (x26_2 - 1)) < (x7_2.length : Int) then (if x26_2 < (x7_2.length : Int) then (impl_Match.l1 k2 a0 a1 x5_1 x17_1 (x7_2.set (x26_2 : Int).toNat (rdOf false x7_2 (wrap64 (x26_2 - 1)))) (a0.size : Int) x17_1 (x5_1.length : Int) (wrap64 (x26_2 + 1))) else (none)) else (none)) else (none)) else (if x26_2 < (x7_2.length : Int) then (impl_Match.l1 k2 a0 a1 x5_1 x17_1 (x7_2.set (x26_2 : Int).toNat false) (a0.size : Int) x17_1 (x5_1.length : Int) (wrap64 (x26_2 + 1))) else (none))) = some r := by rw [if_neg (show ¬ (false = true) by decide)] at H; exact H
                  clear H; have H := H1; clear H1
                  by_cases c32 : x26_2 > 0
                  ·rw [if_pos c32] at H; have c32b0 : decide (0 < x26_2) = true := decide_eq_true c32; clear c32
                   obtain ⟨ji33, hji33⟩ : ∃ j_ : Int, (wrap64 (x26_2 - 1)) = j_ := ⟨_, rfl⟩
                   replace H : (if 0 ≤ (ji33) then (if (ji33) < (x7_2.length : Int) then (if x26_2 < (x7_2.length : Int) then (impl_Match.l1 k2 a0 a1 x5_1 x17_1 (x7_2.set (x26_2 : Int).toNat (rdOf false x7_2 (ji33))) (a0.size : Int) x17_1 (x5_1.length : Int) (wrap64 (x26_2 + 1))) else (none)) else (none)) else (none)) = some r := by first | (rw [hji33] at H; exact H) | (simp only [hji33] at H ⊢; exact H)
                   have hji33w : (IntKind.i64.wrap (x26_2 - 1)) = ji33 := (i64_w _).trans hji33
                   by_cases c34 : 0 ≤ (ji33)
                   ·rw [if_pos c34] at H; have c34b0 : decide (0 ≤ (ji33)) = true := decide_eq_true c34; clear c34
                    by_cases c35 : (ji33) < (x7_2.length : Int)
                    ·rw [if_pos c35] at H; have c35b0 : decide ((ji33) < (x7_2.length : Int)) = true := decide_eq_true c35; clear c35
                     by_cases c36 : x26_2 < (x7_2.length : Int)
                     ·rw [if_pos c36] at H; have c36b0 : decide (x26_2 < (x7_2.length : Int)) = true := decide_eq_true c36; clear c36
                      obtain ⟨y732, hy732⟩ : ∃ y_ : List Bool, y_ = (x7_2.set (x26_2 : Int).toNat (rdOf false x7_2 (ji33))) := ⟨_, rfl⟩
                      replace H : (impl_Match.l1 k2 a0 a1 x5_1 x17_1 y732 (a0.size : Int) x17_1 (x5_1.length : Int) (wrap64 (x26_2 + 1))) = some r := by first | (rw [hy732]; with_reducible exact H) | (have H2_ := (Option.bind_some _ _).symm.trans H; rw [hy732]; with_reducible exact H2_) | (have H2_ := (Option.bind_some _ _).symm.trans H; with_reducible exact H2_) | with_reducible exact H | (rw [hy732]; exact H) | exact H
                      have Ny732 := zq9 hy732; clear hy732; have H' := zq9 H; clear H
                      have p22 : 0 ≤ (x17_1 : Int) := of_decide_eq_true ‹_›
                      have q22 : x17_1 < (a0.size : Int) := of_decide_eq_true ‹_›
                      have hx22 := bt_at a0 x17_1
                      replace p22 := eq_true p22; replace q22 := eq_true q22
                      have p729 : 0 ≤ (x26_2 : Int) := of_decide_eq_true ‹_›
                      have q729 : x26_2 < (x5_1.length : Int) := of_decide_eq_true ‹_›
                      obtain ⟨ad729, e729, hx729_0⟩ := Kd.at_bool (Kd.R_reads' HO_5.out).2.2 x26_2 p729 q729
                      (try rw [← Nbq26.out] at hx729_0)
                      cases e729; replace p729 := eq_true p729; replace q729 := eq_true q729
                      obtain ⟨Ao38, co38, eo38⟩ := Kd.R_slice HO_7.out
                      subst eo38
                      have p731 : 0 ≤ ((ji33) : Int) := of_decide_eq_true ‹_›
                      have q731 : (ji33) < (x7_2.length : Int) := of_decide_eq_true ‹_›
                      obtain ⟨ad731, e731, hx731_0⟩ := Kd.at_bool (Kd.R_reads' HO_7.out).2.2 (ji33) p731 q731
                      (try rw [← Nbq26.out] at hx731_0)
                      cases e731; replace p731 := eq_true p731; replace q731 := eq_true q731
                      have p37 : 0 ≤ (x26_2 : Int) := of_decide_eq_true ‹_›
                      have q37 : (x26_2 : Int) < ((x7_2.length : Int) : Int) := of_decide_eq_true ‹_›
                      obtain ⟨go37, co37, eo37, gb37, gl37, cl37, HG37⟩ := Kd.R_form HO_7.out (by omega)
                      (first | cases eo37 | (injection eo37 with ea_ en_ ec_; (first | subst ea_ | (injection ea_ with ea_; subst ea_)); subst ec_; clear en_))
                      have GB37 := zq9 gb37; have GG37 := zq9 HG37; clear gb37 gl37 HG37
                      (first | simp only [add_plain] at hx731_0 | skip)
                      obtain ⟨hx37_0, hf37_0⟩ := Kd.R_celln false HO_7.out (x26_2 : Int) p37 q37
                      replace p37 := eq_true p37; replace q37 := eq_true q37
                      have HP39 := Kd.R_putg HO_7.out (x26_2 : Int) (rdOf false x7_2 (ji33))
                      go_wp2_with (first | ((with_reducible refine zq26 (t := 4) (p := 51) rfl ?_); (try (rw [drewN_self wr]; generalize hq_ : World.drewN wr _ = wr; have n0_ := zq9 (Kd.R_at hq_ HO_5.out); have n1_ := zq9 (Kd.R_at hq_ HO_7.out); have n2_ := zq9 (below_at hq_ HB.out); clear hq_ HO_5 HO_7 HB; have HO_5 := n0_; have HO_7 := n1_; have HB := n2_; clear n0_ n1_ n2_; (try (have HP39 := Kd.R_putg HO_7.out (x26_2 : Int) (rdOf false x7_2 (ji33)))); (try (obtain ⟨hx37_0, hf37_0⟩ := Kd.R_celln false HO_7.out (x26_2 : Int) (of_eq_true p37) (of_eq_true q37))))); refine store_event (t := 4) (p := 51) (v := ?vo_w40) (w1 := (wr.setCell ⟨go37, (x26_2 : Int).toNat, none⟩ (.bool (rdOf false x7_2 (ji33))))) ?hg ?ho ?hn ?hr ?_; (case ho => rfl); (case hg => rfl); (case hn => rfl); (case hr => first | (go_simp; done) | (go_simp; rfl)); intro w40 hw; have hg : wr.grownBy w40 (some go37) := (by rw [hw]; exact HP39.2); have hp_ : Kd.R Kd.bool 4 w40 w.heap.size (fun k_ => some k_ ≠ (.slice (some ad729) x5_1.length co18 : Value).ownBlock) (.slice (some ⟨go37, 0, none⟩) x7_2.length co38) y732 := (by rw [hw, Ny732.out]; exact HP39.1); clear HP39; have n0_ := zq9 (Kd.R_after (v := (.slice (some ⟨go37, 0, none⟩) x7_2.length co38)) (v1 := (.slice (some ⟨go37, 0, none⟩) x7_2.length co38)) (ok := (fun _ => True)) (by (with_reducible repeat (first | apply zq10 | apply zq11 | apply zq12)); exact Kd.R_mono HO_5.out (fun _ hk => ⟨trivial, hk⟩)) hg (.inl rfl)); have n1_ := zq9 (hp_); have n2_ := zq9 ((by rw [hw]; exact zq28 (HB.out) GB37.out : Below w.heap.size w w40)); clear HO_5; clear HO_7; clear HB; have HO_5 := n0_; have HO_7 := n1_; have HB := n2_; clear n0_ n1_ n2_; clear hg hw hp_))
                      repeat (go_quiet (first | ((with_reducible refine zq26 (t := 4) (p := 51) rfl ?_); (try (rw [drewN_self wr]; generalize hq_ : World.drewN wr _ = wr; have n0_ := zq9 (Kd.R_at hq_ HO_5.out); have n1_ := zq9 (Kd.R_at hq_ HO_7.out); have n2_ := zq9 (below_at hq_ HB.out); clear hq_ HO_5 HO_7 HB; have HO_5 := n0_; have HO_7 := n1_; have HB := n2_; clear n0_ n1_ n2_; (try (have HP39 := Kd.R_putg HO_7.out (x26_2 : Int) (rdOf false x7_2 (ji33)))); (try (obtain ⟨hx37_0, hf37_0⟩ := Kd.R_celln false HO_7.out (x26_2 : Int) (of_eq_true p37) (of_eq_true q37))))); refine store_event (t := 4) (p := 51) (v := ?vo_w40) (w1 := (wr.setCell ⟨go37, (x26_2 : Int).toNat, none⟩ (.bool (rdOf false x7_2 (ji33))))) ?hg ?ho ?hn ?hr ?_; (case ho => rfl); (case hg => rfl); (case hn => rfl); (case hr => first | (go_simp; done) | (go_simp; rfl)); intro w40 hw; have hg : wr.grownBy w40 (some go37) := (by rw [hw]; exact HP39.2); have hp_ : Kd.R Kd.bool 4 w40 w.heap.size (fun k_ => some k_ ≠ (.slice (some ad729) x5_1.length co18 : Value).ownBlock) (.slice (some ⟨go37, 0, none⟩) x7_2.length co38) y732 := (by rw [hw, Ny732.out]; exact HP39.1); clear HP39; have n0_ := zq9 (Kd.R_after (v := (.slice (some ⟨go37, 0, none⟩) x7_2.length co38)) (v1 := (.slice (some ⟨go37, 0, none⟩) x7_2.length co38)) (ok := (fun _ => True)) (by (with_reducible repeat (first | apply zq10 | apply zq11 | apply zq12)); exact Kd.R_mono HO_5.out (fun _ hk => ⟨trivial, hk⟩)) hg (.inl rfl)); have n1_ := zq9 (hp_); have n2_ := zq9 ((by rw [hw]; exact zq28 (HB.out) GB37.out : Below w.heap.size w w40)); clear HO_5; clear HO_7; clear HB; have HO_5 := n0_; have HO_7 := n1_; have HB := n2_; clear n0_ n1_ n2_; clear hg hw hp_)); try go_wp2_with (first | ((with_reducible refine zq26 (t := 4) (p := 51) rfl ?_); (try (rw [drewN_self wr]; generalize hq_ : World.drewN wr _ = wr; have n0_ := zq9 (Kd.R_at hq_ HO_5.out); have n1_ := zq9 (Kd.R_at hq_ HO_7.out); have n2_ := zq9 (below_at hq_ HB.out); clear hq_ HO_5 HO_7 HB; have HO_5 := n0_; have HO_7 := n1_; have HB := n2_; clear n0_ n1_ n2_; (try (have HP39 := Kd.R_putg HO_7.out (x26_2 : Int) (rdOf false x7_2 (ji33)))); (try (obtain ⟨hx37_0, hf37_0⟩ := Kd.R_celln false HO_7.out (x26_2 : Int) (of_eq_true p37) (of_eq_true q37))))); refine store_event (t := 4) (p := 51) (v := ?vo_w40) (w1 := (wr.setCell ⟨go37, (x26_2 : Int).toNat, none⟩ (.bool (rdOf false x7_2 (ji33))))) ?hg ?ho ?hn ?hr ?_; (case ho => rfl); (case hg => rfl); (case hn => rfl); (case hr => first | (go_simp; done) | (go_simp; rfl)); intro w40 hw; have hg : wr.grownBy w40 (some go37) := (by rw [hw]; exact HP39.2); have hp_ : Kd.R Kd.bool 4 w40 w.heap.size (fun k_ => some k_ ≠ (.slice (some ad729) x5_1.length co18 : Value).ownBlock) (.slice (some ⟨go37, 0, none⟩) x7_2.length co38) y732 := (by rw [hw, Ny732.out]; exact HP39.1); clear HP39; have n0_ := zq9 (Kd.R_after (v := (.slice (some ⟨go37, 0, none⟩) x7_2.length co38)) (v1 := (.slice (some ⟨go37, 0, none⟩) x7_2.length co38)) (ok := (fun _ => True)) (by (with_reducible repeat (first | apply zq10 | apply zq11 | apply zq12)); exact Kd.R_mono HO_5.out (fun _ hk => ⟨trivial, hk⟩)) hg (.inl rfl)); have n1_ := zq9 (hp_); have n2_ := zq9 ((by rw [hw]; exact zq28 (HB.out) GB37.out : Below w.heap.size w w40)); clear HO_5; clear HO_7; clear HB; have HO_5 := n0_; have HO_7 := n1_; have HB := n2_; clear n0_ n1_ n2_; clear hg hw hp_)))
                      go_roundg k2
                      case measure => have := HK1.out; have := HK2.out; omega
                      case rel => exact ⟨(y732), (wrap64 (x26_2 + 1)), (by first | rfl | (simp; done) | (simp [*]; done)), H', ⟨by have := HK1.out; have := HK2.out; omega⟩, ⟨by (with_reducible repeat (first | apply zq10 | apply zq11 | apply zq12)); exact Kd.R_mono HO_5.out (fun _ hk => hk.2)⟩, ⟨by (with_reducible repeat (first | apply zq10 | apply zq11 | apply zq12)); exact HO_7.out⟩, ⟨by exact bl HB⟩⟩
                     ·rw [if_neg c36] at H
                      exact absurd H (by simp)
                    ·rw [if_neg c35] at H
                     exact absurd H (by simp)
                   ·rw [if_neg c34] at H
                    exact absurd H (by simp)
                  ·rw [if_neg c32] at H; have c32b0 : decide (0 < x26_2) = false := decide_eq_false c32; clear c32
                   by_cases c41 : x26_2 < (x7_2.length : Int)
                   ·rw [if_pos c41] at H; have c41b0 : decide (x26_2 < (x7_2.length : Int)) = true := decide_eq_true c41; clear c41
                    obtain ⟨y733, hy733⟩ : ∃ y_ : List Bool, y_ = (x7_2.set (x26_2 : Int).toNat false) := ⟨_, rfl⟩
                    replace H : (impl_Match.l1 k2 a0 a1 x5_1 x17_1 y733 (a0.size : Int) x17_1 (x5_1.length : Int) (wrap64 (x26_2 + 1))) = some r := by first | (rw [hy733]; with_reducible exact H) | (have H2_ := (Option.bind_some _ _).symm.trans H; rw [hy733]; with_reducible exact H2_) | (have H2_ := (Option.bind_some _ _).symm.trans H; with_reducible exact H2_) | with_reducible exact H | (rw [hy733]; exact H) | exact H
                    have Ny733 := zq9 hy733; clear hy733; have H' := zq9 H; clear H
                    have p22 : 0 ≤ (x17_1 : Int) := of_decide_eq_true ‹_›
                    have q22 : x17_1 < (a0.size : Int) := of_decide_eq_true ‹_›
                    have hx22 := bt_at a0 x17_1
                    replace p22 := eq_true p22; replace q22 := eq_true q22
                    have p729 : 0 ≤ (x26_2 : Int) := of_decide_eq_true ‹_›
                    have q729 : x26_2 < (x5_1.length : Int) := of_decide_eq_true ‹_›
                    obtain ⟨ad729, e729, hx729_0⟩ := Kd.at_bool (Kd.R_reads' HO_5.out).2.2 x26_2 p729 q729
                    (try rw [← Nbq26.out] at hx729_0)
                    cases e729; replace p729 := eq_true p729; replace q729 := eq_true q729
                    have p42 : 0 ≤ (x26_2 : Int) := of_decide_eq_true ‹_›
                    have q42 : (x26_2 : Int) < ((x7_2.length : Int) : Int) := of_decide_eq_true ‹_›
                    obtain ⟨go42, co42, eo42, gb42, gl42, cl42, HG42⟩ := Kd.R_form HO_7.out (by omega)
                    (first | cases eo42 | (injection eo42 with ea_ en_ ec_; (first | subst ea_ | (injection ea_ with ea_; subst ea_)); subst ec_; clear en_))
                    have GB42 := zq9 gb42; have GG42 := zq9 HG42; clear gb42 gl42 HG42
                    obtain ⟨hx42_0, hf42_0⟩ := Kd.R_celln false HO_7.out (x26_2 : Int) p42 q42
                    replace p42 := eq_true p42; replace q42 := eq_true q42
                    have HP43 := Kd.R_putg HO_7.out (x26_2 : Int) false
                    go_wp2_with (first | ((with_reducible refine zq26 (t := 4) (p := 51) rfl ?_); (try (rw [drewN_self wr]; generalize hq_ : World.drewN wr _ = wr; have n0_ := zq9 (Kd.R_at hq_ HO_5.out); have n1_ := zq9 (Kd.R_at hq_ HO_7.out); have n2_ := zq9 (below_at hq_ HB.out); clear hq_ HO_5 HO_7 HB; have HO_5 := n0_; have HO_7 := n1_; have HB := n2_; clear n0_ n1_ n2_; (try (have HP43 := Kd.R_putg HO_7.out (x26_2 : Int) false)); (try (obtain ⟨hx42_0, hf42_0⟩ := Kd.R_celln false HO_7.out (x26_2 : Int) (of_eq_true p42) (of_eq_true q42))))); refine store_event (t := 4) (p := 51) (v := ?vo_w44) (w1 := (wr.setCell ⟨go42, (x26_2 : Int).toNat, none⟩ (.bool false))) ?hg ?ho ?hn ?hr ?_; (case ho => rfl); (case hg => rfl); (case hn => rfl); (case hr => first | (go_simp; done) | (go_simp; rfl)); intro w44 hw; have hg : wr.grownBy w44 (some go42) := (by rw [hw]; exact HP43.2); have hp_ : Kd.R Kd.bool 4 w44 w.heap.size (fun k_ => some k_ ≠ (.slice (some ad729) x5_1.length co18 : Value).ownBlock) (.slice (some ⟨go42, 0, none⟩) x7_2.length co42) y733 := (by rw [hw, Ny733.out]; exact HP43.1); clear HP43; have n0_ := zq9 (Kd.R_after (v := (.slice (some ⟨go42, 0, none⟩) x7_2.length co42)) (v1 := (.slice (some ⟨go42, 0, none⟩) x7_2.length co42)) (ok := (fun _ => True)) (by (with_reducible repeat (first | apply zq10 | apply zq11 | apply zq12)); exact Kd.R_mono HO_5.out (fun _ hk => ⟨trivial, hk⟩)) hg (.inl rfl)); have n1_ := zq9 (hp_); have n2_ := zq9 ((by rw [hw]; exact zq28 (HB.out) GB42.out : Below w.heap.size w w44)); clear HO_5; clear HO_7; clear HB; have HO_5 := n0_; have HO_7 := n1_; have HB := n2_; clear n0_ n1_ n2_; clear hg hw hp_))
                    repeat (go_quiet (first | ((with_reducible refine zq26 (t := 4) (p := 51) rfl ?_); (try (rw [drewN_self wr]; generalize hq_ : World.drewN wr _ = wr; have n0_ := zq9 (Kd.R_at hq_ HO_5.out); have n1_ := zq9 (Kd.R_at hq_ HO_7.out); have n2_ := zq9 (below_at hq_ HB.out); clear hq_ HO_5 HO_7 HB; have HO_5 := n0_; have HO_7 := n1_; have HB := n2_; clear n0_ n1_ n2_; (try (have HP43 := Kd.R_putg HO_7.out (x26_2 : Int) false)); (try (obtain ⟨hx42_0, hf42_0⟩ := Kd.R_celln false HO_7.out (x26_2 : Int) (of_eq_true p42) (of_eq_true q42))))); refine store_event (t := 4) (p := 51) (v := ?vo_w44) (w1 := (wr.setCell ⟨go42, (x26_2 : Int).toNat, none⟩ (.bool false))) ?hg ?ho ?hn ?hr ?_; (case ho => rfl); (case hg => rfl); (case hn => rfl); (case hr => first | (go_simp; done) | (go_simp; rfl)); intro w44 hw; have hg : wr.grownBy w44 (some go42) := (by rw [hw]; exact HP43.2); have hp_ : Kd.R Kd.bool 4 w44 w.heap.size (fun k_ => some k_ ≠ (.slice (some ad729) x5_1.length co18 : Value).ownBlock) (.slice (some ⟨go42, 0, none⟩) x7_2.length co42) y733 := (by rw [hw, Ny733.out]; exact HP43.1); clear HP43; have n0_ := zq9 (Kd.R_after (v := (.slice (some ⟨go42, 0, none⟩) x7_2.length co42)) (v1 := (.slice (some ⟨go42, 0, none⟩) x7_2.length co42)) (ok := (fun _ => True)) (by (with_reducible repeat (first | apply zq10 | apply zq11 | apply zq12)); exact Kd.R_mono HO_5.out (fun _ hk => ⟨trivial, hk⟩)) hg (.inl rfl)); have n1_ := zq9 (hp_); have n2_ := zq9 ((by rw [hw]; exact zq28 (HB.out) GB42.out : Below w.heap.size w w44)); clear HO_5; clear HO_7; clear HB; have HO_5 := n0_; have HO_7 := n1_; have HB := n2_; clear n0_ n1_ n2_; clear hg hw hp_)); try go_wp2_with (first | ((with_reducible refine zq26 (t := 4) (p := 51) rfl ?_); (try (rw [drewN_self wr]; generalize hq_ : World.drewN wr _ = wr; have n0_ := zq9 (Kd.R_at hq_ HO_5.out); have n1_ := zq9 (Kd.R_at hq_ HO_7.out); have n2_ := zq9 (below_at hq_ HB.out); clear hq_ HO_5 HO_7 HB; have HO_5 := n0_; have HO_7 := n1_; have HB := n2_; clear n0_ n1_ n2_; (try (have HP43 := Kd.R_putg HO_7.out (x26_2 : Int) false)); (try (obtain ⟨hx42_0, hf42_0⟩ := Kd.R_celln false HO_7.out (x26_2 : Int) (of_eq_true p42) (of_eq_true q42))))); refine store_event (t := 4) (p := 51) (v := ?vo_w44) (w1 := (wr.setCell ⟨go42, (x26_2 : Int).toNat, none⟩ (.bool false))) ?hg ?ho ?hn ?hr ?_; (case ho => rfl); (case hg => rfl); (case hn => rfl); (case hr => first | (go_simp; done) | (go_simp; rfl)); intro w44 hw; have hg : wr.grownBy w44 (some go42) := (by rw [hw]; exact HP43.2); have hp_ : Kd.R Kd.bool 4 w44 w.heap.size (fun k_ => some k_ ≠ (.slice (some ad729) x5_1.length co18 : Value).ownBlock) (.slice (some ⟨go42, 0, none⟩) x7_2.length co42) y733 := (by rw [hw, Ny733.out]; exact HP43.1); clear HP43; have n0_ := zq9 (Kd.R_after (v := (.slice (some ⟨go42, 0, none⟩) x7_2.length co42)) (v1 := (.slice (some ⟨go42, 0, none⟩) x7_2.length co42)) (ok := (fun _ => True)) (by (with_reducible repeat (first | apply zq10 | apply zq11 | apply zq12)); exact Kd.R_mono HO_5.out (fun _ hk => ⟨trivial, hk⟩)) hg (.inl rfl)); have n1_ := zq9 (hp_); have n2_ := zq9 ((by rw [hw]; exact zq28 (HB.out) GB42.out : Below w.heap.size w w44)); clear HO_5; clear HO_7; clear HB; have HO_5 := n0_; have HO_7 := n1_; have HB := n2_; clear n0_ n1_ n2_; clear hg hw hp_)))
                    go_roundg k2
                    case measure => have := HK1.out; have := HK2.out; omega
                    case rel => exact ⟨(y733), (wrap64 (x26_2 + 1)), (by first | rfl | (simp; done) | (simp [*]; done)), H', ⟨by have := HK1.out; have := HK2.out; omega⟩, ⟨by (with_reducible repeat (first | apply zq10 | apply zq11 | apply zq12)); exact Kd.R_mono HO_5.out (fun _ hk => hk.2)⟩, ⟨by (with_reducible repeat (first | apply zq10 | apply zq11 | apply zq12)); exact HO_7.out⟩, ⟨by exact bl HB⟩⟩
                   ·rw [if_neg c41] at H
                    exact absurd H (by simp)
                ·rw [if_neg c25] at H
                 exact absurd H (by simp)
               ·rw [if_neg c24] at H
                exact absurd H (by simp)
              ·rw [if_neg c23] at H
               have c23b0 : ((bt a0 x17_1) == 42) = false := beq_eq_false_iff_ne.mpr c23
               have c23b1 : ((bt a0 x17_1) != 42) = true := bne_iff_ne.mpr c23
               by_cases c45 : x26_2 > 0
               ·rw [if_pos c45] at H; have c45b0 : decide (0 < x26_2) = true := decide_eq_true c45; clear c45
                by_cases c47 : (bt a0 x17_1) = 63
                ·rw [if_pos c47] at H
                 have c47b0 : ((bt a0 x17_1) == 63) = true := beq_iff_eq.mpr c47
                 have c47b1 : ((bt a0 x17_1) != 63) = false := bne_eq_false_iff_eq.mpr c47
                 clear c47
                 obtain ⟨ji48, hji48⟩ : ∃ j_ : Int, (wrap64 (x26_2 - 1)) = j_ := ⟨_, rfl⟩
                 replace H : (if 0 ≤ (ji48) then (if (ji48) < (x5_1.length : Int) then (if 0 ≤ x26_2 then (if x26_2 < (x7_2.length : Int) then (impl_Match.l1 k2 a0 a1 x5_1 x17_1 (x7_2.set (x26_2 : Int).toNat (rdOf false x5_1 (ji48))) (a0.size : Int) x17_1 (x5_1.length : Int) (wrap64 (x26_2 + 1))) else (none)) else (none)) else (none)) else (none)) = some r := by first | (rw [hji48] at H; exact H) | (simp only [hji48] at H ⊢; exact H)
                 have hji48w : (IntKind.i64.wrap (x26_2 - 1)) = ji48 := (i64_w _).trans hji48
                 by_cases c49 : 0 ≤ (ji48)
                 ·rw [if_pos c49] at H; have c49b0 : decide (0 ≤ (ji48)) = true := decide_eq_true c49; clear c49
                  by_cases c50 : (ji48) < (x5_1.length : Int)
                  ·rw [if_pos c50] at H; have c50b0 : decide ((ji48) < (x5_1.length : Int)) = true := decide_eq_true c50; clear c50
                   by_cases c51 : 0 ≤ x26_2
                   ·rw [if_pos c51] at H; have c51b0 : decide (0 ≤ x26_2) = true := decide_eq_true c51; clear c51
                    by_cases c52 : x26_2 < (x7_2.length : Int)
                    ·rw [if_pos c52] at H; have c52b0 : decide (x26_2 < (x7_2.length : Int)) = true := decide_eq_true c52; clear c52
                     obtain ⟨y735, hy735⟩ : ∃ y_ : List Bool, y_ = (x7_2.set (x26_2 : Int).toNat (rdOf false x5_1 (ji48))) := ⟨_, rfl⟩
                     replace H : (impl_Match.l1 k2 a0 a1 x5_1 x17_1 y735 (a0.size : Int) x17_1 (x5_1.length : Int) (wrap64 (x26_2 + 1))) = some r := by first | (rw [hy735]; with_reducible exact H) | (have H2_ := (Option.bind_some _ _).symm.trans H; rw [hy735]; with_reducible exact H2_) | (have H2_ := (Option.bind_some _ _).symm.trans H; with_reducible exact H2_) | with_reducible exact H | (rw [hy735]; exact H) | exact H
                     have Ny735 := zq9 hy735; clear hy735; have H' := zq9 H; clear H
                     have p22 : 0 ≤ (x17_1 : Int) := of_decide_eq_true ‹_›
                     have q22 : x17_1 < (a0.size : Int) := of_decide_eq_true ‹_›
                     have hx22 := bt_at a0 x17_1
                     replace p22 := eq_true p22; replace q22 := eq_true q22
                     have p46 : 0 ≤ (x17_1 : Int) := of_decide_eq_true ‹_›
                     have q46 : x17_1 < (a0.size : Int) := of_decide_eq_true ‹_›
                     have hx46 := bt_at a0 x17_1
                     replace p46 := eq_true p46; replace q46 := eq_true q46
                     have p734 : 0 ≤ ((ji48) : Int) := of_decide_eq_true ‹_›
                     have q734 : (ji48) < (x5_1.length : Int) := of_decide_eq_true ‹_›
                     obtain ⟨ad734, e734, hx734_0⟩ := Kd.at_bool (Kd.R_reads' HO_5.out).2.2 (ji48) p734 q734
                     cases e734; replace p734 := eq_true p734; replace q734 := eq_true q734
                     have p53 : 0 ≤ (x26_2 : Int) := of_decide_eq_true ‹_›
                     have q53 : (x26_2 : Int) < ((x7_2.length : Int) : Int) := of_decide_eq_true ‹_›
                     obtain ⟨go53, co53, eo53, gb53, gl53, cl53, HG53⟩ := Kd.R_form HO_7.out (by omega)
                     (first | cases eo53 | (injection eo53 with ea_ en_ ec_; (first | subst ea_ | (injection ea_ with ea_; subst ea_)); subst ec_; clear en_))
                     have GB53 := zq9 gb53; have GG53 := zq9 HG53; clear gb53 gl53 HG53
                     obtain ⟨hx53_0, hf53_0⟩ := Kd.R_celln false HO_7.out (x26_2 : Int) p53 q53
                     replace p53 := eq_true p53; replace q53 := eq_true q53
                     have HP54 := Kd.R_putg HO_7.out (x26_2 : Int) (rdOf false x5_1 (ji48))
                     go_wp2_with (first | ((with_reducible refine zq26 (t := 4) (p := 78) rfl ?_); (try (rw [drewN_self wr]; generalize hq_ : World.drewN wr _ = wr; have n0_ := zq9 (Kd.R_at hq_ HO_5.out); have n1_ := zq9 (Kd.R_at hq_ HO_7.out); have n2_ := zq9 (below_at hq_ HB.out); clear hq_ HO_5 HO_7 HB; have HO_5 := n0_; have HO_7 := n1_; have HB := n2_; clear n0_ n1_ n2_; (try (have HP54 := Kd.R_putg HO_7.out (x26_2 : Int) (rdOf false x5_1 (ji48)))); (try (obtain ⟨hx53_0, hf53_0⟩ := Kd.R_celln false HO_7.out (x26_2 : Int) (of_eq_true p53) (of_eq_true q53))))); refine store_event (t := 4) (p := 78) (v := ?vo_w55) (w1 := (wr.setCell ⟨go53, (x26_2 : Int).toNat, none⟩ (.bool (rdOf false x5_1 (ji48))))) ?hg ?ho ?hn ?hr ?_; (case ho => rfl); (case hg => rfl); (case hn => rfl); (case hr => first | (go_simp; done) | (go_simp; rfl)); intro w55 hw; have hg : wr.grownBy w55 (some go53) := (by rw [hw]; exact HP54.2); have hp_ : Kd.R Kd.bool 4 w55 w.heap.size (fun k_ => some k_ ≠ (.slice (some ad734) x5_1.length co18 : Value).ownBlock) (.slice (some ⟨go53, 0, none⟩) x7_2.length co53) y735 := (by rw [hw, Ny735.out]; exact HP54.1); clear HP54; have n0_ := zq9 (Kd.R_after (v := (.slice (some ⟨go53, 0, none⟩) x7_2.length co53)) (v1 := (.slice (some ⟨go53, 0, none⟩) x7_2.length co53)) (ok := (fun _ => True)) (by (with_reducible repeat (first | apply zq10 | apply zq11 | apply zq12)); exact Kd.R_mono HO_5.out (fun _ hk => ⟨trivial, hk⟩)) hg (.inl rfl)); have n1_ := zq9 (hp_); have n2_ := zq9 ((by rw [hw]; exact zq28 (HB.out) GB53.out : Below w.heap.size w w55)); clear HO_5; clear HO_7; clear HB; have HO_5 := n0_; have HO_7 := n1_; have HB := n2_; clear n0_ n1_ n2_; clear hg hw hp_))
                     repeat (go_quiet (first | ((with_reducible refine zq26 (t := 4) (p := 78) rfl ?_); (try (rw [drewN_self wr]; generalize hq_ : World.drewN wr _ = wr; have n0_ := zq9 (Kd.R_at hq_ HO_5.out); have n1_ := zq9 (Kd.R_at hq_ HO_7.out); have n2_ := zq9 (below_at hq_ HB.out); clear hq_ HO_5 HO_7 HB; have HO_5 := n0_; have HO_7 := n1_; have HB := n2_; clear n0_ n1_ n2_; (try (have HP54 := Kd.R_putg HO_7.out (x26_2 : Int) (rdOf false x5_1 (ji48)))); (try (obtain ⟨hx53_0, hf53_0⟩ := Kd.R_celln false HO_7.out (x26_2 : Int) (of_eq_true p53) (of_eq_true q53))))); refine store_event (t := 4) (p := 78) (v := ?vo_w55) (w1 := (wr.setCell ⟨go53, (x26_2 : Int).toNat, none⟩ (.bool (rdOf false x5_1 (ji48))))) ?hg ?ho ?hn ?hr ?_; (case ho => rfl); (case hg => rfl); (case hn => rfl); (case hr => first | (go_simp; done) | (go_simp; rfl)); intro w55 hw; have hg : wr.grownBy w55 (some go53) := (by rw [hw]; exact HP54.2); have hp_ : Kd.R Kd.bool 4 w55 w.heap.size (fun k_ => some k_ ≠ (.slice (some ad734) x5_1.length co18 : Value).ownBlock) (.slice (some ⟨go53, 0, none⟩) x7_2.length co53) y735 := (by rw [hw, Ny735.out]; exact HP54.1); clear HP54; have n0_ := zq9 (Kd.R_after (v := (.slice (some ⟨go53, 0, none⟩) x7_2.length co53)) (v1 := (.slice (some ⟨go53, 0, none⟩) x7_2.length co53)) (ok := (fun _ => True)) (by (with_reducible repeat (first | apply zq10 | apply zq11 | apply zq12)); exact Kd.R_mono HO_5.out (fun _ hk => ⟨trivial, hk⟩)) hg (.inl rfl)); have n1_ := zq9 (hp_); have n2_ := zq9 ((by rw [hw]; exact zq28 (HB.out) GB53.out : Below w.heap.size w w55)); clear HO_5; clear HO_7; clear HB; have HO_5 := n0_; have HO_7 := n1_; have HB := n2_; clear n0_ n1_ n2_; clear hg hw hp_)); try go_wp2_with (first | ((with_reducible refine zq26 (t := 4) (p := 78) rfl ?_); (try (rw [drewN_self wr]; generalize hq_ : World.drewN wr _ = wr; have n0_ := zq9 (Kd.R_at hq_ HO_5.out); have n1_ := zq9 (Kd.R_at hq_ HO_7.out); have n2_ := zq9 (below_at hq_ HB.out); clear hq_ HO_5 HO_7 HB; have HO_5 := n0_; have HO_7 := n1_; have HB := n2_; clear n0_ n1_ n2_; (try (have HP54 := Kd.R_putg HO_7.out (x26_2 : Int) (rdOf false x5_1 (ji48)))); (try (obtain ⟨hx53_0, hf53_0⟩ := Kd.R_celln false HO_7.out (x26_2 : Int) (of_eq_true p53) (of_eq_true q53))))); refine store_event (t := 4) (p := 78) (v := ?vo_w55) (w1 := (wr.setCell ⟨go53, (x26_2 : Int).toNat, none⟩ (.bool (rdOf false x5_1 (ji48))))) ?hg ?ho ?hn ?hr ?_; (case ho => rfl); (case hg => rfl); (case hn => rfl); (case hr => first | (go_simp; done) | (go_simp; rfl)); intro w55 hw; have hg : wr.grownBy w55 (some go53) := (by rw [hw]; exact HP54.2); have hp_ : Kd.R Kd.bool 4 w55 w.heap.size (fun k_ => some k_ ≠ (.slice (some ad734) x5_1.length co18 : Value).ownBlock) (.slice (some ⟨go53, 0, none⟩) x7_2.length co53) y735 := (by rw [hw, Ny735.out]; exact HP54.1); clear HP54; have n0_ := zq9 (Kd.R_after (v := (.slice (some ⟨go53, 0, none⟩) x7_2.length co53)) (v1 := (.slice (some ⟨go53, 0, none⟩) x7_2.length co53)) (ok := (fun _ => True)) (by (with_reducible repeat (first | apply zq10 | apply zq11 | apply zq12)); exact Kd.R_mono HO_5.out (fun _ hk => ⟨trivial, hk⟩)) hg (.inl rfl)); have n1_ := zq9 (hp_); have n2_ := zq9 ((by rw [hw]; exact zq28 (HB.out) GB53.out : Below w.heap.size w w55)); clear HO_5; clear HO_7; clear HB; have HO_5 := n0_; have HO_7 := n1_; have HB := n2_; clear n0_ n1_ n2_; clear hg hw hp_)))
                     go_roundg k2
                     case measure => have := HK1.out; have := HK2.out; omega
                     case rel => exact ⟨(y735), (wrap64 (x26_2 + 1)), (by first | rfl | (simp; done) | (simp [*]; done)), H', ⟨by have := HK1.out; have := HK2.out; omega⟩, ⟨by (with_reducible repeat (first | apply zq10 | apply zq11 | apply zq12)); exact Kd.R_mono HO_5.out (fun _ hk => hk.2)⟩, ⟨by (with_reducible repeat (first | apply zq10 | apply zq11 | apply zq12)); exact HO_7.out⟩, ⟨by exact bl HB⟩⟩
                    ·rw [if_neg c52] at H
                     exact absurd H (by simp)
                   ·rw [if_neg c51] at H
                    exact absurd H (by simp)
                  ·rw [if_neg c50] at H
                   exact absurd H (by simp)
                 ·rw [if_neg c49] at H
                  exact absurd H (by simp)
                ·rw [if_neg c47] at H
                 have c47b0 : ((bt a0 x17_1) == 63) = false := beq_eq_false_iff_ne.mpr c47
                 have c47b1 : ((bt a0 x17_1) != 63) = true := bne_iff_ne.mpr c47
                 obtain ⟨ji57, hji57⟩ : ∃ j_ : Int, (wrap64 (x26_2 - 1)) = j_ := ⟨_, rfl⟩
                 replace H : (if 0 ≤ (ji57) then (if (ji57) < (a1.size : Int) then (if (bt a0 x17_1) = (bt a1 (ji57)) then (if (ji57) < (x5_1.length : Int) then (if 0 ≤ x26_2 then (if x26_2 < (x7_2.length : Int) then (impl_Match.l1 k2 a0 a1 x5_1 x17_1 (x7_2.set (x26_2 : Int).toNat (rdOf false x5_1 (ji57))) (a0.size : Int) x17_1 (x5_1.length : Int) (wrap64 (x26_2 + 1))) else (none)) else (none)) else (none)) else (impl_Match.l1 k2 a0 a1 x5_1 x17_1 x7_2 (a0.size : Int) x17_1 (x5_1.length : Int) (wrap64 (x26_2 + 1)))) else (none)) else (none)) = some r := by first | (rw [hji57] at H; exact H) | (simp only [hji57] at H ⊢; exact H)
                 have hji57w : (IntKind.i64.wrap (x26_2 - 1)) = ji57 := (i64_w _).trans hji57
                 by_cases c58 : 0 ≤ (ji57)
                 ·rw [if_pos c58] at H; have c58b0 : decide (0 ≤ (ji57)) = true := decide_eq_true c58; clear c58
                  by_cases c59 : (ji57) < (a1.size : Int)
                  ·rw [if_pos c59] at H; have c59b0 : decide ((ji57) < (a1.size : Int)) = true := decide_eq_true c59; clear c59
                   by_cases c61 : (bt a0 x17_1) = (bt a1 (ji57))
                   ·rw [if_pos c61] at H
                    have c61b0 : ((bt a0 x17_1) == (bt a1 (ji57))) = true := beq_iff_eq.mpr c61
                    have c61b1 : ((bt a0 x17_1) != (bt a1 (ji57))) = false := bne_eq_false_iff_eq.mpr c61
                    clear c61
                    by_cases c62 : (ji57) < (x5_1.length : Int)
                    ·rw [if_pos c62] at H; have c62b0 : decide ((ji57) < (x5_1.length : Int)) = true := decide_eq_true c62; clear c62
                     by_cases c63 : 0 ≤ x26_2
                     ·rw [if_pos c63] at H; have c63b0 : decide (0 ≤ x26_2) = true := decide_eq_true c63; clear c63
                      by_cases c64 : x26_2 < (x7_2.length : Int)
                      ·rw [if_pos c64] at H; have c64b0 : decide (x26_2 < (x7_2.length : Int)) = true := decide_eq_true c64; clear c64
                       obtain ⟨y737, hy737⟩ : ∃ y_ : List Bool, y_ = (x7_2.set (x26_2 : Int).toNat (rdOf false x5_1 (ji57))) := ⟨_, rfl⟩
                       replace H : (impl_Match.l1 k2 a0 a1 x5_1 x17_1 y737 (a0.size : Int) x17_1 (x5_1.length : Int) (wrap64 (x26_2 + 1))) = some r := by first | (rw [hy737]; with_reducible exact H) | (have H2_ := (Option.bind_some _ _).symm.trans H; rw [hy737]; with_reducible exact H2_) | (have H2_ := (Option.bind_some _ _).symm.trans H; with_reducible exact H2_) | with_reducible exact H | (rw [hy737]; exact H) | exact H
                       have Ny737 := zq9 hy737; clear hy737; have H' := zq9 H; clear H
                       have p22 : 0 ≤ (x17_1 : Int) := of_decide_eq_true ‹_›
                       have q22 : x17_1 < (a0.size : Int) := of_decide_eq_true ‹_›
                       have hx22 := bt_at a0 x17_1
                       replace p22 := eq_true p22; replace q22 := eq_true q22
                       have p46 : 0 ≤ (x17_1 : Int) := of_decide_eq_true ‹_›
                       have q46 : x17_1 < (a0.size : Int) := of_decide_eq_true ‹_›
                       have hx46 := bt_at a0 x17_1
                       replace p46 := eq_true p46; replace q46 := eq_true q46
                       have p56 : 0 ≤ (x17_1 : Int) := of_decide_eq_true ‹_›
                       have q56 : x17_1 < (a0.size : Int) := of_decide_eq_true ‹_›
                       have hx56 := bt_at a0 x17_1
                       replace p56 := eq_true p56; replace q56 := eq_true q56
                       have p60 : 0 ≤ ((ji57) : Int) := of_decide_eq_true ‹_›
                       have q60 : (ji57) < (a1.size : Int) := of_decide_eq_true ‹_›
                       have hx60 := bt_at a1 (ji57)
                       replace p60 := eq_true p60; replace q60 := eq_true q60
                       have p736 : 0 ≤ ((ji57) : Int) := of_decide_eq_true ‹_›
                       have q736 : (ji57) < (x5_1.length : Int) := of_decide_eq_true ‹_›
                       obtain ⟨ad736, e736, hx736_0⟩ := Kd.at_bool (Kd.R_reads' HO_5.out).2.2 (ji57) p736 q736
                       cases e736; replace p736 := eq_true p736; replace q736 := eq_true q736
                       have p65 : 0 ≤ (x26_2 : Int) := of_decide_eq_true ‹_›
                       have q65 : (x26_2 : Int) < ((x7_2.length : Int) : Int) := of_decide_eq_true ‹_›
                       obtain ⟨go65, co65, eo65, gb65, gl65, cl65, HG65⟩ := Kd.R_form HO_7.out (by omega)
                       (first | cases eo65 | (injection eo65 with ea_ en_ ec_; (first | subst ea_ | (injection ea_ with ea_; subst ea_)); subst ec_; clear en_))
                       have GB65 := zq9 gb65; have GG65 := zq9 HG65; clear gb65 gl65 HG65
                       obtain ⟨hx65_0, hf65_0⟩ := Kd.R_celln false HO_7.out (x26_2 : Int) p65 q65
                       replace p65 := eq_true p65; replace q65 := eq_true q65
                       have HP66 := Kd.R_putg HO_7.out (x26_2 : Int) (rdOf false x5_1 (ji57))
                       go_wp2_with (first | ((with_reducible refine zq26 (t := 4) (p := 78) rfl ?_); (try (rw [drewN_self wr]; generalize hq_ : World.drewN wr _ = wr; have n0_ := zq9 (Kd.R_at hq_ HO_5.out); have n1_ := zq9 (Kd.R_at hq_ HO_7.out); have n2_ := zq9 (below_at hq_ HB.out); clear hq_ HO_5 HO_7 HB; have HO_5 := n0_; have HO_7 := n1_; have HB := n2_; clear n0_ n1_ n2_; (try (have HP66 := Kd.R_putg HO_7.out (x26_2 : Int) (rdOf false x5_1 (ji57)))); (try (obtain ⟨hx65_0, hf65_0⟩ := Kd.R_celln false HO_7.out (x26_2 : Int) (of_eq_true p65) (of_eq_true q65))))); refine store_event (t := 4) (p := 78) (v := ?vo_w67) (w1 := (wr.setCell ⟨go65, (x26_2 : Int).toNat, none⟩ (.bool (rdOf false x5_1 (ji57))))) ?hg ?ho ?hn ?hr ?_; (case ho => rfl); (case hg => rfl); (case hn => rfl); (case hr => first | (go_simp; done) | (go_simp; rfl)); intro w67 hw; have hg : wr.grownBy w67 (some go65) := (by rw [hw]; exact HP66.2); have hp_ : Kd.R Kd.bool 4 w67 w.heap.size (fun k_ => some k_ ≠ (.slice (some ad736) x5_1.length co18 : Value).ownBlock) (.slice (some ⟨go65, 0, none⟩) x7_2.length co65) y737 := (by rw [hw, Ny737.out]; exact HP66.1); clear HP66; have n0_ := zq9 (Kd.R_after (v := (.slice (some ⟨go65, 0, none⟩) x7_2.length co65)) (v1 := (.slice (some ⟨go65, 0, none⟩) x7_2.length co65)) (ok := (fun _ => True)) (by (with_reducible repeat (first | apply zq10 | apply zq11 | apply zq12)); exact Kd.R_mono HO_5.out (fun _ hk => ⟨trivial, hk⟩)) hg (.inl rfl)); have n1_ := zq9 (hp_); have n2_ := zq9 ((by rw [hw]; exact zq28 (HB.out) GB65.out : Below w.heap.size w w67)); clear HO_5; clear HO_7; clear HB; have HO_5 := n0_; have HO_7 := n1_; have HB := n2_; clear n0_ n1_ n2_; clear hg hw hp_))
                       repeat (go_quiet (first | ((with_reducible refine zq26 (t := 4) (p := 78) rfl ?_); (try (rw [drewN_self wr]; generalize hq_ : World.drewN wr _ = wr; have n0_ := zq9 (Kd.R_at hq_ HO_5.out); have n1_ := zq9 (Kd.R_at hq_ HO_7.out); have n2_ := zq9 (below_at hq_ HB.out); clear hq_ HO_5 HO_7 HB; have HO_5 := n0_; have HO_7 := n1_; have HB := n2_; clear n0_ n1_ n2_; (try (have HP66 := Kd.R_putg HO_7.out (x26_2 : Int) (rdOf false x5_1 (ji57)))); (try (obtain ⟨hx65_0, hf65_0⟩ := Kd.R_celln false HO_7.out (x26_2 : Int) (of_eq_true p65) (of_eq_true q65))))); refine store_event (t := 4) (p := 78) (v := ?vo_w67) (w1 := (wr.setCell ⟨go65, (x26_2 : Int).toNat, none⟩ (.bool (rdOf false x5_1 (ji57))))) ?hg ?ho ?hn ?hr ?_; (case ho => rfl); (case hg => rfl); (case hn => rfl); (case hr => first | (go_simp; done) | (go_simp; rfl)); intro w67 hw; have hg : wr.grownBy w67 (some go65) := (by rw [hw]; exact HP66.2); have hp_ : Kd.R Kd.bool 4 w67 w.heap.size (fun k_ => some k_ ≠ (.slice (some ad736) x5_1.length co18 : Value).ownBlock) (.slice (some ⟨go65, 0, none⟩) x7_2.length co65) y737 := (by rw [hw, Ny737.out]; exact HP66.1); clear HP66; have n0_ := zq9 (Kd.R_after (v := (.slice (some ⟨go65, 0, none⟩) x7_2.length co65)) (v1 := (.slice (some ⟨go65, 0, none⟩) x7_2.length co65)) (ok := (fun _ => True)) (by (with_reducible repeat (first | apply zq10 | apply zq11 | apply zq12)); exact Kd.R_mono HO_5.out (fun _ hk => ⟨trivial, hk⟩)) hg (.inl rfl)); have n1_ := zq9 (hp_); have n2_ := zq9 ((by rw [hw]; exact zq28 (HB.out) GB65.out : Below w.heap.size w w67)); clear HO_5; clear HO_7; clear HB; have HO_5 := n0_; have HO_7 := n1_; have HB := n2_; clear n0_ n1_ n2_; clear hg hw hp_)); try go_wp2_with (first | ((with_reducible refine zq26 (t := 4) (p := 78) rfl ?_); (try (rw [drewN_self wr]; generalize hq_ : World.drewN wr _ = wr; have n0_ := zq9 (Kd.R_at hq_ HO_5.out); have n1_ := zq9 (Kd.R_at hq_ HO_7.out); have n2_ := zq9 (below_at hq_ HB.out); clear hq_ HO_5 HO_7 HB; have HO_5 := n0_; have HO_7 := n1_; have HB := n2_; clear n0_ n1_ n2_; (try (have HP66 := Kd.R_putg HO_7.out (x26_2 : Int) (rdOf false x5_1 (ji57)))); (try (obtain ⟨hx65_0, hf65_0⟩ := Kd.R_celln false HO_7.out (x26_2 : Int) (of_eq_true p65) (of_eq_true q65))))); refine store_event (t := 4) (p := 78) (v := ?vo_w67) (w1 := (wr.setCell ⟨go65, (x26_2 : Int).toNat, none⟩ (.bool (rdOf false x5_1 (ji57))))) ?hg ?ho ?hn ?hr ?_; (case ho => rfl); (case hg => rfl); (case hn => rfl); (case hr => first | (go_simp; done) | (go_simp; rfl)); intro w67 hw; have hg : wr.grownBy w67 (some go65) := (by rw [hw]; exact HP66.2); have hp_ : Kd.R Kd.bool 4 w67 w.heap.size (fun k_ => some k_ ≠ (.slice (some ad736) x5_1.length co18 : Value).ownBlock) (.slice (some ⟨go65, 0, none⟩) x7_2.length co65) y737 := (by rw [hw, Ny737.out]; exact HP66.1); clear HP66; have n0_ := zq9 (Kd.R_after (v := (.slice (some ⟨go65, 0, none⟩) x7_2.length co65)) (v1 := (.slice (some ⟨go65, 0, none⟩) x7_2.length co65)) (ok := (fun _ => True)) (by (with_reducible repeat (first | apply zq10 | apply zq11 | apply zq12)); exact Kd.R_mono HO_5.out (fun _ hk => ⟨trivial, hk⟩)) hg (.inl rfl)); have n1_ := zq9 (hp_); have n2_ := zq9 ((by rw [hw]; exact zq28 (HB.out) GB65.out : Below w.heap.size w w67)); clear HO_5; clear HO_7; clear HB; have HO_5 := n0_; have HO_7 := n1_; have HB := n2_; clear n0_ n1_ n2_; clear hg hw hp_)))
                       go_roundg k2
                       case measure => have := HK1.out; have := HK2.out; omega
                       case rel => exact ⟨(y737), (wrap64 (x26_2 + 1)), (by first | rfl | (simp; done) | (simp [*]; done)), H', ⟨by have := HK1.out; have := HK2.out; omega⟩, ⟨by (with_reducible repeat (first | apply zq10 | apply zq11 | apply zq12)); exact Kd.R_mono HO_5.out (fun _ hk => hk.2)⟩, ⟨by (with_reducible repeat (first | apply zq10 | apply zq11 | apply zq12)); exact HO_7.out⟩, ⟨by exact bl HB⟩⟩
                      ·rw [if_neg c64] at H
                       exact absurd H (by simp)
                     ·rw [if_neg c63] at H
                      exact absurd H (by simp)
                    ·rw [if_neg c62] at H
                     exact absurd H (by simp)
                   ·rw [if_neg c61] at H
                    have c61b0 : ((bt a0 x17_1) == (bt a1 (ji57))) = false := beq_eq_false_iff_ne.mpr c61
                    have c61b1 : ((bt a0 x17_1) != (bt a1 (ji57))) = true := bne_iff_ne.mpr c61
                    have H' := zq9 H; clear H
                    have p22 : 0 ≤ (x17_1 : Int) := of_decide_eq_true ‹_›
                    have q22 : x17_1 < (a0.size : Int) := of_decide_eq_true ‹_›
                    have hx22 := bt_at a0 x17_1
                    replace p22 := eq_true p22; replace q22 := eq_true q22
                    have p46 : 0 ≤ (x17_1 : Int) := of_decide_eq_true ‹_›
                    have q46 : x17_1 < (a0.size : Int) := of_decide_eq_true ‹_›
                    have hx46 := bt_at a0 x17_1
                    replace p46 := eq_true p46; replace q46 := eq_true q46
                    have p56 : 0 ≤ (x17_1 : Int) := of_decide_eq_true ‹_›
                    have q56 : x17_1 < (a0.size : Int) := of_decide_eq_true ‹_›
                    have hx56 := bt_at a0 x17_1
                    replace p56 := eq_true p56; replace q56 := eq_true q56
                    have p60 : 0 ≤ ((ji57) : Int) := of_decide_eq_true ‹_›
                    have q60 : (ji57) < (a1.size : Int) := of_decide_eq_true ‹_›
                    have hx60 := bt_at a1 (ji57)
                    replace p60 := eq_true p60; replace q60 := eq_true q60
                    go_wp2
                    repeat (go_quiet (fail); try go_wp2)
                    go_roundg k2
                    case measure => have := HK1.out; have := HK2.out; omega
                    case rel => exact ⟨(x7_2), (wrap64 (x26_2 + 1)), (by first | rfl | (simp; done) | (simp [*]; done)), H', ⟨by have := HK1.out; have := HK2.out; omega⟩, ⟨by (with_reducible repeat (first | apply zq10 | apply zq11 | apply zq12)); exact HO_5.out⟩, ⟨by (with_reducible repeat (first | apply zq10 | apply zq11 | apply zq12)); exact HO_7.out⟩, ⟨by exact bl HB⟩⟩
                  ·rw [if_neg c59] at H
                   exact absurd H (by simp)
                 ·rw [if_neg c58] at H
                  exact absurd H (by simp)
               ·rw [if_neg c45] at H; have c45b0 : decide (0 < x26_2) = false := decide_eq_false c45; clear c45; have H' := zq9 H; clear H
                have p22 : 0 ≤ (x17_1 : Int) := of_decide_eq_true ‹_›
                have q22 : x17_1 < (a0.size : Int) := of_decide_eq_true ‹_›
                have hx22 := bt_at a0 x17_1
                replace p22 := eq_true p22; replace q22 := eq_true q22
                go_wp2
                repeat (go_quiet (fail); try go_wp2)
                go_roundg k2
                case measure => have := HK1.out; have := HK2.out; omega
                case rel => exact ⟨(x7_2), (wrap64 (x26_2 + 1)), (by first | rfl | (simp; done) | (simp [*]; done)), H', ⟨by have := HK1.out; have := HK2.out; omega⟩, ⟨by (with_reducible repeat (first | apply zq10 | apply zq11 | apply zq12)); exact HO_5.out⟩, ⟨by (with_reducible repeat (first | apply zq10 | apply zq11 | apply zq12)); exact HO_7.out⟩, ⟨by exact bl HB⟩⟩
             ·rw [if_neg c21] at H
              exact absurd H (by simp)
            ·rw [if_neg c20] at H
             exact absurd H (by simp)
           ·rw [if_neg c19] at H; have c19b0 : decide (x26_2 < (x5_1.length : Int)) = false := decide_eq_false c19; clear c19; have H' := zq9 H; clear H
            go_wp2
            repeat (go_quiet (fail); try go_wp2)
            go_roundg k2
            case measure => have := HK1.out; have := HK2.out; omega
            case rel => exact ⟨(x7_2), (wrap64 (x17_1 + 1)), (by first | rfl | (simp; done) | (simp [*]; done)), H', ⟨by have := HK1.out; have := HK2.out; omega⟩, ⟨by (with_reducible repeat (first | apply zq10 | apply zq11 | apply zq12)); exact Kd.R_mono HO_7.out (fun _ hk => trivial)⟩, ⟨by exact bl HB⟩⟩
        ·rw [if_neg c15] at H
         exact absurd H (by simp)
       ·rw [if_neg c14] at H
        exact absurd H (by simp)
      ·rw [if_neg c12] at H; have c12b0 : decide (x17_1 < (a0.size : Int)) = false := decide_eq_false c12; clear c12
       by_cases c68 : 0 ≤ (a1.size : Int)
       ·rw [if_pos c68] at H; have c68b0 : decide (0 ≤ (a1.size : Int)) = true := decide_eq_true c68
        have c68b1 : decide (0 ≤ a1.size) = true := decide_eq_true (by omega)
        clear c68
        by_cases c69 : (a1.size : Int) < (x5_1.length : Int)
        ·rw [if_pos c69] at H; have c69b0 : decide ((a1.size : Int) < (x5_1.length : Int)) = true := decide_eq_true c69
         have c69b1 : decide (a1.size < x5_1.length) = true := decide_eq_true (Int.ofNat_lt.mp c69)
         clear c69; obtain rfl := Option.some.inj H
         obtain ⟨Ao70, co70, eo70⟩ := Kd.R_slice HO_5.out
         subst eo70
         have p725 : 0 ≤ ((a1.size : Int) : Int) := of_decide_eq_true ‹_›
         have q725 : (a1.size : Int) < (x5_1.length : Int) := of_decide_eq_true ‹_›
         obtain ⟨ad725, e725, hx725_0⟩ := Kd.at_bool (Kd.R_reads' HO_5.out).2.2 (a1.size : Int) p725 q725
         cases e725
         (try simp only [Go.IntWalk.toNatUp] at hx725_0)
         replace p725 := eq_true p725; replace q725 := eq_true q725
         go_wp2
         repeat (go_quiet (fail); try go_wp2)
         go_ret
         exact ⟨by first | rfl | (simp [errW_none, errW_some] <;> rfl) | (simp only [← hji3]; first | rfl | (simp [errW_none, errW_some] <;> rfl)) | (simp [*, errW_none, errW_some] <;> rfl), by exact bl HB⟩
        ·rw [if_neg c69] at H
         exact absurd H (by simp)
       ·rw [if_neg c68] at H
        exact absurd H (by simp)
   ·rw [if_neg c6] at H
    exact absurd H (by simp)
  ·rw [if_neg c5] at H
   exact absurd H (by simp)
 ·rw [if_neg c4] at H
  exact absurd H (by simp)
set_option maxHeartbeats 8000000 in
set_option maxRecDepth 100000 in
theorem impl_BaseKeys.calls (k : Nat) (a0_0 : Int) (A0_1 : Option Addr) (c0_1 : Nat) (l0_1 : List (S32)) (a1 : ByteArray) (r : List ByteArray) (w : World) (hr0_1 : Kd.C k32 w A0_1 l0_1.length l0_1) (hc0_1 : l0_1.length ≤ c0_1) (h : impl_BaseKeys.f k a0_0 l0_1 a1 = some r) :
  Calls Try.prog 22 #[.agg #[.int .i64 a0_0, .slice A0_1 l0_1.length c0_1], .string a1] w fun e w' => ∃ v0_ : Value, e = .returned (v0_) ∧ Kd.R Kd.string 9 w' w.heap.size (fun _ => True) v0_ r ∧ Below w.heap.size w w' := by
 have hu46 := Try.underlying46; have hu32 := Try.underlying32; have HR0_1 := zq9 hr0_1; have HC0_1 := zq9 hc0_1; clear hr0_1 hc0_1
 have HB := zq9 (Below.refl w.heap.size w)
 have H : ((some (([] : List ByteArray) : List ByteArray)).bind fun y739 => ((impl_BaseOk.f k a0_0 l0_1).bind fun t742 => (if t742 = true then (impl_BaseKeys.j0 k a1 y739 (decide ((a1.size : Int) > 12)) a0_0 l0_1) else (impl_BaseKeys.j0 k a1 y739 true a0_0 l0_1)))) = some r := h
 clear h
 obtain ⟨y739, hy739⟩ : ∃ y_ : List ByteArray, y_ = (([] : List ByteArray)) := ⟨_, rfl⟩
 replace H : ((impl_BaseOk.f k a0_0 l0_1).bind fun t742 => (if t742 = true then (impl_BaseKeys.j0 k a1 y739 (decide ((a1.size : Int) > 12)) a0_0 l0_1) else (impl_BaseKeys.j0 k a1 y739 true a0_0 l0_1))) = some r := by first | (rw [hy739]; with_reducible exact H) | (have H2_ := (Option.bind_some _ _).symm.trans H; rw [hy739]; with_reducible exact H2_) | (have H2_ := (Option.bind_some _ _).symm.trans H; with_reducible exact H2_) | with_reducible exact H | (rw [hy739]; exact H) | exact H
 have Ny739 := zq9 hy739; clear hy739; have HC3 := zq9 H; clear H
 go_enter Try.func22, Try.ntmps22
 go_upto_region 2 with (first | ((with_reducible refine zq25 (N := 2) rfl ?_); (try (refine gate_guard (by rfl) ?_; dsimp only)); refine bx 2 #[.int .i64 a0_0, .slice A0_1 l0_1.length c0_1] 46 ?_; intro gb738 hg w4 hbox hb; have n0_ := zq9 (zq27 (by exact bl HB) hb); have n1_ := zq9 (hbox); have n2_ := zq9 ((by rw [hg]; exact (zq29 (by exact bl HB)) : w.heap.size ≤ gb738)); have n3_ := n2_; clear HB; have HB := n0_; have BK738 := n1_; have GW738 := n2_; have GE738 := n3_; clear n0_ n1_ n2_ n3_; clear hb hbox hg) | ((with_reducible refine zq25 (N := 8) rfl ?_); (try (refine gate_guard (by rfl) ?_; dsimp only)); refine Kd.R_lit Kd.string _ 9 ?hg (N := 8) ?hd (xs := ([] : List ByteArray)) (inner := []) (ok := fun _ => True) (okp := fun _ => True) ?hr ?hp (fun _ hk => hk) trivial (Below.refl _ _) (Nat.le_refl _) (by simp) ?_; (case hd => rfl); (case hg => rfl); (case hr => first | (go_simp; done) | (go_simp; rfl)); (case hp => exact (Reps.none _ _)); intro v740 w5 ho6 hb hg_ hnew_; clear hg_ hnew_; (first | rw [← Ny739.out] at ho6 | (simp only [Int.reduceToNat] at ho6; rw [← Ny739.out] at ho6)); have n0_ := zq9 (Kd.R_lower ho6 (zq29 (by exact b1 HB GE738))); have n1_ := zq9 (zq30 (g := gb738) (o := .cells #[.int .i64 a0_0, .slice A0_1 l0_1.length c0_1] 46 (0, 0)) (by exact bk BK738) hb); have n2_ := zq9 (zq27 (by exact b1 HB GE738) hb); clear BK738; clear HB; have HO741 := n0_; have BK738 := n1_; have HB := n2_; clear n0_ n1_ n2_; clear hb ho6))
 (try simp only [Act.put, zq0, zq1, zq2])
 go_cut [16] (fun v16 wc => ∃ (kq : Nat) (x16_2 : Bool), v16 = .bool x16_2 ∧ Aside0 (impl_BaseKeys.j0 kq a1 y739 x16_2 a0_0 l0_1 = some r) ∧ Aside0 (kq ≤ k) ∧ Aside0 (Kd.R Kd.string 9 wc w.heap.size (fun _ => True) v740 y739) ∧ Aside0 (wc.heap[gb738]? = some (.cells #[.int .i64 a0_0, (.slice A0_1 l0_1.length c0_1)] 46 (0, 0))) ∧ Aside0 (Below w.heap.size w wc))
 case first =>
  have H := HC3.out; clear HC3; replace H := Option.bind_eq_some_iff.mp H; obtain ⟨t742, A70, H⟩ := H
  try dsimp only at H
  have A7 := zq9 A70; clear A70
  by_cases c8 : t742 = true
  ·subst c8
   have H1 : (impl_BaseKeys.j0 k a1 y739 (decide ((a1.size : Int) > 12)) a0_0 l0_1) = some r := by rw [if_pos rfl] at H; exact H
   clear H; have H := H1; clear H1; have H' := zq9 H; clear H
   have hcz9_0 : w5.cell? ⟨gb738, 0, none⟩ = some (.int .i64 a0_0) := bc BK738 0
   have hcz9_1 : w5.cell? ⟨gb738, 1, none⟩ = some (.slice A0_1 l0_1.length c0_1) := bc BK738 1
   have hfz9_0 := zq6 BK738.out 0
   have hfz9_1 := zq6 BK738.out 1
   go_wp2_with (first | ((with_reducible refine zq24 (f := 19) rfl ?_); refine gl (some 10) Try.func19 #[.agg #[.int .i64 a0_0, .slice A0_1 l0_1.length c0_1]] ?_; (with_reducible refine (impl_BaseOk.calls k a0_0 _ _ l0_1 true _ ?side1 ?side2 A7.out).mono ?_); (case side1 => exact kc HR0_1 HB); (case side2 => exact HC0_1.out); rintro e w10 ⟨rfl, hb⟩; refine ⟨_, rfl, ?_⟩; have n0_ := zq9 (Kd.R_below (by exact rz HO741) hb); have n1_ := zq9 (zq30 (g := gb738) (o := .cells #[.int .i64 a0_0, .slice A0_1 l0_1.length c0_1] 46 (0, 0)) (by exact bk BK738) hb); have n2_ := zq9 (zq27 (by exact b1 HB GE738) hb); clear HO741; clear BK738; clear HB; have HO741 := n0_; have BK738 := n1_; have HB := n2_; clear n0_ n1_ n2_; (try clear hb); (try clear hb2); (try clear hk); (try clear hi)))
   go_meet
   case rel => exact ⟨_, (decide ((a1.size : Int) > 12)), (by first | rfl | (simp; done) | (simp [*]; done)), H', ⟨by first | omega | exact Nat.le_refl _⟩, ⟨by (with_reducible repeat (first | apply zq10 | apply zq11 | apply zq12)); exact HO741.out⟩, ⟨by refine bp ?_; exact BK738.out⟩, ⟨by exact b1 HB GE738⟩⟩
  ·replace c8 := Bool.eq_false_iff.mpr c8
   subst c8
   have H1 : (impl_BaseKeys.j0 k a1 y739 true a0_0 l0_1) = some r := by rw [if_neg (show ¬ (false = true) by decide)] at H; exact H
   clear H; have H := H1; clear H1; have H' := zq9 H; clear H
   have hcz11_0 : w5.cell? ⟨gb738, 0, none⟩ = some (.int .i64 a0_0) := bc BK738 0
   have hcz11_1 : w5.cell? ⟨gb738, 1, none⟩ = some (.slice A0_1 l0_1.length c0_1) := bc BK738 1
   have hfz11_0 := zq6 BK738.out 0
   have hfz11_1 := zq6 BK738.out 1
   go_wp2_with (first | ((with_reducible refine zq24 (f := 19) rfl ?_); refine gl (some 10) Try.func19 #[.agg #[.int .i64 a0_0, .slice A0_1 l0_1.length c0_1]] ?_; (with_reducible refine (impl_BaseOk.calls k a0_0 _ _ l0_1 false _ ?side1 ?side2 A7.out).mono ?_); (case side1 => exact kc HR0_1 HB); (case side2 => exact HC0_1.out); rintro e w12 ⟨rfl, hb⟩; refine ⟨_, rfl, ?_⟩; have n0_ := zq9 (Kd.R_below (by exact rz HO741) hb); have n1_ := zq9 (zq30 (g := gb738) (o := .cells #[.int .i64 a0_0, .slice A0_1 l0_1.length c0_1] 46 (0, 0)) (by exact bk BK738) hb); have n2_ := zq9 (zq27 (by exact b1 HB GE738) hb); clear HO741; clear BK738; clear HB; have HO741 := n0_; have BK738 := n1_; have HB := n2_; clear n0_ n1_ n2_; (try clear hb); (try clear hb2); (try clear hk); (try clear hi)))
   go_meet
   case rel => exact ⟨_, (true), (by first | rfl | (simp; done) | (simp [*]; done)), H', ⟨by first | omega | exact Nat.le_refl _⟩, ⟨by (with_reducible repeat (first | apply zq10 | apply zq11 | apply zq12)); exact HO741.out⟩, ⟨by refine bp ?_; exact BK738.out⟩, ⟨by exact b1 HB GE738⟩⟩
 case rest =>
  clear HC3
  try clear c1
  try clear c2
  try clear p2
  try clear c8
  try clear hcz11_0
  try clear hcz11_1
  try clear hcz9_0
  try clear hcz9_1
  try clear hfz11_0
  try clear hfz11_1
  try clear hfz9_0
  try clear hfz9_1
  obtain ⟨kq, x16_2, rfl, HA, HJ2, HO_5, BK738, HB⟩ := hcut
  cases kq with
  | zero => exact absurd HA.out (by simp [impl_BaseKeys.j0])
  | succ kj2 =>
   have H := HA.out; clear HA
   simp only [impl_BaseKeys.j0] at H
   by_cases c13 : x16_2 = true
   ·subst c13
    have H1 : (some y739) = some r := by rw [if_pos rfl] at H; exact H
    clear H; have H := H1; clear H1; obtain rfl := Option.some.inj H
    go_wp2
    go_ret
    exact ⟨_, by first | rfl | (simp [errW_none, errW_some] <;> rfl) | (simp [*, errW_none, errW_some] <;> rfl), by (with_reducible repeat (first | apply zq10 | apply zq11 | apply zq12)); exact HO_5.out, by exact b1 HB GE738⟩
   ·replace c13 := Bool.eq_false_iff.mpr c13
    subst c13
    have H1 : (impl_BaseKeys.l0 kj2 a1 y739 l0_1 (l0_1.length : Int) 0) = some r := by rw [if_neg (show ¬ (false = true) by decide)] at H; exact H
    clear H; have H := H1; clear H1; have H' := zq9 H; clear H
    have hcz14_0 : wc.cell? ⟨gb738, 0, none⟩ = some (.int .i64 a0_0) := bc BK738 0
    have hcz14_1 : wc.cell? ⟨gb738, 1, none⟩ = some (.slice A0_1 l0_1.length c0_1) := bc BK738 1
    have hfz14_0 := zq6 BK738.out 0
    have hfz14_1 := zq6 BK738.out 1
    go_wp2
    go_loopg [5, 21] kj2 (fun kq v5 v21 w' => ∃ (x5_2 : List ByteArray) (x21_2 : Int), v21 = .int .i64 x21_2 ∧ Aside0 (impl_BaseKeys.l0 kq a1 x5_2 l0_1 (l0_1.length : Int) x21_2 = some r) ∧ Aside0 (kq ≤ kj2) ∧ Aside0 (Kd.R Kd.string 9 w' w.heap.size (fun _ => True) v5 x5_2) ∧ Aside0 (w'.heap[gb738]? = some (.cells #[.int .i64 a0_0, (.slice A0_1 l0_1.length c0_1)] 46 (0, 0))) ∧ Aside0 (Below w.heap.size w w'))
    case atStart => exact ⟨(y739), (0), (by first | rfl | (simp; done) | (simp [*]; done)), H', ⟨Nat.le_refl _⟩, ⟨by (with_reducible repeat (first | apply zq10 | apply zq11 | apply zq12)); exact HO_5.out⟩, ⟨by refine bp ?_; exact BK738.out⟩, ⟨by exact b1 HB GE738⟩⟩
    case round =>
     clear H'
     try clear c1
     try clear c2
     try clear p2
     try clear c8
     try clear c13
     try clear hcz11_0
     try clear hcz11_1
     try clear hcz14_0
     try clear hcz14_1
     try clear hcz9_0
     try clear hcz9_1
     try clear hfz11_0
     try clear hfz11_1
     try clear hfz14_0
     try clear hfz14_1
     try clear hfz9_0
     try clear hfz9_1
     try clear p2
     obtain ⟨x5_2, x21_2, rfl, HA, HK2, HO_5, BK738, HB⟩ := hrel
     cases gk with
     | zero => exact absurd HA.out (by simp [impl_BaseKeys.l0])
     | succ k2 =>
      have H := HA.out; clear HA
      simp only [impl_BaseKeys.l0] at H
      by_cases c15 : x21_2 < (l0_1.length : Int)
      ·rw [if_pos c15] at H; have c15b0 : decide (x21_2 < (l0_1.length : Int)) = true := decide_eq_true c15; clear c15
       by_cases c16 : 0 ≤ x21_2
       ·rw [if_pos c16] at H; have c16b0 : decide (0 ≤ x21_2) = true := decide_eq_true c16; clear c16
        by_cases c17 : x21_2 < (l0_1.length : Int)
        ·rw [if_pos c17] at H; have c17b0 : decide (x21_2 < (l0_1.length : Int)) = true := decide_eq_true c17; clear c17; replace H := Option.bind_eq_some_iff.mp H; obtain ⟨t745, A180, H⟩ := H
         try dsimp only at H
         have A18 := zq9 A180; clear A180
         by_cases c19 : t745 = true
         ·subst c19
          have H1 : (if x5_2.length < 8796093022208 then (impl_BaseKeys.l0 k2 a1 (x5_2 ++ [(rd_T32 l0_1 x21_2).f0]) l0_1 (l0_1.length : Int) (wrap64 (x21_2 + 1))) else (none)) = some r := by rw [if_pos rfl] at H; exact H
          clear H; have H := H1; clear H1
          by_cases c20 : x5_2.length < 8796093022208
          ·rw [if_pos c20] at H; have LMc20 := zq9 c20; clear c20
           obtain ⟨y746, hy746⟩ : ∃ y_ : List ByteArray, y_ = (x5_2 ++ [(rd_T32 l0_1 x21_2).f0]) := ⟨_, rfl⟩
           replace H : (impl_BaseKeys.l0 k2 a1 y746 l0_1 (l0_1.length : Int) (wrap64 (x21_2 + 1))) = some r := by first | (rw [hy746]; with_reducible exact H) | (have H2_ := (Option.bind_some _ _).symm.trans H; rw [hy746]; with_reducible exact H2_) | (have H2_ := (Option.bind_some _ _).symm.trans H; with_reducible exact H2_) | with_reducible exact H | (rw [hy746]; exact H) | exact H
           have Ny746 := zq9 hy746; clear hy746; have H' := zq9 H; clear H
           have p743 : 0 ≤ (x21_2 : Int) := of_decide_eq_true ‹_›
           have q743 : x21_2 < (l0_1.length : Int) := of_decide_eq_true ‹_›
           obtain ⟨ad743, A743_4, c743_4, A743_5, c743_5, A743_6, c743_6, e743, hx743_0, hx743_1, hx743_2, hx743_3, hx743_4, hx743_5, hx743_6, hl743_4, hi743_4, hl743_5, hi743_5, hl743_6, hi743_6⟩ := at_T32 HR0_1.out x21_2 p743 q743
           cases e743; replace hx743_0 := hcl HB hx743_0; replace hx743_1 := hcl HB hx743_1; replace hx743_2 := hcl HB hx743_2; replace hx743_3 := hcl HB hx743_3; replace hx743_4 := hcl HB hx743_4; replace hx743_5 := hcl HB hx743_5; replace hx743_6 := hcl HB hx743_6; have HR743_4 := zq9 hi743_4; have HC743_4 := zq9 hl743_4; clear hi743_4 hl743_4; have HR743_5 := zq9 hi743_5; have HC743_5 := zq9 hl743_5
           clear hi743_5 hl743_5; have HR743_6 := zq9 hi743_6; have HC743_6 := zq9 hl743_6; clear hi743_6 hl743_6; replace p743 := eq_true p743; replace q743 := eq_true q743
           go_wp2_with (first | ((with_reducible refine zq25 (N := 7) rfl ?_); (try (refine gate_guard (by rfl) ?_; dsimp only)); refine bx 7 #[.string (⟨#[]⟩ : ByteArray), .int .i64 0, .int .i64 0, .string (⟨#[]⟩ : ByteArray), .slice none 0 0, .slice none 0 0, .slice none 0 0] 32 ?_; intro gb744 hg w21 hbox hb; have n0_ := zq9 (Kd.R_below (by exact rz HO_5) hb); have n1_ := zq9 (zq30 (g := gb738) (o := .cells #[.int .i64 a0_0, .slice (some ad743) l0_1.length c0_1] 46 (0, 0)) (by exact bk BK738) hb); have n2_ := zq9 (zq27 (by exact b1 HB GE738) hb); have n3_ := zq9 (hbox); have n4_ := zq9 ((by rw [hg]; exact (zq29 (by exact b1 HB GE738)) : w.heap.size ≤ gb744)); have n5_ := n4_; have n6_ := zq9 ((by rw [hg]; exact Nat.ne_of_lt (blk_lt (g := gb738) (o := .cells #[.int .i64 a0_0, .slice (some ad743) l0_1.length c0_1] 46 (0, 0)) (by exact bk BK738)) : gb738 ≠ gb744)); have n7_ := zq9 ((by rw [hg]; exact Nat.ne_of_gt (blk_lt (g := gb738) (o := .cells #[.int .i64 a0_0, .slice (some ad743) l0_1.length c0_1] 46 (0, 0)) (by exact bk BK738)) : gb744 ≠ gb738)); clear HO_5; clear BK738; clear HB; have HO_5 := n0_; have BK738 := n1_; have HB := n2_; have BK744 := n3_; have GW744 := n4_; have GE744 := n5_; have NB738_744 := n6_; have NB744_738 := n7_; clear n0_ n1_ n2_ n3_ n4_ n5_ n6_ n7_; clear hb hbox hg; have hnb22 := NB744_738.out; have hnc22 := NB738_744.out; have hcz23_0 : w21.cell? ⟨gb744, 0, none⟩ = some (.string (⟨#[]⟩ : ByteArray)) := bc BK744 0; have hcz23_1 : w21.cell? ⟨gb744, 1, none⟩ = some (.int .i64 0) := bc BK744 1; have hcz23_2 : w21.cell? ⟨gb744, 2, none⟩ = some (.int .i64 0) := bc BK744 2; have hcz23_3 : w21.cell? ⟨gb744, 3, none⟩ = some (.string (⟨#[]⟩ : ByteArray)) := bc BK744 3; have hcz23_4 : w21.cell? ⟨gb744, 4, none⟩ = some (.slice none 0 0) := bc BK744 4; have hcz23_5 : w21.cell? ⟨gb744, 5, none⟩ = some (.slice none 0 0) := bc BK744 5; have hcz23_6 : w21.cell? ⟨gb744, 6, none⟩ = some (.slice none 0 0) := bc BK744 6; have hfz23_0 := zq6 BK744.out 0; have hfz23_1 := zq6 BK744.out 1; have hfz23_2 := zq6 BK744.out 2; have hfz23_3 := zq6 BK744.out 3; have hfz23_4 := zq6 BK744.out 4; have hfz23_5 := zq6 BK744.out 5; have hfz23_6 := zq6 BK744.out 6) | ((with_reducible refine zq24 (f := 62) rfl ?_); refine gl (some 28) Try.func62 #[.string a1, .string ((rd_T32 l0_1 x21_2).f0)] ?_; (with_reducible refine (impl_Match.calls k2 a1 ((rd_T32 l0_1 x21_2).f0) true _ A18.out).mono ?_); rintro e w24 ⟨rfl, hb⟩; refine ⟨_, rfl, ?_⟩; have n0_ := zq9 (Kd.R_below (by (with_reducible repeat (first | apply zq10 | apply zq11 | apply zq12)); exact (Kd.R_mono (Kd.R_far (p := ⟨gb744, 6, none⟩) (Kd.R_far (p := ⟨gb744, 5, none⟩) (Kd.R_far (p := ⟨gb744, 4, none⟩) (Kd.R_far (p := ⟨gb744, 3, none⟩) (Kd.R_far (p := ⟨gb744, 2, none⟩) (Kd.R_far (p := ⟨gb744, 1, none⟩) (Kd.R_far (p := ⟨gb744, 0, none⟩) (Kd.R_types HO_5.out BK744.out (by decide)) (fun _ hk => hk.2) (.string ((rd_T32 l0_1 x21_2).f0))) (fun _ hk => hk.2) (.int .i64 ((rd_T32 l0_1 x21_2).f1))) (fun _ hk => hk.2) (.int .i64 ((rd_T32 l0_1 x21_2).f2))) (fun _ hk => hk.2) (.string ((rd_T32 l0_1 x21_2).f3))) (fun _ hk => hk.2) (.slice A743_4 ((rd_T32 l0_1 x21_2).f4).length c743_4)) (fun _ hk => hk.2) (.slice A743_5 ((rd_T32 l0_1 x21_2).f5).length c743_5)) (fun _ hk => hk.2) (.slice A743_6 ((rd_T32 l0_1 x21_2).f6).length c743_6)) (fun _ h_ => h_.1))) hb); have n1_ := zq9 (zq30 (g := gb738) (o := .cells #[.int .i64 a0_0, .slice (some ad743) l0_1.length c0_1] 46 (0, 0)) (by refine bp ?_; refine blk_far ?_ NB738_744.out _; refine bp ?_; refine blk_far ?_ NB738_744.out _; refine bp ?_; refine blk_far ?_ NB738_744.out _; refine bp ?_; refine blk_far ?_ NB738_744.out _; refine bp ?_; refine blk_far ?_ NB738_744.out _; refine bp ?_; refine blk_far ?_ NB738_744.out _; refine bp ?_; refine blk_far ?_ NB738_744.out _; refine bp ?_; exact BK738.out) hb); have n2_ := zq9 (zq30 (g := gb744) (o := .cells #[.string ((rd_T32 l0_1 x21_2).f0), .int .i64 ((rd_T32 l0_1 x21_2).f1), .int .i64 ((rd_T32 l0_1 x21_2).f2), .string ((rd_T32 l0_1 x21_2).f3), .slice A743_4 ((rd_T32 l0_1 x21_2).f4).length c743_4, .slice A743_5 ((rd_T32 l0_1 x21_2).f5).length c743_5, .slice A743_6 ((rd_T32 l0_1 x21_2).f6).length c743_6] 32 (0, 0)) (by refine bp ?_; refine blk_put (cs := #[.string ((rd_T32 l0_1 x21_2).f0), .int .i64 ((rd_T32 l0_1 x21_2).f1), .int .i64 ((rd_T32 l0_1 x21_2).f2), .string ((rd_T32 l0_1 x21_2).f3), .slice A743_4 ((rd_T32 l0_1 x21_2).f4).length c743_4, .slice A743_5 ((rd_T32 l0_1 x21_2).f5).length c743_5, .slice none 0 0]) ?_ 6 _ rfl; refine bp ?_; refine blk_put (cs := #[.string ((rd_T32 l0_1 x21_2).f0), .int .i64 ((rd_T32 l0_1 x21_2).f1), .int .i64 ((rd_T32 l0_1 x21_2).f2), .string ((rd_T32 l0_1 x21_2).f3), .slice A743_4 ((rd_T32 l0_1 x21_2).f4).length c743_4, .slice none 0 0, .slice none 0 0]) ?_ 5 _ rfl; refine bp ?_; refine blk_put (cs := #[.string ((rd_T32 l0_1 x21_2).f0), .int .i64 ((rd_T32 l0_1 x21_2).f1), .int .i64 ((rd_T32 l0_1 x21_2).f2), .string ((rd_T32 l0_1 x21_2).f3), .slice none 0 0, .slice none 0 0, .slice none 0 0]) ?_ 4 _ rfl; refine bp ?_; refine blk_put (cs := #[.string ((rd_T32 l0_1 x21_2).f0), .int .i64 ((rd_T32 l0_1 x21_2).f1), .int .i64 ((rd_T32 l0_1 x21_2).f2), .string (⟨#[]⟩ : ByteArray), .slice none 0 0, .slice none 0 0, .slice none 0 0]) ?_ 3 _ rfl; refine bp ?_; refine blk_put (cs := #[.string ((rd_T32 l0_1 x21_2).f0), .int .i64 ((rd_T32 l0_1 x21_2).f1), .int .i64 0, .string (⟨#[]⟩ : ByteArray), .slice none 0 0, .slice none 0 0, .slice none 0 0]) ?_ 2 _ rfl; refine bp ?_; refine blk_put (cs := #[.string ((rd_T32 l0_1 x21_2).f0), .int .i64 0, .int .i64 0, .string (⟨#[]⟩ : ByteArray), .slice none 0 0, .slice none 0 0, .slice none 0 0]) ?_ 1 _ rfl; refine bp ?_; refine blk_put (cs := #[.string (⟨#[]⟩ : ByteArray), .int .i64 0, .int .i64 0, .string (⟨#[]⟩ : ByteArray), .slice none 0 0, .slice none 0 0, .slice none 0 0]) ?_ 0 _ rfl; refine bp ?_; exact BK744.out) hb); have n3_ := zq9 (zq27 (by exact b2 HB GE738 GE744) hb); clear HO_5; clear BK738; clear BK744; clear HB; have HO_5 := n0_; have BK738 := n1_; have BK744 := n2_; have HB := n3_; clear n0_ n1_ n2_ n3_; (try clear hb); (try clear hb2); (try clear hk); (try clear hi); have hcz25_0 : w24.cell? ⟨gb744, 0, none⟩ = some (.string ((rd_T32 l0_1 x21_2).f0)) := bc BK744 0; have hcz25_1 : w24.cell? ⟨gb744, 1, none⟩ = some (.int .i64 ((rd_T32 l0_1 x21_2).f1)) := bc BK744 1; have hcz25_2 : w24.cell? ⟨gb744, 2, none⟩ = some (.int .i64 ((rd_T32 l0_1 x21_2).f2)) := bc BK744 2; have hcz25_3 : w24.cell? ⟨gb744, 3, none⟩ = some (.string ((rd_T32 l0_1 x21_2).f3)) := bc BK744 3; have hcz25_4 : w24.cell? ⟨gb744, 4, none⟩ = some (.slice A743_4 ((rd_T32 l0_1 x21_2).f4).length c743_4) := bc BK744 4; have hcz25_5 : w24.cell? ⟨gb744, 5, none⟩ = some (.slice A743_5 ((rd_T32 l0_1 x21_2).f5).length c743_5) := bc BK744 5; have hcz25_6 : w24.cell? ⟨gb744, 6, none⟩ = some (.slice A743_6 ((rd_T32 l0_1 x21_2).f6).length c743_6) := bc BK744 6; have hfz25_0 := zq6 BK744.out 0; have hfz25_1 := zq6 BK744.out 1; have hfz25_2 := zq6 BK744.out 2; have hfz25_3 := zq6 BK744.out 3; have hfz25_4 := zq6 BK744.out 4; have hfz25_5 := zq6 BK744.out 5; have hfz25_6 := zq6 BK744.out 6) | ((with_reducible refine gate_builtin (b := .append) (xs := #[.tmp 29, .tmp 32]) rfl ?_); (try (refine gate_guard (by rfl) ?_; dsimp only)); at_builtin; refine Kd.R_append Kd.string (w0 := w) w.heap.size rfl (.tmp 29) (.tmp 32) 22 9 (.string ⟨#[]⟩) 16 rfl Try.underlying22 info9 rfl (by decide) (by omega) u5 x5_2 ((rd_T32 l0_1 x21_2).f0) [.string ((rd_T32 l0_1 x21_2).f0)] (fun _ => True) (fun _ => False) rfl rfl ?aP (fun _ hk => hk.elim) ?aF ?aO ?aB ?aS ?aL ?_; (case aP => exact rfl); (case aB => exact (by exact b2 HB GE738 GE744)); (case aF => exact (fun _ _ => trivial)); (case aO => exact (by exact rz HO_5)); (case aS => exact (zq29 (by exact b2 HB GE738 GE744))); (case aL => have := LMc20.out; omega); intro v747 w26 ho hb hg hat; rw [← Ny746.out] at ho; have n0_ := zq9 (blk_grown (g := gb738) (o := .cells #[.int .i64 a0_0, .slice (some ad743) l0_1.length c0_1] 46 (0, 0)) (by exact bk BK738) hg (Kd.R_ne HO_5.out BK738.out (by decide))); have n1_ := zq9 (blk_grown (g := gb744) (o := .cells #[.string ((rd_T32 l0_1 x21_2).f0), .int .i64 ((rd_T32 l0_1 x21_2).f1), .int .i64 ((rd_T32 l0_1 x21_2).f2), .string ((rd_T32 l0_1 x21_2).f3), .slice A743_4 ((rd_T32 l0_1 x21_2).f4).length c743_4, .slice A743_5 ((rd_T32 l0_1 x21_2).f5).length c743_5, .slice A743_6 ((rd_T32 l0_1 x21_2).f6).length c743_6] 32 (0, 0)) (by exact bk BK744) hg (Kd.R_ne HO_5.out BK744.out (by decide))); have n2_ := zq9 (hb); have n3_ := zq9 (ho); clear BK738; clear BK744; clear HB; clear HO_5; have BK738 := n0_; have BK744 := n1_; have HB := n2_; have HO748 := n3_; clear n0_ n1_ n2_ n3_; clear ho hb hg hat))
           go_roundg k2
           case measure => have := HJ2.out; have := HK2.out; omega
           case rel => exact ⟨(y746), (wrap64 (x21_2 + 1)), (by first | rfl | (simp; done) | (simp [*]; done)), H', ⟨by have := HJ2.out; have := HK2.out; omega⟩, ⟨by (with_reducible repeat (first | apply zq10 | apply zq11 | apply zq12)); exact HO748.out⟩, ⟨by refine bp ?_; exact BK738.out⟩, ⟨by exact b2 HB GE738 GE744⟩⟩
          ·rw [if_neg c20] at H
           exact absurd H (by simp)
         ·replace c19 := Bool.eq_false_iff.mpr c19
          subst c19
          have H1 : (impl_BaseKeys.l0 k2 a1 x5_2 l0_1 (l0_1.length : Int) (wrap64 (x21_2 + 1))) = some r := by rw [if_neg (show ¬ (false = true) by decide)] at H; exact H
          clear H; have H := H1; clear H1; have H' := zq9 H; clear H
          have p743 : 0 ≤ (x21_2 : Int) := of_decide_eq_true ‹_›
          have q743 : x21_2 < (l0_1.length : Int) := of_decide_eq_true ‹_›
          obtain ⟨ad743, A743_4, c743_4, A743_5, c743_5, A743_6, c743_6, e743, hx743_0, hx743_1, hx743_2, hx743_3, hx743_4, hx743_5, hx743_6, hl743_4, hi743_4, hl743_5, hi743_5, hl743_6, hi743_6⟩ := at_T32 HR0_1.out x21_2 p743 q743
          cases e743; replace hx743_0 := hcl HB hx743_0; replace hx743_1 := hcl HB hx743_1; replace hx743_2 := hcl HB hx743_2; replace hx743_3 := hcl HB hx743_3; replace hx743_4 := hcl HB hx743_4; replace hx743_5 := hcl HB hx743_5; replace hx743_6 := hcl HB hx743_6; have HR743_4 := zq9 hi743_4; have HC743_4 := zq9 hl743_4; clear hi743_4 hl743_4; have HR743_5 := zq9 hi743_5; have HC743_5 := zq9 hl743_5
          clear hi743_5 hl743_5; have HR743_6 := zq9 hi743_6; have HC743_6 := zq9 hl743_6; clear hi743_6 hl743_6; replace p743 := eq_true p743; replace q743 := eq_true q743
          go_wp2_with (first | ((with_reducible refine zq25 (N := 7) rfl ?_); (try (refine gate_guard (by rfl) ?_; dsimp only)); refine bx 7 #[.string (⟨#[]⟩ : ByteArray), .int .i64 0, .int .i64 0, .string (⟨#[]⟩ : ByteArray), .slice none 0 0, .slice none 0 0, .slice none 0 0] 32 ?_; intro gb744 hg w27 hbox hb; have n0_ := zq9 (Kd.R_below (by exact rz HO_5) hb); have n1_ := zq9 (zq30 (g := gb738) (o := .cells #[.int .i64 a0_0, .slice (some ad743) l0_1.length c0_1] 46 (0, 0)) (by exact bk BK738) hb); have n2_ := zq9 (zq27 (by exact b1 HB GE738) hb); have n3_ := zq9 (hbox); have n4_ := zq9 ((by rw [hg]; exact (zq29 (by exact b1 HB GE738)) : w.heap.size ≤ gb744)); have n5_ := n4_; have n6_ := zq9 ((by rw [hg]; exact Nat.ne_of_lt (blk_lt (g := gb738) (o := .cells #[.int .i64 a0_0, .slice (some ad743) l0_1.length c0_1] 46 (0, 0)) (by exact bk BK738)) : gb738 ≠ gb744)); have n7_ := zq9 ((by rw [hg]; exact Nat.ne_of_gt (blk_lt (g := gb738) (o := .cells #[.int .i64 a0_0, .slice (some ad743) l0_1.length c0_1] 46 (0, 0)) (by exact bk BK738)) : gb744 ≠ gb738)); clear HO_5; clear BK738; clear HB; have HO_5 := n0_; have BK738 := n1_; have HB := n2_; have BK744 := n3_; have GW744 := n4_; have GE744 := n5_; have NB738_744 := n6_; have NB744_738 := n7_; clear n0_ n1_ n2_ n3_ n4_ n5_ n6_ n7_; clear hb hbox hg; have hnb28 := NB744_738.out; have hnc28 := NB738_744.out; have hcz29_0 : w27.cell? ⟨gb744, 0, none⟩ = some (.string (⟨#[]⟩ : ByteArray)) := bc BK744 0; have hcz29_1 : w27.cell? ⟨gb744, 1, none⟩ = some (.int .i64 0) := bc BK744 1; have hcz29_2 : w27.cell? ⟨gb744, 2, none⟩ = some (.int .i64 0) := bc BK744 2; have hcz29_3 : w27.cell? ⟨gb744, 3, none⟩ = some (.string (⟨#[]⟩ : ByteArray)) := bc BK744 3; have hcz29_4 : w27.cell? ⟨gb744, 4, none⟩ = some (.slice none 0 0) := bc BK744 4; have hcz29_5 : w27.cell? ⟨gb744, 5, none⟩ = some (.slice none 0 0) := bc BK744 5; have hcz29_6 : w27.cell? ⟨gb744, 6, none⟩ = some (.slice none 0 0) := bc BK744 6; have hfz29_0 := zq6 BK744.out 0; have hfz29_1 := zq6 BK744.out 1; have hfz29_2 := zq6 BK744.out 2; have hfz29_3 := zq6 BK744.out 3; have hfz29_4 := zq6 BK744.out 4; have hfz29_5 := zq6 BK744.out 5; have hfz29_6 := zq6 BK744.out 6) | ((with_reducible refine zq24 (f := 62) rfl ?_); refine gl (some 28) Try.func62 #[.string a1, .string ((rd_T32 l0_1 x21_2).f0)] ?_; (with_reducible refine (impl_Match.calls k2 a1 ((rd_T32 l0_1 x21_2).f0) false _ A18.out).mono ?_); rintro e w30 ⟨rfl, hb⟩; refine ⟨_, rfl, ?_⟩; have n0_ := zq9 (Kd.R_below (by (with_reducible repeat (first | apply zq10 | apply zq11 | apply zq12)); exact (Kd.R_mono (Kd.R_far (p := ⟨gb744, 6, none⟩) (Kd.R_far (p := ⟨gb744, 5, none⟩) (Kd.R_far (p := ⟨gb744, 4, none⟩) (Kd.R_far (p := ⟨gb744, 3, none⟩) (Kd.R_far (p := ⟨gb744, 2, none⟩) (Kd.R_far (p := ⟨gb744, 1, none⟩) (Kd.R_far (p := ⟨gb744, 0, none⟩) (Kd.R_types HO_5.out BK744.out (by decide)) (fun _ hk => hk.2) (.string ((rd_T32 l0_1 x21_2).f0))) (fun _ hk => hk.2) (.int .i64 ((rd_T32 l0_1 x21_2).f1))) (fun _ hk => hk.2) (.int .i64 ((rd_T32 l0_1 x21_2).f2))) (fun _ hk => hk.2) (.string ((rd_T32 l0_1 x21_2).f3))) (fun _ hk => hk.2) (.slice A743_4 ((rd_T32 l0_1 x21_2).f4).length c743_4)) (fun _ hk => hk.2) (.slice A743_5 ((rd_T32 l0_1 x21_2).f5).length c743_5)) (fun _ hk => hk.2) (.slice A743_6 ((rd_T32 l0_1 x21_2).f6).length c743_6)) (fun _ h_ => h_.1))) hb); have n1_ := zq9 (zq30 (g := gb738) (o := .cells #[.int .i64 a0_0, .slice (some ad743) l0_1.length c0_1] 46 (0, 0)) (by refine bp ?_; refine blk_far ?_ NB738_744.out _; refine bp ?_; refine blk_far ?_ NB738_744.out _; refine bp ?_; refine blk_far ?_ NB738_744.out _; refine bp ?_; refine blk_far ?_ NB738_744.out _; refine bp ?_; refine blk_far ?_ NB738_744.out _; refine bp ?_; refine blk_far ?_ NB738_744.out _; refine bp ?_; refine blk_far ?_ NB738_744.out _; refine bp ?_; exact BK738.out) hb); have n2_ := zq9 (zq30 (g := gb744) (o := .cells #[.string ((rd_T32 l0_1 x21_2).f0), .int .i64 ((rd_T32 l0_1 x21_2).f1), .int .i64 ((rd_T32 l0_1 x21_2).f2), .string ((rd_T32 l0_1 x21_2).f3), .slice A743_4 ((rd_T32 l0_1 x21_2).f4).length c743_4, .slice A743_5 ((rd_T32 l0_1 x21_2).f5).length c743_5, .slice A743_6 ((rd_T32 l0_1 x21_2).f6).length c743_6] 32 (0, 0)) (by refine bp ?_; refine blk_put (cs := #[.string ((rd_T32 l0_1 x21_2).f0), .int .i64 ((rd_T32 l0_1 x21_2).f1), .int .i64 ((rd_T32 l0_1 x21_2).f2), .string ((rd_T32 l0_1 x21_2).f3), .slice A743_4 ((rd_T32 l0_1 x21_2).f4).length c743_4, .slice A743_5 ((rd_T32 l0_1 x21_2).f5).length c743_5, .slice none 0 0]) ?_ 6 _ rfl; refine bp ?_; refine blk_put (cs := #[.string ((rd_T32 l0_1 x21_2).f0), .int .i64 ((rd_T32 l0_1 x21_2).f1), .int .i64 ((rd_T32 l0_1 x21_2).f2), .string ((rd_T32 l0_1 x21_2).f3), .slice A743_4 ((rd_T32 l0_1 x21_2).f4).length c743_4, .slice none 0 0, .slice none 0 0]) ?_ 5 _ rfl; refine bp ?_; refine blk_put (cs := #[.string ((rd_T32 l0_1 x21_2).f0), .int .i64 ((rd_T32 l0_1 x21_2).f1), .int .i64 ((rd_T32 l0_1 x21_2).f2), .string ((rd_T32 l0_1 x21_2).f3), .slice none 0 0, .slice none 0 0, .slice none 0 0]) ?_ 4 _ rfl; refine bp ?_; refine blk_put (cs := #[.string ((rd_T32 l0_1 x21_2).f0), .int .i64 ((rd_T32 l0_1 x21_2).f1), .int .i64 ((rd_T32 l0_1 x21_2).f2), .string (⟨#[]⟩ : ByteArray), .slice none 0 0, .slice none 0 0, .slice none 0 0]) ?_ 3 _ rfl; refine bp ?_; refine blk_put (cs := #[.string ((rd_T32 l0_1 x21_2).f0), .int .i64 ((rd_T32 l0_1 x21_2).f1), .int .i64 0, .string (⟨#[]⟩ : ByteArray), .slice none 0 0, .slice none 0 0, .slice none 0 0]) ?_ 2 _ rfl; refine bp ?_; refine blk_put (cs := #[.string ((rd_T32 l0_1 x21_2).f0), .int .i64 0, .int .i64 0, .string (⟨#[]⟩ : ByteArray), .slice none 0 0, .slice none 0 0, .slice none 0 0]) ?_ 1 _ rfl; refine bp ?_; refine blk_put (cs := #[.string (⟨#[]⟩ : ByteArray), .int .i64 0, .int .i64 0, .string (⟨#[]⟩ : ByteArray), .slice none 0 0, .slice none 0 0, .slice none 0 0]) ?_ 0 _ rfl; refine bp ?_; exact BK744.out) hb); have n3_ := zq9 (zq27 (by exact b2 HB GE738 GE744) hb); clear HO_5; clear BK738; clear BK744; clear HB; have HO_5 := n0_; have BK738 := n1_; have BK744 := n2_; have HB := n3_; clear n0_ n1_ n2_ n3_; (try clear hb); (try clear hb2); (try clear hk); (try clear hi)))
          go_roundg k2
          case measure => have := HJ2.out; have := HK2.out; omega
          case rel => exact ⟨(x5_2), (wrap64 (x21_2 + 1)), (by first | rfl | (simp; done) | (simp [*]; done)), H', ⟨by have := HJ2.out; have := HK2.out; omega⟩, ⟨by (with_reducible repeat (first | apply zq10 | apply zq11 | apply zq12)); exact HO_5.out⟩, ⟨by refine bp ?_; exact BK738.out⟩, ⟨by exact b2 HB GE738 GE744⟩⟩
        ·rw [if_neg c17] at H
         exact absurd H (by simp)
       ·rw [if_neg c16] at H
        exact absurd H (by simp)
      ·rw [if_neg c15] at H; have c15b0 : decide (x21_2 < (l0_1.length : Int)) = false := decide_eq_false c15; clear c15; obtain rfl := Option.some.inj H
       go_wp2
       go_ret
       exact ⟨_, by first | rfl | (simp [errW_none, errW_some] <;> rfl) | (simp [*, errW_none, errW_some] <;> rfl), by (with_reducible repeat (first | apply zq10 | apply zq11 | apply zq12)); exact HO_5.out, by exact b1 HB GE738⟩
set_option maxHeartbeats 8000000 in
set_option maxRecDepth 100000 in
theorem laws_markText.calls (k : Nat) (a0 : Int) (r : ByteArray) (w : World) (h : laws_markText.f k a0 = some r) :
    Calls Try.prog 64 #[.int .i64 a0] w fun e w' => e = .returned (.string r) ∧ Below w.heap.size w w' := by
  have HB := zq9 (Below.refl w.heap.size w)
  have H : (if a0 ≤ 0 then (some (⟨#[109, 48]⟩ : ByteArray)) else (laws_markText.l0 k a0 (⟨#[]⟩ : ByteArray))) = some r := h
  clear h
  go_enter Try.func64, Try.ntmps64
  by_cases c2 : a0 ≤ 0
  · rw [if_pos c2] at H; have c2b0 : decide (a0 ≤ 0) = true := decide_eq_true c2; clear c2; obtain rfl := Option.some.inj H
    go_wp2
    go_ret
    exact fz (by exact bl HB)
  · rw [if_neg c2] at H; have c2b0 : decide (a0 ≤ 0) = false := decide_eq_false c2; clear c2; have H' := zq9 H; clear H
    go_wp2
    go_loopg [0, 3] k (fun kq v0 v3 w' => ∃ (x0_1 : Int) (x3_1 : ByteArray), v0 = .int .i64 x0_1 ∧ v3 = .string x3_1 ∧ Aside0 (laws_markText.l0 kq x0_1 x3_1 = some r) ∧ Aside0 (kq ≤ k) ∧ Aside0 (Below w.heap.size w w'))
    case atStart => exact ⟨(a0), ((⟨#[]⟩ : ByteArray)), (by first | rfl | (simp; done) | (simp [*]; done)), (by first | rfl | (simp; done) | (simp [*]; done)), H', ⟨Nat.le_refl _⟩, ⟨by exact bl HB⟩⟩
    case round =>
      clear H'
      try clear c2
      try clear c2b0
      try clear p2
      obtain ⟨x0_1, x3_1, rfl, rfl, HA, HK1, HB⟩ := hrel
      cases gk with
      | zero => exact absurd HA.out (by simp [laws_markText.l0])
      | succ k1 =>
        have H := HA.out; clear HA
        simp only [laws_markText.l0] at H
        by_cases c3 : x0_1 > 0
        · rw [if_pos c3] at H; have c3b0 : decide (0 < x0_1) = true := decide_eq_true c3; clear c3
          obtain ⟨y749, hy749⟩ : ∃ y_ : List Int, y_ = (([(wrap64 (48 + (Int.tmod x0_1 10))) % 256] : List Int)) := ⟨_, rfl⟩
          replace H : (if (strOfNums y749).size + x3_1.size ≤ 9223372036854775807 then (laws_markText.l0 k1 (wrap64 (Int.tdiv x0_1 10)) ((strOfNums y749) ++ x3_1)) else (none)) = some r := by first | (rw [hy749]; with_reducible exact H) | (have H2_ := (Option.bind_some _ _).symm.trans H; rw [hy749]; with_reducible exact H2_) | (have H2_ := (Option.bind_some _ _).symm.trans H; with_reducible exact H2_) | with_reducible exact H | (rw [hy749]; exact H) | exact H
          have Ny749 := zq9 hy749; clear hy749
          by_cases c4 : (strOfNums y749).size + x3_1.size ≤ 9223372036854775807
          · rw [if_pos c4] at H
            have c4b0 := eq_true c4
            have c4b1 : decide ((strOfNums y749).size + x3_1.size ≤ 9223372036854775807) = true := decide_eq_true c4
            try have c4b2 : (9223372036854775807 < (strOfNums y749).size + x3_1.size) = False := eq_false (Nat.not_lt.2 c4)
            have H' := zq9 H; clear H
            go_wp2_with (first | ((with_reducible refine zq25 (N := 12) rfl ?_); refine Kd.R_lit (Kd.int .u8) _ 5 ?hg (N := 12) ?hd (xs := ([(wrap64 (48 + (Int.tmod x0_1 10))) % 256] : List Int)) (inner := [.int .u8 ((wrap64 (48 + (Int.tmod x0_1 10))) % 256)]) (ok := fun _ => True) (okp := fun _ => True) ?hr ?hp (fun _ hk => hk) trivial (Below.refl _ _) (Nat.le_refl _) (by simp) ?_; (case hd => rfl); (case hg => rfl); (case hr => first | (go_simp; done) | (go_simp; rfl)); (case hp => exact (Reps.one (show Kd.M (Kd.int .u8) _ _ _ ((wrap64 (48 + (Int.tmod x0_1 10))) % 256) [.int .u8 ((wrap64 (48 + (Int.tmod x0_1 10))) % 256)] from rfl) (Reps.none _ _))); intro v750 w5 ho6 hb hg_ hnew_; clear hg_ hnew_; (first | rw [← Ny749.out] at ho6 | (simp only [Int.reduceToNat] at ho6; rw [← Ny749.out] at ho6)); have n0_ := zq9 (Kd.R_lower ho6 (zq29 (by exact bl HB))); have n1_ := zq9 (zq27 (by exact bl HB) hb); clear HB; have HO751 := n0_; have HB := n1_; clear n0_ n1_; clear hb ho6; have hcv7 := own_string (P := Try.prog) Try.underlying36 Try.underlying5 Try.underlying9 (Kd.own_of_R HO751.out)))
            go_roundg k1
            case measure => have := HK1.out; omega
            case rel => exact ⟨(wrap64 (Int.tdiv x0_1 10)), ((strOfNums y749) ++ x3_1), (by first | rfl | (simp; done) | (simp [*]; done)), (by first | rfl | (simp; done) | (simp [*]; done)), H', ⟨by have := HK1.out; omega⟩, ⟨by exact bl HB⟩⟩
          · rw [if_neg c4] at H
            exact absurd H (by simp)
        · rw [if_neg c3] at H; have c3b0 : decide (0 < x0_1) = false := decide_eq_false c3; clear c3
          by_cases c8 : 1 + x3_1.size ≤ 9223372036854775807
          · rw [if_pos c8] at H
            have c8b0 := eq_true c8
            have c8b1 : decide (1 + x3_1.size ≤ 9223372036854775807) = true := decide_eq_true c8
            try have c8b2 : (9223372036854775807 < 1 + x3_1.size) = False := eq_false (Nat.not_lt.2 c8)
            obtain rfl := Option.some.inj H
            go_wp2
            go_ret
            exact fz (by exact bl HB)
          · rw [if_neg c8] at H
            exact absurd H (by simp)
set_option maxHeartbeats 8000000 in
set_option maxRecDepth 100000 in
theorem laws_markStringS.calls (k : Nat) (P0_ : Nat → Prop) (u9000_ : Value) (l0 : List ByteArray) (a1 : Int) (r1 : Int) (r2 : List ByteArray) (w0 w : World) (hB : Below w0.heap.size w0 w) (ho0 : Kd.R Kd.string 9 w w0.heap.size P0_ u9000_ l0) (h : laws_markStringS.f k l0 a1 = some (r1, r2)) :
    Calls Try.prog 25 #[u9000_, .int .i64 a1] w fun e w' => e = .returned (.int .i64 r1) ∧ Kd.R Kd.string 9 w' w0.heap.size (fun k_ => (P0_ k_ ∨ w.heap.size ≤ k_)) u9000_ r2 ∧ Below w0.heap.size w0 w' ∧ Kept w w' (fun k_ => P0_ k_) := by
  have HO0 := zq9 (show Kd.R Kd.string 9 w w0.heap.size (fun k_ => (P0_ k_ ∨ w.heap.size ≤ k_)) u9000_ l0 from Kd.R_mono ho0 (fun k_ hk => (.inl hk)))
  have HK := zq9 (Kept.refl w (fun k_ => P0_ k_))
  have HW0 := zq9 hB.size; have HB := zq9 hB; clear hB
  have H : (laws_markStringS.l0 k l0 a1 0) = some (r1, r2) := h
  clear h; have H' := zq9 H; clear H
  go_enter Try.func25, Try.ntmps25
  go_wp2
  go_loopg [1, 5] k (fun kq v1 v5 w' => ∃ (x0_1 : List ByteArray) (x1_1 : Int) (x5_1 : Int), v1 = .int .i64 x1_1 ∧ v5 = .int .i64 x5_1 ∧ Aside0 (laws_markStringS.l0 kq x0_1 x1_1 x5_1 = some (r1, r2)) ∧ Aside0 (kq ≤ k) ∧ Aside0 (Kd.R Kd.string 9 w' w0.heap.size (fun k_ => (P0_ k_ ∨ w.heap.size ≤ k_)) u9000_ x0_1) ∧ Aside0 (Kept w w' (fun k_ => P0_ k_)) ∧ Aside0 (Below w0.heap.size w0 w'))
  case atStart => exact ⟨(l0), (a1), (0), (by first | rfl | (simp; done) | (simp [*]; done)), (by first | rfl | (simp; done) | (simp [*]; done)), H', ⟨Nat.le_refl _⟩, ⟨by (with_reducible repeat (first | apply zq10 | apply zq11 | apply zq12)); exact HO0.out⟩, ⟨by repeat (first | (with_reducible first | exact HK.out | apply Kept.alloc | apply Kept.drewN | apply Kept.drew) | exact HK.out)⟩, ⟨by exact bl HB⟩⟩
  case round =>
    clear H'
    try clear c2
    try clear p2
    obtain ⟨x0_1, x1_1, x5_1, rfl, rfl, HA, HK1, HO_0, HK, HB⟩ := hrel
    cases gk with
    | zero => exact absurd HA.out (by simp [laws_markStringS.l0])
    | succ k1 =>
      have H := HA.out; clear HA
      simp only [laws_markStringS.l0] at H
      obtain ⟨Ao7, co7, eo7⟩ := Kd.R_slice HO_0.out
      subst eo7
      by_cases c3 : x5_1 < (x0_1.length : Int)
      · rw [if_pos c3] at H; have c3b0 : decide (x5_1 < (x0_1.length : Int)) = true := decide_eq_true c3; clear c3; replace H := Option.bind_eq_some_iff.mp H; obtain ⟨t752, A40, H⟩ := H
        try dsimp only at H
        have A4 := zq9 A40; clear A40
        by_cases c5 : 0 ≤ x5_1
        · rw [if_pos c5] at H; have c5b0 : decide (0 ≤ x5_1) = true := decide_eq_true c5; clear c5
          obtain ⟨y753, hy753⟩ : ∃ y_ : List ByteArray, y_ = (x0_1.set (x5_1 : Int).toNat t752) := ⟨_, rfl⟩
          replace H : (laws_markStringS.l0 k1 y753 (wrap64 (x1_1 + 1)) (wrap64 (x5_1 + 1))) = some (r1, r2) := by first | (rw [hy753]; with_reducible exact H) | (have H2_ := (Option.bind_some _ _).symm.trans H; rw [hy753]; with_reducible exact H2_) | (have H2_ := (Option.bind_some _ _).symm.trans H; with_reducible exact H2_) | with_reducible exact H | (rw [hy753]; exact H) | exact H
          have Ny753 := zq9 hy753; clear hy753; have H' := zq9 H; clear H
          go_wp2_with (first | ((with_reducible refine zq24 (f := 64) rfl ?_); refine gl (some 15) Try.func64 #[.int .i64 x1_1] ?_; (with_reducible refine (laws_markText.calls k1 x1_1 t752 _ A4.out).mono ?_); rintro e w8 ⟨rfl, hb⟩; refine ⟨_, rfl, ?_⟩; have n0_ := zq9 (Kd.R_below (by exact rz HO_0) hb); have n1_ := zq9 (Kept.below (S := (fun k_ => P0_ k_)) (by repeat (first | (with_reducible first | exact HK.out | apply Kept.alloc | apply Kept.drewN | apply Kept.drew) | exact HK.out)) hb); have n2_ := zq9 (zq27 (by exact bl HB) hb); clear HO_0; clear HK; clear HB; have HO_0 := n0_; have HK := n1_; have HB := n2_; clear n0_ n1_ n2_; (try clear hb); (try clear hb2); (try clear hk); (try clear hi); have p6 : 0 ≤ (x5_1 : Int) := of_decide_eq_true ‹_›; have q6 : (x5_1 : Int) < ((x0_1.length : Int) : Int) := of_decide_eq_true ‹_›; obtain ⟨go6, co6, eo6, gb6, gl6, cl6, HG6⟩ := Kd.R_form HO_0.out (by omega); (first | cases eo6 | (injection eo6 with ea_ en_ ec_; (first | subst ea_ | (injection ea_ with ea_; subst ea_)); subst ec_; clear en_)); have GB6 := zq9 gb6; have GG6 := zq9 HG6; clear gb6 gl6 HG6; have HMgo6 := zq9 (show (P0_ go6 ∨ w.heap.size ≤ go6) from (HO_0.out.1 _ rfl)); obtain ⟨hx6_0, hf6_0⟩ := Kd.R_celln (⟨#[]⟩ : ByteArray) HO_0.out (x5_1 : Int) p6 q6; replace p6 := eq_true p6; replace q6 := eq_true q6; obtain ⟨hy9_, hz9_⟩ := Kd.R_celln (⟨#[]⟩ : ByteArray) HO_0.out (x5_1 : Int) (of_decide_eq_true ‹_›) (of_decide_eq_true ‹_›); have HP9 := Kd.R_putg HO_0.out (x5_1 : Int) t752) | ((with_reducible refine zq26 (t := 9) (p := 16) rfl ?_); refine store_event (t := 9) (p := 16) (v := ?vo_w10) (w1 := (w8.setCell ⟨go6, (x5_1 : Int).toNat, none⟩ (.string t752))) ?hg ?ho ?hn ?hr ?_; (case ho => rfl); (case hg => rfl); (case hn => rfl); (case hr => first | (go_simp; done) | (go_simp; rfl)); intro w10 hw; have hg : w8.grownBy w10 (some go6) := (by rw [hw]; exact HP9.2); have hp_ : Kd.R Kd.string 9 w10 w0.heap.size (fun k_ => (P0_ k_ ∨ w.heap.size ≤ k_)) (.slice (some ⟨go6, 0, none⟩) x0_1.length co7) y753 := (by rw [hw, Ny753.out]; exact HP9.1); clear HP9; have n0_ := zq9 (hp_); have n1_ := zq9 ((by rw [hw]; exact zq28 (HB.out) GB6.out : Below w0.heap.size w0 w10)); have n2_ := zq9 (Kept.of_grown (S := (fun k_ => P0_ k_)) hg (by repeat (first | (with_reducible first | exact HK.out | apply Kept.alloc | apply Kept.drewN | apply Kept.drew) | exact HK.out)) (fun k_ e_ => (HO_0.out.1 k_ e_))); clear HO_0; clear HB; clear HK; have HO_0 := n0_; have HB := n1_; have HK := n2_; clear n0_ n1_ n2_; clear hg hw hp_))
          go_roundg k1
          case measure => have := HK1.out; omega
          case rel => exact ⟨(y753), (wrap64 (x1_1 + 1)), (wrap64 (x5_1 + 1)), (by first | rfl | (simp; done) | (simp [*]; done)), (by first | rfl | (simp; done) | (simp [*]; done)), H', ⟨by have := HK1.out; omega⟩, ⟨by (with_reducible repeat (first | apply zq10 | apply zq11 | apply zq12)); exact HO_0.out⟩, ⟨by repeat (first | (with_reducible first | exact HK.out | apply Kept.alloc | apply Kept.drewN | apply Kept.drew) | exact HK.out)⟩, ⟨by exact bl HB⟩⟩
        · rw [if_neg c5] at H
          exact absurd H (by simp)
      · rw [if_neg c3] at H; have c3b0 : decide (x5_1 < (x0_1.length : Int)) = false := decide_eq_false c3; clear c3
        simp only [Option.some.injEq, Prod.mk.injEq] at H
        obtain ⟨rfl, rfl⟩ := H
        go_wp2
        go_ret
        exact ⟨by first | rfl | (simp [errW_none, errW_some] <;> rfl) | (simp [*, errW_none, errW_some] <;> rfl), by (with_reducible repeat (first | apply zq10 | apply zq11 | apply zq12)); exact HO_0.out, by exact bl HB, by repeat (first | (with_reducible first | exact HK.out | apply Kept.alloc | apply Kept.drewN | apply Kept.drew) | exact HK.out)⟩
set_option maxHeartbeats 8000000 in
set_option maxRecDepth 100000 in
theorem laws_markScoreS.calls (k : Nat) (P0_ : Nat → Prop) (u9000_ : Value) (l0 : List (S99)) (a1 : Int) (r1 : Int) (r2 : List (S99)) (w0 w : World) (hB : Below w0.heap.size w0 w) (ho0 : Kd.R k99 99 w w0.heap.size P0_ u9000_ l0) (h : laws_markScoreS.f k l0 a1 = some (r1, r2)) :
    Calls Try.prog 69 #[u9000_, .int .i64 a1] w fun e w' => e = .returned (.int .i64 r1) ∧ Kd.R k99 99 w' w0.heap.size (fun k_ => (P0_ k_ ∨ w.heap.size ≤ k_)) u9000_ r2 ∧ Below w0.heap.size w0 w' ∧ Kept w w' (fun k_ => P0_ k_) := by
  have HO0 := zq9 (show Kd.R k99 99 w w0.heap.size (fun k_ => (P0_ k_ ∨ w.heap.size ≤ k_)) u9000_ l0 from Kd.R_mono ho0 (fun k_ hk => (.inl hk)))
  have HK := zq9 (Kept.refl w (fun k_ => P0_ k_))
  have HW0 := zq9 hB.size; have HB := zq9 hB; clear hB
  have H : (laws_markScoreS.l0 k l0 a1 0) = some (r1, r2) := h
  clear h; have H' := zq9 H; clear H
  go_enter Try.func69, Try.ntmps69
  go_wp2
  go_loopg [1, 5] k (fun kq v1 v5 w' => ∃ (x0_1 : List (S99)) (x1_1 : Int) (x5_1 : Int), v1 = .int .i64 x1_1 ∧ v5 = .int .i64 x5_1 ∧ Aside0 (laws_markScoreS.l0 kq x0_1 x1_1 x5_1 = some (r1, r2)) ∧ Aside0 (kq ≤ k) ∧ Aside0 (Kd.R k99 99 w' w0.heap.size (fun k_ => (P0_ k_ ∨ w.heap.size ≤ k_)) u9000_ x0_1) ∧ Aside0 (Kept w w' (fun k_ => P0_ k_)) ∧ Aside0 (Below w0.heap.size w0 w'))
  case atStart => exact ⟨(l0), (a1), (0), (by first | rfl | (simp; done) | (simp [*]; done)), (by first | rfl | (simp; done) | (simp [*]; done)), H', ⟨Nat.le_refl _⟩, ⟨by (with_reducible repeat (first | apply zq10 | apply zq11 | apply zq12)); exact HO0.out⟩, ⟨by repeat (first | (with_reducible first | exact HK.out | apply Kept.alloc | apply Kept.drewN | apply Kept.drew) | exact HK.out)⟩, ⟨by exact bl HB⟩⟩
  case round =>
    clear H'
    try clear p2
    obtain ⟨x0_1, x1_1, x5_1, rfl, rfl, HA, HK1, HO_0, HK, HB⟩ := hrel
    cases gk with
    | zero => exact absurd HA.out (by simp [laws_markScoreS.l0])
    | succ k1 =>
      have H := HA.out; clear HA
      simp only [laws_markScoreS.l0] at H
      obtain ⟨Ao8, co8, eo8⟩ := Kd.R_slice HO_0.out
      subst eo8
      by_cases c3 : x5_1 < (x0_1.length : Int)
      · rw [if_pos c3] at H; have c3b0 : decide (x5_1 < (x0_1.length : Int)) = true := decide_eq_true c3; clear c3; replace H := Option.bind_eq_some_iff.mp H; obtain ⟨t754, A40, H⟩ := H
        try dsimp only at H
        have A4 := zq9 A40; clear A40
        by_cases c5 : 0 ≤ x5_1
        · rw [if_pos c5] at H; have c5b0 : decide (0 ≤ x5_1) = true := decide_eq_true c5; clear c5
          obtain ⟨y755, hy755⟩ : ∃ y_ : List (S99), y_ = (x0_1.set (x5_1 : Int).toNat (⟨t754, (rd_T99 x0_1 x5_1).f1⟩ : S99)) := ⟨_, rfl⟩
          replace H : (laws_markScoreS.l0 k1 (y755.set (x5_1 : Int).toNat (⟨(rd_T99 y755 x5_1).f0, wrap64 (x1_1 + 1)⟩ : S99)) (wrap64 ((wrap64 (x1_1 + 1)) + 1)) (wrap64 (x5_1 + 1))) = some (r1, r2) := by first | (rw [hy755]; with_reducible exact H) | (have H2_ := (Option.bind_some _ _).symm.trans H; rw [hy755]; with_reducible exact H2_) | (have H2_ := (Option.bind_some _ _).symm.trans H; with_reducible exact H2_) | with_reducible exact H | (rw [hy755]; exact H) | exact H
          have Ny755 := zq9 hy755; clear hy755
          obtain ⟨y756, hy756⟩ : ∃ y_ : List (S99), y_ = (y755.set (x5_1 : Int).toNat (⟨(rd_T99 y755 x5_1).f0, wrap64 (x1_1 + 1)⟩ : S99)) := ⟨_, rfl⟩
          replace H : (laws_markScoreS.l0 k1 y756 (wrap64 ((wrap64 (x1_1 + 1)) + 1)) (wrap64 (x5_1 + 1))) = some (r1, r2) := by first | (rw [hy756]; with_reducible exact H) | (have H2_ := (Option.bind_some _ _).symm.trans H; rw [hy756]; with_reducible exact H2_) | (have H2_ := (Option.bind_some _ _).symm.trans H; with_reducible exact H2_) | with_reducible exact H | (rw [hy756]; exact H) | exact H
          have Ny756 := zq9 hy756; clear hy756; have H' := zq9 H; clear H
          go_wp2_with (first | ((with_reducible refine zq24 (f := 64) rfl ?_); refine gl (some 15) Try.func64 #[.int .i64 x1_1] ?_; (with_reducible refine (laws_markText.calls k1 x1_1 t754 _ A4.out).mono ?_); rintro e w9 ⟨rfl, hb⟩; refine ⟨_, rfl, ?_⟩; have n0_ := zq9 (Kd.R_below (by exact rz HO_0) hb); have n1_ := zq9 (Kept.below (S := (fun k_ => P0_ k_)) (by repeat (first | (with_reducible first | exact HK.out | apply Kept.alloc | apply Kept.drewN | apply Kept.drew) | exact HK.out)) hb); have n2_ := zq9 (zq27 (by exact bl HB) hb); clear HO_0; clear HK; clear HB; have HO_0 := n0_; have HK := n1_; have HB := n2_; clear n0_ n1_ n2_; (try clear hb); (try clear hb2); (try clear hk); (try clear hi); have p6 : 0 ≤ (x5_1 : Int) := of_decide_eq_true ‹_›; have q6 : (x5_1 : Int) < ((x0_1.length : Int) : Int) := of_decide_eq_true ‹_›; obtain ⟨go6, co6, eo6, gb6, gl6, cl6, HG6⟩ := Kd.R_form HO_0.out (by omega); (first | cases eo6 | (injection eo6 with ea_ en_ ec_; (first | subst ea_ | (injection ea_ with ea_; subst ea_)); subst ec_; clear en_)); have GB6 := zq9 gb6; have GG6 := zq9 HG6; clear gb6 gl6 HG6; have HMgo6 := zq9 (show (P0_ go6 ∨ w.heap.size ≤ go6) from (HO_0.out.1 _ rfl)); obtain ⟨ce6, hcl6, hM6, hcc6, hfr6⟩ := Kd.R_elem HO_0.out z99 (x5_1 : Int) p6 q6; obtain rfl := k99_openM hM6; have hx6_0 : w9.cell? ⟨go6, (x5_1 : Int).toNat * 2, none⟩ = some (.string ((rd_T99 x0_1 x5_1).f0)) := hcc6 0 _ rfl; have hx6_1 : w9.cell? ⟨go6, (x5_1 : Int).toNat * 2 + 1, none⟩ = some (.int .i64 ((rd_T99 x0_1 x5_1).f1)) := hcc6 1 _ rfl; have hf6_0 : w9.frozen? ⟨go6, (x5_1 : Int).toNat * 2, none⟩ = false := hfr6 0; have hf6_1 : w9.frozen? ⟨go6, (x5_1 : Int).toNat * 2 + 1, none⟩ = false := hfr6 1; clear hcl6 hcc6 hfr6 hM6; replace p6 := eq_true p6; replace q6 := eq_true q6; have HX10 := zq9 (show Kd.R k99 99 w9 w0.heap.size (fun k_ => (P0_ k_ ∨ w.heap.size ≤ k_)) (.slice (some ⟨go6, 0, none⟩) x0_1.length co8) x0_1 from (by exact rz HO_0)); obtain ⟨ce10, hcl10, hM10, hcc10, hfr10⟩ := Kd.R_elem HX10.out z99 (x5_1 : Int) (of_decide_eq_true ‹_›) (by have h_ : (x5_1 : Int) < ((x0_1.length : Int) : Int) := of_decide_eq_true ‹_›; first | exact h_ | (have e_ := (Kd.R_reads' HO_0.out).1; omega) | simpa using h_); obtain rfl := k99_openM hM10; have HP10 := Kd.R_seg HX10.out (x5_1 : Int) (of_decide_eq_true ‹_›) (by have h_ : (x5_1 : Int) < ((x0_1.length : Int) : Int) := of_decide_eq_true ‹_›; first | exact h_ | (have e_ := (Kd.R_reads' HO_0.out).1; omega) | simpa using h_) (seg := [.string t754]) (j := 0) hcl10 hcc10 (show 1 ≤ 2 from by decide) (x' := (⟨t754, (rd_T99 x0_1 x5_1).f1⟩ : S99)) (k99_mkM _ _ _ (⟨t754, (rd_T99 x0_1 x5_1).f1⟩ : S99) ) (fun _ hk => hk); have hx10_0 := hcc10 0 _ rfl; (try simp only [show (k99).sz = 2 from rfl, Nat.mul_one, Nat.add_zero] at hx10_0); have hf10_0 := hfr10 0; (try simp only [show (k99).sz = 2 from rfl, Nat.mul_one, Nat.add_zero] at hf10_0); clear hcl10 hcc10 hfr10 hM10) | ((with_reducible refine zq26 (t := 9) (p := 17) rfl ?_); refine store_event (t := 9) (p := 17) (v := ?vo_w11) (w1 := (w9.setCell ⟨go6, (x5_1 : Int).toNat * 2, none⟩ (.string t754))) ?hg ?ho ?hn ?hr ?_; (case ho => rfl); (case hg => rfl); (case hn => rfl); (case hr => first | (go_simp; done) | (go_simp; rfl)); intro w11 hw; have hg : w9.grownBy w11 (some go6) := (by rw [hw]; exact HP10.2); have hp_ : Kd.R k99 99 w11 w0.heap.size (fun k_ => (P0_ k_ ∨ w.heap.size ≤ k_)) (.slice (some ⟨go6, 0, none⟩) x0_1.length co8) y755 := (by rw [hw, Ny755.out]; exact HP10.1); clear HP10; have n0_ := zq9 (hp_); have n1_ := zq9 ((by rw [hw]; exact zq28 (HB.out) GB6.out : Below w0.heap.size w0 w11)); have n2_ := zq9 (Kept.of_grown (S := (fun k_ => P0_ k_)) hg (by repeat (first | (with_reducible first | exact HK.out | apply Kept.alloc | apply Kept.drewN | apply Kept.drew) | exact HK.out)) (fun k_ e_ => (HO_0.out.1 k_ e_))); clear HO_0; clear HB; clear HK; have HO_0 := n0_; have HB := n1_; have HK := n2_; clear n0_ n1_ n2_; clear hg hw hp_; have p7 : 0 ≤ (x5_1 : Int) := of_decide_eq_true ‹_›; have q7 : (x5_1 : Int) < ((x0_1.length : Int) : Int) := of_decide_eq_true ‹_›; obtain ⟨ce7, hcl7, hM7, hcc7, hfr7⟩ := Kd.R_elem HO_0.out z99 (x5_1 : Int) p7 q7; obtain rfl := k99_openM hM7; have hx7_0 : w11.cell? ⟨go6, (x5_1 : Int).toNat * 2, none⟩ = some (.string ((rd_T99 y755 x5_1).f0)) := hcc7 0 _ rfl; have hx7_1 : w11.cell? ⟨go6, (x5_1 : Int).toNat * 2 + 1, none⟩ = some (.int .i64 ((rd_T99 y755 x5_1).f1)) := hcc7 1 _ rfl; have hf7_0 : w11.frozen? ⟨go6, (x5_1 : Int).toNat * 2, none⟩ = false := hfr7 0; have hf7_1 : w11.frozen? ⟨go6, (x5_1 : Int).toNat * 2 + 1, none⟩ = false := hfr7 1; clear hcl7 hcc7 hfr7 hM7; replace p7 := eq_true p7; replace q7 := eq_true q7; have HX12 := zq9 (show Kd.R k99 99 w11 w0.heap.size (fun k_ => (P0_ k_ ∨ w.heap.size ≤ k_)) (.slice (some ⟨go6, 0, none⟩) x0_1.length co8) y755 from (by exact rz HO_0)); obtain ⟨ce12, hcl12, hM12, hcc12, hfr12⟩ := Kd.R_elem HX12.out z99 (x5_1 : Int) (of_decide_eq_true ‹_›) (by have h_ : (x5_1 : Int) < ((x0_1.length : Int) : Int) := of_decide_eq_true ‹_›; first | exact h_ | (have e_ := (Kd.R_reads' HO_0.out).1; omega) | simpa using h_); obtain rfl := k99_openM hM12; have HP12 := Kd.R_seg HX12.out (x5_1 : Int) (of_decide_eq_true ‹_›) (by have h_ : (x5_1 : Int) < ((x0_1.length : Int) : Int) := of_decide_eq_true ‹_›; first | exact h_ | (have e_ := (Kd.R_reads' HO_0.out).1; omega) | simpa using h_) (seg := [.int .i64 (wrap64 (x1_1 + 1))]) (j := 1) hcl12 hcc12 (show 2 ≤ 2 from by decide) (x' := (⟨(rd_T99 y755 x5_1).f0, wrap64 (x1_1 + 1)⟩ : S99)) (k99_mkM _ _ _ (⟨(rd_T99 y755 x5_1).f0, wrap64 (x1_1 + 1)⟩ : S99) ) (fun _ hk => hk); have hx12_1 := hcc12 1 _ rfl; (try simp only [show (k99).sz = 2 from rfl, Nat.mul_one, Nat.add_zero] at hx12_1); have hf12_1 := hfr12 1; (try simp only [show (k99).sz = 2 from rfl, Nat.mul_one, Nat.add_zero] at hf12_1); clear hcl12 hcc12 hfr12 hM12) | ((with_reducible refine zq26 (t := 3) (p := 24) rfl ?_); refine store_event (t := 3) (p := 24) (v := ?vo_w13) (w1 := (w11.setCell ⟨go6, (x5_1 : Int).toNat * 2 + 1, none⟩ (.int .i64 (wrap64 (x1_1 + 1))))) ?hg ?ho ?hn ?hr ?_; (case ho => rfl); (case hg => rfl); (case hn => rfl); (case hr => first | (go_simp; done) | (go_simp; rfl)); intro w13 hw; have hg : w11.grownBy w13 (some go6) := (by rw [hw]; exact HP12.2); have hp_ : Kd.R k99 99 w13 w0.heap.size (fun k_ => (P0_ k_ ∨ w.heap.size ≤ k_)) (.slice (some ⟨go6, 0, none⟩) x0_1.length co8) y756 := (by rw [hw, Ny756.out]; exact HP12.1); clear HP12; have n0_ := zq9 (hp_); have n1_ := zq9 ((by rw [hw]; exact zq28 (HB.out) GB6.out : Below w0.heap.size w0 w13)); have n2_ := zq9 (Kept.of_grown (S := (fun k_ => P0_ k_)) hg (by repeat (first | (with_reducible first | exact HK.out | apply Kept.alloc | apply Kept.drewN | apply Kept.drew) | exact HK.out)) (fun k_ e_ => (HO_0.out.1 k_ e_))); clear HO_0; clear HB; clear HK; have HO_0 := n0_; have HB := n1_; have HK := n2_; clear n0_ n1_ n2_; clear hg hw hp_))
          go_roundg k1
          case measure => have := HK1.out; omega
          case rel => exact ⟨(y756), (wrap64 ((wrap64 (x1_1 + 1)) + 1)), (wrap64 (x5_1 + 1)), (by first | rfl | (simp; done) | (simp [*]; done)), (by first | rfl | (simp; done) | (simp [*]; done)), H', ⟨by have := HK1.out; omega⟩, ⟨by (with_reducible repeat (first | apply zq10 | apply zq11 | apply zq12)); exact HO_0.out⟩, ⟨by repeat (first | (with_reducible first | exact HK.out | apply Kept.alloc | apply Kept.drewN | apply Kept.drew) | exact HK.out)⟩, ⟨by exact bl HB⟩⟩
        · rw [if_neg c5] at H
          exact absurd H (by simp)
      · rw [if_neg c3] at H; have c3b0 : decide (x5_1 < (x0_1.length : Int)) = false := decide_eq_false c3; clear c3
        simp only [Option.some.injEq, Prod.mk.injEq] at H
        obtain ⟨rfl, rfl⟩ := H
        go_wp2
        go_ret
        exact ⟨by first | rfl | (simp [errW_none, errW_some] <;> rfl) | (simp [*, errW_none, errW_some] <;> rfl), by (with_reducible repeat (first | apply zq10 | apply zq11 | apply zq12)); exact HO_0.out, by exact bl HB, by repeat (first | (with_reducible first | exact HK.out | apply Kept.alloc | apply Kept.drewN | apply Kept.drew) | exact HK.out)⟩
set_option maxHeartbeats 8000000 in
set_option maxRecDepth 100000 in
theorem laws_markPairS.calls (k : Nat) (P0_ : Nat → Prop) (u9000_ : Value) (l0 : List (S101)) (a1 : Int) (r1 : Int) (r2 : List (S101)) (w0 w : World) (hB : Below w0.heap.size w0 w) (ho0 : Kd.R k101 101 w w0.heap.size P0_ u9000_ l0) (h : laws_markPairS.f k l0 a1 = some (r1, r2)) :
    Calls Try.prog 70 #[u9000_, .int .i64 a1] w fun e w' => e = .returned (.int .i64 r1) ∧ Kd.R k101 101 w' w0.heap.size (fun k_ => (P0_ k_ ∨ w.heap.size ≤ k_)) u9000_ r2 ∧ Below w0.heap.size w0 w' ∧ Kept w w' (fun k_ => P0_ k_) := by
  have HO0 := zq9 (show Kd.R k101 101 w w0.heap.size (fun k_ => (P0_ k_ ∨ w.heap.size ≤ k_)) u9000_ l0 from Kd.R_mono ho0 (fun k_ hk => (.inl hk)))
  have HK := zq9 (Kept.refl w (fun k_ => P0_ k_))
  have HW0 := zq9 hB.size; have HB := zq9 hB; clear hB
  have H : (laws_markPairS.l0 k l0 a1 0) = some (r1, r2) := h
  clear h; have H' := zq9 H; clear H
  go_enter Try.func70, Try.ntmps70
  go_wp2
  go_loopg [1, 5] k (fun kq v1 v5 w' => ∃ (x0_1 : List (S101)) (x1_1 : Int) (x5_1 : Int), v1 = .int .i64 x1_1 ∧ v5 = .int .i64 x5_1 ∧ Aside0 (laws_markPairS.l0 kq x0_1 x1_1 x5_1 = some (r1, r2)) ∧ Aside0 (kq ≤ k) ∧ Aside0 (Kd.R k101 101 w' w0.heap.size (fun k_ => (P0_ k_ ∨ w.heap.size ≤ k_)) u9000_ x0_1) ∧ Aside0 (Kept w w' (fun k_ => P0_ k_)) ∧ Aside0 (Below w0.heap.size w0 w'))
  case atStart => exact ⟨(l0), (a1), (0), (by first | rfl | (simp; done) | (simp [*]; done)), (by first | rfl | (simp; done) | (simp [*]; done)), H', ⟨Nat.le_refl _⟩, ⟨by (with_reducible repeat (first | apply zq10 | apply zq11 | apply zq12)); exact HO0.out⟩, ⟨by repeat (first | (with_reducible first | exact HK.out | apply Kept.alloc | apply Kept.drewN | apply Kept.drew) | exact HK.out)⟩, ⟨by exact bl HB⟩⟩
  case round =>
    clear H'
    try clear p2
    obtain ⟨x0_1, x1_1, x5_1, rfl, rfl, HA, HK1, HO_0, HK, HB⟩ := hrel
    cases gk with
    | zero => exact absurd HA.out (by simp [laws_markPairS.l0])
    | succ k1 =>
      have H := HA.out; clear HA
      simp only [laws_markPairS.l0] at H
      obtain ⟨Ao9, co9, eo9⟩ := Kd.R_slice HO_0.out
      subst eo9
      by_cases c3 : x5_1 < (x0_1.length : Int)
      · rw [if_pos c3] at H; have c3b0 : decide (x5_1 < (x0_1.length : Int)) = true := decide_eq_true c3; clear c3; replace H := Option.bind_eq_some_iff.mp H; obtain ⟨t757, A40, H⟩ := H
        try dsimp only at H
        have A4 := zq9 A40; clear A40
        by_cases c5 : 0 ≤ x5_1
        · rw [if_pos c5] at H; have c5b0 : decide (0 ≤ x5_1) = true := decide_eq_true c5; clear c5
          obtain ⟨y758, hy758⟩ : ∃ y_ : List (S101), y_ = (x0_1.set (x5_1 : Int).toNat (⟨t757, (rd_T101 x0_1 x5_1).f1⟩ : S101)) := ⟨_, rfl⟩
          replace H : ((laws_markText.f k1 (wrap64 (x1_1 + 1))).bind fun t759 => (laws_markPairS.l0 k1 (y758.set (x5_1 : Int).toNat (⟨(rd_T101 y758 x5_1).f0, t759⟩ : S101)) (wrap64 ((wrap64 (x1_1 + 1)) + 1)) (wrap64 (x5_1 + 1)))) = some (r1, r2) := by first | (rw [hy758]; with_reducible exact H) | (have H2_ := (Option.bind_some _ _).symm.trans H; rw [hy758]; with_reducible exact H2_) | (have H2_ := (Option.bind_some _ _).symm.trans H; with_reducible exact H2_) | with_reducible exact H | (rw [hy758]; exact H) | exact H
          have Ny758 := zq9 hy758; clear hy758; replace H := Option.bind_eq_some_iff.mp H; obtain ⟨t759, A70, H⟩ := H
          try dsimp only at H
          have A7 := zq9 A70; clear A70
          obtain ⟨y760, hy760⟩ : ∃ y_ : List (S101), y_ = (y758.set (x5_1 : Int).toNat (⟨(rd_T101 y758 x5_1).f0, t759⟩ : S101)) := ⟨_, rfl⟩
          replace H : (laws_markPairS.l0 k1 y760 (wrap64 ((wrap64 (x1_1 + 1)) + 1)) (wrap64 (x5_1 + 1))) = some (r1, r2) := by first | (rw [hy760]; with_reducible exact H) | (have H2_ := (Option.bind_some _ _).symm.trans H; rw [hy760]; with_reducible exact H2_) | (have H2_ := (Option.bind_some _ _).symm.trans H; with_reducible exact H2_) | with_reducible exact H | (rw [hy760]; exact H) | exact H
          have Ny760 := zq9 hy760; clear hy760; have H' := zq9 H; clear H
          go_wp2_with (first | ((with_reducible refine zq24 (f := 64) rfl ?_); refine gl (some 15) Try.func64 #[.int .i64 x1_1] ?_; (with_reducible refine (laws_markText.calls k1 x1_1 t757 _ A4.out).mono ?_); rintro e w10 ⟨rfl, hb⟩; refine ⟨_, rfl, ?_⟩; have n0_ := zq9 (Kd.R_below (by exact rz HO_0) hb); have n1_ := zq9 (Kept.below (S := (fun k_ => P0_ k_)) (by repeat (first | (with_reducible first | exact HK.out | apply Kept.alloc | apply Kept.drewN | apply Kept.drew) | exact HK.out)) hb); have n2_ := zq9 (zq27 (by exact bl HB) hb); clear HO_0; clear HK; clear HB; have HO_0 := n0_; have HK := n1_; have HB := n2_; clear n0_ n1_ n2_; (try clear hb); (try clear hb2); (try clear hk); (try clear hi); have p6 : 0 ≤ (x5_1 : Int) := of_decide_eq_true ‹_›; have q6 : (x5_1 : Int) < ((x0_1.length : Int) : Int) := of_decide_eq_true ‹_›; obtain ⟨go6, co6, eo6, gb6, gl6, cl6, HG6⟩ := Kd.R_form HO_0.out (by omega); (first | cases eo6 | (injection eo6 with ea_ en_ ec_; (first | subst ea_ | (injection ea_ with ea_; subst ea_)); subst ec_; clear en_)); have GB6 := zq9 gb6; have GG6 := zq9 HG6; clear gb6 gl6 HG6; have HMgo6 := zq9 (show (P0_ go6 ∨ w.heap.size ≤ go6) from (HO_0.out.1 _ rfl)); obtain ⟨ce6, hcl6, hM6, hcc6, hfr6⟩ := Kd.R_elem HO_0.out z101 (x5_1 : Int) p6 q6; obtain rfl := k101_openM hM6; have hx6_0 : w10.cell? ⟨go6, (x5_1 : Int).toNat * 2, none⟩ = some (.string ((rd_T101 x0_1 x5_1).f0)) := hcc6 0 _ rfl; have hx6_1 : w10.cell? ⟨go6, (x5_1 : Int).toNat * 2 + 1, none⟩ = some (.string ((rd_T101 x0_1 x5_1).f1)) := hcc6 1 _ rfl; have hf6_0 : w10.frozen? ⟨go6, (x5_1 : Int).toNat * 2, none⟩ = false := hfr6 0; have hf6_1 : w10.frozen? ⟨go6, (x5_1 : Int).toNat * 2 + 1, none⟩ = false := hfr6 1; clear hcl6 hcc6 hfr6 hM6; replace p6 := eq_true p6; replace q6 := eq_true q6; have HX11 := zq9 (show Kd.R k101 101 w10 w0.heap.size (fun k_ => (P0_ k_ ∨ w.heap.size ≤ k_)) (.slice (some ⟨go6, 0, none⟩) x0_1.length co9) x0_1 from (by exact rz HO_0)); obtain ⟨ce11, hcl11, hM11, hcc11, hfr11⟩ := Kd.R_elem HX11.out z101 (x5_1 : Int) (of_decide_eq_true ‹_›) (by have h_ : (x5_1 : Int) < ((x0_1.length : Int) : Int) := of_decide_eq_true ‹_›; first | exact h_ | (have e_ := (Kd.R_reads' HO_0.out).1; omega) | simpa using h_); obtain rfl := k101_openM hM11; have HP11 := Kd.R_seg HX11.out (x5_1 : Int) (of_decide_eq_true ‹_›) (by have h_ : (x5_1 : Int) < ((x0_1.length : Int) : Int) := of_decide_eq_true ‹_›; first | exact h_ | (have e_ := (Kd.R_reads' HO_0.out).1; omega) | simpa using h_) (seg := [.string t757]) (j := 0) hcl11 hcc11 (show 1 ≤ 2 from by decide) (x' := (⟨t757, (rd_T101 x0_1 x5_1).f1⟩ : S101)) (k101_mkM _ _ _ (⟨t757, (rd_T101 x0_1 x5_1).f1⟩ : S101) ) (fun _ hk => hk); have hx11_0 := hcc11 0 _ rfl; (try simp only [show (k101).sz = 2 from rfl, Nat.mul_one, Nat.add_zero] at hx11_0); have hf11_0 := hfr11 0; (try simp only [show (k101).sz = 2 from rfl, Nat.mul_one, Nat.add_zero] at hf11_0); clear hcl11 hcc11 hfr11 hM11) | ((with_reducible refine zq26 (t := 9) (p := 17) rfl ?_); refine store_event (t := 9) (p := 17) (v := ?vo_w12) (w1 := (w10.setCell ⟨go6, (x5_1 : Int).toNat * 2, none⟩ (.string t757))) ?hg ?ho ?hn ?hr ?_; (case ho => rfl); (case hg => rfl); (case hn => rfl); (case hr => first | (go_simp; done) | (go_simp; rfl)); intro w12 hw; have hg : w10.grownBy w12 (some go6) := (by rw [hw]; exact HP11.2); have hp_ : Kd.R k101 101 w12 w0.heap.size (fun k_ => (P0_ k_ ∨ w.heap.size ≤ k_)) (.slice (some ⟨go6, 0, none⟩) x0_1.length co9) y758 := (by rw [hw, Ny758.out]; exact HP11.1); clear HP11; have n0_ := zq9 (hp_); have n1_ := zq9 ((by rw [hw]; exact zq28 (HB.out) GB6.out : Below w0.heap.size w0 w12)); have n2_ := zq9 (Kept.of_grown (S := (fun k_ => P0_ k_)) hg (by repeat (first | (with_reducible first | exact HK.out | apply Kept.alloc | apply Kept.drewN | apply Kept.drew) | exact HK.out)) (fun k_ e_ => (HO_0.out.1 k_ e_))); clear HO_0; clear HB; clear HK; have HO_0 := n0_; have HB := n1_; have HK := n2_; clear n0_ n1_ n2_; clear hg hw hp_) | ((with_reducible refine zq24 (f := 64) rfl ?_); refine gl (some 23) Try.func64 #[.int .i64 (wrap64 (x1_1 + 1))] ?_; (with_reducible refine (laws_markText.calls k1 (wrap64 (x1_1 + 1)) t759 _ A7.out).mono ?_); rintro e w13 ⟨rfl, hb⟩; refine ⟨_, rfl, ?_⟩; have n0_ := zq9 (Kd.R_below (by exact rz HO_0) hb); have n1_ := zq9 (Kept.below (S := (fun k_ => P0_ k_)) (by repeat (first | (with_reducible first | exact HK.out | apply Kept.alloc | apply Kept.drewN | apply Kept.drew) | exact HK.out)) hb); have n2_ := zq9 (zq27 (by exact bl HB) hb); clear HO_0; clear HK; clear HB; have HO_0 := n0_; have HK := n1_; have HB := n2_; clear n0_ n1_ n2_; (try clear hb); (try clear hb2); (try clear hk); (try clear hi); have p8 : 0 ≤ (x5_1 : Int) := of_decide_eq_true ‹_›; have q8 : (x5_1 : Int) < ((x0_1.length : Int) : Int) := of_decide_eq_true ‹_›; obtain ⟨ce8, hcl8, hM8, hcc8, hfr8⟩ := Kd.R_elem HO_0.out z101 (x5_1 : Int) p8 q8; obtain rfl := k101_openM hM8; have hx8_0 : w13.cell? ⟨go6, (x5_1 : Int).toNat * 2, none⟩ = some (.string ((rd_T101 y758 x5_1).f0)) := hcc8 0 _ rfl; have hx8_1 : w13.cell? ⟨go6, (x5_1 : Int).toNat * 2 + 1, none⟩ = some (.string ((rd_T101 y758 x5_1).f1)) := hcc8 1 _ rfl; have hf8_0 : w13.frozen? ⟨go6, (x5_1 : Int).toNat * 2, none⟩ = false := hfr8 0; have hf8_1 : w13.frozen? ⟨go6, (x5_1 : Int).toNat * 2 + 1, none⟩ = false := hfr8 1; clear hcl8 hcc8 hfr8 hM8; replace p8 := eq_true p8; replace q8 := eq_true q8; have HX14 := zq9 (show Kd.R k101 101 w13 w0.heap.size (fun k_ => (P0_ k_ ∨ w.heap.size ≤ k_)) (.slice (some ⟨go6, 0, none⟩) x0_1.length co9) y758 from (by exact rz HO_0)); obtain ⟨ce14, hcl14, hM14, hcc14, hfr14⟩ := Kd.R_elem HX14.out z101 (x5_1 : Int) (of_decide_eq_true ‹_›) (by have h_ : (x5_1 : Int) < ((x0_1.length : Int) : Int) := of_decide_eq_true ‹_›; first | exact h_ | (have e_ := (Kd.R_reads' HO_0.out).1; omega) | simpa using h_); obtain rfl := k101_openM hM14; have HP14 := Kd.R_seg HX14.out (x5_1 : Int) (of_decide_eq_true ‹_›) (by have h_ : (x5_1 : Int) < ((x0_1.length : Int) : Int) := of_decide_eq_true ‹_›; first | exact h_ | (have e_ := (Kd.R_reads' HO_0.out).1; omega) | simpa using h_) (seg := [.string t759]) (j := 1) hcl14 hcc14 (show 2 ≤ 2 from by decide) (x' := (⟨(rd_T101 y758 x5_1).f0, t759⟩ : S101)) (k101_mkM _ _ _ (⟨(rd_T101 y758 x5_1).f0, t759⟩ : S101) ) (fun _ hk => hk); have hx14_1 := hcc14 1 _ rfl; (try simp only [show (k101).sz = 2 from rfl, Nat.mul_one, Nat.add_zero] at hx14_1); have hf14_1 := hfr14 1; (try simp only [show (k101).sz = 2 from rfl, Nat.mul_one, Nat.add_zero] at hf14_1); clear hcl14 hcc14 hfr14 hM14) | ((with_reducible refine zq26 (t := 9) (p := 25) rfl ?_); refine store_event (t := 9) (p := 25) (v := ?vo_w15) (w1 := (w13.setCell ⟨go6, (x5_1 : Int).toNat * 2 + 1, none⟩ (.string t759))) ?hg ?ho ?hn ?hr ?_; (case ho => rfl); (case hg => rfl); (case hn => rfl); (case hr => first | (go_simp; done) | (go_simp; rfl)); intro w15 hw; have hg : w13.grownBy w15 (some go6) := (by rw [hw]; exact HP14.2); have hp_ : Kd.R k101 101 w15 w0.heap.size (fun k_ => (P0_ k_ ∨ w.heap.size ≤ k_)) (.slice (some ⟨go6, 0, none⟩) x0_1.length co9) y760 := (by rw [hw, Ny760.out]; exact HP14.1); clear HP14; have n0_ := zq9 (hp_); have n1_ := zq9 ((by rw [hw]; exact zq28 (HB.out) GB6.out : Below w0.heap.size w0 w15)); have n2_ := zq9 (Kept.of_grown (S := (fun k_ => P0_ k_)) hg (by repeat (first | (with_reducible first | exact HK.out | apply Kept.alloc | apply Kept.drewN | apply Kept.drew) | exact HK.out)) (fun k_ e_ => (HO_0.out.1 k_ e_))); clear HO_0; clear HB; clear HK; have HO_0 := n0_; have HB := n1_; have HK := n2_; clear n0_ n1_ n2_; clear hg hw hp_))
          go_roundg k1
          case measure => have := HK1.out; omega
          case rel => exact ⟨(y760), (wrap64 ((wrap64 (x1_1 + 1)) + 1)), (wrap64 (x5_1 + 1)), (by first | rfl | (simp; done) | (simp [*]; done)), (by first | rfl | (simp; done) | (simp [*]; done)), H', ⟨by have := HK1.out; omega⟩, ⟨by (with_reducible repeat (first | apply zq10 | apply zq11 | apply zq12)); exact HO_0.out⟩, ⟨by repeat (first | (with_reducible first | exact HK.out | apply Kept.alloc | apply Kept.drewN | apply Kept.drew) | exact HK.out)⟩, ⟨by exact bl HB⟩⟩
        · rw [if_neg c5] at H
          exact absurd H (by simp)
      · rw [if_neg c3] at H; have c3b0 : decide (x5_1 < (x0_1.length : Int)) = false := decide_eq_false c3; clear c3
        simp only [Option.some.injEq, Prod.mk.injEq] at H
        obtain ⟨rfl, rfl⟩ := H
        go_wp2
        go_ret
        exact ⟨by first | rfl | (simp [errW_none, errW_some] <;> rfl) | (simp [*, errW_none, errW_some] <;> rfl), by (with_reducible repeat (first | apply zq10 | apply zq11 | apply zq12)); exact HO_0.out, by exact bl HB, by repeat (first | (with_reducible first | exact HK.out | apply Kept.alloc | apply Kept.drewN | apply Kept.drew) | exact HK.out)⟩
set_option maxHeartbeats 8000000 in
theorem laws_markEntryS.calls_lend {W : World} {b : Nat} {ok : Nat → Prop} {g n cap : Nat} {xs : List S32} (h : Kd.S k32 32 W b ok (.slice (some ⟨g, 0, none⟩) n cap) xs) (i : Int) (h0 : 0 ≤ i) (h1 : i < n) :
    ∃ oki v4 v5 v6, laws_markEntryS.L W b ok oki g n cap xs i (rd_T32 xs i) v4 v5 v6 := by
  obtain ⟨oki, c, hcl, hM, hcc, hoki, hH⟩ := Kd.S_lend h z32 i h0 h1
  obtain ⟨v4, v5, v6, rfl, g4, g5, g6⟩ := k32_openM hM
  exact ⟨oki, v4, v5, v6, hH, g4, g5, g6, hoki⟩
section
variable {W W' : World} {b : Nat} {ok oki : Nat → Prop} {g n cap : Nat} {xs : List S32} {i : Int} {x : S32} {v4 v5 v6 : Value}
theorem laws_markEntryS.calls_back (h : laws_markEntryS.L W b ok oki g n cap xs i x v4 v5 v6) : Kd.S k32 32 W b ok (.slice (some ⟨g, 0, none⟩) n cap) (xs.set i.toNat x) :=
  Kd.H_back h.1 (k32_mkM W b oki x h.2.1 h.2.2.1 h.2.2.2.1) (fun _ hk => hk)
theorem laws_markEntryS.calls_below (h : laws_markEntryS.L W b ok oki g n cap xs i x v4 v5 v6) (hb : Below W.heap.size W W') : laws_markEntryS.L W' b ok oki g n cap xs i x v4 v5 v6 :=
  ⟨Kd.H_below h.1 hb, Kd.R_below h.2.1 hb, Kd.R_below h.2.2.1 hb, Kd.R_below h.2.2.2.1 hb, h.2.2.2.2⟩
theorem laws_markEntryS.calls_at (h : laws_markEntryS.L W b ok oki g n cap xs i x v4 v5 v6) (h0 : 0 ≤ i) (h1 : i < n) :
    (∀ j u, [.string x.f0, .int .i64 x.f1, .int .i64 x.f2, .string x.f3, v4, v5, v6][j]? = some u → W.cell? ⟨g, i.toNat * 7 + j, none⟩ = some u) ∧ ∀ j, W.frozen? ⟨g, i.toNat * 7 + j, none⟩ = false := Kd.H_at h.1 h0 h1
theorem laws_markEntryS.calls_set (h : laws_markEntryS.L W b ok oki g n cap xs i x v4 v5 v6) (h0 : 0 ≤ i) (h1 : i < n) (j : Nat) (u : Value) (x' : S32) (hj : j + 1 ≤ 7) (hu : u.oneCell' = true)
    (hc : ([.string x.f0, .int .i64 x.f1, .int .i64 x.f2, .string x.f3, v4, v5, v6] : List Value).take j ++ [u] ++ ([.string x.f0, .int .i64 x.f1, .int .i64 x.f2, .string x.f3, v4, v5, v6] : List Value).drop (j + 1) = [.string x'.f0, .int .i64 x'.f1, .int .i64 x'.f2, .string x'.f3, v4, v5, v6])
    (e4 : x'.f4 = x.f4) (e5 : x'.f5 = x.f5) (e6 : x'.f6 = x.f6) :
    laws_markEntryS.L (W.setCells g (i.toNat * 7 + j) [u]) b ok oki g n cap xs i x' v4 v5 v6 ∧ W.grownBy (W.setCells g (i.toNat * 7 + j) [u]) (some g) := by
  obtain ⟨hH, h4, h5, h6, hok⟩ := h
  obtain ⟨a, hg⟩ := Kd.H_seg hH h0 h1 (seg := [u]) (j := j) hj (fun q hq => by rw [List.mem_singleton.1 hq]; exact hu)
  have hne : ∀ k, oki k → some k ≠ some g := fun k hk he => (hok k hk).2 (by injection he)
  refine ⟨⟨?_, ?_, ?_, ?_, hok⟩, hg⟩
  · have a' : Kd.H k32 32 (W.setCells g (i.toNat * 7 + j) [u]) b ok (.slice (some ⟨g, 0, none⟩) n cap) xs i oki (([.string x.f0, .int .i64 x.f1, .int .i64 x.f2, .string x.f3, v4, v5, v6] : List Value).take j ++ [u] ++ ([.string x.f0, .int .i64 x.f1, .int .i64 x.f2, .string x.f3, v4, v5, v6] : List Value).drop (j + 1)) := a
    rw [hc] at a'
    exact a'
  · rw [e4]; exact Kd.R_grown h4 hg hne
  · rw [e5]; exact Kd.R_grown h5 hg hne
  · rw [e6]; exact Kd.R_grown h6 hg hne
theorem laws_markEntryS.calls_apart {α β : Type} {d : Kd α} {d' : Kd β} {e e' : Nat} {u v : Value} {ys : List α} {zs : List β} {r : Nat → Prop} (h : d.R e W b oki u ys) (hE : d.E = []) (h' : d'.R e' W b r v zs) (hne : e ≠ e') (hk : Kept W W' (fun k => some k = v.ownBlock)) : d.R e W' b oki u ys :=
  Kd.R_mono (Kd.R_kept (Kd.R_tight hE h) hk (fun k hk1 hk2 => by
    obtain ⟨c1, hc1⟩ := Kd.R_typed h k hk1.symm
    obtain ⟨c2, hc2⟩ := Kd.R_typed h' k hk2.symm
    rw [hc1] at hc2
    injection hc2 with hc2
    injection hc2 with _ hc2
    exact hne hc2)) (fun k hk1 => h.1 k hk1.symm)
theorem laws_markEntryS.calls_row4 {r : List ByteArray} {x' : S32} (h : laws_markEntryS.L W b ok oki g n cap xs i x v4 v5 v6) (hk : Kept W W' (fun k => some k = v4.ownBlock)) (hr : Kd.string.R 9 W' b (fun k => some k = v4.ownBlock ∨ W.heap.size ≤ k) v4 r) (hx : x' = ⟨x.f0, x.f1, x.f2, x.f3, r, x.f5, x.f6⟩) : laws_markEntryS.L W' b ok oki g n cap xs i x' v4 v5 v6 := by
  subst hx
  obtain ⟨hH, h4, h5, h6, hok⟩ := h
  exact ⟨Kd.H_kept hH hk (fun k _ hn hs => hn (h4.1 k hs.symm)), Kd.R_reok rfl hr h4.1, laws_markEntryS.calls_apart h5 rfl h4 (by decide) hk, laws_markEntryS.calls_apart h6 rfl h4 (by decide) hk, hok⟩
theorem laws_markEntryS.calls_row5 {r : List S99} {x' : S32} (h : laws_markEntryS.L W b ok oki g n cap xs i x v4 v5 v6) (hk : Kept W W' (fun k => some k = v5.ownBlock)) (hr : k99.R 99 W' b (fun k => some k = v5.ownBlock ∨ W.heap.size ≤ k) v5 r) (hx : x' = ⟨x.f0, x.f1, x.f2, x.f3, x.f4, r, x.f6⟩) : laws_markEntryS.L W' b ok oki g n cap xs i x' v4 v5 v6 := by
  subst hx
  obtain ⟨hH, h4, h5, h6, hok⟩ := h
  exact ⟨Kd.H_kept hH hk (fun k _ hn hs => hn (h5.1 k hs.symm)), laws_markEntryS.calls_apart h4 rfl h5 (by decide) hk, Kd.R_reok rfl hr h5.1, laws_markEntryS.calls_apart h6 rfl h5 (by decide) hk, hok⟩
theorem laws_markEntryS.calls_row6 {r : List S101} {x' : S32} (h : laws_markEntryS.L W b ok oki g n cap xs i x v4 v5 v6) (hk : Kept W W' (fun k => some k = v6.ownBlock)) (hr : k101.R 101 W' b (fun k => some k = v6.ownBlock ∨ W.heap.size ≤ k) v6 r) (hx : x' = ⟨x.f0, x.f1, x.f2, x.f3, x.f4, x.f5, r⟩) : laws_markEntryS.L W' b ok oki g n cap xs i x' v4 v5 v6 := by
  subst hx
  obtain ⟨hH, h4, h5, h6, hok⟩ := h
  exact ⟨Kd.H_kept hH hk (fun k _ hn hs => hn (h6.1 k hs.symm)), laws_markEntryS.calls_apart h4 rfl h6 (by decide) hk, laws_markEntryS.calls_apart h5 rfl h6 (by decide) hk, Kd.R_reok rfl hr h6.1, hok⟩
theorem laws_markEntryS.calls_own (h : laws_markEntryS.L W b ok oki g n cap xs i x v4 v5 v6) : Kd.string.R 9 W b oki v4 x.f4 ∧ k99.R 99 W b oki v5 x.f5 ∧ k101.R 101 W b oki v6 x.f6 ∧ (∀ k, v4.ownBlock = some k → oki k) ∧ (∀ k, v5.ownBlock = some k → oki k) ∧ (∀ k, v6.ownBlock = some k → oki k) ∧ ∀ k, oki k → ok k ∧ k ≠ g :=
  ⟨h.2.1, h.2.2.1, h.2.2.2.1, h.2.1.1, h.2.2.1.1, h.2.2.2.1.1, h.2.2.2.2⟩
theorem laws_markEntryS.calls_keep {P : Nat → Prop} {w : World} {v : Value} (hk : Kept w W P) (hv : ∀ k, v.ownBlock = some k → oki k) (hok : ∀ k, oki k → P k ∧ k ≠ g) (h : Kept W W' (fun k => some k = v.ownBlock)) : Kept w W' P :=
  hk.then_ h (fun k hk2 => Or.inl (hok k (hv k hk2.symm)).1)
end
set_option maxHeartbeats 8000000 in
set_option maxRecDepth 100000 in
theorem laws_markEntryS.calls (k : Nat) (P0_ : Nat → Prop) (u9000_ : Value) (l0 : List (S32)) (a1 : Int) (r1 : Int) (r2 : List (S32)) (w0 w : World) (hB : Below w0.heap.size w0 w) (ho0 : Kd.S k32 32 w w0.heap.size P0_ u9000_ l0) (h : laws_markEntryS.f k l0 a1 = some (r1, r2)) :
    Calls Try.prog 63 #[u9000_, .int .i64 a1] w fun e w' => e = .returned (.int .i64 r1) ∧ Kd.S k32 32 w' w0.heap.size P0_ u9000_ r2 ∧ Below w0.heap.size w0 w' ∧ Kept w w' (fun k_ => P0_ k_) := by
  have HO0 := zq9 ho0
  have HK := zq9 (Kept.refl w (fun k_ => P0_ k_))
  have HB := zq9 hB; clear hB
  have H' := zq9 (show laws_markEntryS.l0 k l0 a1 0 = some (r1, r2) from h)
  clear h ho0
  go_enter Try.func63, Try.ntmps63
  go_wp2
  go_loopg [1, 5] k (fun kq v1 v5 w' => ∃ (x0_1 : List (S32)) (x1_1 : Int) (x5_1 : Int), v1 = .int .i64 x1_1 ∧ v5 = .int .i64 x5_1 ∧ Aside0 (laws_markEntryS.l0 kq x0_1 x1_1 x5_1 = some (r1, r2)) ∧ Aside0 (kq ≤ k) ∧ Aside0 (Kd.S k32 32 w' w0.heap.size P0_ u9000_ x0_1) ∧ Aside0 (Kept w w' (fun k_ => P0_ k_)) ∧ Aside0 (Below w0.heap.size w0 w'))
  case atStart => exact ⟨(l0), (a1), (0), rfl, rfl, H', ⟨Nat.le_refl _⟩, HO0, HK, HB⟩
  case round =>
    clear H' HO0 HK HB
    obtain ⟨x0_1, x1_1, x5_1, rfl, rfl, HA, HK1, HO_0, HK, HB⟩ := hrel
    cases gk with
    | zero => exact absurd HA.out (by simp [laws_markEntryS.l0])
    | succ k1 =>
      have H := HA.out; clear HA
      simp only [laws_markEntryS.l0] at H
      by_cases c3 : x5_1 < (x0_1.length : Int)
      · rw [if_pos c3] at H; have c3b0 : decide (x5_1 < (x0_1.length : Int)) = true := decide_eq_true c3
        by_cases c5 : 0 ≤ x5_1
        · rw [if_pos c5] at H; have c5b0 : decide (0 ≤ x5_1) = true := decide_eq_true c5
          obtain ⟨t0, A0, H⟩ := Option.bind_eq_some_iff.mp H
          obtain ⟨t1, A1, H⟩ := Option.bind_eq_some_iff.mp H
          obtain ⟨⟨a4, l4⟩, A4, H⟩ := Option.bind_eq_some_iff.mp H
          obtain ⟨⟨a5, l5⟩, A5, H⟩ := Option.bind_eq_some_iff.mp H
          obtain ⟨⟨a6, l6⟩, A6, H⟩ := Option.bind_eq_some_iff.mp H
          replace A0 := zq9 A0
          replace A1 := zq9 A1
          replace A4 := zq9 A4
          replace A5 := zq9 A5
          replace A6 := zq9 A6
          have H' := zq9 (show laws_markEntryS.l0 k1 (x0_1.set x5_1.toNat ⟨t0, wrap64 (x1_1 + 1), wrap64 ((wrap64 (x1_1 + 1)) + 1), t1, l4, l5, l6⟩) a6 (wrap64 (x5_1 + 1)) = some (r1, r2) from H)
          clear H
          obtain ⟨g, cap, rfl, hgb, _, _, _⟩ := Kd.S_form HO_0.out (by omega)
          have GB := zq9 hgb
          obtain ⟨oki, v4, v5, v6, hL⟩ := laws_markEntryS.calls_lend HO_0.out x5_1 c5 c3
          have hgs : P0_ g := (Kd.S_R HO_0.out).1 g (by simp [Value.ownBlock])
          have HGS := zq9 hgs; have HL := zq9 hL
          obtain ⟨C4, n4, e4⟩ := Kd.R_slice hL.2.1
          obtain ⟨C5, n5, e5⟩ := Kd.R_slice hL.2.2.1
          obtain ⟨C6, n6, e6⟩ := Kd.R_slice hL.2.2.2.1
          have E4 := zq9 e4; have E5 := zq9 e5; have E6 := zq9 e6; clear hL hgb e4 e5 e6 HO_0 hgs; have HC3 := zq9 c3; have HC5 := zq9 c5
          have p6 := eq_true c5
          have q6 := eq_true c3
          clear c3 c5
          go_wp2_with (first
            | ((with_reducible refine zq24 (f := 64) rfl ?_); refine gl (some 15) Try.func64 #[.int .i64 x1_1] ?_; (with_reducible refine (laws_markText.calls k1 x1_1 t0 _ A0.out).mono ?_); rintro e w10 ⟨rfl, hb⟩; refine ⟨_, rfl, ?_⟩; have n0_ := zq9 (laws_markEntryS.calls_below HL.out hb); have n1_ := zq9 (HK.out.below hb); have n2_ := zq9 (zq27 HB.out hb); clear HL HK HB hb; have HL := n0_; have HK := n1_; have HB := n2_; clear n0_ n1_ n2_; have hx : w10.cell? ⟨g, x5_1.toNat * 7, none⟩ = some _ := (laws_markEntryS.calls_at HL.out HC5.out HC3.out).1 0 _ rfl; have hf : w10.frozen? ⟨g, x5_1.toNat * 7, none⟩ = false := (laws_markEntryS.calls_at HL.out HC5.out HC3.out).2 0)
            | ((with_reducible refine zq26 (t := 9) (p := 17) rfl ?_); refine store_event (t := 9) (p := 17) (v := ?vo_w12) (w1 := (w10.setCell ⟨g, x5_1.toNat * 7, none⟩ (.string t0))) ?hg ?ho ?hn ?hr ?_; (case ho => rfl); (case hg => rfl); (case hn => rfl); (case hr => first | (go_simp; done) | (go_simp; rfl)); intro w12 hw; obtain ⟨n0, hgr⟩ := laws_markEntryS.calls_set HL.out HC5.out HC3.out 0 (.string t0) ⟨t0, (rd_T32 x0_1 x5_1).f1, (rd_T32 x0_1 x5_1).f2, (rd_T32 x0_1 x5_1).f3, (rd_T32 x0_1 x5_1).f4, (rd_T32 x0_1 x5_1).f5, (rd_T32 x0_1 x5_1).f6⟩ (by decide) rfl rfl rfl rfl rfl; have n0_ := zq9 (show laws_markEntryS.L w12 _ _ _ _ _ _ _ _ _ _ _ _ from (by rw [hw]; exact n0)); have n1_ := zq9 (Kept.of_grown (show World.grownBy w10 w12 (some g) from (by rw [hw]; exact hgr)) HK.out (fun k_ e_ => by injection e_ with e_; subst e_; exact .inl HGS.out)); have n2_ := zq9 (show Below w0.heap.size w0 w12 from (by rw [hw]; exact zq28 HB.out GB.out)); clear n0 hgr hw HL HK HB hx hf; have HL := n0_; have HK := n1_; have HB := n2_; clear n0_ n1_ n2_; have hx : w12.cell? ⟨g, x5_1.toNat * 7 + 1, none⟩ = some _ := (laws_markEntryS.calls_at HL.out HC5.out HC3.out).1 1 _ rfl; have hf : w12.frozen? ⟨g, x5_1.toNat * 7 + 1, none⟩ = false := (laws_markEntryS.calls_at HL.out HC5.out HC3.out).2 1)
            | ((with_reducible refine zq26 (t := 3) (p := 24) rfl ?_); refine store_event (t := 3) (p := 24) (v := ?vo_w13) (w1 := (w12.setCell ⟨g, x5_1.toNat * 7 + 1, none⟩ (.int .i64 (wrap64 (x1_1 + 1))))) ?hg ?ho ?hn ?hr ?_; (case ho => rfl); (case hg => rfl); (case hn => rfl); (case hr => first | (go_simp; done) | (go_simp; rfl)); intro w13 hw; obtain ⟨n0, hgr⟩ := laws_markEntryS.calls_set HL.out HC5.out HC3.out 1 (.int .i64 (wrap64 (x1_1 + 1))) ⟨t0, wrap64 (x1_1 + 1), (rd_T32 x0_1 x5_1).f2, (rd_T32 x0_1 x5_1).f3, (rd_T32 x0_1 x5_1).f4, (rd_T32 x0_1 x5_1).f5, (rd_T32 x0_1 x5_1).f6⟩ (by decide) rfl rfl rfl rfl rfl; have n0_ := zq9 (show laws_markEntryS.L w13 _ _ _ _ _ _ _ _ _ _ _ _ from (by rw [hw]; exact n0)); have n1_ := zq9 (Kept.of_grown (show World.grownBy w12 w13 (some g) from (by rw [hw]; exact hgr)) HK.out (fun k_ e_ => by injection e_ with e_; subst e_; exact .inl HGS.out)); have n2_ := zq9 (show Below w0.heap.size w0 w13 from (by rw [hw]; exact zq28 HB.out GB.out)); clear n0 hgr hw HL HK HB hx hf; have HL := n0_; have HK := n1_; have HB := n2_; clear n0_ n1_ n2_; have hx : w13.cell? ⟨g, x5_1.toNat * 7 + 2, none⟩ = some _ := (laws_markEntryS.calls_at HL.out HC5.out HC3.out).1 2 _ rfl; have hf : w13.frozen? ⟨g, x5_1.toNat * 7 + 2, none⟩ = false := (laws_markEntryS.calls_at HL.out HC5.out HC3.out).2 2)
            | ((with_reducible refine zq26 (t := 3) (p := 31) rfl ?_); refine store_event (t := 3) (p := 31) (v := ?vo_w14) (w1 := (w13.setCell ⟨g, x5_1.toNat * 7 + 2, none⟩ (.int .i64 (wrap64 ((wrap64 (x1_1 + 1)) + 1))))) ?hg ?ho ?hn ?hr ?_; (case ho => rfl); (case hg => rfl); (case hn => rfl); (case hr => first | (go_simp; done) | (go_simp; rfl)); intro w14 hw; obtain ⟨n0, hgr⟩ := laws_markEntryS.calls_set HL.out HC5.out HC3.out 2 (.int .i64 (wrap64 ((wrap64 (x1_1 + 1)) + 1))) ⟨t0, wrap64 (x1_1 + 1), wrap64 ((wrap64 (x1_1 + 1)) + 1), (rd_T32 x0_1 x5_1).f3, (rd_T32 x0_1 x5_1).f4, (rd_T32 x0_1 x5_1).f5, (rd_T32 x0_1 x5_1).f6⟩ (by decide) rfl rfl rfl rfl rfl; have n0_ := zq9 (show laws_markEntryS.L w14 _ _ _ _ _ _ _ _ _ _ _ _ from (by rw [hw]; exact n0)); have n1_ := zq9 (Kept.of_grown (show World.grownBy w13 w14 (some g) from (by rw [hw]; exact hgr)) HK.out (fun k_ e_ => by injection e_ with e_; subst e_; exact .inl HGS.out)); have n2_ := zq9 (show Below w0.heap.size w0 w14 from (by rw [hw]; exact zq28 HB.out GB.out)); clear n0 hgr hw HL HK HB hx hf; have HL := n0_; have HK := n1_; have HB := n2_; clear n0_ n1_ n2_)
            | ((with_reducible refine zq24 (f := 64) rfl ?_); refine gl (some 37) Try.func64 #[.int .i64 (wrap64 ((wrap64 ((wrap64 (x1_1 + 1)) + 1)) + 1))] ?_; (with_reducible refine (laws_markText.calls k1 (wrap64 ((wrap64 ((wrap64 (x1_1 + 1)) + 1)) + 1)) t1 _ A1.out).mono ?_); rintro e w15 ⟨rfl, hb⟩; refine ⟨_, rfl, ?_⟩; have n0_ := zq9 (laws_markEntryS.calls_below HL.out hb); have n1_ := zq9 (HK.out.below hb); have n2_ := zq9 (zq27 HB.out hb); clear HL HK HB hb; have HL := n0_; have HK := n1_; have HB := n2_; clear n0_ n1_ n2_; have hx : w15.cell? ⟨g, x5_1.toNat * 7 + 3, none⟩ = some _ := (laws_markEntryS.calls_at HL.out HC5.out HC3.out).1 3 _ rfl; have hf : w15.frozen? ⟨g, x5_1.toNat * 7 + 3, none⟩ = false := (laws_markEntryS.calls_at HL.out HC5.out HC3.out).2 3)
            | ((with_reducible refine zq26 (t := 9) (p := 39) rfl ?_); refine store_event (t := 9) (p := 39) (v := ?vo_w16) (w1 := (w15.setCell ⟨g, x5_1.toNat * 7 + 3, none⟩ (.string t1))) ?hg ?ho ?hn ?hr ?_; (case ho => rfl); (case hg => rfl); (case hn => rfl); (case hr => first | (go_simp; done) | (go_simp; rfl)); intro w16 hw; obtain ⟨n0, hgr⟩ := laws_markEntryS.calls_set HL.out HC5.out HC3.out 3 (.string t1) ⟨t0, wrap64 (x1_1 + 1), wrap64 ((wrap64 (x1_1 + 1)) + 1), t1, (rd_T32 x0_1 x5_1).f4, (rd_T32 x0_1 x5_1).f5, (rd_T32 x0_1 x5_1).f6⟩ (by decide) rfl rfl rfl rfl rfl; have n0_ := zq9 (show laws_markEntryS.L w16 _ _ _ _ _ _ _ _ _ _ _ _ from (by rw [hw]; exact n0)); have n1_ := zq9 (Kept.of_grown (show World.grownBy w15 w16 (some g) from (by rw [hw]; exact hgr)) HK.out (fun k_ e_ => by injection e_ with e_; subst e_; exact .inl HGS.out)); have n2_ := zq9 (show Below w0.heap.size w0 w16 from (by rw [hw]; exact zq28 HB.out GB.out)); clear n0 hgr hw HL HK HB hx hf; have HL := n0_; have HK := n1_; have HB := n2_; clear n0_ n1_ n2_; have hx : w16.cell? ⟨g, x5_1.toNat * 7 + 4, none⟩ = some v4 := (laws_markEntryS.calls_at HL.out HC5.out HC3.out).1 4 _ rfl; rw [E4.out] at hx)
            | ((with_reducible refine zq24 (f := 25) rfl ?_); refine gl (some 48) Try.func25 #[.slice C4 (rd_T32 x0_1 x5_1).f4.length n4, .int .i64 (wrap64 ((wrap64 ((wrap64 ((wrap64 (x1_1 + 1)) + 1)) + 1)) + 1))] ?_; (with_reducible refine (laws_markStringS.calls k1 (fun k => some k = (Value.slice C4 (rd_T32 x0_1 x5_1).f4.length n4).ownBlock) _ _ _ a4 l4 w0 _ HB.out (E4.out ▸ Kd.R_tight rfl (laws_markEntryS.calls_own HL.out).1) A4.out).mono ?_); rintro e w17 ⟨rfl, hr, hb, hk⟩; rw [← E4.out] at hr hk; refine ⟨_, rfl, ?_⟩; have n0_ := zq9 (laws_markEntryS.calls_row4 HL.out hk hr rfl); have n1_ := zq9 (laws_markEntryS.calls_keep HK.out (laws_markEntryS.calls_own HL.out).2.2.2.1 (laws_markEntryS.calls_own HL.out).2.2.2.2.2.2 hk); have n2_ := zq9 hb; clear hx hk hr hb HL HK HB; have HL := n0_; have HK := n1_; have HB := n2_; clear n0_ n1_ n2_; have hx : w17.cell? ⟨g, x5_1.toNat * 7 + 5, none⟩ = some v5 := (laws_markEntryS.calls_at HL.out HC5.out HC3.out).1 5 _ rfl; rw [E5.out] at hx)
            | ((with_reducible refine zq24 (f := 69) rfl ?_); refine gl (some 55) Try.func69 #[.slice C5 (rd_T32 x0_1 x5_1).f5.length n5, .int .i64 a4] ?_; (with_reducible refine (laws_markScoreS.calls k1 (fun k => some k = (Value.slice C5 (rd_T32 x0_1 x5_1).f5.length n5).ownBlock) _ _ _ a5 l5 w0 _ HB.out (E5.out ▸ Kd.R_tight rfl (laws_markEntryS.calls_own HL.out).2.1) A5.out).mono ?_); rintro e w18 ⟨rfl, hr, hb, hk⟩; rw [← E5.out] at hr hk; refine ⟨_, rfl, ?_⟩; have n0_ := zq9 (laws_markEntryS.calls_row5 HL.out hk hr rfl); have n1_ := zq9 (laws_markEntryS.calls_keep HK.out (laws_markEntryS.calls_own HL.out).2.2.2.2.1 (laws_markEntryS.calls_own HL.out).2.2.2.2.2.2 hk); have n2_ := zq9 hb; clear hx hk hr hb HL HK HB; have HL := n0_; have HK := n1_; have HB := n2_; clear n0_ n1_ n2_; have hx : w18.cell? ⟨g, x5_1.toNat * 7 + 6, none⟩ = some v6 := (laws_markEntryS.calls_at HL.out HC5.out HC3.out).1 6 _ rfl; rw [E6.out] at hx)
            | ((with_reducible refine zq24 (f := 70) rfl ?_); refine gl (some 62) Try.func70 #[.slice C6 (rd_T32 x0_1 x5_1).f6.length n6, .int .i64 a5] ?_; (with_reducible refine (laws_markPairS.calls k1 (fun k => some k = (Value.slice C6 (rd_T32 x0_1 x5_1).f6.length n6).ownBlock) _ _ _ a6 l6 w0 _ HB.out (E6.out ▸ Kd.R_tight rfl (laws_markEntryS.calls_own HL.out).2.2.1) A6.out).mono ?_); rintro e w19 ⟨rfl, hr, hb, hk⟩; rw [← E6.out] at hr hk; refine ⟨_, rfl, ?_⟩; have n0_ := zq9 (laws_markEntryS.calls_row6 HL.out hk hr rfl); have n1_ := zq9 (laws_markEntryS.calls_keep HK.out (laws_markEntryS.calls_own HL.out).2.2.2.2.2.1 (laws_markEntryS.calls_own HL.out).2.2.2.2.2.2 hk); have n2_ := zq9 hb; clear hx hk hr hb HL HK HB; have HL := n0_; have HK := n1_; have HB := n2_; clear n0_ n1_ n2_))
          go_roundg k1
          case measure => have := HK1.out; omega
          case rel => exact ⟨_, a6, (wrap64 (x5_1 + 1)), rfl, rfl, H', ⟨by have := HK1.out; omega⟩, ⟨laws_markEntryS.calls_back HL.out⟩, HK, HB⟩
        · rw [if_neg c5] at H
          exact absurd H (by simp)
      · rw [if_neg c3] at H; have c3b0 : decide (x5_1 < (x0_1.length : Int)) = false := decide_eq_false c3; clear c3
        simp only [Option.some.injEq, Prod.mk.injEq] at H
        obtain ⟨rfl, rfl⟩ := H
        obtain ⟨Ao16, co16, eo16⟩ := Kd.S_slice HO_0.out
        subst eo16
        go_wp2
        go_ret
        exact ⟨rfl, HO_0.out, HB.out, HK.out⟩
set_option maxHeartbeats 8000000 in
set_option maxRecDepth 100000 in
theorem laws_markBase.calls (k : Nat) (a0_0 : Int) (P0_1_ : Nat → Prop) (u9000_ : Value) (l0_1 : List (S32)) (a1 : Int) (r1 : Int) (r2 : List (S32)) (w0 w : World) (hB : Below w0.heap.size w0 w) (ho0_1 : Kd.S k32 32 w w0.heap.size P0_1_ u9000_ l0_1) (h : laws_markBase.f k a0_0 l0_1 a1 = some (r1, r2)) :
    Calls Try.prog 24 #[.agg #[.int .i64 a0_0, u9000_], .int .i64 a1] w fun e w' => e = .returned (.int .i64 r1) ∧ Kd.S k32 32 w' w0.heap.size P0_1_ u9000_ r2 ∧ Below w0.heap.size w0 w' ∧ Kept w w' (fun k_ => P0_1_ k_) := by
  obtain ⟨A0, c0, rfl⟩ := Kd.S_slice ho0_1
  have hu := Try.underlying46
  have H := zq9 (show laws_markEntryS.f k l0_1 a1 = some (r1, r2) from h)
  have HO := zq9 ho0_1; have HB := zq9 hB; clear h hB ho0_1
  go_enter Try.func24, Try.ntmps24
  go_wp2_with (first
    | ((with_reducible refine zq25 (N := 2) rfl ?_); refine bx 2 #[.int .i64 a0_0, .slice A0 l0_1.length c0] 46 ?_; intro g hg w5 hbox hb; have HX := zq9 hb; have HG := zq9 hg; have hc1 : w5.cell? ⟨g, 1, none⟩ = some (.slice A0 l0_1.length c0) := bc ⟨hbox⟩ 1; clear hbox hb hg)
    | ((with_reducible refine zq24 (f := 63) rfl ?_); refine gl (some 8) Try.func63 #[.slice A0 l0_1.length c0, .int .i64 a1] ?_; (with_reducible refine (laws_markEntryS.calls k P0_1_ _ l0_1 a1 r1 r2 w0 _ (zq27 HB.out HX.out) (Kd.S_below HO.out HX.out) H.out).mono ?_); rintro e w' ⟨rfl, hr, hb, hk⟩; refine ⟨_, rfl, ?_⟩; have n0_ := zq9 hr; have n1_ := zq9 hb; have n2_ := zq9 (Kept.then_ (Kept.of_below HX.out (fun k_ => P0_1_ k_)) hk (fun _ h_ => .inl h_)); clear hr hb hk))
  go_ret
  exact ⟨rfl, n0_.out, n1_.out, n2_.out⟩
set_option maxHeartbeats 8000000 in
set_option maxRecDepth 100000 in
theorem laws_heldStringS.calls (k : Nat) (A0 : Option Addr) (c0 : Nat) (l0 : List ByteArray) (a1 : Int) (r : Int) (w : World) (hr0 : Kd.C Kd.string w A0 l0.length l0) (hc0 : l0.length ≤ c0) (h : laws_heldStringS.f k l0 a1 = some r) :
  Calls Try.prog 26 #[.slice A0 l0.length c0, .int .i64 a1] w fun e w' => e = .returned (.int .i64 r) ∧ Below w.heap.size w w' := by
 have HR0 := zq9 hr0; have HC0 := zq9 hc0; clear hr0 hc0
 have HB := zq9 (Below.refl w.heap.size w)
 have H : (laws_heldStringS.l0 k l0 a1 0) = some r := h
 clear h; have H' := zq9 H; clear H
 go_enter Try.func26, Try.ntmps26
 go_wp2
 go_loopg [1, 5] k (fun kq v1 v5 w' => ∃ (x1_1 : Int) (x5_1 : Int), v1 = .int .i64 x1_1 ∧ v5 = .int .i64 x5_1 ∧ Aside0 (laws_heldStringS.l0 kq l0 x1_1 x5_1 = some r) ∧ Aside0 (kq ≤ k) ∧ Aside0 (Below w.heap.size w w'))
 case atStart => exact ⟨(a1), (0), (by first | rfl | (simp; done) | (simp [*]; done)), (by first | rfl | (simp; done) | (simp [*]; done)), H', ⟨Nat.le_refl _⟩, ⟨by exact bl HB⟩⟩
 case round =>
  clear H'
  try clear c2
  try clear p2
  obtain ⟨x1_1, x5_1, rfl, rfl, HA, HK1, HB⟩ := hrel
  cases gk with
  | zero => exact absurd HA.out (by simp [laws_heldStringS.l0])
  | succ k1 =>
   have H := HA.out; clear HA
   simp only [laws_heldStringS.l0] at H
   by_cases c3 : x5_1 < (l0.length : Int)
   ·rw [if_pos c3] at H; have c3b0 : decide (x5_1 < (l0.length : Int)) = true := decide_eq_true c3; clear c3
    by_cases c4 : 0 ≤ x5_1
    ·rw [if_pos c4] at H; have c4b0 : decide (0 ≤ x5_1) = true := decide_eq_true c4; clear c4; replace H := Option.bind_eq_some_iff.mp H; obtain ⟨t762, A50, H⟩ := H
     try dsimp only at H
     have A5 := zq9 A50; clear A50
     by_cases c6 : (rdOf ByteArray.empty l0 x5_1).toList = t762.toList
     ·rw [if_pos c6] at H
      have c6b0 : ((rdOf ByteArray.empty l0 x5_1).toList == t762.toList) = true := beq_iff_eq.mpr c6
      have c6b1 : ((rdOf ByteArray.empty l0 x5_1).toList != t762.toList) = false := bne_eq_false_iff_eq.mpr c6
      clear c6; have H' := zq9 H; clear H
      try go_wp2
      have n0_ := zq9 (zq4 HB.out)
      clear HB; have HB := n0_; clear n0_
      have p761 : 0 ≤ (x5_1 : Int) := of_decide_eq_true ‹_›
      have q761 : x5_1 < (l0.length : Int) := of_decide_eq_true ‹_›
      obtain ⟨ad761, e761, hx761_0⟩ := Kd.at_string HR0.out x5_1 p761 q761
      have hw761_0 := hx761_0; cases e761; replace hx761_0 := hcl HB hx761_0; replace p761 := eq_true p761; replace q761 := eq_true q761
      refine start_ (n := 7) (S := fun w' => w'.cell? (ad761.add (x5_1).toNat) = some (.string (rdOf ByteArray.empty l0 x5_1))) (ds := []) #[false, false, false, false, false, false, false] (by kernel_rfl) rfl rfl ((hcm HB hw761_0)) (fun hHeld => ?_)
      generalize wr.drew = w7 at HB hx761_0 hHeld ⊢
      refine pure_ (i := 0) (N := some 12) (v := ?_) (a' := ?_) (zb 7 1) rfl rfl (by kernel_rfl) (fun _ _ _ h => h) (Or.inl ⟨by rfl, ?_⟩) ?_ ?_
      rotate_left; ·intro w'; go_simp; with_reducible rfl
      rotate_left; ·simp only [Act.put, zq0, zq1, zq2, i64_w, i32_w]; rfl
      refine pure_ (i := 1) (N := some 13) (v := ?_) (a' := ?_) (zb 7 3) rfl rfl (by kernel_rfl) (fun _ _ _ h => h) (Or.inl ⟨by rfl, ?_⟩) ?_ ?_
      rotate_left; ·intro w'; go_simp; with_reducible rfl
      rotate_left; ·simp only [Act.put, zq0, zq1, zq2, i64_w, i32_w]; rfl
      refine pure_ (i := 2) (N := some 14) (v := ?_) (a' := ?_) (zb 7 7) rfl rfl (by kernel_rfl) (fun _ _ _ h => h) (Or.inl ⟨by rfl, ?_⟩) ?_ ?_
      rotate_left; ·intro w'; go_simp; with_reducible rfl
      rotate_left; ·simp only [Act.put, zq0, zq1, zq2, i64_w, i32_w]; rfl
      refine pure_ (i := 4) (N := some 16) (v := ?_) (a' := ?_) (zb 7 23) rfl rfl (by kernel_rfl) (fun _ _ _ h => h) (Or.inl ⟨by rfl, ?_⟩) ?_ ?_
      rotate_left; ·intro w'; go_simp; with_reducible rfl
      rotate_left; ·simp only [Act.put, zq0, zq1, zq2, i64_w, i32_w]; rfl
      refine take_ (i := 3) (N := some 15) (v := ?_) (a' := ?_) (zb 7 31) rfl rfl (by kernel_rfl) (fun _ _ _ h => h) (Or.inl ⟨by rfl, ?_⟩) hHeld ?_ ?_
      rotate_left; ·intro w' s0; go_simp; with_reducible rfl
      rotate_left; ·simp only [Act.put, zq0, zq1, zq2, i64_w, i32_w]; rfl
      refine one_ (i := 5) (N := some 17) (zb 7 63) rfl rfl (by kernel_rfl) (by decide) (fun K hK => ?_)
      refine gs Try.func64 #[.int .i64 x1_1] ?_
      with_reducible refine (laws_markText.calls k1 x1_1 t762 _ A5.out).mono ?_
      rintro e w8 ⟨rfl, hb⟩
      refine ⟨_, rfl, ?_⟩
      have n0_ := zq9 (zq27 (by exact bl HB) hb)
      clear HB; have HB := n0_; clear n0_
      (try clear hb)
      (try clear hb2)
      (try clear hk)
      (try clear hi)
      refine hK.out _ _ ((hcm HB hw761_0)) (fun hHeld => ?_)
      clear hK K
      refine norm_ (a' := ?_) ?_ ?_
      rotate_left; ·show Act.put _ (some 17) _ = _; simp only [Act.put, zq0, zq1, zq2, i64_w, i32_w]; rfl
      refine pure_ (i := 6) (N := some 18) (v := ?_) (a' := ?_) (zb 7 127) rfl rfl (by kernel_rfl) (fun _ _ _ h => h) (Or.inl ⟨by rfl, ?_⟩) ?_ ?_
      rotate_left; ·intro w'; go_simp; with_reducible rfl
      rotate_left; ·simp only [Act.put, zq0, zq1, zq2, i64_w, i32_w]; rfl
      refine done_ (by kernel_rfl) ?_
      try go_wp2
      go_roundg k1
      case measure => have := HK1.out; omega
      case rel => exact ⟨(wrap64 (x1_1 + 1)), (wrap64 (x5_1 + 1)), (by first | rfl | (simp; done) | (simp [*]; done)), (by first | rfl | (simp; done) | (simp [*]; done)), H', ⟨by have := HK1.out; omega⟩, ⟨by exact bl HB⟩⟩
     ·rw [if_neg c6] at H
      have c6b0 : ((rdOf ByteArray.empty l0 x5_1).toList == t762.toList) = false := beq_eq_false_iff_ne.mpr c6
      have c6b1 : ((rdOf ByteArray.empty l0 x5_1).toList != t762.toList) = true := bne_iff_ne.mpr c6
      obtain rfl := Option.some.inj H
      try go_wp2
      have n0_ := zq9 (zq4 HB.out)
      clear HB; have HB := n0_; clear n0_
      have p761 : 0 ≤ (x5_1 : Int) := of_decide_eq_true ‹_›
      have q761 : x5_1 < (l0.length : Int) := of_decide_eq_true ‹_›
      obtain ⟨ad761, e761, hx761_0⟩ := Kd.at_string HR0.out x5_1 p761 q761
      have hw761_0 := hx761_0; cases e761; replace hx761_0 := hcl HB hx761_0; replace p761 := eq_true p761; replace q761 := eq_true q761
      refine start_ (n := 7) (S := fun w' => w'.cell? (ad761.add (x5_1).toNat) = some (.string (rdOf ByteArray.empty l0 x5_1))) (ds := []) #[false, false, false, false, false, false, false] (by kernel_rfl) rfl rfl ((hcm HB hw761_0)) (fun hHeld => ?_)
      generalize wr.drew = w9 at HB hx761_0 hHeld ⊢
      refine pure_ (i := 0) (N := some 12) (v := ?_) (a' := ?_) (zb 7 1) rfl rfl (by kernel_rfl) (fun _ _ _ h => h) (Or.inl ⟨by rfl, ?_⟩) ?_ ?_
      rotate_left; ·intro w'; go_simp; with_reducible rfl
      rotate_left; ·simp only [Act.put, zq0, zq1, zq2, i64_w, i32_w]; rfl
      refine pure_ (i := 1) (N := some 13) (v := ?_) (a' := ?_) (zb 7 3) rfl rfl (by kernel_rfl) (fun _ _ _ h => h) (Or.inl ⟨by rfl, ?_⟩) ?_ ?_
      rotate_left; ·intro w'; go_simp; with_reducible rfl
      rotate_left; ·simp only [Act.put, zq0, zq1, zq2, i64_w, i32_w]; rfl
      refine pure_ (i := 2) (N := some 14) (v := ?_) (a' := ?_) (zb 7 7) rfl rfl (by kernel_rfl) (fun _ _ _ h => h) (Or.inl ⟨by rfl, ?_⟩) ?_ ?_
      rotate_left; ·intro w'; go_simp; with_reducible rfl
      rotate_left; ·simp only [Act.put, zq0, zq1, zq2, i64_w, i32_w]; rfl
      refine pure_ (i := 4) (N := some 16) (v := ?_) (a' := ?_) (zb 7 23) rfl rfl (by kernel_rfl) (fun _ _ _ h => h) (Or.inl ⟨by rfl, ?_⟩) ?_ ?_
      rotate_left; ·intro w'; go_simp; with_reducible rfl
      rotate_left; ·simp only [Act.put, zq0, zq1, zq2, i64_w, i32_w]; rfl
      refine take_ (i := 3) (N := some 15) (v := ?_) (a' := ?_) (zb 7 31) rfl rfl (by kernel_rfl) (fun _ _ _ h => h) (Or.inl ⟨by rfl, ?_⟩) hHeld ?_ ?_
      rotate_left; ·intro w' s0; go_simp; with_reducible rfl
      rotate_left; ·simp only [Act.put, zq0, zq1, zq2, i64_w, i32_w]; rfl
      refine one_ (i := 5) (N := some 17) (zb 7 63) rfl rfl (by kernel_rfl) (by decide) (fun K hK => ?_)
      refine gs Try.func64 #[.int .i64 x1_1] ?_
      with_reducible refine (laws_markText.calls k1 x1_1 t762 _ A5.out).mono ?_
      rintro e w10 ⟨rfl, hb⟩
      refine ⟨_, rfl, ?_⟩
      have n0_ := zq9 (zq27 (by exact bl HB) hb)
      clear HB; have HB := n0_; clear n0_
      (try clear hb)
      (try clear hb2)
      (try clear hk)
      (try clear hi)
      refine hK.out _ _ ((hcm HB hw761_0)) (fun hHeld => ?_)
      clear hK K
      refine norm_ (a' := ?_) ?_ ?_
      rotate_left; ·show Act.put _ (some 17) _ = _; simp only [Act.put, zq0, zq1, zq2, i64_w, i32_w]; rfl
      refine pure_ (i := 6) (N := some 18) (v := ?_) (a' := ?_) (zb 7 127) rfl rfl (by kernel_rfl) (fun _ _ _ h => h) (Or.inl ⟨by rfl, ?_⟩) ?_ ?_
      rotate_left; ·intro w'; go_simp; with_reducible rfl
      rotate_left; ·simp only [Act.put, zq0, zq1, zq2, i64_w, i32_w]; rfl
      refine done_ (by kernel_rfl) ?_
      try go_wp2
      go_ret
      exact fz (by exact bl HB)
    ·rw [if_neg c4] at H
     exact absurd H (by simp)
   ·rw [if_neg c3] at H; have c3b0 : decide (x5_1 < (l0.length : Int)) = false := decide_eq_false c3; clear c3; obtain rfl := Option.some.inj H
    go_wp2
    go_ret
    exact fz (by exact bl HB)
set_option maxHeartbeats 8000000 in
set_option maxRecDepth 100000 in
theorem laws_FnExactBaseKeys.calls_t (k : Nat) (a0_0 : Int) (A0_1 : Option Addr) (c0_1 : Nat) (l0_1 : List (S26)) (a1 : ByteArray) (r : Bool) (w : World) (hr0_1 : Kd.C k26 w A0_1 l0_1.length l0_1) (hc0_1 : l0_1.length ≤ c0_1) (h : laws_FnExactBaseKeys.f k a0_0 l0_1 a1 = some r) (hr_ : r = true) :
    Calls Try.prog 6 #[.agg #[.int .i64 a0_0, .slice A0_1 l0_1.length c0_1], .string a1] w fun e w' => e = .returned (.bool r) ∧ Below w.heap.size w w' := by
  subst hr_; have hu41 := Try.underlying41; have hu46 := Try.underlying46; have HR := zq9 hr0_1; have HC := zq9 hc0_1; clear hr0_1 hc0_1
  have HB := zq9 (Below.refl w.heap.size w)
  have HT := zq9 (Ok.start w)
  unfold laws_FnExactBaseKeys.f at h
  by_cases cs : (a1.size : Int) > 1048576
  · have csb : decide (1048576 < (a1.size : Int)) = true := decide_eq_true cs
    have csc : decide (1048576 < a1.size) = true := decide_eq_true (by omega)
    clear h
    go_enter Try.func6, Try.ntmps6
    go_wp2_with (first
      | ((with_reducible refine zq25 (N := 2) rfl ?_); refine bx 2 #[.int .i64 a0_0, .slice A0_1 l0_1.length c0_1] 41 ?_; intro p2 hg w1 hbox hb; have n0_ := zq9 (HT.out.box hg hbox hb); have n1_ := zq9 (zq27 HB.out hb); clear HT HB hbox hg hb; have HT := n0_; have HB := n1_; clear n0_ n1_))
    go_ret
    exact ⟨rfl, HB.out⟩
  rw [if_neg cs] at h
  have csb : decide (1048576 < (a1.size : Int)) = false := decide_eq_false cs
  have csc : decide (1048576 < a1.size) = false := decide_eq_false (by omega)
  clear cs
  obtain ⟨t0, H0, h⟩ := Option.bind_eq_some_iff.mp h
  replace H0 := zq9 H0
  by_cases c0 : t0 < 0
  · have c0b : decide (t0 < 0) = true := decide_eq_true c0
    clear h
    go_enter Try.func6, Try.ntmps6
    go_wp2_with (first
      | ((with_reducible refine zq25 (N := 2) rfl ?_); refine bx 2 #[.int .i64 a0_0, .slice A0_1 l0_1.length c0_1] 41 ?_; intro p2 hg w1 hbox hb; have n0_ := zq9 (HT.out.box hg hbox hb); have n1_ := zq9 (zq27 HB.out hb); clear HT HB hbox hg hb; have HT := n0_; have HB := n1_; clear n0_ n1_; have hc0_0 : w1.cell? ⟨p2, 0, none⟩ = some (.int .i64 a0_0) := HT.out.cell 0 0 rfl rfl; have hc0_1 : w1.cell? ⟨p2, 1, none⟩ = some (.slice A0_1 l0_1.length c0_1) := HT.out.cell 0 1 rfl rfl)
      | ((with_reducible refine zq24 (f := 16) rfl ?_); refine gl (some 18) Try.func16 #[.agg #[.int .i64 a0_0, .slice A0_1 l0_1.length c0_1], .int .i64 1048576] ?_; (with_reducible refine (laws_szBase.calls k a0_0 _ _ l0_1 1048576 t0 _ ?s1 ?s2 H0.out).mono ?_); (case s1 => exact (zq31 HR.out HB.out)); (case s2 => exact HC.out); rintro e w2 ⟨rfl, hb⟩; refine ⟨_, rfl, ?_⟩; have n0_ := zq9 (HT.out.below hb); have n1_ := zq9 (zq27 HB.out hb); clear hc0_0 hc0_1 HT HB hb; have HT := n0_; have HB := n1_; clear n0_ n1_; have hc0_0 : w2.cell? ⟨p2, 0, none⟩ = some (.int .i64 a0_0) := HT.out.cell 0 0 rfl rfl; have hc0_1 : w2.cell? ⟨p2, 1, none⟩ = some (.slice A0_1 l0_1.length c0_1) := HT.out.cell 0 1 rfl rfl))
    go_ret
    exact ⟨rfl, HB.out⟩
  rw [if_neg c0] at h
  have c0b : decide (t0 < 0) = false := decide_eq_false c0
  clear c0
  obtain ⟨⟨b1, b2⟩, H1, h⟩ := Option.bind_eq_some_iff.mp h
  replace H1 := zq9 H1
  obtain ⟨v, H2, h⟩ := Option.bind_eq_some_iff.mp h
  replace H2 := zq9 H2
  obtain ⟨⟨x1, x2⟩, H3, h⟩ := Option.bind_eq_some_iff.mp h
  replace H3 := zq9 H3
  obtain ⟨g, H4, h⟩ := Option.bind_eq_some_iff.mp h
  replace H4 := zq9 H4
  obtain ⟨e1, H5, h⟩ := Option.bind_eq_some_iff.mp h
  replace H5 := zq9 H5
  obtain ⟨rfl, h⟩ := ift h
  obtain ⟨⟨y1, y2⟩, H6, h⟩ := Option.bind_eq_some_iff.mp h
  replace H6 := zq9 H6
  obtain ⟨e2, H7, h⟩ := Option.bind_eq_some_iff.mp h
  replace H7 := zq9 H7
  obtain ⟨rfl, h⟩ := ift h
  obtain ⟨⟨m1, m2⟩, H8, h⟩ := Option.bind_eq_some_iff.mp h
  replace H8 := zq9 H8
  obtain ⟨cm, h⟩ := iff_ h
  have cmb : decide (m1 < 0) = false := decide_eq_false cm
  clear cm
  obtain ⟨e3, H9, h⟩ := Option.bind_eq_some_iff.mp h
  replace H9 := zq9 H9
  obtain ⟨rfl, h⟩ := ift h
  obtain ⟨⟨n1, n2⟩, H10, h⟩ := Option.bind_eq_some_iff.mp h
  replace H10 := zq9 H10
  obtain ⟨q, H11, h⟩ := Option.bind_eq_some_iff.mp h
  replace H11 := zq9 H11
  obtain ⟨cq, h⟩ := iff_ h
  have cqb : decide (q < 0) = false := decide_eq_false cq
  clear cq
  obtain ⟨cn, h⟩ := ift h
  dsimp only at cn
  subst cn
  obtain ⟨⟨z1, z2⟩, H12, h⟩ := Option.bind_eq_some_iff.mp h
  replace H12 := zq9 H12
  obtain ⟨h0, H13, h⟩ := Option.bind_eq_some_iff.mp h
  replace H13 := zq9 H13
  obtain ⟨e4, H14, h⟩ := Option.bind_eq_some_iff.mp h
  replace H14 := zq9 H14
  obtain ⟨rfl, h⟩ := ift h
  obtain ⟨q2, H15, h⟩ := Option.bind_eq_some_iff.mp h
  replace H15 := zq9 H15
  obtain ⟨cq, h⟩ := iff_ h
  obtain ⟨cn, h⟩ := ift h
  dsimp only at cn
  subst cn; clear h cq
  try dsimp only at H1 H2 H3 H4 H5 H6 H7 H8 H9 H10 H11 H12 H13 H14 H15
  go_enter Try.func6, Try.ntmps6
  go_wp2_with (first
    | ((with_reducible refine zq25 (N := 2) rfl ?_); refine bx 2 #[.int .i64 a0_0, .slice A0_1 l0_1.length c0_1] 41 ?_; intro p2 hg w1 hbox hb; have n0_ := zq9 (HT.out.box hg hbox hb); have n1_ := zq9 (zq27 HB.out hb); clear HT HB hbox hg hb; have HT := n0_; have HB := n1_; clear n0_ n1_; have hc0_0 : w1.cell? ⟨p2, 0, none⟩ = some (.int .i64 a0_0) := HT.out.cell 0 0 rfl rfl; have hc0_1 : w1.cell? ⟨p2, 1, none⟩ = some (.slice A0_1 l0_1.length c0_1) := HT.out.cell 0 1 rfl rfl)
    | ((with_reducible refine zq24 (f := 16) rfl ?_); refine gl (some 18) Try.func16 #[.agg #[.int .i64 a0_0, .slice A0_1 l0_1.length c0_1], .int .i64 1048576] ?_; (with_reducible refine (laws_szBase.calls k a0_0 _ _ l0_1 1048576 t0 _ ?s1 ?s2 H0.out).mono ?_); (case s1 => exact (zq31 HR.out HB.out)); (case s2 => exact HC.out); rintro e w2 ⟨rfl, hb⟩; refine ⟨_, rfl, ?_⟩; have n0_ := zq9 (HT.out.below hb); have n1_ := zq9 (zq27 HB.out hb); clear hc0_0 hc0_1 HT HB hb; have HT := n0_; have HB := n1_; clear n0_ n1_; have hc0_0 : w2.cell? ⟨p2, 0, none⟩ = some (.int .i64 a0_0) := HT.out.cell 0 0 rfl rfl; have hc0_1 : w2.cell? ⟨p2, 1, none⟩ = some (.slice A0_1 l0_1.length c0_1) := HT.out.cell 0 1 rfl rfl)
    | ((with_reducible refine zq24 (f := 18) rfl ?_); refine gl (some 22) Try.func18 #[.agg #[.int .i64 a0_0, .slice A0_1 l0_1.length c0_1]] ?_; (with_reducible refine (laws_toBase.calls k a0_0 _ _ l0_1 b1 b2 _ ?s1 ?s2 H1.out).mono ?_); (case s1 => exact (zq31 HR.out HB.out)); (case s2 => exact HC.out); rintro e w3 ⟨v0, rfl, ho, hb⟩; refine ⟨_, rfl, ?_⟩; obtain ⟨Ab, cb, rfl⟩ := Kd.S_slice ho; have n0_ := zq9 (HT.out.row HB.out.size ho hb); have n1_ := zq9 (zq27 HB.out hb); clear hc0_0 hc0_1 HT HB ho hb; have HT := n0_; have HB := n1_; clear n0_ n1_)
    | ((with_reducible refine zq24 (f := 21) rfl ?_); refine gl (some 24) Try.func21 #[.agg #[.int .i64 b1, .slice Ab b2.length cb], .string a1] ?_; (with_reducible refine (spec_BaseKeys.calls k b1 _ _ b2 a1 v _ ?s1 ?s2 H2.out).mono ?_); (case s1 => exact HT.out.sC 1 rfl); (case s2 => exact HT.out.sle 1 rfl); rintro e w4 ⟨v0, rfl, ho, hb⟩; refine ⟨_, rfl, ?_⟩; obtain ⟨Av, cv, rfl⟩ := Kd.R_slice ho; have n0_ := zq9 (HT.out.rowr HB.out.size ho hb); have n1_ := zq9 (zq27 HB.out hb); clear HT HB ho hb; have HT := n0_; have HB := n1_; clear n0_ n1_; have hc0_0 : w4.cell? ⟨p2, 0, none⟩ = some (.int .i64 a0_0) := HT.out.cell 0 0 rfl rfl; have hc0_1 : w4.cell? ⟨p2, 1, none⟩ = some (.slice A0_1 l0_1.length c0_1) := HT.out.cell 0 1 rfl rfl)
    | ((with_reducible refine zq24 (f := 18) rfl ?_); refine gl (some 26) Try.func18 #[.agg #[.int .i64 a0_0, .slice A0_1 l0_1.length c0_1]] ?_; (with_reducible refine (laws_toBase.calls k a0_0 _ _ l0_1 x1 x2 _ ?s1 ?s2 H3.out).mono ?_); (case s1 => exact (zq31 HR.out HB.out)); (case s2 => exact HC.out); rintro e w5 ⟨v0, rfl, ho, hb⟩; refine ⟨_, rfl, ?_⟩; obtain ⟨Ax, cx, rfl⟩ := Kd.S_slice ho; have n0_ := zq9 (HT.out.row HB.out.size ho hb); have n1_ := zq9 (zq27 HB.out hb); clear hc0_0 hc0_1 HT HB ho hb; have HT := n0_; have HB := n1_; clear n0_ n1_)
    | ((with_reducible refine zq25 (N := 7) rfl ?_); refine bx 7 #[.int .i64 0, .slice none 0 0] 46 ?_; intro px hg w6 hbox hb; have n0_ := zq9 (HT.out.box hg hbox hb); have n1_ := zq9 (zq27 HB.out hb); clear HT HB hbox hg hb; have HT := n0_; have HB := n1_; clear n0_ n1_; have hc4_0 : w6.cell? ⟨px, 0, none⟩ = some (.int .i64 0) := HT.out.cell 4 0 rfl rfl; have hf4_0 : w6.frozen? ⟨px, 0, none⟩ = false := HT.out.frozen 4 0 rfl; have hc4_1 : w6.cell? ⟨px, 1, none⟩ = some (.slice none 0 0) := HT.out.cell 4 1 rfl rfl; have hf4_1 : w6.frozen? ⟨px, 1, none⟩ = false := HT.out.frozen 4 1 rfl)
    | ((with_reducible refine zq26 (t := 46) (p := 7) rfl ?_); refine store_event (t := 46) (p := 7) (v := ?vo8_) (w1 := ((w6.setCell ⟨px, 0, none⟩ (.int .i64 x1)).setCell ⟨px, 1, none⟩ (.slice Ax x2.length cx))) ?hg ?ho ?hn ?hr ?_; (case ho => rfl); (case hg => rfl); (case hn => rfl); (case hr => first | (go_simp; done) | (go_simp; rfl)); intro w7 hw; have n0_ : Aside0 (Ok w7 w.heap.size [boxE p2 #[.int .i64 a0_0, .slice A0_1 l0_1.length c0_1] 41, rowE k32 32 w.heap.size (.slice Ab b2.length cb) b2 w2.heap.size w3.heap.size, rowR Kd.string 9 w.heap.size (.slice Av v.length cv) v w3.heap.size w4.heap.size, rowE k32 32 w.heap.size (.slice Ax x2.length cx) x2 w4.heap.size w5.heap.size, boxE px #[.int .i64 x1, .slice Ax x2.length cx] 46]) := ⟨by rw [hw]; exact ((HT.out.store 4 rfl 0 (.int .i64 x1)).store 4 rfl 1 (.slice Ax x2.length cx))⟩; have n1_ : Aside0 (Below w.heap.size w w7) := ⟨by rw [hw]; exact (zq28 (zq28 HB.out (HT.out.ge 4 rfl)) (HT.out.ge 4 rfl))⟩; clear hc4_0 hf4_0 hc4_1 hf4_1 HT HB hw; have HT := n0_; have HB := n1_; clear n0_ n1_; have hc4_0 : w7.cell? ⟨px, 0, none⟩ = some (.int .i64 x1) := HT.out.cell 4 0 rfl rfl; have hc4_1 : w7.cell? ⟨px, 1, none⟩ = some (.slice Ax x2.length cx) := HT.out.cell 4 1 rfl rfl)
    | ((with_reducible refine zq24 (f := 22) rfl ?_); refine gl (some 29) Try.func22 #[.agg #[.int .i64 x1, .slice Ax x2.length cx], .string a1] ?_; (with_reducible refine (impl_BaseKeys.calls k x1 _ _ x2 a1 g _ ?s1 ?s2 H4.out).mono ?_); (case s1 => exact HT.out.sC 3 rfl); (case s2 => exact HT.out.sle 3 rfl); rintro e w8 ⟨v0, rfl, ho, hb⟩; refine ⟨_, rfl, ?_⟩; obtain ⟨Ag, cg, rfl⟩ := Kd.R_slice ho; have n0_ := zq9 (HT.out.rowr HB.out.size ho hb); have n1_ := zq9 (zq27 HB.out hb); clear hc4_0 hc4_1 HT HB ho hb; have HT := n0_; have HB := n1_; clear n0_ n1_)
    | ((with_reducible refine zq24 (f := 23) rfl ?_); refine gl (some 32) Try.func23 #[.slice Ag g.length cg, .slice Av v.length cv] ?_; (with_reducible refine (laws_eqStringS.calls k _ _ g _ _ v true _ ?s1 ?s2 ?s3 ?s4 H5.out).mono ?_); (case s1 => exact HT.out.rC 5 rfl); (case s2 => exact HT.out.rle 5 rfl); (case s3 => exact HT.out.rC 2 rfl); (case s4 => exact HT.out.rle 2 rfl); rintro e w9 ⟨rfl, hb⟩; refine ⟨_, rfl, ?_⟩; replace hb := hb.below; have n0_ := zq9 (HT.out.below hb); have n1_ := zq9 (zq27 HB.out hb); clear HT HB hb; have HT := n0_; have HB := n1_; clear n0_ n1_))
  have n0_ := zq9 (HT.out.below (below_drew (Below.refl _ _)))
  have n1_ := zq9 (below_drew HB.out)
  clear HT HB; have HT := n0_; have HB := n1_; clear n0_ n1_
  refine start_ (n := 5) (S := fun w' => w'.cell? ⟨px, 0, none⟩ = some (.int .i64 x1) ∧ w'.cell? ⟨px, 1, none⟩ = some (.slice Ax x2.length cx) ∧ w'.cell? ⟨p2, 0, none⟩ = some (.int .i64 a0_0) ∧ w'.cell? ⟨p2, 1, none⟩ = some (.slice A0_1 l0_1.length c0_1)) (ds := []) #[false, false, false, false, false] (by kernel_rfl) rfl rfl ⟨HT.out.cell 4 0 rfl rfl, HT.out.cell 4 1 rfl rfl, HT.out.cell 0 0 rfl rfl, HT.out.cell 0 1 rfl rfl⟩ (fun hHeld => ?_)
  generalize w9.drew = w10 at HT HB hHeld ⊢
  refine take_ (i := 0) (N := some 34) (v := ?_) (a' := ?_) (zb 5 1) rfl rfl (by kernel_rfl) (fun _ _ _ h => h) (Or.inl ⟨by rfl, ?_⟩) hHeld ?_ ?_
  rotate_left; · rintro w' ⟨s0, s1, s2, s3⟩; go_simp; with_reducible rfl
  rotate_left; · simp only [Act.put, zq0, zq1, zq2, i64_w, i32_w]; rfl
  refine take_ (i := 1) (N := some 35) (v := ?_) (a' := ?_) (zb 5 3) rfl rfl (by kernel_rfl) (fun _ _ _ h => h) (Or.inl ⟨by rfl, ?_⟩) hHeld ?_ ?_
  rotate_left; · rintro w' ⟨s0, s1, s2, s3⟩; go_simp; with_reducible rfl
  rotate_left; · simp only [Act.put, zq0, zq1, zq2, i64_w, i32_w]; rfl
  refine one_ (i := 2) (N := some 36) (zb 5 7) rfl rfl (by kernel_rfl) (by decide) (fun K hK => ?_)
  refine gs Try.func18 #[.agg #[.int .i64 a0_0, .slice A0_1 l0_1.length c0_1]] ?_
  (with_reducible refine (laws_toBase.calls k a0_0 _ _ l0_1 y1 y2 _ ?s1 ?s2 H6.out).mono ?_)
  (case s1 => exact (zq31 HR.out HB.out))
  (case s2 => exact HC.out)
  rintro e w11 ⟨v0, rfl, ho, hb⟩
  refine ⟨_, rfl, ?_⟩
  obtain ⟨Ay, cy, rfl⟩ := Kd.S_slice ho
  have n0_ := zq9 (HT.out.row HB.out.size ho hb)
  have n1_ := zq9 (zq27 HB.out hb)
  clear HT HB ho hb; have HT := n0_; have HB := n1_; clear n0_ n1_
  refine hK.out _ _ ⟨HT.out.cell 4 0 rfl rfl, HT.out.cell 4 1 rfl rfl, HT.out.cell 0 0 rfl rfl, HT.out.cell 0 1 rfl rfl⟩ (fun hHeld => ?_)
  clear hK K
  refine norm_ (a' := ?_) ?_ ?_
  rotate_left; · show Act.put _ (some 36) _ = _; simp only [Act.put, zq0, zq1, zq2, i64_w, i32_w]; rfl
  refine one_ (i := 3) (N := some 37) (zb 5 15) rfl rfl (by kernel_rfl) (by decide) (fun K hK => ?_)
  refine gs Try.func20 #[.agg #[.int .i64 x1, .slice Ax x2.length cx], .agg #[.int .i64 y1, .slice Ay y2.length cy]] ?_
  (with_reducible refine (laws_eqBase.calls k x1 _ _ x2 y1 _ _ y2 true _ ?s1 ?s2 ?s3 ?s4 H7.out).mono ?_)
  (case s1 => exact HT.out.sC 3 rfl)
  (case s2 => exact HT.out.sle 3 rfl)
  (case s3 => exact HT.out.sC 6 rfl)
  (case s4 => exact HT.out.sle 6 rfl)
  rintro e w12 ⟨rfl, hb⟩
  refine ⟨_, rfl, ?_⟩
  have n0_ := zq9 (HT.out.below hb)
  have n1_ := zq9 (zq27 HB.out hb)
  clear HT HB hb; have HT := n0_; have HB := n1_; clear n0_ n1_
  refine hK.out _ _ ⟨HT.out.cell 4 0 rfl rfl, HT.out.cell 4 1 rfl rfl, HT.out.cell 0 0 rfl rfl, HT.out.cell 0 1 rfl rfl⟩ (fun hHeld => ?_)
  clear hK K
  refine norm_ (a' := ?_) ?_ ?_
  rotate_left; · show Act.put _ (some 37) _ = _; simp only [Act.put, zq0, zq1, zq2, i64_w, i32_w]; rfl
  refine pure_ (i := 4) (N := some 38) (v := ?_) (a' := ?_) (zb 5 31) rfl rfl (by kernel_rfl) (fun _ _ _ h => h) (Or.inl ⟨by rfl, ?_⟩) ?_ ?_
  rotate_left; · intro w'; go_simp; with_reducible rfl
  rotate_left; · simp only [Act.put, zq0, zq1, zq2, i64_w, i32_w]; rfl
  refine done_ (by kernel_rfl) ?_
  have hc4_0 : w12.cell? ⟨px, 0, none⟩ = some (.int .i64 x1) := HT.out.cell 4 0 rfl rfl; have hc4_1 : w12.cell? ⟨px, 1, none⟩ = some (.slice Ax x2.length cx) := HT.out.cell 4 1 rfl rfl
  go_wp2_with (first
    | ((with_reducible refine zq24 (f := 24) rfl ?_); refine gl (some 41) Try.func24 #[.agg #[.int .i64 x1, .slice Ax x2.length cx], .int .i64 1] ?_; (with_reducible refine (laws_markBase.calls k x1 (fun k_ => w4.heap.size ≤ k_ ∧ k_ < w5.heap.size) _ x2 1 _ m2 w _ ?s1 ?s2 H8.out).mono ?_); (case s1 => exact HB.out); (case s2 => exact HT.out.s 3 rfl); rintro e w13 ⟨rfl, ho, hb, hk⟩; refine ⟨_, rfl, ?_⟩; have n0_ := zq9 (HT.out.mark 3 rfl ho hk); have n1_ := zq9 hb; have lm := zq9 (show x2.length = m2.length from (Kd.S_reads' ho).1); clear hc4_0 hc4_1 HT HB ho hb hk; have HT := n0_; have HB := n1_; clear n0_ n1_)
    | (go_at_call 23; (with_reducible refine (laws_eqStringS.calls k _ _ g _ _ v true _ ?s1 ?s2 ?s3 ?s4 H9.out).mono ?_); (case s1 => exact HT.out.rC 5 rfl); (case s2 => exact HT.out.rle 5 rfl); (case s3 => exact HT.out.rC 2 rfl); (case s4 => exact HT.out.rle 2 rfl); rintro e w14 ⟨rfl, hb⟩; replace hb := hb.below; have n0_ := zq9 (HT.out.below hb); have n1_ := zq9 (zq27 HB.out hb); clear HT HB hb; have HT := n0_; have HB := n1_; clear n0_ n1_)
    | ((with_reducible refine zq24 (f := 25) rfl ?_); refine gl (some 52) Try.func25 #[.slice Ag g.length cg, .int .i64 1] ?_; (with_reducible refine (laws_markStringS.calls k (fun k => some k = (Value.slice Ag g.length cg).ownBlock) _ g 1 _ n2 w _ ?s1 ?s2 H10.out).mono ?_); (case s1 => exact HB.out); (case s2 => exact Kd.R_tight rfl (HT.out.rr 5 rfl)); rintro e w15 ⟨rfl, ho, hb, hk⟩; refine ⟨_, rfl, ?_⟩; have n0_ := zq9 (HT.out.markr 5 rfl rfl ho hk); have n1_ := zq9 hb; have ln := zq9 (show g.length = n2.length from (Kd.R_reads' ho).1); clear HT HB ho hb hk; have HT := n0_; have HB := n1_; clear n0_ n1_)
    | ((with_reducible refine zq24 (f := 26) rfl ?_); refine gl (some 55) Try.func26 #[.slice Ag g.length cg, .int .i64 1] ?_; refine calls_of_args (args' := #[.slice Ag n2.length cg, .int .i64 1]) (by rw [ln.out]) ?_; (with_reducible refine (laws_heldStringS.calls k _ _ n2 1 _ _ ?s1 ?s2 H11.out).mono ?_); (case s1 => exact HT.out.rC 5 rfl); (case s2 => exact HT.out.rle 5 rfl); rintro e w16 ⟨rfl, hb⟩; refine ⟨_, rfl, ?_⟩; have n0_ := zq9 (HT.out.below hb); have n1_ := zq9 (zq27 HB.out hb); clear HT HB hb; have HT := n0_; have HB := n1_; clear n0_ n1_; have hc0_0 : w16.cell? ⟨p2, 0, none⟩ = some (.int .i64 a0_0) := HT.out.cell 0 0 rfl rfl; have hc0_1 : w16.cell? ⟨p2, 1, none⟩ = some (.slice A0_1 l0_1.length c0_1) := HT.out.cell 0 1 rfl rfl)
    | ((with_reducible refine zq24 (f := 18) rfl ?_); refine gl (some 62) Try.func18 #[.agg #[.int .i64 a0_0, .slice A0_1 l0_1.length c0_1]] ?_; (with_reducible refine (laws_toBase.calls k a0_0 _ _ l0_1 z1 z2 _ ?s1 ?s2 H12.out).mono ?_); (case s1 => exact (zq31 HR.out HB.out)); (case s2 => exact HC.out); rintro e w17 ⟨v0, rfl, ho, hb⟩; refine ⟨_, rfl, ?_⟩; obtain ⟨Az, cz, rfl⟩ := Kd.S_slice ho; have n0_ := zq9 (HT.out.row HB.out.size ho hb); have n1_ := zq9 (zq27 HB.out hb); clear hc0_0 hc0_1 HT HB ho hb; have HT := n0_; have HB := n1_; clear n0_ n1_)
    | ((with_reducible refine zq24 (f := 22) rfl ?_); refine gl (some 64) Try.func22 #[.agg #[.int .i64 z1, .slice Az z2.length cz], .string a1] ?_; (with_reducible refine (impl_BaseKeys.calls k z1 _ _ z2 a1 h0 _ ?s1 ?s2 H13.out).mono ?_); (case s1 => exact HT.out.sC 7 rfl); (case s2 => exact HT.out.sle 7 rfl); rintro e w18 ⟨v0, rfl, ho, hb⟩; refine ⟨_, rfl, ?_⟩; obtain ⟨Ah0, ch0, rfl⟩ := Kd.R_slice ho; have n0_ := zq9 (HT.out.rowr HB.out.size ho hb); have n1_ := zq9 (zq27 HB.out hb); clear HT HB ho hb; have HT := n0_; have HB := n1_; clear n0_ n1_)
    | ((with_reducible refine zq24 (f := 23) rfl ?_); refine gl (some 67) Try.func23 #[.slice Ah0 h0.length ch0, .slice Av v.length cv] ?_; (with_reducible refine (laws_eqStringS.calls k _ _ h0 _ _ v true _ ?s1 ?s2 ?s3 ?s4 H14.out).mono ?_); (case s1 => exact HT.out.rC 8 rfl); (case s2 => exact HT.out.rle 8 rfl); (case s3 => exact HT.out.rC 2 rfl); (case s4 => exact HT.out.rle 2 rfl); rintro e w19 ⟨rfl, hb⟩; refine ⟨_, rfl, ?_⟩; replace hb := hb.below; have n0_ := zq9 (HT.out.below hb); have n1_ := zq9 (zq27 HB.out hb); clear HT HB hb; have HT := n0_; have HB := n1_; clear n0_ n1_)
    | ((with_reducible refine zq24 (f := 26) rfl ?_); refine gl (some 71) Try.func26 #[.slice Ag g.length cg, .int .i64 1] ?_; refine calls_of_args (args' := #[.slice Ag n2.length cg, .int .i64 1]) (by rw [ln.out]) ?_; (with_reducible refine (laws_heldStringS.calls k _ _ n2 1 _ _ ?s1 ?s2 H15.out).mono ?_); (case s1 => exact HT.out.rC 5 rfl); (case s2 => exact HT.out.rle 5 rfl); rintro e w20 ⟨rfl, hb⟩; refine ⟨_, rfl, ?_⟩; have n0_ := zq9 (HT.out.below hb); have n1_ := zq9 (zq27 HB.out hb); clear HT HB hb; have HT := n0_; have HB := n1_; clear n0_ n1_))
  go_ret
  exact ⟨rfl, HB.out⟩
end Go.Proofs.Ytnkgmcgbbldkgaa.P
namespace Go.Proofs.Ytnkgmcgbbldkgaa.Q
open Go.RowKit Go.Proofs.YtnkgmcgbbldkgaaW.PrintWords Go.Proofs.YtnkgmcgbbldkgaaW.PrintLast
def Opens {α H : Type} (enc : TypeId × Value → H) (P : Program) (W : World) (t : TypeId) (d : Kd α) (ok : α → Prop) : Prop :=
  ∀ (fuel : Nat) (cs : List Value) (y : DataW H × List MemPlace), DataW.trod enc P W 0 (fun _ => true) true fuel t cs = some y → ∃ x : α, d.K W x cs ∧ ok x
section
variable {α β H : Type} {enc : TypeId × Value → H} {P : Program} {W : World} {t e : TypeId}
theorem Opens.int {k : IntKind} (ht : P.underlying t = some (.int k)) : Opens enc P W t (Kd.int k) (fun x => (Lit.int k x).wf = true) := by
  intro fuel cs y h
  obtain ⟨n, rfl, _, hn⟩ := DataW.trod_int ht h
  exact ⟨n, rfl, hn⟩
theorem Opens.string (ht : P.underlying t = some .string) : Opens enc P W t Kd.string (fun x => x.size ≤ maxLen) := by
  intro fuel cs y h
  obtain ⟨s, rfl, _, hs⟩ := DataW.trod_string ht h
  exact ⟨s, rfl, hs⟩
theorem cells_len {b : Nat} {a : Addr} {n : Nat} {cs : List Value} (h : W.cells? b a n = some cs) : cs.length = n := by
  unfold World.cells? at h
  split at h
  · simpa using mapM_some_length h
  · cases h
theorem cells_get {b : Nat} {a : Addr} {n : Nat} {cs : List Value} (h : W.cells? b a n = some cs) (i : Nat) (u : Value) (hu : cs[i]? = some u) : W.cell? (a.add i) = some u := by
  have hl := cells_len h
  have hi : i < n := by rw [← hl]; exact (List.getElem?_eq_some_iff.1 hu).1
  unfold World.cells? at h
  split at h
  · rw [← hu]; exact mapM_some_get h i i (by simp [hi])
  · cases h
theorem each_of {γ : Type} {Q : Nat → γ → Prop} (n : Nat) (h : ∀ i, i < n → ∃ x, Q i x) : ∃ l : List γ, l.length = n ∧ ∀ i x, l[i]? = some x → Q i x := by
  induction n with
  | zero => exact ⟨[], rfl, fun i x hx => by simp at hx⟩
  | succ n ih =>
    obtain ⟨l, hl, hq⟩ := ih (fun i hi => h i (by omega))
    obtain ⟨x, hx⟩ := h n (by omega)
    refine ⟨l ++ [x], by simp [hl], fun i y hy => ?_⟩
    rcases Nat.lt_or_ge i l.length with hi | hi
    · rw [List.getElem?_append_left hi] at hy
      exact hq i y hy
    · rw [List.getElem?_append_right hi] at hy
      have : i - l.length = 0 := by
        have := (List.getElem?_eq_some_iff.1 hy).1
        simp at this
        omega
      rw [this] at hy
      injection hy with hy
      obtain rfl : i = n := by omega
      exact hy ▸ hx
theorem Opens.slice {d : Kd α} {ok : α → Prop} (ht : P.underlying t = some (.slice e)) (hc : P.cellsOf e = d.sz) (h : Opens enc P W e d ok) :
    Opens enc P W t (Kd.slice e d) (fun xs => xs.length ≤ maxLen ∧ ∀ x ∈ xs, ok x) := by
  intro fuel cs y hy
  rcases DataW.trod_slice ht hy with ⟨rfl, _⟩ | ⟨a, len, cap, elems, rest, n, _, rfl, _, hb, hl, hm, hlen, hel, _, _⟩
  · exact ⟨[], ⟨none, 0, rfl, Nat.le_refl _, rfl, by simp, fun h => by simp at h⟩, by simp, by simp⟩
  · have each : ∀ i, i < len → ∃ x : α, (∃ c, c.length = d.sz ∧ d.K W x c ∧ ∀ j u, c[j]? = some u → W.cell? (a.add (i * d.sz + j)) = some u) ∧ ok x := by
      intro i hi
      have h1 := hel i hi
      rw [List.getElem?_eq_getElem (by omega)] at h1
      obtain ⟨c, h2, h3⟩ := Option.bind_eq_some_iff.1 h1
      obtain ⟨x, hK, hx⟩ := h _ _ _ h3
      rw [hc] at h2
      refine ⟨x, ⟨c, d.K_len hK, hK, fun j u hu => ?_⟩, hx⟩
      have h4 := cells_get h2 j u hu
      rwa [add_add] at h4
    obtain ⟨l, hll, hq⟩ := each_of len each
    subst hll
    refine ⟨l, ⟨some a, cap, rfl, hl, rfl, ?_, fun _ => ⟨a, rfl, fun j p hp => (hq j p hp).1⟩⟩, by omega, fun x hx => ?_⟩
    · unfold maxLen at hm; omega
    · obtain ⟨i, hi, rfl⟩ := List.getElem_of_mem hx
      exact (hq i _ (List.getElem?_eq_getElem hi)).2
theorem Opens.iso {d : Kd α} {ok : α → Prop} (f : β → α) (g : α → β) (hfg : ∀ a, f (g a) = a) (h : Opens enc P W t d ok) : Opens enc P W t (Kd.iso d f) (fun x => ok (f x)) := by
  intro fuel cs y hy
  obtain ⟨x, hK, hx⟩ := h _ _ _ hy
  exact ⟨g x, by show d.K W (f (g x)) cs; rw [hfg]; exact hK, by show ok (f (g x)); rw [hfg]; exact hx⟩
def OpensF {α H : Type} (enc : TypeId × Value → H) (P : Program) (W : World) (fs : List Field) (o : Nat) (d : Kd α) (ok : α → Prop) : Prop :=
  ∀ (n : Nat) (cs : List Value) (xs : List (DataW H × List MemPlace)), cs.length = o + d.sz → xs.length = fs.length →
    (∀ (i : Nat) (f : Field), fs[i]? = some f → DataW.trod enc P W 0 (fun _ => true) true n f.type ((cs.drop f.offset).take (P.cellsOf f.type)) = xs[i]?) → ∃ x : α, d.K W x (cs.drop o) ∧ ok x
theorem OpensF.one {d : Kd α} {ok : α → Prop} {f : Field} {o : Nat} (ho : f.offset = o) (hc : P.cellsOf f.type = d.sz) (h : Opens enc P W f.type d ok) : OpensF enc P W [f] o d ok := by
  intro n cs xs hl hx hf
  match xs, hx with
  | [x0], _ =>
    have h0 := hf 0 f rfl
    rw [ho, hc, List.take_of_length_le (by rw [List.length_drop]; omega)] at h0
    exact h n _ x0 (by simpa using h0)
theorem OpensF.cons {d : Kd α} {ok : α → Prop} {d' : Kd β} {ok' : β → Prop} {f : Field} {fs : List Field} {o : Nat} (ho : f.offset = o) (hc : P.cellsOf f.type = d.sz) (h : Opens enc P W f.type d ok)
    (hs : OpensF enc P W fs (o + d.sz) d' ok') : OpensF enc P W (f :: fs) o (Kd.pair d d') (fun x => ok x.1 ∧ ok' x.2) := by
  intro n cs xs hl hx hf
  have hsz : (Kd.pair d d').sz = d.sz + d'.sz := rfl
  match xs, hx with
  | x0 :: xs', hx =>
    have h0 := hf 0 f rfl
    rw [ho, hc] at h0
    obtain ⟨a, ha, oka⟩ := h n _ x0 (by simpa using h0)
    obtain ⟨b, hb, okb⟩ := hs n cs xs' (by omega) (by simpa using hx) (fun i g hg => by simpa using hf (i + 1) g (by simpa using hg))
    refine ⟨(a, b), ⟨(cs.drop o).take d.sz, cs.drop (o + d.sz), ?_, ha, hb⟩, oka, okb⟩
    rw [← List.drop_drop, List.take_append_drop]
theorem Opens.struct {d : Kd α} {ok : α → Prop} {fs : Array Field} (ht : P.underlying t = some (.struct fs)) (hc : P.cellsOf t = d.sz) (h : OpensF enc P W fs.toList 0 d ok) : Opens enc P W t d ok := by
  intro fuel cs y hy
  obtain ⟨xs, n, _, _, hl, hx, hf⟩ := DataW.trod_struct ht hy
  have := h n cs xs (by omega) (by simpa using hx) (fun i f hf' => hf i f (by simpa using hf'))
  simpa using this
end
theorem pos {α : Type} {c : Prop} [Decidable c] {t e : Nat → Option α} {r : α} (h : c) (x : Ev t r) : Ev (fun k => if c then t k else e k) r := by
  obtain ⟨K, hK⟩ := x
  exact ⟨K, fun k hk => (if_pos h).trans (hK k hk)⟩
theorem neg {α : Type} {c : Prop} [Decidable c] {t e : Nat → Option α} {r : α} (h : ¬ c) (x : Ev e r) : Ev (fun k => if c then t k else e k) r := by
  obtain ⟨K, hK⟩ := x
  exact ⟨K, fun k hk => (if_neg h).trans (hK k hk)⟩
theorem both {α : Type} {c : Prop} [Decidable c] {t e : Nat → Option α} {r : α} (x : c → Ev t r) (y : ¬ c → Ev e r) : Ev (fun k => if c then t k else e k) r := by
  by_cases h : c
  · exact pos h (x h)
  · exact neg h (y h)
theorem ret {α : Type} (r : α) : Ev (fun _ => some r) r := Ev.now r
theorem ret' {α : Type} {r q : α} (h : r = q) : Ev (fun _ => some r) q := h ▸ Ev.now r
theorem val {α : Type} {g : Option α} {r : α} (h : g = some r) : Ev (fun _ => g) r := ⟨0, fun _ _ => h⟩
theorem of_eq {α : Type} {g : Nat → Option α} {r q : α} (h : Ev g r) (e : r = q) : Ev g q := e ▸ h
theorem exists_of {α : Type} {g : Nat → Option α} {r : α} (h : Ev g r) : ∃ k, g k = some r := by
  obtain ⟨K, hK⟩ := h
  exact ⟨K, hK K (Nat.le_refl _)⟩
theorem wrap_id {x : Int} (h1 : -9223372036854775808 ≤ x) (h2 : x ≤ 9223372036854775807) : wrap64 x = x := by
  unfold wrap64
  omega
theorem rdOf_lt {α : Type} (d : α) (l : List α) (i : Nat) (h : i < l.length) : rdOf d l (i : Int) = l[i] := by
  simp [rdOf, List.getD_eq_getElem?_getD, h]
theorem toList_inj {a b : ByteArray} (h : a.toList = b.toList) : a = b := by
  rw [ByteArray.toList_eq, ByteArray.toList_eq] at h
  cases a with
  | mk x => cases b with
    | mk y =>
      congr
      exact Array.toList_inj.1 h
theorem toList_len (a : ByteArray) : a.toList.length = a.size := by
  rw [ByteArray.toList_eq]
  rfl
end Go.Proofs.Ytnkgmcgbbldkgaa.Q
namespace Go.Proofs.Ytnkgmcgbbldkgaa.Q
open Go.RowKit Go.Proofs.YtnkgmcgbbldkgaaW.PrintWords Go.Proofs.YtnkgmcgbbldkgaaW.PrintLast Go.Proofs.Ytnkgmcgbbldkgaa.P
theorem strOfNums_one (x : Int) : (strOfNums [x]).size = 1 := by rfl
theorem markText_l0 (d : Nat) : ∀ (x : Int) (s : ByteArray), x.toNat ≤ d → x.toNat + s.size ≤ 9223372036854775806 → ∃ r, Ev (fun k => laws_markText.l0 k x s) r := by
  induction d with
  | zero =>
    intro x s hx hs
    exact ⟨_, Ev.step (fun k => by rw [laws_markText.l0]) (neg (by omega) (pos (by omega) (ret _)))⟩
  | succ d ih =>
    intro x s hx hs
    by_cases h : x > 0
    · have e1 : (Int.tdiv x 10) = x / 10 := Int.tdiv_eq_ediv_of_nonneg (by omega)
      have e2 : wrap64 (Int.tdiv x 10) = x / 10 := by rw [e1]; exact wrap_id (by omega) (by omega)
      obtain ⟨r, hr⟩ := ih (x / 10) (strOfNums [(wrap64 (48 + (Int.tmod x 10))) % 256] ++ s) (by omega) (by rw [ByteArray.size_append, strOfNums_one]; omega)
      refine ⟨r, Ev.step (fun k => by rw [laws_markText.l0]) (pos h ?_)⟩
      refine Ev.bind (ret _) (pos ?_ ?_)
      · rw [strOfNums_one]; omega
      · rw [e2]; exact hr
    · exact ⟨_, Ev.step (fun k => by rw [laws_markText.l0]) (neg h (pos (by omega) (ret _)))⟩
theorem markText_ex (n : Int) (h : n ≤ 9223372036854775806) : ∃ r, Ev (fun k => laws_markText.f k n) r := by
  unfold laws_markText.f
  by_cases h0 : n ≤ 0
  · exact ⟨_, pos h0 (ret _)⟩
  · obtain ⟨r, hr⟩ := markText_l0 n.toNat n (⟨#[]⟩ : ByteArray) (Nat.le_refl _) (by show n.toNat + 0 ≤ _; omega)
    exact ⟨r, neg h0 hr⟩
open Classical in
noncomputable def markT (n : Int) : ByteArray := if h : ∃ r, Ev (fun k => laws_markText.f k n) r then h.choose else ByteArray.empty
theorem markT_ev (n : Int) (h : n ≤ 9223372036854775806) : Ev (fun k => laws_markText.f k n) (markT n) := by
  have h' := markText_ex n h
  unfold markT
  rw [dif_pos h']
  exact h'.choose_spec
noncomputable def marks (n : Int) (m : Nat) : List ByteArray := (List.range m).map fun (j : Nat) => markT (n + (j : Int))
theorem marks_length (n : Int) (m : Nat) : (marks n m).length = m := by simp [marks]
theorem marks_get (n : Int) (m j : Nat) (h : j < (marks n m).length) : (marks n m)[j] = markT (n + j) := by simp [marks]
theorem marks_succ (n : Int) (m : Nat) : marks n (m + 1) = marks n m ++ [markT (n + m)] := by simp [marks, List.range_succ]
theorem markStringS_l0 (n : Int) (m : Nat) (h0 : 0 ≤ n) (h1 : n + m ≤ 9223372036854775806) (d : Nat) : ∀ (i : Nat) (x : List ByteArray), i + d = m → x.length = m → x.take i = marks n i →
    Ev (fun k => laws_markStringS.l0 k x (n + i) (i : Int)) (n + m, marks n m) := by
  induction d with
  | zero =>
    intro i x hi hx ht
    refine Ev.step (fun k => by rw [laws_markStringS.l0]) (neg (by omega) (ret' ?_))
    obtain rfl : i = m := by omega
    rw [List.take_of_length_le (by omega)] at ht
    rw [ht]
  | succ d ih =>
    intro i x hi hx ht
    refine Ev.step (fun k => by rw [laws_markStringS.l0]) (pos (by omega) (Ev.bind (markT_ev _ (by omega)) ?_))
    refine pos (by omega) ?_
    rw [wrap_id (by omega) (by omega), wrap_id (by omega) (by omega)]
    have := ih (i + 1) (x.set i (markT (n + i))) (by omega) (by simp [hx]) (by
      rw [List.take_succ_eq_append_getElem (by simp; omega), marks_succ, List.take_set_of_le (Nat.le_refl _), ht]
      simp)
    rw [show (n + (i : Int) + 1) = n + ((i + 1 : Nat) : Int) by omega, Int.toNat_natCast]
    exact this
theorem markStringS_ev (l : List ByteArray) (n : Int) (h0 : 0 ≤ n) (h1 : n + l.length ≤ 9223372036854775806) : Ev (fun k => laws_markStringS.f k l n) (n + l.length, marks n l.length) := by
  have := markStringS_l0 n l.length h0 h1 l.length 0 l (by omega) rfl (by simp [marks])
  simpa [laws_markStringS.f] using this
theorem heldStringS_l0 (n : Int) (m : Nat) (h0 : 0 ≤ n) (h1 : n + m ≤ 9223372036854775806) (d : Nat) : ∀ (i : Nat), i + d = m →
    Ev (fun k => laws_heldStringS.l0 k (marks n m) (n + i) (i : Int)) (n + m) := by
  have hm := marks_length n m
  induction d with
  | zero =>
    intro i hi
    obtain rfl : i = m := by omega
    exact Ev.step (fun k => by rw [laws_heldStringS.l0]) (neg (by omega) (ret' rfl))
  | succ d ih =>
    intro i hi
    refine Ev.step (fun k => by rw [laws_heldStringS.l0]) (pos (by omega) (pos (by omega) (Ev.bind (markT_ev _ (by omega)) ?_)))
    refine pos ?_ ?_
    · rw [rdOf_lt _ _ _ (by omega), marks_get]
    · rw [wrap_id (by omega) (by omega), wrap_id (by omega) (by omega)]
      exact ih (i + 1) (by omega) |> fun h => by rw [show (n + (i : Int) + 1) = n + ((i + 1 : Nat) : Int) by omega]; exact h
theorem heldStringS_ev (n : Int) (m : Nat) (h0 : 0 ≤ n) (h1 : n + m ≤ 9223372036854775806) : Ev (fun k => laws_heldStringS.f k (marks n m) n) (n + m) := by
  have := heldStringS_l0 n m h0 h1 m 0 (by omega)
  simpa [laws_heldStringS.f] using this
abbrev LScore := S95
abbrev Score := S99
instance : DecidableEq Score := fun a b => decidable_of_iff (a.f0 = b.f0 ∧ a.f1 = b.f1) ⟨fun h => by cases a; cases b; simp at h; simp [h], fun h => by rw [h]; exact ⟨rfl, rfl⟩⟩
theorem rdLScore_lt (l : List LScore) (i : Nat) (h : i < l.length) : rd_T95 l (i : Int) = l[i] := by
  simp [rd_T95, List.getD_eq_getElem?_getD, h]
theorem rdScore_lt (l : List Score) (i : Nat) (h : i < l.length) : rd_T99 l (i : Int) = l[i] := by
  simp [rd_T99, List.getD_eq_getElem?_getD, h]
theorem szScore_ev (a : ByteArray) (n : Int) (ha : a.size ≤ maxLen) (c : Int) (h0 : 0 ≤ c) (h1 : c ≤ 1048576) :
    ∃ v, laws_szScore.f a n c = some v ∧ v ≤ c ∧ -1 ≤ v ∧ (0 ≤ v → a.size ≤ 1048576) := by
  unfold maxLen at ha
  unfold laws_szScore.f
  rw [wrap_id (x := c - (a.size : Int)) (by omega) (by omega)]
  by_cases h : c - (a.size : Int) < 0
  · exact ⟨-1, if_pos h, by omega, by omega, by omega⟩
  · exact ⟨_, if_neg h, by omega, by omega, fun _ => by omega⟩
theorem szScoreS_l0 (l : List LScore) (hl : l.length ≤ maxLen) (hs : ∀ s ∈ l, s.f0.size ≤ maxLen ∧ (Lit.int .i64 s.f1).wf = true) (d : Nat) : ∀ (i : Nat) (c : Int), i + d = l.length → 0 ≤ c → c ≤ 1048576 →
    ∃ v, Ev (fun k => laws_szScoreS.l0 k l c (i : Int)) v ∧ v ≤ c ∧ -1 ≤ v ∧ (0 ≤ v → ∀ j (h : j < l.length), i ≤ j → l[j].f0.size ≤ 1048576) := by
  unfold maxLen at hl
  induction d with
  | zero =>
    intro i c hi h0 h1
    exact ⟨c, Ev.step (fun k => by rw [laws_szScoreS.l0]) (neg (by omega) (ret c)), by omega, by omega, fun _ j hj hij => by omega⟩
  | succ d ih =>
    intro i c hi h0 h1
    have hlt : i < l.length := by omega
    obtain ⟨hs0, _⟩ := hs _ (List.getElem_mem hlt)
    obtain ⟨v, hv, hv1, hv2, hv3⟩ := szScore_ev _ l[i].f1 hs0 c h0 h1
    by_cases hneg : v < 0
    · refine ⟨-1, Ev.step (fun k => by rw [laws_szScoreS.l0]) (pos (by omega) (pos (by omega) ?_)), by omega, by omega, by omega⟩
      rw [rdLScore_lt _ _ hlt]
      exact Ev.bind (val hv) (pos hneg (ret (-1)))
    · obtain ⟨u, hu, h2, h3, h4⟩ := ih (i + 1) v (by omega) (by omega) (by omega)
      refine ⟨u, Ev.step (fun k => by rw [laws_szScoreS.l0]) (pos (by omega) (pos (by omega) ?_)), by omega, h3, fun h5 j hj hij => ?_⟩
      · rw [rdLScore_lt _ _ hlt, wrap_id (x := (i : Int) + 1) (by omega) (by omega)]
        exact Ev.bind (val hv) (neg hneg hu)
      · rcases Nat.eq_or_lt_of_le hij with rfl | hij
        · exact hv3 (by omega)
        · exact h4 h5 j hj hij
theorem szScoreS_ev (l : List LScore) (hl : l.length ≤ maxLen) (hs : ∀ s ∈ l, s.f0.size ≤ maxLen ∧ (Lit.int .i64 s.f1).wf = true) (c : Int) (h0 : 0 ≤ c) (h1 : c ≤ 1048576) :
    ∃ v, Ev (fun k => laws_szScoreS.f k l c) v ∧ v ≤ c ∧ -1 ≤ v ∧ (0 ≤ v → l.length ≤ 1048576 ∧ ∀ s ∈ l, s.f0.size ≤ 1048576) := by
  have hl' := hl
  unfold maxLen at hl'
  by_cases h : c - (l.length : Int) < 0
  · refine ⟨-1, ?_, by omega, by omega, by omega⟩
    unfold laws_szScoreS.f
    refine pos ?_ (ret _)
    rw [wrap_id (by omega) (by omega)]
    exact h
  · obtain ⟨v, hv, h2, h3, h4⟩ := szScoreS_l0 l hl hs l.length 0 (c - (l.length : Int)) (by omega) (by omega) (by omega)
    refine ⟨v, ?_, by omega, h3, fun h5 => ⟨by omega, fun s hs => ?_⟩⟩
    · unfold laws_szScoreS.f
      rw [wrap_id (by omega) (by omega)]
      exact neg h hv
    · obtain ⟨j, hj, rfl⟩ := List.getElem_of_mem hs
      exact h4 h5 j hj (by omega)
def cvScore (x : LScore) : Score := ⟨x.f0, x.f1⟩
theorem toScoreS_l0 (l : List LScore) (hl : l.length ≤ maxLen) (d : Nat) : ∀ (i : Nat) (x : List Score), i + d = l.length → x.length = l.length → Ev (fun k => laws_toScoreS.l0 k l x (i : Int)) (x.take i ++ (l.drop i).map cvScore) := by
  unfold maxLen at hl
  induction d with
  | zero =>
    intro i x hi hx
    refine Ev.step (fun k => by rw [laws_toScoreS.l0]) (neg (by omega) (ret' ?_))
    rw [List.drop_of_length_le (by omega), List.take_of_length_le (by omega), List.map_nil, List.append_nil]
  | succ d ih =>
    intro i x hi hx
    have hlt : i < l.length := by omega
    refine Ev.step (fun k => by rw [laws_toScoreS.l0]) (pos (by omega) (pos (by omega) ?_))
    rw [rdLScore_lt _ _ hlt, wrap_id (by omega) (by omega)]
    refine Ev.bind (val rfl) (pos (by omega) (of_eq (ih (i + 1) _ (by omega) (by simp [hx])) ?_))
    rw [List.drop_eq_getElem_cons hlt, Int.toNat_natCast, List.take_set, List.take_succ_eq_append_getElem (by omega), List.set_append_right _ _ (by simp; omega), List.map_cons]
    simp [show min i x.length = i by omega]
    rfl
theorem toScoreS_ev (l : List LScore) (hl : l.length ≤ 1048576) : Ev (fun k => laws_toScoreS.f k l) (l.map cvScore) := by
  unfold laws_toScoreS.f
  refine pos (by omega) (pos (by omega) ?_)
  exact of_eq (toScoreS_l0 l (by unfold maxLen; omega) l.length 0 _ (by omega) (by simp)) (by simp)
theorem eqScore_eq (a b : Score) : laws_eqScore.f a.f0 a.f1 b.f0 b.f1 = some (decide (a = b)) := by
  unfold laws_eqScore.f
  obtain ⟨a0, a1⟩ := a
  obtain ⟨b0, b1⟩ := b
  by_cases h0 : a0 = b0
  · by_cases h1 : a1 = b1
    · simp [h0, h1]
    · simp [h0, h1]
  · have : ¬ a0.toList = b0.toList := fun e => h0 (toList_inj e)
    simp [h0, this]
theorem eqScoreS_l0 (l l' : List Score) (hl : l.length ≤ maxLen) (he : l.length = l'.length) (d : Nat) : ∀ (i : Nat), i + d = l.length → Ev (fun k => laws_eqScoreS.l0 k l l' (i : Int)) (decide (l.drop i = l'.drop i)) := by
  unfold maxLen at hl
  induction d with
  | zero =>
    intro i hi
    refine Ev.step (fun k => by rw [laws_eqScoreS.l0]) (neg (by omega) (ret' ?_))
    rw [List.drop_of_length_le (by omega), List.drop_of_length_le (by omega)]
    simp
  | succ d ih =>
    intro i hi
    have hlt : i < l.length := by omega
    have hlt' : i < l'.length := by omega
    refine Ev.step (fun k => by rw [laws_eqScoreS.l0]) (pos (by omega) (pos (by omega) (pos (by omega) ?_)))
    rw [rdScore_lt _ _ hlt, rdScore_lt _ _ hlt', wrap_id (by omega) (by omega), List.drop_eq_getElem_cons hlt, List.drop_eq_getElem_cons hlt']
    refine Ev.bind (val (eqScore_eq _ _)) (both (fun h => ?_) (fun h => ret' ?_))
    · refine of_eq (ih (i + 1) (by omega)) ?_
      rw [of_decide_eq_true h]
      exact decide_eq_decide.2 (by simp only [List.cons.injEq, true_and])
    · exact (decide_eq_false (fun e => h (decide_eq_true (List.cons.inj e).1))).symm
theorem eqScoreS_ev (l l' : List Score) (hl : l.length ≤ maxLen) : Ev (fun k => laws_eqScoreS.f k l l') (decide (l = l')) := by
  unfold laws_eqScoreS.f
  refine both (fun h => ?_) (fun h => ret' ?_)
  · exact eqScoreS_l0 l l' hl (by omega) l.length 0 (by omega)
  · have : l ≠ l' := fun e => h (by rw [e])
    simp [this]
theorem eqScoreS_same (l : List Score) (hl : l.length ≤ maxLen) : Ev (fun k => laws_eqScoreS.f k l l) true := of_eq (eqScoreS_ev l l hl) (by simp)
noncomputable def marksS (n : Int) (m : Nat) : List Score := (List.range m).map fun (j : Nat) => ⟨markT (n + 2 * (j : Int)), n + 2 * (j : Int) + 1⟩
theorem marksS_succ (n : Int) (m : Nat) : marksS n (m + 1) = marksS n m ++ [⟨markT (n + 2 * m), n + 2 * m + 1⟩] := by simp [marksS, List.range_succ]
theorem markScoreS_l0 (n : Int) (m : Nat) (h0 : 0 ≤ n) (h1 : n + 2 * m ≤ 9223372036854775806) (d : Nat) : ∀ (i : Nat) (x : List Score), i + d = m → x.length = m → x.take i = marksS n i →
    Ev (fun k => laws_markScoreS.l0 k x (n + 2 * i) (i : Int)) (n + 2 * m, marksS n m) := by
  induction d with
  | zero =>
    intro i x hi hx ht
    refine Ev.step (g := fun k => laws_markScoreS.l0 k _ _ _) (fun k => by rw [laws_markScoreS.l0]) (neg (by omega) (ret' ?_))
    obtain rfl : i = m := by omega
    rw [List.take_of_length_le (by omega)] at ht
    rw [ht]
  | succ d ih =>
    intro i x hi hx ht
    have hlt : i < x.length := by omega
    refine Ev.step (g := fun k => laws_markScoreS.l0 k _ _ _) (fun k => by rw [laws_markScoreS.l0]) (pos (by omega) (Ev.bind (markT_ev _ (by omega)) ?_))
    refine pos (by omega) (Ev.bind (ret _) ?_)
    rw [wrap_id (x := n + 2 * (i : Int) + 1) (by omega) (by omega), wrap_id (x := n + 2 * (i : Int) + 1 + 1) (by omega) (by omega), wrap_id (x := (i : Int) + 1) (by omega) (by omega)]
    rw [Int.toNat_natCast, rdScore_lt _ _ hlt, rdScore_lt _ _ (by simp; omega)]
    have := ih (i + 1) (x.set i ⟨markT (n + 2 * i), n + 2 * i + 1⟩) (by omega) (by simp [hx]) (by
      rw [List.take_succ_eq_append_getElem (by simp; omega), marksS_succ, List.take_set_of_le (Nat.le_refl _), ht]
      simp)
    rw [show (n + 2 * (i : Int) + 1 + 1) = n + 2 * ((i + 1 : Nat) : Int) by omega, List.set_set, List.getElem_set_self]
    exact this
theorem markScoreS_ev (l : List Score) (n : Int) (h0 : 0 ≤ n) (h1 : n + 2 * l.length ≤ 9223372036854775806) : Ev (fun k => laws_markScoreS.f k l n) (n + 2 * l.length, marksS n l.length) := by
  have := markScoreS_l0 n l.length h0 h1 l.length 0 l (by omega) rfl (by simp [marksS])
  simpa [laws_markScoreS.f] using this
end Go.Proofs.Ytnkgmcgbbldkgaa.Q
