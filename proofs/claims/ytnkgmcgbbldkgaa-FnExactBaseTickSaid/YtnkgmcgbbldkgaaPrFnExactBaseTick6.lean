import Derived.Test.YtnkgmcgbbldkgaaPrFnExactBaseTick5
import Derived.ProofKit
import Derived.SizedLaws
/- Texts of this claim, one behind the other: words on worlds and rows, printed functions and their walks, plain lemmas. -/
namespace Go.Proofs.Ytnkgmcgbbldkgaa.P
open Go.RowKit Go.Proofs.YtnkgmcgbbldkgaaW.PrintWords Go.Proofs.YtnkgmcgbbldkgaaW.PrintLast Go.Proofs.YtnkgmcgbbldkgaaW.PrintMore
attribute [local go_sem] max2_int min2_int max_two min_two max_three min_three max_four min_four   -- for this text's walks alone
set_option linter.unusedVariables false
set_option linter.unusedSimpArgs false
def impl_BaseTick.T10 : Bool × List (List Nat × List Nat) := (true, [([], []), ([0], [0]), ([], []), ([2], [2]), ([3], [3]), ([1, 4, 3], [1, 4]), ([0, 1, 2, 3, 4, 5], []), ([6, 5, 5, 0, 1, 2, 3, 4, 5], [5, 6])])
def impl_BaseTick.B10 : List Nat := [0, 1, 0, 4, 12, 31, 63, 127]
theorem impl_BaseTick.tab10 : rtab .any (opsOf Try.f32 10) = impl_BaseTick.T10 := by kernel_rfl
theorem impl_BaseTick.bits10 : waitsOk impl_BaseTick.T10.2 impl_BaseTick.B10 = true := by kernel_rfl
set_option maxHeartbeats 8000000 in
set_option maxRecDepth 100000 in
theorem impl_BaseTick.calls (k : Nat) (a0_0 : Int) (A0_1 : Option Addr) (c0_1 : Nat) (l0_1 : List (S32)) (a1 : Int) (r1 : Int) (r2 : List (S32)) (w : World) (hr0_1 : Kd.C k32 w A0_1 l0_1.length l0_1) (hc0_1 : l0_1.length ≤ c0_1) (h : impl_BaseTick.f k a0_0 l0_1 a1 = some (r1, r2)) :
  Calls Try.prog 32 #[.agg #[.int .i64 a0_0, .slice A0_1 l0_1.length c0_1], .int .i64 a1] w fun e w' => ∃ v1_ : Value, e = .returned (.agg #[.int .i64 r1, v1_]) ∧ Kd.S k32 32 w' w.heap.size (fun _ => True) v1_ r2 ∧ Below w.heap.size w w' := by
 have hu46 := Try.underlying46; have hu32 := Try.underlying32; have HR0_1 := zq9 hr0_1; have HC0_1 := zq9 hc0_1; clear hr0_1 hc0_1
 have HB := zq9 (Below.refl w.heap.size w)
 have H : ((impl_BaseOk.f k a0_0 l0_1).bind fun t1089 => (if t1089 = true then (if a1 < 0 then (impl_BaseTick.j0 k a1 true a0_0 l0_1) else (impl_BaseTick.j0 k a1 (decide (a1 > (wrap64 (1000000 - a0_0)))) a0_0 l0_1)) else (some (0, ([] : List (S32)))))) = some (r1, r2) := h
 clear h; replace H := Option.bind_eq_some_iff.mp H; obtain ⟨t1089, A30, H⟩ := H
 try dsimp only at H
 have A3 := zq9 A30; clear A30
 by_cases c4 : t1089 = true
 ·subst c4
  have H1 : (if a1 < 0 then (impl_BaseTick.j0 k a1 true a0_0 l0_1) else (impl_BaseTick.j0 k a1 (decide (a1 > (wrap64 (1000000 - a0_0)))) a0_0 l0_1)) = some (r1, r2) := by rw [if_pos rfl] at H; exact H
  clear H; have H := H1; clear H1; have HC5 := zq9 H; clear H
  go_enter Try.func32, Try.ntmps32
  go_upto_region 3 with (first | ((with_reducible refine zq25 (N := 2) rfl ?_); refine bx 2 #[.int .i64 a0_0, .slice A0_1 l0_1.length c0_1] 46 ?_; intro gb1087 hg w6 hbox hb; have n0_ := zq9 (zq27 (by exact bl HB) hb); have n1_ := zq9 (hbox); have n2_ := zq9 ((by rw [hg]; exact (zq29 (by exact bl HB)) : w.heap.size ≤ gb1087)); have n3_ := n2_; clear HB; have HB := n0_; have BK1087 := n1_; have GW1087 := n2_; have GE1087 := n3_; clear n0_ n1_ n2_ n3_; clear hb hbox hg) | ((with_reducible refine zq25 (N := 4) rfl ?_); refine bx 4 #[.int .i64 0, .slice none 0 0] 46 ?_; intro gb1088 hg w7 hbox hb; have n0_ := zq9 (zq30 (g := gb1087) (o := .cells #[.int .i64 a0_0, .slice A0_1 l0_1.length c0_1] 46 (0, 0)) (by exact bk BK1087) hb); have n1_ := zq9 (zq27 (by exact b1 HB GE1087) hb); have n2_ := zq9 (hbox); have n3_ := zq9 ((by rw [hg]; exact (zq29 (by exact b1 HB GE1087)) : w.heap.size ≤ gb1088)); have n4_ := n3_; have n5_ := zq9 ((by rw [hg]; exact Nat.ne_of_lt (blk_lt (g := gb1087) (o := .cells #[.int .i64 a0_0, .slice A0_1 l0_1.length c0_1] 46 (0, 0)) (by exact bk BK1087)) : gb1087 ≠ gb1088)); have n6_ := zq9 ((by rw [hg]; exact Nat.ne_of_gt (blk_lt (g := gb1087) (o := .cells #[.int .i64 a0_0, .slice A0_1 l0_1.length c0_1] 46 (0, 0)) (by exact bk BK1087)) : gb1088 ≠ gb1087)); clear BK1087; clear HB; have BK1087 := n0_; have HB := n1_; have BK1088 := n2_; have GW1088 := n3_; have GE1088 := n4_; have NB1087_1088 := n5_; have NB1088_1087 := n6_; clear n0_ n1_ n2_ n3_ n4_ n5_ n6_; clear hb hbox hg; have hnb8 := NB1087_1088.out; have hnc8 := NB1088_1087.out; have hcz9_0 : w7.cell? ⟨gb1087, 0, none⟩ = some (.int .i64 a0_0) := bc BK1087 0; have hcz9_1 : w7.cell? ⟨gb1087, 1, none⟩ = some (.slice A0_1 l0_1.length c0_1) := bc BK1087 1; have hfz9_0 := zq6 BK1087.out 0; have hfz9_1 := zq6 BK1087.out 1) | ((with_reducible refine zq24 (f := 19) rfl ?_); refine gl (some 9) Try.func19 #[.agg #[.int .i64 a0_0, .slice A0_1 l0_1.length c0_1]] ?_; (with_reducible refine (impl_BaseOk.calls k a0_0 _ _ l0_1 true _ ?side1 ?side2 A3.out).mono ?_); (case side1 => exact kc HR0_1 HB); (case side2 => exact HC0_1.out); rintro e w10 ⟨rfl, hb⟩; refine ⟨_, rfl, ?_⟩; have n0_ := zq9 (zq30 (g := gb1087) (o := .cells #[.int .i64 a0_0, .slice A0_1 l0_1.length c0_1] 46 (0, 0)) (by exact bk BK1087) hb); have n1_ := zq9 (zq30 (g := gb1088) (o := .cells #[.int .i64 0, .slice none 0 0] 46 (0, 0)) (by exact bk BK1088) hb); have n2_ := zq9 (zq27 (by exact b2 HB GE1087 GE1088) hb); clear BK1087; clear BK1088; clear HB; have BK1087 := n0_; have BK1088 := n1_; have HB := n2_; clear n0_ n1_ n2_; (try clear hb); (try clear hb2); (try clear hk); (try clear hi)))
  (try simp only [Act.put, zq0, zq1, zq2])
  go_cut [20] (fun v20 wc => ∃ (kq : Nat) (x20_4 : Bool), v20 = .bool x20_4 ∧ Aside0 (impl_BaseTick.j0 kq a1 x20_4 a0_0 l0_1 = some (r1, r2)) ∧ Aside0 (kq ≤ k) ∧ Aside0 (wc.heap[gb1087]? = some (.cells #[.int .i64 a0_0, (.slice A0_1 l0_1.length c0_1)] 46 (0, 0))) ∧ Aside0 (wc.heap[gb1088]? = some (.cells #[.int .i64 0, (.slice none 0 0)] 46 (0, 0))) ∧ Aside0 (Below w.heap.size w wc))
  case first =>
   have H := HC5.out; clear HC5
   by_cases c11 : a1 < 0
   ·rw [if_pos c11] at H; have c11b0 : decide (a1 < 0) = true := decide_eq_true c11; clear c11
    (first | rw [c11b0] | (simp only [i64_w, i32_w]; rw [c11b0]) | skip)
    have H' := zq9 H; clear H
    go_wp2
    go_meet
    case rel => exact ⟨_, (true), (by first | rfl | (simp; done) | (simp [*]; done)), H', ⟨by first | omega | exact Nat.le_refl _⟩, ⟨by refine bp ?_; exact BK1087.out⟩, ⟨by refine bp ?_; exact BK1088.out⟩, ⟨by exact b2 HB GE1087 GE1088⟩⟩
   ·rw [if_neg c11] at H; have c11b0 : decide (a1 < 0) = false := decide_eq_false c11; clear c11
    (first | rw [c11b0] | (simp only [i64_w, i32_w]; rw [c11b0]) | skip)
    have H' := zq9 H; clear H; have hnb12 := NB1087_1088.out; have hnc12 := NB1088_1087.out
    have hcz13_0 : w10.cell? ⟨gb1087, 0, none⟩ = some (.int .i64 a0_0) := bc BK1087 0
    have hcz13_1 : w10.cell? ⟨gb1087, 1, none⟩ = some (.slice A0_1 l0_1.length c0_1) := bc BK1087 1
    have hfz13_0 := zq6 BK1087.out 0
    have hfz13_1 := zq6 BK1087.out 1
    go_wp2
    go_meet
    case rel => exact ⟨_, (decide (a1 > (wrap64 (1000000 - a0_0)))), (by first | rfl | (simp; done) | (simp [*]; done)), H', ⟨by first | omega | exact Nat.le_refl _⟩, ⟨by refine bp ?_; exact BK1087.out⟩, ⟨by refine bp ?_; exact BK1088.out⟩, ⟨by exact b2 HB GE1087 GE1088⟩⟩
  case rest =>
   clear HC5
   try clear c1
   try clear p2
   try clear c3
   try clear c4
   try clear p6
   try clear c8
   try clear c11
   try clear c11b0
   try clear c12
   try clear hcz13_0
   try clear hcz13_1
   try clear hcz9_0
   try clear hcz9_1
   try clear hfz13_0
   try clear hfz13_1
   try clear hfz9_0
   try clear hfz9_1
   obtain ⟨kq, x20_4, rfl, HA, HJ4, BK1087, BK1088, HB⟩ := hcut
   cases kq with
   | zero => exact absurd HA.out (by simp [impl_BaseTick.j0])
   | succ kj4 =>
    have H := HA.out; clear HA
    simp only [impl_BaseTick.j0] at H
    have hnb16 := NB1087_1088.out; have hnc16 := NB1088_1087.out
    have hcz17_0 : wc.cell? ⟨gb1087, 0, none⟩ = some (.int .i64 a0_0) := bc BK1087 0
    have hcz17_1 : wc.cell? ⟨gb1087, 1, none⟩ = some (.slice A0_1 l0_1.length c0_1) := bc BK1087 1
    have hfz17_0 := zq6 BK1087.out 0
    have hfz17_1 := zq6 BK1087.out 1
    by_cases c14 : x20_4 = true
    ·subst c14
     have H1 : ((impl_cloneBase.f kj4 a0_0 l0_1).bind fun bt1090 => (some (bt1090.1, bt1090.2))) = some (r1, r2) := by rw [if_pos rfl] at H; exact H
     clear H; have H := H1; clear H1; replace H := Option.bind_eq_some_iff.mp H
     obtain ⟨⟨t1090, t1091⟩, A150, H⟩ := H
     try dsimp only at H
     have A15 := zq9 A150; clear A150
     simp only [Option.some.injEq, Prod.mk.injEq] at H
     obtain ⟨rfl, rfl⟩ := H
     go_wp2_with (first | ((with_reducible refine zq24 (f := 75) rfl ?_); refine gl (some 22) Try.func75 #[.agg #[.int .i64 a0_0, .slice A0_1 l0_1.length c0_1]] ?_; (with_reducible refine (impl_cloneBase.calls kj4 a0_0 _ _ l0_1 t1090 t1091 _ ?side1 ?side2 A15.out).mono ?_); (case side1 => exact kc HR0_1 HB); (case side2 => exact HC0_1.out); rintro e w18 ⟨v1092, rfl, ho0, hb⟩; refine ⟨_, rfl, ?_⟩; have n0_ := zq9 (Kd.S_lower ho0 (zq29 (by exact b2 HB GE1087 GE1088))); have n1_ := zq9 (zq30 (g := gb1087) (o := .cells #[.int .i64 a0_0, .slice A0_1 l0_1.length c0_1] 46 (0, 0)) (by exact bk BK1087) hb); have n2_ := zq9 (zq30 (g := gb1088) (o := .cells #[.int .i64 0, .slice none 0 0] 46 (0, 0)) (by exact bk BK1088) hb); have n3_ := zq9 (zq27 (by exact b2 HB GE1087 GE1088) hb); clear BK1087; clear BK1088; clear HB; have HO1093 := n0_; have BK1087 := n1_; have BK1088 := n2_; have HB := n3_; clear n0_ n1_ n2_ n3_; (try clear hb); (try clear hb2); (try clear hk); (try clear hi); (try clear ho0); have hcz19_0 : w18.cell? ⟨gb1088, 0, none⟩ = some (.int .i64 0) := bc BK1088 0; have hcz19_1 : w18.cell? ⟨gb1088, 1, none⟩ = some (.slice none 0 0) := bc BK1088 1; have hfz19_0 := zq6 BK1088.out 0; have hfz19_1 := zq6 BK1088.out 1; obtain ⟨Ao20, co20, eo20⟩ := Kd.S_slice HO1093.out; subst eo20))
     refine bodyPost_ret (results_cell_row rfl _ _ gb1088 46 #[.int .i64 t1090, .slice Ao20 t1091.length co20] (0, 0) _ rfl (by refine bp ?_; refine blk_put (cs := #[.int .i64 t1090, .slice none 0 0]) ?_ 1 _ rfl; refine bp ?_; refine blk_put (cs := #[.int .i64 0, .slice none 0 0]) ?_ 0 _ rfl; refine bp ?_; exact BK1088.out) Try.underlying46 rfl (by kernel_rfl)) rfl ?_
     exact ⟨_, by first | rfl | (simp [errW_none, errW_some] <;> rfl) | (simp [*, errW_none, errW_some] <;> rfl), by (with_reducible repeat (first | apply Kd.S_alloc | apply Kd.S_drewN | apply Kd.S_drew)); exact Kd.S_mono (Kd.S_far (p := ⟨gb1088, 1, none⟩) (Kd.S_far (p := ⟨gb1088, 0, none⟩) (Kd.S_types HO1093.out BK1088.out (by decide)) (fun _ hk => hk.2) (.int .i64 t1090)) (fun _ hk => hk.2) (.slice Ao20 t1091.length co20)) (fun _ hk => trivial), by exact b2 HB GE1087 GE1088⟩
    ·replace c14 := Bool.eq_false_iff.mpr c14
     subst c14
     have H1 : (impl_BaseTick.l0 kj4 l0_1 (l0_1.length : Int) 0 (wrap64 (a0_0 + a1)) (([] : List (S32)))) = some (r1, r2) := by rw [if_neg (show ¬ (false = true) by decide)] at H; exact H
     clear H; have H := H1; clear H1
     obtain ⟨y1094, hy1094⟩ : ∃ y_ : List (S32), y_ = (([] : List (S32))) := ⟨_, rfl⟩
     replace H : (impl_BaseTick.l0 kj4 l0_1 (l0_1.length : Int) 0 (wrap64 (a0_0 + a1)) y1094) = some (r1, r2) := by first | (rw [hy1094]; with_reducible exact H) | (have H2_ := (Option.bind_some _ _).symm.trans H; rw [hy1094]; with_reducible exact H2_) | (have H2_ := (Option.bind_some _ _).symm.trans H; with_reducible exact H2_) | with_reducible exact H | (rw [hy1094]; exact H) | exact H
     have Ny1094 := zq9 hy1094; clear hy1094; have H' := zq9 H; clear H
     go_wp2_with (first | ((with_reducible refine zq25 (N := 27) rfl ?_); refine Kd.S_lit k32 _ 32 ?hg (N := 27) ?hd (xs := ([] : List (S32))) (inner := []) (ok := fun _ => True) (okp := fun _ => True) ?hr ?hp (fun _ hk => hk) trivial (Below.refl _ _) (Nat.le_refl _) (by simp) ?_; (case hd => rfl); (case hg => rfl); (case hr => first | (go_simp; done) | (go_simp; rfl)); (case hp => exact (Reps.none _ _)); intro v1095 w23 ho24 hb hg_ hnew_; clear hg_ hnew_; (first | rw [← Ny1094.out] at ho24 | (simp only [Int.reduceToNat] at ho24; rw [← Ny1094.out] at ho24)); have n0_ := zq9 (Kd.S_lower ho24 (zq29 (by exact b2 HB GE1087 GE1088))); have n1_ := zq9 (zq30 (g := gb1087) (o := .cells #[.int .i64 a0_0, .slice A0_1 l0_1.length c0_1] 46 (0, 0)) (by exact bk BK1087) hb); have n2_ := zq9 (zq30 (g := gb1088) (o := .cells #[.int .i64 0, .slice none 0 0] 46 (0, 0)) (by exact bk BK1088) hb); have n3_ := zq9 (zq27 (by exact b2 HB GE1087 GE1088) hb); clear BK1087; clear BK1088; clear HB; have HO1096 := n0_; have BK1087 := n1_; have BK1088 := n2_; have HB := n3_; clear n0_ n1_ n2_ n3_; clear hb ho24; obtain ⟨Ao25, co25, eo25⟩ := Kd.S_slice HO1096.out; subst eo25) | ((with_reducible refine zq25 (N := 5) rfl ?_); refine bx 5 #[.int .i64 0, .slice none 0 0] 46 ?_; intro gb1097 hg w26 hbox hb; have n0_ := zq9 (Kd.S_below (by (with_reducible repeat (first | apply Kd.S_alloc | apply Kd.S_drewN | apply Kd.S_drew)); exact HO1096.out) hb); have n1_ := zq9 (zq30 (g := gb1087) (o := .cells #[.int .i64 a0_0, .slice A0_1 l0_1.length c0_1] 46 (0, 0)) (by exact bk BK1087) hb); have n2_ := zq9 (zq30 (g := gb1088) (o := .cells #[.int .i64 0, .slice none 0 0] 46 (0, 0)) (by exact bk BK1088) hb); have n3_ := zq9 (zq27 (by exact b2 HB GE1087 GE1088) hb); have n4_ := zq9 (hbox); have n5_ := zq9 ((by rw [hg]; exact (zq29 (by exact b2 HB GE1087 GE1088)) : w.heap.size ≤ gb1097)); have n6_ := n5_; have n7_ := zq9 ((by rw [hg]; exact Nat.ne_of_lt (blk_lt (g := gb1087) (o := .cells #[.int .i64 a0_0, .slice A0_1 l0_1.length c0_1] 46 (0, 0)) (by exact bk BK1087)) : gb1087 ≠ gb1097)); have n8_ := zq9 ((by rw [hg]; exact Nat.ne_of_gt (blk_lt (g := gb1087) (o := .cells #[.int .i64 a0_0, .slice A0_1 l0_1.length c0_1] 46 (0, 0)) (by exact bk BK1087)) : gb1097 ≠ gb1087)); have n9_ := zq9 ((by rw [hg]; exact Nat.ne_of_lt (blk_lt (g := gb1088) (o := .cells #[.int .i64 0, .slice none 0 0] 46 (0, 0)) (by exact bk BK1088)) : gb1088 ≠ gb1097)); have n10_ := zq9 ((by rw [hg]; exact Nat.ne_of_gt (blk_lt (g := gb1088) (o := .cells #[.int .i64 0, .slice none 0 0] 46 (0, 0)) (by exact bk BK1088)) : gb1097 ≠ gb1088)); clear HO1096; clear BK1087; clear BK1088; clear HB; have HO1096 := n0_; have BK1087 := n1_; have BK1088 := n2_; have HB := n3_; have BK1097 := n4_; have GW1097 := n5_; have GE1097 := n6_; have NB1087_1097 := n7_; have NB1097_1087 := n8_; have NB1088_1097 := n9_; have NB1097_1088 := n10_; clear n0_ n1_ n2_ n3_ n4_ n5_ n6_ n7_ n8_ n9_ n10_; clear hb hbox hg; have hnb27 := NB1097_1087.out; have hnc27 := NB1087_1097.out; have hnb28 := NB1097_1088.out; have hnc28 := NB1088_1097.out; have hcz29_0 : w26.cell? ⟨gb1097, 0, none⟩ = some (.int .i64 0) := bc BK1097 0; have hcz29_1 : w26.cell? ⟨gb1097, 1, none⟩ = some (.slice none 0 0) := bc BK1097 1; have hfz29_0 := zq6 BK1097.out 0; have hfz29_1 := zq6 BK1097.out 1; have hcz30_0 : w26.cell? ⟨gb1087, 0, none⟩ = some (.int .i64 a0_0) := bc BK1087 0; have hcz30_1 : w26.cell? ⟨gb1087, 1, none⟩ = some (.slice A0_1 l0_1.length c0_1) := bc BK1087 1; have hfz30_0 := zq6 BK1087.out 0; have hfz30_1 := zq6 BK1087.out 1))
     go_loopg [32] kj4 (fun kq v32 w' => ∃ (x32_2 : Int) (x1098001_2 : List (S32)) (u1098001 : Value), v32 = .int .i64 x32_2 ∧ Aside0 (impl_BaseTick.l0 kq l0_1 (l0_1.length : Int) x32_2 (wrap64 (a0_0 + a1)) x1098001_2 = some (r1, r2)) ∧ Aside0 (kq ≤ kj4) ∧ Aside0 (Kd.S k32 32 w' w.heap.size (fun _ => True) u1098001 x1098001_2) ∧ Aside0 (w'.heap[gb1087]? = some (.cells #[.int .i64 a0_0, (.slice A0_1 l0_1.length c0_1)] 46 (0, 0))) ∧ Aside0 (w'.heap[gb1088]? = some (.cells #[.int .i64 0, (.slice none 0 0)] 46 (0, 0))) ∧ Aside0 (w'.heap[gb1097]? = some (.cells #[.int .i64 (wrap64 (a0_0 + a1)), u1098001] 46 (0, 0))) ∧ Aside0 (Below w.heap.size w w'))
     case atStart => exact ⟨(0), (y1094), (.slice Ao25 y1094.length co25), (by first | rfl | (simp; done) | (simp [*]; done)), H', ⟨Nat.le_refl _⟩, ⟨by (with_reducible repeat (first | apply Kd.S_alloc | apply Kd.S_drewN | apply Kd.S_drew)); exact Kd.S_mono (Kd.S_far (p := ⟨gb1097, 1, none⟩) (Kd.S_far (p := ⟨gb1097, 0, none⟩) (Kd.S_types HO1096.out BK1097.out (by decide)) (fun _ hk => hk.2) (.int .i64 (wrap64 (a0_0 + a1)))) (fun _ hk => hk.2) (.slice Ao25 y1094.length co25)) (fun _ hk => trivial)⟩, ⟨by refine bp ?_; refine blk_far ?_ NB1087_1097.out _; refine bp ?_; refine blk_far ?_ NB1087_1097.out _; refine bp ?_; exact BK1087.out⟩, ⟨by refine bp ?_; refine blk_far ?_ NB1088_1097.out _; refine bp ?_; refine blk_far ?_ NB1088_1097.out _; refine bp ?_; exact BK1088.out⟩, ⟨(blk_set (blk_set BK1097.out 0 _) 1 _)⟩, ⟨by exact b3 HB GE1087 GE1088 GE1097⟩⟩
     case round =>
      clear H'
      try clear c1
      try clear c2
      try clear p2
      try clear c3
      try clear c4
      try clear p6
      try clear c7
      try clear c8
      try clear c11
      try clear c11b0
      try clear c12
      try clear c14
      try clear c16
      try clear c19
      try clear c21
      try clear c27
      try clear c28
      try clear hcz13_0
      try clear hcz13_1
      try clear hcz17_0z
      try clear hcz17_1z
      try clear hcz19_0
      try clear hcz19_1
      try clear hcz17_0
      try clear hcz17_1
      try clear hcz29_0
      try clear hcz29_1
      try clear hcz30_0
      try clear hcz30_1
      try clear hcz9_0
      try clear hcz9_1
      try clear hfz13_0
      try clear hfz13_1
      try clear hfz17_0z
      try clear hfz17_1z
      try clear hfz19_0
      try clear hfz19_1
      try clear hfz17_0
      try clear hfz17_1
      try clear hfz29_0
      try clear hfz29_1
      try clear hfz30_0
      try clear hfz30_1
      try clear hfz9_0
      try clear hfz9_1
      try clear p2
      try clear p6
      obtain ⟨x32_2, x1098001_2, u1098001, rfl, HA, HK2, HO_1098001, BK1087, BK1088, BK1097, HB⟩ := hrel
      cases gk with
      | zero => exact absurd HA.out (by simp [impl_BaseTick.l0])
      | succ k2 =>
       have H := HA.out; clear HA
       simp only [impl_BaseTick.l0] at H
       by_cases c31 : x32_2 < (l0_1.length : Int)
       ·rw [if_pos c31] at H; have c31b0 : decide (x32_2 < (l0_1.length : Int)) = true := decide_eq_true c31; clear c31
        by_cases c32 : 0 ≤ x32_2
        ·rw [if_pos c32] at H; have c32b0 : decide (0 ≤ x32_2) = true := decide_eq_true c32; clear c32
         by_cases c33 : x32_2 < (l0_1.length : Int)
         ·rw [if_pos c33] at H; have c33b0 : decide (x32_2 < (l0_1.length : Int)) = true := decide_eq_true c33; clear c33
          have p1098 : 0 ≤ (x32_2 : Int) := of_decide_eq_true ‹_›
          have q1098 : x32_2 < (l0_1.length : Int) := of_decide_eq_true ‹_›
          obtain ⟨ad1098, A1098_4, c1098_4, A1098_5, c1098_5, A1098_6, c1098_6, e1098, hx1098_0, hx1098_1, hx1098_2, hx1098_3, hx1098_4, hx1098_5, hx1098_6, hl1098_4, hi1098_4, hl1098_5, hi1098_5, hl1098_6, hi1098_6⟩ := at_T32 HR0_1.out x32_2 p1098 q1098
          cases e1098; replace hx1098_0 := hcl HB hx1098_0; replace hx1098_1 := hcl HB hx1098_1; replace hx1098_2 := hcl HB hx1098_2; replace hx1098_3 := hcl HB hx1098_3; replace hx1098_4 := hcl HB hx1098_4; replace hx1098_5 := hcl HB hx1098_5; replace hx1098_6 := hcl HB hx1098_6; have HR1098_4 := zq9 hi1098_4; have HC1098_4 := zq9 hl1098_4; clear hi1098_4 hl1098_4; have HR1098_5 := zq9 hi1098_5; have HC1098_5 := zq9 hl1098_5
          clear hi1098_5 hl1098_5; have HR1098_6 := zq9 hi1098_6; have HC1098_6 := zq9 hl1098_6; clear hi1098_6 hl1098_6; replace p1098 := eq_true p1098; replace q1098 := eq_true q1098
          by_cases c34 : ((rd_T32 l0_1 x32_2).f1) = 0
          ·rw [if_pos c34] at H
           have c34b0 : (((rd_T32 l0_1 x32_2).f1) == 0) = true := beq_iff_eq.mpr c34
           have c34b1 : (((rd_T32 l0_1 x32_2).f1) != 0) = false := bne_eq_false_iff_eq.mpr c34
           clear c34; replace H := Option.bind_eq_some_iff.mp H
           obtain ⟨⟨t1100, t1101, t1102, t1103, t1104, t1107, t1110⟩, A350, H⟩ := H
           try dsimp only at H
           have A35 := zq9 A350; clear A350
           by_cases c36 : x1098001_2.length < 1172812402961
           ·rw [if_pos c36] at H; have LMc36 := zq9 c36; clear c36
            obtain ⟨y1113, hy1113⟩ : ∃ y_ : List (S32), y_ = (x1098001_2 ++ [(⟨t1100, t1101, t1102, t1103, t1104, t1107, t1110⟩ : S32)]) := ⟨_, rfl⟩
            replace H : (impl_BaseTick.l0 k2 l0_1 (l0_1.length : Int) (wrap64 (x32_2 + 1)) (wrap64 (a0_0 + a1)) y1113) = some (r1, r2) := by first | (rw [hy1113]; with_reducible exact H) | (have H2_ := (Option.bind_some _ _).symm.trans H; rw [hy1113]; with_reducible exact H2_) | (have H2_ := (Option.bind_some _ _).symm.trans H; with_reducible exact H2_) | with_reducible exact H | (rw [hy1113]; exact H) | exact H
            have Ny1113 := zq9 hy1113; clear hy1113; have H' := zq9 H; clear H
            try go_wp2_with (first | ((with_reducible refine zq25 (N := 7) rfl ?_); refine bx 7 #[.string (⟨#[]⟩ : ByteArray), .int .i64 0, .int .i64 0, .string (⟨#[]⟩ : ByteArray), .slice none 0 0, .slice none 0 0, .slice none 0 0] 32 ?_; intro gb1099 hg w37 hbox hb; have n0_ := zq9 (Kd.S_below (Kd.S_elderB (by (with_reducible repeat (first | apply Kd.S_alloc | apply Kd.S_drewN | apply Kd.S_drew)); exact HO_1098001.out) gb1099 (Nat.le_of_eq hg.symm)) hb); have n1_ := zq9 (zq30 (g := gb1087) (o := .cells #[.int .i64 a0_0, .slice (some ad1098) l0_1.length c0_1] 46 (0, 0)) (by exact bk BK1087) hb); have n2_ := zq9 (zq30 (g := gb1088) (o := .cells #[.int .i64 0, .slice none 0 0] 46 (0, 0)) (by exact bk BK1088) hb); have n3_ := zq9 (zq30 (g := gb1097) (o := .cells #[.int .i64 (wrap64 (a0_0 + a1)), u1098001] 46 (0, 0)) (by exact bk BK1097) hb); have n4_ := zq9 (zq27 (by exact b3 HB GE1087 GE1088 GE1097) hb); have n5_ := zq9 (hbox); have n6_ := zq9 ((by rw [hg]; exact (zq29 (by exact b3 HB GE1087 GE1088 GE1097)) : w.heap.size ≤ gb1099)); have n7_ := n6_; have n8_ := zq9 ((by rw [hg]; exact Nat.ne_of_lt (blk_lt (g := gb1087) (o := .cells #[.int .i64 a0_0, .slice (some ad1098) l0_1.length c0_1] 46 (0, 0)) (by exact bk BK1087)) : gb1087 ≠ gb1099)); have n9_ := zq9 ((by rw [hg]; exact Nat.ne_of_gt (blk_lt (g := gb1087) (o := .cells #[.int .i64 a0_0, .slice (some ad1098) l0_1.length c0_1] 46 (0, 0)) (by exact bk BK1087)) : gb1099 ≠ gb1087)); have n10_ := zq9 ((by rw [hg]; exact Nat.ne_of_lt (blk_lt (g := gb1088) (o := .cells #[.int .i64 0, .slice none 0 0] 46 (0, 0)) (by exact bk BK1088)) : gb1088 ≠ gb1099)); have n11_ := zq9 ((by rw [hg]; exact Nat.ne_of_gt (blk_lt (g := gb1088) (o := .cells #[.int .i64 0, .slice none 0 0] 46 (0, 0)) (by exact bk BK1088)) : gb1099 ≠ gb1088)); have n12_ := zq9 ((by rw [hg]; exact Nat.ne_of_lt (blk_lt (g := gb1097) (o := .cells #[.int .i64 (wrap64 (a0_0 + a1)), u1098001] 46 (0, 0)) (by exact bk BK1097)) : gb1097 ≠ gb1099)); have n13_ := zq9 ((by rw [hg]; exact Nat.ne_of_gt (blk_lt (g := gb1097) (o := .cells #[.int .i64 (wrap64 (a0_0 + a1)), u1098001] 46 (0, 0)) (by exact bk BK1097)) : gb1099 ≠ gb1097)); clear HO_1098001; clear BK1087; clear BK1088; clear BK1097; clear HB; have HO_1098001 := n0_; have BK1087 := n1_; have BK1088 := n2_; have BK1097 := n3_; have HB := n4_; have BK1099 := n5_; have GW1099 := n6_; have GE1099 := n7_; have NB1087_1099 := n8_; have NB1099_1087 := n9_; have NB1088_1099 := n10_; have NB1099_1088 := n11_; have NB1097_1099 := n12_; have NB1099_1097 := n13_; clear n0_ n1_ n2_ n3_ n4_ n5_ n6_ n7_ n8_ n9_ n10_ n11_ n12_ n13_; clear hb hbox hg; have hnb38 := NB1099_1087.out; have hnc38 := NB1087_1099.out; have hnb39 := NB1099_1088.out; have hnc39 := NB1088_1099.out; have hnb40 := NB1099_1097.out; have hnc40 := NB1097_1099.out; have hcz41_0 : w37.cell? ⟨gb1099, 0, none⟩ = some (.string (⟨#[]⟩ : ByteArray)) := bc BK1099 0; have hcz41_1 : w37.cell? ⟨gb1099, 1, none⟩ = some (.int .i64 0) := bc BK1099 1; have hcz41_2 : w37.cell? ⟨gb1099, 2, none⟩ = some (.int .i64 0) := bc BK1099 2; have hcz41_3 : w37.cell? ⟨gb1099, 3, none⟩ = some (.string (⟨#[]⟩ : ByteArray)) := bc BK1099 3; have hcz41_4 : w37.cell? ⟨gb1099, 4, none⟩ = some (.slice none 0 0) := bc BK1099 4; have hcz41_5 : w37.cell? ⟨gb1099, 5, none⟩ = some (.slice none 0 0) := bc BK1099 5; have hcz41_6 : w37.cell? ⟨gb1099, 6, none⟩ = some (.slice none 0 0) := bc BK1099 6; have hfz41_0 := zq6 BK1099.out 0; have hfz41_1 := zq6 BK1099.out 1; have hfz41_2 := zq6 BK1099.out 2; have hfz41_3 := zq6 BK1099.out 3; have hfz41_4 := zq6 BK1099.out 4; have hfz41_5 := zq6 BK1099.out 5; have hfz41_6 := zq6 BK1099.out 6))
            have n0_ : Aside0 (Kd.S k32 32 (((((((w37.setCell ⟨gb1099, 0, none⟩ (.string ((rd_T32 l0_1 x32_2).f0))).setCell ⟨gb1099, 1, none⟩ (.int .i64 ((rd_T32 l0_1 x32_2).f1))).setCell ⟨gb1099, 2, none⟩ (.int .i64 ((rd_T32 l0_1 x32_2).f2))).setCell ⟨gb1099, 3, none⟩ (.string ((rd_T32 l0_1 x32_2).f3))).setCell ⟨gb1099, 4, none⟩ (.slice A1098_4 ((rd_T32 l0_1 x32_2).f4).length c1098_4)).setCell ⟨gb1099, 5, none⟩ (.slice A1098_5 ((rd_T32 l0_1 x32_2).f5).length c1098_5)).setCell ⟨gb1099, 6, none⟩ (.slice A1098_6 ((rd_T32 l0_1 x32_2).f6).length c1098_6)) w.heap.size (fun k_ => k_ ≠ gb1099) u1098001 x1098001_2) := ⟨by (with_reducible repeat (first | apply Kd.S_alloc | apply Kd.S_drewN | apply Kd.S_drew)); exact Kd.S_mono (Kd.S_far (p := ⟨gb1099, 6, none⟩) (Kd.S_far (p := ⟨gb1099, 5, none⟩) (Kd.S_far (p := ⟨gb1099, 4, none⟩) (Kd.S_far (p := ⟨gb1099, 3, none⟩) (Kd.S_far (p := ⟨gb1099, 2, none⟩) (Kd.S_far (p := ⟨gb1099, 1, none⟩) (Kd.S_far (p := ⟨gb1099, 0, none⟩) (Kd.S_mono HO_1098001.out (fun k_ hk => (⟨hk, by first | exact hk.2 | exact hk | exact hk.1⟩ : _ ∧ k_ ≠ gb1099))) (fun _ hk => hk.2) (.string ((rd_T32 l0_1 x32_2).f0))) (fun _ hk => hk.2) (.int .i64 ((rd_T32 l0_1 x32_2).f1))) (fun _ hk => hk.2) (.int .i64 ((rd_T32 l0_1 x32_2).f2))) (fun _ hk => hk.2) (.string ((rd_T32 l0_1 x32_2).f3))) (fun _ hk => hk.2) (.slice A1098_4 ((rd_T32 l0_1 x32_2).f4).length c1098_4)) (fun _ hk => hk.2) (.slice A1098_5 ((rd_T32 l0_1 x32_2).f5).length c1098_5)) (fun _ hk => hk.2) (.slice A1098_6 ((rd_T32 l0_1 x32_2).f6).length c1098_6)) (fun _ hk => hk.1.2)⟩
            have n1_ : Aside0 ((((((((w37.setCell ⟨gb1099, 0, none⟩ (.string ((rd_T32 l0_1 x32_2).f0))).setCell ⟨gb1099, 1, none⟩ (.int .i64 ((rd_T32 l0_1 x32_2).f1))).setCell ⟨gb1099, 2, none⟩ (.int .i64 ((rd_T32 l0_1 x32_2).f2))).setCell ⟨gb1099, 3, none⟩ (.string ((rd_T32 l0_1 x32_2).f3))).setCell ⟨gb1099, 4, none⟩ (.slice A1098_4 ((rd_T32 l0_1 x32_2).f4).length c1098_4)).setCell ⟨gb1099, 5, none⟩ (.slice A1098_5 ((rd_T32 l0_1 x32_2).f5).length c1098_5)).setCell ⟨gb1099, 6, none⟩ (.slice A1098_6 ((rd_T32 l0_1 x32_2).f6).length c1098_6)).heap[gb1087]? = some (.cells #[.int .i64 a0_0, .slice (some ad1098) l0_1.length c0_1] 46 (0, 0))) := ⟨by refine bp ?_; refine blk_far ?_ NB1087_1099.out _; refine bp ?_; refine blk_far ?_ NB1087_1099.out _; refine bp ?_; refine blk_far ?_ NB1087_1099.out _; refine bp ?_; refine blk_far ?_ NB1087_1099.out _; refine bp ?_; refine blk_far ?_ NB1087_1099.out _; refine bp ?_; refine blk_far ?_ NB1087_1099.out _; refine bp ?_; refine blk_far ?_ NB1087_1099.out _; refine bp ?_; exact BK1087.out⟩
            have n2_ : Aside0 ((((((((w37.setCell ⟨gb1099, 0, none⟩ (.string ((rd_T32 l0_1 x32_2).f0))).setCell ⟨gb1099, 1, none⟩ (.int .i64 ((rd_T32 l0_1 x32_2).f1))).setCell ⟨gb1099, 2, none⟩ (.int .i64 ((rd_T32 l0_1 x32_2).f2))).setCell ⟨gb1099, 3, none⟩ (.string ((rd_T32 l0_1 x32_2).f3))).setCell ⟨gb1099, 4, none⟩ (.slice A1098_4 ((rd_T32 l0_1 x32_2).f4).length c1098_4)).setCell ⟨gb1099, 5, none⟩ (.slice A1098_5 ((rd_T32 l0_1 x32_2).f5).length c1098_5)).setCell ⟨gb1099, 6, none⟩ (.slice A1098_6 ((rd_T32 l0_1 x32_2).f6).length c1098_6)).heap[gb1088]? = some (.cells #[.int .i64 0, .slice none 0 0] 46 (0, 0))) := ⟨by refine bp ?_; refine blk_far ?_ NB1088_1099.out _; refine bp ?_; refine blk_far ?_ NB1088_1099.out _; refine bp ?_; refine blk_far ?_ NB1088_1099.out _; refine bp ?_; refine blk_far ?_ NB1088_1099.out _; refine bp ?_; refine blk_far ?_ NB1088_1099.out _; refine bp ?_; refine blk_far ?_ NB1088_1099.out _; refine bp ?_; refine blk_far ?_ NB1088_1099.out _; refine bp ?_; exact BK1088.out⟩
            have n3_ : Aside0 ((((((((w37.setCell ⟨gb1099, 0, none⟩ (.string ((rd_T32 l0_1 x32_2).f0))).setCell ⟨gb1099, 1, none⟩ (.int .i64 ((rd_T32 l0_1 x32_2).f1))).setCell ⟨gb1099, 2, none⟩ (.int .i64 ((rd_T32 l0_1 x32_2).f2))).setCell ⟨gb1099, 3, none⟩ (.string ((rd_T32 l0_1 x32_2).f3))).setCell ⟨gb1099, 4, none⟩ (.slice A1098_4 ((rd_T32 l0_1 x32_2).f4).length c1098_4)).setCell ⟨gb1099, 5, none⟩ (.slice A1098_5 ((rd_T32 l0_1 x32_2).f5).length c1098_5)).setCell ⟨gb1099, 6, none⟩ (.slice A1098_6 ((rd_T32 l0_1 x32_2).f6).length c1098_6)).heap[gb1097]? = some (.cells #[.int .i64 (wrap64 (a0_0 + a1)), u1098001] 46 (0, 0))) := ⟨by refine bp ?_; refine blk_far ?_ NB1097_1099.out _; refine bp ?_; refine blk_far ?_ NB1097_1099.out _; refine bp ?_; refine blk_far ?_ NB1097_1099.out _; refine bp ?_; refine blk_far ?_ NB1097_1099.out _; refine bp ?_; refine blk_far ?_ NB1097_1099.out _; refine bp ?_; refine blk_far ?_ NB1097_1099.out _; refine bp ?_; refine blk_far ?_ NB1097_1099.out _; refine bp ?_; exact BK1097.out⟩
            have n4_ : Aside0 ((((((((w37.setCell ⟨gb1099, 0, none⟩ (.string ((rd_T32 l0_1 x32_2).f0))).setCell ⟨gb1099, 1, none⟩ (.int .i64 ((rd_T32 l0_1 x32_2).f1))).setCell ⟨gb1099, 2, none⟩ (.int .i64 ((rd_T32 l0_1 x32_2).f2))).setCell ⟨gb1099, 3, none⟩ (.string ((rd_T32 l0_1 x32_2).f3))).setCell ⟨gb1099, 4, none⟩ (.slice A1098_4 ((rd_T32 l0_1 x32_2).f4).length c1098_4)).setCell ⟨gb1099, 5, none⟩ (.slice A1098_5 ((rd_T32 l0_1 x32_2).f5).length c1098_5)).setCell ⟨gb1099, 6, none⟩ (.slice A1098_6 ((rd_T32 l0_1 x32_2).f6).length c1098_6)).heap[gb1099]? = some (.cells #[.string ((rd_T32 l0_1 x32_2).f0), .int .i64 ((rd_T32 l0_1 x32_2).f1), .int .i64 ((rd_T32 l0_1 x32_2).f2), .string ((rd_T32 l0_1 x32_2).f3), .slice A1098_4 ((rd_T32 l0_1 x32_2).f4).length c1098_4, .slice A1098_5 ((rd_T32 l0_1 x32_2).f5).length c1098_5, .slice A1098_6 ((rd_T32 l0_1 x32_2).f6).length c1098_6] 32 (0, 0))) := ⟨(blk_set (blk_set (blk_set (blk_set (blk_set (blk_set (blk_set BK1099.out 0 _) 1 _) 2 _) 3 _) 4 _) 5 _) 6 _)⟩
            have n5_ : Aside0 (Below w.heap.size w (((((((w37.setCell ⟨gb1099, 0, none⟩ (.string ((rd_T32 l0_1 x32_2).f0))).setCell ⟨gb1099, 1, none⟩ (.int .i64 ((rd_T32 l0_1 x32_2).f1))).setCell ⟨gb1099, 2, none⟩ (.int .i64 ((rd_T32 l0_1 x32_2).f2))).setCell ⟨gb1099, 3, none⟩ (.string ((rd_T32 l0_1 x32_2).f3))).setCell ⟨gb1099, 4, none⟩ (.slice A1098_4 ((rd_T32 l0_1 x32_2).f4).length c1098_4)).setCell ⟨gb1099, 5, none⟩ (.slice A1098_5 ((rd_T32 l0_1 x32_2).f5).length c1098_5)).setCell ⟨gb1099, 6, none⟩ (.slice A1098_6 ((rd_T32 l0_1 x32_2).f6).length c1098_6))) := ⟨by exact b4 HB GE1087 GE1088 GE1097 GE1099⟩
            (try clear HO_1098001)
            (try clear BK1087)
            (try clear BK1088)
            (try clear BK1097)
            (try clear BK1099)
            (try clear HB)
            generalize (((((((w37.setCell ⟨gb1099, 0, none⟩ (.string ((rd_T32 l0_1 x32_2).f0))).setCell ⟨gb1099, 1, none⟩ (.int .i64 ((rd_T32 l0_1 x32_2).f1))).setCell ⟨gb1099, 2, none⟩ (.int .i64 ((rd_T32 l0_1 x32_2).f2))).setCell ⟨gb1099, 3, none⟩ (.string ((rd_T32 l0_1 x32_2).f3))).setCell ⟨gb1099, 4, none⟩ (.slice A1098_4 ((rd_T32 l0_1 x32_2).f4).length c1098_4)).setCell ⟨gb1099, 5, none⟩ (.slice A1098_5 ((rd_T32 l0_1 x32_2).f5).length c1098_5)).setCell ⟨gb1099, 6, none⟩ (.slice A1098_6 ((rd_T32 l0_1 x32_2).f6).length c1098_6)) = w42 at n0_ n1_ n2_ n3_ n4_ n5_ ⊢
            have HO_1098001 := n0_; have BK1087 := n1_; have BK1088 := n2_; have BK1097 := n3_; have BK1099 := n4_; have HB := n5_; clear n0_ n1_ n2_ n3_ n4_ n5_
            have n0_ := zq9 (Kd.S_drew HO_1098001.out)
            have n1_ := zq9 (blk_drew BK1087.out)
            have n2_ := zq9 (blk_drew BK1088.out)
            have n3_ := zq9 (blk_drew BK1097.out)
            have n4_ := zq9 (blk_drew BK1099.out)
            have n5_ := zq9 (zq4 HB.out)
            clear HO_1098001; clear BK1087; clear BK1088; clear BK1097; clear BK1099; clear HB; have HO_1098001 := n0_; have BK1087 := n1_; have BK1088 := n2_; have BK1097 := n3_; have BK1099 := n4_; have HB := n5_; clear n0_ n1_ n2_ n3_ n4_ n5_
            refine start_ (n := 8) (S := fun w' => w'.cell? ⟨gb1097, 0, none⟩ = some (.int .i64 (wrap64 (a0_0 + a1))) ∧ w'.cell? ⟨gb1097, 1, none⟩ = some (u1098001) ∧ w'.cell? ⟨gb1099, 0, none⟩ = some (.string ((rd_T32 l0_1 x32_2).f0)) ∧ w'.cell? ⟨gb1099, 1, none⟩ = some (.int .i64 ((rd_T32 l0_1 x32_2).f1)) ∧ w'.cell? ⟨gb1099, 2, none⟩ = some (.int .i64 ((rd_T32 l0_1 x32_2).f2)) ∧ w'.cell? ⟨gb1099, 3, none⟩ = some (.string ((rd_T32 l0_1 x32_2).f3)) ∧ w'.cell? ⟨gb1099, 4, none⟩ = some (.slice A1098_4 ((rd_T32 l0_1 x32_2).f4).length c1098_4) ∧ w'.cell? ⟨gb1099, 5, none⟩ = some (.slice A1098_5 ((rd_T32 l0_1 x32_2).f5).length c1098_5) ∧ w'.cell? ⟨gb1099, 6, none⟩ = some (.slice A1098_6 ((rd_T32 l0_1 x32_2).f6).length c1098_6)) (ds := [7]) #[false, false, false, false, false, false, false, false] (by kernel_rfl) rfl rfl ⟨bc BK1097 0, bc BK1097 1, bc BK1099 0, bc BK1099 1, bc BK1099 2, bc BK1099 3, bc BK1099 4, bc BK1099 5, bc BK1099 6⟩ (fun hHeld => ?_); refine with_tabW impl_BaseTick.tab10 impl_BaseTick.bits10 (fun HT_ HW_ => ?_)
            generalize w42.drew = w43 at HO_1098001 BK1087 BK1088 BK1097 BK1099 HB hHeld ⊢
            refine pa HT_ 0 46 (zb 8 1) ?_
            refine take_ (i := 1) (N := some 47) (v := ?_) (a' := ?_) (zb 8 3) rfl rfl (take_ofW HT_.out HW_.out (by kernel_rfl)) (fun _ _ _ h => h) (Or.inl ⟨by rfl, ?_⟩) hHeld ?_ ?_
            rotate_left; ·rintro w' ⟨s0, s1, s2, s3, s4, s5, s6, s7, s8⟩; go_simp; with_reducible rfl
            rotate_left; ·simp only [Act.put, zq0, zq1, zq2, i64_w, i32_w]; rfl
            refine take_ (i := 2) (N := some 48) (v := ?_) (a' := ?_) (zb 8 7) rfl rfl (take_ofW HT_.out HW_.out (by kernel_rfl)) (fun _ _ _ h => h) (Or.inl ⟨by rfl, ?_⟩) hHeld ?_ ?_
            rotate_left; ·rintro w' ⟨s0, s1, s2, s3, s4, s5, s6, s7, s8⟩; go_simp; with_reducible rfl
            rotate_left; ·simp only [Act.put, zq0, zq1, zq2, i64_w, i32_w]; rfl
            refine one_ (i := 3) (N := some 49) (zb 8 15) rfl rfl (one_of HT_.out (by kernel_rfl)) (by decide) (fun K hK => ?_)
            refine gs Try.func68 #[.agg #[.string ((rd_T32 l0_1 x32_2).f0), .int .i64 ((rd_T32 l0_1 x32_2).f1), .int .i64 ((rd_T32 l0_1 x32_2).f2), .string ((rd_T32 l0_1 x32_2).f3), .slice A1098_4 ((rd_T32 l0_1 x32_2).f4).length c1098_4, .slice A1098_5 ((rd_T32 l0_1 x32_2).f5).length c1098_5, .slice A1098_6 ((rd_T32 l0_1 x32_2).f6).length c1098_6]] ?_
            with_reducible refine (impl_cloneEntry.calls ((rd_T32 l0_1 x32_2).f0) ((rd_T32 l0_1 x32_2).f1) ((rd_T32 l0_1 x32_2).f2) ((rd_T32 l0_1 x32_2).f3) _ _ ((rd_T32 l0_1 x32_2).f4) _ _ ((rd_T32 l0_1 x32_2).f5) _ _ ((rd_T32 l0_1 x32_2).f6) t1100 t1101 t1102 t1103 t1104 t1107 t1110 _ ?side1 ?side2 ?side3 ?side4 ?side5 ?side6 A35.out).mono ?_
            (case side1 => exact kc HR1098_4 HB)
            (case side2 => exact HC1098_4.out)
            (case side3 => exact kc HR1098_5 HB)
            (case side4 => exact HC1098_5.out)
            (case side5 => exact kc HR1098_6 HB)
            (case side6 => exact HC1098_6.out)
            rintro e w44 ⟨v1105, v1108, v1111, rfl, ho0, ho1, ho2, hb⟩
            refine ⟨_, rfl, ?_⟩
            have n0_ := zq9 (Kd.S_mono (Kd.S_told (Kd.S_told (Kd.S_told (Kd.S_old (by (with_reducible repeat (first | apply Kd.S_alloc | apply Kd.S_drewN | apply Kd.S_drew)); exact HO_1098001.out) hb) (Kd.R_base ho0)) (Kd.R_base ho1)) (Kd.R_base ho2)) (fun _ h_ => h_.1))
            have n1_ := zq9 (Kd.R_lower ho0 (zq29 (by exact b4 HB GE1087 GE1088 GE1097 GE1099)))
            have n2_ := zq9 (Kd.R_lower ho1 (zq29 (by exact b4 HB GE1087 GE1088 GE1097 GE1099)))
            have n3_ := zq9 (Kd.R_lower ho2 (zq29 (by exact b4 HB GE1087 GE1088 GE1097 GE1099)))
            have n4_ := zq9 (zq30 (g := gb1087) (o := .cells #[.int .i64 a0_0, .slice (some ad1098) l0_1.length c0_1] 46 (0, 0)) (by exact bk BK1087) hb)
            have n5_ := zq9 (zq30 (g := gb1088) (o := .cells #[.int .i64 0, .slice none 0 0] 46 (0, 0)) (by exact bk BK1088) hb)
            have n6_ := zq9 (zq30 (g := gb1097) (o := .cells #[.int .i64 (wrap64 (a0_0 + a1)), u1098001] 46 (0, 0)) (by exact bk BK1097) hb)
            have n7_ := zq9 (zq30 (g := gb1099) (o := .cells #[.string ((rd_T32 l0_1 x32_2).f0), .int .i64 ((rd_T32 l0_1 x32_2).f1), .int .i64 ((rd_T32 l0_1 x32_2).f2), .string ((rd_T32 l0_1 x32_2).f3), .slice A1098_4 ((rd_T32 l0_1 x32_2).f4).length c1098_4, .slice A1098_5 ((rd_T32 l0_1 x32_2).f5).length c1098_5, .slice A1098_6 ((rd_T32 l0_1 x32_2).f6).length c1098_6] 32 (0, 0)) (by exact bk BK1099) hb)
            have n8_ := zq9 (zq27 (by exact b4 HB GE1087 GE1088 GE1097 GE1099) hb)
            clear HO_1098001; clear BK1087; clear BK1088; clear BK1097; clear BK1099; clear HB; have HO_1098001 := n0_; have HO1106 := n1_; have HO1109 := n2_; have HO1112 := n3_; have BK1087 := n4_; have BK1088 := n5_; have BK1097 := n6_; have BK1099 := n7_; have HB := n8_; clear n0_ n1_ n2_ n3_ n4_ n5_ n6_ n7_ n8_
            (try clear hb)
            (try clear hb2)
            (try clear hk)
            (try clear hi)
            (try clear ho0)
            (try clear ho1)
            (try clear ho2)
            obtain ⟨Ao46, co46, eo46⟩ := Kd.R_slice HO1106.out
            (first | subst eo46 | (injection eo46 with f1_ f2_ f3_; have f4_ := f1_.symm; have f5_ := f3_.symm; clear f1_ f2_ f3_; subst f4_; subst f5_))
            obtain ⟨Ao47, co47, eo47⟩ := Kd.R_slice HO1109.out
            (first | subst eo47 | (injection eo47 with f1_ f2_ f3_; have f4_ := f1_.symm; have f5_ := f3_.symm; clear f1_ f2_ f3_; subst f4_; subst f5_))
            obtain ⟨Ao48, co48, eo48⟩ := Kd.R_slice HO1112.out
            (first | subst eo48 | (injection eo48 with f1_ f2_ f3_; have f4_ := f1_.symm; have f5_ := f3_.symm; clear f1_ f2_ f3_; subst f4_; subst f5_))
            refine hK.out _ _ ⟨bc BK1097 0, bc BK1097 1, bc BK1099 0, bc BK1099 1, bc BK1099 2, bc BK1099 3, bc BK1099 4, bc BK1099 5, bc BK1099 6⟩ (fun hHeld => ?_)
            clear hK K
            refine norm_ (a' := ?_) ?_ ?_
            rotate_left; ·show Act.put _ (some 49) _ = _; simp only [Act.put, zq0, zq1, zq2, i64_w, i32_w]; rfl
            refine one_ (i := 4) (N := some 50) (zb 8 31) rfl rfl (one_of HT_.out (by kernel_rfl)) (by decide) (fun K hK => ?_)
            refine value_ (w1 := ?_) (v := ?_) (by rfl) rfl ?_ ?_
            rotate_left 2
            ·go_simp
             constructor
             ·rfl
             ·rfl
            refine hK.out _ _ ⟨(zq7 (blk_alloc BK1097.out _) 0).trans rfl, (zq7 (blk_alloc BK1097.out _) 1).trans rfl, (zq7 (blk_alloc BK1099.out _) 0).trans rfl, (zq7 (blk_alloc BK1099.out _) 1).trans rfl, (zq7 (blk_alloc BK1099.out _) 2).trans rfl, (zq7 (blk_alloc BK1099.out _) 3).trans rfl, (zq7 (blk_alloc BK1099.out _) 4).trans rfl, (zq7 (blk_alloc BK1099.out _) 5).trans rfl, (zq7 (blk_alloc BK1099.out _) 6).trans rfl⟩ (fun hHeld => ?_)
            clear hK K
            refine norm_ (a' := ?_) ?_ ?_
            rotate_left; ·show Act.put _ (some 50) _ = _; simp only [Act.put, zq0, zq1, zq2, i64_w, i32_w]; rfl
            refine one_ (i := 5) (N := some 51) (zb 8 63) rfl rfl (one_of HT_.out (by kernel_rfl)) (by decide) (fun K hK => ?_)
            refine Kd.S_append_step k32 (w0 := w) w.heap.size (by rfl) (.tmp 47) (.tmp 50) 44 32 (.agg #[(.string ⟨#[]⟩), (.int .i64 0), (.int .i64 0), (.string ⟨#[]⟩), (.slice none 0 0), (.slice none 0 0), (.slice none 0 0)]) 120 rfl Try.underlying44 info32 rfl (by decide) (by omega) u1098001 x1098001_2 (⟨t1100, t1101, t1102, t1103, t1104, t1107, t1110⟩ : S32) [.string t1100, .int .i64 t1101, .int .i64 t1102, .string t1103, .slice Ao46 t1104.length co46, .slice Ao47 t1107.length co47, .slice Ao48 t1110.length co48] (fun k_ => k_ ≠ gb1099) (fun k_ => some k_ = (.slice Ao46 t1104.length co46 : Value).ownBlock ∨ some k_ = (.slice Ao47 t1107.length co47 : Value).ownBlock ∨ some k_ = (.slice Ao48 t1110.length co48 : Value).ownBlock) rfl rfl ?aP (fun k_ hk_ => hk_.elim (fun h_ => ((Kd.R_mono (ok' := fun k_ => ((fun k_ => k_ ≠ gb1099)) k_ ∧ some k_ ≠ (u1098001 : Value).ownBlock) (Kd.R_types (Kd.R_apart' (HO1106.out) (Kd.S_typed HO_1098001.out) (by decide)) BK1099.out (by decide)) (fun k_ hk => ⟨hk.2, hk.1.2⟩))).1 k_ h_.symm) (fun h_ => h_.elim (fun h_ => ((Kd.R_mono (ok' := fun k_ => ((fun k_ => k_ ≠ gb1099)) k_ ∧ some k_ ≠ (u1098001 : Value).ownBlock) (Kd.R_types (Kd.R_apart' (HO1109.out) (Kd.S_typed HO_1098001.out) (by decide)) BK1099.out (by decide)) (fun k_ hk => ⟨hk.2, hk.1.2⟩))).1 k_ h_.symm) (fun h_ => ((Kd.R_mono (ok' := fun k_ => ((fun k_ => k_ ≠ gb1099)) k_ ∧ some k_ ≠ (u1098001 : Value).ownBlock) (Kd.R_types (Kd.R_apart' (HO1112.out) (Kd.S_typed HO_1098001.out) (by decide)) BK1099.out (by decide)) (fun k_ hk => ⟨hk.2, hk.1.2⟩))).1 k_ h_.symm))) ?aF ?aO ?aB ?aS ?aL ?_
            (case aP => exact k32_mkM _ _ _ (⟨t1100, t1101, t1102, t1103, t1104, t1107, t1110⟩ : S32) (Kd.R_mono (Kd.R_tight rfl (Kd.R_mono (ok' := fun k_ => ((fun k_ => k_ ≠ gb1099)) k_ ∧ some k_ ≠ (u1098001 : Value).ownBlock) (Kd.R_types (Kd.R_apart' (HO1106.out) (Kd.S_typed HO_1098001.out) (by decide)) BK1099.out (by decide)) (fun k_ hk => ⟨hk.2, hk.1.2⟩))) (fun _ h_ => Or.inl h_)) (Kd.R_mono (Kd.R_tight rfl (Kd.R_mono (ok' := fun k_ => ((fun k_ => k_ ≠ gb1099)) k_ ∧ some k_ ≠ (u1098001 : Value).ownBlock) (Kd.R_types (Kd.R_apart' (HO1109.out) (Kd.S_typed HO_1098001.out) (by decide)) BK1099.out (by decide)) (fun k_ hk => ⟨hk.2, hk.1.2⟩))) (fun _ h_ => Or.inr (Or.inl h_))) (Kd.R_mono (Kd.R_tight rfl (Kd.R_mono (ok' := fun k_ => ((fun k_ => k_ ≠ gb1099)) k_ ∧ some k_ ≠ (u1098001 : Value).ownBlock) (Kd.R_types (Kd.R_apart' (HO1112.out) (Kd.S_typed HO_1098001.out) (by decide)) BK1099.out (by decide)) (fun k_ hk => ⟨hk.2, hk.1.2⟩))) (fun _ h_ => Or.inr (Or.inr (h_)))))
            (case aB => exact (by exact b4 HB GE1087 GE1088 GE1097 GE1099))
            (case aF => exact (fun k_ hk => Kd.freshB (g := gb1099) (o := .cells #[.string ((rd_T32 l0_1 x32_2).f0), .int .i64 ((rd_T32 l0_1 x32_2).f1), .int .i64 ((rd_T32 l0_1 x32_2).f2), .string ((rd_T32 l0_1 x32_2).f3), .slice A1098_4 ((rd_T32 l0_1 x32_2).f4).length c1098_4, .slice A1098_5 ((rd_T32 l0_1 x32_2).f5).length c1098_5, .slice A1098_6 ((rd_T32 l0_1 x32_2).f6).length c1098_6] 32 (0, 0)) (by exact bk BK1099) k_ hk))
            (case aO => exact (by (with_reducible repeat (first | apply Kd.S_alloc | apply Kd.S_drewN | apply Kd.S_drew)); exact Kd.S_mono HO_1098001.out (fun k_ hk => ⟨hk.1.1.1, fun e_ => e_.elim (fun h_ => hk.1.1.2 h_) (fun h_ => h_.elim (fun h_ => hk.1.2 h_) (fun h_ => hk.2 h_))⟩)))
            (case aS => exact (zq29 (by exact b4 HB GE1087 GE1088 GE1097 GE1099)))
            (case aL => have := LMc36.out; omega)
            intro v1114 w45 ho hb hg hat
            rw [← Ny1113.out] at ho
            have n0_ := zq9 (blk_grown (g := gb1087) (o := .cells #[.int .i64 a0_0, .slice (some ad1098) l0_1.length c0_1] 46 (0, 0)) (by exact bk BK1087) hg (Kd.S_ne HO_1098001.out BK1087.out (by decide)))
            have n1_ := zq9 (blk_grown (g := gb1088) (o := .cells #[.int .i64 0, .slice none 0 0] 46 (0, 0)) (by exact bk BK1088) hg (Kd.S_ne HO_1098001.out BK1088.out (by decide)))
            have n2_ := zq9 (blk_grown (g := gb1097) (o := .cells #[.int .i64 (wrap64 (a0_0 + a1)), u1098001] 46 (0, 0)) (by exact bk BK1097) hg (Kd.S_ne HO_1098001.out BK1097.out (by decide)))
            have n3_ := zq9 (blk_grown (g := gb1099) (o := .cells #[.string ((rd_T32 l0_1 x32_2).f0), .int .i64 ((rd_T32 l0_1 x32_2).f1), .int .i64 ((rd_T32 l0_1 x32_2).f2), .string ((rd_T32 l0_1 x32_2).f3), .slice A1098_4 ((rd_T32 l0_1 x32_2).f4).length c1098_4, .slice A1098_5 ((rd_T32 l0_1 x32_2).f5).length c1098_5, .slice A1098_6 ((rd_T32 l0_1 x32_2).f6).length c1098_6] 32 (0, 0)) (by exact bk BK1099) hg (Kd.S_away HO_1098001.out (fun _ hk => hk.1.1.1)))
            have n4_ := zq9 (hb)
            have n5_ := zq9 (ho)
            clear BK1087; clear BK1088; clear BK1097; clear BK1099; clear HB; clear HO_1098001; clear HO1106; clear HO1109; clear HO1112; have BK1087 := n0_; have BK1088 := n1_; have BK1097 := n2_; have BK1099 := n3_; have HB := n4_; have HO1115 := n5_; clear n0_ n1_ n2_ n3_ n4_ n5_; clear ho hb hg hat
            obtain ⟨Ao49, co49, eo49⟩ := Kd.S_slice HO1115.out
            (first | subst eo49 | (injection eo49 with f1_ f2_ f3_; have f4_ := f1_.symm; have f5_ := f3_.symm; clear f1_ f2_ f3_; subst f4_; subst f5_))
            refine hK.out _ _ ⟨bc BK1097 0, bc BK1097 1, bc BK1099 0, bc BK1099 1, bc BK1099 2, bc BK1099 3, bc BK1099 4, bc BK1099 5, bc BK1099 6⟩ (fun hHeld => ?_)
            clear hK K
            refine norm_ (a' := ?_) ?_ ?_
            rotate_left; ·show Act.put _ (some 51) _ = _; simp only [Act.put, zq0, zq1, zq2, i64_w, i32_w]; rfl
            refine pa HT_ 6 52 (zb 8 127) ?_
            refine last_ (i := 7) (N := none) #[true, true, true, true, true, true, true, true] rfl rfl (one_of HT_.out (by kernel_rfl)) (by decide) (fun K hK => ?_)
            have hs50 : w45.cell? ⟨gb1097, 1, none⟩ = some (u1098001) := bc BK1097 1
            have hfs50 := zq6 BK1097.out 1
            have hns50_0 := NB1087_1097.out; have hns50_1 := NB1088_1097.out; have hns50_3 := NB1099_1097.out; have hms50_0 := NB1097_1087.out; have hms50_1 := NB1097_1088.out; have hms50_3 := NB1097_1099.out
            refine skip_ (w1 := ?_) (by rfl) rfl ?_ ?_
            rotate_left; ·go_simp; rfl
            refine hK.out _ _ ?_
            clear hK K
            refine done_ (done_of HT_.out (by kernel_rfl)) ?_
            try go_wp2
            go_roundg k2
            case measure => have := HJ4.out; have := HK2.out; omega
            case rel => exact ⟨(wrap64 (x32_2 + 1)), (y1113), (.slice Ao49 y1113.length co49), (by first | rfl | (simp; done) | (simp [*]; done)), H', ⟨by have := HJ4.out; have := HK2.out; omega⟩, ⟨by (with_reducible repeat (first | apply Kd.S_alloc | apply Kd.S_drewN | apply Kd.S_drew)); exact Kd.S_mono (Kd.S_far (p := ⟨gb1097, 1, none⟩) (Kd.S_types HO1115.out BK1097.out (by decide)) (fun _ hk => hk.2) (.slice Ao49 y1113.length co49)) (fun _ hk => trivial)⟩, ⟨by refine bp ?_; refine blk_far ?_ NB1087_1097.out _; refine bp ?_; exact BK1087.out⟩, ⟨by refine bp ?_; refine blk_far ?_ NB1088_1097.out _; refine bp ?_; exact BK1088.out⟩, ⟨(blk_set BK1097.out 1 _)⟩, ⟨by exact b4 HB GE1087 GE1088 GE1097 GE1099⟩⟩
           ·rw [if_neg c36] at H
            exact absurd H (by simp)
          ·rw [if_neg c34] at H
           have c34b0 : (((rd_T32 l0_1 x32_2).f1) == 0) = false := beq_eq_false_iff_ne.mpr c34
           have c34b1 : (((rd_T32 l0_1 x32_2).f1) != 0) = true := bne_iff_ne.mpr c34
           by_cases c51 : ((rd_T32 l0_1 x32_2).f1) > (wrap64 (a0_0 + a1))
           ·rw [if_pos c51] at H; have c51b0 : decide ((wrap64 (a0_0 + a1)) < ((rd_T32 l0_1 x32_2).f1)) = true := decide_eq_true c51; clear c51; replace H := Option.bind_eq_some_iff.mp H
            obtain ⟨⟨t1116, t1117, t1118, t1119, t1120, t1123, t1126⟩, A520, H⟩ := H
            try dsimp only at H
            have A52 := zq9 A520; clear A520
            by_cases c53 : x1098001_2.length < 1172812402961
            ·rw [if_pos c53] at H; have LMc53 := zq9 c53; clear c53
             obtain ⟨y1129, hy1129⟩ : ∃ y_ : List (S32), y_ = (x1098001_2 ++ [(⟨t1116, t1117, t1118, t1119, t1120, t1123, t1126⟩ : S32)]) := ⟨_, rfl⟩
             replace H : (impl_BaseTick.l0 k2 l0_1 (l0_1.length : Int) (wrap64 (x32_2 + 1)) (wrap64 (a0_0 + a1)) y1129) = some (r1, r2) := by first | (rw [hy1129]; with_reducible exact H) | (have H2_ := (Option.bind_some _ _).symm.trans H; rw [hy1129]; with_reducible exact H2_) | (have H2_ := (Option.bind_some _ _).symm.trans H; with_reducible exact H2_) | with_reducible exact H | (rw [hy1129]; exact H) | exact H
             have Ny1129 := zq9 hy1129; clear hy1129; have H' := zq9 H; clear H
             try go_wp2_with (first | ((with_reducible refine zq25 (N := 7) rfl ?_); refine bx 7 #[.string (⟨#[]⟩ : ByteArray), .int .i64 0, .int .i64 0, .string (⟨#[]⟩ : ByteArray), .slice none 0 0, .slice none 0 0, .slice none 0 0] 32 ?_; intro gb1099 hg w54 hbox hb; have n0_ := zq9 (Kd.S_below (Kd.S_elderB (by (with_reducible repeat (first | apply Kd.S_alloc | apply Kd.S_drewN | apply Kd.S_drew)); exact HO_1098001.out) gb1099 (Nat.le_of_eq hg.symm)) hb); have n1_ := zq9 (zq30 (g := gb1087) (o := .cells #[.int .i64 a0_0, .slice (some ad1098) l0_1.length c0_1] 46 (0, 0)) (by exact bk BK1087) hb); have n2_ := zq9 (zq30 (g := gb1088) (o := .cells #[.int .i64 0, .slice none 0 0] 46 (0, 0)) (by exact bk BK1088) hb); have n3_ := zq9 (zq30 (g := gb1097) (o := .cells #[.int .i64 (wrap64 (a0_0 + a1)), u1098001] 46 (0, 0)) (by exact bk BK1097) hb); have n4_ := zq9 (zq27 (by exact b3 HB GE1087 GE1088 GE1097) hb); have n5_ := zq9 (hbox); have n6_ := zq9 ((by rw [hg]; exact (zq29 (by exact b3 HB GE1087 GE1088 GE1097)) : w.heap.size ≤ gb1099)); have n7_ := n6_; have n8_ := zq9 ((by rw [hg]; exact Nat.ne_of_lt (blk_lt (g := gb1087) (o := .cells #[.int .i64 a0_0, .slice (some ad1098) l0_1.length c0_1] 46 (0, 0)) (by exact bk BK1087)) : gb1087 ≠ gb1099)); have n9_ := zq9 ((by rw [hg]; exact Nat.ne_of_gt (blk_lt (g := gb1087) (o := .cells #[.int .i64 a0_0, .slice (some ad1098) l0_1.length c0_1] 46 (0, 0)) (by exact bk BK1087)) : gb1099 ≠ gb1087)); have n10_ := zq9 ((by rw [hg]; exact Nat.ne_of_lt (blk_lt (g := gb1088) (o := .cells #[.int .i64 0, .slice none 0 0] 46 (0, 0)) (by exact bk BK1088)) : gb1088 ≠ gb1099)); have n11_ := zq9 ((by rw [hg]; exact Nat.ne_of_gt (blk_lt (g := gb1088) (o := .cells #[.int .i64 0, .slice none 0 0] 46 (0, 0)) (by exact bk BK1088)) : gb1099 ≠ gb1088)); have n12_ := zq9 ((by rw [hg]; exact Nat.ne_of_lt (blk_lt (g := gb1097) (o := .cells #[.int .i64 (wrap64 (a0_0 + a1)), u1098001] 46 (0, 0)) (by exact bk BK1097)) : gb1097 ≠ gb1099)); have n13_ := zq9 ((by rw [hg]; exact Nat.ne_of_gt (blk_lt (g := gb1097) (o := .cells #[.int .i64 (wrap64 (a0_0 + a1)), u1098001] 46 (0, 0)) (by exact bk BK1097)) : gb1099 ≠ gb1097)); clear HO_1098001; clear BK1087; clear BK1088; clear BK1097; clear HB; have HO_1098001 := n0_; have BK1087 := n1_; have BK1088 := n2_; have BK1097 := n3_; have HB := n4_; have BK1099 := n5_; have GW1099 := n6_; have GE1099 := n7_; have NB1087_1099 := n8_; have NB1099_1087 := n9_; have NB1088_1099 := n10_; have NB1099_1088 := n11_; have NB1097_1099 := n12_; have NB1099_1097 := n13_; clear n0_ n1_ n2_ n3_ n4_ n5_ n6_ n7_ n8_ n9_ n10_ n11_ n12_ n13_; clear hb hbox hg; have hnb55 := NB1099_1087.out; have hnc55 := NB1087_1099.out; have hnb56 := NB1099_1088.out; have hnc56 := NB1088_1099.out; have hnb57 := NB1099_1097.out; have hnc57 := NB1097_1099.out; have hcz58_0 : w54.cell? ⟨gb1099, 0, none⟩ = some (.string (⟨#[]⟩ : ByteArray)) := bc BK1099 0; have hcz58_1 : w54.cell? ⟨gb1099, 1, none⟩ = some (.int .i64 0) := bc BK1099 1; have hcz58_2 : w54.cell? ⟨gb1099, 2, none⟩ = some (.int .i64 0) := bc BK1099 2; have hcz58_3 : w54.cell? ⟨gb1099, 3, none⟩ = some (.string (⟨#[]⟩ : ByteArray)) := bc BK1099 3; have hcz58_4 : w54.cell? ⟨gb1099, 4, none⟩ = some (.slice none 0 0) := bc BK1099 4; have hcz58_5 : w54.cell? ⟨gb1099, 5, none⟩ = some (.slice none 0 0) := bc BK1099 5; have hcz58_6 : w54.cell? ⟨gb1099, 6, none⟩ = some (.slice none 0 0) := bc BK1099 6; have hfz58_0 := zq6 BK1099.out 0; have hfz58_1 := zq6 BK1099.out 1; have hfz58_2 := zq6 BK1099.out 2; have hfz58_3 := zq6 BK1099.out 3; have hfz58_4 := zq6 BK1099.out 4; have hfz58_5 := zq6 BK1099.out 5; have hfz58_6 := zq6 BK1099.out 6; have hnb59 := NB1097_1087.out; have hnc59 := NB1087_1097.out; have hnb60 := NB1097_1088.out; have hnc60 := NB1088_1097.out; have hcz61_0 : w54.cell? ⟨gb1097, 0, none⟩ = some (.int .i64 (wrap64 (a0_0 + a1))) := bc BK1097 0; have hcz61_1 : w54.cell? ⟨gb1097, 1, none⟩ = some (u1098001) := bc BK1097 1; have hfz61_0 := zq6 BK1097.out 0; have hfz61_1 := zq6 BK1097.out 1))
             have n0_ : Aside0 (Kd.S k32 32 (((((((w54.setCell ⟨gb1099, 0, none⟩ (.string ((rd_T32 l0_1 x32_2).f0))).setCell ⟨gb1099, 1, none⟩ (.int .i64 ((rd_T32 l0_1 x32_2).f1))).setCell ⟨gb1099, 2, none⟩ (.int .i64 ((rd_T32 l0_1 x32_2).f2))).setCell ⟨gb1099, 3, none⟩ (.string ((rd_T32 l0_1 x32_2).f3))).setCell ⟨gb1099, 4, none⟩ (.slice A1098_4 ((rd_T32 l0_1 x32_2).f4).length c1098_4)).setCell ⟨gb1099, 5, none⟩ (.slice A1098_5 ((rd_T32 l0_1 x32_2).f5).length c1098_5)).setCell ⟨gb1099, 6, none⟩ (.slice A1098_6 ((rd_T32 l0_1 x32_2).f6).length c1098_6)) w.heap.size (fun k_ => k_ ≠ gb1099) u1098001 x1098001_2) := ⟨by (with_reducible repeat (first | apply Kd.S_alloc | apply Kd.S_drewN | apply Kd.S_drew)); exact Kd.S_mono (Kd.S_far (p := ⟨gb1099, 6, none⟩) (Kd.S_far (p := ⟨gb1099, 5, none⟩) (Kd.S_far (p := ⟨gb1099, 4, none⟩) (Kd.S_far (p := ⟨gb1099, 3, none⟩) (Kd.S_far (p := ⟨gb1099, 2, none⟩) (Kd.S_far (p := ⟨gb1099, 1, none⟩) (Kd.S_far (p := ⟨gb1099, 0, none⟩) (Kd.S_mono HO_1098001.out (fun k_ hk => (⟨hk, by first | exact hk.2 | exact hk | exact hk.1⟩ : _ ∧ k_ ≠ gb1099))) (fun _ hk => hk.2) (.string ((rd_T32 l0_1 x32_2).f0))) (fun _ hk => hk.2) (.int .i64 ((rd_T32 l0_1 x32_2).f1))) (fun _ hk => hk.2) (.int .i64 ((rd_T32 l0_1 x32_2).f2))) (fun _ hk => hk.2) (.string ((rd_T32 l0_1 x32_2).f3))) (fun _ hk => hk.2) (.slice A1098_4 ((rd_T32 l0_1 x32_2).f4).length c1098_4)) (fun _ hk => hk.2) (.slice A1098_5 ((rd_T32 l0_1 x32_2).f5).length c1098_5)) (fun _ hk => hk.2) (.slice A1098_6 ((rd_T32 l0_1 x32_2).f6).length c1098_6)) (fun _ hk => hk.1.2)⟩
             have n1_ : Aside0 ((((((((w54.setCell ⟨gb1099, 0, none⟩ (.string ((rd_T32 l0_1 x32_2).f0))).setCell ⟨gb1099, 1, none⟩ (.int .i64 ((rd_T32 l0_1 x32_2).f1))).setCell ⟨gb1099, 2, none⟩ (.int .i64 ((rd_T32 l0_1 x32_2).f2))).setCell ⟨gb1099, 3, none⟩ (.string ((rd_T32 l0_1 x32_2).f3))).setCell ⟨gb1099, 4, none⟩ (.slice A1098_4 ((rd_T32 l0_1 x32_2).f4).length c1098_4)).setCell ⟨gb1099, 5, none⟩ (.slice A1098_5 ((rd_T32 l0_1 x32_2).f5).length c1098_5)).setCell ⟨gb1099, 6, none⟩ (.slice A1098_6 ((rd_T32 l0_1 x32_2).f6).length c1098_6)).heap[gb1087]? = some (.cells #[.int .i64 a0_0, .slice (some ad1098) l0_1.length c0_1] 46 (0, 0))) := ⟨by refine bp ?_; refine blk_far ?_ NB1087_1099.out _; refine bp ?_; refine blk_far ?_ NB1087_1099.out _; refine bp ?_; refine blk_far ?_ NB1087_1099.out _; refine bp ?_; refine blk_far ?_ NB1087_1099.out _; refine bp ?_; refine blk_far ?_ NB1087_1099.out _; refine bp ?_; refine blk_far ?_ NB1087_1099.out _; refine bp ?_; refine blk_far ?_ NB1087_1099.out _; refine bp ?_; exact BK1087.out⟩
             have n2_ : Aside0 ((((((((w54.setCell ⟨gb1099, 0, none⟩ (.string ((rd_T32 l0_1 x32_2).f0))).setCell ⟨gb1099, 1, none⟩ (.int .i64 ((rd_T32 l0_1 x32_2).f1))).setCell ⟨gb1099, 2, none⟩ (.int .i64 ((rd_T32 l0_1 x32_2).f2))).setCell ⟨gb1099, 3, none⟩ (.string ((rd_T32 l0_1 x32_2).f3))).setCell ⟨gb1099, 4, none⟩ (.slice A1098_4 ((rd_T32 l0_1 x32_2).f4).length c1098_4)).setCell ⟨gb1099, 5, none⟩ (.slice A1098_5 ((rd_T32 l0_1 x32_2).f5).length c1098_5)).setCell ⟨gb1099, 6, none⟩ (.slice A1098_6 ((rd_T32 l0_1 x32_2).f6).length c1098_6)).heap[gb1088]? = some (.cells #[.int .i64 0, .slice none 0 0] 46 (0, 0))) := ⟨by refine bp ?_; refine blk_far ?_ NB1088_1099.out _; refine bp ?_; refine blk_far ?_ NB1088_1099.out _; refine bp ?_; refine blk_far ?_ NB1088_1099.out _; refine bp ?_; refine blk_far ?_ NB1088_1099.out _; refine bp ?_; refine blk_far ?_ NB1088_1099.out _; refine bp ?_; refine blk_far ?_ NB1088_1099.out _; refine bp ?_; refine blk_far ?_ NB1088_1099.out _; refine bp ?_; exact BK1088.out⟩
             have n3_ : Aside0 ((((((((w54.setCell ⟨gb1099, 0, none⟩ (.string ((rd_T32 l0_1 x32_2).f0))).setCell ⟨gb1099, 1, none⟩ (.int .i64 ((rd_T32 l0_1 x32_2).f1))).setCell ⟨gb1099, 2, none⟩ (.int .i64 ((rd_T32 l0_1 x32_2).f2))).setCell ⟨gb1099, 3, none⟩ (.string ((rd_T32 l0_1 x32_2).f3))).setCell ⟨gb1099, 4, none⟩ (.slice A1098_4 ((rd_T32 l0_1 x32_2).f4).length c1098_4)).setCell ⟨gb1099, 5, none⟩ (.slice A1098_5 ((rd_T32 l0_1 x32_2).f5).length c1098_5)).setCell ⟨gb1099, 6, none⟩ (.slice A1098_6 ((rd_T32 l0_1 x32_2).f6).length c1098_6)).heap[gb1097]? = some (.cells #[.int .i64 (wrap64 (a0_0 + a1)), u1098001] 46 (0, 0))) := ⟨by refine bp ?_; refine blk_far ?_ NB1097_1099.out _; refine bp ?_; refine blk_far ?_ NB1097_1099.out _; refine bp ?_; refine blk_far ?_ NB1097_1099.out _; refine bp ?_; refine blk_far ?_ NB1097_1099.out _; refine bp ?_; refine blk_far ?_ NB1097_1099.out _; refine bp ?_; refine blk_far ?_ NB1097_1099.out _; refine bp ?_; refine blk_far ?_ NB1097_1099.out _; refine bp ?_; exact BK1097.out⟩
             have n4_ : Aside0 ((((((((w54.setCell ⟨gb1099, 0, none⟩ (.string ((rd_T32 l0_1 x32_2).f0))).setCell ⟨gb1099, 1, none⟩ (.int .i64 ((rd_T32 l0_1 x32_2).f1))).setCell ⟨gb1099, 2, none⟩ (.int .i64 ((rd_T32 l0_1 x32_2).f2))).setCell ⟨gb1099, 3, none⟩ (.string ((rd_T32 l0_1 x32_2).f3))).setCell ⟨gb1099, 4, none⟩ (.slice A1098_4 ((rd_T32 l0_1 x32_2).f4).length c1098_4)).setCell ⟨gb1099, 5, none⟩ (.slice A1098_5 ((rd_T32 l0_1 x32_2).f5).length c1098_5)).setCell ⟨gb1099, 6, none⟩ (.slice A1098_6 ((rd_T32 l0_1 x32_2).f6).length c1098_6)).heap[gb1099]? = some (.cells #[.string ((rd_T32 l0_1 x32_2).f0), .int .i64 ((rd_T32 l0_1 x32_2).f1), .int .i64 ((rd_T32 l0_1 x32_2).f2), .string ((rd_T32 l0_1 x32_2).f3), .slice A1098_4 ((rd_T32 l0_1 x32_2).f4).length c1098_4, .slice A1098_5 ((rd_T32 l0_1 x32_2).f5).length c1098_5, .slice A1098_6 ((rd_T32 l0_1 x32_2).f6).length c1098_6] 32 (0, 0))) := ⟨(blk_set (blk_set (blk_set (blk_set (blk_set (blk_set (blk_set BK1099.out 0 _) 1 _) 2 _) 3 _) 4 _) 5 _) 6 _)⟩
             have n5_ : Aside0 (Below w.heap.size w (((((((w54.setCell ⟨gb1099, 0, none⟩ (.string ((rd_T32 l0_1 x32_2).f0))).setCell ⟨gb1099, 1, none⟩ (.int .i64 ((rd_T32 l0_1 x32_2).f1))).setCell ⟨gb1099, 2, none⟩ (.int .i64 ((rd_T32 l0_1 x32_2).f2))).setCell ⟨gb1099, 3, none⟩ (.string ((rd_T32 l0_1 x32_2).f3))).setCell ⟨gb1099, 4, none⟩ (.slice A1098_4 ((rd_T32 l0_1 x32_2).f4).length c1098_4)).setCell ⟨gb1099, 5, none⟩ (.slice A1098_5 ((rd_T32 l0_1 x32_2).f5).length c1098_5)).setCell ⟨gb1099, 6, none⟩ (.slice A1098_6 ((rd_T32 l0_1 x32_2).f6).length c1098_6))) := ⟨by exact b4 HB GE1087 GE1088 GE1097 GE1099⟩
             (try clear HO_1098001)
             (try clear BK1087)
             (try clear BK1088)
             (try clear BK1097)
             (try clear BK1099)
             (try clear HB)
             generalize (((((((w54.setCell ⟨gb1099, 0, none⟩ (.string ((rd_T32 l0_1 x32_2).f0))).setCell ⟨gb1099, 1, none⟩ (.int .i64 ((rd_T32 l0_1 x32_2).f1))).setCell ⟨gb1099, 2, none⟩ (.int .i64 ((rd_T32 l0_1 x32_2).f2))).setCell ⟨gb1099, 3, none⟩ (.string ((rd_T32 l0_1 x32_2).f3))).setCell ⟨gb1099, 4, none⟩ (.slice A1098_4 ((rd_T32 l0_1 x32_2).f4).length c1098_4)).setCell ⟨gb1099, 5, none⟩ (.slice A1098_5 ((rd_T32 l0_1 x32_2).f5).length c1098_5)).setCell ⟨gb1099, 6, none⟩ (.slice A1098_6 ((rd_T32 l0_1 x32_2).f6).length c1098_6)) = w62 at n0_ n1_ n2_ n3_ n4_ n5_ ⊢
             have HO_1098001 := n0_; have BK1087 := n1_; have BK1088 := n2_; have BK1097 := n3_; have BK1099 := n4_; have HB := n5_; clear n0_ n1_ n2_ n3_ n4_ n5_
             have n0_ := zq9 (Kd.S_drew HO_1098001.out)
             have n1_ := zq9 (blk_drew BK1087.out)
             have n2_ := zq9 (blk_drew BK1088.out)
             have n3_ := zq9 (blk_drew BK1097.out)
             have n4_ := zq9 (blk_drew BK1099.out)
             have n5_ := zq9 (zq4 HB.out)
             clear HO_1098001; clear BK1087; clear BK1088; clear BK1097; clear BK1099; clear HB; have HO_1098001 := n0_; have BK1087 := n1_; have BK1088 := n2_; have BK1097 := n3_; have BK1099 := n4_; have HB := n5_; clear n0_ n1_ n2_ n3_ n4_ n5_
             refine start_ (n := 8) (S := fun w' => w'.cell? ⟨gb1097, 0, none⟩ = some (.int .i64 (wrap64 (a0_0 + a1))) ∧ w'.cell? ⟨gb1097, 1, none⟩ = some (u1098001) ∧ w'.cell? ⟨gb1099, 0, none⟩ = some (.string ((rd_T32 l0_1 x32_2).f0)) ∧ w'.cell? ⟨gb1099, 1, none⟩ = some (.int .i64 ((rd_T32 l0_1 x32_2).f1)) ∧ w'.cell? ⟨gb1099, 2, none⟩ = some (.int .i64 ((rd_T32 l0_1 x32_2).f2)) ∧ w'.cell? ⟨gb1099, 3, none⟩ = some (.string ((rd_T32 l0_1 x32_2).f3)) ∧ w'.cell? ⟨gb1099, 4, none⟩ = some (.slice A1098_4 ((rd_T32 l0_1 x32_2).f4).length c1098_4) ∧ w'.cell? ⟨gb1099, 5, none⟩ = some (.slice A1098_5 ((rd_T32 l0_1 x32_2).f5).length c1098_5) ∧ w'.cell? ⟨gb1099, 6, none⟩ = some (.slice A1098_6 ((rd_T32 l0_1 x32_2).f6).length c1098_6)) (ds := [7]) #[false, false, false, false, false, false, false, false] (by kernel_rfl) rfl rfl ⟨bc BK1097 0, bc BK1097 1, bc BK1099 0, bc BK1099 1, bc BK1099 2, bc BK1099 3, bc BK1099 4, bc BK1099 5, bc BK1099 6⟩ (fun hHeld => ?_); refine with_tabW impl_BaseTick.tab10 impl_BaseTick.bits10 (fun HT_ HW_ => ?_)
             generalize w62.drew = w63 at HO_1098001 BK1087 BK1088 BK1097 BK1099 HB hHeld ⊢
             refine pa HT_ 0 46 (zb 8 1) ?_
             refine take_ (i := 1) (N := some 47) (v := ?_) (a' := ?_) (zb 8 3) rfl rfl (take_ofW HT_.out HW_.out (by kernel_rfl)) (fun _ _ _ h => h) (Or.inl ⟨by rfl, ?_⟩) hHeld ?_ ?_
             rotate_left; ·rintro w' ⟨s0, s1, s2, s3, s4, s5, s6, s7, s8⟩; go_simp; with_reducible rfl
             rotate_left; ·simp only [Act.put, zq0, zq1, zq2, i64_w, i32_w]; rfl
             refine take_ (i := 2) (N := some 48) (v := ?_) (a' := ?_) (zb 8 7) rfl rfl (take_ofW HT_.out HW_.out (by kernel_rfl)) (fun _ _ _ h => h) (Or.inl ⟨by rfl, ?_⟩) hHeld ?_ ?_
             rotate_left; ·rintro w' ⟨s0, s1, s2, s3, s4, s5, s6, s7, s8⟩; go_simp; with_reducible rfl
             rotate_left; ·simp only [Act.put, zq0, zq1, zq2, i64_w, i32_w]; rfl
             refine one_ (i := 3) (N := some 49) (zb 8 15) rfl rfl (one_of HT_.out (by kernel_rfl)) (by decide) (fun K hK => ?_)
             refine gs Try.func68 #[.agg #[.string ((rd_T32 l0_1 x32_2).f0), .int .i64 ((rd_T32 l0_1 x32_2).f1), .int .i64 ((rd_T32 l0_1 x32_2).f2), .string ((rd_T32 l0_1 x32_2).f3), .slice A1098_4 ((rd_T32 l0_1 x32_2).f4).length c1098_4, .slice A1098_5 ((rd_T32 l0_1 x32_2).f5).length c1098_5, .slice A1098_6 ((rd_T32 l0_1 x32_2).f6).length c1098_6]] ?_
             with_reducible refine (impl_cloneEntry.calls ((rd_T32 l0_1 x32_2).f0) ((rd_T32 l0_1 x32_2).f1) ((rd_T32 l0_1 x32_2).f2) ((rd_T32 l0_1 x32_2).f3) _ _ ((rd_T32 l0_1 x32_2).f4) _ _ ((rd_T32 l0_1 x32_2).f5) _ _ ((rd_T32 l0_1 x32_2).f6) t1116 t1117 t1118 t1119 t1120 t1123 t1126 _ ?side1 ?side2 ?side3 ?side4 ?side5 ?side6 A52.out).mono ?_
             (case side1 => exact kc HR1098_4 HB)
             (case side2 => exact HC1098_4.out)
             (case side3 => exact kc HR1098_5 HB)
             (case side4 => exact HC1098_5.out)
             (case side5 => exact kc HR1098_6 HB)
             (case side6 => exact HC1098_6.out)
             rintro e w64 ⟨v1121, v1124, v1127, rfl, ho0, ho1, ho2, hb⟩
             refine ⟨_, rfl, ?_⟩
             have n0_ := zq9 (Kd.S_mono (Kd.S_told (Kd.S_told (Kd.S_told (Kd.S_old (by (with_reducible repeat (first | apply Kd.S_alloc | apply Kd.S_drewN | apply Kd.S_drew)); exact HO_1098001.out) hb) (Kd.R_base ho0)) (Kd.R_base ho1)) (Kd.R_base ho2)) (fun _ h_ => h_.1))
             have n1_ := zq9 (Kd.R_lower ho0 (zq29 (by exact b4 HB GE1087 GE1088 GE1097 GE1099)))
             have n2_ := zq9 (Kd.R_lower ho1 (zq29 (by exact b4 HB GE1087 GE1088 GE1097 GE1099)))
             have n3_ := zq9 (Kd.R_lower ho2 (zq29 (by exact b4 HB GE1087 GE1088 GE1097 GE1099)))
             have n4_ := zq9 (zq30 (g := gb1087) (o := .cells #[.int .i64 a0_0, .slice (some ad1098) l0_1.length c0_1] 46 (0, 0)) (by exact bk BK1087) hb)
             have n5_ := zq9 (zq30 (g := gb1088) (o := .cells #[.int .i64 0, .slice none 0 0] 46 (0, 0)) (by exact bk BK1088) hb)
             have n6_ := zq9 (zq30 (g := gb1097) (o := .cells #[.int .i64 (wrap64 (a0_0 + a1)), u1098001] 46 (0, 0)) (by exact bk BK1097) hb)
             have n7_ := zq9 (zq30 (g := gb1099) (o := .cells #[.string ((rd_T32 l0_1 x32_2).f0), .int .i64 ((rd_T32 l0_1 x32_2).f1), .int .i64 ((rd_T32 l0_1 x32_2).f2), .string ((rd_T32 l0_1 x32_2).f3), .slice A1098_4 ((rd_T32 l0_1 x32_2).f4).length c1098_4, .slice A1098_5 ((rd_T32 l0_1 x32_2).f5).length c1098_5, .slice A1098_6 ((rd_T32 l0_1 x32_2).f6).length c1098_6] 32 (0, 0)) (by exact bk BK1099) hb)
             have n8_ := zq9 (zq27 (by exact b4 HB GE1087 GE1088 GE1097 GE1099) hb)
             clear HO_1098001; clear BK1087; clear BK1088; clear BK1097; clear BK1099; clear HB; have HO_1098001 := n0_; have HO1122 := n1_; have HO1125 := n2_; have HO1128 := n3_; have BK1087 := n4_; have BK1088 := n5_; have BK1097 := n6_; have BK1099 := n7_; have HB := n8_; clear n0_ n1_ n2_ n3_ n4_ n5_ n6_ n7_ n8_
             (try clear hb)
             (try clear hb2)
             (try clear hk)
             (try clear hi)
             (try clear ho0)
             (try clear ho1)
             (try clear ho2)
             obtain ⟨Ao66, co66, eo66⟩ := Kd.R_slice HO1122.out
             (first | subst eo66 | (injection eo66 with f1_ f2_ f3_; have f4_ := f1_.symm; have f5_ := f3_.symm; clear f1_ f2_ f3_; subst f4_; subst f5_))
             obtain ⟨Ao67, co67, eo67⟩ := Kd.R_slice HO1125.out
             (first | subst eo67 | (injection eo67 with f1_ f2_ f3_; have f4_ := f1_.symm; have f5_ := f3_.symm; clear f1_ f2_ f3_; subst f4_; subst f5_))
             obtain ⟨Ao68, co68, eo68⟩ := Kd.R_slice HO1128.out
             (first | subst eo68 | (injection eo68 with f1_ f2_ f3_; have f4_ := f1_.symm; have f5_ := f3_.symm; clear f1_ f2_ f3_; subst f4_; subst f5_))
             refine hK.out _ _ ⟨bc BK1097 0, bc BK1097 1, bc BK1099 0, bc BK1099 1, bc BK1099 2, bc BK1099 3, bc BK1099 4, bc BK1099 5, bc BK1099 6⟩ (fun hHeld => ?_)
             clear hK K
             refine norm_ (a' := ?_) ?_ ?_
             rotate_left; ·show Act.put _ (some 49) _ = _; simp only [Act.put, zq0, zq1, zq2, i64_w, i32_w]; rfl
             refine one_ (i := 4) (N := some 50) (zb 8 31) rfl rfl (one_of HT_.out (by kernel_rfl)) (by decide) (fun K hK => ?_)
             refine value_ (w1 := ?_) (v := ?_) (by rfl) rfl ?_ ?_
             rotate_left 2
             ·go_simp
              constructor
              ·rfl
              ·rfl
             refine hK.out _ _ ⟨(zq7 (blk_alloc BK1097.out _) 0).trans rfl, (zq7 (blk_alloc BK1097.out _) 1).trans rfl, (zq7 (blk_alloc BK1099.out _) 0).trans rfl, (zq7 (blk_alloc BK1099.out _) 1).trans rfl, (zq7 (blk_alloc BK1099.out _) 2).trans rfl, (zq7 (blk_alloc BK1099.out _) 3).trans rfl, (zq7 (blk_alloc BK1099.out _) 4).trans rfl, (zq7 (blk_alloc BK1099.out _) 5).trans rfl, (zq7 (blk_alloc BK1099.out _) 6).trans rfl⟩ (fun hHeld => ?_)
             clear hK K
             refine norm_ (a' := ?_) ?_ ?_
             rotate_left; ·show Act.put _ (some 50) _ = _; simp only [Act.put, zq0, zq1, zq2, i64_w, i32_w]; rfl
             refine one_ (i := 5) (N := some 51) (zb 8 63) rfl rfl (one_of HT_.out (by kernel_rfl)) (by decide) (fun K hK => ?_)
             refine Kd.S_append_step k32 (w0 := w) w.heap.size (by rfl) (.tmp 47) (.tmp 50) 44 32 (.agg #[(.string ⟨#[]⟩), (.int .i64 0), (.int .i64 0), (.string ⟨#[]⟩), (.slice none 0 0), (.slice none 0 0), (.slice none 0 0)]) 120 rfl Try.underlying44 info32 rfl (by decide) (by omega) u1098001 x1098001_2 (⟨t1116, t1117, t1118, t1119, t1120, t1123, t1126⟩ : S32) [.string t1116, .int .i64 t1117, .int .i64 t1118, .string t1119, .slice Ao66 t1120.length co66, .slice Ao67 t1123.length co67, .slice Ao68 t1126.length co68] (fun k_ => k_ ≠ gb1099) (fun k_ => some k_ = (.slice Ao66 t1120.length co66 : Value).ownBlock ∨ some k_ = (.slice Ao67 t1123.length co67 : Value).ownBlock ∨ some k_ = (.slice Ao68 t1126.length co68 : Value).ownBlock) rfl rfl ?aP (fun k_ hk_ => hk_.elim (fun h_ => ((Kd.R_mono (ok' := fun k_ => ((fun k_ => k_ ≠ gb1099)) k_ ∧ some k_ ≠ (u1098001 : Value).ownBlock) (Kd.R_types (Kd.R_apart' (HO1122.out) (Kd.S_typed HO_1098001.out) (by decide)) BK1099.out (by decide)) (fun k_ hk => ⟨hk.2, hk.1.2⟩))).1 k_ h_.symm) (fun h_ => h_.elim (fun h_ => ((Kd.R_mono (ok' := fun k_ => ((fun k_ => k_ ≠ gb1099)) k_ ∧ some k_ ≠ (u1098001 : Value).ownBlock) (Kd.R_types (Kd.R_apart' (HO1125.out) (Kd.S_typed HO_1098001.out) (by decide)) BK1099.out (by decide)) (fun k_ hk => ⟨hk.2, hk.1.2⟩))).1 k_ h_.symm) (fun h_ => ((Kd.R_mono (ok' := fun k_ => ((fun k_ => k_ ≠ gb1099)) k_ ∧ some k_ ≠ (u1098001 : Value).ownBlock) (Kd.R_types (Kd.R_apart' (HO1128.out) (Kd.S_typed HO_1098001.out) (by decide)) BK1099.out (by decide)) (fun k_ hk => ⟨hk.2, hk.1.2⟩))).1 k_ h_.symm))) ?aF ?aO ?aB ?aS ?aL ?_
             (case aP => exact k32_mkM _ _ _ (⟨t1116, t1117, t1118, t1119, t1120, t1123, t1126⟩ : S32) (Kd.R_mono (Kd.R_tight rfl (Kd.R_mono (ok' := fun k_ => ((fun k_ => k_ ≠ gb1099)) k_ ∧ some k_ ≠ (u1098001 : Value).ownBlock) (Kd.R_types (Kd.R_apart' (HO1122.out) (Kd.S_typed HO_1098001.out) (by decide)) BK1099.out (by decide)) (fun k_ hk => ⟨hk.2, hk.1.2⟩))) (fun _ h_ => Or.inl h_)) (Kd.R_mono (Kd.R_tight rfl (Kd.R_mono (ok' := fun k_ => ((fun k_ => k_ ≠ gb1099)) k_ ∧ some k_ ≠ (u1098001 : Value).ownBlock) (Kd.R_types (Kd.R_apart' (HO1125.out) (Kd.S_typed HO_1098001.out) (by decide)) BK1099.out (by decide)) (fun k_ hk => ⟨hk.2, hk.1.2⟩))) (fun _ h_ => Or.inr (Or.inl h_))) (Kd.R_mono (Kd.R_tight rfl (Kd.R_mono (ok' := fun k_ => ((fun k_ => k_ ≠ gb1099)) k_ ∧ some k_ ≠ (u1098001 : Value).ownBlock) (Kd.R_types (Kd.R_apart' (HO1128.out) (Kd.S_typed HO_1098001.out) (by decide)) BK1099.out (by decide)) (fun k_ hk => ⟨hk.2, hk.1.2⟩))) (fun _ h_ => Or.inr (Or.inr (h_)))))
             (case aB => exact (by exact b4 HB GE1087 GE1088 GE1097 GE1099))
             (case aF => exact (fun k_ hk => Kd.freshB (g := gb1099) (o := .cells #[.string ((rd_T32 l0_1 x32_2).f0), .int .i64 ((rd_T32 l0_1 x32_2).f1), .int .i64 ((rd_T32 l0_1 x32_2).f2), .string ((rd_T32 l0_1 x32_2).f3), .slice A1098_4 ((rd_T32 l0_1 x32_2).f4).length c1098_4, .slice A1098_5 ((rd_T32 l0_1 x32_2).f5).length c1098_5, .slice A1098_6 ((rd_T32 l0_1 x32_2).f6).length c1098_6] 32 (0, 0)) (by exact bk BK1099) k_ hk))
             (case aO => exact (by (with_reducible repeat (first | apply Kd.S_alloc | apply Kd.S_drewN | apply Kd.S_drew)); exact Kd.S_mono HO_1098001.out (fun k_ hk => ⟨hk.1.1.1, fun e_ => e_.elim (fun h_ => hk.1.1.2 h_) (fun h_ => h_.elim (fun h_ => hk.1.2 h_) (fun h_ => hk.2 h_))⟩)))
             (case aS => exact (zq29 (by exact b4 HB GE1087 GE1088 GE1097 GE1099)))
             (case aL => have := LMc53.out; omega)
             intro v1130 w65 ho hb hg hat
             rw [← Ny1129.out] at ho
             have n0_ := zq9 (blk_grown (g := gb1087) (o := .cells #[.int .i64 a0_0, .slice (some ad1098) l0_1.length c0_1] 46 (0, 0)) (by exact bk BK1087) hg (Kd.S_ne HO_1098001.out BK1087.out (by decide)))
             have n1_ := zq9 (blk_grown (g := gb1088) (o := .cells #[.int .i64 0, .slice none 0 0] 46 (0, 0)) (by exact bk BK1088) hg (Kd.S_ne HO_1098001.out BK1088.out (by decide)))
             have n2_ := zq9 (blk_grown (g := gb1097) (o := .cells #[.int .i64 (wrap64 (a0_0 + a1)), u1098001] 46 (0, 0)) (by exact bk BK1097) hg (Kd.S_ne HO_1098001.out BK1097.out (by decide)))
             have n3_ := zq9 (blk_grown (g := gb1099) (o := .cells #[.string ((rd_T32 l0_1 x32_2).f0), .int .i64 ((rd_T32 l0_1 x32_2).f1), .int .i64 ((rd_T32 l0_1 x32_2).f2), .string ((rd_T32 l0_1 x32_2).f3), .slice A1098_4 ((rd_T32 l0_1 x32_2).f4).length c1098_4, .slice A1098_5 ((rd_T32 l0_1 x32_2).f5).length c1098_5, .slice A1098_6 ((rd_T32 l0_1 x32_2).f6).length c1098_6] 32 (0, 0)) (by exact bk BK1099) hg (Kd.S_away HO_1098001.out (fun _ hk => hk.1.1.1)))
             have n4_ := zq9 (hb)
             have n5_ := zq9 (ho)
             clear BK1087; clear BK1088; clear BK1097; clear BK1099; clear HB; clear HO_1098001; clear HO1122; clear HO1125; clear HO1128; have BK1087 := n0_; have BK1088 := n1_; have BK1097 := n2_; have BK1099 := n3_; have HB := n4_; have HO1131 := n5_; clear n0_ n1_ n2_ n3_ n4_ n5_; clear ho hb hg hat
             obtain ⟨Ao69, co69, eo69⟩ := Kd.S_slice HO1131.out
             (first | subst eo69 | (injection eo69 with f1_ f2_ f3_; have f4_ := f1_.symm; have f5_ := f3_.symm; clear f1_ f2_ f3_; subst f4_; subst f5_))
             refine hK.out _ _ ⟨bc BK1097 0, bc BK1097 1, bc BK1099 0, bc BK1099 1, bc BK1099 2, bc BK1099 3, bc BK1099 4, bc BK1099 5, bc BK1099 6⟩ (fun hHeld => ?_)
             clear hK K
             refine norm_ (a' := ?_) ?_ ?_
             rotate_left; ·show Act.put _ (some 51) _ = _; simp only [Act.put, zq0, zq1, zq2, i64_w, i32_w]; rfl
             refine pa HT_ 6 52 (zb 8 127) ?_
             refine last_ (i := 7) (N := none) #[true, true, true, true, true, true, true, true] rfl rfl (one_of HT_.out (by kernel_rfl)) (by decide) (fun K hK => ?_)
             have hs70 : w65.cell? ⟨gb1097, 1, none⟩ = some (u1098001) := bc BK1097 1
             have hfs70 := zq6 BK1097.out 1
             have hns70_0 := NB1087_1097.out; have hns70_1 := NB1088_1097.out; have hns70_3 := NB1099_1097.out; have hms70_0 := NB1097_1087.out; have hms70_1 := NB1097_1088.out; have hms70_3 := NB1097_1099.out
             refine skip_ (w1 := ?_) (by rfl) rfl ?_ ?_
             rotate_left; ·go_simp; rfl
             refine hK.out _ _ ?_
             clear hK K
             refine done_ (done_of HT_.out (by kernel_rfl)) ?_
             try go_wp2
             go_roundg k2
             case measure => have := HJ4.out; have := HK2.out; omega
             case rel => exact ⟨(wrap64 (x32_2 + 1)), (y1129), (.slice Ao69 y1129.length co69), (by first | rfl | (simp; done) | (simp [*]; done)), H', ⟨by have := HJ4.out; have := HK2.out; omega⟩, ⟨by (with_reducible repeat (first | apply Kd.S_alloc | apply Kd.S_drewN | apply Kd.S_drew)); exact Kd.S_mono (Kd.S_far (p := ⟨gb1097, 1, none⟩) (Kd.S_types HO1131.out BK1097.out (by decide)) (fun _ hk => hk.2) (.slice Ao69 y1129.length co69)) (fun _ hk => trivial)⟩, ⟨by refine bp ?_; refine blk_far ?_ NB1087_1097.out _; refine bp ?_; exact BK1087.out⟩, ⟨by refine bp ?_; refine blk_far ?_ NB1088_1097.out _; refine bp ?_; exact BK1088.out⟩, ⟨(blk_set BK1097.out 1 _)⟩, ⟨by exact b4 HB GE1087 GE1088 GE1097 GE1099⟩⟩
            ·rw [if_neg c53] at H
             exact absurd H (by simp)
           ·rw [if_neg c51] at H; have c51b0 : decide ((wrap64 (a0_0 + a1)) < ((rd_T32 l0_1 x32_2).f1)) = false := decide_eq_false c51; clear c51; have H' := zq9 H; clear H
            go_wp2_with (first | ((with_reducible refine zq25 (N := 7) rfl ?_); refine bx 7 #[.string (⟨#[]⟩ : ByteArray), .int .i64 0, .int .i64 0, .string (⟨#[]⟩ : ByteArray), .slice none 0 0, .slice none 0 0, .slice none 0 0] 32 ?_; intro gb1099 hg w71 hbox hb; have n0_ := zq9 (Kd.S_below (Kd.S_elderB (by (with_reducible repeat (first | apply Kd.S_alloc | apply Kd.S_drewN | apply Kd.S_drew)); exact HO_1098001.out) gb1099 (Nat.le_of_eq hg.symm)) hb); have n1_ := zq9 (zq30 (g := gb1087) (o := .cells #[.int .i64 a0_0, .slice (some ad1098) l0_1.length c0_1] 46 (0, 0)) (by exact bk BK1087) hb); have n2_ := zq9 (zq30 (g := gb1088) (o := .cells #[.int .i64 0, .slice none 0 0] 46 (0, 0)) (by exact bk BK1088) hb); have n3_ := zq9 (zq30 (g := gb1097) (o := .cells #[.int .i64 (wrap64 (a0_0 + a1)), u1098001] 46 (0, 0)) (by exact bk BK1097) hb); have n4_ := zq9 (zq27 (by exact b3 HB GE1087 GE1088 GE1097) hb); have n5_ := zq9 (hbox); have n6_ := zq9 ((by rw [hg]; exact (zq29 (by exact b3 HB GE1087 GE1088 GE1097)) : w.heap.size ≤ gb1099)); have n7_ := n6_; have n8_ := zq9 ((by rw [hg]; exact Nat.ne_of_lt (blk_lt (g := gb1087) (o := .cells #[.int .i64 a0_0, .slice (some ad1098) l0_1.length c0_1] 46 (0, 0)) (by exact bk BK1087)) : gb1087 ≠ gb1099)); have n9_ := zq9 ((by rw [hg]; exact Nat.ne_of_gt (blk_lt (g := gb1087) (o := .cells #[.int .i64 a0_0, .slice (some ad1098) l0_1.length c0_1] 46 (0, 0)) (by exact bk BK1087)) : gb1099 ≠ gb1087)); have n10_ := zq9 ((by rw [hg]; exact Nat.ne_of_lt (blk_lt (g := gb1088) (o := .cells #[.int .i64 0, .slice none 0 0] 46 (0, 0)) (by exact bk BK1088)) : gb1088 ≠ gb1099)); have n11_ := zq9 ((by rw [hg]; exact Nat.ne_of_gt (blk_lt (g := gb1088) (o := .cells #[.int .i64 0, .slice none 0 0] 46 (0, 0)) (by exact bk BK1088)) : gb1099 ≠ gb1088)); have n12_ := zq9 ((by rw [hg]; exact Nat.ne_of_lt (blk_lt (g := gb1097) (o := .cells #[.int .i64 (wrap64 (a0_0 + a1)), u1098001] 46 (0, 0)) (by exact bk BK1097)) : gb1097 ≠ gb1099)); have n13_ := zq9 ((by rw [hg]; exact Nat.ne_of_gt (blk_lt (g := gb1097) (o := .cells #[.int .i64 (wrap64 (a0_0 + a1)), u1098001] 46 (0, 0)) (by exact bk BK1097)) : gb1099 ≠ gb1097)); clear HO_1098001; clear BK1087; clear BK1088; clear BK1097; clear HB; have HO_1098001 := n0_; have BK1087 := n1_; have BK1088 := n2_; have BK1097 := n3_; have HB := n4_; have BK1099 := n5_; have GW1099 := n6_; have GE1099 := n7_; have NB1087_1099 := n8_; have NB1099_1087 := n9_; have NB1088_1099 := n10_; have NB1099_1088 := n11_; have NB1097_1099 := n12_; have NB1099_1097 := n13_; clear n0_ n1_ n2_ n3_ n4_ n5_ n6_ n7_ n8_ n9_ n10_ n11_ n12_ n13_; clear hb hbox hg; have hnb72 := NB1099_1087.out; have hnc72 := NB1087_1099.out; have hnb73 := NB1099_1088.out; have hnc73 := NB1088_1099.out; have hnb74 := NB1099_1097.out; have hnc74 := NB1097_1099.out; have hcz75_0 : w71.cell? ⟨gb1099, 0, none⟩ = some (.string (⟨#[]⟩ : ByteArray)) := bc BK1099 0; have hcz75_1 : w71.cell? ⟨gb1099, 1, none⟩ = some (.int .i64 0) := bc BK1099 1; have hcz75_2 : w71.cell? ⟨gb1099, 2, none⟩ = some (.int .i64 0) := bc BK1099 2; have hcz75_3 : w71.cell? ⟨gb1099, 3, none⟩ = some (.string (⟨#[]⟩ : ByteArray)) := bc BK1099 3; have hcz75_4 : w71.cell? ⟨gb1099, 4, none⟩ = some (.slice none 0 0) := bc BK1099 4; have hcz75_5 : w71.cell? ⟨gb1099, 5, none⟩ = some (.slice none 0 0) := bc BK1099 5; have hcz75_6 : w71.cell? ⟨gb1099, 6, none⟩ = some (.slice none 0 0) := bc BK1099 6; have hfz75_0 := zq6 BK1099.out 0; have hfz75_1 := zq6 BK1099.out 1; have hfz75_2 := zq6 BK1099.out 2; have hfz75_3 := zq6 BK1099.out 3; have hfz75_4 := zq6 BK1099.out 4; have hfz75_5 := zq6 BK1099.out 5; have hfz75_6 := zq6 BK1099.out 6; have hnb76 := NB1097_1087.out; have hnc76 := NB1087_1097.out; have hnb77 := NB1097_1088.out; have hnc77 := NB1088_1097.out; have hcz78_0 : w71.cell? ⟨gb1097, 0, none⟩ = some (.int .i64 (wrap64 (a0_0 + a1))) := bc BK1097 0; have hcz78_1 : w71.cell? ⟨gb1097, 1, none⟩ = some (u1098001) := bc BK1097 1; have hfz78_0 := zq6 BK1097.out 0; have hfz78_1 := zq6 BK1097.out 1))
            go_roundg k2
            case measure => have := HJ4.out; have := HK2.out; omega
            case rel => exact ⟨(wrap64 (x32_2 + 1)), (x1098001_2), (u1098001), (by first | rfl | (simp; done) | (simp [*]; done)), H', ⟨by have := HJ4.out; have := HK2.out; omega⟩, ⟨by (with_reducible repeat (first | apply Kd.S_alloc | apply Kd.S_drewN | apply Kd.S_drew)); exact Kd.S_mono (Kd.S_far (p := ⟨gb1099, 6, none⟩) (Kd.S_far (p := ⟨gb1099, 5, none⟩) (Kd.S_far (p := ⟨gb1099, 4, none⟩) (Kd.S_far (p := ⟨gb1099, 3, none⟩) (Kd.S_far (p := ⟨gb1099, 2, none⟩) (Kd.S_far (p := ⟨gb1099, 1, none⟩) (Kd.S_far (p := ⟨gb1099, 0, none⟩) (Kd.S_mono HO_1098001.out (fun k_ hk => (⟨hk, by first | exact hk.2 | exact hk | exact hk.1⟩ : _ ∧ k_ ≠ gb1099))) (fun _ hk => hk.2) (.string ((rd_T32 l0_1 x32_2).f0))) (fun _ hk => hk.2) (.int .i64 ((rd_T32 l0_1 x32_2).f1))) (fun _ hk => hk.2) (.int .i64 ((rd_T32 l0_1 x32_2).f2))) (fun _ hk => hk.2) (.string ((rd_T32 l0_1 x32_2).f3))) (fun _ hk => hk.2) (.slice A1098_4 ((rd_T32 l0_1 x32_2).f4).length c1098_4)) (fun _ hk => hk.2) (.slice A1098_5 ((rd_T32 l0_1 x32_2).f5).length c1098_5)) (fun _ hk => hk.2) (.slice A1098_6 ((rd_T32 l0_1 x32_2).f6).length c1098_6)) (fun _ hk => trivial)⟩, ⟨by refine bp ?_; refine blk_far ?_ NB1087_1099.out _; refine bp ?_; refine blk_far ?_ NB1087_1099.out _; refine bp ?_; refine blk_far ?_ NB1087_1099.out _; refine bp ?_; refine blk_far ?_ NB1087_1099.out _; refine bp ?_; refine blk_far ?_ NB1087_1099.out _; refine bp ?_; refine blk_far ?_ NB1087_1099.out _; refine bp ?_; refine blk_far ?_ NB1087_1099.out _; refine bp ?_; exact BK1087.out⟩, ⟨by refine bp ?_; refine blk_far ?_ NB1088_1099.out _; refine bp ?_; refine blk_far ?_ NB1088_1099.out _; refine bp ?_; refine blk_far ?_ NB1088_1099.out _; refine bp ?_; refine blk_far ?_ NB1088_1099.out _; refine bp ?_; refine blk_far ?_ NB1088_1099.out _; refine bp ?_; refine blk_far ?_ NB1088_1099.out _; refine bp ?_; refine blk_far ?_ NB1088_1099.out _; refine bp ?_; exact BK1088.out⟩, ⟨by refine bp ?_; refine blk_far ?_ NB1097_1099.out _; refine bp ?_; refine blk_far ?_ NB1097_1099.out _; refine bp ?_; refine blk_far ?_ NB1097_1099.out _; refine bp ?_; refine blk_far ?_ NB1097_1099.out _; refine bp ?_; refine blk_far ?_ NB1097_1099.out _; refine bp ?_; refine blk_far ?_ NB1097_1099.out _; refine bp ?_; refine blk_far ?_ NB1097_1099.out _; refine bp ?_; exact BK1097.out⟩, ⟨by exact b4 HB GE1087 GE1088 GE1097 GE1099⟩⟩
         ·rw [if_neg c33] at H
          exact absurd H (by simp)
        ·rw [if_neg c32] at H
         exact absurd H (by simp)
       ·rw [if_neg c31] at H; have c31b0 : decide (x32_2 < (l0_1.length : Int)) = false := decide_eq_false c31; clear c31
        simp only [Option.some.injEq, Prod.mk.injEq] at H
        obtain ⟨rfl, rfl⟩ := H
        have hnb79 := NB1097_1087.out; have hnc79 := NB1087_1097.out; have hnb80 := NB1097_1088.out; have hnc80 := NB1088_1097.out
        have hcz81_0 : wr.cell? ⟨gb1097, 0, none⟩ = some (.int .i64 (wrap64 (a0_0 + a1))) := bc BK1097 0
        have hcz81_1 : wr.cell? ⟨gb1097, 1, none⟩ = some (u1098001) := bc BK1097 1
        have hfz81_0 := zq6 BK1097.out 0
        have hfz81_1 := zq6 BK1097.out 1
        have hnb82 := NB1088_1087.out; have hnc82 := NB1087_1088.out
        have hcz83_0 : wr.cell? ⟨gb1088, 0, none⟩ = some (.int .i64 0) := bc BK1088 0
        have hcz83_1 : wr.cell? ⟨gb1088, 1, none⟩ = some (.slice none 0 0) := bc BK1088 1
        have hfz83_0 := zq6 BK1088.out 0
        have hfz83_1 := zq6 BK1088.out 1
        obtain ⟨Ao84, co84, eo84⟩ := Kd.S_slice HO_1098001.out
        subst eo84
        go_wp2
        refine bodyPost_ret (results_cell_row rfl _ _ gb1088 46 #[.int .i64 (wrap64 (a0_0 + a1)), .slice Ao84 x1098001_2.length co84] (0, 0) _ rfl (by refine bp ?_; refine blk_put (cs := #[.int .i64 (wrap64 (a0_0 + a1)), .slice none 0 0]) ?_ 1 _ rfl; refine bp ?_; refine blk_put (cs := #[.int .i64 0, .slice none 0 0]) ?_ 0 _ rfl; refine bp ?_; exact BK1088.out) Try.underlying46 rfl (by kernel_rfl)) rfl ?_
        exact ⟨_, by first | rfl | (simp [errW_none, errW_some] <;> rfl) | (simp [*, errW_none, errW_some] <;> rfl), by (with_reducible repeat (first | apply Kd.S_alloc | apply Kd.S_drewN | apply Kd.S_drew)); exact Kd.S_mono (Kd.S_far (p := ⟨gb1088, 1, none⟩) (Kd.S_far (p := ⟨gb1088, 0, none⟩) (Kd.S_types HO_1098001.out BK1088.out (by decide)) (fun _ hk => hk.2) (.int .i64 (wrap64 (a0_0 + a1)))) (fun _ hk => hk.2) (.slice Ao84 x1098001_2.length co84)) (fun _ hk => trivial), by exact b3 HB GE1087 GE1088 GE1097⟩
 ·replace c4 := Bool.eq_false_iff.mpr c4
  subst c4
  have H1 : (some (0, ([] : List (S32)))) = some (r1, r2) := by rw [if_neg (show ¬ (false = true) by decide)] at H; exact H
  clear H; have H := H1; clear H1
  simp only [Option.some.injEq, Prod.mk.injEq] at H
  obtain ⟨rfl, rfl⟩ := H
  go_enter Try.func32, Try.ntmps32
  go_wp2_with (first | ((with_reducible refine zq25 (N := 2) rfl ?_); refine bx 2 #[.int .i64 a0_0, .slice A0_1 l0_1.length c0_1] 46 ?_; intro gb1087 hg w85 hbox hb; have n0_ := zq9 (zq27 (by exact bl HB) hb); have n1_ := zq9 (hbox); have n2_ := zq9 ((by rw [hg]; exact (zq29 (by exact bl HB)) : w.heap.size ≤ gb1087)); have n3_ := n2_; clear HB; have HB := n0_; have BK1087 := n1_; have GW1087 := n2_; have GE1087 := n3_; clear n0_ n1_ n2_ n3_; clear hb hbox hg) | ((with_reducible refine zq25 (N := 4) rfl ?_); refine bx 4 #[.int .i64 0, .slice none 0 0] 46 ?_; intro gb1088 hg w86 hbox hb; have n0_ := zq9 (zq30 (g := gb1087) (o := .cells #[.int .i64 a0_0, .slice A0_1 l0_1.length c0_1] 46 (0, 0)) (by exact bk BK1087) hb); have n1_ := zq9 (zq27 (by exact b1 HB GE1087) hb); have n2_ := zq9 (hbox); have n3_ := zq9 ((by rw [hg]; exact (zq29 (by exact b1 HB GE1087)) : w.heap.size ≤ gb1088)); have n4_ := n3_; have n5_ := zq9 ((by rw [hg]; exact Nat.ne_of_lt (blk_lt (g := gb1087) (o := .cells #[.int .i64 a0_0, .slice A0_1 l0_1.length c0_1] 46 (0, 0)) (by exact bk BK1087)) : gb1087 ≠ gb1088)); have n6_ := zq9 ((by rw [hg]; exact Nat.ne_of_gt (blk_lt (g := gb1087) (o := .cells #[.int .i64 a0_0, .slice A0_1 l0_1.length c0_1] 46 (0, 0)) (by exact bk BK1087)) : gb1088 ≠ gb1087)); clear BK1087; clear HB; have BK1087 := n0_; have HB := n1_; have BK1088 := n2_; have GW1088 := n3_; have GE1088 := n4_; have NB1087_1088 := n5_; have NB1088_1087 := n6_; clear n0_ n1_ n2_ n3_ n4_ n5_ n6_; clear hb hbox hg; have hnb87 := NB1087_1088.out; have hnc87 := NB1088_1087.out; have hcz88_0 : w86.cell? ⟨gb1087, 0, none⟩ = some (.int .i64 a0_0) := bc BK1087 0; have hcz88_1 : w86.cell? ⟨gb1087, 1, none⟩ = some (.slice A0_1 l0_1.length c0_1) := bc BK1087 1; have hfz88_0 := zq6 BK1087.out 0; have hfz88_1 := zq6 BK1087.out 1) | ((with_reducible refine zq24 (f := 19) rfl ?_); refine gl (some 9) Try.func19 #[.agg #[.int .i64 a0_0, .slice A0_1 l0_1.length c0_1]] ?_; (with_reducible refine (impl_BaseOk.calls k a0_0 _ _ l0_1 false _ ?side1 ?side2 A3.out).mono ?_); (case side1 => exact kc HR0_1 HB); (case side2 => exact HC0_1.out); rintro e w89 ⟨rfl, hb⟩; refine ⟨_, rfl, ?_⟩; have n0_ := zq9 (zq30 (g := gb1087) (o := .cells #[.int .i64 a0_0, .slice A0_1 l0_1.length c0_1] 46 (0, 0)) (by exact bk BK1087) hb); have n1_ := zq9 (zq30 (g := gb1088) (o := .cells #[.int .i64 0, .slice none 0 0] 46 (0, 0)) (by exact bk BK1088) hb); have n2_ := zq9 (zq27 (by exact b2 HB GE1087 GE1088) hb); clear BK1087; clear BK1088; clear HB; have BK1087 := n0_; have BK1088 := n1_; have HB := n2_; clear n0_ n1_ n2_; (try clear hb); (try clear hb2); (try clear hk); (try clear hi); have hcz90_0 : w89.cell? ⟨gb1088, 0, none⟩ = some (.int .i64 0) := bc BK1088 0; have hcz90_1 : w89.cell? ⟨gb1088, 1, none⟩ = some (.slice none 0 0) := bc BK1088 1; have hfz90_0 := zq6 BK1088.out 0; have hfz90_1 := zq6 BK1088.out 1))
  refine bodyPost_ret (results_cell_row rfl _ _ gb1088 46 #[.int .i64 0, .slice none 0 0] (0, 0) _ rfl (by refine bp ?_; refine blk_put (cs := #[.int .i64 0, .slice none 0 0]) ?_ 1 _ rfl; refine bp ?_; refine blk_put (cs := #[.int .i64 0, .slice none 0 0]) ?_ 0 _ rfl; refine bp ?_; exact BK1088.out) Try.underlying46 rfl (by kernel_rfl)) rfl ?_
  exact ⟨_, by first | rfl | (simp [errW_none, errW_some] <;> rfl) | (simp [*, errW_none, errW_some] <;> rfl), by first | exact Kd.S_nil _ _ _ _ _ | exact Kd.N_nil _ _ _ _ _ | exact Kd.V_nil _ _ _ _ _ | exact Kd.Q_nil _ _ _ _ _ | exact Kd.R_nil _ _ _ _ _, by exact b2 HB GE1087 GE1088⟩
set_option maxHeartbeats 8000000 in
set_option maxRecDepth 100000 in
theorem laws_heldStringS.calls (k : Nat) (A0 : Option Addr) (c0 : Nat) (l0 : List ByteArray) (a1 : Int) (r : Int) (w : World) (hr0 : Kd.C Kd.string w A0 l0.length l0) (hc0 : l0.length ≤ c0) (h : laws_heldStringS.f k l0 a1 = some r) :
  Calls Try.prog 26 #[.slice A0 l0.length c0, .int .i64 a1] w fun e w' => e = .returned (.int .i64 r) ∧ Below w.heap.size w w' := by
 have HR0 := zq9 hr0; have HC0 := zq9 hc0; clear hr0 hc0
 have HB := zq9 (Below.refl w.heap.size w)
 have H : (laws_heldStringS.l0 k l0 a1 0) = some r := h
 clear h; have H' := zq9 H; clear H
 go_enter Try.func26, Try.ntmps26
 go_wp2
 go_loopg [1, 5] k (fun kq v1 v5 w' => ∃ (x1_1 : Int) (x5_1 : Int), v1 = .int .i64 x1_1 ∧ v5 = .int .i64 x5_1 ∧ Aside0 (laws_heldStringS.l0 kq l0 x1_1 x5_1 = some r) ∧ Aside0 (kq ≤ k) ∧ Aside0 (Below w.heap.size w w'))
 case atStart => exact ⟨(a1), (0), (by first | rfl | (simp; done) | (simp [*]; done)), (by first | rfl | (simp; done) | (simp [*]; done)), H', ⟨Nat.le_refl _⟩, ⟨by exact bl HB⟩⟩
 case round =>
  clear H'
  try clear c2
  try clear p2
  obtain ⟨x1_1, x5_1, rfl, rfl, HA, HK1, HB⟩ := hrel
  cases gk with
  | zero => exact absurd HA.out (by simp [laws_heldStringS.l0])
  | succ k1 =>
   have H := HA.out; clear HA
   simp only [laws_heldStringS.l0] at H
   by_cases c3 : x5_1 < (l0.length : Int)
   ·rw [if_pos c3] at H; have c3b0 : decide (x5_1 < (l0.length : Int)) = true := decide_eq_true c3; clear c3
    by_cases c4 : 0 ≤ x5_1
    ·rw [if_pos c4] at H; have c4b0 : decide (0 ≤ x5_1) = true := decide_eq_true c4; clear c4; replace H := Option.bind_eq_some_iff.mp H; obtain ⟨t762, A50, H⟩ := H
     try dsimp only at H
     have A5 := zq9 A50; clear A50
     by_cases c6 : (rdOf ByteArray.empty l0 x5_1).toList = t762.toList
     ·rw [if_pos c6] at H
      have c6b0 : ((rdOf ByteArray.empty l0 x5_1).toList == t762.toList) = true := beq_iff_eq.mpr c6
      have c6b1 : ((rdOf ByteArray.empty l0 x5_1).toList != t762.toList) = false := bne_eq_false_iff_eq.mpr c6
      clear c6; have H' := zq9 H; clear H
      try go_wp2
      have n0_ := zq9 (zq4 HB.out)
      clear HB; have HB := n0_; clear n0_
      have p761 : 0 ≤ (x5_1 : Int) := of_decide_eq_true ‹_›
      have q761 : x5_1 < (l0.length : Int) := of_decide_eq_true ‹_›
      obtain ⟨ad761, e761, hx761_0⟩ := Kd.at_string HR0.out x5_1 p761 q761
      have hw761_0 := hx761_0; cases e761; replace hx761_0 := hcl HB hx761_0; replace p761 := eq_true p761; replace q761 := eq_true q761
      refine start_ (n := 7) (S := fun w' => w'.cell? (ad761.add (x5_1).toNat) = some (.string (rdOf ByteArray.empty l0 x5_1))) (ds := []) #[false, false, false, false, false, false, false] (by kernel_rfl) rfl rfl ((hcm HB hw761_0)) (fun hHeld => ?_)
      generalize wr.drew = w7 at HB hx761_0 hHeld ⊢
      refine pure_ (i := 0) (N := some 12) (v := ?_) (a' := ?_) (zb 7 1) rfl rfl (by kernel_rfl) (fun _ _ _ h => h) (Or.inl ⟨by rfl, ?_⟩) ?_ ?_
      rotate_left; ·intro w'; go_simp; with_reducible rfl
      rotate_left; ·simp only [Act.put, zq0, zq1, zq2, i64_w, i32_w]; rfl
      refine pure_ (i := 1) (N := some 13) (v := ?_) (a' := ?_) (zb 7 3) rfl rfl (by kernel_rfl) (fun _ _ _ h => h) (Or.inl ⟨by rfl, ?_⟩) ?_ ?_
      rotate_left; ·intro w'; go_simp; with_reducible rfl
      rotate_left; ·simp only [Act.put, zq0, zq1, zq2, i64_w, i32_w]; rfl
      refine pure_ (i := 2) (N := some 14) (v := ?_) (a' := ?_) (zb 7 7) rfl rfl (by kernel_rfl) (fun _ _ _ h => h) (Or.inl ⟨by rfl, ?_⟩) ?_ ?_
      rotate_left; ·intro w'; go_simp; with_reducible rfl
      rotate_left; ·simp only [Act.put, zq0, zq1, zq2, i64_w, i32_w]; rfl
      refine pure_ (i := 4) (N := some 16) (v := ?_) (a' := ?_) (zb 7 23) rfl rfl (by kernel_rfl) (fun _ _ _ h => h) (Or.inl ⟨by rfl, ?_⟩) ?_ ?_
      rotate_left; ·intro w'; go_simp; with_reducible rfl
      rotate_left; ·simp only [Act.put, zq0, zq1, zq2, i64_w, i32_w]; rfl
      refine take_ (i := 3) (N := some 15) (v := ?_) (a' := ?_) (zb 7 31) rfl rfl (by kernel_rfl) (fun _ _ _ h => h) (Or.inl ⟨by rfl, ?_⟩) hHeld ?_ ?_
      rotate_left; ·intro w' s0; go_simp; with_reducible rfl
      rotate_left; ·simp only [Act.put, zq0, zq1, zq2, i64_w, i32_w]; rfl
      refine one_ (i := 5) (N := some 17) (zb 7 63) rfl rfl (by kernel_rfl) (by decide) (fun K hK => ?_)
      refine gs Try.func64 #[.int .i64 x1_1] ?_
      with_reducible refine (laws_markText.calls k1 x1_1 t762 _ A5.out).mono ?_
      rintro e w8 ⟨rfl, hb⟩
      refine ⟨_, rfl, ?_⟩
      have n0_ := zq9 (zq27 (by exact bl HB) hb)
      clear HB; have HB := n0_; clear n0_
      (try clear hb)
      (try clear hb2)
      (try clear hk)
      (try clear hi)
      refine hK.out _ _ ((hcm HB hw761_0)) (fun hHeld => ?_)
      clear hK K
      refine norm_ (a' := ?_) ?_ ?_
      rotate_left; ·show Act.put _ (some 17) _ = _; simp only [Act.put, zq0, zq1, zq2, i64_w, i32_w]; rfl
      refine pure_ (i := 6) (N := some 18) (v := ?_) (a' := ?_) (zb 7 127) rfl rfl (by kernel_rfl) (fun _ _ _ h => h) (Or.inl ⟨by rfl, ?_⟩) ?_ ?_
      rotate_left; ·intro w'; go_simp; with_reducible rfl
      rotate_left; ·simp only [Act.put, zq0, zq1, zq2, i64_w, i32_w]; rfl
      refine done_ (by kernel_rfl) ?_
      try go_wp2
      go_roundg k1
      case measure => have := HK1.out; omega
      case rel => exact ⟨(wrap64 (x1_1 + 1)), (wrap64 (x5_1 + 1)), (by first | rfl | (simp; done) | (simp [*]; done)), (by first | rfl | (simp; done) | (simp [*]; done)), H', ⟨by have := HK1.out; omega⟩, ⟨by exact bl HB⟩⟩
     ·rw [if_neg c6] at H
      have c6b0 : ((rdOf ByteArray.empty l0 x5_1).toList == t762.toList) = false := beq_eq_false_iff_ne.mpr c6
      have c6b1 : ((rdOf ByteArray.empty l0 x5_1).toList != t762.toList) = true := bne_iff_ne.mpr c6
      obtain rfl := Option.some.inj H
      try go_wp2
      have n0_ := zq9 (zq4 HB.out)
      clear HB; have HB := n0_; clear n0_
      have p761 : 0 ≤ (x5_1 : Int) := of_decide_eq_true ‹_›
      have q761 : x5_1 < (l0.length : Int) := of_decide_eq_true ‹_›
      obtain ⟨ad761, e761, hx761_0⟩ := Kd.at_string HR0.out x5_1 p761 q761
      have hw761_0 := hx761_0; cases e761; replace hx761_0 := hcl HB hx761_0; replace p761 := eq_true p761; replace q761 := eq_true q761
      refine start_ (n := 7) (S := fun w' => w'.cell? (ad761.add (x5_1).toNat) = some (.string (rdOf ByteArray.empty l0 x5_1))) (ds := []) #[false, false, false, false, false, false, false] (by kernel_rfl) rfl rfl ((hcm HB hw761_0)) (fun hHeld => ?_)
      generalize wr.drew = w9 at HB hx761_0 hHeld ⊢
      refine pure_ (i := 0) (N := some 12) (v := ?_) (a' := ?_) (zb 7 1) rfl rfl (by kernel_rfl) (fun _ _ _ h => h) (Or.inl ⟨by rfl, ?_⟩) ?_ ?_
      rotate_left; ·intro w'; go_simp; with_reducible rfl
      rotate_left; ·simp only [Act.put, zq0, zq1, zq2, i64_w, i32_w]; rfl
      refine pure_ (i := 1) (N := some 13) (v := ?_) (a' := ?_) (zb 7 3) rfl rfl (by kernel_rfl) (fun _ _ _ h => h) (Or.inl ⟨by rfl, ?_⟩) ?_ ?_
      rotate_left; ·intro w'; go_simp; with_reducible rfl
      rotate_left; ·simp only [Act.put, zq0, zq1, zq2, i64_w, i32_w]; rfl
      refine pure_ (i := 2) (N := some 14) (v := ?_) (a' := ?_) (zb 7 7) rfl rfl (by kernel_rfl) (fun _ _ _ h => h) (Or.inl ⟨by rfl, ?_⟩) ?_ ?_
      rotate_left; ·intro w'; go_simp; with_reducible rfl
      rotate_left; ·simp only [Act.put, zq0, zq1, zq2, i64_w, i32_w]; rfl
      refine pure_ (i := 4) (N := some 16) (v := ?_) (a' := ?_) (zb 7 23) rfl rfl (by kernel_rfl) (fun _ _ _ h => h) (Or.inl ⟨by rfl, ?_⟩) ?_ ?_
      rotate_left; ·intro w'; go_simp; with_reducible rfl
      rotate_left; ·simp only [Act.put, zq0, zq1, zq2, i64_w, i32_w]; rfl
      refine take_ (i := 3) (N := some 15) (v := ?_) (a' := ?_) (zb 7 31) rfl rfl (by kernel_rfl) (fun _ _ _ h => h) (Or.inl ⟨by rfl, ?_⟩) hHeld ?_ ?_
      rotate_left; ·intro w' s0; go_simp; with_reducible rfl
      rotate_left; ·simp only [Act.put, zq0, zq1, zq2, i64_w, i32_w]; rfl
      refine one_ (i := 5) (N := some 17) (zb 7 63) rfl rfl (by kernel_rfl) (by decide) (fun K hK => ?_)
      refine gs Try.func64 #[.int .i64 x1_1] ?_
      with_reducible refine (laws_markText.calls k1 x1_1 t762 _ A5.out).mono ?_
      rintro e w10 ⟨rfl, hb⟩
      refine ⟨_, rfl, ?_⟩
      have n0_ := zq9 (zq27 (by exact bl HB) hb)
      clear HB; have HB := n0_; clear n0_
      (try clear hb)
      (try clear hb2)
      (try clear hk)
      (try clear hi)
      refine hK.out _ _ ((hcm HB hw761_0)) (fun hHeld => ?_)
      clear hK K
      refine norm_ (a' := ?_) ?_ ?_
      rotate_left; ·show Act.put _ (some 17) _ = _; simp only [Act.put, zq0, zq1, zq2, i64_w, i32_w]; rfl
      refine pure_ (i := 6) (N := some 18) (v := ?_) (a' := ?_) (zb 7 127) rfl rfl (by kernel_rfl) (fun _ _ _ h => h) (Or.inl ⟨by rfl, ?_⟩) ?_ ?_
      rotate_left; ·intro w'; go_simp; with_reducible rfl
      rotate_left; ·simp only [Act.put, zq0, zq1, zq2, i64_w, i32_w]; rfl
      refine done_ (by kernel_rfl) ?_
      try go_wp2
      go_ret
      exact fz (by exact bl HB)
    ·rw [if_neg c4] at H
     exact absurd H (by simp)
   ·rw [if_neg c3] at H; have c3b0 : decide (x5_1 < (l0.length : Int)) = false := decide_eq_false c3; clear c3; obtain rfl := Option.some.inj H
    go_wp2
    go_ret
    exact fz (by exact bl HB)
def laws_heldScoreS.T4 : Bool × List (List Nat × List Nat) := (true, [([], []), ([], []), ([0, 1], [0, 1]), ([2], [2]), ([3], [3]), ([], []), ([5], [5]), ([4, 6], [4, 6])])
def laws_heldScoreS.B4 : List Nat := [0, 0, 3, 7, 15, 0, 32, 127]
theorem laws_heldScoreS.tab4 : rtab .any (opsOf Try.f71 4) = laws_heldScoreS.T4 := by kernel_rfl
theorem laws_heldScoreS.bits4 : waitsOk laws_heldScoreS.T4.2 laws_heldScoreS.B4 = true := by kernel_rfl
set_option maxHeartbeats 8000000 in
set_option maxRecDepth 100000 in
theorem laws_heldScoreS.calls (k : Nat) (A0 : Option Addr) (c0 : Nat) (l0 : List (S99)) (a1 : Int) (r : Int) (w : World) (hr0 : Kd.C k99 w A0 l0.length l0) (hc0 : l0.length ≤ c0) (h : laws_heldScoreS.f k l0 a1 = some r) :
  Calls Try.prog 71 #[.slice A0 l0.length c0, .int .i64 a1] w fun e w' => e = .returned (.int .i64 r) ∧ Below w.heap.size w w' := by
 have HR0 := zq9 hr0; have HC0 := zq9 hc0; clear hr0 hc0
 have HB := zq9 (Below.refl w.heap.size w)
 have H : (laws_heldScoreS.l0 k l0 a1 0) = some r := h
 clear h; have H' := zq9 H; clear H
 go_enter Try.func71, Try.ntmps71
 go_wp2
 go_loopg [1, 5] k (fun kq v1 v5 w' => ∃ (x1_1 : Int) (x5_1 : Int), v1 = .int .i64 x1_1 ∧ v5 = .int .i64 x5_1 ∧ Aside0 (laws_heldScoreS.l0 kq l0 x1_1 x5_1 = some r) ∧ Aside0 (kq ≤ k) ∧ Aside0 (Below w.heap.size w w'))
 case atStart => exact ⟨(a1), (0), (by first | rfl | (simp; done) | (simp [*]; done)), (by first | rfl | (simp; done) | (simp [*]; done)), H', ⟨Nat.le_refl _⟩, ⟨by exact bl HB⟩⟩
 case round =>
  clear H'
  try clear p2
  obtain ⟨x1_1, x5_1, rfl, rfl, HA, HK1, HB⟩ := hrel
  cases gk with
  | zero => exact absurd HA.out (by simp [laws_heldScoreS.l0])
  | succ k1 =>
   have H := HA.out; clear HA
   simp only [laws_heldScoreS.l0] at H
   by_cases c3 : x5_1 < (l0.length : Int)
   ·rw [if_pos c3] at H; have c3b0 : decide (x5_1 < (l0.length : Int)) = true := decide_eq_true c3; clear c3
    by_cases c4 : 0 ≤ x5_1
    ·rw [if_pos c4] at H; have c4b0 : decide (0 ≤ x5_1) = true := decide_eq_true c4; clear c4; replace H := Option.bind_eq_some_iff.mp H; obtain ⟨t918, A50, H⟩ := H
     try dsimp only at H
     have A5 := zq9 A50; clear A50
     try go_wp2
     have n0_ := zq9 (zq4 HB.out)
     clear HB; have HB := n0_; clear n0_
     have p917 : 0 ≤ (x5_1 : Int) := of_decide_eq_true ‹_›
     have q917 : x5_1 < (l0.length : Int) := of_decide_eq_true ‹_›
     obtain ⟨ad917, e917, hx917_0, hx917_1⟩ := at_T99 HR0.out x5_1 p917 q917
     have hw917_1 := hx917_1; have hw917_0 := hx917_0; cases e917; replace hx917_0 := hcl HB hx917_0; replace hx917_1 := hcl HB hx917_1; replace p917 := eq_true p917; replace q917 := eq_true q917
     refine start_ (n := 8) (S := fun w' => w'.cell? (ad917.add ((x5_1).toNat * 2)) = some (.string ((rd_T99 l0 x5_1).f0)) ∧ w'.cell? ⟨(ad917.add ((x5_1).toNat * 2)).block, (ad917.add ((x5_1).toNat * 2)).off + 1, none⟩ = some (.int .i64 ((rd_T99 l0 x5_1).f1))) (ds := []) #[false, false, false, false, false, false, false, false] (by kernel_rfl) rfl rfl ⟨(hcm HB hw917_0), (hcm HB hw917_1)⟩ (fun hHeld => ?_); refine with_tabW laws_heldScoreS.tab4 laws_heldScoreS.bits4 (fun HT_ HW_ => ?_)
     generalize wr.drew = w8 at HB hx917_0 hx917_1 hHeld ⊢
     refine pa HT_ 0 12 (zb 8 1) ?_; refine pa HT_ 1 13 (zb 8 3) ?_; refine pa HT_ 2 14 (zb 8 7) ?_; refine pa HT_ 3 15 (zb 8 15) ?_; refine pa HT_ 5 17 (zb 8 47) ?_
     refine take_ (i := 4) (N := some 16) (v := ?_) (a' := ?_) (zb 8 63) rfl rfl (take_ofW HT_.out HW_.out (by kernel_rfl)) (fun _ _ _ h => h) (Or.inl ⟨by rfl, ?_⟩) hHeld ?_ ?_
     rotate_left; ·rintro w' ⟨s0, s1⟩; go_simp; with_reducible rfl
     rotate_left; ·simp only [Act.put, zq0, zq1, zq2, i64_w, i32_w]; rfl
     refine one_ (i := 6) (N := some 18) (zb 8 127) rfl rfl (one_of HT_.out (by kernel_rfl)) (by decide) (fun K hK => ?_)
     refine gs Try.func64 #[.int .i64 x1_1] ?_
     with_reducible refine (laws_markText.calls k1 x1_1 t918 _ A5.out).mono ?_
     rintro e w9 ⟨rfl, hb⟩
     refine ⟨_, rfl, ?_⟩
     have n0_ := zq9 (zq27 (by exact bl HB) hb)
     clear HB; have HB := n0_; clear n0_
     (try clear hb)
     (try clear hb2)
     (try clear hk)
     (try clear hi)
     refine hK.out _ _ ⟨(hcm HB hw917_0), (hcm HB hw917_1)⟩ (fun hHeld => ?_)
     clear hK K
     refine norm_ (a' := ?_) ?_ ?_
     rotate_left; ·show Act.put _ (some 18) _ = _; simp only [Act.put, zq0, zq1, zq2, i64_w, i32_w]; rfl
     refine pa HT_ 7 19 (zb 8 255) ?_
     refine done_ (done_of HT_.out (by kernel_rfl)) ?_
     by_cases c6 : ((rd_T99 l0 x5_1).f0).toList = t918.toList
     ·rw [if_pos c6] at H
      have c6b0 : (((rd_T99 l0 x5_1).f0).toList == t918.toList) = true := beq_iff_eq.mpr c6
      have c6b1 : (((rd_T99 l0 x5_1).f0).toList != t918.toList) = false := bne_eq_false_iff_eq.mpr c6
      clear c6
      (try rw [c6b0]); (try rw [c6b1])
      have p919 : 0 ≤ (x5_1 : Int) := of_decide_eq_true ‹_›
      have q919 : x5_1 < (l0.length : Int) := of_decide_eq_true ‹_›
      obtain ⟨ad919, e919, hx919_0, hx919_1⟩ := at_T99 HR0.out x5_1 p919 q919
      obtain rfl : ad917 = ad919 := (by injection e919)
      replace hx919_0 := hcl HB hx919_0; replace hx919_1 := hcl HB hx919_1; replace p919 := eq_true p919; replace q919 := eq_true q919
      by_cases c7 : ((rd_T99 l0 x5_1).f1) = (wrap64 (x1_1 + 1))
      ·rw [if_pos c7] at H
       have c7b0 : (((rd_T99 l0 x5_1).f1) == (wrap64 (x1_1 + 1))) = true := beq_iff_eq.mpr c7
       have c7b1 : (((rd_T99 l0 x5_1).f1) != (wrap64 (x1_1 + 1))) = false := bne_eq_false_iff_eq.mpr c7
       clear c7; have H' := zq9 H; clear H
       (try rw [c7b0]); (try rw [c7b1])
       try go_wp2
       go_roundg k1
       case measure => have := HK1.out; omega
       case rel => exact ⟨(wrap64 ((wrap64 (x1_1 + 1)) + 1)), (wrap64 (x5_1 + 1)), (by first | rfl | (simp; done) | (simp [*]; done)), (by first | rfl | (simp; done) | (simp [*]; done)), H', ⟨by have := HK1.out; omega⟩, ⟨by exact bl HB⟩⟩
      ·rw [if_neg c7] at H
       have c7b0 : (((rd_T99 l0 x5_1).f1) == (wrap64 (x1_1 + 1))) = false := beq_eq_false_iff_ne.mpr c7
       have c7b1 : (((rd_T99 l0 x5_1).f1) != (wrap64 (x1_1 + 1))) = true := bne_iff_ne.mpr c7
       obtain rfl := Option.some.inj H
       (try rw [c7b0]); (try rw [c7b1])
       try go_wp2
       go_ret
       exact fz (by exact bl HB)
     ·rw [if_neg c6] at H
      have c6b0 : (((rd_T99 l0 x5_1).f0).toList == t918.toList) = false := beq_eq_false_iff_ne.mpr c6
      have c6b1 : (((rd_T99 l0 x5_1).f0).toList != t918.toList) = true := bne_iff_ne.mpr c6
      obtain rfl := Option.some.inj H
      (try rw [c6b0]); (try rw [c6b1])
      try go_wp2
      go_ret
      exact fz (by exact bl HB)
    ·rw [if_neg c4] at H
     exact absurd H (by simp)
   ·rw [if_neg c3] at H; have c3b0 : decide (x5_1 < (l0.length : Int)) = false := decide_eq_false c3; clear c3; obtain rfl := Option.some.inj H
    go_wp2
    go_ret
    exact fz (by exact bl HB)
def laws_heldPairS.T4 : Bool × List (List Nat × List Nat) := (true, [([], []), ([], []), ([0, 1], [0, 1]), ([2], [2]), ([3], [3]), ([], []), ([5], [5]), ([4, 6], [4, 6])])
def laws_heldPairS.B4 : List Nat := [0, 0, 3, 7, 15, 0, 32, 127]
theorem laws_heldPairS.tab4 : rtab .any (opsOf Try.f72 4) = laws_heldPairS.T4 := by kernel_rfl
theorem laws_heldPairS.bits4 : waitsOk laws_heldPairS.T4.2 laws_heldPairS.B4 = true := by kernel_rfl
def laws_heldPairS.T7 : Bool × List (List Nat × List Nat) := (true, [([], []), ([], []), ([0, 1], [0, 1]), ([2], [2]), ([3], [3]), ([], []), ([5], [5]), ([4, 6], [4, 6])])
def laws_heldPairS.B7 : List Nat := [0, 0, 3, 7, 15, 0, 32, 127]
theorem laws_heldPairS.tab7 : rtab .any (opsOf Try.f72 7) = laws_heldPairS.T7 := by kernel_rfl
theorem laws_heldPairS.bits7 : waitsOk laws_heldPairS.T7.2 laws_heldPairS.B7 = true := by kernel_rfl
set_option maxHeartbeats 8000000 in
set_option maxRecDepth 100000 in
theorem laws_heldPairS.calls (k : Nat) (A0 : Option Addr) (c0 : Nat) (l0 : List (S101)) (a1 : Int) (r : Int) (w : World) (hr0 : Kd.C k101 w A0 l0.length l0) (hc0 : l0.length ≤ c0) (h : laws_heldPairS.f k l0 a1 = some r) :
  Calls Try.prog 72 #[.slice A0 l0.length c0, .int .i64 a1] w fun e w' => e = .returned (.int .i64 r) ∧ Below w.heap.size w w' := by
 have HR0 := zq9 hr0; have HC0 := zq9 hc0; clear hr0 hc0
 have HB := zq9 (Below.refl w.heap.size w)
 have H : (laws_heldPairS.l0 k l0 a1 0) = some r := h
 clear h; have H' := zq9 H; clear H
 go_enter Try.func72, Try.ntmps72
 go_wp2
 go_loopg [1, 5] k (fun kq v1 v5 w' => ∃ (x1_1 : Int) (x5_1 : Int), v1 = .int .i64 x1_1 ∧ v5 = .int .i64 x5_1 ∧ Aside0 (laws_heldPairS.l0 kq l0 x1_1 x5_1 = some r) ∧ Aside0 (kq ≤ k) ∧ Aside0 (Below w.heap.size w w'))
 case atStart => exact ⟨(a1), (0), (by first | rfl | (simp; done) | (simp [*]; done)), (by first | rfl | (simp; done) | (simp [*]; done)), H', ⟨Nat.le_refl _⟩, ⟨by exact bl HB⟩⟩
 case round =>
  clear H'
  try clear p2
  obtain ⟨x1_1, x5_1, rfl, rfl, HA, HK1, HB⟩ := hrel
  cases gk with
  | zero => exact absurd HA.out (by simp [laws_heldPairS.l0])
  | succ k1 =>
   have H := HA.out; clear HA
   simp only [laws_heldPairS.l0] at H
   by_cases c3 : x5_1 < (l0.length : Int)
   ·rw [if_pos c3] at H; have c3b0 : decide (x5_1 < (l0.length : Int)) = true := decide_eq_true c3; clear c3
    by_cases c4 : 0 ≤ x5_1
    ·rw [if_pos c4] at H; have c4b0 : decide (0 ≤ x5_1) = true := decide_eq_true c4; clear c4; replace H := Option.bind_eq_some_iff.mp H; obtain ⟨t921, A50, H⟩ := H
     try dsimp only at H
     have A5 := zq9 A50; clear A50
     try go_wp2
     have n0_ := zq9 (zq4 HB.out)
     clear HB; have HB := n0_; clear n0_
     have p920 : 0 ≤ (x5_1 : Int) := of_decide_eq_true ‹_›
     have q920 : x5_1 < (l0.length : Int) := of_decide_eq_true ‹_›
     obtain ⟨ad920, e920, hx920_0, hx920_1⟩ := at_T101 HR0.out x5_1 p920 q920
     have hw920_1 := hx920_1; have hw920_0 := hx920_0; cases e920; replace hx920_0 := hcl HB hx920_0; replace hx920_1 := hcl HB hx920_1; replace p920 := eq_true p920; replace q920 := eq_true q920
     refine start_ (n := 8) (S := fun w' => w'.cell? (ad920.add ((x5_1).toNat * 2)) = some (.string ((rd_T101 l0 x5_1).f0)) ∧ w'.cell? ⟨(ad920.add ((x5_1).toNat * 2)).block, (ad920.add ((x5_1).toNat * 2)).off + 1, none⟩ = some (.string ((rd_T101 l0 x5_1).f1))) (ds := []) #[false, false, false, false, false, false, false, false] (by kernel_rfl) rfl rfl ⟨(hcm HB hw920_0), (hcm HB hw920_1)⟩ (fun hHeld => ?_); refine with_tabW laws_heldPairS.tab4 laws_heldPairS.bits4 (fun HT_ HW_ => ?_)
     generalize wr.drew = w9 at HB hx920_0 hx920_1 hHeld ⊢
     refine pa HT_ 0 12 (zb 8 1) ?_; refine pa HT_ 1 13 (zb 8 3) ?_; refine pa HT_ 2 14 (zb 8 7) ?_; refine pa HT_ 3 15 (zb 8 15) ?_; refine pa HT_ 5 17 (zb 8 47) ?_
     refine take_ (i := 4) (N := some 16) (v := ?_) (a' := ?_) (zb 8 63) rfl rfl (take_ofW HT_.out HW_.out (by kernel_rfl)) (fun _ _ _ h => h) (Or.inl ⟨by rfl, ?_⟩) hHeld ?_ ?_
     rotate_left; ·rintro w' ⟨s0, s1⟩; go_simp; with_reducible rfl
     rotate_left; ·simp only [Act.put, zq0, zq1, zq2, i64_w, i32_w]; rfl
     refine one_ (i := 6) (N := some 18) (zb 8 127) rfl rfl (one_of HT_.out (by kernel_rfl)) (by decide) (fun K hK => ?_)
     refine gs Try.func64 #[.int .i64 x1_1] ?_
     with_reducible refine (laws_markText.calls k1 x1_1 t921 _ A5.out).mono ?_
     rintro e w10 ⟨rfl, hb⟩
     refine ⟨_, rfl, ?_⟩
     have n0_ := zq9 (zq27 (by exact bl HB) hb)
     clear HB; have HB := n0_; clear n0_
     (try clear hb)
     (try clear hb2)
     (try clear hk)
     (try clear hi)
     refine hK.out _ _ ⟨(hcm HB hw920_0), (hcm HB hw920_1)⟩ (fun hHeld => ?_)
     clear hK K
     refine norm_ (a' := ?_) ?_ ?_
     rotate_left; ·show Act.put _ (some 18) _ = _; simp only [Act.put, zq0, zq1, zq2, i64_w, i32_w]; rfl
     refine pa HT_ 7 19 (zb 8 255) ?_
     refine done_ (done_of HT_.out (by kernel_rfl)) ?_
     by_cases c6 : ((rd_T101 l0 x5_1).f0).toList = t921.toList
     ·rw [if_pos c6] at H
      have c6b0 : (((rd_T101 l0 x5_1).f0).toList == t921.toList) = true := beq_iff_eq.mpr c6
      have c6b1 : (((rd_T101 l0 x5_1).f0).toList != t921.toList) = false := bne_eq_false_iff_eq.mpr c6
      clear c6; replace H := Option.bind_eq_some_iff.mp H; obtain ⟨t923, A70, H⟩ := H
      try dsimp only at H
      have A7 := zq9 A70; clear A70
      (try rw [c6b0]); (try rw [c6b1])
      try go_wp2
      have n0_ := zq9 (zq4 HB.out)
      clear HB; have HB := n0_; clear n0_
      have p922 : 0 ≤ (x5_1 : Int) := of_decide_eq_true ‹_›
      have q922 : x5_1 < (l0.length : Int) := of_decide_eq_true ‹_›
      obtain ⟨ad922, e922, hx922_0, hx922_1⟩ := at_T101 HR0.out x5_1 p922 q922
      have hw922_1 := hx922_1; have hw922_0 := hx922_0
      obtain rfl : ad920 = ad922 := (by injection e922)
      replace hx922_0 := hcl HB hx922_0; replace hx922_1 := hcl HB hx922_1; replace p922 := eq_true p922; replace q922 := eq_true q922
      refine start_ (n := 8) (S := fun w' => w'.cell? (ad920.add ((x5_1).toNat * 2)) = some (.string ((rd_T101 l0 x5_1).f0)) ∧ w'.cell? ⟨(ad920.add ((x5_1).toNat * 2)).block, (ad920.add ((x5_1).toNat * 2)).off + 1, none⟩ = some (.string ((rd_T101 l0 x5_1).f1))) (ds := []) #[false, false, false, false, false, false, false, false] (by kernel_rfl) rfl rfl ⟨(hcm HB hw922_0), (hcm HB hw922_1)⟩ (fun hHeld => ?_); refine with_tabW laws_heldPairS.tab7 laws_heldPairS.bits7 (fun HT_ HW_ => ?_)
      generalize w10.drew = w11 at HB hx922_0 hx922_1 hHeld ⊢
      refine pa HT_ 0 22 (zb 8 1) ?_; refine pa HT_ 1 23 (zb 8 3) ?_; refine pa HT_ 2 24 (zb 8 7) ?_; refine pa HT_ 3 25 (zb 8 15) ?_; refine pa HT_ 5 27 (zb 8 47) ?_
      refine take_ (i := 4) (N := some 26) (v := ?_) (a' := ?_) (zb 8 63) rfl rfl (take_ofW HT_.out HW_.out (by kernel_rfl)) (fun _ _ _ h => h) (Or.inl ⟨by rfl, ?_⟩) hHeld ?_ ?_
      rotate_left; ·rintro w' ⟨s0, s1⟩; go_simp; with_reducible rfl
      rotate_left; ·simp only [Act.put, zq0, zq1, zq2, i64_w, i32_w]; rfl
      refine one_ (i := 6) (N := some 28) (zb 8 127) rfl rfl (one_of HT_.out (by kernel_rfl)) (by decide) (fun K hK => ?_)
      refine gs Try.func64 #[.int .i64 (wrap64 (x1_1 + 1))] ?_
      with_reducible refine (laws_markText.calls k1 (wrap64 (x1_1 + 1)) t923 _ A7.out).mono ?_
      rintro e w12 ⟨rfl, hb⟩
      refine ⟨_, rfl, ?_⟩
      have n0_ := zq9 (zq27 (by exact bl HB) hb)
      clear HB; have HB := n0_; clear n0_
      (try clear hb)
      (try clear hb2)
      (try clear hk)
      (try clear hi)
      refine hK.out _ _ ⟨(hcm HB hw922_0), (hcm HB hw922_1)⟩ (fun hHeld => ?_)
      clear hK K
      refine norm_ (a' := ?_) ?_ ?_
      rotate_left; ·show Act.put _ (some 28) _ = _; simp only [Act.put, zq0, zq1, zq2, i64_w, i32_w]; rfl
      refine pa HT_ 7 29 (zb 8 255) ?_
      refine done_ (done_of HT_.out (by kernel_rfl)) ?_
      by_cases c8 : ((rd_T101 l0 x5_1).f1).toList = t923.toList
      ·rw [if_pos c8] at H
       have c8b0 : (((rd_T101 l0 x5_1).f1).toList == t923.toList) = true := beq_iff_eq.mpr c8
       have c8b1 : (((rd_T101 l0 x5_1).f1).toList != t923.toList) = false := bne_eq_false_iff_eq.mpr c8
       clear c8; have H' := zq9 H; clear H
       (try rw [c8b0]); (try rw [c8b1])
       try go_wp2
       go_roundg k1
       case measure => have := HK1.out; omega
       case rel => exact ⟨(wrap64 ((wrap64 (x1_1 + 1)) + 1)), (wrap64 (x5_1 + 1)), (by first | rfl | (simp; done) | (simp [*]; done)), (by first | rfl | (simp; done) | (simp [*]; done)), H', ⟨by have := HK1.out; omega⟩, ⟨by exact bl HB⟩⟩
      ·rw [if_neg c8] at H
       have c8b0 : (((rd_T101 l0 x5_1).f1).toList == t923.toList) = false := beq_eq_false_iff_ne.mpr c8
       have c8b1 : (((rd_T101 l0 x5_1).f1).toList != t923.toList) = true := bne_iff_ne.mpr c8
       obtain rfl := Option.some.inj H
       (try rw [c8b0]); (try rw [c8b1])
       try go_wp2
       go_ret
       exact fz (by exact bl HB)
     ·rw [if_neg c6] at H
      have c6b0 : (((rd_T101 l0 x5_1).f0).toList == t921.toList) = false := beq_eq_false_iff_ne.mpr c6
      have c6b1 : (((rd_T101 l0 x5_1).f0).toList != t921.toList) = true := bne_iff_ne.mpr c6
      obtain rfl := Option.some.inj H
      (try rw [c6b0]); (try rw [c6b1])
      try go_wp2
      go_ret
      exact fz (by exact bl HB)
    ·rw [if_neg c4] at H
     exact absurd H (by simp)
   ·rw [if_neg c3] at H; have c3b0 : decide (x5_1 < (l0.length : Int)) = false := decide_eq_false c3; clear c3; obtain rfl := Option.some.inj H
    go_wp2
    go_ret
    exact fz (by exact bl HB)
def laws_heldEntryS.T4 : Bool × List (List Nat × List Nat) := (true, [([], []), ([], []), ([0, 1], [0, 1]), ([2], [2]), ([3], [3]), ([], []), ([5], [5]), ([4, 6], [4, 6])])
def laws_heldEntryS.B4 : List Nat := [0, 0, 3, 7, 15, 0, 32, 127]
theorem laws_heldEntryS.tab4 : rtab .any (opsOf Try.f76 4) = laws_heldEntryS.T4 := by kernel_rfl
theorem laws_heldEntryS.bits4 : waitsOk laws_heldEntryS.T4.2 laws_heldEntryS.B4 = true := by kernel_rfl
def laws_heldEntryS.T13 : Bool × List (List Nat × List Nat) := (true, [([], []), ([], []), ([0, 1], [0, 1]), ([2], [2]), ([3], [3]), ([], []), ([5], [5]), ([4, 6], [4, 6])])
def laws_heldEntryS.B13 : List Nat := [0, 0, 3, 7, 15, 0, 32, 127]
theorem laws_heldEntryS.tab13 : rtab .any (opsOf Try.f76 13) = laws_heldEntryS.T13 := by kernel_rfl
theorem laws_heldEntryS.bits13 : waitsOk laws_heldEntryS.T13.2 laws_heldEntryS.B13 = true := by kernel_rfl
set_option maxHeartbeats 8000000 in
set_option maxRecDepth 100000 in
theorem laws_heldEntryS.calls (k : Nat) (A0 : Option Addr) (c0 : Nat) (l0 : List (S32)) (a1 : Int) (r : Int) (w : World) (hr0 : Kd.C k32 w A0 l0.length l0) (hc0 : l0.length ≤ c0) (h : laws_heldEntryS.f k l0 a1 = some r) :
  Calls Try.prog 76 #[.slice A0 l0.length c0, .int .i64 a1] w fun e w' => e = .returned (.int .i64 r) ∧ Below w.heap.size w w' := by
 have HR0 := zq9 hr0; have HC0 := zq9 hc0; clear hr0 hc0
 have HB := zq9 (Below.refl w.heap.size w)
 have H : (laws_heldEntryS.l0 k l0 a1 0) = some r := h
 clear h; have H' := zq9 H; clear H
 go_enter Try.func76, Try.ntmps76
 go_wp2
 go_loopg [1, 5] k (fun kq v1 v5 w' => ∃ (x1_1 : Int) (x5_1 : Int), v1 = .int .i64 x1_1 ∧ v5 = .int .i64 x5_1 ∧ Aside0 (laws_heldEntryS.l0 kq l0 x1_1 x5_1 = some r) ∧ Aside0 (kq ≤ k) ∧ Aside0 (Below w.heap.size w w'))
 case atStart => exact ⟨(a1), (0), (by first | rfl | (simp; done) | (simp [*]; done)), (by first | rfl | (simp; done) | (simp [*]; done)), H', ⟨Nat.le_refl _⟩, ⟨by exact bl HB⟩⟩
 case round =>
  clear H'
  try clear p2
  obtain ⟨x1_1, x5_1, rfl, rfl, HA, HK1, HB⟩ := hrel
  cases gk with
  | zero => exact absurd HA.out (by simp [laws_heldEntryS.l0])
  | succ k1 =>
   have H := HA.out; clear HA
   simp only [laws_heldEntryS.l0] at H
   refine (Classical.em (x5_1 < (l0.length : Int))).elim (fun c3 => ?p0) (fun c3 => ?n0)
   case' p0 =>
    rw [if_pos c3] at H; have c3b0 : decide (x5_1 < (l0.length : Int)) = true := decide_eq_true c3; clear c3
    refine (Classical.em (0 ≤ x5_1)).elim (fun c4 => ?p1) (fun c4 => ?n1)
    case' p1 =>
     rw [if_pos c4] at H; have c4b0 : decide (0 ≤ x5_1) = true := decide_eq_true c4; clear c4; replace H := Option.bind_eq_some_iff.mp H; obtain ⟨t1133, A50, H⟩ := H
     try dsimp only at H
     have A5 := zq9 A50; clear A50
     try go_wp2
     have n0_ := zq9 (zq4 HB.out)
     clear HB; have HB := n0_; clear n0_
     have p1132 : 0 ≤ (x5_1 : Int) := of_decide_eq_true ‹_›
     have q1132 : x5_1 < (l0.length : Int) := of_decide_eq_true ‹_›
     obtain ⟨ad1132, A1132_4, c1132_4, A1132_5, c1132_5, A1132_6, c1132_6, e1132, hx1132_0, hx1132_1, hx1132_2, hx1132_3, hx1132_4, hx1132_5, hx1132_6, hl1132_4, hi1132_4, hl1132_5, hi1132_5, hl1132_6, hi1132_6⟩ := at_T32 HR0.out x5_1 p1132 q1132
     have hw1132_6 := hx1132_6; have hw1132_5 := hx1132_5; have hw1132_4 := hx1132_4; have hw1132_3 := hx1132_3; have hw1132_2 := hx1132_2; have hw1132_1 := hx1132_1; have hw1132_0 := hx1132_0; cases e1132; have hv1132_4 := hx1132_4; have hv1132_5 := hx1132_5; have hv1132_6 := hx1132_6; replace hx1132_0 := hcl HB hx1132_0; replace hx1132_1 := hcl HB hx1132_1; replace hx1132_2 := hcl HB hx1132_2; replace hx1132_3 := hcl HB hx1132_3
     replace hx1132_4 := hcl HB hx1132_4; replace hx1132_5 := hcl HB hx1132_5; replace hx1132_6 := hcl HB hx1132_6; have HR1132_4 := zq9 hi1132_4; have HC1132_4 := zq9 hl1132_4; clear hi1132_4 hl1132_4; have HR1132_5 := zq9 hi1132_5; have HC1132_5 := zq9 hl1132_5; clear hi1132_5 hl1132_5; have HR1132_6 := zq9 hi1132_6; have HC1132_6 := zq9 hl1132_6; clear hi1132_6 hl1132_6; replace p1132 := eq_true p1132
     replace q1132 := eq_true q1132
     refine start_ (n := 8) (S := fun w' => w'.cell? (ad1132.add ((x5_1).toNat * 7)) = some (.string ((rd_T32 l0 x5_1).f0)) ∧ w'.cell? ⟨(ad1132.add ((x5_1).toNat * 7)).block, (ad1132.add ((x5_1).toNat * 7)).off + 1, none⟩ = some (.int .i64 ((rd_T32 l0 x5_1).f1)) ∧ w'.cell? ⟨(ad1132.add ((x5_1).toNat * 7)).block, (ad1132.add ((x5_1).toNat * 7)).off + 2, none⟩ = some (.int .i64 ((rd_T32 l0 x5_1).f2)) ∧ w'.cell? ⟨(ad1132.add ((x5_1).toNat * 7)).block, (ad1132.add ((x5_1).toNat * 7)).off + 3, none⟩ = some (.string ((rd_T32 l0 x5_1).f3)) ∧ w'.cell? ⟨(ad1132.add ((x5_1).toNat * 7)).block, (ad1132.add ((x5_1).toNat * 7)).off + 4, none⟩ = some (.slice A1132_4 ((rd_T32 l0 x5_1).f4).length c1132_4) ∧ w'.cell? ⟨(ad1132.add ((x5_1).toNat * 7)).block, (ad1132.add ((x5_1).toNat * 7)).off + 5, none⟩ = some (.slice A1132_5 ((rd_T32 l0 x5_1).f5).length c1132_5) ∧ w'.cell? ⟨(ad1132.add ((x5_1).toNat * 7)).block, (ad1132.add ((x5_1).toNat * 7)).off + 6, none⟩ = some (.slice A1132_6 ((rd_T32 l0 x5_1).f6).length c1132_6)) (ds := []) #[false, false, false, false, false, false, false, false] (by kernel_rfl) rfl rfl ⟨(hcm HB hw1132_0), (hcm HB hw1132_1), (hcm HB hw1132_2), (hcm HB hw1132_3), (hcm HB hw1132_4), (hcm HB hw1132_5), (hcm HB hw1132_6)⟩ (fun hHeld => ?_); refine with_tabW laws_heldEntryS.tab4 laws_heldEntryS.bits4 (fun HT_ HW_ => ?_)
     generalize wr.drew = w13 at HB HR1132_4 HR1132_5 HR1132_6 hx1132_0 hx1132_1 hx1132_2 hx1132_3 hx1132_4 hx1132_5 hx1132_6 hHeld ⊢
     refine pa HT_ 0 12 (zb 8 1) ?_; refine pa HT_ 1 13 (zb 8 3) ?_; refine pa HT_ 2 14 (zb 8 7) ?_; refine pa HT_ 3 15 (zb 8 15) ?_; refine pa HT_ 5 17 (zb 8 47) ?_
     refine take_ (i := 4) (N := some 16) (v := ?_) (a' := ?_) (zb 8 63) rfl rfl (take_ofW HT_.out HW_.out (by kernel_rfl)) (fun _ _ _ h => h) (Or.inl ⟨by rfl, ?_⟩) hHeld ?_ ?_
     rotate_left; ·rintro w' ⟨s0, s1, s2, s3, s4, s5, s6⟩; go_simp; with_reducible rfl
     rotate_left; ·simp only [Act.put, zq0, zq1, zq2, i64_w, i32_w]; rfl
     refine one_ (i := 6) (N := some 18) (zb 8 127) rfl rfl (one_of HT_.out (by kernel_rfl)) (by decide) (fun K hK => ?_)
     refine gs Try.func64 #[.int .i64 x1_1] ?_
     with_reducible refine (laws_markText.calls k1 x1_1 t1133 _ A5.out).mono ?_
     rintro e w14 ⟨rfl, hb⟩
     refine ⟨_, rfl, ?_⟩
     have n0_ := zq9 (zq27 (by exact bl HB) hb)
     clear HB; have HB := n0_; clear n0_
     (try clear hb)
     (try clear hb2)
     (try clear hk)
     (try clear hi)
     refine hK.out _ _ ⟨(hcm HB hw1132_0), (hcm HB hw1132_1), (hcm HB hw1132_2), (hcm HB hw1132_3), (hcm HB hw1132_4), (hcm HB hw1132_5), (hcm HB hw1132_6)⟩ (fun hHeld => ?_)
     clear hK K
     refine norm_ (a' := ?_) ?_ ?_
     rotate_left; ·show Act.put _ (some 18) _ = _; simp only [Act.put, zq0, zq1, zq2, i64_w, i32_w]; rfl
     refine pa HT_ 7 19 (zb 8 255) ?_
     refine done_ (done_of HT_.out (by kernel_rfl)) ?_
     refine (Classical.em (((rd_T32 l0 x5_1).f0).toList = t1133.toList)).elim (fun c6 => ?p2) (fun c6 => ?n2)
     case' p2 =>
      rw [if_pos c6] at H
      have c6b0 : (((rd_T32 l0 x5_1).f0).toList == t1133.toList) = true := beq_iff_eq.mpr c6
      have c6b1 : (((rd_T32 l0 x5_1).f0).toList != t1133.toList) = false := bne_eq_false_iff_eq.mpr c6
      clear c6
      (try rw [c6b0]); (try rw [c6b1])
      have p1134 : 0 ≤ (x5_1 : Int) := of_decide_eq_true ‹_›
      have q1134 : x5_1 < (l0.length : Int) := of_decide_eq_true ‹_›
      obtain ⟨ad1134, A1134_4, c1134_4, A1134_5, c1134_5, A1134_6, c1134_6, e1134, hx1134_0, hx1134_1, hx1134_2, hx1134_3, hx1134_4, hx1134_5, hx1134_6, hl1134_4, hi1134_4, hl1134_5, hi1134_5, hl1134_6, hi1134_6⟩ := at_T32 HR0.out x5_1 p1134 q1134
      obtain rfl : ad1132 = ad1134 := (by injection e1134)
      have ea_ := Option.some.inj (hx1134_4.symm.trans hv1132_4); injection ea_ with ea_ en_ ec_; subst ea_; subst ec_; clear en_
      have ea_ := Option.some.inj (hx1134_5.symm.trans hv1132_5); injection ea_ with ea_ en_ ec_; subst ea_; subst ec_; clear en_
      have ea_ := Option.some.inj (hx1134_6.symm.trans hv1132_6); injection ea_ with ea_ en_ ec_; subst ea_; subst ec_; clear en_
      have hv1134_4 := hx1134_4; have hv1134_5 := hx1134_5; have hv1134_6 := hx1134_6; replace hx1134_0 := hcl HB hx1134_0; replace hx1134_1 := hcl HB hx1134_1; replace hx1134_2 := hcl HB hx1134_2; replace hx1134_3 := hcl HB hx1134_3; replace hx1134_4 := hcl HB hx1134_4; replace hx1134_5 := hcl HB hx1134_5; replace hx1134_6 := hcl HB hx1134_6; have HR1134_4 := zq9 hi1134_4; have HC1134_4 := zq9 hl1134_4
      clear hi1134_4 hl1134_4; have HR1134_5 := zq9 hi1134_5; have HC1134_5 := zq9 hl1134_5; clear hi1134_5 hl1134_5; have HR1134_6 := zq9 hi1134_6; have HC1134_6 := zq9 hl1134_6; clear hi1134_6 hl1134_6; replace p1134 := eq_true p1134; replace q1134 := eq_true q1134
      refine (Classical.em (((rd_T32 l0 x5_1).f1) = (wrap64 (x1_1 + 1)))).elim (fun c7 => ?p3) (fun c7 => ?n3)
      case' p3 =>
       rw [if_pos c7] at H
       have c7b0 : (((rd_T32 l0 x5_1).f1) == (wrap64 (x1_1 + 1))) = true := beq_iff_eq.mpr c7
       have c7b1 : (((rd_T32 l0 x5_1).f1) != (wrap64 (x1_1 + 1))) = false := bne_eq_false_iff_eq.mpr c7
       clear c7
       (try rw [c7b0]); (try rw [c7b1])
       have p1135 : 0 ≤ (x5_1 : Int) := of_decide_eq_true ‹_›
       have q1135 : x5_1 < (l0.length : Int) := of_decide_eq_true ‹_›
       obtain ⟨ad1135, A1135_4, c1135_4, A1135_5, c1135_5, A1135_6, c1135_6, e1135, hx1135_0, hx1135_1, hx1135_2, hx1135_3, hx1135_4, hx1135_5, hx1135_6, hl1135_4, hi1135_4, hl1135_5, hi1135_5, hl1135_6, hi1135_6⟩ := at_T32 HR0.out x5_1 p1135 q1135
       obtain rfl : ad1132 = ad1135 := (by injection e1135)
       have hv1135_4 := hx1135_4; have hv1135_5 := hx1135_5; have hv1135_6 := hx1135_6; replace hx1135_0 := hcl HB hx1135_0; replace hx1135_1 := hcl HB hx1135_1; replace hx1135_2 := hcl HB hx1135_2; replace hx1135_3 := hcl HB hx1135_3; replace hx1135_4 := hcl HB hx1135_4; replace hx1135_5 := hcl HB hx1135_5; replace hx1135_6 := hcl HB hx1135_6; have HR1135_4 := zq9 hi1135_4; have HC1135_4 := zq9 hl1135_4
       clear hi1135_4 hl1135_4; have HR1135_5 := zq9 hi1135_5; have HC1135_5 := zq9 hl1135_5; clear hi1135_5 hl1135_5; have HR1135_6 := zq9 hi1135_6; have HC1135_6 := zq9 hl1135_6; clear hi1135_6 hl1135_6; replace p1135 := eq_true p1135; replace q1135 := eq_true q1135
       have ea_ := Option.some.inj (hx1134_4.symm.trans hx1135_4)
       injection ea_ with ea_ en_ ec_
       subst ea_; subst ec_; clear en_
       have ea_ := Option.some.inj (hx1134_5.symm.trans hx1135_5)
       injection ea_ with ea_ en_ ec_
       subst ea_; subst ec_; clear en_
       have ea_ := Option.some.inj (hx1134_6.symm.trans hx1135_6)
       injection ea_ with ea_ en_ ec_
       subst ea_; subst ec_; clear en_
       refine (Classical.em (((rd_T32 l0 x5_1).f2) = (wrap64 ((wrap64 (x1_1 + 1)) + 1)))).elim (fun c8 => ?p4) (fun c8 => ?n4)
       case' p4 =>
        rw [if_pos c8] at H
        have c8b0 : (((rd_T32 l0 x5_1).f2) == (wrap64 ((wrap64 (x1_1 + 1)) + 1))) = true := beq_iff_eq.mpr c8
        have c8b1 : (((rd_T32 l0 x5_1).f2) != (wrap64 ((wrap64 (x1_1 + 1)) + 1))) = false := bne_eq_false_iff_eq.mpr c8
        clear c8; replace H := Option.bind_eq_some_iff.mp H; obtain ⟨t1137, A90, H⟩ := H
        try dsimp only at H
        have A9 := zq9 A90; clear A90
        (try rw [c8b0]); (try rw [c8b1])
        try go_wp2
        have n0_ := zq9 (zq4 HB.out)
        clear HB; have HB := n0_; clear n0_
        have p1136 : 0 ≤ (x5_1 : Int) := of_decide_eq_true ‹_›
        have q1136 : x5_1 < (l0.length : Int) := of_decide_eq_true ‹_›
        obtain ⟨ad1136, A1136_4, c1136_4, A1136_5, c1136_5, A1136_6, c1136_6, e1136, hx1136_0, hx1136_1, hx1136_2, hx1136_3, hx1136_4, hx1136_5, hx1136_6, hl1136_4, hi1136_4, hl1136_5, hi1136_5, hl1136_6, hi1136_6⟩ := at_T32 HR0.out x5_1 p1136 q1136
        have hw1136_6 := hx1136_6; have hw1136_5 := hx1136_5; have hw1136_4 := hx1136_4; have hw1136_3 := hx1136_3; have hw1136_2 := hx1136_2; have hw1136_1 := hx1136_1; have hw1136_0 := hx1136_0
        obtain rfl : ad1132 = ad1136 := (by injection e1136)
        have ea_ := Option.some.inj (hx1136_4.symm.trans hv1134_4); injection ea_ with ea_ en_ ec_; subst ea_; subst ec_; clear en_
        have ea_ := Option.some.inj (hx1136_5.symm.trans hv1134_5); injection ea_ with ea_ en_ ec_; subst ea_; subst ec_; clear en_
        have ea_ := Option.some.inj (hx1136_6.symm.trans hv1134_6); injection ea_ with ea_ en_ ec_; subst ea_; subst ec_; clear en_
        have hv1136_4 := hx1136_4; have hv1136_5 := hx1136_5; have hv1136_6 := hx1136_6; replace hx1136_0 := hcl HB hx1136_0; replace hx1136_1 := hcl HB hx1136_1; replace hx1136_2 := hcl HB hx1136_2; replace hx1136_3 := hcl HB hx1136_3; replace hx1136_4 := hcl HB hx1136_4; replace hx1136_5 := hcl HB hx1136_5; replace hx1136_6 := hcl HB hx1136_6; have HR1136_4 := zq9 hi1136_4; have HC1136_4 := zq9 hl1136_4
        clear hi1136_4 hl1136_4; have HR1136_5 := zq9 hi1136_5; have HC1136_5 := zq9 hl1136_5; clear hi1136_5 hl1136_5; have HR1136_6 := zq9 hi1136_6; have HC1136_6 := zq9 hl1136_6; clear hi1136_6 hl1136_6; replace p1136 := eq_true p1136; replace q1136 := eq_true q1136
        refine start_ (n := 8) (S := fun w' => w'.cell? (ad1132.add ((x5_1).toNat * 7)) = some (.string ((rd_T32 l0 x5_1).f0)) ∧ w'.cell? ⟨(ad1132.add ((x5_1).toNat * 7)).block, (ad1132.add ((x5_1).toNat * 7)).off + 1, none⟩ = some (.int .i64 ((rd_T32 l0 x5_1).f1)) ∧ w'.cell? ⟨(ad1132.add ((x5_1).toNat * 7)).block, (ad1132.add ((x5_1).toNat * 7)).off + 2, none⟩ = some (.int .i64 ((rd_T32 l0 x5_1).f2)) ∧ w'.cell? ⟨(ad1132.add ((x5_1).toNat * 7)).block, (ad1132.add ((x5_1).toNat * 7)).off + 3, none⟩ = some (.string ((rd_T32 l0 x5_1).f3)) ∧ w'.cell? ⟨(ad1132.add ((x5_1).toNat * 7)).block, (ad1132.add ((x5_1).toNat * 7)).off + 4, none⟩ = some (.slice A1136_4 ((rd_T32 l0 x5_1).f4).length c1136_4) ∧ w'.cell? ⟨(ad1132.add ((x5_1).toNat * 7)).block, (ad1132.add ((x5_1).toNat * 7)).off + 5, none⟩ = some (.slice A1136_5 ((rd_T32 l0 x5_1).f5).length c1136_5) ∧ w'.cell? ⟨(ad1132.add ((x5_1).toNat * 7)).block, (ad1132.add ((x5_1).toNat * 7)).off + 6, none⟩ = some (.slice A1136_6 ((rd_T32 l0 x5_1).f6).length c1136_6)) (ds := []) #[false, false, false, false, false, false, false, false] (by kernel_rfl) rfl rfl ⟨(hcm HB hw1136_0), (hcm HB hw1136_1), (hcm HB hw1136_2), (hcm HB hw1136_3), (hcm HB hw1136_4), (hcm HB hw1136_5), (hcm HB hw1136_6)⟩ (fun hHeld => ?_); refine with_tabW laws_heldEntryS.tab13 laws_heldEntryS.bits13 (fun HT_ HW_ => ?_)
        generalize w14.drew = w15 at HB HR1136_4 HR1136_5 HR1136_6 hx1136_0 hx1136_1 hx1136_2 hx1136_3 hx1136_4 hx1136_5 hx1136_6 hHeld ⊢
        refine pa HT_ 0 40 (zb 8 1) ?_; refine pa HT_ 1 41 (zb 8 3) ?_; refine pa HT_ 2 42 (zb 8 7) ?_; refine pa HT_ 3 43 (zb 8 15) ?_; refine pa HT_ 5 45 (zb 8 47) ?_
        refine take_ (i := 4) (N := some 44) (v := ?_) (a' := ?_) (zb 8 63) rfl rfl (take_ofW HT_.out HW_.out (by kernel_rfl)) (fun _ _ _ h => h) (Or.inl ⟨by rfl, ?_⟩) hHeld ?_ ?_
        rotate_left; ·rintro w' ⟨s0, s1, s2, s3, s4, s5, s6⟩; go_simp; with_reducible rfl
        rotate_left; ·simp only [Act.put, zq0, zq1, zq2, i64_w, i32_w]; rfl
        refine one_ (i := 6) (N := some 46) (zb 8 127) rfl rfl (one_of HT_.out (by kernel_rfl)) (by decide) (fun K hK => ?_)
        refine gs Try.func64 #[.int .i64 (wrap64 ((wrap64 ((wrap64 (x1_1 + 1)) + 1)) + 1))] ?_
        with_reducible refine (laws_markText.calls k1 (wrap64 ((wrap64 ((wrap64 (x1_1 + 1)) + 1)) + 1)) t1137 _ A9.out).mono ?_
        rintro e w16 ⟨rfl, hb⟩
        refine ⟨_, rfl, ?_⟩
        have n0_ := zq9 (zq27 (by exact bl HB) hb)
        clear HB; have HB := n0_; clear n0_
        (try clear hb)
        (try clear hb2)
        (try clear hk)
        (try clear hi)
        refine hK.out _ _ ⟨(hcm HB hw1136_0), (hcm HB hw1136_1), (hcm HB hw1136_2), (hcm HB hw1136_3), (hcm HB hw1136_4), (hcm HB hw1136_5), (hcm HB hw1136_6)⟩ (fun hHeld => ?_)
        clear hK K
        refine norm_ (a' := ?_) ?_ ?_
        rotate_left; ·show Act.put _ (some 46) _ = _; simp only [Act.put, zq0, zq1, zq2, i64_w, i32_w]; rfl
        refine pa HT_ 7 47 (zb 8 255) ?_
        refine done_ (done_of HT_.out (by kernel_rfl)) ?_
        refine (Classical.em (((rd_T32 l0 x5_1).f3).toList = t1137.toList)).elim (fun c10 => ?p5) (fun c10 => ?n5)
        case' p5 =>
         rw [if_pos c10] at H
         have c10b0 : (((rd_T32 l0 x5_1).f3).toList == t1137.toList) = true := beq_iff_eq.mpr c10
         have c10b1 : (((rd_T32 l0 x5_1).f3).toList != t1137.toList) = false := bne_eq_false_iff_eq.mpr c10
         clear c10; replace H := Option.bind_eq_some_iff.mp H; obtain ⟨t1139, A110, H⟩ := H
         try dsimp only at H
         have A11 := zq9 A110; clear A110
         (try rw [c10b0]); (try rw [c10b1])
         have p1138 : 0 ≤ (x5_1 : Int) := of_decide_eq_true ‹_›
         have q1138 : x5_1 < (l0.length : Int) := of_decide_eq_true ‹_›
         obtain ⟨ad1138, A1138_4, c1138_4, A1138_5, c1138_5, A1138_6, c1138_6, e1138, hx1138_0, hx1138_1, hx1138_2, hx1138_3, hx1138_4, hx1138_5, hx1138_6, hl1138_4, hi1138_4, hl1138_5, hi1138_5, hl1138_6, hi1138_6⟩ := at_T32 HR0.out x5_1 p1138 q1138
         obtain rfl : ad1132 = ad1138 := (by injection e1138)
         have ea_ := Option.some.inj (hx1138_4.symm.trans hv1136_4); injection ea_ with ea_ en_ ec_; subst ea_; subst ec_; clear en_
         have ea_ := Option.some.inj (hx1138_5.symm.trans hv1136_5); injection ea_ with ea_ en_ ec_; subst ea_; subst ec_; clear en_
         have ea_ := Option.some.inj (hx1138_6.symm.trans hv1136_6); injection ea_ with ea_ en_ ec_; subst ea_; subst ec_; clear en_
         have hv1138_4 := hx1138_4; have hv1138_5 := hx1138_5; have hv1138_6 := hx1138_6; replace hx1138_0 := hcl HB hx1138_0; replace hx1138_1 := hcl HB hx1138_1; replace hx1138_2 := hcl HB hx1138_2; replace hx1138_3 := hcl HB hx1138_3; replace hx1138_4 := hcl HB hx1138_4; replace hx1138_5 := hcl HB hx1138_5; replace hx1138_6 := hcl HB hx1138_6; have HR1138_4 := zq9 hi1138_4; have HC1138_4 := zq9 hl1138_4
         clear hi1138_4 hl1138_4; have HR1138_5 := zq9 hi1138_5; have HC1138_5 := zq9 hl1138_5; clear hi1138_5 hl1138_5; have HR1138_6 := zq9 hi1138_6; have HC1138_6 := zq9 hl1138_6; clear hi1138_6 hl1138_6; replace p1138 := eq_true p1138; replace q1138 := eq_true q1138
         refine (Classical.em (t1139 < 0)).elim (fun c12 => ?p6) (fun c12 => ?n6)
         case' p6 =>
          rw [if_pos c12] at H; have c12b0 : decide (t1139 < 0) = true := decide_eq_true c12; clear c12; obtain rfl := Option.some.inj H
          (try rw [c12b0])
         case' n6 =>
          rw [if_neg c12] at H; have c12b0 : decide (t1139 < 0) = false := decide_eq_false c12; clear c12; replace H := Option.bind_eq_some_iff.mp H; obtain ⟨t1141, A180, H⟩ := H
          try dsimp only at H
          have A18 := zq9 A180; clear A180
          (try rw [c12b0])
          refine (Classical.em (t1141 < 0)).elim (fun c19 => ?p7) (fun c19 => ?n7)
          case' p7 =>
           rw [if_pos c19] at H; have c19b0 : decide (t1141 < 0) = true := decide_eq_true c19; clear c19; obtain rfl := Option.some.inj H
           (try rw [c19b0])
          case' n7 =>
           rw [if_neg c19] at H; have c19b0 : decide (t1141 < 0) = false := decide_eq_false c19; clear c19; replace H := Option.bind_eq_some_iff.mp H; obtain ⟨t1143, A260, H⟩ := H
           try dsimp only at H
           have A26 := zq9 A260; clear A260
           (try rw [c19b0])
           refine (Classical.em (t1143 < 0)).elim (fun c27 => ?p8) (fun c27 => ?n8)
           case' p8 =>
            rw [if_pos c27] at H; have c27b0 : decide (t1143 < 0) = true := decide_eq_true c27; clear c27; obtain rfl := Option.some.inj H
            (try rw [c27b0])
           case n8 =>
            rw [if_neg c27] at H; have c27b0 : decide (t1143 < 0) = false := decide_eq_false c27; clear c27; have H' := zq9 H; clear H
            (try rw [c27b0])
            try go_wp2_with (first | ((with_reducible refine zq24 (f := 26) rfl ?_); refine gl (some 56) Try.func26 #[.slice A1138_4 ((rd_T32 l0 x5_1).f4).length c1138_4, .int .i64 (wrap64 ((wrap64 ((wrap64 ((wrap64 (x1_1 + 1)) + 1)) + 1)) + 1))] ?_; (with_reducible refine (laws_heldStringS.calls k1 _ _ ((rd_T32 l0 x5_1).f4) (wrap64 ((wrap64 ((wrap64 ((wrap64 (x1_1 + 1)) + 1)) + 1)) + 1)) t1139 _ ?side1 ?side2 A11.out).mono ?_); (case side1 => exact kc HR1138_4 HB); (case side2 => exact HC1138_4.out); rintro e w17 ⟨rfl, hb⟩; refine ⟨_, rfl, ?_⟩; have n0_ := zq9 (zq27 (by exact bl HB) hb); clear HB; have HB := n0_; clear n0_; (try clear hb); (try clear hb2); (try clear hk); (try clear hi); have p1140 : 0 ≤ (x5_1 : Int) := of_decide_eq_true ‹_›; have q1140 : x5_1 < (l0.length : Int) := of_decide_eq_true ‹_›; obtain ⟨ad1140, A1140_4, c1140_4, A1140_5, c1140_5, A1140_6, c1140_6, e1140, hx1140_0, hx1140_1, hx1140_2, hx1140_3, hx1140_4, hx1140_5, hx1140_6, hl1140_4, hi1140_4, hl1140_5, hi1140_5, hl1140_6, hi1140_6⟩ := at_T32 HR0.out x5_1 p1140 q1140; obtain rfl : ad1132 = ad1140 := (by injection e1140); replace hx1140_0 := hcl HB hx1140_0; replace hx1140_1 := hcl HB hx1140_1; replace hx1140_2 := hcl HB hx1140_2; replace hx1140_3 := hcl HB hx1140_3; replace hx1140_4 := hcl HB hx1140_4; replace hx1140_5 := hcl HB hx1140_5; replace hx1140_6 := hcl HB hx1140_6; have HR1140_4 := zq9 hi1140_4; have HC1140_4 := zq9 hl1140_4; clear hi1140_4 hl1140_4; have HR1140_5 := zq9 hi1140_5; have HC1140_5 := zq9 hl1140_5; clear hi1140_5 hl1140_5; have HR1140_6 := zq9 hi1140_6; have HC1140_6 := zq9 hl1140_6; clear hi1140_6 hl1140_6; replace p1140 := eq_true p1140; replace q1140 := eq_true q1140) | ((with_reducible refine zq24 (f := 71) rfl ?_); refine gl (some 65) Try.func71 #[.slice A1140_5 ((rd_T32 l0 x5_1).f5).length c1140_5, .int .i64 t1139] ?_; (with_reducible refine (laws_heldScoreS.calls k1 _ _ ((rd_T32 l0 x5_1).f5) t1139 t1141 _ ?side1 ?side2 A18.out).mono ?_); (case side1 => exact kc HR1140_5 HB); (case side2 => exact HC1140_5.out); rintro e w25 ⟨rfl, hb⟩; refine ⟨_, rfl, ?_⟩; have n0_ := zq9 (zq27 (by exact bl HB) hb); clear HB; have HB := n0_; clear n0_; (try clear hb); (try clear hb2); (try clear hk); (try clear hi); have p1142 : 0 ≤ (x5_1 : Int) := of_decide_eq_true ‹_›; have q1142 : x5_1 < (l0.length : Int) := of_decide_eq_true ‹_›; obtain ⟨ad1142, A1142_4, c1142_4, A1142_5, c1142_5, A1142_6, c1142_6, e1142, hx1142_0, hx1142_1, hx1142_2, hx1142_3, hx1142_4, hx1142_5, hx1142_6, hl1142_4, hi1142_4, hl1142_5, hi1142_5, hl1142_6, hi1142_6⟩ := at_T32 HR0.out x5_1 p1142 q1142; obtain rfl : ad1132 = ad1142 := (by injection e1142); replace hx1142_0 := hcl HB hx1142_0; replace hx1142_1 := hcl HB hx1142_1; replace hx1142_2 := hcl HB hx1142_2; replace hx1142_3 := hcl HB hx1142_3; replace hx1142_4 := hcl HB hx1142_4; replace hx1142_5 := hcl HB hx1142_5; replace hx1142_6 := hcl HB hx1142_6; have HR1142_4 := zq9 hi1142_4; have HC1142_4 := zq9 hl1142_4; clear hi1142_4 hl1142_4; have HR1142_5 := zq9 hi1142_5; have HC1142_5 := zq9 hl1142_5; clear hi1142_5 hl1142_5; have HR1142_6 := zq9 hi1142_6; have HC1142_6 := zq9 hl1142_6; clear hi1142_6 hl1142_6; replace p1142 := eq_true p1142; replace q1142 := eq_true q1142) | ((with_reducible refine zq24 (f := 72) rfl ?_); refine gl (some 74) Try.func72 #[.slice A1142_6 ((rd_T32 l0 x5_1).f6).length c1142_6, .int .i64 t1141] ?_; (with_reducible refine (laws_heldPairS.calls k1 _ _ ((rd_T32 l0 x5_1).f6) t1141 t1143 _ ?side1 ?side2 A26.out).mono ?_); (case side1 => exact kc HR1142_6 HB); (case side2 => exact HC1142_6.out); rintro e w34 ⟨rfl, hb⟩; refine ⟨_, rfl, ?_⟩; have n0_ := zq9 (zq27 (by exact bl HB) hb); clear HB; have HB := n0_; clear n0_; (try clear hb); (try clear hb2); (try clear hk); (try clear hi)))
            go_roundg k1
            case measure => have := HK1.out; omega
            case rel => exact ⟨(t1143), (wrap64 (x5_1 + 1)), (by first | rfl | (simp; done) | (simp [*]; done)), (by first | rfl | (simp; done) | (simp [*]; done)), H', ⟨by have := HK1.out; omega⟩, ⟨by exact bl HB⟩⟩
        case n5 =>
         rw [if_neg c10] at H
         have c10b0 : (((rd_T32 l0 x5_1).f3).toList == t1137.toList) = false := beq_eq_false_iff_ne.mpr c10
         have c10b1 : (((rd_T32 l0 x5_1).f3).toList != t1137.toList) = true := bne_iff_ne.mpr c10
         obtain rfl := Option.some.inj H
         (try rw [c10b0]); (try rw [c10b1])
         try go_wp2
         go_ret
         exact fz (by exact bl HB)
       case n4 =>
        rw [if_neg c8] at H
        have c8b0 : (((rd_T32 l0 x5_1).f2) == (wrap64 ((wrap64 (x1_1 + 1)) + 1))) = false := beq_eq_false_iff_ne.mpr c8
        have c8b1 : (((rd_T32 l0 x5_1).f2) != (wrap64 ((wrap64 (x1_1 + 1)) + 1))) = true := bne_iff_ne.mpr c8
        obtain rfl := Option.some.inj H
        (try rw [c8b0]); (try rw [c8b1])
        try go_wp2
        go_ret
        exact fz (by exact bl HB)
      case n3 =>
       rw [if_neg c7] at H
       have c7b0 : (((rd_T32 l0 x5_1).f1) == (wrap64 (x1_1 + 1))) = false := beq_eq_false_iff_ne.mpr c7
       have c7b1 : (((rd_T32 l0 x5_1).f1) != (wrap64 (x1_1 + 1))) = true := bne_iff_ne.mpr c7
       obtain rfl := Option.some.inj H
       (try rw [c7b0]); (try rw [c7b1])
       try go_wp2
       go_ret
       exact fz (by exact bl HB)
     case n2 =>
      rw [if_neg c6] at H
      have c6b0 : (((rd_T32 l0 x5_1).f0).toList == t1133.toList) = false := beq_eq_false_iff_ne.mpr c6
      have c6b1 : (((rd_T32 l0 x5_1).f0).toList != t1133.toList) = true := bne_iff_ne.mpr c6
      obtain rfl := Option.some.inj H
      (try rw [c6b0]); (try rw [c6b1])
      try go_wp2
      go_ret
      exact fz (by exact bl HB)
    case n1 =>
     rw [if_neg c4] at H
     exact absurd H (by simp)
   case n0 =>
    rw [if_neg c3] at H; have c3b0 : decide (x5_1 < (l0.length : Int)) = false := decide_eq_false c3; clear c3; obtain rfl := Option.some.inj H
    go_wp2
    go_ret
    exact fz (by exact bl HB)
   case p6 | p7 | n7 =>
    try go_wp2_with (first | ((with_reducible refine zq24 (f := 26) rfl ?_); refine gl (some 56) Try.func26 #[.slice A1138_4 ((rd_T32 l0 x5_1).f4).length c1138_4, .int .i64 (wrap64 ((wrap64 ((wrap64 ((wrap64 (x1_1 + 1)) + 1)) + 1)) + 1))] ?_; (with_reducible refine (laws_heldStringS.calls k1 _ _ ((rd_T32 l0 x5_1).f4) (wrap64 ((wrap64 ((wrap64 ((wrap64 (x1_1 + 1)) + 1)) + 1)) + 1)) t1139 _ ?side1 ?side2 A11.out).mono ?_); (case side1 => exact kc HR1138_4 HB); (case side2 => exact HC1138_4.out); rintro e w17 ⟨rfl, hb⟩; refine ⟨_, rfl, ?_⟩; have n0_ := zq9 (zq27 (by exact bl HB) hb); clear HB; have HB := n0_; clear n0_; (try clear hb); (try clear hb2); (try clear hk); (try clear hi); have p1140 : 0 ≤ (x5_1 : Int) := of_decide_eq_true ‹_›; have q1140 : x5_1 < (l0.length : Int) := of_decide_eq_true ‹_›; obtain ⟨ad1140, A1140_4, c1140_4, A1140_5, c1140_5, A1140_6, c1140_6, e1140, hx1140_0, hx1140_1, hx1140_2, hx1140_3, hx1140_4, hx1140_5, hx1140_6, hl1140_4, hi1140_4, hl1140_5, hi1140_5, hl1140_6, hi1140_6⟩ := at_T32 HR0.out x5_1 p1140 q1140; obtain rfl : ad1132 = ad1140 := (by injection e1140); replace hx1140_0 := hcl HB hx1140_0; replace hx1140_1 := hcl HB hx1140_1; replace hx1140_2 := hcl HB hx1140_2; replace hx1140_3 := hcl HB hx1140_3; replace hx1140_4 := hcl HB hx1140_4; replace hx1140_5 := hcl HB hx1140_5; replace hx1140_6 := hcl HB hx1140_6; have HR1140_4 := zq9 hi1140_4; have HC1140_4 := zq9 hl1140_4; clear hi1140_4 hl1140_4; have HR1140_5 := zq9 hi1140_5; have HC1140_5 := zq9 hl1140_5; clear hi1140_5 hl1140_5; have HR1140_6 := zq9 hi1140_6; have HC1140_6 := zq9 hl1140_6; clear hi1140_6 hl1140_6; replace p1140 := eq_true p1140; replace q1140 := eq_true q1140) | ((with_reducible refine zq24 (f := 71) rfl ?_); refine gl (some 65) Try.func71 #[.slice A1140_5 ((rd_T32 l0 x5_1).f5).length c1140_5, .int .i64 t1139] ?_; (with_reducible refine (laws_heldScoreS.calls k1 _ _ ((rd_T32 l0 x5_1).f5) t1139 t1141 _ ?side1 ?side2 A18.out).mono ?_); (case side1 => exact kc HR1140_5 HB); (case side2 => exact HC1140_5.out); rintro e w25 ⟨rfl, hb⟩; refine ⟨_, rfl, ?_⟩; have n0_ := zq9 (zq27 (by exact bl HB) hb); clear HB; have HB := n0_; clear n0_; (try clear hb); (try clear hb2); (try clear hk); (try clear hi); have p1142 : 0 ≤ (x5_1 : Int) := of_decide_eq_true ‹_›; have q1142 : x5_1 < (l0.length : Int) := of_decide_eq_true ‹_›; obtain ⟨ad1142, A1142_4, c1142_4, A1142_5, c1142_5, A1142_6, c1142_6, e1142, hx1142_0, hx1142_1, hx1142_2, hx1142_3, hx1142_4, hx1142_5, hx1142_6, hl1142_4, hi1142_4, hl1142_5, hi1142_5, hl1142_6, hi1142_6⟩ := at_T32 HR0.out x5_1 p1142 q1142; obtain rfl : ad1132 = ad1142 := (by injection e1142); replace hx1142_0 := hcl HB hx1142_0; replace hx1142_1 := hcl HB hx1142_1; replace hx1142_2 := hcl HB hx1142_2; replace hx1142_3 := hcl HB hx1142_3; replace hx1142_4 := hcl HB hx1142_4; replace hx1142_5 := hcl HB hx1142_5; replace hx1142_6 := hcl HB hx1142_6; have HR1142_4 := zq9 hi1142_4; have HC1142_4 := zq9 hl1142_4; clear hi1142_4 hl1142_4; have HR1142_5 := zq9 hi1142_5; have HC1142_5 := zq9 hl1142_5; clear hi1142_5 hl1142_5; have HR1142_6 := zq9 hi1142_6; have HC1142_6 := zq9 hl1142_6; clear hi1142_6 hl1142_6; replace p1142 := eq_true p1142; replace q1142 := eq_true q1142) | ((with_reducible refine zq24 (f := 72) rfl ?_); refine gl (some 74) Try.func72 #[.slice A1142_6 ((rd_T32 l0 x5_1).f6).length c1142_6, .int .i64 t1141] ?_; (with_reducible refine (laws_heldPairS.calls k1 _ _ ((rd_T32 l0 x5_1).f6) t1141 t1143 _ ?side1 ?side2 A26.out).mono ?_); (case side1 => exact kc HR1142_6 HB); (case side2 => exact HC1142_6.out); rintro e w34 ⟨rfl, hb⟩; refine ⟨_, rfl, ?_⟩; have n0_ := zq9 (zq27 (by exact bl HB) hb); clear HB; have HB := n0_; clear n0_; (try clear hb); (try clear hb2); (try clear hk); (try clear hi)))
    go_ret
    exact fz (by exact bl HB)
set_option maxHeartbeats 8000000 in
set_option maxRecDepth 100000 in
theorem laws_heldBase.calls (k : Nat) (a0_0 : Int) (A0_1 : Option Addr) (c0_1 : Nat) (l0_1 : List (S32)) (a1 : Int) (r : Int) (w : World) (hr0_1 : Kd.C k32 w A0_1 l0_1.length l0_1) (hc0_1 : l0_1.length ≤ c0_1) (h : laws_heldBase.f k a0_0 l0_1 a1 = some r) :
    Calls Try.prog 33 #[.agg #[.int .i64 a0_0, .slice A0_1 l0_1.length c0_1], .int .i64 a1] w fun e w' => e = .returned (.int .i64 r) ∧ Below w.heap.size w w' := by
  have hu46 := Try.underlying46; have HR0_1 := zq9 hr0_1; have HC0_1 := zq9 hc0_1; clear hr0_1 hc0_1
  have HB := zq9 (Below.refl w.heap.size w)
  have H : ((laws_heldEntryS.f k l0_1 a1).bind fun t1145 => (if t1145 < 0 then (some (-1)) else (some t1145))) = some r := h
  clear h; replace H := Option.bind_eq_some_iff.mp H; obtain ⟨t1145, A30, H⟩ := H
  try dsimp only at H
  have A3 := zq9 A30; clear A30
  go_enter Try.func33, Try.ntmps33
  refine (Classical.em (t1145 < 0)).elim (fun c4 => ?p0) (fun c4 => ?n0)
  case' p0 =>
    rw [if_pos c4] at H; have c4b0 : decide (t1145 < 0) = true := decide_eq_true c4; clear c4; obtain rfl := Option.some.inj H
  case' n0 =>
    rw [if_neg c4] at H; have c4b0 : decide (t1145 < 0) = false := decide_eq_false c4; clear c4; obtain rfl := Option.some.inj H
  case p0 | n0 =>
    try go_wp2_with (first | ((with_reducible refine zq25 (N := 2) rfl ?_); refine bx 2 #[.int .i64 a0_0, .slice A0_1 l0_1.length c0_1] 46 ?_; intro gb1144 hg w5 hbox hb; have n0_ := zq9 (zq27 (by exact bl HB) hb); have n1_ := zq9 (hbox); have n2_ := zq9 ((by rw [hg]; exact (zq29 (by exact bl HB)) : w.heap.size ≤ gb1144)); have n3_ := n2_; clear HB; have HB := n0_; have BK1144 := n1_; have GW1144 := n2_; have GE1144 := n3_; clear n0_ n1_ n2_ n3_; clear hb hbox hg; have hcz6_0 : w5.cell? ⟨gb1144, 0, none⟩ = some (.int .i64 a0_0) := bc BK1144 0; have hcz6_1 : w5.cell? ⟨gb1144, 1, none⟩ = some (.slice A0_1 l0_1.length c0_1) := bc BK1144 1; have hfz6_0 := zq6 BK1144.out 0; have hfz6_1 := zq6 BK1144.out 1) | ((with_reducible refine zq24 (f := 76) rfl ?_); refine gl (some 8) Try.func76 #[.slice A0_1 l0_1.length c0_1, .int .i64 a1] ?_; (with_reducible refine (laws_heldEntryS.calls k _ _ l0_1 a1 t1145 _ ?side1 ?side2 A3.out).mono ?_); (case side1 => exact kc HR0_1 HB); (case side2 => exact HC0_1.out); rintro e w7 ⟨rfl, hb⟩; refine ⟨_, rfl, ?_⟩; have n0_ := zq9 (zq30 (g := gb1144) (o := .cells #[.int .i64 a0_0, .slice A0_1 l0_1.length c0_1] 46 (0, 0)) (by exact bk BK1144) hb); have n1_ := zq9 (zq27 (by exact b1 HB GE1144) hb); clear BK1144; clear HB; have BK1144 := n0_; have HB := n1_; clear n0_ n1_; (try clear hb); (try clear hb2); (try clear hk); (try clear hi)))
    go_ret
    exact fz (by exact b1 HB GE1144)
set_option maxHeartbeats 8000000 in
set_option maxRecDepth 100000 in
theorem laws_FnExactBaseTick.calls_t (k : Nat) (a0_0 : Int) (A0_1 : Option Addr) (c0_1 : Nat) (l0_1 : List (S26)) (a1 : Int) (r : Bool) (w : World) (hr0_1 : Kd.C k26 w A0_1 l0_1.length l0_1) (hc0_1 : l0_1.length ≤ c0_1) (h : laws_FnExactBaseTick.f k a0_0 l0_1 a1 = some r) (hr_ : r = true) :
    Calls Try.prog 8 #[.agg #[.int .i64 a0_0, .slice A0_1 l0_1.length c0_1], .int .i64 a1] w fun e w' => e = .returned (.bool r) ∧ Below w.heap.size w w' := by
  subst hr_; have hu41 := Try.underlying41; have hu46 := Try.underlying46; have HR := zq9 hr0_1; have HC := zq9 hc0_1; clear hr0_1 hc0_1
  have HB := zq9 (Below.refl w.heap.size w)
  have HT := zq9 (Ok.start w)
  unfold laws_FnExactBaseTick.f at h
  obtain ⟨t0, H0, h⟩ := Option.bind_eq_some_iff.mp h
  replace H0 := zq9 H0
  have hdone : True := trivial
  by_cases c0 : t0 < 0
  · have c0b : decide (t0 < 0) = true := decide_eq_true c0
    clear h
    go_enter Try.func8, Try.ntmps8
    go_wp2_with (first
      | ((with_reducible refine zq25 (N := 2) rfl ?_); refine bx 2 #[.int .i64 a0_0, .slice A0_1 l0_1.length c0_1] 41 ?_; intro g2 hg w1 hbox hb; have n0_ := zq9 (HT.out.box hg hbox hb); have n1_ := zq9 (zq27 HB.out hb); clear HT HB hbox hg hb; have HT := n0_; have HB := n1_; clear n0_ n1_; have hc0_0 : w1.cell? ⟨g2, 0, none⟩ = some (.int .i64 a0_0) := HT.out.cell 0 0 rfl rfl; have hc0_1 : w1.cell? ⟨g2, 1, none⟩ = some (.slice A0_1 l0_1.length c0_1) := HT.out.cell 0 1 rfl rfl)
      | ((with_reducible refine zq24 (f := 16) rfl ?_); refine gl (some 15) Try.func16 #[.agg #[.int .i64 a0_0, .slice A0_1 l0_1.length c0_1], .int .i64 1048576] ?_; (with_reducible refine (laws_szBase.calls k a0_0 _ _ l0_1 1048576 t0 _ ?s1 ?s2 H0.out).mono ?_); (case s1 => exact (zq31 HR.out HB.out)); (case s2 => exact HC.out); rintro e w2 ⟨rfl, hb⟩; refine ⟨_, rfl, ?_⟩; have n0_ := zq9 (HT.out.below hb); have n1_ := zq9 (zq27 HB.out hb); clear hc0_0 hc0_1 HT HB hb; have HT := n0_; have HB := n1_; clear n0_ n1_; have hc0_0 : w2.cell? ⟨g2, 0, none⟩ = some (.int .i64 a0_0) := HT.out.cell 0 0 rfl rfl; have hc0_1 : w2.cell? ⟨g2, 1, none⟩ = some (.slice A0_1 l0_1.length c0_1) := HT.out.cell 0 1 rfl rfl))
    go_ret
    exact ⟨rfl, HB.out⟩
  rw [if_neg c0] at h
  have c0b : decide (t0 < 0) = false := decide_eq_false c0
  clear c0
  obtain ⟨⟨b1, b2⟩, H1, h⟩ := Option.bind_eq_some_iff.mp h
  replace H1 := zq9 H1
  obtain ⟨⟨v1, v2⟩, H2, h⟩ := Option.bind_eq_some_iff.mp h
  replace H2 := zq9 H2
  obtain ⟨⟨x1, x2⟩, H3, h⟩ := Option.bind_eq_some_iff.mp h
  replace H3 := zq9 H3
  obtain ⟨⟨g1, g2⟩, H4, h⟩ := Option.bind_eq_some_iff.mp h
  replace H4 := zq9 H4
  obtain ⟨e1, H5, h⟩ := Option.bind_eq_some_iff.mp h
  replace H5 := zq9 H5
  obtain ⟨rfl, h⟩ := ift h
  obtain ⟨⟨y1, y2⟩, H6, h⟩ := Option.bind_eq_some_iff.mp h
  replace H6 := zq9 H6
  obtain ⟨e2, H7, h⟩ := Option.bind_eq_some_iff.mp h
  replace H7 := zq9 H7
  obtain ⟨rfl, h⟩ := ift h
  obtain ⟨⟨m1, m2⟩, H8, h⟩ := Option.bind_eq_some_iff.mp h
  replace H8 := zq9 H8
  obtain ⟨cm, h⟩ := iff_ h
  have cmb : decide (m1 < 0) = false := decide_eq_false cm
  clear cm
  obtain ⟨e3, H9, h⟩ := Option.bind_eq_some_iff.mp h
  replace H9 := zq9 H9
  obtain ⟨rfl, h⟩ := ift h
  obtain ⟨⟨n1, n2⟩, H10, h⟩ := Option.bind_eq_some_iff.mp h
  replace H10 := zq9 H10
  obtain ⟨q, H11, h⟩ := Option.bind_eq_some_iff.mp h
  replace H11 := zq9 H11
  obtain ⟨cq, h⟩ := iff_ h
  have cqb : decide (q < 0) = false := decide_eq_false cq
  clear cq
  obtain ⟨cn, h⟩ := ift h
  dsimp only at cn
  subst cn
  obtain ⟨⟨z1, z2⟩, H12, h⟩ := Option.bind_eq_some_iff.mp h
  replace H12 := zq9 H12
  obtain ⟨⟨h1, h2⟩, H13, h⟩ := Option.bind_eq_some_iff.mp h
  replace H13 := zq9 H13
  obtain ⟨e4, H14, h⟩ := Option.bind_eq_some_iff.mp h
  replace H14 := zq9 H14
  obtain ⟨rfl, h⟩ := ift h
  obtain ⟨q2, H15, h⟩ := Option.bind_eq_some_iff.mp h
  replace H15 := zq9 H15
  obtain ⟨cq, h⟩ := iff_ h
  obtain ⟨cn, h⟩ := ift h
  dsimp only at cn
  subst cn; clear h hdone cq
  dsimp only at H1 H2 H3 H4 H5 H6 H7 H8 H9 H10 H11 H12 H13 H14 H15
  go_enter Try.func8, Try.ntmps8
  go_wp2_with (first
    | ((with_reducible refine zq25 (N := 2) rfl ?_); refine bx 2 #[.int .i64 a0_0, .slice A0_1 l0_1.length c0_1] 41 ?_; intro p2 hg w1 hbox hb; have n0_ := zq9 (HT.out.box hg hbox hb); have n1_ := zq9 (zq27 HB.out hb); clear HT HB hbox hg hb; have HT := n0_; have HB := n1_; clear n0_ n1_; have hc0_0 : w1.cell? ⟨p2, 0, none⟩ = some (.int .i64 a0_0) := HT.out.cell 0 0 rfl rfl; have hc0_1 : w1.cell? ⟨p2, 1, none⟩ = some (.slice A0_1 l0_1.length c0_1) := HT.out.cell 0 1 rfl rfl)
    | ((with_reducible refine zq24 (f := 16) rfl ?_); refine gl (some 15) Try.func16 #[.agg #[.int .i64 a0_0, .slice A0_1 l0_1.length c0_1], .int .i64 1048576] ?_; (with_reducible refine (laws_szBase.calls k a0_0 _ _ l0_1 1048576 t0 _ ?s1 ?s2 H0.out).mono ?_); (case s1 => exact (zq31 HR.out HB.out)); (case s2 => exact HC.out); rintro e w2 ⟨rfl, hb⟩; refine ⟨_, rfl, ?_⟩; have n0_ := zq9 (HT.out.below hb); have n1_ := zq9 (zq27 HB.out hb); clear hc0_0 hc0_1 HT HB hb; have HT := n0_; have HB := n1_; clear n0_ n1_; have hc0_0 : w2.cell? ⟨p2, 0, none⟩ = some (.int .i64 a0_0) := HT.out.cell 0 0 rfl rfl; have hc0_1 : w2.cell? ⟨p2, 1, none⟩ = some (.slice A0_1 l0_1.length c0_1) := HT.out.cell 0 1 rfl rfl)
    | ((with_reducible refine zq24 (f := 18) rfl ?_); refine gl (some 19) Try.func18 #[.agg #[.int .i64 a0_0, .slice A0_1 l0_1.length c0_1]] ?_; (with_reducible refine (laws_toBase.calls k a0_0 _ _ l0_1 b1 b2 _ ?s1 ?s2 H1.out).mono ?_); (case s1 => exact (zq31 HR.out HB.out)); (case s2 => exact HC.out); rintro e w3 ⟨v0, rfl, ho, hb⟩; refine ⟨_, rfl, ?_⟩; obtain ⟨Ab, cb, rfl⟩ := Kd.S_slice ho; have n0_ := zq9 (HT.out.row HB.out.size ho hb); have n1_ := zq9 (zq27 HB.out hb); clear hc0_0 hc0_1 HT HB ho hb; have HT := n0_; have HB := n1_; clear n0_ n1_)
    | ((with_reducible refine zq24 (f := 31) rfl ?_); refine gl (some 21) Try.func31 #[.agg #[.int .i64 b1, .slice Ab b2.length cb], .int .i64 a1] ?_; (with_reducible refine (spec_BaseTick.calls k b1 _ _ b2 a1 v1 v2 _ ?s1 ?s2 H2.out).mono ?_); (case s1 => exact HT.out.sC 1 rfl); (case s2 => exact HT.out.sle 1 rfl); rintro e w4 ⟨v0, rfl, ho, hb⟩; refine ⟨_, rfl, ?_⟩; obtain ⟨Av, cv, rfl⟩ := Kd.S_slice ho; have n0_ := zq9 (HT.out.row HB.out.size ho hb); have n1_ := zq9 (zq27 HB.out hb); clear HT HB ho hb; have HT := n0_; have HB := n1_; clear n0_ n1_)
    | ((with_reducible refine zq25 (N := 6) rfl ?_); refine bx 6 #[.int .i64 0, .slice none 0 0] 46 ?_; intro p6 hg w5 hbox hb; have n0_ := zq9 (HT.out.box hg hbox hb); have n1_ := zq9 (zq27 HB.out hb); clear HT HB hbox hg hb; have HT := n0_; have HB := n1_; clear n0_ n1_; have hc3_0 : w5.cell? ⟨p6, 0, none⟩ = some (.int .i64 0) := HT.out.cell 3 0 rfl rfl; have hf3_0 : w5.frozen? ⟨p6, 0, none⟩ = false := HT.out.frozen 3 0 rfl; have hc3_1 : w5.cell? ⟨p6, 1, none⟩ = some (.slice none 0 0) := HT.out.cell 3 1 rfl rfl; have hf3_1 : w5.frozen? ⟨p6, 1, none⟩ = false := HT.out.frozen 3 1 rfl)
    | ((with_reducible refine zq26 (t := 46) (p := 6) rfl ?_); refine store_event (t := 46) (p := 6) (v := ?vo4_) (w1 := ((w5.setCell ⟨p6, 0, none⟩ (.int .i64 v1)).setCell ⟨p6, 1, none⟩ (.slice Av v2.length cv))) ?hg ?ho ?hn ?hr ?_; (case ho => rfl); (case hg => rfl); (case hn => rfl); (case hr => first | (go_simp; done) | (go_simp; rfl)); intro w6 hw; have n0_ : Aside0 (Ok w6 w.heap.size [boxE p2 #[.int .i64 a0_0, .slice A0_1 l0_1.length c0_1] 41, rowE k32 32 w.heap.size (.slice Ab b2.length cb) b2 w2.heap.size w3.heap.size, rowE k32 32 w.heap.size (.slice Av v2.length cv) v2 w3.heap.size w4.heap.size, boxE p6 #[.int .i64 v1, .slice Av v2.length cv] 46]) := ⟨by rw [hw]; exact ((HT.out.store 3 rfl 0 (.int .i64 v1)).store 3 rfl 1 (.slice Av v2.length cv))⟩; have n1_ : Aside0 (Below w.heap.size w w6) := ⟨by rw [hw]; exact (zq28 (zq28 HB.out (HT.out.ge 3 rfl)) (HT.out.ge 3 rfl))⟩; clear hc3_0 hf3_0 hc3_1 hf3_1 HT HB hw; have HT := n0_; have HB := n1_; clear n0_ n1_; have hc0_0 : w6.cell? ⟨p2, 0, none⟩ = some (.int .i64 a0_0) := HT.out.cell 0 0 rfl rfl; have hc0_1 : w6.cell? ⟨p2, 1, none⟩ = some (.slice A0_1 l0_1.length c0_1) := HT.out.cell 0 1 rfl rfl)
    | ((with_reducible refine zq24 (f := 18) rfl ?_); refine gl (some 23) Try.func18 #[.agg #[.int .i64 a0_0, .slice A0_1 l0_1.length c0_1]] ?_; (with_reducible refine (laws_toBase.calls k a0_0 _ _ l0_1 x1 x2 _ ?s1 ?s2 H3.out).mono ?_); (case s1 => exact (zq31 HR.out HB.out)); (case s2 => exact HC.out); rintro e w7 ⟨v0, rfl, ho, hb⟩; refine ⟨_, rfl, ?_⟩; obtain ⟨Ax, cx, rfl⟩ := Kd.S_slice ho; have n0_ := zq9 (HT.out.row HB.out.size ho hb); have n1_ := zq9 (zq27 HB.out hb); clear hc0_0 hc0_1 HT HB ho hb; have HT := n0_; have HB := n1_; clear n0_ n1_)
    | ((with_reducible refine zq25 (N := 7) rfl ?_); refine bx 7 #[.int .i64 0, .slice none 0 0] 46 ?_; intro p7 hg w8 hbox hb; have n0_ := zq9 (HT.out.box hg hbox hb); have n1_ := zq9 (zq27 HB.out hb); clear HT HB hbox hg hb; have HT := n0_; have HB := n1_; clear n0_ n1_; have hc5_0 : w8.cell? ⟨p7, 0, none⟩ = some (.int .i64 0) := HT.out.cell 5 0 rfl rfl; have hf5_0 : w8.frozen? ⟨p7, 0, none⟩ = false := HT.out.frozen 5 0 rfl; have hc5_1 : w8.cell? ⟨p7, 1, none⟩ = some (.slice none 0 0) := HT.out.cell 5 1 rfl rfl; have hf5_1 : w8.frozen? ⟨p7, 1, none⟩ = false := HT.out.frozen 5 1 rfl)
    | ((with_reducible refine zq26 (t := 46) (p := 7) rfl ?_); refine store_event (t := 46) (p := 7) (v := ?vo5_) (w1 := ((w8.setCell ⟨p7, 0, none⟩ (.int .i64 x1)).setCell ⟨p7, 1, none⟩ (.slice Ax x2.length cx))) ?hg ?ho ?hn ?hr ?_; (case ho => rfl); (case hg => rfl); (case hn => rfl); (case hr => first | (go_simp; done) | (go_simp; rfl)); intro w9 hw; have n0_ : Aside0 (Ok w9 w.heap.size [boxE p2 #[.int .i64 a0_0, .slice A0_1 l0_1.length c0_1] 41, rowE k32 32 w.heap.size (.slice Ab b2.length cb) b2 w2.heap.size w3.heap.size, rowE k32 32 w.heap.size (.slice Av v2.length cv) v2 w3.heap.size w4.heap.size, boxE p6 #[.int .i64 v1, .slice Av v2.length cv] 46, rowE k32 32 w.heap.size (.slice Ax x2.length cx) x2 w6.heap.size w7.heap.size, boxE p7 #[.int .i64 x1, .slice Ax x2.length cx] 46]) := ⟨by rw [hw]; exact ((HT.out.store 5 rfl 0 (.int .i64 x1)).store 5 rfl 1 (.slice Ax x2.length cx))⟩; have n1_ : Aside0 (Below w.heap.size w w9) := ⟨by rw [hw]; exact (zq28 (zq28 HB.out (HT.out.ge 5 rfl)) (HT.out.ge 5 rfl))⟩; clear hc5_0 hf5_0 hc5_1 hf5_1 HT HB hw; have HT := n0_; have HB := n1_; clear n0_ n1_; have hc5_0 : w9.cell? ⟨p7, 0, none⟩ = some (.int .i64 x1) := HT.out.cell 5 0 rfl rfl; have hc5_1 : w9.cell? ⟨p7, 1, none⟩ = some (.slice Ax x2.length cx) := HT.out.cell 5 1 rfl rfl)
    | ((with_reducible refine zq24 (f := 32) rfl ?_); refine gl (some 26) Try.func32 #[.agg #[.int .i64 x1, .slice Ax x2.length cx], .int .i64 a1] ?_; (with_reducible refine (impl_BaseTick.calls k x1 _ _ x2 a1 g1 g2 _ ?s1 ?s2 H4.out).mono ?_); (case s1 => exact HT.out.sC 4 rfl); (case s2 => exact HT.out.sle 4 rfl); rintro e w10 ⟨v0, rfl, ho, hb⟩; refine ⟨_, rfl, ?_⟩; obtain ⟨Ag, cg, rfl⟩ := Kd.S_slice ho; have n0_ := zq9 (HT.out.row HB.out.size ho hb); have n1_ := zq9 (zq27 HB.out hb); clear hc5_0 hc5_1 HT HB ho hb; have HT := n0_; have HB := n1_; clear n0_ n1_)
    | ((with_reducible refine zq25 (N := 8) rfl ?_); refine bx 8 #[.int .i64 0, .slice none 0 0] 46 ?_; intro p8 hg w11 hbox hb; have n0_ := zq9 (HT.out.box hg hbox hb); have n1_ := zq9 (zq27 HB.out hb); clear HT HB hbox hg hb; have HT := n0_; have HB := n1_; clear n0_ n1_; have hc7_0 : w11.cell? ⟨p8, 0, none⟩ = some (.int .i64 0) := HT.out.cell 7 0 rfl rfl; have hf7_0 : w11.frozen? ⟨p8, 0, none⟩ = false := HT.out.frozen 7 0 rfl; have hc7_1 : w11.cell? ⟨p8, 1, none⟩ = some (.slice none 0 0) := HT.out.cell 7 1 rfl rfl; have hf7_1 : w11.frozen? ⟨p8, 1, none⟩ = false := HT.out.frozen 7 1 rfl)
    | ((with_reducible refine zq26 (t := 46) (p := 8) rfl ?_); refine store_event (t := 46) (p := 8) (v := ?vo6_) (w1 := ((w11.setCell ⟨p8, 0, none⟩ (.int .i64 g1)).setCell ⟨p8, 1, none⟩ (.slice Ag g2.length cg))) ?hg ?ho ?hn ?hr ?_; (case ho => rfl); (case hg => rfl); (case hn => rfl); (case hr => first | (go_simp; done) | (go_simp; rfl)); intro w12 hw; have n0_ : Aside0 (Ok w12 w.heap.size [boxE p2 #[.int .i64 a0_0, .slice A0_1 l0_1.length c0_1] 41, rowE k32 32 w.heap.size (.slice Ab b2.length cb) b2 w2.heap.size w3.heap.size, rowE k32 32 w.heap.size (.slice Av v2.length cv) v2 w3.heap.size w4.heap.size, boxE p6 #[.int .i64 v1, .slice Av v2.length cv] 46, rowE k32 32 w.heap.size (.slice Ax x2.length cx) x2 w6.heap.size w7.heap.size, boxE p7 #[.int .i64 x1, .slice Ax x2.length cx] 46, rowE k32 32 w.heap.size (.slice Ag g2.length cg) g2 w9.heap.size w10.heap.size, boxE p8 #[.int .i64 g1, .slice Ag g2.length cg] 46]) := ⟨by rw [hw]; exact ((HT.out.store 7 rfl 0 (.int .i64 g1)).store 7 rfl 1 (.slice Ag g2.length cg))⟩; have n1_ : Aside0 (Below w.heap.size w w12) := ⟨by rw [hw]; exact (zq28 (zq28 HB.out (HT.out.ge 7 rfl)) (HT.out.ge 7 rfl))⟩; clear hc7_0 hf7_0 hc7_1 hf7_1 HT HB hw; have HT := n0_; have HB := n1_; clear n0_ n1_; have hc7_0 : w12.cell? ⟨p8, 0, none⟩ = some (.int .i64 g1) := HT.out.cell 7 0 rfl rfl; have hc7_1 : w12.cell? ⟨p8, 1, none⟩ = some (.slice Ag g2.length cg) := HT.out.cell 7 1 rfl rfl; have hc3_0 : w12.cell? ⟨p6, 0, none⟩ = some (.int .i64 v1) := HT.out.cell 3 0 rfl rfl; have hc3_1 : w12.cell? ⟨p6, 1, none⟩ = some (.slice Av v2.length cv) := HT.out.cell 3 1 rfl rfl)
    | ((with_reducible refine zq24 (f := 20) rfl ?_); refine gl (some 29) Try.func20 #[.agg #[.int .i64 g1, .slice Ag g2.length cg], .agg #[.int .i64 v1, .slice Av v2.length cv]] ?_; (with_reducible refine (laws_eqBase.calls k g1 _ _ g2 v1 _ _ v2 true _ ?s1 ?s2 ?s3 ?s4 H5.out).mono ?_); (case s1 => exact HT.out.sC 6 rfl); (case s2 => exact HT.out.sle 6 rfl); (case s3 => exact HT.out.sC 2 rfl); (case s4 => exact HT.out.sle 2 rfl); rintro e w13 ⟨rfl, hb⟩; refine ⟨_, rfl, ?_⟩; have n0_ := zq9 (HT.out.below hb); have n1_ := zq9 (zq27 HB.out hb); clear hc7_0 hc7_1 hc3_0 hc3_1 HT HB hb; have HT := n0_; have HB := n1_; clear n0_ n1_))
  have n0_ := zq9 (HT.out.below (below_drew (Below.refl _ _)))
  have n1_ := zq9 (below_drew HB.out)
  clear HT HB; have HT := n0_; have HB := n1_; clear n0_ n1_
  refine start_ (n := 5) (S := fun w' => w'.cell? ⟨p7, 0, none⟩ = some (.int .i64 x1) ∧ w'.cell? ⟨p7, 1, none⟩ = some (.slice Ax x2.length cx) ∧ w'.cell? ⟨p2, 0, none⟩ = some (.int .i64 a0_0) ∧ w'.cell? ⟨p2, 1, none⟩ = some (.slice A0_1 l0_1.length c0_1)) (ds := []) #[false, false, false, false, false] (by kernel_rfl) rfl rfl ⟨HT.out.cell 5 0 rfl rfl, HT.out.cell 5 1 rfl rfl, HT.out.cell 0 0 rfl rfl, HT.out.cell 0 1 rfl rfl⟩ (fun hHeld => ?_)
  generalize w13.drew = w14 at HT HB hHeld ⊢
  refine take_ (i := 0) (N := some 31) (v := ?_) (a' := ?_) (zb 5 1) rfl rfl (by kernel_rfl) (fun _ _ _ h => h) (Or.inl ⟨by rfl, ?_⟩) hHeld ?_ ?_
  rotate_left; · rintro w' ⟨s0, s1, s2, s3⟩; go_simp; with_reducible rfl
  rotate_left; · simp only [Act.put, zq0, zq1, zq2, i64_w, i32_w]; rfl
  refine take_ (i := 1) (N := some 32) (v := ?_) (a' := ?_) (zb 5 3) rfl rfl (by kernel_rfl) (fun _ _ _ h => h) (Or.inl ⟨by rfl, ?_⟩) hHeld ?_ ?_
  rotate_left; · rintro w' ⟨s0, s1, s2, s3⟩; go_simp; with_reducible rfl
  rotate_left; · simp only [Act.put, zq0, zq1, zq2, i64_w, i32_w]; rfl
  refine one_ (i := 2) (N := some 33) (zb 5 7) rfl rfl (by kernel_rfl) (by decide) (fun K hK => ?_)
  refine gs Try.func18 #[.agg #[.int .i64 a0_0, .slice A0_1 l0_1.length c0_1]] ?_
  (with_reducible refine (laws_toBase.calls k a0_0 _ _ l0_1 y1 y2 _ ?s1 ?s2 H6.out).mono ?_)
  (case s1 => exact (zq31 HR.out HB.out))
  (case s2 => exact HC.out)
  rintro e w15 ⟨v0, rfl, ho, hb⟩
  refine ⟨_, rfl, ?_⟩
  obtain ⟨Ay, cy, rfl⟩ := Kd.S_slice ho
  have n0_ := zq9 (HT.out.row HB.out.size ho hb)
  have n1_ := zq9 (zq27 HB.out hb)
  clear HT HB ho hb; have HT := n0_; have HB := n1_; clear n0_ n1_
  refine hK.out _ _ ⟨HT.out.cell 5 0 rfl rfl, HT.out.cell 5 1 rfl rfl, HT.out.cell 0 0 rfl rfl, HT.out.cell 0 1 rfl rfl⟩ (fun hHeld => ?_)
  clear hK K
  refine norm_ (a' := ?_) ?_ ?_
  rotate_left; · show Act.put _ (some 33) _ = _; simp only [Act.put, zq0, zq1, zq2, i64_w, i32_w]; rfl
  refine one_ (i := 3) (N := some 34) (zb 5 15) rfl rfl (by kernel_rfl) (by decide) (fun K hK => ?_)
  refine gs Try.func20 #[.agg #[.int .i64 x1, .slice Ax x2.length cx], .agg #[.int .i64 y1, .slice Ay y2.length cy]] ?_
  (with_reducible refine (laws_eqBase.calls k x1 _ _ x2 y1 _ _ y2 true _ ?s1 ?s2 ?s3 ?s4 H7.out).mono ?_)
  (case s1 => exact HT.out.sC 4 rfl)
  (case s2 => exact HT.out.sle 4 rfl)
  (case s3 => exact HT.out.sC 8 rfl)
  (case s4 => exact HT.out.sle 8 rfl)
  rintro e w16 ⟨rfl, hb⟩
  refine ⟨_, rfl, ?_⟩
  have n0_ := zq9 (HT.out.below hb)
  have n1_ := zq9 (zq27 HB.out hb)
  clear HT HB hb; have HT := n0_; have HB := n1_; clear n0_ n1_
  refine hK.out _ _ ⟨HT.out.cell 5 0 rfl rfl, HT.out.cell 5 1 rfl rfl, HT.out.cell 0 0 rfl rfl, HT.out.cell 0 1 rfl rfl⟩ (fun hHeld => ?_)
  clear hK K
  refine norm_ (a' := ?_) ?_ ?_
  rotate_left; · show Act.put _ (some 34) _ = _; simp only [Act.put, zq0, zq1, zq2, i64_w, i32_w]; rfl
  refine pure_ (i := 4) (N := some 35) (v := ?_) (a' := ?_) (zb 5 31) rfl rfl (by kernel_rfl) (fun _ _ _ h => h) (Or.inl ⟨by rfl, ?_⟩) ?_ ?_
  rotate_left; · intro w'; go_simp; with_reducible rfl
  rotate_left; · simp only [Act.put, zq0, zq1, zq2, i64_w, i32_w]; rfl
  refine done_ (by kernel_rfl) ?_
  have hc5_0 : w16.cell? ⟨p7, 0, none⟩ = some (.int .i64 x1) := HT.out.cell 5 0 rfl rfl; have hc5_1 : w16.cell? ⟨p7, 1, none⟩ = some (.slice Ax x2.length cx) := HT.out.cell 5 1 rfl rfl
  go_wp2_with (first
    | ((with_reducible refine zq24 (f := 24) rfl ?_); refine gl (some 38) Try.func24 #[.agg #[.int .i64 x1, .slice Ax x2.length cx], .int .i64 1] ?_; (with_reducible refine (laws_markBase.calls k x1 (fun k_ => w6.heap.size ≤ k_ ∧ k_ < w7.heap.size) _ x2 1 _ m2 w _ ?s1 ?s2 H8.out).mono ?_); (case s1 => exact HB.out); (case s2 => exact HT.out.s 4 rfl); rintro e w17 ⟨rfl, ho, hb, hk⟩; refine ⟨_, rfl, ?_⟩; have n0_ := zq9 (HT.out.mark 4 rfl ho hk); have n1_ := zq9 hb; have lm := zq9 (show x2.length = m2.length from (Kd.S_reads' ho).1); clear hc5_0 hc5_1 HT HB ho hb hk; have HT := n0_; have HB := n1_; clear n0_ n1_; have hc7_0 : w17.cell? ⟨p8, 0, none⟩ = some (.int .i64 g1) := HT.out.cell 7 0 rfl rfl; have hc7_1 : w17.cell? ⟨p8, 1, none⟩ = some (.slice Ag g2.length cg) := HT.out.cell 7 1 rfl rfl; have hc3_0 : w17.cell? ⟨p6, 0, none⟩ = some (.int .i64 v1) := HT.out.cell 3 0 rfl rfl; have hc3_1 : w17.cell? ⟨p6, 1, none⟩ = some (.slice Av v2.length cv) := HT.out.cell 3 1 rfl rfl)
    | (go_at_call 20; (with_reducible refine (laws_eqBase.calls k g1 _ _ g2 v1 _ _ v2 true _ ?s1 ?s2 ?s3 ?s4 H9.out).mono ?_); (case s1 => exact HT.out.sC 6 rfl); (case s2 => exact HT.out.sle 6 rfl); (case s3 => exact HT.out.sC 2 rfl); (case s4 => exact HT.out.sle 2 rfl); rintro e w18 ⟨rfl, hb⟩; have n0_ := zq9 (HT.out.below hb); have n1_ := zq9 (zq27 HB.out hb); clear hc7_0 hc7_1 hc3_0 hc3_1 HT HB hb; have HT := n0_; have HB := n1_; clear n0_ n1_; have hc7_0 : w18.cell? ⟨p8, 0, none⟩ = some (.int .i64 g1) := HT.out.cell 7 0 rfl rfl; have hc7_1 : w18.cell? ⟨p8, 1, none⟩ = some (.slice Ag g2.length cg) := HT.out.cell 7 1 rfl rfl)
    | ((with_reducible refine zq24 (f := 24) rfl ?_); refine gl (some 49) Try.func24 #[.agg #[.int .i64 g1, .slice Ag g2.length cg], .int .i64 1] ?_; (with_reducible refine (laws_markBase.calls k g1 (fun k_ => w9.heap.size ≤ k_ ∧ k_ < w10.heap.size) _ g2 1 _ n2 w _ ?s1 ?s2 H10.out).mono ?_); (case s1 => exact HB.out); (case s2 => exact HT.out.s 6 rfl); rintro e w19 ⟨rfl, ho, hb, hk⟩; refine ⟨_, rfl, ?_⟩; have n0_ := zq9 (HT.out.mark 6 rfl ho hk); have n1_ := zq9 hb; have ln := zq9 (show g2.length = n2.length from (Kd.S_reads' ho).1); clear hc7_0 hc7_1 HT HB ho hb hk; have HT := n0_; have HB := n1_; clear n0_ n1_; have hc7_0 : w19.cell? ⟨p8, 0, none⟩ = some (.int .i64 g1) := HT.out.cell 7 0 rfl rfl; have hc7_1 : w19.cell? ⟨p8, 1, none⟩ = some (.slice Ag g2.length cg) := HT.out.cell 7 1 rfl rfl)
    | ((with_reducible refine zq24 (f := 33) rfl ?_); refine gl (some 52) Try.func33 #[.agg #[.int .i64 g1, .slice Ag g2.length cg], .int .i64 1] ?_; refine calls_of_args (args' := #[.agg #[.int .i64 g1, .slice Ag n2.length cg], .int .i64 1]) (by rw [ln.out]) ?_; (with_reducible refine (laws_heldBase.calls k g1 _ _ n2 1 _ _ ?s1 ?s2 H11.out).mono ?_); (case s1 => exact HT.out.sC 6 rfl); (case s2 => exact HT.out.sle 6 rfl); rintro e w20 ⟨rfl, hb⟩; refine ⟨_, rfl, ?_⟩; have n0_ := zq9 (HT.out.below hb); have n1_ := zq9 (zq27 HB.out hb); clear hc7_0 hc7_1 HT HB hb; have HT := n0_; have HB := n1_; clear n0_ n1_; have hc0_0 : w20.cell? ⟨p2, 0, none⟩ = some (.int .i64 a0_0) := HT.out.cell 0 0 rfl rfl; have hc0_1 : w20.cell? ⟨p2, 1, none⟩ = some (.slice A0_1 l0_1.length c0_1) := HT.out.cell 0 1 rfl rfl)
    | ((with_reducible refine zq24 (f := 18) rfl ?_); refine gl (some 59) Try.func18 #[.agg #[.int .i64 a0_0, .slice A0_1 l0_1.length c0_1]] ?_; (with_reducible refine (laws_toBase.calls k a0_0 _ _ l0_1 z1 z2 _ ?s1 ?s2 H12.out).mono ?_); (case s1 => exact (zq31 HR.out HB.out)); (case s2 => exact HC.out); rintro e w21 ⟨v0, rfl, ho, hb⟩; refine ⟨_, rfl, ?_⟩; obtain ⟨Az, cz, rfl⟩ := Kd.S_slice ho; have n0_ := zq9 (HT.out.row HB.out.size ho hb); have n1_ := zq9 (zq27 HB.out hb); clear hc0_0 hc0_1 HT HB ho hb; have HT := n0_; have HB := n1_; clear n0_ n1_)
    | ((with_reducible refine zq24 (f := 32) rfl ?_); refine gl (some 61) Try.func32 #[.agg #[.int .i64 z1, .slice Az z2.length cz], .int .i64 a1] ?_; (with_reducible refine (impl_BaseTick.calls k z1 _ _ z2 a1 h1 h2 _ ?s1 ?s2 H13.out).mono ?_); (case s1 => exact HT.out.sC 9 rfl); (case s2 => exact HT.out.sle 9 rfl); rintro e w22 ⟨v0, rfl, ho, hb⟩; refine ⟨_, rfl, ?_⟩; obtain ⟨Ah, ch, rfl⟩ := Kd.S_slice ho; have n0_ := zq9 (HT.out.row HB.out.size ho hb); have n1_ := zq9 (zq27 HB.out hb); clear HT HB ho hb; have HT := n0_; have HB := n1_; clear n0_ n1_)
    | ((with_reducible refine zq25 (N := 12) rfl ?_); refine bx 12 #[.int .i64 0, .slice none 0 0] 46 ?_; intro p12 hg w23 hbox hb; have n0_ := zq9 (HT.out.box hg hbox hb); have n1_ := zq9 (zq27 HB.out hb); clear HT HB hbox hg hb; have HT := n0_; have HB := n1_; clear n0_ n1_; have hc11_0 : w23.cell? ⟨p12, 0, none⟩ = some (.int .i64 0) := HT.out.cell 11 0 rfl rfl; have hf11_0 : w23.frozen? ⟨p12, 0, none⟩ = false := HT.out.frozen 11 0 rfl; have hc11_1 : w23.cell? ⟨p12, 1, none⟩ = some (.slice none 0 0) := HT.out.cell 11 1 rfl rfl; have hf11_1 : w23.frozen? ⟨p12, 1, none⟩ = false := HT.out.frozen 11 1 rfl)
    | ((with_reducible refine zq26 (t := 46) (p := 12) rfl ?_); refine store_event (t := 46) (p := 12) (v := ?vo7_) (w1 := ((w23.setCell ⟨p12, 0, none⟩ (.int .i64 h1)).setCell ⟨p12, 1, none⟩ (.slice Ah h2.length ch))) ?hg ?ho ?hn ?hr ?_; (case ho => rfl); (case hg => rfl); (case hn => rfl); (case hr => first | (go_simp; done) | (go_simp; rfl)); intro w24 hw; have n0_ : Aside0 (Ok w24 w.heap.size [boxE p2 #[.int .i64 a0_0, .slice A0_1 l0_1.length c0_1] 41, rowE k32 32 w.heap.size (.slice Ab b2.length cb) b2 w2.heap.size w3.heap.size, rowE k32 32 w.heap.size (.slice Av v2.length cv) v2 w3.heap.size w4.heap.size, boxE p6 #[.int .i64 v1, .slice Av v2.length cv] 46, rowE k32 32 w.heap.size (.slice Ax x2.length cx) m2 w6.heap.size w7.heap.size, boxE p7 #[.int .i64 x1, .slice Ax x2.length cx] 46, rowE k32 32 w.heap.size (.slice Ag g2.length cg) n2 w9.heap.size w10.heap.size, boxE p8 #[.int .i64 g1, .slice Ag g2.length cg] 46, rowE k32 32 w.heap.size (.slice Ay y2.length cy) y2 w14.heap.size w15.heap.size, rowE k32 32 w.heap.size (.slice Az z2.length cz) z2 w20.heap.size w21.heap.size, rowE k32 32 w.heap.size (.slice Ah h2.length ch) h2 w21.heap.size w22.heap.size, boxE p12 #[.int .i64 h1, .slice Ah h2.length ch] 46]) := ⟨by rw [hw]; exact ((HT.out.store 11 rfl 0 (.int .i64 h1)).store 11 rfl 1 (.slice Ah h2.length ch))⟩; have n1_ : Aside0 (Below w.heap.size w w24) := ⟨by rw [hw]; exact (zq28 (zq28 HB.out (HT.out.ge 11 rfl)) (HT.out.ge 11 rfl))⟩; clear hc11_0 hf11_0 hc11_1 hf11_1 HT HB hw; have HT := n0_; have HB := n1_; clear n0_ n1_; have hc11_0 : w24.cell? ⟨p12, 0, none⟩ = some (.int .i64 h1) := HT.out.cell 11 0 rfl rfl; have hc11_1 : w24.cell? ⟨p12, 1, none⟩ = some (.slice Ah h2.length ch) := HT.out.cell 11 1 rfl rfl; have hc3_0 : w24.cell? ⟨p6, 0, none⟩ = some (.int .i64 v1) := HT.out.cell 3 0 rfl rfl; have hc3_1 : w24.cell? ⟨p6, 1, none⟩ = some (.slice Av v2.length cv) := HT.out.cell 3 1 rfl rfl)
    | ((with_reducible refine zq24 (f := 20) rfl ?_); refine gl (some 64) Try.func20 #[.agg #[.int .i64 h1, .slice Ah h2.length ch], .agg #[.int .i64 v1, .slice Av v2.length cv]] ?_; (with_reducible refine (laws_eqBase.calls k h1 _ _ h2 v1 _ _ v2 true _ ?s1 ?s2 ?s3 ?s4 H14.out).mono ?_); (case s1 => exact HT.out.sC 10 rfl); (case s2 => exact HT.out.sle 10 rfl); (case s3 => exact HT.out.sC 2 rfl); (case s4 => exact HT.out.sle 2 rfl); rintro e w25 ⟨rfl, hb⟩; refine ⟨_, rfl, ?_⟩; have n0_ := zq9 (HT.out.below hb); have n1_ := zq9 (zq27 HB.out hb); clear hc11_0 hc11_1 hc3_0 hc3_1 HT HB hb; have HT := n0_; have HB := n1_; clear n0_ n1_; have hc7_0 : w25.cell? ⟨p8, 0, none⟩ = some (.int .i64 g1) := HT.out.cell 7 0 rfl rfl; have hc7_1 : w25.cell? ⟨p8, 1, none⟩ = some (.slice Ag g2.length cg) := HT.out.cell 7 1 rfl rfl)
    | ((with_reducible refine zq24 (f := 33) rfl ?_); refine gl (some 68) Try.func33 #[.agg #[.int .i64 g1, .slice Ag g2.length cg], .int .i64 1] ?_; refine calls_of_args (args' := #[.agg #[.int .i64 g1, .slice Ag n2.length cg], .int .i64 1]) (by rw [ln.out]) ?_; (with_reducible refine (laws_heldBase.calls k g1 _ _ n2 1 _ _ ?s1 ?s2 H15.out).mono ?_); (case s1 => exact HT.out.sC 6 rfl); (case s2 => exact HT.out.sle 6 rfl); rintro e w26 ⟨rfl, hb⟩; refine ⟨_, rfl, ?_⟩; have n0_ := zq9 (HT.out.below hb); have n1_ := zq9 (zq27 HB.out hb); clear hc7_0 hc7_1 HT HB hb; have HT := n0_; have HB := n1_; clear n0_ n1_))
  go_ret
  exact ⟨rfl, HB.out⟩
end Go.Proofs.Ytnkgmcgbbldkgaa.P
namespace Go.Proofs.Ytnkgmcgbbldkgaa.Q
open Go.RowKit Go.Proofs.YtnkgmcgbbldkgaaW.PrintWords Go.Proofs.YtnkgmcgbbldkgaaW.PrintLast
def Opens {α H : Type} (enc : TypeId × Value → H) (P : Program) (W : World) (t : TypeId) (d : Kd α) (ok : α → Prop) : Prop :=
  ∀ (fuel : Nat) (cs : List Value) (y : DataW H × List MemPlace), DataW.trod enc P W 0 (fun _ => true) true fuel t cs = some y → ∃ x : α, d.K W x cs ∧ ok x
section
variable {α β H : Type} {enc : TypeId × Value → H} {P : Program} {W : World} {t e : TypeId}
theorem Opens.int {k : IntKind} (ht : P.underlying t = some (.int k)) : Opens enc P W t (Kd.int k) (fun x => (Lit.int k x).wf = true) := by
  intro fuel cs y h
  obtain ⟨n, rfl, _, hn⟩ := DataW.trod_int ht h
  exact ⟨n, rfl, hn⟩
theorem Opens.string (ht : P.underlying t = some .string) : Opens enc P W t Kd.string (fun x => x.size ≤ maxLen) := by
  intro fuel cs y h
  obtain ⟨s, rfl, _, hs⟩ := DataW.trod_string ht h
  exact ⟨s, rfl, hs⟩
theorem cells_len {b : Nat} {a : Addr} {n : Nat} {cs : List Value} (h : W.cells? b a n = some cs) : cs.length = n := by
  unfold World.cells? at h
  split at h
  · simpa using mapM_some_length h
  · cases h
theorem cells_get {b : Nat} {a : Addr} {n : Nat} {cs : List Value} (h : W.cells? b a n = some cs) (i : Nat) (u : Value) (hu : cs[i]? = some u) : W.cell? (a.add i) = some u := by
  have hl := cells_len h
  have hi : i < n := by rw [← hl]; exact (List.getElem?_eq_some_iff.1 hu).1
  unfold World.cells? at h
  split at h
  · rw [← hu]; exact mapM_some_get h i i (by simp [hi])
  · cases h
theorem each_of {γ : Type} {Q : Nat → γ → Prop} (n : Nat) (h : ∀ i, i < n → ∃ x, Q i x) : ∃ l : List γ, l.length = n ∧ ∀ i x, l[i]? = some x → Q i x := by
  induction n with
  | zero => exact ⟨[], rfl, fun i x hx => by simp at hx⟩
  | succ n ih =>
    obtain ⟨l, hl, hq⟩ := ih (fun i hi => h i (by omega))
    obtain ⟨x, hx⟩ := h n (by omega)
    refine ⟨l ++ [x], by simp [hl], fun i y hy => ?_⟩
    rcases Nat.lt_or_ge i l.length with hi | hi
    · rw [List.getElem?_append_left hi] at hy
      exact hq i y hy
    · rw [List.getElem?_append_right hi] at hy
      have : i - l.length = 0 := by
        have := (List.getElem?_eq_some_iff.1 hy).1
        simp at this
        omega
      rw [this] at hy
      injection hy with hy
      obtain rfl : i = n := by omega
      exact hy ▸ hx
theorem Opens.slice {d : Kd α} {ok : α → Prop} (ht : P.underlying t = some (.slice e)) (hc : P.cellsOf e = d.sz) (h : Opens enc P W e d ok) :
    Opens enc P W t (Kd.slice e d) (fun xs => xs.length ≤ maxLen ∧ ∀ x ∈ xs, ok x) := by
  intro fuel cs y hy
  rcases DataW.trod_slice ht hy with ⟨rfl, _⟩ | ⟨a, len, cap, elems, rest, n, _, rfl, _, hb, hl, hm, hlen, hel, _, _⟩
  · exact ⟨[], ⟨none, 0, rfl, Nat.le_refl _, rfl, by simp, fun h => by simp at h⟩, by simp, by simp⟩
  · have each : ∀ i, i < len → ∃ x : α, (∃ c, c.length = d.sz ∧ d.K W x c ∧ ∀ j u, c[j]? = some u → W.cell? (a.add (i * d.sz + j)) = some u) ∧ ok x := by
      intro i hi
      have h1 := hel i hi
      rw [List.getElem?_eq_getElem (by omega)] at h1
      obtain ⟨c, h2, h3⟩ := Option.bind_eq_some_iff.1 h1
      obtain ⟨x, hK, hx⟩ := h _ _ _ h3
      rw [hc] at h2
      refine ⟨x, ⟨c, d.K_len hK, hK, fun j u hu => ?_⟩, hx⟩
      have h4 := cells_get h2 j u hu
      rwa [add_add] at h4
    obtain ⟨l, hll, hq⟩ := each_of len each
    subst hll
    refine ⟨l, ⟨some a, cap, rfl, hl, rfl, ?_, fun _ => ⟨a, rfl, fun j p hp => (hq j p hp).1⟩⟩, by omega, fun x hx => ?_⟩
    · unfold maxLen at hm; omega
    · obtain ⟨i, hi, rfl⟩ := List.getElem_of_mem hx
      exact (hq i _ (List.getElem?_eq_getElem hi)).2
theorem Opens.iso {d : Kd α} {ok : α → Prop} (f : β → α) (g : α → β) (hfg : ∀ a, f (g a) = a) (h : Opens enc P W t d ok) : Opens enc P W t (Kd.iso d f) (fun x => ok (f x)) := by
  intro fuel cs y hy
  obtain ⟨x, hK, hx⟩ := h _ _ _ hy
  exact ⟨g x, by show d.K W (f (g x)) cs; rw [hfg]; exact hK, by show ok (f (g x)); rw [hfg]; exact hx⟩
def OpensF {α H : Type} (enc : TypeId × Value → H) (P : Program) (W : World) (fs : List Field) (o : Nat) (d : Kd α) (ok : α → Prop) : Prop :=
  ∀ (n : Nat) (cs : List Value) (xs : List (DataW H × List MemPlace)), cs.length = o + d.sz → xs.length = fs.length →
    (∀ (i : Nat) (f : Field), fs[i]? = some f → DataW.trod enc P W 0 (fun _ => true) true n f.type ((cs.drop f.offset).take (P.cellsOf f.type)) = xs[i]?) → ∃ x : α, d.K W x (cs.drop o) ∧ ok x
theorem OpensF.one {d : Kd α} {ok : α → Prop} {f : Field} {o : Nat} (ho : f.offset = o) (hc : P.cellsOf f.type = d.sz) (h : Opens enc P W f.type d ok) : OpensF enc P W [f] o d ok := by
  intro n cs xs hl hx hf
  match xs, hx with
  | [x0], _ =>
    have h0 := hf 0 f rfl
    rw [ho, hc, List.take_of_length_le (by rw [List.length_drop]; omega)] at h0
    exact h n _ x0 (by simpa using h0)
theorem OpensF.cons {d : Kd α} {ok : α → Prop} {d' : Kd β} {ok' : β → Prop} {f : Field} {fs : List Field} {o : Nat} (ho : f.offset = o) (hc : P.cellsOf f.type = d.sz) (h : Opens enc P W f.type d ok)
    (hs : OpensF enc P W fs (o + d.sz) d' ok') : OpensF enc P W (f :: fs) o (Kd.pair d d') (fun x => ok x.1 ∧ ok' x.2) := by
  intro n cs xs hl hx hf
  have hsz : (Kd.pair d d').sz = d.sz + d'.sz := rfl
  match xs, hx with
  | x0 :: xs', hx =>
    have h0 := hf 0 f rfl
    rw [ho, hc] at h0
    obtain ⟨a, ha, oka⟩ := h n _ x0 (by simpa using h0)
    obtain ⟨b, hb, okb⟩ := hs n cs xs' (by omega) (by simpa using hx) (fun i g hg => by simpa using hf (i + 1) g (by simpa using hg))
    refine ⟨(a, b), ⟨(cs.drop o).take d.sz, cs.drop (o + d.sz), ?_, ha, hb⟩, oka, okb⟩
    rw [← List.drop_drop, List.take_append_drop]
theorem Opens.struct {d : Kd α} {ok : α → Prop} {fs : Array Field} (ht : P.underlying t = some (.struct fs)) (hc : P.cellsOf t = d.sz) (h : OpensF enc P W fs.toList 0 d ok) : Opens enc P W t d ok := by
  intro fuel cs y hy
  obtain ⟨xs, n, _, _, hl, hx, hf⟩ := DataW.trod_struct ht hy
  have := h n cs xs (by omega) (by simpa using hx) (fun i f hf' => hf i f (by simpa using hf'))
  simpa using this
end
theorem pos {α : Type} {c : Prop} [Decidable c] {t e : Nat → Option α} {r : α} (h : c) (x : Ev t r) : Ev (fun k => if c then t k else e k) r := by
  obtain ⟨K, hK⟩ := x
  exact ⟨K, fun k hk => (if_pos h).trans (hK k hk)⟩
theorem neg {α : Type} {c : Prop} [Decidable c] {t e : Nat → Option α} {r : α} (h : ¬ c) (x : Ev e r) : Ev (fun k => if c then t k else e k) r := by
  obtain ⟨K, hK⟩ := x
  exact ⟨K, fun k hk => (if_neg h).trans (hK k hk)⟩
theorem both {α : Type} {c : Prop} [Decidable c] {t e : Nat → Option α} {r : α} (x : c → Ev t r) (y : ¬ c → Ev e r) : Ev (fun k => if c then t k else e k) r := by
  by_cases h : c
  · exact pos h (x h)
  · exact neg h (y h)
theorem ret {α : Type} (r : α) : Ev (fun _ => some r) r := Ev.now r
theorem ret' {α : Type} {r q : α} (h : r = q) : Ev (fun _ => some r) q := h ▸ Ev.now r
theorem val {α : Type} {g : Option α} {r : α} (h : g = some r) : Ev (fun _ => g) r := ⟨0, fun _ _ => h⟩
theorem of_eq {α : Type} {g : Nat → Option α} {r q : α} (h : Ev g r) (e : r = q) : Ev g q := e ▸ h
theorem exists_of {α : Type} {g : Nat → Option α} {r : α} (h : Ev g r) : ∃ k, g k = some r := by
  obtain ⟨K, hK⟩ := h
  exact ⟨K, hK K (Nat.le_refl _)⟩
theorem wrap_id {x : Int} (h1 : -9223372036854775808 ≤ x) (h2 : x ≤ 9223372036854775807) : wrap64 x = x := by
  unfold wrap64
  omega
theorem rdOf_lt {α : Type} (d : α) (l : List α) (i : Nat) (h : i < l.length) : rdOf d l (i : Int) = l[i] := by
  simp [rdOf, List.getD_eq_getElem?_getD, h]
theorem toList_inj {a b : ByteArray} (h : a.toList = b.toList) : a = b := by
  rw [ByteArray.toList_eq, ByteArray.toList_eq] at h
  cases a with
  | mk x => cases b with
    | mk y =>
      congr
      exact Array.toList_inj.1 h
end Go.Proofs.Ytnkgmcgbbldkgaa.Q
namespace Go.Proofs.Ytnkgmcgbbldkgaa.Q
open Go.RowKit Go.Proofs.YtnkgmcgbbldkgaaW.PrintWords Go.Proofs.YtnkgmcgbbldkgaaW.PrintLast Go.Proofs.Ytnkgmcgbbldkgaa.P
theorem strOfNums_one (x : Int) : (strOfNums [x]).size = 1 := by rfl
theorem markText_l0 (d : Nat) : ∀ (x : Int) (s : ByteArray), x.toNat ≤ d → x.toNat + s.size ≤ 9223372036854775806 → ∃ r, Ev (fun k => laws_markText.l0 k x s) r := by
  induction d with
  | zero =>
    intro x s hx hs
    exact ⟨_, Ev.step (fun k => by rw [laws_markText.l0]) (neg (by omega) (pos (by omega) (ret _)))⟩
  | succ d ih =>
    intro x s hx hs
    by_cases h : x > 0
    · have e1 : (Int.tdiv x 10) = x / 10 := Int.tdiv_eq_ediv_of_nonneg (by omega)
      have e2 : wrap64 (Int.tdiv x 10) = x / 10 := by rw [e1]; exact wrap_id (by omega) (by omega)
      obtain ⟨r, hr⟩ := ih (x / 10) (strOfNums [(wrap64 (48 + (Int.tmod x 10))) % 256] ++ s) (by omega) (by rw [ByteArray.size_append, strOfNums_one]; omega)
      refine ⟨r, Ev.step (fun k => by rw [laws_markText.l0]) (pos h ?_)⟩
      refine Ev.bind (ret _) (pos ?_ ?_)
      · rw [strOfNums_one]; omega
      · rw [e2]; exact hr
    · exact ⟨_, Ev.step (fun k => by rw [laws_markText.l0]) (neg h (pos (by omega) (ret _)))⟩
theorem markText_ex (n : Int) (h : n ≤ 9223372036854775806) : ∃ r, Ev (fun k => laws_markText.f k n) r := by
  unfold laws_markText.f
  by_cases h0 : n ≤ 0
  · exact ⟨_, pos h0 (ret _)⟩
  · obtain ⟨r, hr⟩ := markText_l0 n.toNat n (⟨#[]⟩ : ByteArray) (Nat.le_refl _) (by show n.toNat + 0 ≤ _; omega)
    exact ⟨r, neg h0 hr⟩
open Classical in
noncomputable def markT (n : Int) : ByteArray := if h : ∃ r, Ev (fun k => laws_markText.f k n) r then h.choose else ByteArray.empty
theorem markT_ev (n : Int) (h : n ≤ 9223372036854775806) : Ev (fun k => laws_markText.f k n) (markT n) := by
  have h' := markText_ex n h
  unfold markT
  rw [dif_pos h']
  exact h'.choose_spec
noncomputable def marks (n : Int) (m : Nat) : List ByteArray := (List.range m).map fun (j : Nat) => markT (n + (j : Int))
theorem marks_length (n : Int) (m : Nat) : (marks n m).length = m := by simp [marks]
theorem marks_get (n : Int) (m j : Nat) (h : j < (marks n m).length) : (marks n m)[j] = markT (n + j) := by simp [marks]
theorem marks_succ (n : Int) (m : Nat) : marks n (m + 1) = marks n m ++ [markT (n + m)] := by simp [marks, List.range_succ]
theorem markStringS_l0 (n : Int) (m : Nat) (h0 : 0 ≤ n) (h1 : n + m ≤ 9223372036854775806) (d : Nat) : ∀ (i : Nat) (x : List ByteArray), i + d = m → x.length = m → x.take i = marks n i →
    Ev (fun k => laws_markStringS.l0 k x (n + i) (i : Int)) (n + m, marks n m) := by
  induction d with
  | zero =>
    intro i x hi hx ht
    refine Ev.step (fun k => by rw [laws_markStringS.l0]) (neg (by omega) (ret' ?_))
    obtain rfl : i = m := by omega
    rw [List.take_of_length_le (by omega)] at ht
    rw [ht]
  | succ d ih =>
    intro i x hi hx ht
    refine Ev.step (fun k => by rw [laws_markStringS.l0]) (pos (by omega) (Ev.bind (markT_ev _ (by omega)) ?_))
    refine pos (by omega) ?_
    rw [wrap_id (by omega) (by omega), wrap_id (by omega) (by omega)]
    have := ih (i + 1) (x.set i (markT (n + i))) (by omega) (by simp [hx]) (by
      rw [List.take_succ_eq_append_getElem (by simp; omega), marks_succ, List.take_set_of_le (Nat.le_refl _), ht]
      simp)
    rw [show (n + (i : Int) + 1) = n + ((i + 1 : Nat) : Int) by omega, Int.toNat_natCast]
    exact this
theorem markStringS_ev (l : List ByteArray) (n : Int) (h0 : 0 ≤ n) (h1 : n + l.length ≤ 9223372036854775806) : Ev (fun k => laws_markStringS.f k l n) (n + l.length, marks n l.length) := by
  have := markStringS_l0 n l.length h0 h1 l.length 0 l (by omega) rfl (by simp [marks])
  simpa [laws_markStringS.f] using this
theorem heldStringS_l0 (n : Int) (m : Nat) (h0 : 0 ≤ n) (h1 : n + m ≤ 9223372036854775806) (d : Nat) : ∀ (i : Nat), i + d = m →
    Ev (fun k => laws_heldStringS.l0 k (marks n m) (n + i) (i : Int)) (n + m) := by
  have hm := marks_length n m
  induction d with
  | zero =>
    intro i hi
    obtain rfl : i = m := by omega
    exact Ev.step (fun k => by rw [laws_heldStringS.l0]) (neg (by omega) (ret' rfl))
  | succ d ih =>
    intro i hi
    refine Ev.step (fun k => by rw [laws_heldStringS.l0]) (pos (by omega) (pos (by omega) (Ev.bind (markT_ev _ (by omega)) ?_)))
    refine pos ?_ ?_
    · rw [rdOf_lt _ _ _ (by omega), marks_get]
    · rw [wrap_id (by omega) (by omega), wrap_id (by omega) (by omega)]
      exact ih (i + 1) (by omega) |> fun h => by rw [show (n + (i : Int) + 1) = n + ((i + 1 : Nat) : Int) by omega]; exact h
theorem heldStringS_ev (n : Int) (m : Nat) (h0 : 0 ≤ n) (h1 : n + m ≤ 9223372036854775806) : Ev (fun k => laws_heldStringS.f k (marks n m) n) (n + m) := by
  have := heldStringS_l0 n m h0 h1 m 0 (by omega)
  simpa [laws_heldStringS.f] using this
abbrev LScore := S95
abbrev Score := S99
instance : DecidableEq Score := fun a b => decidable_of_iff (a.f0 = b.f0 ∧ a.f1 = b.f1) ⟨fun h => by cases a; cases b; simp at h; simp [h], fun h => by rw [h]; exact ⟨rfl, rfl⟩⟩
theorem rdLScore_lt (l : List LScore) (i : Nat) (h : i < l.length) : rd_T95 l (i : Int) = l[i] := by
  simp [rd_T95, List.getD_eq_getElem?_getD, h]
theorem rdScore_lt (l : List Score) (i : Nat) (h : i < l.length) : rd_T99 l (i : Int) = l[i] := by
  simp [rd_T99, List.getD_eq_getElem?_getD, h]
theorem szScore_ev (a : ByteArray) (n : Int) (ha : a.size ≤ maxLen) (c : Int) (h0 : 0 ≤ c) (h1 : c ≤ 1048576) :
    ∃ v, laws_szScore.f a n c = some v ∧ v ≤ c ∧ -1 ≤ v ∧ (0 ≤ v → a.size ≤ 1048576) := by
  unfold maxLen at ha
  unfold laws_szScore.f
  rw [wrap_id (x := c - (a.size : Int)) (by omega) (by omega)]
  by_cases h : c - (a.size : Int) < 0
  · exact ⟨-1, if_pos h, by omega, by omega, by omega⟩
  · exact ⟨_, if_neg h, by omega, by omega, fun _ => by omega⟩
theorem szScoreS_l0 (l : List LScore) (hl : l.length ≤ maxLen) (hs : ∀ s ∈ l, s.f0.size ≤ maxLen ∧ (Lit.int .i64 s.f1).wf = true) (d : Nat) : ∀ (i : Nat) (c : Int), i + d = l.length → 0 ≤ c → c ≤ 1048576 →
    ∃ v, Ev (fun k => laws_szScoreS.l0 k l c (i : Int)) v ∧ v ≤ c ∧ -1 ≤ v ∧ (0 ≤ v → ∀ j (h : j < l.length), i ≤ j → l[j].f0.size ≤ 1048576) := by
  unfold maxLen at hl
  induction d with
  | zero =>
    intro i c hi h0 h1
    exact ⟨c, Ev.step (fun k => by rw [laws_szScoreS.l0]) (neg (by omega) (ret c)), by omega, by omega, fun _ j hj hij => by omega⟩
  | succ d ih =>
    intro i c hi h0 h1
    have hlt : i < l.length := by omega
    obtain ⟨hs0, _⟩ := hs _ (List.getElem_mem hlt)
    obtain ⟨v, hv, hv1, hv2, hv3⟩ := szScore_ev _ l[i].f1 hs0 c h0 h1
    by_cases hneg : v < 0
    · refine ⟨-1, Ev.step (fun k => by rw [laws_szScoreS.l0]) (pos (by omega) (pos (by omega) ?_)), by omega, by omega, by omega⟩
      rw [rdLScore_lt _ _ hlt]
      exact Ev.bind (val hv) (pos hneg (ret (-1)))
    · obtain ⟨u, hu, h2, h3, h4⟩ := ih (i + 1) v (by omega) (by omega) (by omega)
      refine ⟨u, Ev.step (fun k => by rw [laws_szScoreS.l0]) (pos (by omega) (pos (by omega) ?_)), by omega, h3, fun h5 j hj hij => ?_⟩
      · rw [rdLScore_lt _ _ hlt, wrap_id (x := (i : Int) + 1) (by omega) (by omega)]
        exact Ev.bind (val hv) (neg hneg hu)
      · rcases Nat.eq_or_lt_of_le hij with rfl | hij
        · exact hv3 (by omega)
        · exact h4 h5 j hj hij
theorem szScoreS_ev (l : List LScore) (hl : l.length ≤ maxLen) (hs : ∀ s ∈ l, s.f0.size ≤ maxLen ∧ (Lit.int .i64 s.f1).wf = true) (c : Int) (h0 : 0 ≤ c) (h1 : c ≤ 1048576) :
    ∃ v, Ev (fun k => laws_szScoreS.f k l c) v ∧ v ≤ c ∧ -1 ≤ v ∧ (0 ≤ v → l.length ≤ 1048576 ∧ ∀ s ∈ l, s.f0.size ≤ 1048576) := by
  have hl' := hl
  unfold maxLen at hl'
  by_cases h : c - (l.length : Int) < 0
  · refine ⟨-1, ?_, by omega, by omega, by omega⟩
    unfold laws_szScoreS.f
    refine pos ?_ (ret _)
    rw [wrap_id (by omega) (by omega)]
    exact h
  · obtain ⟨v, hv, h2, h3, h4⟩ := szScoreS_l0 l hl hs l.length 0 (c - (l.length : Int)) (by omega) (by omega) (by omega)
    refine ⟨v, ?_, by omega, h3, fun h5 => ⟨by omega, fun s hs => ?_⟩⟩
    · unfold laws_szScoreS.f
      rw [wrap_id (by omega) (by omega)]
      exact neg h hv
    · obtain ⟨j, hj, rfl⟩ := List.getElem_of_mem hs
      exact h4 h5 j hj (by omega)
def cvScore (x : LScore) : Score := ⟨x.f0, x.f1⟩
theorem toScoreS_l0 (l : List LScore) (hl : l.length ≤ maxLen) (d : Nat) : ∀ (i : Nat) (x : List Score), i + d = l.length → x.length = l.length → Ev (fun k => laws_toScoreS.l0 k l x (i : Int)) (x.take i ++ (l.drop i).map cvScore) := by
  unfold maxLen at hl
  induction d with
  | zero =>
    intro i x hi hx
    refine Ev.step (fun k => by rw [laws_toScoreS.l0]) (neg (by omega) (ret' ?_))
    rw [List.drop_of_length_le (by omega), List.take_of_length_le (by omega), List.map_nil, List.append_nil]
  | succ d ih =>
    intro i x hi hx
    have hlt : i < l.length := by omega
    refine Ev.step (fun k => by rw [laws_toScoreS.l0]) (pos (by omega) (pos (by omega) ?_))
    rw [rdLScore_lt _ _ hlt, wrap_id (by omega) (by omega)]
    refine Ev.bind (val rfl) (pos (by omega) (of_eq (ih (i + 1) _ (by omega) (by simp [hx])) ?_))
    rw [List.drop_eq_getElem_cons hlt, Int.toNat_natCast, List.take_set, List.take_succ_eq_append_getElem (by omega), List.set_append_right _ _ (by simp; omega), List.map_cons]
    simp [show min i x.length = i by omega]
    rfl
theorem toScoreS_ev (l : List LScore) (hl : l.length ≤ 1048576) : Ev (fun k => laws_toScoreS.f k l) (l.map cvScore) := by
  unfold laws_toScoreS.f
  refine pos (by omega) (pos (by omega) ?_)
  exact of_eq (toScoreS_l0 l (by unfold maxLen; omega) l.length 0 _ (by omega) (by simp)) (by simp)
theorem eqScore_eq (a b : Score) : laws_eqScore.f a.f0 a.f1 b.f0 b.f1 = some (decide (a = b)) := by
  unfold laws_eqScore.f
  obtain ⟨a0, a1⟩ := a
  obtain ⟨b0, b1⟩ := b
  by_cases h0 : a0 = b0
  · by_cases h1 : a1 = b1
    · simp [h0, h1]
    · simp [h0, h1]
  · have : ¬ a0.toList = b0.toList := fun e => h0 (toList_inj e)
    simp [h0, this]
theorem eqScoreS_l0 (l l' : List Score) (hl : l.length ≤ maxLen) (he : l.length = l'.length) (d : Nat) : ∀ (i : Nat), i + d = l.length → Ev (fun k => laws_eqScoreS.l0 k l l' (i : Int)) (decide (l.drop i = l'.drop i)) := by
  unfold maxLen at hl
  induction d with
  | zero =>
    intro i hi
    refine Ev.step (fun k => by rw [laws_eqScoreS.l0]) (neg (by omega) (ret' ?_))
    rw [List.drop_of_length_le (by omega), List.drop_of_length_le (by omega)]
    simp
  | succ d ih =>
    intro i hi
    have hlt : i < l.length := by omega
    have hlt' : i < l'.length := by omega
    refine Ev.step (fun k => by rw [laws_eqScoreS.l0]) (pos (by omega) (pos (by omega) (pos (by omega) ?_)))
    rw [rdScore_lt _ _ hlt, rdScore_lt _ _ hlt', wrap_id (by omega) (by omega), List.drop_eq_getElem_cons hlt, List.drop_eq_getElem_cons hlt']
    refine Ev.bind (val (eqScore_eq _ _)) (both (fun h => ?_) (fun h => ret' ?_))
    · refine of_eq (ih (i + 1) (by omega)) ?_
      rw [of_decide_eq_true h]
      exact decide_eq_decide.2 (by simp only [List.cons.injEq, true_and])
    · exact (decide_eq_false (fun e => h (decide_eq_true (List.cons.inj e).1))).symm
theorem eqScoreS_ev (l l' : List Score) (hl : l.length ≤ maxLen) : Ev (fun k => laws_eqScoreS.f k l l') (decide (l = l')) := by
  unfold laws_eqScoreS.f
  refine both (fun h => ?_) (fun h => ret' ?_)
  · exact eqScoreS_l0 l l' hl (by omega) l.length 0 (by omega)
  · have : l ≠ l' := fun e => h (by rw [e])
    simp [this]
theorem eqScoreS_same (l : List Score) (hl : l.length ≤ maxLen) : Ev (fun k => laws_eqScoreS.f k l l) true := of_eq (eqScoreS_ev l l hl) (by simp)
noncomputable def marksS (n : Int) (m : Nat) : List Score := (List.range m).map fun (j : Nat) => ⟨markT (n + 2 * (j : Int)), n + 2 * (j : Int) + 1⟩
theorem marksS_length (n : Int) (m : Nat) : (marksS n m).length = m := by simp [marksS]
theorem marksS_get (n : Int) (m j : Nat) (h : j < (marksS n m).length) : (marksS n m)[j] = ⟨markT (n + 2 * j), n + 2 * j + 1⟩ := by simp [marksS]
theorem marksS_succ (n : Int) (m : Nat) : marksS n (m + 1) = marksS n m ++ [⟨markT (n + 2 * m), n + 2 * m + 1⟩] := by simp [marksS, List.range_succ]
theorem markScoreS_l0 (n : Int) (m : Nat) (h0 : 0 ≤ n) (h1 : n + 2 * m ≤ 9223372036854775806) (d : Nat) : ∀ (i : Nat) (x : List Score), i + d = m → x.length = m → x.take i = marksS n i →
    Ev (fun k => laws_markScoreS.l0 k x (n + 2 * i) (i : Int)) (n + 2 * m, marksS n m) := by
  induction d with
  | zero =>
    intro i x hi hx ht
    refine Ev.step (g := fun k => laws_markScoreS.l0 k _ _ _) (fun k => by rw [laws_markScoreS.l0]) (neg (by omega) (ret' ?_))
    obtain rfl : i = m := by omega
    rw [List.take_of_length_le (by omega)] at ht
    rw [ht]
  | succ d ih =>
    intro i x hi hx ht
    have hlt : i < x.length := by omega
    refine Ev.step (g := fun k => laws_markScoreS.l0 k _ _ _) (fun k => by rw [laws_markScoreS.l0]) (pos (by omega) (Ev.bind (markT_ev _ (by omega)) ?_))
    refine pos (by omega) (Ev.bind (ret _) ?_)
    rw [wrap_id (x := n + 2 * (i : Int) + 1) (by omega) (by omega), wrap_id (x := n + 2 * (i : Int) + 1 + 1) (by omega) (by omega), wrap_id (x := (i : Int) + 1) (by omega) (by omega)]
    rw [Int.toNat_natCast, rdScore_lt _ _ hlt, rdScore_lt _ _ (by simp; omega)]
    have := ih (i + 1) (x.set i ⟨markT (n + 2 * i), n + 2 * i + 1⟩) (by omega) (by simp [hx]) (by
      rw [List.take_succ_eq_append_getElem (by simp; omega), marksS_succ, List.take_set_of_le (Nat.le_refl _), ht]
      simp)
    rw [show (n + 2 * (i : Int) + 1 + 1) = n + 2 * ((i + 1 : Nat) : Int) by omega, List.set_set, List.getElem_set_self]
    exact this
theorem markScoreS_ev (l : List Score) (n : Int) (h0 : 0 ≤ n) (h1 : n + 2 * l.length ≤ 9223372036854775806) : Ev (fun k => laws_markScoreS.f k l n) (n + 2 * l.length, marksS n l.length) := by
  have := markScoreS_l0 n l.length h0 h1 l.length 0 l (by omega) rfl (by simp [marksS])
  simpa [laws_markScoreS.f] using this
theorem heldScoreS_l0 (n : Int) (m : Nat) (h0 : 0 ≤ n) (h1 : n + 2 * m ≤ 9223372036854775806) (d : Nat) : ∀ (i : Nat), i + d = m →
    Ev (fun k => laws_heldScoreS.l0 k (marksS n m) (n + 2 * i) (i : Int)) (n + 2 * m) := by
  have hm := marksS_length n m
  induction d with
  | zero =>
    intro i hi
    obtain rfl : i = m := by omega
    exact Ev.step (g := fun k => laws_heldScoreS.l0 k _ _ _) (fun k => by rw [laws_heldScoreS.l0]) (neg (by omega) (ret' rfl))
  | succ d ih =>
    intro i hi
    refine Ev.step (g := fun k => laws_heldScoreS.l0 k _ _ _) (fun k => by rw [laws_heldScoreS.l0]) (pos (by omega) (pos (by omega) ?_))
    rw [wrap_id (x := n + 2 * (i : Int) + 1) (by omega) (by omega), wrap_id (x := n + 2 * (i : Int) + 1 + 1) (by omega) (by omega), wrap_id (x := (i : Int) + 1) (by omega) (by omega), rdScore_lt _ _ (by omega), marksS_get]
    refine Ev.bind (markT_ev _ (by omega)) (pos rfl (pos rfl ?_))
    have := ih (i + 1) (by omega)
    rw [show (n + 2 * (i : Int) + 1 + 1) = n + 2 * ((i + 1 : Nat) : Int) by omega]
    exact this
theorem heldScoreS_ev (n : Int) (m : Nat) (h0 : 0 ≤ n) (h1 : n + 2 * m ≤ 9223372036854775806) : Ev (fun k => laws_heldScoreS.f k (marksS n m) n) (n + 2 * m) := by
  have := heldScoreS_l0 n m h0 h1 m 0 (by omega)
  simpa [laws_heldScoreS.f] using this
abbrev LPair := S98
abbrev Pair := S101
instance : DecidableEq Pair := fun a b => decidable_of_iff (a.f0 = b.f0 ∧ a.f1 = b.f1) ⟨fun h => by cases a; cases b; simp at h; simp [h], fun h => by rw [h]; exact ⟨rfl, rfl⟩⟩
theorem rdLPair_lt (l : List LPair) (i : Nat) (h : i < l.length) : rd_T98 l (i : Int) = l[i] := by
  simp [rd_T98, List.getD_eq_getElem?_getD, h]
theorem rdPair_lt (l : List Pair) (i : Nat) (h : i < l.length) : rd_T101 l (i : Int) = l[i] := by
  simp [rd_T101, List.getD_eq_getElem?_getD, h]
theorem szPair_ev (a b : ByteArray) (ha : a.size ≤ maxLen) (hb : b.size ≤ maxLen) (c : Int) (h0 : 0 ≤ c) (h1 : c ≤ 1048576) :
    ∃ v, laws_szPair.f a b c = some v ∧ v ≤ c ∧ -1 ≤ v ∧ (0 ≤ v → a.size ≤ 1048576 ∧ b.size ≤ 1048576) := by
  unfold maxLen at ha hb
  unfold laws_szPair.f
  rw [wrap_id (x := c - (a.size : Int)) (by omega) (by omega)]
  by_cases h : c - (a.size : Int) < 0
  · exact ⟨-1, if_pos h, by omega, by omega, by omega⟩
  · rw [if_neg h, wrap_id (x := c - (a.size : Int) - (b.size : Int)) (by omega) (by omega)]
    by_cases h' : c - (a.size : Int) - (b.size : Int) < 0
    · exact ⟨-1, if_pos h', by omega, by omega, by omega⟩
    · exact ⟨_, if_neg h', by omega, by omega, fun _ => ⟨by omega, by omega⟩⟩
theorem szPairS_l0 (l : List LPair) (hl : l.length ≤ maxLen) (hs : ∀ s ∈ l, s.f0.size ≤ maxLen ∧ s.f1.size ≤ maxLen) (d : Nat) : ∀ (i : Nat) (c : Int), i + d = l.length → 0 ≤ c → c ≤ 1048576 →
    ∃ v, Ev (fun k => laws_szPairS.l0 k l c (i : Int)) v ∧ v ≤ c ∧ -1 ≤ v ∧ (0 ≤ v → ∀ j (h : j < l.length), i ≤ j → l[j].f0.size ≤ 1048576 ∧ l[j].f1.size ≤ 1048576) := by
  unfold maxLen at hl
  induction d with
  | zero =>
    intro i c hi h0 h1
    exact ⟨c, Ev.step (fun k => by rw [laws_szPairS.l0]) (neg (by omega) (ret c)), by omega, by omega, fun _ j hj hij => by omega⟩
  | succ d ih =>
    intro i c hi h0 h1
    have hlt : i < l.length := by omega
    obtain ⟨hs0, hs1⟩ := hs _ (List.getElem_mem hlt)
    obtain ⟨v, hv, hv1, hv2, hv3⟩ := szPair_ev _ _ hs0 hs1 c h0 h1
    by_cases hneg : v < 0
    · refine ⟨-1, Ev.step (fun k => by rw [laws_szPairS.l0]) (pos (by omega) (pos (by omega) ?_)), by omega, by omega, by omega⟩
      rw [rdLPair_lt _ _ hlt]
      exact Ev.bind (val hv) (pos hneg (ret (-1)))
    · obtain ⟨u, hu, h2, h3, h4⟩ := ih (i + 1) v (by omega) (by omega) (by omega)
      refine ⟨u, Ev.step (fun k => by rw [laws_szPairS.l0]) (pos (by omega) (pos (by omega) ?_)), by omega, h3, fun h5 j hj hij => ?_⟩
      · rw [rdLPair_lt _ _ hlt, wrap_id (x := (i : Int) + 1) (by omega) (by omega)]
        exact Ev.bind (val hv) (neg hneg hu)
      · rcases Nat.eq_or_lt_of_le hij with rfl | hij
        · exact hv3 (by omega)
        · exact h4 h5 j hj hij
theorem szPairS_ev (l : List LPair) (hl : l.length ≤ maxLen) (hs : ∀ s ∈ l, s.f0.size ≤ maxLen ∧ s.f1.size ≤ maxLen) (c : Int) (h0 : 0 ≤ c) (h1 : c ≤ 1048576) :
    ∃ v, Ev (fun k => laws_szPairS.f k l c) v ∧ v ≤ c ∧ -1 ≤ v ∧ (0 ≤ v → l.length ≤ 1048576 ∧ ∀ s ∈ l, s.f0.size ≤ 1048576 ∧ s.f1.size ≤ 1048576) := by
  have hl' := hl
  unfold maxLen at hl'
  by_cases h : c - (l.length : Int) < 0
  · refine ⟨-1, ?_, by omega, by omega, by omega⟩
    unfold laws_szPairS.f
    refine pos ?_ (ret _)
    rw [wrap_id (by omega) (by omega)]
    exact h
  · obtain ⟨v, hv, h2, h3, h4⟩ := szPairS_l0 l hl hs l.length 0 (c - (l.length : Int)) (by omega) (by omega) (by omega)
    refine ⟨v, ?_, by omega, h3, fun h5 => ⟨by omega, fun s hs => ?_⟩⟩
    · unfold laws_szPairS.f
      rw [wrap_id (by omega) (by omega)]
      exact neg h hv
    · obtain ⟨j, hj, rfl⟩ := List.getElem_of_mem hs
      exact h4 h5 j hj (by omega)
def cvPair (x : LPair) : Pair := ⟨x.f0, x.f1⟩
theorem toPairS_l0 (l : List LPair) (hl : l.length ≤ maxLen) (d : Nat) : ∀ (i : Nat) (x : List Pair), i + d = l.length → x.length = l.length → Ev (fun k => laws_toPairS.l0 k l x (i : Int)) (x.take i ++ (l.drop i).map cvPair) := by
  unfold maxLen at hl
  induction d with
  | zero =>
    intro i x hi hx
    refine Ev.step (fun k => by rw [laws_toPairS.l0]) (neg (by omega) (ret' ?_))
    rw [List.drop_of_length_le (by omega), List.take_of_length_le (by omega), List.map_nil, List.append_nil]
  | succ d ih =>
    intro i x hi hx
    have hlt : i < l.length := by omega
    refine Ev.step (fun k => by rw [laws_toPairS.l0]) (pos (by omega) (pos (by omega) ?_))
    rw [rdLPair_lt _ _ hlt, wrap_id (by omega) (by omega)]
    refine Ev.bind (val rfl) (pos (by omega) (of_eq (ih (i + 1) _ (by omega) (by simp [hx])) ?_))
    rw [List.drop_eq_getElem_cons hlt, Int.toNat_natCast, List.take_set, List.take_succ_eq_append_getElem (by omega), List.set_append_right _ _ (by simp; omega), List.map_cons]
    simp [show min i x.length = i by omega]
    rfl
theorem toPairS_ev (l : List LPair) (hl : l.length ≤ 1048576) : Ev (fun k => laws_toPairS.f k l) (l.map cvPair) := by
  unfold laws_toPairS.f
  refine pos (by omega) (pos (by omega) ?_)
  exact of_eq (toPairS_l0 l (by unfold maxLen; omega) l.length 0 _ (by omega) (by simp)) (by simp)
theorem eqPair_eq (a b : Pair) : laws_eqPair.f a.f0 a.f1 b.f0 b.f1 = some (decide (a = b)) := by
  unfold laws_eqPair.f
  obtain ⟨a0, a1⟩ := a
  obtain ⟨b0, b1⟩ := b
  by_cases h0 : a0 = b0
  · by_cases h1 : a1 = b1
    · simp [h0, h1]
    · have : ¬ a1.toList = b1.toList := fun e => h1 (toList_inj e)
      simp [h0, h1, this]
  · have : ¬ a0.toList = b0.toList := fun e => h0 (toList_inj e)
    simp [h0, this]
theorem eqPairS_l0 (l l' : List Pair) (hl : l.length ≤ maxLen) (he : l.length = l'.length) (d : Nat) : ∀ (i : Nat), i + d = l.length → Ev (fun k => laws_eqPairS.l0 k l l' (i : Int)) (decide (l.drop i = l'.drop i)) := by
  unfold maxLen at hl
  induction d with
  | zero =>
    intro i hi
    refine Ev.step (fun k => by rw [laws_eqPairS.l0]) (neg (by omega) (ret' ?_))
    rw [List.drop_of_length_le (by omega), List.drop_of_length_le (by omega)]
    simp
  | succ d ih =>
    intro i hi
    have hlt : i < l.length := by omega
    have hlt' : i < l'.length := by omega
    refine Ev.step (fun k => by rw [laws_eqPairS.l0]) (pos (by omega) (pos (by omega) (pos (by omega) ?_)))
    rw [rdPair_lt _ _ hlt, rdPair_lt _ _ hlt', wrap_id (by omega) (by omega), List.drop_eq_getElem_cons hlt, List.drop_eq_getElem_cons hlt']
    refine Ev.bind (val (eqPair_eq _ _)) (both (fun h => ?_) (fun h => ret' ?_))
    · refine of_eq (ih (i + 1) (by omega)) ?_
      rw [of_decide_eq_true h]
      exact decide_eq_decide.2 (by simp only [List.cons.injEq, true_and])
    · exact (decide_eq_false (fun e => h (decide_eq_true (List.cons.inj e).1))).symm
theorem eqPairS_ev (l l' : List Pair) (hl : l.length ≤ maxLen) : Ev (fun k => laws_eqPairS.f k l l') (decide (l = l')) := by
  unfold laws_eqPairS.f
  refine both (fun h => ?_) (fun h => ret' ?_)
  · exact eqPairS_l0 l l' hl (by omega) l.length 0 (by omega)
  · have : l ≠ l' := fun e => h (by rw [e])
    simp [this]
theorem eqPairS_same (l : List Pair) (hl : l.length ≤ maxLen) : Ev (fun k => laws_eqPairS.f k l l) true := of_eq (eqPairS_ev l l hl) (by simp)
noncomputable def marksP (n : Int) (m : Nat) : List Pair := (List.range m).map fun (j : Nat) => ⟨markT (n + 2 * (j : Int)), markT (n + 2 * (j : Int) + 1)⟩
theorem marksP_length (n : Int) (m : Nat) : (marksP n m).length = m := by simp [marksP]
theorem marksP_get (n : Int) (m j : Nat) (h : j < (marksP n m).length) : (marksP n m)[j] = ⟨markT (n + 2 * j), markT (n + 2 * j + 1)⟩ := by simp [marksP]
theorem marksP_succ (n : Int) (m : Nat) : marksP n (m + 1) = marksP n m ++ [⟨markT (n + 2 * m), markT (n + 2 * m + 1)⟩] := by simp [marksP, List.range_succ]
theorem markPairS_l0 (n : Int) (m : Nat) (h0 : 0 ≤ n) (h1 : n + 2 * m ≤ 9223372036854775806) (d : Nat) : ∀ (i : Nat) (x : List Pair), i + d = m → x.length = m → x.take i = marksP n i →
    Ev (fun k => laws_markPairS.l0 k x (n + 2 * i) (i : Int)) (n + 2 * m, marksP n m) := by
  induction d with
  | zero =>
    intro i x hi hx ht
    refine Ev.step (g := fun k => laws_markPairS.l0 k _ _ _) (fun k => by rw [laws_markPairS.l0]) (neg (by omega) (ret' ?_))
    obtain rfl : i = m := by omega
    rw [List.take_of_length_le (by omega)] at ht
    rw [ht]
  | succ d ih =>
    intro i x hi hx ht
    have hlt : i < x.length := by omega
    refine Ev.step (g := fun k => laws_markPairS.l0 k _ _ _) (fun k => by rw [laws_markPairS.l0]) (pos (by omega) (Ev.bind (markT_ev _ (by omega)) ?_))
    refine pos (by omega) (Ev.bind (ret _) ?_)
    rw [wrap_id (x := n + 2 * (i : Int) + 1) (by omega) (by omega), wrap_id (x := n + 2 * (i : Int) + 1 + 1) (by omega) (by omega), wrap_id (x := (i : Int) + 1) (by omega) (by omega)]
    refine Ev.bind (markT_ev _ (by omega)) ?_
    rw [Int.toNat_natCast, rdPair_lt _ _ hlt, rdPair_lt _ _ (by simp; omega)]
    have := ih (i + 1) (x.set i ⟨markT (n + 2 * i), markT (n + 2 * i + 1)⟩) (by omega) (by simp [hx]) (by
      rw [List.take_succ_eq_append_getElem (by simp; omega), marksP_succ, List.take_set_of_le (Nat.le_refl _), ht]
      simp)
    rw [show (n + 2 * (i : Int) + 1 + 1) = n + 2 * ((i + 1 : Nat) : Int) by omega, List.set_set, List.getElem_set_self]
    exact this
theorem markPairS_ev (l : List Pair) (n : Int) (h0 : 0 ≤ n) (h1 : n + 2 * l.length ≤ 9223372036854775806) : Ev (fun k => laws_markPairS.f k l n) (n + 2 * l.length, marksP n l.length) := by
  have := markPairS_l0 n l.length h0 h1 l.length 0 l (by omega) rfl (by simp [marksP])
  simpa [laws_markPairS.f] using this
theorem heldPairS_l0 (n : Int) (m : Nat) (h0 : 0 ≤ n) (h1 : n + 2 * m ≤ 9223372036854775806) (d : Nat) : ∀ (i : Nat), i + d = m →
    Ev (fun k => laws_heldPairS.l0 k (marksP n m) (n + 2 * i) (i : Int)) (n + 2 * m) := by
  have hm := marksP_length n m
  induction d with
  | zero =>
    intro i hi
    obtain rfl : i = m := by omega
    exact Ev.step (g := fun k => laws_heldPairS.l0 k _ _ _) (fun k => by rw [laws_heldPairS.l0]) (neg (by omega) (ret' rfl))
  | succ d ih =>
    intro i hi
    refine Ev.step (g := fun k => laws_heldPairS.l0 k _ _ _) (fun k => by rw [laws_heldPairS.l0]) (pos (by omega) (pos (by omega) ?_))
    rw [wrap_id (x := n + 2 * (i : Int) + 1) (by omega) (by omega), wrap_id (x := n + 2 * (i : Int) + 1 + 1) (by omega) (by omega), wrap_id (x := (i : Int) + 1) (by omega) (by omega), rdPair_lt _ _ (by omega), marksP_get]
    refine Ev.bind (markT_ev _ (by omega)) (pos rfl (Ev.bind (markT_ev _ (by omega)) (pos rfl ?_)))
    have := ih (i + 1) (by omega)
    rw [show (n + 2 * (i : Int) + 1 + 1) = n + 2 * ((i + 1 : Nat) : Int) by omega]
    exact this
theorem heldPairS_ev (n : Int) (m : Nat) (h0 : 0 ≤ n) (h1 : n + 2 * m ≤ 9223372036854775806) : Ev (fun k => laws_heldPairS.f k (marksP n m) n) (n + 2 * m) := by
  have := heldPairS_l0 n m h0 h1 m 0 (by omega)
  simpa [laws_heldPairS.f] using this
end Go.Proofs.Ytnkgmcgbbldkgaa.Q
namespace Go.Proofs.Ytnkgmcgbbldkgaa.Q
open Go.RowKit Go.Proofs.YtnkgmcgbbldkgaaW.PrintWords Go.Proofs.YtnkgmcgbbldkgaaW.PrintLast
theorem bl_irrefl (a : List UInt8) : Op.bytesLess a a = false := by
  induction a with
  | nil => rfl
  | cons x r ih => simp [Op.bytesLess, ih]
def lt (a b : ByteArray) : Bool := Op.bytesLess a.toList b.toList
theorem lt_irrefl (a : ByteArray) : lt a a = false := bl_irrefl _
end Go.Proofs.Ytnkgmcgbbldkgaa.Q
namespace Go.Proofs.Ytnkgmcgbbldkgaa.Q
open Go.RowKit Go.Proofs.YtnkgmcgbbldkgaaW.PrintWords Go.Proofs.YtnkgmcgbbldkgaaW.PrintLast Go.Proofs.Ytnkgmcgbbldkgaa.P
def inB (n low high : Int) : Bool := decide (low ≤ n) && decide (n ≤ high)
def placeB (n : Int) : Bool := inB n (-1000000000) 1000000000
theorem l1In_eq (n low high : Int) : spec_l1In.f n low high = some (inB n low high) := by
  unfold spec_l1In.f inB
  by_cases h : low ≤ n
  · rw [if_pos (show n ≥ low from h)]; simp [h]
  · rw [if_neg (show ¬ n ≥ low from h)]; simp [h]
theorem within_eq (n low high : Int) : impl_within.f n low high = some (inB n low high) := by
  unfold impl_within.f inB
  by_cases h : low ≤ n
  · rw [if_pos (show n ≥ low from h)]; simp [h]
  · rw [if_neg (show ¬ n ≥ low from h)]; simp [h]
theorem position_eq (n : Int) : impl_position.f n = some (placeB n) := by
  unfold impl_position.f
  rw [within_eq]
  rfl
theorem l1In_ev (n low high : Int) : Ev (fun _ => spec_l1In.f n low high) (inB n low high) := val (l1In_eq n low high)
theorem within_ev (n low high : Int) : Ev (fun _ => impl_within.f n low high) (inB n low high) := val (within_eq n low high)
theorem position_ev (n : Int) : Ev (fun _ => impl_position.f n) (placeB n) := val (position_eq n)
def ahd (a b : Score) : Bool := decide (a.f1 < b.f1) || (decide (a.f1 = b.f1) && lt a.f0 b.f0)
theorem l3Ahead_eq (a b : Score) : spec_l3Ahead.f a.f0 a.f1 b.f0 b.f1 = some (ahd a b) := by
  unfold spec_l3Ahead.f ahd
  by_cases h : a.f1 < b.f1
  · rw [if_pos h]; simp [h]
  · rw [if_neg h]
    by_cases h' : a.f1 = b.f1
    · rw [if_pos h']; simp [h', lt]
    · rw [if_neg h']; simp [h, h']
theorem Compare_int_eq (a b : Int) : cmp_Compare_int.f a b = some (if a < b then -1 else if a > b then 1 else 0) := by
  unfold cmp_Compare_int.f cmp_isNaN_int.f
  simp
  split
  · rfl
  · split <;> rfl
theorem Compare_string_eq (a b : ByteArray) : cmp_Compare_string.f a b = some (if lt a b = true then -1 else if lt b a = true then 1 else 0) := by
  unfold cmp_Compare_string.f cmp_isNaN_string.f lt
  simp
  split
  · rfl
  · split <;> rfl
theorem Or_ev (a b : Int) : Ev (fun k => cmp_Or_int.f k [a, b]) (if a = 0 then b else a) := by
  unfold cmp_Or_int.f
  refine Ev.step (g := fun k => cmp_Or_int.l0 k _ _ _ _) (fun k => by rw [cmp_Or_int.l0]) (pos (by simp) (pos (by omega) (pos (by simp) ?_)))
  rw [show rd [a, b] 0 = a by rfl]
  refine both (fun h => ?_) (fun h => ret' (if_neg h).symm)
  rw [if_pos h, show wrap64 (0 + 1) = 1 by unfold wrap64; decide]
  refine Ev.step (g := fun k => cmp_Or_int.l0 k _ _ _ _) (fun k => by rw [cmp_Or_int.l0]) (pos (by simp) (pos (by omega) (pos (by simp) ?_)))
  rw [show rd [a, b] 1 = b by rfl, show wrap64 (1 + 1) = 2 by unfold wrap64; decide]
  refine both (fun h' => ?_) (fun h' => ret _)
  exact Ev.step (g := fun k => cmp_Or_int.l0 k _ _ _ _) (fun k => by rw [cmp_Or_int.l0]) (neg (by simp) (ret' h'.symm))
def ordM (a b : Score) : Int := if a.f1 < b.f1 then -1 else if a.f1 > b.f1 then 1 else if lt a.f0 b.f0 = true then -1 else if lt b.f0 a.f0 = true then 1 else 0
theorem scoreOrder_ev (a b : Score) : Ev (fun k => impl_scoreOrder.f k a.f0 a.f1 b.f0 b.f1) (ordM a b) := by
  unfold impl_scoreOrder.f
  refine Ev.bind (val (Compare_int_eq _ _)) (Ev.bind (val (Compare_string_eq _ _)) (Ev.bind (Or_ev _ _) (ret' ?_)))
  unfold ordM
  by_cases h : a.f1 < b.f1
  · simp [h]
  · by_cases h' : a.f1 > b.f1
    · simp [h, h']
    · simp [h, h']
theorem ordM_ahd (a b : Score) : ordM a b ≥ 0 ↔ ahd a b = false := by
  unfold ordM ahd
  by_cases h : a.f1 < b.f1
  · simp [h]
  · by_cases h' : a.f1 > b.f1
    · have : ¬ a.f1 = b.f1 := by omega
      simp [h, h', this]
    · have : a.f1 = b.f1 := by omega
      cases hl : lt a.f0 b.f0 with
      | true => simp [this]
      | false => simp [this]; split <;> decide
def fresh (l : List Score) (i : Nat) : Bool := (List.range i).all (fun k => !decide ((rd_T99 l (k : Int)).f0 = (rd_T99 l (i : Int)).f0))
def sOk (l : List Score) (i : Nat) : Bool :=
  decide ((rd_T99 l (i : Int)).f0.size ≤ 40) && (placeB (rd_T99 l (i : Int)).f1 && ((decide (i = 0) || ahd (rd_T99 l ((i - 1 : Nat) : Int)) (rd_T99 l (i : Int))) && fresh l i))
theorem sOk_eq {l : List Score} {i : Nat} (h40 : (rd_T99 l (i : Int)).f0.size ≤ 40) (hp : placeB (rd_T99 l (i : Int)).f1 = true) (ha : i = 0 ∨ ahd (rd_T99 l ((i - 1 : Nat) : Int)) (rd_T99 l (i : Int)) = true) : sOk l i = fresh l i := by
  unfold sOk
  rw [decide_eq_true h40, hp, Bool.true_and, Bool.true_and]
  rcases ha with ha | ha
  · rw [decide_eq_true ha, Bool.true_or, Bool.true_and]
  · rw [ha, Bool.or_true, Bool.true_and]
theorem sOk_no {l : List Score} {i : Nat} (h : ¬ (rd_T99 l (i : Int)).f0.size ≤ 40 ∨ placeB (rd_T99 l (i : Int)).f1 = false ∨ (¬ i = 0 ∧ ahd (rd_T99 l ((i - 1 : Nat) : Int)) (rd_T99 l (i : Int)) = false) ∨ fresh l i = false) : sOk l i = false := by
  unfold sOk
  rcases h with h | h | ⟨h, h'⟩ | h
  · rw [decide_eq_false h, Bool.false_and]
  · rw [h, Bool.false_and, Bool.and_false]
  · rw [decide_eq_false h, h', Bool.false_or, Bool.false_and, Bool.and_false, Bool.and_false]
  · rw [h, Bool.and_false, Bool.and_false, Bool.and_false]
def scoresB (l : List Score) : Bool := (List.range' 0 l.length).all (sOk l) && decide ((l.length : Int) ≤ 16)
theorem spec_ScoresOk_l1 (l : List Score) (hl : l.length ≤ maxLen) (i : Nat) (hi : i < l.length) (r : Bool) (hr : Ev (fun k => spec_ScoresOk.l0 k l (wrap64 ((i : Int) + 1))) r) (d : Nat) : ∀ (j : Nat), j + d = i →
    Ev (fun k => spec_ScoresOk.l1 k l (i : Int) (j : Int)) ((List.range' j d).all (fun k => !decide ((rd_T99 l (k : Int)).f0 = (rd_T99 l (i : Int)).f0)) && r) := by
  unfold maxLen at hl
  induction d with
  | zero =>
    intro j hj
    refine Ev.step (g := fun k => spec_ScoresOk.l1 k _ _ _) (fun k => by rw [spec_ScoresOk.l1]) (neg (by omega) ?_)
    simpa using hr
  | succ d ih =>
    intro j hj
    refine Ev.step (g := fun k => spec_ScoresOk.l1 k _ _ _) (fun k => by rw [spec_ScoresOk.l1]) (pos (by omega) (pos (by omega) (pos (by omega) (pos (by omega) (pos (by omega) ?_)))))
    rw [wrap_id (x := (j : Int) + 1) (by omega) (by omega), List.range'_succ, List.all_cons]
    refine both (fun h => ret' ?_) (fun h => ?_)
    · simp [toList_inj h]
    · have : ¬ (rd_T99 l (j : Int)).f0 = (rd_T99 l (i : Int)).f0 := fun e => h (by rw [e])
      refine of_eq (ih (j + 1) (by omega)) ?_
      simp [this]
theorem spec_ScoresOk_l0 (l : List Score) (hl : l.length ≤ maxLen) (d : Nat) : ∀ (i : Nat), i + d = l.length → Ev (fun k => spec_ScoresOk.l0 k l (i : Int)) ((List.range' i d).all (sOk l) && decide ((l.length : Int) ≤ 16)) := by
  have hl' := hl
  unfold maxLen at hl'
  induction d with
  | zero =>
    intro i hi
    refine Ev.step (g := fun k => spec_ScoresOk.l0 k _ _) (fun k => by rw [spec_ScoresOk.l0]) (neg (by omega) (ret' ?_))
    simp
  | succ d ih =>
    intro i hi
    have hw : wrap64 ((i : Int) + 1) = ((i + 1 : Nat) : Int) := by rw [wrap_id (by omega) (by omega)]; omega
    have ih' := ih (i + 1) (by omega)
    have hin := spec_ScoresOk_l1 l hl i (by omega) _ (by rw [hw]; exact ih') i 0 (by omega)
    rw [← List.range_eq_range'] at hin
    refine Ev.step (g := fun k => spec_ScoresOk.l0 k _ _) (fun k => by rw [spec_ScoresOk.l0]) (pos (by omega) (pos (by omega) ?_))
    rw [List.range'_succ, List.all_cons]
    refine both (fun h => ?_) (fun h => ?_)
    · refine Ev.step (g := fun k => spec_ScoresOk.j1 k _ _ _) (fun k => by rw [spec_ScoresOk.j1]) ?_
      exact pos rfl (ret' (by rw [sOk_no (.inl (by omega))]; rfl))
    · have h40 : (rd_T99 l (i : Int)).f0.size ≤ 40 := by omega
      refine Ev.bind (l1In_ev _ _ _) ?_
      rw [show inB (rd_T99 l (i : Int)).f1 (-1000000000) 1000000000 = placeB (rd_T99 l (i : Int)).f1 from rfl]
      cases hp : placeB (rd_T99 l (i : Int)).f1 with
      | false =>
        refine neg (by decide) ?_
        refine Ev.step (g := fun k => spec_ScoresOk.j1 k _ _ _) (fun k => by rw [spec_ScoresOk.j1]) ?_
        exact pos rfl (ret' (by rw [sOk_no (.inr (.inl hp))]; rfl))
      | true =>
        refine pos rfl ?_
        by_cases h0 : i = 0
        · refine neg (by omega) ?_
          refine Ev.step (g := fun k => spec_ScoresOk.j1 k _ _ _) (fun k => by rw [spec_ScoresOk.j1]) ?_
          exact neg (by decide) (of_eq hin (by rw [sOk_eq h40 hp (.inl h0), Bool.and_assoc]; rfl))
        · refine pos (by omega) ?_
          rw [show wrap64 ((i : Int) - 1) = ((i - 1 : Nat) : Int) by rw [wrap_id (by omega) (by omega)]; omega]
          refine pos (by omega) (pos (by omega) (Ev.bind (val (l3Ahead_eq _ _)) ?_))
          cases ha : ahd (rd_T99 l ((i - 1 : Nat) : Int)) (rd_T99 l (i : Int)) with
          | false =>
            refine Ev.step (g := fun k => spec_ScoresOk.j1 k _ _ _) (fun k => by rw [spec_ScoresOk.j1]) ?_
            exact pos rfl (ret' (by rw [sOk_no (.inr (.inr (.inl ⟨h0, ha⟩)))]; rfl))
          | true =>
            refine Ev.step (g := fun k => spec_ScoresOk.j1 k _ _ _) (fun k => by rw [spec_ScoresOk.j1]) ?_
            exact neg (by decide) (of_eq hin (by rw [sOk_eq h40 hp (.inr ha), Bool.and_assoc]; rfl))
theorem spec_ScoresOk_ev (l : List Score) (hl : l.length ≤ maxLen) : Ev (fun k => spec_ScoresOk.f k l) (scoresB l) := spec_ScoresOk_l0 l hl l.length 0 (by omega)
theorem from_ge (t : ByteArray) (r : List Score) : ∀ o : Nat, impl_scoreAt.from t r o = -1 ∨ (o : Int) ≤ impl_scoreAt.from t r o ∧ impl_scoreAt.from t r o < o + r.length := by
  induction r with
  | nil => intro o; exact .inl rfl
  | cons x r ih =>
    intro o
    rw [impl_scoreAt.from]
    by_cases h : x.f0.toList = t.toList
    · rw [if_pos h]; right; simp; omega
    · rw [if_neg h]
      rcases ih (o + 1) with h | h
      · exact .inl h
      · right; simp; omega
theorem from_iff (t : ByteArray) (r : List Score) : ∀ (o j : Nat), impl_scoreAt.from t r o = ((o + j : Nat) : Int) ↔ ∃ h : j < r.length, r[j].f0 = t ∧ ∀ k (hk : k < j), (r[k]'(by omega)).f0 ≠ t := by
  induction r with
  | nil =>
    intro o j
    refine ⟨fun h => ?_, fun ⟨h, _⟩ => ?_⟩
    · have : (-1 : Int) = ((o + j : Nat) : Int) := h
      omega
    · simp at h
  | cons x r ih =>
    intro o j
    rw [impl_scoreAt.from]
    by_cases h : x.f0.toList = t.toList
    · rw [if_pos h]
      refine ⟨fun e => ?_, fun ⟨h1, h2, h3⟩ => ?_⟩
      · obtain rfl : j = 0 := by omega
        exact ⟨by simp, toList_inj h, fun k hk => by omega⟩
      · cases j with
        | zero => rfl
        | succ j => exact absurd (toList_inj h) (h3 0 (by omega))
    · rw [if_neg h]
      cases j with
      | zero =>
        refine ⟨fun e => ?_, fun ⟨h1, h2, h3⟩ => ?_⟩
        · rcases from_ge t r (o + 1) with q | q <;> omega
        · exact absurd (by rw [← h2]; rfl) h
      | succ j =>
        rw [show o + (j + 1) = (o + 1) + j by omega, ih (o + 1) j]
        refine ⟨fun ⟨h1, h2, h3⟩ => ⟨by simp; omega, h2, fun k hk => ?_⟩, fun ⟨h1, h2, h3⟩ => ⟨by simp at h1; omega, h2, fun k hk => h3 (k + 1) (by omega)⟩⟩
        cases k with
        | zero => exact fun e => h (by rw [← e]; rfl)
        | succ k => exact h3 k (by omega)
theorem from_fresh (l : List Score) (i : Nat) (hi : i < l.length) : decide (impl_scoreAt.from (rd_T99 l (i : Int)).f0 l 0 = (i : Int)) = fresh l i := by
  have := from_iff (rd_T99 l (i : Int)).f0 l 0 i
  rw [Nat.zero_add] at this
  rw [Bool.eq_iff_iff, decide_eq_true_iff, this]
  unfold fresh
  simp only [List.all_eq_true, List.mem_range, Bool.not_eq_true', decide_eq_false_iff_not]
  rw [rdScore_lt _ _ hi]
  refine ⟨fun ⟨_, _, h⟩ k hk => ?_, fun h => ⟨hi, rfl, fun k hk => ?_⟩⟩
  · rw [rdScore_lt _ _ (by omega)]; exact h k hk
  · have := h k hk
    rw [rdScore_lt _ _ (by omega)] at this
    exact this
theorem impl_ScoresOk_l0 (l : List Score) (hl : l.length ≤ maxLen) (d : Nat) : ∀ (i : Nat), i + d = l.length → Ev (fun k => impl_ScoresOk.l0 k l l (l.length : Int) (i : Int)) ((List.range' i d).all (sOk l) && decide ((l.length : Int) ≤ 16)) := by
  have hl' := hl
  unfold maxLen at hl'
  induction d with
  | zero =>
    intro i hi
    refine Ev.step (g := fun k => impl_ScoresOk.l0 k _ _ _ _) (fun k => by rw [impl_ScoresOk.l0]) (neg (by omega) (ret' ?_))
    simp
  | succ d ih =>
    intro i hi
    have ih' := ih (i + 1) (by omega)
    have hf := from_fresh l i (by omega)
    refine Ev.step (g := fun k => impl_ScoresOk.l0 k _ _ _ _) (fun k => by rw [impl_ScoresOk.l0]) (pos (by omega) (pos (by omega) (pos (by omega) ?_)))
    rw [List.range'_succ, List.all_cons, wrap_id (x := (i : Int) + 1) (by omega) (by omega)]
    refine both (fun h => ret' (by rw [sOk_no (.inl (by omega))]; rfl)) (fun h => ?_)
    · have h40 : (rd_T99 l (i : Int)).f0.size ≤ 40 := by omega
      refine Ev.bind (position_ev _) ?_
      cases hp : placeB (rd_T99 l (i : Int)).f1 with
      | false => exact neg (by decide) (ret' (by rw [sOk_no (.inr (.inl hp))]; rfl))
      | true =>
        refine pos rfl ?_
        by_cases h0 : i = 0
        · refine neg (by omega) (Ev.bind (val rfl) ?_)
          refine both (fun q => ?_) (fun q => ret' ?_)
          · rw [decide_eq_true q] at hf
            exact of_eq ih' (by rw [sOk_eq h40 hp (.inl h0), ← hf, Bool.true_and])
          · rw [decide_eq_false q] at hf
            rw [sOk_no (.inr (.inr (.inr hf.symm)))]; rfl
        · refine pos (by omega) ?_
          rw [show wrap64 ((i : Int) - 1) = ((i - 1 : Nat) : Int) by rw [wrap_id (by omega) (by omega)]; omega]
          refine pos (by omega) (pos (by omega) (Ev.bind (scoreOrder_ev _ _) ?_))
          refine both (fun q => ret' ?_) (fun q => ?_)
          · rw [sOk_no (.inr (.inr (.inl ⟨h0, (ordM_ahd _ _).1 q⟩)))]; rfl
          · have ha : ahd (rd_T99 l ((i - 1 : Nat) : Int)) (rd_T99 l (i : Int)) = true := by
              cases e : ahd (rd_T99 l ((i - 1 : Nat) : Int)) (rd_T99 l (i : Int)) with
              | true => rfl
              | false => exact absurd ((ordM_ahd _ _).2 e) q
            refine Ev.bind (val rfl) ?_
            refine both (fun q => ?_) (fun q => ret' ?_)
            · rw [decide_eq_true q] at hf
              exact of_eq ih' (by rw [sOk_eq h40 hp (.inr ha), ← hf, Bool.true_and])
            · rw [decide_eq_false q] at hf
              rw [sOk_no (.inr (.inr (.inr hf.symm)))]; rfl
theorem impl_ScoresOk_ev (l : List Score) (hl : l.length ≤ maxLen) : Ev (fun k => impl_ScoresOk.f k l) (scoresB l) := impl_ScoresOk_l0 l hl l.length 0 (by omega)
def ahead : Option ByteArray → ByteArray → Bool
  | none, _ => true
  | some y, x => lt y x
def fieldsUp : Option ByteArray → List Pair → Bool
  | _, [] => true
  | p, x :: r => decide (x.f0.size ≤ 40) && (decide (x.f1.size ≤ 40) && (ahead p x.f0 && fieldsUp (some x.f0) r))
def fieldsB (l : List Pair) : Bool := fieldsUp none l && decide ((l.length : Int) ≤ 16)
def before (l : List Pair) (i : Nat) : Option ByteArray := if h : 0 < i ∧ i - 1 < l.length then some (l[i - 1]'h.2).f0 else none
theorem spec_FieldsOk_l0 (l : List Pair) (hl : l.length ≤ maxLen) (d : Nat) : ∀ (i : Nat), i + d = l.length → Ev (fun k => spec_FieldsOk.l0 k l (i : Int)) (fieldsUp (before l i) (l.drop i) && decide ((l.length : Int) ≤ 16)) := by
  unfold maxLen at hl
  induction d with
  | zero =>
    intro i hi
    refine Ev.step (g := fun k => spec_FieldsOk.l0 k _ _) (fun k => by rw [spec_FieldsOk.l0]) (neg (by omega) (ret' ?_))
    rw [List.drop_of_length_le (by omega), fieldsUp, Bool.true_and]
  | succ d ih =>
    intro i hi
    have hlt : i < l.length := by omega
    refine Ev.step (g := fun k => spec_FieldsOk.l0 k _ _) (fun k => by rw [spec_FieldsOk.l0]) (pos (by omega) (pos (by omega) ?_))
    try refine pos (by omega) ?_
    rw [rdPair_lt _ _ hlt, List.drop_eq_getElem_cons hlt, fieldsUp, wrap_id (x := (i : Int) + 1) (by omega) (by omega)]
    have hb : before l (i + 1) = some l[i].f0 := by unfold before; rw [dif_pos ⟨by omega, by omega⟩]; rfl
    have ih := ih (i + 1) (by omega)
    rw [hb] at ih
    refine both (fun h => ret' ?_) (fun h => both (fun h' => ret' ?_) (fun h' => ?_))
    · rw [decide_eq_false (by omega), Bool.false_and, Bool.false_and]
    · rw [decide_eq_false (p := l[i].f1.size ≤ 40) (by omega)]; simp
    · rw [decide_eq_true (by omega), decide_eq_true (p := l[i].f1.size ≤ 40) (by omega), Bool.true_and, Bool.true_and]
      by_cases h0 : i = 0
      · subst h0
        refine neg (by omega) (of_eq ih ?_)
        simp [before, ahead]
      · have hlt1 : i - 1 < l.length := by omega
        have hp : before l i = some l[i - 1].f0 := by unfold before; rw [dif_pos ⟨by omega, hlt1⟩]
        have e : wrap64 ((i : Int) - 1) = ((i - 1 : Nat) : Int) := by rw [wrap_id (by omega) (by omega)]; omega
        rw [hp, e, rdPair_lt _ _ hlt1]
        refine pos (by omega) (pos (by omega) (pos (by omega) (both (fun h => ?_) (fun h => ret' ?_))))
        · refine of_eq ih ?_
          show _ = (lt l[i - 1].f0 l[i].f0 && fieldsUp (some l[i].f0) (l.drop (i + 1)) && _)
          rw [show lt l[i - 1].f0 l[i].f0 = true from h, Bool.true_and]
        · show false = (lt l[i - 1].f0 l[i].f0 && fieldsUp (some l[i].f0) (l.drop (i + 1)) && _)
          rw [show lt l[i - 1].f0 l[i].f0 = false from Bool.eq_false_iff.2 h, Bool.false_and, Bool.false_and]
theorem spec_FieldsOk_ev (l : List Pair) (hl : l.length ≤ maxLen) : Ev (fun k => spec_FieldsOk.f k l) (fieldsB l) := by
  have := spec_FieldsOk_l0 l hl l.length 0 (by omega)
  simpa [before, spec_FieldsOk.f, fieldsB] using this
theorem impl_FieldsOk_l0 (l : List Pair) (hl : l.length ≤ maxLen) (d : Nat) : ∀ (i : Nat), i + d = l.length → Ev (fun k => impl_FieldsOk.l0 k l l (l.length : Int) (i : Int)) (fieldsUp (before l i) (l.drop i) && decide ((l.length : Int) ≤ 16)) := by
  unfold maxLen at hl
  induction d with
  | zero =>
    intro i hi
    refine Ev.step (g := fun k => impl_FieldsOk.l0 k _ _ _ _) (fun k => by rw [impl_FieldsOk.l0]) (neg (by omega) (ret' ?_))
    rw [List.drop_of_length_le (by omega), fieldsUp, Bool.true_and]
  | succ d ih =>
    intro i hi
    have hlt : i < l.length := by omega
    refine Ev.step (g := fun k => impl_FieldsOk.l0 k _ _ _ _) (fun k => by rw [impl_FieldsOk.l0]) (pos (by omega) (pos (by omega) ?_))
    try refine pos (by omega) ?_
    rw [rdPair_lt _ _ hlt, List.drop_eq_getElem_cons hlt, fieldsUp, wrap_id (x := (i : Int) + 1) (by omega) (by omega)]
    have hb : before l (i + 1) = some l[i].f0 := by unfold before; rw [dif_pos ⟨by omega, by omega⟩]; rfl
    have ih := ih (i + 1) (by omega)
    rw [hb] at ih
    refine both (fun h => ret' ?_) (fun h => both (fun h' => ret' ?_) (fun h' => ?_))
    · rw [decide_eq_false (by omega), Bool.false_and, Bool.false_and]
    · rw [decide_eq_false (p := l[i].f1.size ≤ 40) (by omega)]; simp
    · rw [decide_eq_true (by omega), decide_eq_true (p := l[i].f1.size ≤ 40) (by omega), Bool.true_and, Bool.true_and]
      by_cases h0 : i = 0
      · subst h0
        refine neg (by omega) (of_eq ih ?_)
        simp [before, ahead]
      · have hlt1 : i - 1 < l.length := by omega
        have hp : before l i = some l[i - 1].f0 := by unfold before; rw [dif_pos ⟨by omega, hlt1⟩]
        have e : wrap64 ((i : Int) - 1) = ((i - 1 : Nat) : Int) := by rw [wrap_id (by omega) (by omega)]; omega
        rw [hp, e, rdPair_lt _ _ hlt1]
        refine pos (by omega) (pos (by omega) (pos (by omega) (both (fun h => ?_) (fun h => ret' ?_))))
        · refine of_eq ih ?_
          show _ = (lt l[i - 1].f0 l[i].f0 && fieldsUp (some l[i].f0) (l.drop (i + 1)) && _)
          rw [show lt l[i - 1].f0 l[i].f0 = true from h, Bool.true_and]
        · show false = (lt l[i - 1].f0 l[i].f0 && fieldsUp (some l[i].f0) (l.drop (i + 1)) && _)
          rw [show lt l[i - 1].f0 l[i].f0 = false from Bool.eq_false_iff.2 h, Bool.false_and, Bool.false_and]
theorem impl_FieldsOk_ev (l : List Pair) (hl : l.length ≤ maxLen) : Ev (fun k => impl_FieldsOk.f k l) (fieldsB l) := by
  have := impl_FieldsOk_l0 l hl l.length 0 (by omega)
  simpa [before, impl_FieldsOk.f, fieldsB] using this
theorem szStringS_l0 (l : List ByteArray) (hl : l.length ≤ maxLen) (hs : ∀ s ∈ l, s.size ≤ maxLen) (d : Nat) : ∀ (i : Nat) (c : Int), i + d = l.length → 0 ≤ c → c ≤ 1048576 →
    ∃ v, Ev (fun k => laws_szStringS.l0 k l c (i : Int)) v ∧ v ≤ c ∧ -1 ≤ v ∧ (0 ≤ v → ∀ j (h : j < l.length), i ≤ j → l[j].size ≤ 1048576) := by
  unfold maxLen at hl hs
  induction d with
  | zero =>
    intro i c hi h0 h1
    exact ⟨c, Ev.step (fun k => by rw [laws_szStringS.l0]) (neg (by omega) (ret c)), by omega, by omega, fun _ j hj hij => by omega⟩
  | succ d ih =>
    intro i c hi h0 h1
    have hlt : i < l.length := by omega
    have hsz := hs _ (List.getElem_mem hlt)
    by_cases hneg : c - (l[i].size : Int) < 0
    · refine ⟨-1, Ev.step (fun k => by rw [laws_szStringS.l0]) (pos (by omega) (pos (by omega) (pos ?_ (ret (-1))))), by omega, by omega, by omega⟩
      rw [rdOf_lt _ _ _ hlt, wrap_id (by omega) (by omega)]
      exact hneg
    · obtain ⟨v, hv, h2, h3, h4⟩ := ih (i + 1) (c - (l[i].size : Int)) (by omega) (by omega) (by omega)
      refine ⟨v, Ev.step (fun k => by rw [laws_szStringS.l0]) (pos (by omega) (pos (by omega) (neg ?_ ?_))), by omega, h3, fun h5 j hj hij => ?_⟩
      · rw [rdOf_lt _ _ _ hlt, wrap_id (by omega) (by omega)]
        exact hneg
      · rw [rdOf_lt _ _ _ hlt, wrap_id (x := c - _) (by omega) (by omega), wrap_id (x := (i : Int) + 1) (by omega) (by omega)]
        exact hv
      · rcases Nat.eq_or_lt_of_le hij with rfl | hij
        · omega
        · exact h4 h5 j hj hij
theorem szStringS_ev (l : List ByteArray) (hl : l.length ≤ maxLen) (hs : ∀ s ∈ l, s.size ≤ maxLen) (c : Int) (h0 : 0 ≤ c) (h1 : c ≤ 1048576) :
    ∃ v, Ev (fun k => laws_szStringS.f k l c) v ∧ v ≤ c ∧ -1 ≤ v ∧ (0 ≤ v → l.length ≤ 1048576 ∧ ∀ s ∈ l, s.size ≤ 1048576) := by
  have hl' := hl
  unfold maxLen at hl'
  by_cases h : c - (l.length : Int) < 0
  · refine ⟨-1, ?_, by omega, by omega, by omega⟩
    unfold laws_szStringS.f
    refine pos ?_ (ret _)
    rw [wrap_id (by omega) (by omega)]
    exact h
  · obtain ⟨v, hv, h2, h3, h4⟩ := szStringS_l0 l hl hs l.length 0 (c - (l.length : Int)) (by omega) (by omega) (by omega)
    refine ⟨v, ?_, by omega, h3, fun h5 => ⟨by omega, fun s hs => ?_⟩⟩
    · unfold laws_szStringS.f
      rw [wrap_id (by omega) (by omega)]
      exact neg h hv
    · obtain ⟨j, hj, rfl⟩ := List.getElem_of_mem hs
      exact h4 h5 j hj (by omega)
def textsB (l : List ByteArray) (m : Int) : Bool := l.all (fun s => decide (s.size ≤ 40)) && decide ((l.length : Int) ≤ m)
theorem l2Texts_l0 (l : List ByteArray) (hl : l.length ≤ maxLen) (d : Nat) : ∀ (i : Nat), i + d = l.length → Ev (fun k => spec_l2Texts.l0 k l (i : Int)) ((l.drop i).all (fun s => decide (s.size ≤ 40)) && decide ((l.length : Int) ≤ 16)) := by
  unfold maxLen at hl
  induction d with
  | zero =>
    intro i hi
    refine Ev.step (fun k => by rw [spec_l2Texts.l0]) (neg (by omega) (ret' ?_))
    rw [List.drop_of_length_le (by omega)]
    simp
  | succ d ih =>
    intro i hi
    have hlt : i < l.length := by omega
    refine Ev.step (fun k => by rw [spec_l2Texts.l0]) (pos (by omega) (pos (by omega) ?_))
    rw [rdOf_lt _ _ _ hlt, List.drop_eq_getElem_cons hlt, List.all_cons, wrap_id (by omega) (by omega)]
    refine both (fun h => ret' ?_) (fun h => ?_)
    · have : ¬ l[i].size ≤ 40 := by omega
      simp [this]
    · have : l[i].size ≤ 40 := by omega
      simp only [this, decide_true, Bool.true_and]
      exact ih (i + 1) (by omega)
theorem l2Texts_ev (l : List ByteArray) (hl : l.length ≤ maxLen) : Ev (fun k => spec_l2Texts.f k l) (textsB l 16) := l2Texts_l0 l hl l.length 0 (by omega)
theorem textsOk_l0 (l : List ByteArray) (hl : l.length ≤ maxLen) (m : Int) (d : Nat) : ∀ (i : Nat), i + d = l.length → Ev (fun k => impl_textsOk.l0 k l m l (l.length : Int) (i : Int)) ((l.drop i).all (fun s => decide (s.size ≤ 40)) && decide ((l.length : Int) ≤ m)) := by
  unfold maxLen at hl
  induction d with
  | zero =>
    intro i hi
    refine Ev.step (fun k => by rw [impl_textsOk.l0]) (neg (by omega) (ret' ?_))
    rw [List.drop_of_length_le (by omega)]
    simp
  | succ d ih =>
    intro i hi
    have hlt : i < l.length := by omega
    refine Ev.step (fun k => by rw [impl_textsOk.l0]) (pos (by omega) (pos (by omega) (pos (by omega) ?_)))
    rw [rdOf_lt _ _ _ hlt, List.drop_eq_getElem_cons hlt, List.all_cons, wrap_id (by omega) (by omega)]
    refine both (fun h => ret' ?_) (fun h => ?_)
    · have : ¬ l[i].size ≤ 40 := by omega
      simp [this]
    · have : l[i].size ≤ 40 := by omega
      simp only [this, decide_true, Bool.true_and]
      exact ih (i + 1) (by omega)
theorem textsOk_ev (l : List ByteArray) (hl : l.length ≤ maxLen) (m : Int) : Ev (fun k => impl_textsOk.f k l m) (textsB l m) := textsOk_l0 l hl m l.length 0 (by omega)
theorem listOk_ev (l : List ByteArray) (hl : l.length ≤ maxLen) : Ev (fun k => impl_listOk.f k l) (textsB l 16) := by
  unfold impl_listOk.f
  exact Ev.bind (textsOk_ev l hl 16) (ret _)
theorem toStringS_l0 (l : List ByteArray) (hl : l.length ≤ maxLen) (d : Nat) : ∀ (i : Nat) (x : List ByteArray), i + d = l.length → x.length = l.length → Ev (fun k => laws_toStringS.l0 k l x (i : Int)) (x.take i ++ l.drop i) := by
  unfold maxLen at hl
  induction d with
  | zero =>
    intro i x hi hx
    refine Ev.step (fun k => by rw [laws_toStringS.l0]) (neg (by omega) (ret' ?_))
    rw [List.drop_of_length_le (by omega), List.take_of_length_le (by omega), List.append_nil]
  | succ d ih =>
    intro i x hi hx
    have hlt : i < l.length := by omega
    refine Ev.step (fun k => by rw [laws_toStringS.l0]) (pos (by omega) (pos (by omega) (pos (by omega) ?_)))
    rw [rdOf_lt _ _ _ hlt, wrap_id (by omega) (by omega)]
    refine of_eq (ih (i + 1) _ (by omega) (by simp [hx])) ?_
    rw [List.drop_eq_getElem_cons hlt, Int.toNat_natCast, List.take_set, List.take_succ_eq_append_getElem (by omega), List.set_append_right _ _ (by simp; omega)]
    simp [show min i x.length = i by omega]
theorem toStringS_ev (l : List ByteArray) (hl : l.length ≤ 17592186044416) : Ev (fun k => laws_toStringS.f k l) l := by
  unfold laws_toStringS.f
  refine pos (by omega) (pos (by omega) ?_)
  exact of_eq (toStringS_l0 l (by unfold maxLen; omega) l.length 0 _ (by omega) (by simp)) (by simp)
theorem eqStringS_l0 (l l' : List ByteArray) (hl : l.length ≤ maxLen) (he : l.length = l'.length) (d : Nat) : ∀ (i : Nat), i + d = l.length → Ev (fun k => laws_eqStringS.l0 k l l' (i : Int)) (decide (l.drop i = l'.drop i)) := by
  unfold maxLen at hl
  induction d with
  | zero =>
    intro i hi
    refine Ev.step (fun k => by rw [laws_eqStringS.l0]) (neg (by omega) (ret' ?_))
    rw [List.drop_of_length_le (by omega), List.drop_of_length_le (by omega)]
    simp
  | succ d ih =>
    intro i hi
    have hlt : i < l.length := by omega
    have hlt' : i < l'.length := by omega
    refine Ev.step (fun k => by rw [laws_eqStringS.l0]) (pos (by omega) (pos (by omega) (pos (by omega) ?_)))
    rw [rdOf_lt _ _ _ hlt, rdOf_lt _ _ _ hlt', wrap_id (by omega) (by omega), List.drop_eq_getElem_cons hlt, List.drop_eq_getElem_cons hlt']
    refine both (fun h => ?_) (fun h => ret' ?_)
    · refine of_eq (ih (i + 1) (by omega)) ?_
      rw [toList_inj h]
      exact decide_eq_decide.2 (by simp only [List.cons.injEq, true_and])
    · exact (decide_eq_false (fun e => h (by rw [(List.cons.inj e).1]))).symm
theorem eqStringS_ev (l l' : List ByteArray) (hl : l.length ≤ maxLen) : Ev (fun k => laws_eqStringS.f k l l') (decide (l = l')) := by
  unfold laws_eqStringS.f
  refine both (fun h => ?_) (fun h => ret' ?_)
  · exact eqStringS_l0 l l' hl (by omega) l.length 0 (by omega)
  · have : l ≠ l' := fun e => h (by rw [e])
    simp [this]
theorem eqStringS_same (l : List ByteArray) (hl : l.length ≤ maxLen) : Ev (fun k => laws_eqStringS.f k l l) true := of_eq (eqStringS_ev l l hl) (by simp)
def ascB : List ByteArray → Bool
  | a :: b :: r => lt a b && ascB (b :: r)
  | _ => true
def setB (l : List ByteArray) : Bool := ascB l && textsB l 16
theorem spec_SetOk_l0 (l : List ByteArray) (hl : l.length ≤ maxLen) (d : Nat) : ∀ (j : Nat), j + 1 + d = l.length → Ev (fun k => spec_SetOk.l0 k l ((j : Int) + 1)) (ascB (l.drop j) && textsB l 16) := by
  have hl' := hl
  unfold maxLen at hl'
  induction d with
  | zero =>
    intro j hj
    refine Ev.step (fun k => by rw [spec_SetOk.l0]) (neg (by omega) ?_)
    rw [List.drop_eq_getElem_cons (by omega : j < l.length), List.drop_of_length_le (by omega)]
    exact Ev.bind (l2Texts_ev l hl) (ret' (by simp [ascB]))
  | succ d ih =>
    intro j hj
    have h1 : j < l.length := by omega
    have h2 : j + 1 < l.length := by omega
    have e : (j : Int) + 1 = ((j + 1 : Nat) : Int) := by omega
    refine Ev.step (fun k => by rw [spec_SetOk.l0]) (pos (by omega) ?_)
    rw [wrap_id (x := (j : Int) + 1 - 1) (by omega) (by omega), show (j : Int) + 1 - 1 = (j : Int) by omega]
    refine pos (by omega) (pos (by omega) (pos (by omega) ?_))
    rw [rdOf_lt _ _ _ h1, e, rdOf_lt _ _ _ h2, wrap_id (by omega) (by omega)]
    have hd : l.drop j = l[j] :: l[j + 1] :: l.drop (j + 2) := by rw [List.drop_eq_getElem_cons h1, List.drop_eq_getElem_cons h2]
    have hd1 : l.drop (j + 1) = l[j + 1] :: l.drop (j + 2) := List.drop_eq_getElem_cons h2
    rw [hd]
    refine both (fun h => ?_) (fun h => ret' ?_)
    · have := ih (j + 1) (by omega)
      rw [hd1] at this
      refine of_eq this ?_
      show _ = (lt l[j] l[j + 1] && ascB (l[j + 1] :: l.drop (j + 2)) && textsB l 16)
      rw [show lt l[j] l[j + 1] = true from h, Bool.true_and]
    · show false = (lt l[j] l[j + 1] && ascB (l[j + 1] :: l.drop (j + 2)) && textsB l 16)
      rw [show lt l[j] l[j + 1] = false from Bool.eq_false_iff.2 h, Bool.false_and, Bool.false_and]
theorem spec_SetOk_ev (l : List ByteArray) (hl : l.length ≤ maxLen) : Ev (fun k => spec_SetOk.f k l) (setB l) := by
  unfold spec_SetOk.f setB
  by_cases h : l.length = 0
  · obtain rfl : l = [] := List.length_eq_zero_iff.1 h
    refine Ev.step (fun k => by rw [spec_SetOk.l0]) (neg (by simp) ?_)
    exact Ev.bind (l2Texts_ev [] (by simp)) (ret' (by simp [ascB]))
  · exact spec_SetOk_l0 l hl (l.length - 1) 0 (by omega)
theorem impl_SetOk_l0 (l : List ByteArray) (hl : l.length ≤ maxLen) (d : Nat) : ∀ (j : Nat), j + 1 + d = l.length → Ev (fun k => impl_SetOk.l0 k l ((j : Int) + 1)) (ascB (l.drop j) && textsB l 16) := by
  have hl' := hl
  unfold maxLen at hl'
  induction d with
  | zero =>
    intro j hj
    refine Ev.step (fun k => by rw [impl_SetOk.l0]) (neg (by omega) ?_)
    rw [List.drop_eq_getElem_cons (by omega : j < l.length), List.drop_of_length_le (by omega)]
    exact Ev.bind (listOk_ev l hl) (ret' (by simp [ascB]))
  | succ d ih =>
    intro j hj
    have h1 : j < l.length := by omega
    have h2 : j + 1 < l.length := by omega
    have e : (j : Int) + 1 = ((j + 1 : Nat) : Int) := by omega
    refine Ev.step (fun k => by rw [impl_SetOk.l0]) (pos (by omega) ?_)
    rw [wrap_id (x := (j : Int) + 1 - 1) (by omega) (by omega), show (j : Int) + 1 - 1 = (j : Int) by omega]
    refine pos (by omega) (pos (by omega) (pos (by omega) ?_))
    rw [rdOf_lt _ _ _ h1, e, rdOf_lt _ _ _ h2, wrap_id (by omega) (by omega)]
    have hd : l.drop j = l[j] :: l[j + 1] :: l.drop (j + 2) := by rw [List.drop_eq_getElem_cons h1, List.drop_eq_getElem_cons h2]
    have hd1 : l.drop (j + 1) = l[j + 1] :: l.drop (j + 2) := List.drop_eq_getElem_cons h2
    rw [hd]
    refine both (fun h => ?_) (fun h => ret' ?_)
    · have := ih (j + 1) (by omega)
      rw [hd1] at this
      refine of_eq this ?_
      show _ = (lt l[j] l[j + 1] && ascB (l[j + 1] :: l.drop (j + 2)) && textsB l 16)
      rw [show lt l[j] l[j + 1] = true from h, Bool.true_and]
    · show false = (lt l[j] l[j + 1] && ascB (l[j + 1] :: l.drop (j + 2)) && textsB l 16)
      rw [show lt l[j] l[j + 1] = false from Bool.eq_false_iff.2 h, Bool.false_and, Bool.false_and]
theorem impl_SetOk_ev (l : List ByteArray) (hl : l.length ≤ maxLen) : Ev (fun k => impl_SetOk.f k l) (setB l) := by
  unfold impl_SetOk.f setB
  by_cases h : l.length = 0
  · obtain rfl : l = [] := List.length_eq_zero_iff.1 h
    refine Ev.step (fun k => by rw [impl_SetOk.l0]) (neg (by simp) ?_)
    exact Ev.bind (listOk_ev [] (by simp)) (ret' (by simp [ascB]))
  · exact impl_SetOk_l0 l hl (l.length - 1) 0 (by omega)
end Go.Proofs.Ytnkgmcgbbldkgaa.Q
namespace Go.Proofs.Ytnkgmcgbbldkgaa.Q
open Go.RowKit Go.Proofs.YtnkgmcgbbldkgaaW.PrintWords Go.Proofs.YtnkgmcgbbldkgaaW.PrintLast Go.Proofs.Ytnkgmcgbbldkgaa.P
set_option linter.unusedSimpArgs false
def kindB (kd : Int) (sz bt bl bs bf T S C F : Bool) : Bool :=
  if kd = 1 then sz && (bl && (bs && bf)) else if kd = 2 then bt && (!bl && (T && (bs && bf))) else if kd = 3 then bt && (!bl && (S && (bs && bf))) else if kd = 4 then bt && (bl && (!bs && (C && bf))) else if kd = 5 then bt && (bl && (bs && (!bf && F))) else false
def entryB (key : ByteArray) (exp kd : Int) (t : ByteArray) (l : List ByteArray) (s : List Score) (f : List Pair) : Bool :=
  inB (key.size : Int) 1 12 && (inB exp 0 2000000 && kindB kd (decide ((t.size : Int) ≤ 40)) (decide (t.toList = [])) (decide (l.length = 0)) (decide (s.length = 0)) (decide (f.length = 0)) (textsB l 16) (setB l) (scoresB s) (fieldsB f))
theorem len_pos (n : Nat) : ((n : Int) > 0) = (decide (n = 0) = false) := by
  rw [decide_eq_false_iff_not]
  exact propext (by omega)
theorem len_zero (n : Nat) : ((n : Int) = 0) = (decide (n = 0) = true) := by
  rw [decide_eq_true_iff]
  exact propext (by omega)
theorem len_beq (n : Nat) : ((n : Int) == 0) = decide (n = 0) := by
  rw [Bool.eq_iff_iff, beq_iff_eq, decide_eq_true_iff]
  omega
theorem len_dec (n : Nat) : decide ((n : Int) > 0) = !decide (n = 0) := by
  rw [Bool.eq_iff_iff, decide_eq_true_iff, Bool.not_eq_true', decide_eq_false_iff_not]
  omega
theorem text_nil (t : ByteArray) : (t.toList = ([] : List UInt8)) = (decide (t.toList = ([] : List UInt8)) = true) := by rw [decide_eq_true_iff]
theorem spec_EntryOk_j0 (key : ByteArray) (exp kd : Int) (t : ByteArray) (l : List ByteArray) (s : List Score) (f : List Pair) (hl : l.length ≤ maxLen) (hs : s.length ≤ maxLen) (hf : f.length ≤ maxLen) :
    Ev (fun k => spec_EntryOk.j0 k false key exp kd t l s f) (kindB kd (decide ((t.size : Int) ≤ 40)) (decide (t.toList = [])) (decide (l.length = 0)) (decide (s.length = 0)) (decide (f.length = 0)) (textsB l 16) (setB l) (scoresB s) (fieldsB f)) := by
  have hT := l2Texts_ev l hl
  have hT' := listOk_ev l hl
  have hS := spec_SetOk_ev l hl
  have hC := spec_ScoresOk_ev s hs
  have hF := spec_FieldsOk_ev f hf
  refine Ev.step (g := fun k => spec_EntryOk.j0 k _ _ _ _ _ _ _ _) (fun k => by rw [spec_EntryOk.j0]) (neg (by decide) ?_)
  generalize hbl : decide (l.length = 0) = bl
  generalize hbs : decide (s.length = 0) = bs
  generalize hbf : decide (f.length = 0) = bf
  generalize hbt : decide (t.toList = ([] : List UInt8)) = bt
  generalize hz : decide ((t.size : Int) ≤ 40) = sz
  have z1 : ((t.size : Int) ≤ 40) = (sz = true) := by rw [← hz, decide_eq_true_iff]
  have a1 := len_pos l.length
  have a2 := len_pos s.length
  have a3 := len_pos f.length
  have b1 := len_zero l.length
  have b2 := len_zero s.length
  have b3 := len_zero f.length
  have c1 := len_beq f.length
  have d1 := len_dec f.length
  have d2 := len_dec s.length
  have e1 := text_nil t
  rw [hbl] at a1 b1
  rw [hbs] at a2 b2 d2
  rw [hbf] at a3 b3 c1 d1
  rw [hbt] at e1
  generalize textsB l 16 = T at hT hT'
  generalize setB l = S at hS
  generalize scoresB s = C at hC
  generalize fieldsB f = F at hF
  clear hbl hbs hbf hbt hz
  simp only [a1, a2, a3, b1, b2, b3, c1, d1, d2, e1, z1]
  clear a1 a2 a3 b1 b2 b3 c1 d1 d2 e1 z1
  repeat' first
    | refine Ev.bind hT ?_
    | refine Ev.bind hT' ?_
    | refine Ev.bind hS ?_
    | refine Ev.bind hC ?_
    | refine Ev.bind hF ?_
    | (refine ret' ?_; simp_all [kindB]; done)
    | refine both (fun _ => ?_) (fun _ => ?_)
theorem spec_EntryOk_ev (key : ByteArray) (exp kd : Int) (t : ByteArray) (l : List ByteArray) (s : List Score) (f : List Pair) (hl : l.length ≤ maxLen) (hs : s.length ≤ maxLen) (hf : f.length ≤ maxLen) :
    Ev (fun k => spec_EntryOk.f k key exp kd t l s f) (entryB key exp kd t l s f) := by
  have hj := spec_EntryOk_j0 key exp kd t l s f hl hs hf
  unfold spec_EntryOk.f entryB
  have no : Ev (fun k => spec_EntryOk.j0 k true key exp kd t l s f) false := by
    refine Ev.step (g := fun k => spec_EntryOk.j0 k _ _ _ _ _ _ _ _) (fun k => by rw [spec_EntryOk.j0]) ?_
    exact pos rfl (ret _)
  have hK : Ev (fun _ => spec_l4Key.f key) (inB (key.size : Int) 1 12) := by
    unfold spec_l4Key.f
    exact Ev.bind (l1In_ev _ _ _) (ret _)
  have hK' : Ev (fun _ => impl_keyOk.f key) (inB (key.size : Int) 1 12) := by
    unfold impl_keyOk.f
    exact Ev.bind (within_ev _ _ _) (ret _)
  have hE := l1In_ev exp 0 2000000
  have hE' := within_ev exp 0 2000000
  first
    | refine Ev.bind hK ?_
    | refine Ev.bind hK' ?_
  cases inB (key.size : Int) 1 12 with
  | false => exact neg (by decide) no
  | true =>
    refine pos rfl ?_
    first
      | refine Ev.bind hE ?_
      | refine Ev.bind hE' ?_
    cases inB exp 0 2000000 with
    | false => exact no
    | true => exact hj
theorem impl_EntryOk_j0 (key : ByteArray) (exp kd : Int) (t : ByteArray) (l : List ByteArray) (s : List Score) (f : List Pair) (hl : l.length ≤ maxLen) (hs : s.length ≤ maxLen) (hf : f.length ≤ maxLen) :
    Ev (fun k => impl_EntryOk.j0 k false key exp kd t l s f) (kindB kd (decide ((t.size : Int) ≤ 40)) (decide (t.toList = [])) (decide (l.length = 0)) (decide (s.length = 0)) (decide (f.length = 0)) (textsB l 16) (setB l) (scoresB s) (fieldsB f)) := by
  have hT := l2Texts_ev l hl
  have hT' := listOk_ev l hl
  have hS := impl_SetOk_ev l hl
  have hC := impl_ScoresOk_ev s hs
  have hF := impl_FieldsOk_ev f hf
  refine Ev.step (g := fun k => impl_EntryOk.j0 k _ _ _ _ _ _ _ _) (fun k => by rw [impl_EntryOk.j0]) (neg (by decide) ?_)
  generalize hbl : decide (l.length = 0) = bl
  generalize hbs : decide (s.length = 0) = bs
  generalize hbf : decide (f.length = 0) = bf
  generalize hbt : decide (t.toList = ([] : List UInt8)) = bt
  generalize hz : decide ((t.size : Int) ≤ 40) = sz
  have z1 : ((t.size : Int) ≤ 40) = (sz = true) := by rw [← hz, decide_eq_true_iff]
  have a1 := len_pos l.length
  have a2 := len_pos s.length
  have a3 := len_pos f.length
  have b1 := len_zero l.length
  have b2 := len_zero s.length
  have b3 := len_zero f.length
  have c1 := len_beq f.length
  have d1 := len_dec f.length
  have d2 := len_dec s.length
  have e1 := text_nil t
  rw [hbl] at a1 b1
  rw [hbs] at a2 b2 d2
  rw [hbf] at a3 b3 c1 d1
  rw [hbt] at e1
  generalize textsB l 16 = T at hT hT'
  generalize setB l = S at hS
  generalize scoresB s = C at hC
  generalize fieldsB f = F at hF
  clear hbl hbs hbf hbt hz
  simp only [a1, a2, a3, b1, b2, b3, c1, d1, d2, e1, z1]
  clear a1 a2 a3 b1 b2 b3 c1 d1 d2 e1 z1
  repeat' first
    | refine Ev.bind hT ?_
    | refine Ev.bind hT' ?_
    | refine Ev.bind hS ?_
    | refine Ev.bind hC ?_
    | refine Ev.bind hF ?_
    | (refine ret' ?_; simp_all [kindB]; done)
    | refine both (fun _ => ?_) (fun _ => ?_)
theorem impl_EntryOk_ev (key : ByteArray) (exp kd : Int) (t : ByteArray) (l : List ByteArray) (s : List Score) (f : List Pair) (hl : l.length ≤ maxLen) (hs : s.length ≤ maxLen) (hf : f.length ≤ maxLen) :
    Ev (fun k => impl_EntryOk.f k key exp kd t l s f) (entryB key exp kd t l s f) := by
  have hj := impl_EntryOk_j0 key exp kd t l s f hl hs hf
  unfold impl_EntryOk.f entryB
  have no : Ev (fun k => impl_EntryOk.j0 k true key exp kd t l s f) false := by
    refine Ev.step (g := fun k => impl_EntryOk.j0 k _ _ _ _ _ _ _ _) (fun k => by rw [impl_EntryOk.j0]) ?_
    exact pos rfl (ret _)
  have hK : Ev (fun _ => spec_l4Key.f key) (inB (key.size : Int) 1 12) := by
    unfold spec_l4Key.f
    exact Ev.bind (l1In_ev _ _ _) (ret _)
  have hK' : Ev (fun _ => impl_keyOk.f key) (inB (key.size : Int) 1 12) := by
    unfold impl_keyOk.f
    exact Ev.bind (within_ev _ _ _) (ret _)
  have hE := l1In_ev exp 0 2000000
  have hE' := within_ev exp 0 2000000
  first
    | refine Ev.bind hK ?_
    | refine Ev.bind hK' ?_
  cases inB (key.size : Int) 1 12 with
  | false => exact neg (by decide) no
  | true =>
    refine pos rfl ?_
    first
      | refine Ev.bind hE ?_
      | refine Ev.bind hE' ?_
    cases inB exp 0 2000000 with
    | false => exact no
    | true => exact hj
end Go.Proofs.Ytnkgmcgbbldkgaa.Q
namespace Go.Proofs.Ytnkgmcgbbldkgaa.Q
open Go.RowKit Go.Proofs.YtnkgmcgbbldkgaaW.PrintWords Go.Proofs.YtnkgmcgbbldkgaaW.PrintLast Go.Proofs.Ytnkgmcgbbldkgaa.P
abbrev LEntry := S26
abbrev Entry := S32
theorem rdLEntry_lt (l : List LEntry) (i : Nat) (h : i < l.length) : rd_T26 l (i : Int) = l[i] := by
  simp [rd_T26, List.getD_eq_getElem?_getD, h]
theorem rdEntry_lt (l : List Entry) (i : Nat) (h : i < l.length) : rd_T32 l (i : Int) = l[i] := by
  simp [rd_T32, List.getD_eq_getElem?_getD, h]
def entryIn (x : LEntry) : Prop := x.f0.size ≤ maxLen ∧ x.f3.size ≤ maxLen ∧ (x.f4.length ≤ maxLen ∧ ∀ s ∈ x.f4, s.size ≤ maxLen) ∧ (x.f5.length ≤ maxLen ∧ ∀ s ∈ x.f5, s.f0.size ≤ maxLen ∧ (Lit.int .i64 s.f1).wf = true) ∧ (x.f6.length ≤ maxLen ∧ ∀ s ∈ x.f6, s.f0.size ≤ maxLen ∧ s.f1.size ≤ maxLen)
def entrySmall (x : LEntry) : Prop := x.f4.length ≤ 1048576 ∧ x.f5.length ≤ 1048576 ∧ x.f6.length ≤ 1048576
theorem szEntry_ev (x : LEntry) (hx : entryIn x) (c : Int) (h0 : 0 ≤ c) (h1 : c ≤ 1048576) :
    ∃ v, Ev (fun k => laws_szEntry.f k x.f0 x.f1 x.f2 x.f3 x.f4 x.f5 x.f6 c) v ∧ v ≤ c ∧ -1 ≤ v ∧ (0 ≤ v → entrySmall x) := by
  obtain ⟨hk, ht, ⟨hl, hls⟩, ⟨hs, hss⟩, ⟨hf, hfs⟩⟩ := hx
  unfold laws_szEntry.f
  unfold maxLen at hk ht
  rw [wrap_id (x := c - (x.f0.size : Int)) (by omega) (by omega)]
  by_cases c1 : c - (x.f0.size : Int) < 0
  · exact ⟨-1, pos c1 (ret _), by omega, by omega, by omega⟩
  · rw [wrap_id (x := c - (x.f0.size : Int) - (x.f3.size : Int)) (by omega) (by omega)]
    by_cases c2 : c - (x.f0.size : Int) - (x.f3.size : Int) < 0
    · exact ⟨-1, neg c1 (pos c2 (ret _)), by omega, by omega, by omega⟩
    · obtain ⟨v1, hv1, p1, q1, r1⟩ := szStringS_ev x.f4 hl hls (c - (x.f0.size : Int) - (x.f3.size : Int)) (by omega) (by omega)
      by_cases c3 : v1 < 0
      · exact ⟨-1, neg c1 (neg c2 (Ev.bind hv1 (pos c3 (ret _)))), by omega, by omega, by omega⟩
      · obtain ⟨v2, hv2, p2, q2, r2⟩ := szScoreS_ev x.f5 hs hss v1 (by omega) (by omega)
        by_cases c4 : v2 < 0
        · exact ⟨-1, neg c1 (neg c2 (Ev.bind hv1 (neg c3 (Ev.bind hv2 (pos c4 (ret _)))))), by omega, by omega, by omega⟩
        · obtain ⟨v3, hv3, p3, q3, r3⟩ := szPairS_ev x.f6 hf hfs v2 (by omega) (by omega)
          by_cases c5 : v3 < 0
          · exact ⟨-1, neg c1 (neg c2 (Ev.bind hv1 (neg c3 (Ev.bind hv2 (neg c4 (Ev.bind hv3 (pos c5 (ret _)))))))), by omega, by omega, by omega⟩
          · exact ⟨v3, neg c1 (neg c2 (Ev.bind hv1 (neg c3 (Ev.bind hv2 (neg c4 (Ev.bind hv3 (neg c5 (ret _)))))))), by omega, by omega, fun _ => ⟨(r1 (by omega)).1, (r2 (by omega)).1, (r3 (by omega)).1⟩⟩
theorem szEntryS_l0 (l : List LEntry) (hl : l.length ≤ maxLen) (hs : ∀ x ∈ l, entryIn x) (d : Nat) : ∀ (i : Nat) (c : Int), i + d = l.length → 0 ≤ c → c ≤ 1048576 →
    ∃ v, Ev (fun k => laws_szEntryS.l0 k l c (i : Int)) v ∧ v ≤ c ∧ -1 ≤ v ∧ (0 ≤ v → ∀ j (h : j < l.length), i ≤ j → entrySmall l[j]) := by
  unfold maxLen at hl
  induction d with
  | zero =>
    intro i c hi h0 h1
    exact ⟨c, Ev.step (g := fun k => laws_szEntryS.l0 k _ _ _) (fun k => by rw [laws_szEntryS.l0]) (neg (by omega) (ret c)), by omega, by omega, fun _ j hj hij => by omega⟩
  | succ d ih =>
    intro i c hi h0 h1
    have hlt : i < l.length := by omega
    obtain ⟨v, hv, hv1, hv2, hv3⟩ := szEntry_ev _ (hs _ (List.getElem_mem hlt)) c h0 h1
    by_cases hneg : v < 0
    · refine ⟨-1, Ev.step (g := fun k => laws_szEntryS.l0 k _ _ _) (fun k => by rw [laws_szEntryS.l0]) (pos (by omega) (pos (by omega) ?_)), by omega, by omega, by omega⟩
      rw [rdLEntry_lt _ _ hlt]
      exact Ev.bind hv (pos hneg (ret (-1)))
    · obtain ⟨u, hu, h2, h3, h4⟩ := ih (i + 1) v (by omega) (by omega) (by omega)
      refine ⟨u, Ev.step (g := fun k => laws_szEntryS.l0 k _ _ _) (fun k => by rw [laws_szEntryS.l0]) (pos (by omega) (pos (by omega) ?_)), by omega, h3, fun h5 j hj hij => ?_⟩
      · rw [rdLEntry_lt _ _ hlt, wrap_id (x := (i : Int) + 1) (by omega) (by omega)]
        exact Ev.bind hv (neg hneg hu)
      · rcases Nat.eq_or_lt_of_le hij with rfl | hij
        · exact hv3 (by omega)
        · exact h4 h5 j hj hij
theorem szEntryS_ev (l : List LEntry) (hl : l.length ≤ maxLen) (hs : ∀ x ∈ l, entryIn x) (c : Int) (h0 : 0 ≤ c) (h1 : c ≤ 1048576) :
    ∃ v, Ev (fun k => laws_szEntryS.f k l c) v ∧ v ≤ c ∧ -1 ≤ v ∧ (0 ≤ v → l.length ≤ 1048576 ∧ ∀ x ∈ l, entrySmall x) := by
  have hl' := hl
  unfold maxLen at hl'
  by_cases h : c - (l.length : Int) < 0
  · refine ⟨-1, ?_, by omega, by omega, by omega⟩
    unfold laws_szEntryS.f
    refine pos ?_ (ret _)
    rw [wrap_id (by omega) (by omega)]
    exact h
  · obtain ⟨v, hv, h2, h3, h4⟩ := szEntryS_l0 l hl hs l.length 0 (c - (l.length : Int)) (by omega) (by omega) (by omega)
    refine ⟨v, ?_, by omega, h3, fun h5 => ⟨by omega, fun s hs => ?_⟩⟩
    · unfold laws_szEntryS.f
      rw [wrap_id (by omega) (by omega)]
      exact neg h hv
    · obtain ⟨j, hj, rfl⟩ := List.getElem_of_mem hs
      exact h4 h5 j hj (by omega)
def cvEntry (x : LEntry) : Entry := ⟨x.f0, x.f1, x.f2, x.f3, x.f4, x.f5.map cvScore, x.f6.map cvPair⟩
theorem toEntry_ev (x : LEntry) (h : entrySmall x) : Ev (fun k => laws_toEntry.f k x.f0 x.f1 x.f2 x.f3 x.f4 x.f5 x.f6) (x.f0, x.f1, x.f2, x.f3, x.f4, x.f5.map cvScore, x.f6.map cvPair) := by
  obtain ⟨a, b, c⟩ := h
  unfold laws_toEntry.f
  exact Ev.bind (toStringS_ev x.f4 (by omega)) (Ev.bind (toScoreS_ev x.f5 b) (Ev.bind (toPairS_ev x.f6 c) (ret _)))
theorem toEntryS_l0 (l : List LEntry) (hl : l.length ≤ maxLen) (hs : ∀ x ∈ l, entrySmall x) (d : Nat) : ∀ (i : Nat) (x : List Entry), i + d = l.length → x.length = l.length → Ev (fun k => laws_toEntryS.l0 k l x (i : Int)) (x.take i ++ (l.drop i).map cvEntry) := by
  unfold maxLen at hl
  induction d with
  | zero =>
    intro i x hi hx
    refine Ev.step (g := fun k => laws_toEntryS.l0 k _ _ _) (fun k => by rw [laws_toEntryS.l0]) (neg (by omega) (ret' ?_))
    rw [List.drop_of_length_le (by omega), List.take_of_length_le (by omega), List.map_nil, List.append_nil]
  | succ d ih =>
    intro i x hi hx
    have hlt : i < l.length := by omega
    refine Ev.step (g := fun k => laws_toEntryS.l0 k _ _ _) (fun k => by rw [laws_toEntryS.l0]) (pos (by omega) (pos (by omega) ?_))
    rw [rdLEntry_lt _ _ hlt, wrap_id (by omega) (by omega)]
    refine Ev.bind (toEntry_ev _ (hs _ (List.getElem_mem hlt))) (pos (by omega) (of_eq (ih (i + 1) _ (by omega) (by simp [hx])) ?_))
    rw [List.drop_eq_getElem_cons hlt, Int.toNat_natCast, List.take_set, List.take_succ_eq_append_getElem (by omega), List.set_append_right _ _ (by simp; omega), List.map_cons]
    simp [show min i x.length = i by omega]
    rfl
theorem toEntryS_ev (l : List LEntry) (hl : l.length ≤ 1048576) (hs : ∀ x ∈ l, entrySmall x) : Ev (fun k => laws_toEntryS.f k l) (l.map cvEntry) := by
  unfold laws_toEntryS.f
  refine pos (by omega) (pos (by omega) ?_)
  exact of_eq (toEntryS_l0 l (by unfold maxLen; omega) hs l.length 0 _ (by omega) (by simp)) (by simp)
def entryLen (x : Entry) : Prop := x.f4.length ≤ maxLen ∧ x.f5.length ≤ maxLen ∧ x.f6.length ≤ maxLen
theorem eqEntry_same (x : Entry) (h : entryLen x) : Ev (fun k => laws_eqEntry.f k x.f0 x.f1 x.f2 x.f3 x.f4 x.f5 x.f6 x.f0 x.f1 x.f2 x.f3 x.f4 x.f5 x.f6) true := by
  obtain ⟨a, b, c⟩ := h
  unfold laws_eqEntry.f
  refine pos rfl (pos rfl (pos rfl (pos rfl (Ev.bind (eqStringS_same x.f4 a) (pos rfl (Ev.bind (eqScoreS_same x.f5 b) (pos rfl (Ev.bind (eqPairS_same x.f6 c) (pos rfl (ret _))))))))))
theorem eqEntryS_l0 (l : List Entry) (hl : l.length ≤ maxLen) (hs : ∀ x ∈ l, entryLen x) (d : Nat) : ∀ (i : Nat), i + d = l.length → Ev (fun k => laws_eqEntryS.l0 k l l (i : Int)) true := by
  unfold maxLen at hl
  induction d with
  | zero =>
    intro i hi
    exact Ev.step (g := fun k => laws_eqEntryS.l0 k _ _ _) (fun k => by rw [laws_eqEntryS.l0]) (neg (by omega) (ret _))
  | succ d ih =>
    intro i hi
    have hlt : i < l.length := by omega
    refine Ev.step (g := fun k => laws_eqEntryS.l0 k _ _ _) (fun k => by rw [laws_eqEntryS.l0]) (pos (by omega) (pos (by omega) (pos (by omega) ?_)))
    rw [rdEntry_lt _ _ hlt, wrap_id (by omega) (by omega)]
    exact Ev.bind (eqEntry_same _ (hs _ (List.getElem_mem hlt))) (pos rfl (ih (i + 1) (by omega)))
theorem eqEntryS_same (l : List Entry) (hl : l.length ≤ maxLen) (hs : ∀ x ∈ l, entryLen x) : Ev (fun k => laws_eqEntryS.f k l l) true := by
  unfold laws_eqEntryS.f
  exact pos rfl (eqEntryS_l0 l hl hs l.length 0 (by omega))
def stepB (now : Int) (l : List Entry) (i : Nat) : Bool :=
  entryB (rd_T32 l (i : Int)).f0 (rd_T32 l (i : Int)).f1 (rd_T32 l (i : Int)).f2 (rd_T32 l (i : Int)).f3 (rd_T32 l (i : Int)).f4 (rd_T32 l (i : Int)).f5 (rd_T32 l (i : Int)).f6 &&
    ((decide (i = 0) || lt (rd_T32 l ((i - 1 : Nat) : Int)).f0 (rd_T32 l (i : Int)).f0) && (decide ((rd_T32 l (i : Int)).f1 = 0) || !decide ((rd_T32 l (i : Int)).f1 ≤ now)))
def baseB (now : Int) (l : List Entry) : Bool := (List.range' 0 l.length).all (stepB now l) && (inB now 0 1000000 && decide ((l.length : Int) ≤ 12))
theorem spec_BaseOk_l0 (now : Int) (l : List Entry) (hl : l.length ≤ maxLen) (hs : ∀ x ∈ l, entryLen x) (d : Nat) : ∀ (i : Nat), i + d = l.length → Ev (fun k => spec_BaseOk.l0 k (i : Int) now l) ((List.range' i d).all (stepB now l) && (inB now 0 1000000 && decide ((l.length : Int) ≤ 12))) := by
  have hl' := hl
  unfold maxLen at hl'
  induction d with
  | zero =>
    intro i hi
    refine Ev.step (g := fun k => spec_BaseOk.l0 k _ _ _) (fun k => by rw [spec_BaseOk.l0]) (neg (by omega) (Ev.bind (l1In_ev _ _ _) ?_))
    cases inB now 0 1000000 with
    | true => exact pos rfl (ret' (by simp))
    | false => exact neg (by decide) (ret' (by simp))
  | succ d ih =>
    intro i hi
    have hlt : i < l.length := by omega
    obtain ⟨a, b, c⟩ := hs _ (List.getElem_mem hlt)
    rw [← rdEntry_lt l i hlt] at a b c
    have hE := spec_EntryOk_ev (rd_T32 l (i : Int)).f0 (rd_T32 l (i : Int)).f1 (rd_T32 l (i : Int)).f2 (rd_T32 l (i : Int)).f3 (rd_T32 l (i : Int)).f4 (rd_T32 l (i : Int)).f5 (rd_T32 l (i : Int)).f6 a b c
    have ih := ih (i + 1) (by omega)
    rw [List.range'_succ, List.all_cons, Bool.and_assoc]
    generalize ((List.range' (i + 1) d).all (stepB now l) && (inB now 0 1000000 && decide ((l.length : Int) ≤ 12))) = rest at ih
    have jj : ∀ q : Bool, Ev (fun k => spec_BaseOk.j1 k (i : Int) q now l) (!q && rest) := by
      intro q
      refine Ev.step (g := fun k => spec_BaseOk.j1 k _ _ _ _) (fun k => by rw [spec_BaseOk.j1]) ?_
      rw [wrap_id (x := (i : Int) + 1) (by omega) (by omega)]
      cases q with
      | true => exact pos rfl (ret' (by simp))
      | false => exact neg (by decide) (of_eq ih (by simp))
    refine Ev.step (g := fun k => spec_BaseOk.l0 k _ _ _) (fun k => by rw [spec_BaseOk.l0]) (pos (by omega) (pos (by omega) (Ev.bind hE ?_)))
    unfold stepB
    cases hB : entryB (rd_T32 l (i : Int)).f0 (rd_T32 l (i : Int)).f1 (rd_T32 l (i : Int)).f2 (rd_T32 l (i : Int)).f3 (rd_T32 l (i : Int)).f4 (rd_T32 l (i : Int)).f5 (rd_T32 l (i : Int)).f6 with
    | false => exact neg (by decide) (of_eq (jj true) (by simp))
    | true =>
      refine pos rfl ?_
      by_cases h0 : i = 0
      · have hn : ¬ (i : Int) > 0 := by omega
        refine both (fun h => neg hn (of_eq (jj false) (by rw [decide_eq_true h0]; simp [h]))) (fun h => both (fun h' => of_eq (jj true) (by rw [decide_eq_true h0]; simp [h, h'])) (fun h' => neg hn (of_eq (jj false) (by rw [decide_eq_true h0]; simp [h, h']))))
      · have hp : (i : Int) > 0 := by omega
        have e : wrap64 ((i : Int) - 1) = ((i - 1 : Nat) : Int) := by rw [wrap_id (by omega) (by omega)]; omega
        rw [e]
        have q1 : (0 : Int) ≤ ((i - 1 : Nat) : Int) := by omega
        have q2 : ((i - 1 : Nat) : Int) < (l.length : Int) := by omega
        refine both (fun h => pos hp (pos q1 (pos q2 (of_eq (jj _) ?_)))) (fun h => both (fun h' => of_eq (jj true) (by simp [h, h'])) (fun h' => pos hp (pos q1 (pos q2 (of_eq (jj _) ?_)))))
        · simp [h, h0, lt]
        · simp [h, h', h0, lt]
theorem spec_BaseOk_ev (now : Int) (l : List Entry) (hl : l.length ≤ maxLen) (hs : ∀ x ∈ l, entryLen x) : Ev (fun k => spec_BaseOk.f k now l) (baseB now l) := spec_BaseOk_l0 now l hl hs l.length 0 (by omega)
theorem impl_BaseOk_l0 (now : Int) (l : List Entry) (hl : l.length ≤ maxLen) (hs : ∀ x ∈ l, entryLen x) (d : Nat) : ∀ (i : Nat), i + d = l.length → Ev (fun k => impl_BaseOk.l0 k l (l.length : Int) (i : Int) now l) ((List.range' i d).all (stepB now l)) := by
  have hl' := hl
  unfold maxLen at hl'
  induction d with
  | zero =>
    intro i hi
    exact Ev.step (g := fun k => impl_BaseOk.l0 k _ _ _ _ _) (fun k => by rw [impl_BaseOk.l0]) (neg (by omega) (ret' (by simp)))
  | succ d ih =>
    intro i hi
    have hlt : i < l.length := by omega
    obtain ⟨a, b, c⟩ := hs _ (List.getElem_mem hlt)
    rw [← rdEntry_lt l i hlt] at a b c
    have hE := impl_EntryOk_ev (rd_T32 l (i : Int)).f0 (rd_T32 l (i : Int)).f1 (rd_T32 l (i : Int)).f2 (rd_T32 l (i : Int)).f3 (rd_T32 l (i : Int)).f4 (rd_T32 l (i : Int)).f5 (rd_T32 l (i : Int)).f6 a b c
    have ih := ih (i + 1) (by omega)
    rw [List.range'_succ, List.all_cons]
    generalize (List.range' (i + 1) d).all (stepB now l) = rest at ih
    have jj : ∀ q : Bool, Ev (fun k => impl_BaseOk.j2 k l (l.length : Int) (i : Int) q now l) (!q && rest) := by
      intro q
      refine Ev.step (g := fun k => impl_BaseOk.j2 k _ _ _ _ _ _) (fun k => by rw [impl_BaseOk.j2]) ?_
      rw [wrap_id (x := (i : Int) + 1) (by omega) (by omega)]
      cases q with
      | true => exact pos rfl (ret' (by simp))
      | false => exact neg (by decide) (of_eq ih (by simp))
    refine Ev.step (g := fun k => impl_BaseOk.l0 k _ _ _ _ _) (fun k => by rw [impl_BaseOk.l0]) (pos (by omega) (pos (by omega) (pos (by omega) (Ev.bind hE ?_))))
    unfold stepB
    cases hB : entryB (rd_T32 l (i : Int)).f0 (rd_T32 l (i : Int)).f1 (rd_T32 l (i : Int)).f2 (rd_T32 l (i : Int)).f3 (rd_T32 l (i : Int)).f4 (rd_T32 l (i : Int)).f5 (rd_T32 l (i : Int)).f6 with
    | false => exact neg (by decide) (of_eq (jj true) (by simp))
    | true =>
      refine pos rfl ?_
      by_cases h0 : i = 0
      · have hn : ¬ (i : Int) > 0 := by omega
        exact neg hn (both (fun h => of_eq (jj false) (by rw [decide_eq_true h0]; simp [h])) (fun h => of_eq (jj _) (by rw [decide_eq_true h0]; simp [h])))
      · have hp : (i : Int) > 0 := by omega
        have e : wrap64 ((i : Int) - 1) = ((i - 1 : Nat) : Int) := by rw [wrap_id (by omega) (by omega)]; omega
        rw [e]
        have q1 : (0 : Int) ≤ ((i - 1 : Nat) : Int) := by omega
        have q2 : ((i - 1 : Nat) : Int) < (l.length : Int) := by omega
        refine pos hp (pos q1 (pos q2 (both (fun g => both (fun h => of_eq (jj false) ?_) (fun h => of_eq (jj _) ?_)) (fun g => of_eq (jj true) ?_))))
        · simp [h, h0, lt, g]
        · simp [h, h0, lt, g]
        · simp [h0, lt, g]
theorem impl_BaseOk_ev (now : Int) (l : List Entry) (hl : l.length ≤ maxLen) (hs : ∀ x ∈ l, entryLen x) : Ev (fun k => impl_BaseOk.f k now l) (baseB now l) := by
  have hl0 := impl_BaseOk_l0 now l hl hs l.length 0 (by omega)
  have hj : ∀ q : Bool, Ev (fun k => impl_BaseOk.j0 k q now l) (!q && (List.range' 0 l.length).all (stepB now l)) := by
    intro q
    refine Ev.step (g := fun k => impl_BaseOk.j0 k _ _ _) (fun k => by rw [impl_BaseOk.j0]) ?_
    cases q with
    | true => exact pos rfl (ret' (by simp))
    | false => exact neg (by decide) (of_eq hl0 (by simp))
  unfold impl_BaseOk.f baseB
  refine Ev.bind (within_ev _ _ _) ?_
  cases inB now 0 1000000 with
  | false => exact neg (by decide) (of_eq (hj true) (by simp))
  | true =>
    refine pos rfl (of_eq (hj _) ?_)
    rw [Bool.true_and, Bool.and_comm]
    congr 1
    rw [← decide_not]
    exact decide_eq_decide.2 (by omega)
theorem of_eq' {α : Type} {g g' : Nat → Option α} {r : α} (h : Ev g r) (e : g' = g) : Ev g' r := e ▸ h
def cntE (x : Entry) : Nat := 4 + x.f4.length + 2 * x.f5.length + 2 * x.f6.length
def totE (l : List Entry) : Nat := (l.map cntE).sum
noncomputable def markE (n : Int) (x : Entry) : Entry := ⟨markT n, n + 1, n + 2, markT (n + 3), marks (n + 4) x.f4.length, marksS (n + 4 + x.f4.length) x.f5.length, marksP (n + 4 + x.f4.length + 2 * x.f5.length) x.f6.length⟩
noncomputable def marksE : Int → List Entry → List Entry
  | _, [] => []
  | n, x :: r => markE n x :: marksE (n + cntE x) r
def entryCap (x : Entry) : Prop := x.f4.length ≤ 1048576 ∧ x.f5.length ≤ 1048576 ∧ x.f6.length ≤ 1048576
theorem totE_cons (x : Entry) (r : List Entry) : totE (x :: r) = cntE x + totE r := by simp [totE]
theorem totE_le (l : List Entry) (h : ∀ x ∈ l, entryCap x) : totE l ≤ l.length * 5242884 := by
  induction l with
  | nil => simp [totE]
  | cons x r ih =>
    have h1 := ih (fun y hy => h y (List.mem_cons_of_mem _ hy))
    obtain ⟨a, b, c⟩ := h x List.mem_cons_self
    rw [totE_cons, List.length_cons]
    unfold cntE
    omega
theorem rdE_app (done : List Entry) (x : Entry) (r : List Entry) : rd_T32 (done ++ x :: r) ((done.length : Nat) : Int) = x := by
  simp [rd_T32, List.getD_eq_getElem?_getD]
theorem markEntryS_l0 (rest : List Entry) : ∀ (done : List Entry) (n : Int), 0 ≤ n → n + totE rest ≤ 4611686018427387904 → done.length + rest.length ≤ 2097152 →
    Ev (fun k => laws_markEntryS.l0 k (done ++ rest) n (done.length : Int)) (n + totE rest, done ++ marksE n rest) := by
  induction rest with
  | nil =>
    intro done n h0 h1 h2
    refine Ev.step (g := fun k => laws_markEntryS.l0 k _ _ _) (fun k => by rw [laws_markEntryS.l0]) (neg (by simp) (ret' ?_))
    simp [totE, marksE]
  | cons x r ih =>
    intro done n h0 h1 h2
    rw [totE_cons] at h1 ⊢
    rw [List.length_cons] at h2
    have hc : cntE x = 4 + x.f4.length + 2 * x.f5.length + 2 * x.f6.length := rfl
    refine Ev.step (g := fun k => laws_markEntryS.l0 k _ _ _) (fun k => by rw [laws_markEntryS.l0]) (pos (by rw [List.length_append, List.length_cons]; omega) (pos (by omega) ?_))
    rw [rdE_app, wrap_id (x := n + 1) (by omega) (by omega), wrap_id (x := n + 1 + 1) (by omega) (by omega), wrap_id (x := n + 1 + 1 + 1) (by omega) (by omega), wrap_id (x := n + 1 + 1 + 1 + 1) (by omega) (by omega), wrap_id (x := (done.length : Int) + 1) (by omega) (by omega)]
    refine Ev.bind (markT_ev _ (by omega)) (Ev.bind (markT_ev _ (by omega)) (Ev.bind (markStringS_ev x.f4 (n + 1 + 1 + 1 + 1) (by omega) (by omega)) ?_))
    refine Ev.bind (markScoreS_ev x.f5 _ (by omega) (by omega)) (Ev.bind (markPairS_ev x.f6 _ (by omega) (by omega)) ?_)
    have h := ih (done ++ [markE n x]) (n + cntE x) (by omega) (by omega) (by rw [List.length_append, List.length_singleton]; omega)
    have e1 : (done ++ x :: r).set (done.length : Int).toNat (markE n x) = done ++ [markE n x] ++ r := by simp
    rw [marksE]
    refine of_eq (r := (n + cntE x + totE r, done ++ [markE n x] ++ marksE (n + cntE x) r)) ?_ (by simp; omega)
    rw [← e1, List.length_append, List.length_singleton] at h
    unfold markE at h
    rw [show n + 1 + 1 = n + 2 by omega, show n + 2 + 1 = n + 3 by omega, show n + 3 + 1 = n + 4 by omega]
    refine of_eq' h ?_
    funext k
    rw [show n + 4 + (x.f4.length : Int) + 2 * (x.f5.length : Int) + 2 * (x.f6.length : Int) = n + (cntE x : Int) by rw [hc]; omega]
    rfl
theorem markEntryS_ev (l : List Entry) (hl : l.length ≤ 1048576) (hs : ∀ x ∈ l, entryCap x) : Ev (fun k => laws_markEntryS.f k l 1) (1 + totE l, marksE 1 l) := by
  have h1 := totE_le l hs
  have h2 : l.length * 5242884 ≤ 1048576 * 5242884 := Nat.mul_le_mul_right _ hl
  simpa [laws_markEntryS.f] using markEntryS_l0 l [] 1 (by omega) (by omega) (by simp; omega)
theorem heldEntryS_l0 (rest : List Entry) : ∀ (done : List Entry) (n : Int), 0 ≤ n → n + totE rest ≤ 4611686018427387904 → done.length + rest.length ≤ 2097152 →
    Ev (fun k => laws_heldEntryS.l0 k (done ++ marksE n rest) n (done.length : Int)) (n + totE rest) := by
  induction rest with
  | nil =>
    intro done n h0 h1 h2
    refine Ev.step (g := fun k => laws_heldEntryS.l0 k _ _ _) (fun k => by rw [laws_heldEntryS.l0]) (neg (by simp [marksE]) (ret' ?_))
    simp [totE]
  | cons x r ih =>
    intro done n h0 h1 h2
    rw [totE_cons] at h1 ⊢
    rw [List.length_cons] at h2
    have hc : cntE x = 4 + x.f4.length + 2 * x.f5.length + 2 * x.f6.length := rfl
    rw [marksE]
    refine Ev.step (g := fun k => laws_heldEntryS.l0 k _ _ _) (fun k => by rw [laws_heldEntryS.l0]) (pos (by rw [List.length_append, List.length_cons]; omega) (pos (by omega) ?_))
    rw [rdE_app, wrap_id (x := n + 1) (by omega) (by omega), wrap_id (x := n + 1 + 1) (by omega) (by omega), wrap_id (x := n + 1 + 1 + 1) (by omega) (by omega), wrap_id (x := n + 1 + 1 + 1 + 1) (by omega) (by omega), wrap_id (x := (done.length : Int) + 1) (by omega) (by omega)]
    rw [show n + 1 + 1 = n + 2 by omega, show n + 2 + 1 = n + 3 by omega, show n + 3 + 1 = n + 4 by omega]
    refine Ev.bind (markT_ev _ (by omega)) (pos rfl (pos rfl (pos rfl (Ev.bind (markT_ev _ (by omega)) (pos rfl (Ev.bind (heldStringS_ev (n + 4) x.f4.length (by omega) (by omega)) (neg (by omega) ?_)))))))
    refine Ev.bind (heldScoreS_ev (n + 4 + x.f4.length) x.f5.length (by omega) (by omega)) (neg (by omega) (Ev.bind (heldPairS_ev (n + 4 + x.f4.length + 2 * x.f5.length) x.f6.length (by omega) (by omega)) (neg (by omega) ?_)))
    have h := ih (done ++ [markE n x]) (n + cntE x) (by omega) (by omega) (by rw [List.length_append, List.length_singleton]; omega)
    rw [List.length_append, List.length_singleton, List.append_assoc, List.singleton_append] at h
    refine of_eq (r := n + cntE x + totE r) ?_ (by omega)
    refine of_eq' h ?_
    funext k
    rw [show n + 4 + (x.f4.length : Int) + 2 * (x.f5.length : Int) + 2 * (x.f6.length : Int) = n + (cntE x : Int) by rw [hc]; omega]
    rfl
theorem heldEntryS_ev (l : List Entry) (hl : l.length ≤ 1048576) (hs : ∀ x ∈ l, entryCap x) : Ev (fun k => laws_heldEntryS.f k (marksE 1 l) 1) (1 + totE l) := by
  have h1 := totE_le l hs
  have h2 : l.length * 5242884 ≤ 1048576 * 5242884 := Nat.mul_le_mul_right _ hl
  simpa [laws_heldEntryS.f] using heldEntryS_l0 l [] 1 (by omega) (by omega) (by simp; omega)
theorem markBase_ev (now : Int) (l : List Entry) (hl : l.length ≤ 1048576) (hs : ∀ x ∈ l, entryCap x) : Ev (fun k => laws_markBase.f k now l 1) (1 + totE l, marksE 1 l) := markEntryS_ev l hl hs
theorem heldBase_ev (now : Int) (l : List Entry) (hl : l.length ≤ 1048576) (hs : ∀ x ∈ l, entryCap x) : Ev (fun k => laws_heldBase.f k now (marksE 1 l) 1) (1 + totE l) := by
  unfold laws_heldBase.f
  exact Ev.bind (heldEntryS_ev l hl hs) (neg (by omega) (ret _))
theorem eqBase_same (now : Int) (l : List Entry) (hl : l.length ≤ 1048576) (hs : ∀ x ∈ l, entryCap x) : Ev (fun k => laws_eqBase.f k now l now l) true := by
  unfold laws_eqBase.f
  exact pos rfl (Ev.bind (eqEntryS_same l (by unfold maxLen; omega) (fun x hx => by obtain ⟨a, b, c⟩ := hs x hx; exact ⟨by unfold maxLen; omega, by unfold maxLen; omega, by unfold maxLen; omega⟩)) (pos rfl (ret _)))
theorem toBase_ev (now : Int) (l : List LEntry) (hl : l.length ≤ 1048576) (hs : ∀ x ∈ l, entrySmall x) : Ev (fun k => laws_toBase.f k now l) (now, l.map cvEntry) := by
  unfold laws_toBase.f
  exact Ev.bind (toEntryS_ev l hl hs) (ret _)
theorem szBase_ev (now : Int) (l : List LEntry) (hl : l.length ≤ maxLen)
    (hs : ∀ x ∈ l, x.f0.size ≤ maxLen ∧ (Lit.int .i64 x.f1).wf = true ∧ (Lit.int .i64 x.f2).wf = true ∧ x.f3.size ≤ maxLen ∧ (x.f4.length ≤ maxLen ∧ ∀ s ∈ x.f4, s.size ≤ maxLen) ∧ (x.f5.length ≤ maxLen ∧ ∀ s ∈ x.f5, s.f0.size ≤ maxLen ∧ (Lit.int .i64 s.f1).wf = true) ∧ (x.f6.length ≤ maxLen ∧ ∀ s ∈ x.f6, s.f0.size ≤ maxLen ∧ s.f1.size ≤ maxLen)) :
    ∃ v, Ev (fun k => laws_szBase.f k now l 1048576) v ∧ (¬ v < 0 → l.length ≤ 1048576 ∧ ∀ x ∈ l, entrySmall x) := by
  obtain ⟨v, hv, h1, h2, h3⟩ := szEntryS_ev l hl (fun x hx => by
    obtain ⟨a, _, _, b, c, d, e⟩ := hs x hx
    exact ⟨a, b, c, d, e⟩) 1048576 (by omega) (by omega)
  refine ⟨if v < 0 then -1 else v, ?_, fun h => h3 ?_⟩
  · unfold laws_szBase.f
    exact Ev.bind hv (both (fun h => ret' (if_pos h).symm) (fun h => ret' (if_neg h).symm))
  · by_cases q : v < 0
    · rw [if_pos q] at h; omega
    · omega
theorem cvEntry_cap {x : LEntry} (h : entrySmall x) : entryCap (cvEntry x) := ⟨h.1, by show (x.f5.map cvScore).length ≤ _; rw [List.length_map]; exact h.2.1, by show (x.f6.map cvPair).length ≤ _; rw [List.length_map]; exact h.2.2⟩
theorem cap_len {x : Entry} (h : entryCap x) : entryLen x := ⟨by have := h.1; unfold maxLen; omega, by have := h.2.1; unfold maxLen; omega, by have := h.2.2; unfold maxLen; omega⟩
theorem l2Copy_ev (l : List ByteArray) (h : l.length < 8796093022208) : Ev (fun _ => spec_l2Copy.f l) l := by
  unfold spec_l2Copy.f
  refine Ev.bind (ret _) (pos ?_ (ret' rfl))
  simpa using h
theorem copied_ev (l : List ByteArray) (h : l.length < 8796093022208) : Ev (fun _ => impl_copied.f l) l := by
  unfold impl_copied.f
  refine Ev.bind (ret _) (pos ?_ (ret' rfl))
  simpa using h
end Go.Proofs.Ytnkgmcgbbldkgaa.Q
