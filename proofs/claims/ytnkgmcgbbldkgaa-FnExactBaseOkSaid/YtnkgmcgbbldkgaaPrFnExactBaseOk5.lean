import Derived.Test.YtnkgmcgbbldkgaaPrFnExactBaseOk4
import Derived.ProofKit
import Derived.SizedLaws
/- Texts of this claim, one behind the other: words on worlds and rows, printed functions and their walks, plain lemmas. -/
namespace Go.Proofs.Ytnkgmcgbbldkgaa.P
open Go.RowKit Go.Proofs.YtnkgmcgbbldkgaaW.PrintWords Go.Proofs.YtnkgmcgbbldkgaaW.PrintLast Go.Proofs.YtnkgmcgbbldkgaaW.PrintMore
attribute [local go_sem] max2_int min2_int max_two min_two max_three min_three max_four min_four   -- for this text's walks alone
set_option linter.unusedVariables false
set_option linter.unusedSimpArgs false
set_option maxHeartbeats 8000000 in
set_option maxRecDepth 100000 in
theorem laws_eqEntry.calls (k : Nat) (a0_0 : ByteArray) (a0_1 : Int) (a0_2 : Int) (a0_3 : ByteArray) (A0_4 : Option Addr) (c0_4 : Nat) (l0_4 : List ByteArray) (A0_5 : Option Addr) (c0_5 : Nat) (l0_5 : List (S99)) (A0_6 : Option Addr) (c0_6 : Nat) (l0_6 : List (S101)) (a1_0 : ByteArray) (a1_1 : Int) (a1_2 : Int) (a1_3 : ByteArray) (A1_4 : Option Addr) (c1_4 : Nat) (l1_4 : List ByteArray) (A1_5 : Option Addr) (c1_5 : Nat) (l1_5 : List (S99)) (A1_6 : Option Addr) (c1_6 : Nat) (l1_6 : List (S101)) (r : Bool) (w : World) (hr0_4 : Kd.C Kd.string w A0_4 l0_4.length l0_4) (hc0_4 : l0_4.length ≤ c0_4) (hr0_5 : Kd.C k99 w A0_5 l0_5.length l0_5) (hc0_5 : l0_5.length ≤ c0_5) (hr0_6 : Kd.C k101 w A0_6 l0_6.length l0_6) (hc0_6 : l0_6.length ≤ c0_6) (hr1_4 : Kd.C Kd.string w A1_4 l1_4.length l1_4) (hc1_4 : l1_4.length ≤ c1_4) (hr1_5 : Kd.C k99 w A1_5 l1_5.length l1_5) (hc1_5 : l1_5.length ≤ c1_5) (hr1_6 : Kd.C k101 w A1_6 l1_6.length l1_6) (hc1_6 : l1_6.length ≤ c1_6) (h : laws_eqEntry.f k a0_0 a0_1 a0_2 a0_3 l0_4 l0_5 l0_6 a1_0 a1_1 a1_2 a1_3 l1_4 l1_5 l1_6 = some r) :
  Calls Try.prog 14 #[.agg #[.string a0_0, .int .i64 a0_1, .int .i64 a0_2, .string a0_3, .slice A0_4 l0_4.length c0_4, .slice A0_5 l0_5.length c0_5, .slice A0_6 l0_6.length c0_6], .agg #[.string a1_0, .int .i64 a1_1, .int .i64 a1_2, .string a1_3, .slice A1_4 l1_4.length c1_4, .slice A1_5 l1_5.length c1_5, .slice A1_6 l1_6.length c1_6]] w fun e w' => e = .returned (.bool r) ∧ Below w.heap.size w w' := by
 have hu32 := Try.underlying32
 have HR0_4 := zq9 hr0_4
 have HC0_4 := zq9 hc0_4
 clear hr0_4 hc0_4
 have HR0_5 := zq9 hr0_5
 have HC0_5 := zq9 hc0_5
 clear hr0_5 hc0_5
 have HR0_6 := zq9 hr0_6
 have HC0_6 := zq9 hc0_6
 clear hr0_6 hc0_6
 have HR1_4 := zq9 hr1_4
 have HC1_4 := zq9 hc1_4
 clear hr1_4 hc1_4
 have HR1_5 := zq9 hr1_5
 have HC1_5 := zq9 hc1_5
 clear hr1_5 hc1_5
 have HR1_6 := zq9 hr1_6
 have HC1_6 := zq9 hc1_6
 clear hr1_6 hc1_6
 have HB := zq9 (Below.refl w.heap.size w)
 have H : (if a0_0.toList = a1_0.toList then (if a0_1 = a1_1 then (if a0_2 = a1_2 then (if a0_3.toList = a1_3.toList then ((laws_eqStringS.f k l0_4 l1_4).bind fun t226 => (if t226 = true then ((laws_eqScoreS.f k l0_5 l1_5).bind fun t227 => (if t227 = true then ((laws_eqPairS.f k l0_6 l1_6).bind fun t228 => (if t228 = true then (some true) else (some false))) else (some false))) else (some false))) else (some false)) else (some false)) else (some false)) else (some false)) = some r := h
 clear h
 go_enter Try.func14, Try.ntmps14
 by_cases c3 : a0_0.toList = a1_0.toList
 ·rw [if_pos c3] at H
  have c3b0 : (a0_0.toList == a1_0.toList) = true := beq_iff_eq.mpr c3
  have c3b1 : (a0_0.toList != a1_0.toList) = false := bne_eq_false_iff_eq.mpr c3
  clear c3
  by_cases c4 : a0_1 = a1_1
  ·rw [if_pos c4] at H
   have c4b0 : (a0_1 == a1_1) = true := beq_iff_eq.mpr c4
   have c4b1 : (a0_1 != a1_1) = false := bne_eq_false_iff_eq.mpr c4
   clear c4
   by_cases c5 : a0_2 = a1_2
   ·rw [if_pos c5] at H
    have c5b0 : (a0_2 == a1_2) = true := beq_iff_eq.mpr c5
    have c5b1 : (a0_2 != a1_2) = false := bne_eq_false_iff_eq.mpr c5
    clear c5
    by_cases c6 : a0_3.toList = a1_3.toList
    ·rw [if_pos c6] at H
     have c6b0 : (a0_3.toList == a1_3.toList) = true := beq_iff_eq.mpr c6
     have c6b1 : (a0_3.toList != a1_3.toList) = false := bne_eq_false_iff_eq.mpr c6
     clear c6
     replace H := Option.bind_eq_some_iff.mp H
     obtain ⟨t226, A70, H⟩ := H
     try dsimp only at H
     have A7 := zq9 A70
     clear A70
     by_cases c8 : t226 = true
     ·subst c8
      have H1 : ((laws_eqScoreS.f k l0_5 l1_5).bind fun t227 => (if t227 = true then ((laws_eqPairS.f k l0_6 l1_6).bind fun t228 => (if t228 = true then (some true) else (some false))) else (some false))) = some r := by rw [if_pos rfl] at H; exact H
      clear H
      have H := H1
      clear H1
      replace H := Option.bind_eq_some_iff.mp H
      obtain ⟨t227, A90, H⟩ := H
      try dsimp only at H
      have A9 := zq9 A90
      clear A90
      by_cases c10 : t227 = true
      ·subst c10
       have H1 : ((laws_eqPairS.f k l0_6 l1_6).bind fun t228 => (if t228 = true then (some true) else (some false))) = some r := by rw [if_pos rfl] at H; exact H
       clear H
       have H := H1
       clear H1
       replace H := Option.bind_eq_some_iff.mp H
       obtain ⟨t228, A110, H⟩ := H
       try dsimp only at H
       have A11 := zq9 A110
       clear A110
       by_cases c12 : t228 = true
       ·subst c12
        have H1 : (some true) = some r := by rw [if_pos rfl] at H; exact H
        clear H
        have H := H1
        clear H1
        obtain rfl := Option.some.inj H
        go_wp2_with (first | ((with_reducible refine zq25 (N := 2) rfl ?_); refine bx 2 #[.string a0_0, .int .i64 a0_1, .int .i64 a0_2, .string a0_3, .slice A0_4 l0_4.length c0_4, .slice A0_5 l0_5.length c0_5, .slice A0_6 l0_6.length c0_6] 32 ?_; intro gb224 hg w13 hbox hb; have n0_ := zq9 (zq27 (by exact bl HB) hb); have n1_ := zq9 (hbox); have n2_ := zq9 ((by rw [hg]; exact (zq29 (by exact bl HB)) : w.heap.size ≤ gb224)); have n3_ := n2_; clear HB; have HB := n0_; have BK224 := n1_; have GW224 := n2_; have GE224 := n3_; clear n0_ n1_ n2_ n3_; clear hb hbox hg) | ((with_reducible refine zq25 (N := 3) rfl ?_); refine bx 3 #[.string a1_0, .int .i64 a1_1, .int .i64 a1_2, .string a1_3, .slice A1_4 l1_4.length c1_4, .slice A1_5 l1_5.length c1_5, .slice A1_6 l1_6.length c1_6] 32 ?_; intro gb225 hg w14 hbox hb; have n0_ := zq9 (zq30 (g := gb224) (o := .cells #[.string a0_0, .int .i64 a0_1, .int .i64 a0_2, .string a0_3, .slice A0_4 l0_4.length c0_4, .slice A0_5 l0_5.length c0_5, .slice A0_6 l0_6.length c0_6] 32 (0, 0)) (by exact bk BK224) hb); have n1_ := zq9 (zq27 (by exact b1 HB GE224) hb); have n2_ := zq9 (hbox); have n3_ := zq9 ((by rw [hg]; exact (zq29 (by exact b1 HB GE224)) : w.heap.size ≤ gb225)); have n4_ := n3_; have n5_ := zq9 ((by rw [hg]; exact Nat.ne_of_lt (blk_lt (g := gb224) (o := .cells #[.string a0_0, .int .i64 a0_1, .int .i64 a0_2, .string a0_3, .slice A0_4 l0_4.length c0_4, .slice A0_5 l0_5.length c0_5, .slice A0_6 l0_6.length c0_6] 32 (0, 0)) (by exact bk BK224)) : gb224 ≠ gb225)); have n6_ := zq9 ((by rw [hg]; exact Nat.ne_of_gt (blk_lt (g := gb224) (o := .cells #[.string a0_0, .int .i64 a0_1, .int .i64 a0_2, .string a0_3, .slice A0_4 l0_4.length c0_4, .slice A0_5 l0_5.length c0_5, .slice A0_6 l0_6.length c0_6] 32 (0, 0)) (by exact bk BK224)) : gb225 ≠ gb224)); clear BK224; clear HB; have BK224 := n0_; have HB := n1_; have BK225 := n2_; have GW225 := n3_; have GE225 := n4_; have NB224_225 := n5_; have NB225_224 := n6_; clear n0_ n1_ n2_ n3_ n4_ n5_ n6_; clear hb hbox hg; have hnb15 := NB224_225.out; have hnc15 := NB225_224.out; have hcz16_0 : w14.cell? ⟨gb224, 0, none⟩ = some (.string a0_0) := bc BK224 0; have hcz16_1 : w14.cell? ⟨gb224, 1, none⟩ = some (.int .i64 a0_1) := bc BK224 1; have hcz16_2 : w14.cell? ⟨gb224, 2, none⟩ = some (.int .i64 a0_2) := bc BK224 2; have hcz16_3 : w14.cell? ⟨gb224, 3, none⟩ = some (.string a0_3) := bc BK224 3; have hcz16_4 : w14.cell? ⟨gb224, 4, none⟩ = some (.slice A0_4 l0_4.length c0_4) := bc BK224 4; have hcz16_5 : w14.cell? ⟨gb224, 5, none⟩ = some (.slice A0_5 l0_5.length c0_5) := bc BK224 5; have hcz16_6 : w14.cell? ⟨gb224, 6, none⟩ = some (.slice A0_6 l0_6.length c0_6) := bc BK224 6; have hfz16_0 := zq6 BK224.out 0; have hfz16_1 := zq6 BK224.out 1; have hfz16_2 := zq6 BK224.out 2; have hfz16_3 := zq6 BK224.out 3; have hfz16_4 := zq6 BK224.out 4; have hfz16_5 := zq6 BK224.out 5; have hfz16_6 := zq6 BK224.out 6; have hcz17_0 : w14.cell? ⟨gb225, 0, none⟩ = some (.string a1_0) := bc BK225 0; have hcz17_1 : w14.cell? ⟨gb225, 1, none⟩ = some (.int .i64 a1_1) := bc BK225 1; have hcz17_2 : w14.cell? ⟨gb225, 2, none⟩ = some (.int .i64 a1_2) := bc BK225 2; have hcz17_3 : w14.cell? ⟨gb225, 3, none⟩ = some (.string a1_3) := bc BK225 3; have hcz17_4 : w14.cell? ⟨gb225, 4, none⟩ = some (.slice A1_4 l1_4.length c1_4) := bc BK225 4; have hcz17_5 : w14.cell? ⟨gb225, 5, none⟩ = some (.slice A1_5 l1_5.length c1_5) := bc BK225 5; have hcz17_6 : w14.cell? ⟨gb225, 6, none⟩ = some (.slice A1_6 l1_6.length c1_6) := bc BK225 6; have hfz17_0 := zq6 BK225.out 0; have hfz17_1 := zq6 BK225.out 1; have hfz17_2 := zq6 BK225.out 2; have hfz17_3 := zq6 BK225.out 3; have hfz17_4 := zq6 BK225.out 4; have hfz17_5 := zq6 BK225.out 5; have hfz17_6 := zq6 BK225.out 6) | ((with_reducible refine zq24 (f := 23) rfl ?_); refine gl (some 29) Try.func23 #[.slice A0_4 l0_4.length c0_4, .slice A1_4 l1_4.length c1_4] ?_; (with_reducible refine (laws_eqStringS.calls k _ _ l0_4 _ _ l1_4 true _ ?side1 ?side2 ?side3 ?side4 A7.out).mono ?_); (case side1 => exact kc HR0_4 HB); (case side2 => exact HC0_4.out); (case side3 => exact kc HR1_4 HB); (case side4 => exact HC1_4.out); rintro e w' ⟨rfl, ⟨nd, rfl⟩⟩; refine ⟨_, rfl, ?_⟩) | ((with_reducible refine zq24 (f := 54) rfl ?_); refine gl (some 35) Try.func54 #[.slice A0_5 l0_5.length c0_5, .slice A1_5 l1_5.length c1_5] ?_; (with_reducible refine (laws_eqScoreS.calls k _ _ l0_5 _ _ l1_5 true _ ?side1 ?side2 ?side3 ?side4 A9.out).mono ?_); (case side1 => repeat (first | exact (zq31 HR0_5.out (by exact b2 HB GE224 GE225)) | (with_reducible refine zq18 ?_ _) | (with_reducible refine zq19 ?_ _) | (with_reducible refine zq20 ?_))); (case side2 => exact HC0_5.out); (case side3 => repeat (first | exact (zq31 HR1_5.out (by exact b2 HB GE224 GE225)) | (with_reducible refine zq18 ?_ _) | (with_reducible refine zq19 ?_ _) | (with_reducible refine zq20 ?_))); (case side4 => exact HC1_5.out); rintro e w18 ⟨rfl, hb⟩; refine ⟨_, rfl, ?_⟩; have n0_ := zq9 (zq30 (g := gb224) (o := .cells #[.string a0_0, .int .i64 a0_1, .int .i64 a0_2, .string a0_3, .slice A0_4 l0_4.length c0_4, .slice A0_5 l0_5.length c0_5, .slice A0_6 l0_6.length c0_6] 32 (0, 0)) (by exact bk BK224) hb); have n1_ := zq9 (zq30 (g := gb225) (o := .cells #[.string a1_0, .int .i64 a1_1, .int .i64 a1_2, .string a1_3, .slice A1_4 l1_4.length c1_4, .slice A1_5 l1_5.length c1_5, .slice A1_6 l1_6.length c1_6] 32 (0, 0)) (by exact bk BK225) hb); have n2_ := zq9 (zq27 (by exact b2 HB GE224 GE225) hb); clear BK224; clear BK225; clear HB; have BK224 := n0_; have BK225 := n1_; have HB := n2_; clear n0_ n1_ n2_; (try clear hb); (try clear hb2); (try clear hk); (try clear hi); have hcz19_0 : w18.cell? ⟨gb224, 0, none⟩ = some (.string a0_0) := bc BK224 0; have hcz19_1 : w18.cell? ⟨gb224, 1, none⟩ = some (.int .i64 a0_1) := bc BK224 1; have hcz19_2 : w18.cell? ⟨gb224, 2, none⟩ = some (.int .i64 a0_2) := bc BK224 2; have hcz19_3 : w18.cell? ⟨gb224, 3, none⟩ = some (.string a0_3) := bc BK224 3; have hcz19_4 : w18.cell? ⟨gb224, 4, none⟩ = some (.slice A0_4 l0_4.length c0_4) := bc BK224 4; have hcz19_5 : w18.cell? ⟨gb224, 5, none⟩ = some (.slice A0_5 l0_5.length c0_5) := bc BK224 5; have hcz19_6 : w18.cell? ⟨gb224, 6, none⟩ = some (.slice A0_6 l0_6.length c0_6) := bc BK224 6; have hfz19_0 := zq6 BK224.out 0; have hfz19_1 := zq6 BK224.out 1; have hfz19_2 := zq6 BK224.out 2; have hfz19_3 := zq6 BK224.out 3; have hfz19_4 := zq6 BK224.out 4; have hfz19_5 := zq6 BK224.out 5; have hfz19_6 := zq6 BK224.out 6; have hcz20_0 : w18.cell? ⟨gb225, 0, none⟩ = some (.string a1_0) := bc BK225 0; have hcz20_1 : w18.cell? ⟨gb225, 1, none⟩ = some (.int .i64 a1_1) := bc BK225 1; have hcz20_2 : w18.cell? ⟨gb225, 2, none⟩ = some (.int .i64 a1_2) := bc BK225 2; have hcz20_3 : w18.cell? ⟨gb225, 3, none⟩ = some (.string a1_3) := bc BK225 3; have hcz20_4 : w18.cell? ⟨gb225, 4, none⟩ = some (.slice A1_4 l1_4.length c1_4) := bc BK225 4; have hcz20_5 : w18.cell? ⟨gb225, 5, none⟩ = some (.slice A1_5 l1_5.length c1_5) := bc BK225 5; have hcz20_6 : w18.cell? ⟨gb225, 6, none⟩ = some (.slice A1_6 l1_6.length c1_6) := bc BK225 6; have hfz20_0 := zq6 BK225.out 0; have hfz20_1 := zq6 BK225.out 1; have hfz20_2 := zq6 BK225.out 2; have hfz20_3 := zq6 BK225.out 3; have hfz20_4 := zq6 BK225.out 4; have hfz20_5 := zq6 BK225.out 5; have hfz20_6 := zq6 BK225.out 6) | ((with_reducible refine zq24 (f := 55) rfl ?_); refine gl (some 41) Try.func55 #[.slice A0_6 l0_6.length c0_6, .slice A1_6 l1_6.length c1_6] ?_; (with_reducible refine (laws_eqPairS.calls k _ _ l0_6 _ _ l1_6 true _ ?side1 ?side2 ?side3 ?side4 A11.out).mono ?_); (case side1 => exact kc HR0_6 HB); (case side2 => exact HC0_6.out); (case side3 => exact kc HR1_6 HB); (case side4 => exact HC1_6.out); rintro e w21 ⟨rfl, hb⟩; refine ⟨_, rfl, ?_⟩; have n0_ := zq9 (zq30 (g := gb224) (o := .cells #[.string a0_0, .int .i64 a0_1, .int .i64 a0_2, .string a0_3, .slice A0_4 l0_4.length c0_4, .slice A0_5 l0_5.length c0_5, .slice A0_6 l0_6.length c0_6] 32 (0, 0)) (by exact bk BK224) hb); have n1_ := zq9 (zq30 (g := gb225) (o := .cells #[.string a1_0, .int .i64 a1_1, .int .i64 a1_2, .string a1_3, .slice A1_4 l1_4.length c1_4, .slice A1_5 l1_5.length c1_5, .slice A1_6 l1_6.length c1_6] 32 (0, 0)) (by exact bk BK225) hb); have n2_ := zq9 (zq27 (by exact b2 HB GE224 GE225) hb); clear BK224; clear BK225; clear HB; have BK224 := n0_; have BK225 := n1_; have HB := n2_; clear n0_ n1_ n2_; (try clear hb); (try clear hb2); (try clear hk); (try clear hi)))
        go_ret
        exact fz (by exact b2 HB GE224 GE225)
       ·replace c12 := Bool.eq_false_iff.mpr c12
        subst c12
        have H1 : (some false) = some r := by rw [if_neg (show ¬ (false = true) by decide)] at H; exact H
        clear H
        have H := H1
        clear H1
        obtain rfl := Option.some.inj H
        go_wp2_with (first | ((with_reducible refine zq25 (N := 2) rfl ?_); refine bx 2 #[.string a0_0, .int .i64 a0_1, .int .i64 a0_2, .string a0_3, .slice A0_4 l0_4.length c0_4, .slice A0_5 l0_5.length c0_5, .slice A0_6 l0_6.length c0_6] 32 ?_; intro gb224 hg w13 hbox hb; have n0_ := zq9 (zq27 (by exact bl HB) hb); have n1_ := zq9 (hbox); have n2_ := zq9 ((by rw [hg]; exact (zq29 (by exact bl HB)) : w.heap.size ≤ gb224)); have n3_ := n2_; clear HB; have HB := n0_; have BK224 := n1_; have GW224 := n2_; have GE224 := n3_; clear n0_ n1_ n2_ n3_; clear hb hbox hg) | ((with_reducible refine zq25 (N := 3) rfl ?_); refine bx 3 #[.string a1_0, .int .i64 a1_1, .int .i64 a1_2, .string a1_3, .slice A1_4 l1_4.length c1_4, .slice A1_5 l1_5.length c1_5, .slice A1_6 l1_6.length c1_6] 32 ?_; intro gb225 hg w14 hbox hb; have n0_ := zq9 (zq30 (g := gb224) (o := .cells #[.string a0_0, .int .i64 a0_1, .int .i64 a0_2, .string a0_3, .slice A0_4 l0_4.length c0_4, .slice A0_5 l0_5.length c0_5, .slice A0_6 l0_6.length c0_6] 32 (0, 0)) (by exact bk BK224) hb); have n1_ := zq9 (zq27 (by exact b1 HB GE224) hb); have n2_ := zq9 (hbox); have n3_ := zq9 ((by rw [hg]; exact (zq29 (by exact b1 HB GE224)) : w.heap.size ≤ gb225)); have n4_ := n3_; have n5_ := zq9 ((by rw [hg]; exact Nat.ne_of_lt (blk_lt (g := gb224) (o := .cells #[.string a0_0, .int .i64 a0_1, .int .i64 a0_2, .string a0_3, .slice A0_4 l0_4.length c0_4, .slice A0_5 l0_5.length c0_5, .slice A0_6 l0_6.length c0_6] 32 (0, 0)) (by exact bk BK224)) : gb224 ≠ gb225)); have n6_ := zq9 ((by rw [hg]; exact Nat.ne_of_gt (blk_lt (g := gb224) (o := .cells #[.string a0_0, .int .i64 a0_1, .int .i64 a0_2, .string a0_3, .slice A0_4 l0_4.length c0_4, .slice A0_5 l0_5.length c0_5, .slice A0_6 l0_6.length c0_6] 32 (0, 0)) (by exact bk BK224)) : gb225 ≠ gb224)); clear BK224; clear HB; have BK224 := n0_; have HB := n1_; have BK225 := n2_; have GW225 := n3_; have GE225 := n4_; have NB224_225 := n5_; have NB225_224 := n6_; clear n0_ n1_ n2_ n3_ n4_ n5_ n6_; clear hb hbox hg; have hnb15 := NB224_225.out; have hnc15 := NB225_224.out; have hcz16_0 : w14.cell? ⟨gb224, 0, none⟩ = some (.string a0_0) := bc BK224 0; have hcz16_1 : w14.cell? ⟨gb224, 1, none⟩ = some (.int .i64 a0_1) := bc BK224 1; have hcz16_2 : w14.cell? ⟨gb224, 2, none⟩ = some (.int .i64 a0_2) := bc BK224 2; have hcz16_3 : w14.cell? ⟨gb224, 3, none⟩ = some (.string a0_3) := bc BK224 3; have hcz16_4 : w14.cell? ⟨gb224, 4, none⟩ = some (.slice A0_4 l0_4.length c0_4) := bc BK224 4; have hcz16_5 : w14.cell? ⟨gb224, 5, none⟩ = some (.slice A0_5 l0_5.length c0_5) := bc BK224 5; have hcz16_6 : w14.cell? ⟨gb224, 6, none⟩ = some (.slice A0_6 l0_6.length c0_6) := bc BK224 6; have hfz16_0 := zq6 BK224.out 0; have hfz16_1 := zq6 BK224.out 1; have hfz16_2 := zq6 BK224.out 2; have hfz16_3 := zq6 BK224.out 3; have hfz16_4 := zq6 BK224.out 4; have hfz16_5 := zq6 BK224.out 5; have hfz16_6 := zq6 BK224.out 6; have hcz17_0 : w14.cell? ⟨gb225, 0, none⟩ = some (.string a1_0) := bc BK225 0; have hcz17_1 : w14.cell? ⟨gb225, 1, none⟩ = some (.int .i64 a1_1) := bc BK225 1; have hcz17_2 : w14.cell? ⟨gb225, 2, none⟩ = some (.int .i64 a1_2) := bc BK225 2; have hcz17_3 : w14.cell? ⟨gb225, 3, none⟩ = some (.string a1_3) := bc BK225 3; have hcz17_4 : w14.cell? ⟨gb225, 4, none⟩ = some (.slice A1_4 l1_4.length c1_4) := bc BK225 4; have hcz17_5 : w14.cell? ⟨gb225, 5, none⟩ = some (.slice A1_5 l1_5.length c1_5) := bc BK225 5; have hcz17_6 : w14.cell? ⟨gb225, 6, none⟩ = some (.slice A1_6 l1_6.length c1_6) := bc BK225 6; have hfz17_0 := zq6 BK225.out 0; have hfz17_1 := zq6 BK225.out 1; have hfz17_2 := zq6 BK225.out 2; have hfz17_3 := zq6 BK225.out 3; have hfz17_4 := zq6 BK225.out 4; have hfz17_5 := zq6 BK225.out 5; have hfz17_6 := zq6 BK225.out 6) | ((with_reducible refine zq24 (f := 23) rfl ?_); refine gl (some 29) Try.func23 #[.slice A0_4 l0_4.length c0_4, .slice A1_4 l1_4.length c1_4] ?_; (with_reducible refine (laws_eqStringS.calls k _ _ l0_4 _ _ l1_4 true _ ?side1 ?side2 ?side3 ?side4 A7.out).mono ?_); (case side1 => exact kc HR0_4 HB); (case side2 => exact HC0_4.out); (case side3 => exact kc HR1_4 HB); (case side4 => exact HC1_4.out); rintro e w' ⟨rfl, ⟨nd, rfl⟩⟩; refine ⟨_, rfl, ?_⟩) | ((with_reducible refine zq24 (f := 54) rfl ?_); refine gl (some 35) Try.func54 #[.slice A0_5 l0_5.length c0_5, .slice A1_5 l1_5.length c1_5] ?_; (with_reducible refine (laws_eqScoreS.calls k _ _ l0_5 _ _ l1_5 true _ ?side1 ?side2 ?side3 ?side4 A9.out).mono ?_); (case side1 => repeat (first | exact (zq31 HR0_5.out (by exact b2 HB GE224 GE225)) | (with_reducible refine zq18 ?_ _) | (with_reducible refine zq19 ?_ _) | (with_reducible refine zq20 ?_))); (case side2 => exact HC0_5.out); (case side3 => repeat (first | exact (zq31 HR1_5.out (by exact b2 HB GE224 GE225)) | (with_reducible refine zq18 ?_ _) | (with_reducible refine zq19 ?_ _) | (with_reducible refine zq20 ?_))); (case side4 => exact HC1_5.out); rintro e w18 ⟨rfl, hb⟩; refine ⟨_, rfl, ?_⟩; have n0_ := zq9 (zq30 (g := gb224) (o := .cells #[.string a0_0, .int .i64 a0_1, .int .i64 a0_2, .string a0_3, .slice A0_4 l0_4.length c0_4, .slice A0_5 l0_5.length c0_5, .slice A0_6 l0_6.length c0_6] 32 (0, 0)) (by exact bk BK224) hb); have n1_ := zq9 (zq30 (g := gb225) (o := .cells #[.string a1_0, .int .i64 a1_1, .int .i64 a1_2, .string a1_3, .slice A1_4 l1_4.length c1_4, .slice A1_5 l1_5.length c1_5, .slice A1_6 l1_6.length c1_6] 32 (0, 0)) (by exact bk BK225) hb); have n2_ := zq9 (zq27 (by exact b2 HB GE224 GE225) hb); clear BK224; clear BK225; clear HB; have BK224 := n0_; have BK225 := n1_; have HB := n2_; clear n0_ n1_ n2_; (try clear hb); (try clear hb2); (try clear hk); (try clear hi); have hcz19_0 : w18.cell? ⟨gb224, 0, none⟩ = some (.string a0_0) := bc BK224 0; have hcz19_1 : w18.cell? ⟨gb224, 1, none⟩ = some (.int .i64 a0_1) := bc BK224 1; have hcz19_2 : w18.cell? ⟨gb224, 2, none⟩ = some (.int .i64 a0_2) := bc BK224 2; have hcz19_3 : w18.cell? ⟨gb224, 3, none⟩ = some (.string a0_3) := bc BK224 3; have hcz19_4 : w18.cell? ⟨gb224, 4, none⟩ = some (.slice A0_4 l0_4.length c0_4) := bc BK224 4; have hcz19_5 : w18.cell? ⟨gb224, 5, none⟩ = some (.slice A0_5 l0_5.length c0_5) := bc BK224 5; have hcz19_6 : w18.cell? ⟨gb224, 6, none⟩ = some (.slice A0_6 l0_6.length c0_6) := bc BK224 6; have hfz19_0 := zq6 BK224.out 0; have hfz19_1 := zq6 BK224.out 1; have hfz19_2 := zq6 BK224.out 2; have hfz19_3 := zq6 BK224.out 3; have hfz19_4 := zq6 BK224.out 4; have hfz19_5 := zq6 BK224.out 5; have hfz19_6 := zq6 BK224.out 6; have hcz20_0 : w18.cell? ⟨gb225, 0, none⟩ = some (.string a1_0) := bc BK225 0; have hcz20_1 : w18.cell? ⟨gb225, 1, none⟩ = some (.int .i64 a1_1) := bc BK225 1; have hcz20_2 : w18.cell? ⟨gb225, 2, none⟩ = some (.int .i64 a1_2) := bc BK225 2; have hcz20_3 : w18.cell? ⟨gb225, 3, none⟩ = some (.string a1_3) := bc BK225 3; have hcz20_4 : w18.cell? ⟨gb225, 4, none⟩ = some (.slice A1_4 l1_4.length c1_4) := bc BK225 4; have hcz20_5 : w18.cell? ⟨gb225, 5, none⟩ = some (.slice A1_5 l1_5.length c1_5) := bc BK225 5; have hcz20_6 : w18.cell? ⟨gb225, 6, none⟩ = some (.slice A1_6 l1_6.length c1_6) := bc BK225 6; have hfz20_0 := zq6 BK225.out 0; have hfz20_1 := zq6 BK225.out 1; have hfz20_2 := zq6 BK225.out 2; have hfz20_3 := zq6 BK225.out 3; have hfz20_4 := zq6 BK225.out 4; have hfz20_5 := zq6 BK225.out 5; have hfz20_6 := zq6 BK225.out 6) | ((with_reducible refine zq24 (f := 55) rfl ?_); refine gl (some 41) Try.func55 #[.slice A0_6 l0_6.length c0_6, .slice A1_6 l1_6.length c1_6] ?_; (with_reducible refine (laws_eqPairS.calls k _ _ l0_6 _ _ l1_6 false _ ?side1 ?side2 ?side3 ?side4 A11.out).mono ?_); (case side1 => exact kc HR0_6 HB); (case side2 => exact HC0_6.out); (case side3 => exact kc HR1_6 HB); (case side4 => exact HC1_6.out); rintro e w21 ⟨rfl, hb⟩; refine ⟨_, rfl, ?_⟩; have n0_ := zq9 (zq30 (g := gb224) (o := .cells #[.string a0_0, .int .i64 a0_1, .int .i64 a0_2, .string a0_3, .slice A0_4 l0_4.length c0_4, .slice A0_5 l0_5.length c0_5, .slice A0_6 l0_6.length c0_6] 32 (0, 0)) (by exact bk BK224) hb); have n1_ := zq9 (zq30 (g := gb225) (o := .cells #[.string a1_0, .int .i64 a1_1, .int .i64 a1_2, .string a1_3, .slice A1_4 l1_4.length c1_4, .slice A1_5 l1_5.length c1_5, .slice A1_6 l1_6.length c1_6] 32 (0, 0)) (by exact bk BK225) hb); have n2_ := zq9 (zq27 (by exact b2 HB GE224 GE225) hb); clear BK224; clear BK225; clear HB; have BK224 := n0_; have BK225 := n1_; have HB := n2_; clear n0_ n1_ n2_; (try clear hb); (try clear hb2); (try clear hk); (try clear hi)))
        go_ret
        exact fz (by exact b2 HB GE224 GE225)
      ·replace c10 := Bool.eq_false_iff.mpr c10
       subst c10
       have H1 : (some false) = some r := by rw [if_neg (show ¬ (false = true) by decide)] at H; exact H
       clear H
       have H := H1
       clear H1
       obtain rfl := Option.some.inj H
       go_wp2_with (first | ((with_reducible refine zq25 (N := 2) rfl ?_); refine bx 2 #[.string a0_0, .int .i64 a0_1, .int .i64 a0_2, .string a0_3, .slice A0_4 l0_4.length c0_4, .slice A0_5 l0_5.length c0_5, .slice A0_6 l0_6.length c0_6] 32 ?_; intro gb224 hg w31 hbox hb; have n0_ := zq9 (zq27 (by exact bl HB) hb); have n1_ := zq9 (hbox); have n2_ := zq9 ((by rw [hg]; exact (zq29 (by exact bl HB)) : w.heap.size ≤ gb224)); have n3_ := n2_; clear HB; have HB := n0_; have BK224 := n1_; have GW224 := n2_; have GE224 := n3_; clear n0_ n1_ n2_ n3_; clear hb hbox hg) | ((with_reducible refine zq25 (N := 3) rfl ?_); refine bx 3 #[.string a1_0, .int .i64 a1_1, .int .i64 a1_2, .string a1_3, .slice A1_4 l1_4.length c1_4, .slice A1_5 l1_5.length c1_5, .slice A1_6 l1_6.length c1_6] 32 ?_; intro gb225 hg w32 hbox hb; have n0_ := zq9 (zq30 (g := gb224) (o := .cells #[.string a0_0, .int .i64 a0_1, .int .i64 a0_2, .string a0_3, .slice A0_4 l0_4.length c0_4, .slice A0_5 l0_5.length c0_5, .slice A0_6 l0_6.length c0_6] 32 (0, 0)) (by exact bk BK224) hb); have n1_ := zq9 (zq27 (by exact b1 HB GE224) hb); have n2_ := zq9 (hbox); have n3_ := zq9 ((by rw [hg]; exact (zq29 (by exact b1 HB GE224)) : w.heap.size ≤ gb225)); have n4_ := n3_; have n5_ := zq9 ((by rw [hg]; exact Nat.ne_of_lt (blk_lt (g := gb224) (o := .cells #[.string a0_0, .int .i64 a0_1, .int .i64 a0_2, .string a0_3, .slice A0_4 l0_4.length c0_4, .slice A0_5 l0_5.length c0_5, .slice A0_6 l0_6.length c0_6] 32 (0, 0)) (by exact bk BK224)) : gb224 ≠ gb225)); have n6_ := zq9 ((by rw [hg]; exact Nat.ne_of_gt (blk_lt (g := gb224) (o := .cells #[.string a0_0, .int .i64 a0_1, .int .i64 a0_2, .string a0_3, .slice A0_4 l0_4.length c0_4, .slice A0_5 l0_5.length c0_5, .slice A0_6 l0_6.length c0_6] 32 (0, 0)) (by exact bk BK224)) : gb225 ≠ gb224)); clear BK224; clear HB; have BK224 := n0_; have HB := n1_; have BK225 := n2_; have GW225 := n3_; have GE225 := n4_; have NB224_225 := n5_; have NB225_224 := n6_; clear n0_ n1_ n2_ n3_ n4_ n5_ n6_; clear hb hbox hg; have hnb33 := NB224_225.out; have hnc33 := NB225_224.out; have hcz34_0 : w32.cell? ⟨gb224, 0, none⟩ = some (.string a0_0) := bc BK224 0; have hcz34_1 : w32.cell? ⟨gb224, 1, none⟩ = some (.int .i64 a0_1) := bc BK224 1; have hcz34_2 : w32.cell? ⟨gb224, 2, none⟩ = some (.int .i64 a0_2) := bc BK224 2; have hcz34_3 : w32.cell? ⟨gb224, 3, none⟩ = some (.string a0_3) := bc BK224 3; have hcz34_4 : w32.cell? ⟨gb224, 4, none⟩ = some (.slice A0_4 l0_4.length c0_4) := bc BK224 4; have hcz34_5 : w32.cell? ⟨gb224, 5, none⟩ = some (.slice A0_5 l0_5.length c0_5) := bc BK224 5; have hcz34_6 : w32.cell? ⟨gb224, 6, none⟩ = some (.slice A0_6 l0_6.length c0_6) := bc BK224 6; have hfz34_0 := zq6 BK224.out 0; have hfz34_1 := zq6 BK224.out 1; have hfz34_2 := zq6 BK224.out 2; have hfz34_3 := zq6 BK224.out 3; have hfz34_4 := zq6 BK224.out 4; have hfz34_5 := zq6 BK224.out 5; have hfz34_6 := zq6 BK224.out 6; have hcz35_0 : w32.cell? ⟨gb225, 0, none⟩ = some (.string a1_0) := bc BK225 0; have hcz35_1 : w32.cell? ⟨gb225, 1, none⟩ = some (.int .i64 a1_1) := bc BK225 1; have hcz35_2 : w32.cell? ⟨gb225, 2, none⟩ = some (.int .i64 a1_2) := bc BK225 2; have hcz35_3 : w32.cell? ⟨gb225, 3, none⟩ = some (.string a1_3) := bc BK225 3; have hcz35_4 : w32.cell? ⟨gb225, 4, none⟩ = some (.slice A1_4 l1_4.length c1_4) := bc BK225 4; have hcz35_5 : w32.cell? ⟨gb225, 5, none⟩ = some (.slice A1_5 l1_5.length c1_5) := bc BK225 5; have hcz35_6 : w32.cell? ⟨gb225, 6, none⟩ = some (.slice A1_6 l1_6.length c1_6) := bc BK225 6; have hfz35_0 := zq6 BK225.out 0; have hfz35_1 := zq6 BK225.out 1; have hfz35_2 := zq6 BK225.out 2; have hfz35_3 := zq6 BK225.out 3; have hfz35_4 := zq6 BK225.out 4; have hfz35_5 := zq6 BK225.out 5; have hfz35_6 := zq6 BK225.out 6) | ((with_reducible refine zq24 (f := 23) rfl ?_); refine gl (some 29) Try.func23 #[.slice A0_4 l0_4.length c0_4, .slice A1_4 l1_4.length c1_4] ?_; (with_reducible refine (laws_eqStringS.calls k _ _ l0_4 _ _ l1_4 true _ ?side1 ?side2 ?side3 ?side4 A7.out).mono ?_); (case side1 => exact kc HR0_4 HB); (case side2 => exact HC0_4.out); (case side3 => exact kc HR1_4 HB); (case side4 => exact HC1_4.out); rintro e w' ⟨rfl, ⟨nd, rfl⟩⟩; refine ⟨_, rfl, ?_⟩) | ((with_reducible refine zq24 (f := 54) rfl ?_); refine gl (some 35) Try.func54 #[.slice A0_5 l0_5.length c0_5, .slice A1_5 l1_5.length c1_5] ?_; (with_reducible refine (laws_eqScoreS.calls k _ _ l0_5 _ _ l1_5 false _ ?side1 ?side2 ?side3 ?side4 A9.out).mono ?_); (case side1 => repeat (first | exact (zq31 HR0_5.out (by exact b2 HB GE224 GE225)) | (with_reducible refine zq18 ?_ _) | (with_reducible refine zq19 ?_ _) | (with_reducible refine zq20 ?_))); (case side2 => exact HC0_5.out); (case side3 => repeat (first | exact (zq31 HR1_5.out (by exact b2 HB GE224 GE225)) | (with_reducible refine zq18 ?_ _) | (with_reducible refine zq19 ?_ _) | (with_reducible refine zq20 ?_))); (case side4 => exact HC1_5.out); rintro e w36 ⟨rfl, hb⟩; refine ⟨_, rfl, ?_⟩; have n0_ := zq9 (zq30 (g := gb224) (o := .cells #[.string a0_0, .int .i64 a0_1, .int .i64 a0_2, .string a0_3, .slice A0_4 l0_4.length c0_4, .slice A0_5 l0_5.length c0_5, .slice A0_6 l0_6.length c0_6] 32 (0, 0)) (by exact bk BK224) hb); have n1_ := zq9 (zq30 (g := gb225) (o := .cells #[.string a1_0, .int .i64 a1_1, .int .i64 a1_2, .string a1_3, .slice A1_4 l1_4.length c1_4, .slice A1_5 l1_5.length c1_5, .slice A1_6 l1_6.length c1_6] 32 (0, 0)) (by exact bk BK225) hb); have n2_ := zq9 (zq27 (by exact b2 HB GE224 GE225) hb); clear BK224; clear BK225; clear HB; have BK224 := n0_; have BK225 := n1_; have HB := n2_; clear n0_ n1_ n2_; (try clear hb); (try clear hb2); (try clear hk); (try clear hi)))
       go_ret
       exact fz (by exact b2 HB GE224 GE225)
     ·replace c8 := Bool.eq_false_iff.mpr c8
      subst c8
      have H1 : (some false) = some r := by rw [if_neg (show ¬ (false = true) by decide)] at H; exact H
      clear H
      have H := H1
      clear H1
      obtain rfl := Option.some.inj H
      go_wp2_with (first | ((with_reducible refine zq25 (N := 2) rfl ?_); refine bx 2 #[.string a0_0, .int .i64 a0_1, .int .i64 a0_2, .string a0_3, .slice A0_4 l0_4.length c0_4, .slice A0_5 l0_5.length c0_5, .slice A0_6 l0_6.length c0_6] 32 ?_; intro gb224 hg w37 hbox hb; have n0_ := zq9 (zq27 (by exact bl HB) hb); have n1_ := zq9 (hbox); have n2_ := zq9 ((by rw [hg]; exact (zq29 (by exact bl HB)) : w.heap.size ≤ gb224)); have n3_ := n2_; clear HB; have HB := n0_; have BK224 := n1_; have GW224 := n2_; have GE224 := n3_; clear n0_ n1_ n2_ n3_; clear hb hbox hg) | ((with_reducible refine zq25 (N := 3) rfl ?_); refine bx 3 #[.string a1_0, .int .i64 a1_1, .int .i64 a1_2, .string a1_3, .slice A1_4 l1_4.length c1_4, .slice A1_5 l1_5.length c1_5, .slice A1_6 l1_6.length c1_6] 32 ?_; intro gb225 hg w38 hbox hb; have n0_ := zq9 (zq30 (g := gb224) (o := .cells #[.string a0_0, .int .i64 a0_1, .int .i64 a0_2, .string a0_3, .slice A0_4 l0_4.length c0_4, .slice A0_5 l0_5.length c0_5, .slice A0_6 l0_6.length c0_6] 32 (0, 0)) (by exact bk BK224) hb); have n1_ := zq9 (zq27 (by exact b1 HB GE224) hb); have n2_ := zq9 (hbox); have n3_ := zq9 ((by rw [hg]; exact (zq29 (by exact b1 HB GE224)) : w.heap.size ≤ gb225)); have n4_ := n3_; have n5_ := zq9 ((by rw [hg]; exact Nat.ne_of_lt (blk_lt (g := gb224) (o := .cells #[.string a0_0, .int .i64 a0_1, .int .i64 a0_2, .string a0_3, .slice A0_4 l0_4.length c0_4, .slice A0_5 l0_5.length c0_5, .slice A0_6 l0_6.length c0_6] 32 (0, 0)) (by exact bk BK224)) : gb224 ≠ gb225)); have n6_ := zq9 ((by rw [hg]; exact Nat.ne_of_gt (blk_lt (g := gb224) (o := .cells #[.string a0_0, .int .i64 a0_1, .int .i64 a0_2, .string a0_3, .slice A0_4 l0_4.length c0_4, .slice A0_5 l0_5.length c0_5, .slice A0_6 l0_6.length c0_6] 32 (0, 0)) (by exact bk BK224)) : gb225 ≠ gb224)); clear BK224; clear HB; have BK224 := n0_; have HB := n1_; have BK225 := n2_; have GW225 := n3_; have GE225 := n4_; have NB224_225 := n5_; have NB225_224 := n6_; clear n0_ n1_ n2_ n3_ n4_ n5_ n6_; clear hb hbox hg; have hnb39 := NB224_225.out; have hnc39 := NB225_224.out; have hcz40_0 : w38.cell? ⟨gb224, 0, none⟩ = some (.string a0_0) := bc BK224 0; have hcz40_1 : w38.cell? ⟨gb224, 1, none⟩ = some (.int .i64 a0_1) := bc BK224 1; have hcz40_2 : w38.cell? ⟨gb224, 2, none⟩ = some (.int .i64 a0_2) := bc BK224 2; have hcz40_3 : w38.cell? ⟨gb224, 3, none⟩ = some (.string a0_3) := bc BK224 3; have hcz40_4 : w38.cell? ⟨gb224, 4, none⟩ = some (.slice A0_4 l0_4.length c0_4) := bc BK224 4; have hcz40_5 : w38.cell? ⟨gb224, 5, none⟩ = some (.slice A0_5 l0_5.length c0_5) := bc BK224 5; have hcz40_6 : w38.cell? ⟨gb224, 6, none⟩ = some (.slice A0_6 l0_6.length c0_6) := bc BK224 6; have hfz40_0 := zq6 BK224.out 0; have hfz40_1 := zq6 BK224.out 1; have hfz40_2 := zq6 BK224.out 2; have hfz40_3 := zq6 BK224.out 3; have hfz40_4 := zq6 BK224.out 4; have hfz40_5 := zq6 BK224.out 5; have hfz40_6 := zq6 BK224.out 6; have hcz41_0 : w38.cell? ⟨gb225, 0, none⟩ = some (.string a1_0) := bc BK225 0; have hcz41_1 : w38.cell? ⟨gb225, 1, none⟩ = some (.int .i64 a1_1) := bc BK225 1; have hcz41_2 : w38.cell? ⟨gb225, 2, none⟩ = some (.int .i64 a1_2) := bc BK225 2; have hcz41_3 : w38.cell? ⟨gb225, 3, none⟩ = some (.string a1_3) := bc BK225 3; have hcz41_4 : w38.cell? ⟨gb225, 4, none⟩ = some (.slice A1_4 l1_4.length c1_4) := bc BK225 4; have hcz41_5 : w38.cell? ⟨gb225, 5, none⟩ = some (.slice A1_5 l1_5.length c1_5) := bc BK225 5; have hcz41_6 : w38.cell? ⟨gb225, 6, none⟩ = some (.slice A1_6 l1_6.length c1_6) := bc BK225 6; have hfz41_0 := zq6 BK225.out 0; have hfz41_1 := zq6 BK225.out 1; have hfz41_2 := zq6 BK225.out 2; have hfz41_3 := zq6 BK225.out 3; have hfz41_4 := zq6 BK225.out 4; have hfz41_5 := zq6 BK225.out 5; have hfz41_6 := zq6 BK225.out 6) | ((with_reducible refine zq24 (f := 23) rfl ?_); refine gl (some 29) Try.func23 #[.slice A0_4 l0_4.length c0_4, .slice A1_4 l1_4.length c1_4] ?_; (with_reducible refine (laws_eqStringS.calls k _ _ l0_4 _ _ l1_4 false _ ?side1 ?side2 ?side3 ?side4 A7.out).mono ?_); (case side1 => exact kc HR0_4 HB); (case side2 => exact HC0_4.out); (case side3 => exact kc HR1_4 HB); (case side4 => exact HC1_4.out); rintro e w' ⟨rfl, ⟨nd, rfl⟩⟩; refine ⟨_, rfl, ?_⟩))
      go_ret
      exact fz (by exact b2 HB GE224 GE225)
    ·rw [if_neg c6] at H
     have c6b0 : (a0_3.toList == a1_3.toList) = false := beq_eq_false_iff_ne.mpr c6
     have c6b1 : (a0_3.toList != a1_3.toList) = true := bne_iff_ne.mpr c6
     obtain rfl := Option.some.inj H
     go_wp2_with (first | ((with_reducible refine zq25 (N := 2) rfl ?_); refine bx 2 #[.string a0_0, .int .i64 a0_1, .int .i64 a0_2, .string a0_3, .slice A0_4 l0_4.length c0_4, .slice A0_5 l0_5.length c0_5, .slice A0_6 l0_6.length c0_6] 32 ?_; intro gb224 hg w42 hbox hb; have n0_ := zq9 (zq27 (by exact bl HB) hb); have n1_ := zq9 (hbox); have n2_ := zq9 ((by rw [hg]; exact (zq29 (by exact bl HB)) : w.heap.size ≤ gb224)); have n3_ := n2_; clear HB; have HB := n0_; have BK224 := n1_; have GW224 := n2_; have GE224 := n3_; clear n0_ n1_ n2_ n3_; clear hb hbox hg) | ((with_reducible refine zq25 (N := 3) rfl ?_); refine bx 3 #[.string a1_0, .int .i64 a1_1, .int .i64 a1_2, .string a1_3, .slice A1_4 l1_4.length c1_4, .slice A1_5 l1_5.length c1_5, .slice A1_6 l1_6.length c1_6] 32 ?_; intro gb225 hg w43 hbox hb; have n0_ := zq9 (zq30 (g := gb224) (o := .cells #[.string a0_0, .int .i64 a0_1, .int .i64 a0_2, .string a0_3, .slice A0_4 l0_4.length c0_4, .slice A0_5 l0_5.length c0_5, .slice A0_6 l0_6.length c0_6] 32 (0, 0)) (by exact bk BK224) hb); have n1_ := zq9 (zq27 (by exact b1 HB GE224) hb); have n2_ := zq9 (hbox); have n3_ := zq9 ((by rw [hg]; exact (zq29 (by exact b1 HB GE224)) : w.heap.size ≤ gb225)); have n4_ := n3_; have n5_ := zq9 ((by rw [hg]; exact Nat.ne_of_lt (blk_lt (g := gb224) (o := .cells #[.string a0_0, .int .i64 a0_1, .int .i64 a0_2, .string a0_3, .slice A0_4 l0_4.length c0_4, .slice A0_5 l0_5.length c0_5, .slice A0_6 l0_6.length c0_6] 32 (0, 0)) (by exact bk BK224)) : gb224 ≠ gb225)); have n6_ := zq9 ((by rw [hg]; exact Nat.ne_of_gt (blk_lt (g := gb224) (o := .cells #[.string a0_0, .int .i64 a0_1, .int .i64 a0_2, .string a0_3, .slice A0_4 l0_4.length c0_4, .slice A0_5 l0_5.length c0_5, .slice A0_6 l0_6.length c0_6] 32 (0, 0)) (by exact bk BK224)) : gb225 ≠ gb224)); clear BK224; clear HB; have BK224 := n0_; have HB := n1_; have BK225 := n2_; have GW225 := n3_; have GE225 := n4_; have NB224_225 := n5_; have NB225_224 := n6_; clear n0_ n1_ n2_ n3_ n4_ n5_ n6_; clear hb hbox hg; have hnb44 := NB224_225.out; have hnc44 := NB225_224.out; have hcz45_0 : w43.cell? ⟨gb224, 0, none⟩ = some (.string a0_0) := bc BK224 0; have hcz45_1 : w43.cell? ⟨gb224, 1, none⟩ = some (.int .i64 a0_1) := bc BK224 1; have hcz45_2 : w43.cell? ⟨gb224, 2, none⟩ = some (.int .i64 a0_2) := bc BK224 2; have hcz45_3 : w43.cell? ⟨gb224, 3, none⟩ = some (.string a0_3) := bc BK224 3; have hcz45_4 : w43.cell? ⟨gb224, 4, none⟩ = some (.slice A0_4 l0_4.length c0_4) := bc BK224 4; have hcz45_5 : w43.cell? ⟨gb224, 5, none⟩ = some (.slice A0_5 l0_5.length c0_5) := bc BK224 5; have hcz45_6 : w43.cell? ⟨gb224, 6, none⟩ = some (.slice A0_6 l0_6.length c0_6) := bc BK224 6; have hfz45_0 := zq6 BK224.out 0; have hfz45_1 := zq6 BK224.out 1; have hfz45_2 := zq6 BK224.out 2; have hfz45_3 := zq6 BK224.out 3; have hfz45_4 := zq6 BK224.out 4; have hfz45_5 := zq6 BK224.out 5; have hfz45_6 := zq6 BK224.out 6; have hcz46_0 : w43.cell? ⟨gb225, 0, none⟩ = some (.string a1_0) := bc BK225 0; have hcz46_1 : w43.cell? ⟨gb225, 1, none⟩ = some (.int .i64 a1_1) := bc BK225 1; have hcz46_2 : w43.cell? ⟨gb225, 2, none⟩ = some (.int .i64 a1_2) := bc BK225 2; have hcz46_3 : w43.cell? ⟨gb225, 3, none⟩ = some (.string a1_3) := bc BK225 3; have hcz46_4 : w43.cell? ⟨gb225, 4, none⟩ = some (.slice A1_4 l1_4.length c1_4) := bc BK225 4; have hcz46_5 : w43.cell? ⟨gb225, 5, none⟩ = some (.slice A1_5 l1_5.length c1_5) := bc BK225 5; have hcz46_6 : w43.cell? ⟨gb225, 6, none⟩ = some (.slice A1_6 l1_6.length c1_6) := bc BK225 6; have hfz46_0 := zq6 BK225.out 0; have hfz46_1 := zq6 BK225.out 1; have hfz46_2 := zq6 BK225.out 2; have hfz46_3 := zq6 BK225.out 3; have hfz46_4 := zq6 BK225.out 4; have hfz46_5 := zq6 BK225.out 5; have hfz46_6 := zq6 BK225.out 6))
     go_ret
     exact fz (by exact b2 HB GE224 GE225)
   ·rw [if_neg c5] at H
    have c5b0 : (a0_2 == a1_2) = false := beq_eq_false_iff_ne.mpr c5
    have c5b1 : (a0_2 != a1_2) = true := bne_iff_ne.mpr c5
    obtain rfl := Option.some.inj H
    go_wp2_with (first | ((with_reducible refine zq25 (N := 2) rfl ?_); refine bx 2 #[.string a0_0, .int .i64 a0_1, .int .i64 a0_2, .string a0_3, .slice A0_4 l0_4.length c0_4, .slice A0_5 l0_5.length c0_5, .slice A0_6 l0_6.length c0_6] 32 ?_; intro gb224 hg w47 hbox hb; have n0_ := zq9 (zq27 (by exact bl HB) hb); have n1_ := zq9 (hbox); have n2_ := zq9 ((by rw [hg]; exact (zq29 (by exact bl HB)) : w.heap.size ≤ gb224)); have n3_ := n2_; clear HB; have HB := n0_; have BK224 := n1_; have GW224 := n2_; have GE224 := n3_; clear n0_ n1_ n2_ n3_; clear hb hbox hg) | ((with_reducible refine zq25 (N := 3) rfl ?_); refine bx 3 #[.string a1_0, .int .i64 a1_1, .int .i64 a1_2, .string a1_3, .slice A1_4 l1_4.length c1_4, .slice A1_5 l1_5.length c1_5, .slice A1_6 l1_6.length c1_6] 32 ?_; intro gb225 hg w48 hbox hb; have n0_ := zq9 (zq30 (g := gb224) (o := .cells #[.string a0_0, .int .i64 a0_1, .int .i64 a0_2, .string a0_3, .slice A0_4 l0_4.length c0_4, .slice A0_5 l0_5.length c0_5, .slice A0_6 l0_6.length c0_6] 32 (0, 0)) (by exact bk BK224) hb); have n1_ := zq9 (zq27 (by exact b1 HB GE224) hb); have n2_ := zq9 (hbox); have n3_ := zq9 ((by rw [hg]; exact (zq29 (by exact b1 HB GE224)) : w.heap.size ≤ gb225)); have n4_ := n3_; have n5_ := zq9 ((by rw [hg]; exact Nat.ne_of_lt (blk_lt (g := gb224) (o := .cells #[.string a0_0, .int .i64 a0_1, .int .i64 a0_2, .string a0_3, .slice A0_4 l0_4.length c0_4, .slice A0_5 l0_5.length c0_5, .slice A0_6 l0_6.length c0_6] 32 (0, 0)) (by exact bk BK224)) : gb224 ≠ gb225)); have n6_ := zq9 ((by rw [hg]; exact Nat.ne_of_gt (blk_lt (g := gb224) (o := .cells #[.string a0_0, .int .i64 a0_1, .int .i64 a0_2, .string a0_3, .slice A0_4 l0_4.length c0_4, .slice A0_5 l0_5.length c0_5, .slice A0_6 l0_6.length c0_6] 32 (0, 0)) (by exact bk BK224)) : gb225 ≠ gb224)); clear BK224; clear HB; have BK224 := n0_; have HB := n1_; have BK225 := n2_; have GW225 := n3_; have GE225 := n4_; have NB224_225 := n5_; have NB225_224 := n6_; clear n0_ n1_ n2_ n3_ n4_ n5_ n6_; clear hb hbox hg; have hnb49 := NB224_225.out; have hnc49 := NB225_224.out; have hcz50_0 : w48.cell? ⟨gb224, 0, none⟩ = some (.string a0_0) := bc BK224 0; have hcz50_1 : w48.cell? ⟨gb224, 1, none⟩ = some (.int .i64 a0_1) := bc BK224 1; have hcz50_2 : w48.cell? ⟨gb224, 2, none⟩ = some (.int .i64 a0_2) := bc BK224 2; have hcz50_3 : w48.cell? ⟨gb224, 3, none⟩ = some (.string a0_3) := bc BK224 3; have hcz50_4 : w48.cell? ⟨gb224, 4, none⟩ = some (.slice A0_4 l0_4.length c0_4) := bc BK224 4; have hcz50_5 : w48.cell? ⟨gb224, 5, none⟩ = some (.slice A0_5 l0_5.length c0_5) := bc BK224 5; have hcz50_6 : w48.cell? ⟨gb224, 6, none⟩ = some (.slice A0_6 l0_6.length c0_6) := bc BK224 6; have hfz50_0 := zq6 BK224.out 0; have hfz50_1 := zq6 BK224.out 1; have hfz50_2 := zq6 BK224.out 2; have hfz50_3 := zq6 BK224.out 3; have hfz50_4 := zq6 BK224.out 4; have hfz50_5 := zq6 BK224.out 5; have hfz50_6 := zq6 BK224.out 6; have hcz51_0 : w48.cell? ⟨gb225, 0, none⟩ = some (.string a1_0) := bc BK225 0; have hcz51_1 : w48.cell? ⟨gb225, 1, none⟩ = some (.int .i64 a1_1) := bc BK225 1; have hcz51_2 : w48.cell? ⟨gb225, 2, none⟩ = some (.int .i64 a1_2) := bc BK225 2; have hcz51_3 : w48.cell? ⟨gb225, 3, none⟩ = some (.string a1_3) := bc BK225 3; have hcz51_4 : w48.cell? ⟨gb225, 4, none⟩ = some (.slice A1_4 l1_4.length c1_4) := bc BK225 4; have hcz51_5 : w48.cell? ⟨gb225, 5, none⟩ = some (.slice A1_5 l1_5.length c1_5) := bc BK225 5; have hcz51_6 : w48.cell? ⟨gb225, 6, none⟩ = some (.slice A1_6 l1_6.length c1_6) := bc BK225 6; have hfz51_0 := zq6 BK225.out 0; have hfz51_1 := zq6 BK225.out 1; have hfz51_2 := zq6 BK225.out 2; have hfz51_3 := zq6 BK225.out 3; have hfz51_4 := zq6 BK225.out 4; have hfz51_5 := zq6 BK225.out 5; have hfz51_6 := zq6 BK225.out 6))
    go_ret
    exact fz (by exact b2 HB GE224 GE225)
  ·rw [if_neg c4] at H
   have c4b0 : (a0_1 == a1_1) = false := beq_eq_false_iff_ne.mpr c4
   have c4b1 : (a0_1 != a1_1) = true := bne_iff_ne.mpr c4
   obtain rfl := Option.some.inj H
   go_wp2_with (first | ((with_reducible refine zq25 (N := 2) rfl ?_); refine bx 2 #[.string a0_0, .int .i64 a0_1, .int .i64 a0_2, .string a0_3, .slice A0_4 l0_4.length c0_4, .slice A0_5 l0_5.length c0_5, .slice A0_6 l0_6.length c0_6] 32 ?_; intro gb224 hg w52 hbox hb; have n0_ := zq9 (zq27 (by exact bl HB) hb); have n1_ := zq9 (hbox); have n2_ := zq9 ((by rw [hg]; exact (zq29 (by exact bl HB)) : w.heap.size ≤ gb224)); have n3_ := n2_; clear HB; have HB := n0_; have BK224 := n1_; have GW224 := n2_; have GE224 := n3_; clear n0_ n1_ n2_ n3_; clear hb hbox hg) | ((with_reducible refine zq25 (N := 3) rfl ?_); refine bx 3 #[.string a1_0, .int .i64 a1_1, .int .i64 a1_2, .string a1_3, .slice A1_4 l1_4.length c1_4, .slice A1_5 l1_5.length c1_5, .slice A1_6 l1_6.length c1_6] 32 ?_; intro gb225 hg w53 hbox hb; have n0_ := zq9 (zq30 (g := gb224) (o := .cells #[.string a0_0, .int .i64 a0_1, .int .i64 a0_2, .string a0_3, .slice A0_4 l0_4.length c0_4, .slice A0_5 l0_5.length c0_5, .slice A0_6 l0_6.length c0_6] 32 (0, 0)) (by exact bk BK224) hb); have n1_ := zq9 (zq27 (by exact b1 HB GE224) hb); have n2_ := zq9 (hbox); have n3_ := zq9 ((by rw [hg]; exact (zq29 (by exact b1 HB GE224)) : w.heap.size ≤ gb225)); have n4_ := n3_; have n5_ := zq9 ((by rw [hg]; exact Nat.ne_of_lt (blk_lt (g := gb224) (o := .cells #[.string a0_0, .int .i64 a0_1, .int .i64 a0_2, .string a0_3, .slice A0_4 l0_4.length c0_4, .slice A0_5 l0_5.length c0_5, .slice A0_6 l0_6.length c0_6] 32 (0, 0)) (by exact bk BK224)) : gb224 ≠ gb225)); have n6_ := zq9 ((by rw [hg]; exact Nat.ne_of_gt (blk_lt (g := gb224) (o := .cells #[.string a0_0, .int .i64 a0_1, .int .i64 a0_2, .string a0_3, .slice A0_4 l0_4.length c0_4, .slice A0_5 l0_5.length c0_5, .slice A0_6 l0_6.length c0_6] 32 (0, 0)) (by exact bk BK224)) : gb225 ≠ gb224)); clear BK224; clear HB; have BK224 := n0_; have HB := n1_; have BK225 := n2_; have GW225 := n3_; have GE225 := n4_; have NB224_225 := n5_; have NB225_224 := n6_; clear n0_ n1_ n2_ n3_ n4_ n5_ n6_; clear hb hbox hg; have hnb54 := NB224_225.out; have hnc54 := NB225_224.out; have hcz55_0 : w53.cell? ⟨gb224, 0, none⟩ = some (.string a0_0) := bc BK224 0; have hcz55_1 : w53.cell? ⟨gb224, 1, none⟩ = some (.int .i64 a0_1) := bc BK224 1; have hcz55_2 : w53.cell? ⟨gb224, 2, none⟩ = some (.int .i64 a0_2) := bc BK224 2; have hcz55_3 : w53.cell? ⟨gb224, 3, none⟩ = some (.string a0_3) := bc BK224 3; have hcz55_4 : w53.cell? ⟨gb224, 4, none⟩ = some (.slice A0_4 l0_4.length c0_4) := bc BK224 4; have hcz55_5 : w53.cell? ⟨gb224, 5, none⟩ = some (.slice A0_5 l0_5.length c0_5) := bc BK224 5; have hcz55_6 : w53.cell? ⟨gb224, 6, none⟩ = some (.slice A0_6 l0_6.length c0_6) := bc BK224 6; have hfz55_0 := zq6 BK224.out 0; have hfz55_1 := zq6 BK224.out 1; have hfz55_2 := zq6 BK224.out 2; have hfz55_3 := zq6 BK224.out 3; have hfz55_4 := zq6 BK224.out 4; have hfz55_5 := zq6 BK224.out 5; have hfz55_6 := zq6 BK224.out 6; have hcz56_0 : w53.cell? ⟨gb225, 0, none⟩ = some (.string a1_0) := bc BK225 0; have hcz56_1 : w53.cell? ⟨gb225, 1, none⟩ = some (.int .i64 a1_1) := bc BK225 1; have hcz56_2 : w53.cell? ⟨gb225, 2, none⟩ = some (.int .i64 a1_2) := bc BK225 2; have hcz56_3 : w53.cell? ⟨gb225, 3, none⟩ = some (.string a1_3) := bc BK225 3; have hcz56_4 : w53.cell? ⟨gb225, 4, none⟩ = some (.slice A1_4 l1_4.length c1_4) := bc BK225 4; have hcz56_5 : w53.cell? ⟨gb225, 5, none⟩ = some (.slice A1_5 l1_5.length c1_5) := bc BK225 5; have hcz56_6 : w53.cell? ⟨gb225, 6, none⟩ = some (.slice A1_6 l1_6.length c1_6) := bc BK225 6; have hfz56_0 := zq6 BK225.out 0; have hfz56_1 := zq6 BK225.out 1; have hfz56_2 := zq6 BK225.out 2; have hfz56_3 := zq6 BK225.out 3; have hfz56_4 := zq6 BK225.out 4; have hfz56_5 := zq6 BK225.out 5; have hfz56_6 := zq6 BK225.out 6))
   go_ret
   exact fz (by exact b2 HB GE224 GE225)
 ·rw [if_neg c3] at H
  have c3b0 : (a0_0.toList == a1_0.toList) = false := beq_eq_false_iff_ne.mpr c3
  have c3b1 : (a0_0.toList != a1_0.toList) = true := bne_iff_ne.mpr c3
  obtain rfl := Option.some.inj H
  go_wp2_with (first | ((with_reducible refine zq25 (N := 2) rfl ?_); refine bx 2 #[.string a0_0, .int .i64 a0_1, .int .i64 a0_2, .string a0_3, .slice A0_4 l0_4.length c0_4, .slice A0_5 l0_5.length c0_5, .slice A0_6 l0_6.length c0_6] 32 ?_; intro gb224 hg w57 hbox hb; have n0_ := zq9 (zq27 (by exact bl HB) hb); have n1_ := zq9 (hbox); have n2_ := zq9 ((by rw [hg]; exact (zq29 (by exact bl HB)) : w.heap.size ≤ gb224)); have n3_ := n2_; clear HB; have HB := n0_; have BK224 := n1_; have GW224 := n2_; have GE224 := n3_; clear n0_ n1_ n2_ n3_; clear hb hbox hg) | ((with_reducible refine zq25 (N := 3) rfl ?_); refine bx 3 #[.string a1_0, .int .i64 a1_1, .int .i64 a1_2, .string a1_3, .slice A1_4 l1_4.length c1_4, .slice A1_5 l1_5.length c1_5, .slice A1_6 l1_6.length c1_6] 32 ?_; intro gb225 hg w58 hbox hb; have n0_ := zq9 (zq30 (g := gb224) (o := .cells #[.string a0_0, .int .i64 a0_1, .int .i64 a0_2, .string a0_3, .slice A0_4 l0_4.length c0_4, .slice A0_5 l0_5.length c0_5, .slice A0_6 l0_6.length c0_6] 32 (0, 0)) (by exact bk BK224) hb); have n1_ := zq9 (zq27 (by exact b1 HB GE224) hb); have n2_ := zq9 (hbox); have n3_ := zq9 ((by rw [hg]; exact (zq29 (by exact b1 HB GE224)) : w.heap.size ≤ gb225)); have n4_ := n3_; have n5_ := zq9 ((by rw [hg]; exact Nat.ne_of_lt (blk_lt (g := gb224) (o := .cells #[.string a0_0, .int .i64 a0_1, .int .i64 a0_2, .string a0_3, .slice A0_4 l0_4.length c0_4, .slice A0_5 l0_5.length c0_5, .slice A0_6 l0_6.length c0_6] 32 (0, 0)) (by exact bk BK224)) : gb224 ≠ gb225)); have n6_ := zq9 ((by rw [hg]; exact Nat.ne_of_gt (blk_lt (g := gb224) (o := .cells #[.string a0_0, .int .i64 a0_1, .int .i64 a0_2, .string a0_3, .slice A0_4 l0_4.length c0_4, .slice A0_5 l0_5.length c0_5, .slice A0_6 l0_6.length c0_6] 32 (0, 0)) (by exact bk BK224)) : gb225 ≠ gb224)); clear BK224; clear HB; have BK224 := n0_; have HB := n1_; have BK225 := n2_; have GW225 := n3_; have GE225 := n4_; have NB224_225 := n5_; have NB225_224 := n6_; clear n0_ n1_ n2_ n3_ n4_ n5_ n6_; clear hb hbox hg; have hnb59 := NB224_225.out; have hnc59 := NB225_224.out; have hcz60_0 : w58.cell? ⟨gb224, 0, none⟩ = some (.string a0_0) := bc BK224 0; have hcz60_1 : w58.cell? ⟨gb224, 1, none⟩ = some (.int .i64 a0_1) := bc BK224 1; have hcz60_2 : w58.cell? ⟨gb224, 2, none⟩ = some (.int .i64 a0_2) := bc BK224 2; have hcz60_3 : w58.cell? ⟨gb224, 3, none⟩ = some (.string a0_3) := bc BK224 3; have hcz60_4 : w58.cell? ⟨gb224, 4, none⟩ = some (.slice A0_4 l0_4.length c0_4) := bc BK224 4; have hcz60_5 : w58.cell? ⟨gb224, 5, none⟩ = some (.slice A0_5 l0_5.length c0_5) := bc BK224 5; have hcz60_6 : w58.cell? ⟨gb224, 6, none⟩ = some (.slice A0_6 l0_6.length c0_6) := bc BK224 6; have hfz60_0 := zq6 BK224.out 0; have hfz60_1 := zq6 BK224.out 1; have hfz60_2 := zq6 BK224.out 2; have hfz60_3 := zq6 BK224.out 3; have hfz60_4 := zq6 BK224.out 4; have hfz60_5 := zq6 BK224.out 5; have hfz60_6 := zq6 BK224.out 6; have hcz61_0 : w58.cell? ⟨gb225, 0, none⟩ = some (.string a1_0) := bc BK225 0; have hcz61_1 : w58.cell? ⟨gb225, 1, none⟩ = some (.int .i64 a1_1) := bc BK225 1; have hcz61_2 : w58.cell? ⟨gb225, 2, none⟩ = some (.int .i64 a1_2) := bc BK225 2; have hcz61_3 : w58.cell? ⟨gb225, 3, none⟩ = some (.string a1_3) := bc BK225 3; have hcz61_4 : w58.cell? ⟨gb225, 4, none⟩ = some (.slice A1_4 l1_4.length c1_4) := bc BK225 4; have hcz61_5 : w58.cell? ⟨gb225, 5, none⟩ = some (.slice A1_5 l1_5.length c1_5) := bc BK225 5; have hcz61_6 : w58.cell? ⟨gb225, 6, none⟩ = some (.slice A1_6 l1_6.length c1_6) := bc BK225 6; have hfz61_0 := zq6 BK225.out 0; have hfz61_1 := zq6 BK225.out 1; have hfz61_2 := zq6 BK225.out 2; have hfz61_3 := zq6 BK225.out 3; have hfz61_4 := zq6 BK225.out 4; have hfz61_5 := zq6 BK225.out 5; have hfz61_6 := zq6 BK225.out 6))
  go_ret
  exact fz (by exact b2 HB GE224 GE225)
def laws_eqEntryS.T6 : Bool × List (List Nat × List Nat) := (true, [([], []), ([], []), ([0, 1], [0, 1]), ([2], [2]), ([], []), ([], []), ([4, 5], [4, 5]), ([6], [6]), ([3, 7], [3, 7]), ([8], [8])])
def laws_eqEntryS.B6 : List Nat := [0, 0, 3, 7, 0, 0, 48, 112, 255, 511]
theorem laws_eqEntryS.tab6 : rtab .any (opsOf Try.f60 6) = laws_eqEntryS.T6 := by kernel_rfl
theorem laws_eqEntryS.bits6 : waitsOk laws_eqEntryS.T6.2 laws_eqEntryS.B6 = true := by kernel_rfl
set_option maxHeartbeats 8000000 in
set_option maxRecDepth 100000 in
theorem laws_eqEntryS.calls (k : Nat) (A0 : Option Addr) (c0 : Nat) (l0 : List (S32)) (A1 : Option Addr) (c1 : Nat) (l1 : List (S32)) (r : Bool) (w : World) (hr0 : Kd.C k32 w A0 l0.length l0) (hc0 : l0.length ≤ c0) (hr1 : Kd.C k32 w A1 l1.length l1) (hc1 : l1.length ≤ c1) (h : laws_eqEntryS.f k l0 l1 = some r) :
  Calls Try.prog 60 #[.slice A0 l0.length c0, .slice A1 l1.length c1] w fun e w' => e = .returned (.bool r) ∧ Below w.heap.size w w' := by
 have hu32 := Try.underlying32
 have HR0 := zq9 hr0
 have HC0 := zq9 hc0
 clear hr0 hc0
 have HR1 := zq9 hr1
 have HC1 := zq9 hc1
 clear hr1 hc1
 have HB := zq9 (Below.refl w.heap.size w)
 have H : (if (l0.length : Int) = (l1.length : Int) then (laws_eqEntryS.l0 k l0 l1 0) else (some false)) = some r := h
 clear h
 go_enter Try.func60, Try.ntmps60
 by_cases c3 : (l0.length : Int) = (l1.length : Int)
 ·rw [if_pos c3] at H
  have c3b0 : ((l0.length : Int) == (l1.length : Int)) = true := beq_iff_eq.mpr c3
  have c3b1 : ((l0.length : Int) != (l1.length : Int)) = false := bne_eq_false_iff_eq.mpr c3
  have c3b2 : (l0.length == l1.length) = true := by first | simpa using c3 | (simp at c3 ⊢; omega)
  clear c3
  have H' := zq9 H
  clear H
  go_wp2
  go_loopg [5] k (fun kq v5 w' => ∃ (x5_1 : Int), v5 = .int .i64 x5_1 ∧ Aside0 (laws_eqEntryS.l0 kq l0 l1 x5_1 = some r) ∧ Aside0 (kq ≤ k) ∧ Aside0 (Below w.heap.size w w'))
  case atStart => exact ⟨(0), (by first | rfl | (simp; done) | (simp [*]; done)), H', ⟨Nat.le_refl _⟩, ⟨by exact bl HB⟩⟩
  case round =>
   clear H'
   try clear c1
   try clear p2
   try clear c3
   try clear c3b0
   try clear c3b1
   try clear c3b2
   obtain ⟨x5_1, rfl, HA, HK1, HB⟩ := hrel
   cases gk with
   | zero => exact absurd HA.out (by simp [laws_eqEntryS.l0])
   | succ k1 =>
    have H := HA.out
    clear HA
    simp only [laws_eqEntryS.l0] at H
    by_cases c4 : x5_1 < (l0.length : Int)
    ·rw [if_pos c4] at H
     have c4b0 : decide (x5_1 < (l0.length : Int)) = true := decide_eq_true c4
     clear c4
     by_cases c5 : 0 ≤ x5_1
     ·rw [if_pos c5] at H
      have c5b0 : decide (0 ≤ x5_1) = true := decide_eq_true c5
      clear c5
      by_cases c6 : x5_1 < (l1.length : Int)
      ·rw [if_pos c6] at H
       have c6b0 : decide (x5_1 < (l1.length : Int)) = true := decide_eq_true c6
       clear c6
       replace H := Option.bind_eq_some_iff.mp H
       obtain ⟨t684, A70, H⟩ := H
       try dsimp only at H
       have A7 := zq9 A70
       clear A70
       try go_wp2
       have n0_ := zq9 (zq4 HB.out)
       clear HB
       have HB := n0_
       clear n0_
       have p682 : 0 ≤ (x5_1 : Int) := of_decide_eq_true ‹_›
       have q682 : x5_1 < (l0.length : Int) := of_decide_eq_true ‹_›
       obtain ⟨ad682, A682_4, c682_4, A682_5, c682_5, A682_6, c682_6, e682, hx682_0, hx682_1, hx682_2, hx682_3, hx682_4, hx682_5, hx682_6, hl682_4, hi682_4, hl682_5, hi682_5, hl682_6, hi682_6⟩ := at_T32 HR0.out x5_1 p682 q682
       have hw682_6 := hx682_6
       have hw682_5 := hx682_5
       have hw682_4 := hx682_4
       have hw682_3 := hx682_3
       have hw682_2 := hx682_2
       have hw682_1 := hx682_1
       have hw682_0 := hx682_0
       cases e682
       replace hx682_0 := (HB.out.cell (zq8 w _ hx682_0)).trans hx682_0
       replace hx682_1 := (HB.out.cell (zq8 w _ hx682_1)).trans hx682_1
       replace hx682_2 := (HB.out.cell (zq8 w _ hx682_2)).trans hx682_2
       replace hx682_3 := (HB.out.cell (zq8 w _ hx682_3)).trans hx682_3
       replace hx682_4 := (HB.out.cell (zq8 w _ hx682_4)).trans hx682_4
       replace hx682_5 := (HB.out.cell (zq8 w _ hx682_5)).trans hx682_5
       replace hx682_6 := (HB.out.cell (zq8 w _ hx682_6)).trans hx682_6
       have HR682_4 := zq9 hi682_4
       have HC682_4 := zq9 hl682_4
       clear hi682_4 hl682_4
       have HR682_5 := zq9 hi682_5
       have HC682_5 := zq9 hl682_5
       clear hi682_5 hl682_5
       have HR682_6 := zq9 hi682_6
       have HC682_6 := zq9 hl682_6
       clear hi682_6 hl682_6
       replace p682 := eq_true p682
       replace q682 := eq_true q682
       have p683 : 0 ≤ (x5_1 : Int) := of_decide_eq_true ‹_›
       have q683 : x5_1 < (l1.length : Int) := of_decide_eq_true ‹_›
       obtain ⟨ad683, A683_4, c683_4, A683_5, c683_5, A683_6, c683_6, e683, hx683_0, hx683_1, hx683_2, hx683_3, hx683_4, hx683_5, hx683_6, hl683_4, hi683_4, hl683_5, hi683_5, hl683_6, hi683_6⟩ := at_T32 HR1.out x5_1 p683 q683
       have hw683_6 := hx683_6
       have hw683_5 := hx683_5
       have hw683_4 := hx683_4
       have hw683_3 := hx683_3
       have hw683_2 := hx683_2
       have hw683_1 := hx683_1
       have hw683_0 := hx683_0
       cases e683
       replace hx683_0 := (HB.out.cell (zq8 w _ hx683_0)).trans hx683_0
       replace hx683_1 := (HB.out.cell (zq8 w _ hx683_1)).trans hx683_1
       replace hx683_2 := (HB.out.cell (zq8 w _ hx683_2)).trans hx683_2
       replace hx683_3 := (HB.out.cell (zq8 w _ hx683_3)).trans hx683_3
       replace hx683_4 := (HB.out.cell (zq8 w _ hx683_4)).trans hx683_4
       replace hx683_5 := (HB.out.cell (zq8 w _ hx683_5)).trans hx683_5
       replace hx683_6 := (HB.out.cell (zq8 w _ hx683_6)).trans hx683_6
       have HR683_4 := zq9 hi683_4
       have HC683_4 := zq9 hl683_4
       clear hi683_4 hl683_4
       have HR683_5 := zq9 hi683_5
       have HC683_5 := zq9 hl683_5
       clear hi683_5 hl683_5
       have HR683_6 := zq9 hi683_6
       have HC683_6 := zq9 hl683_6
       clear hi683_6 hl683_6
       replace p683 := eq_true p683
       replace q683 := eq_true q683
       refine start_ (n := 10) (S := fun w' => w'.cell? (ad682.add ((x5_1).toNat * 7)) = some (.string ((rd_T32 l0 x5_1).f0)) ∧ w'.cell? ⟨(ad682.add ((x5_1).toNat * 7)).block, (ad682.add ((x5_1).toNat * 7)).off + 1, none⟩ = some (.int .i64 ((rd_T32 l0 x5_1).f1)) ∧ w'.cell? ⟨(ad682.add ((x5_1).toNat * 7)).block, (ad682.add ((x5_1).toNat * 7)).off + 2, none⟩ = some (.int .i64 ((rd_T32 l0 x5_1).f2)) ∧ w'.cell? ⟨(ad682.add ((x5_1).toNat * 7)).block, (ad682.add ((x5_1).toNat * 7)).off + 3, none⟩ = some (.string ((rd_T32 l0 x5_1).f3)) ∧ w'.cell? ⟨(ad682.add ((x5_1).toNat * 7)).block, (ad682.add ((x5_1).toNat * 7)).off + 4, none⟩ = some (.slice A682_4 ((rd_T32 l0 x5_1).f4).length c682_4) ∧ w'.cell? ⟨(ad682.add ((x5_1).toNat * 7)).block, (ad682.add ((x5_1).toNat * 7)).off + 5, none⟩ = some (.slice A682_5 ((rd_T32 l0 x5_1).f5).length c682_5) ∧ w'.cell? ⟨(ad682.add ((x5_1).toNat * 7)).block, (ad682.add ((x5_1).toNat * 7)).off + 6, none⟩ = some (.slice A682_6 ((rd_T32 l0 x5_1).f6).length c682_6) ∧ w'.cell? (ad683.add ((x5_1).toNat * 7)) = some (.string ((rd_T32 l1 x5_1).f0)) ∧ w'.cell? ⟨(ad683.add ((x5_1).toNat * 7)).block, (ad683.add ((x5_1).toNat * 7)).off + 1, none⟩ = some (.int .i64 ((rd_T32 l1 x5_1).f1)) ∧ w'.cell? ⟨(ad683.add ((x5_1).toNat * 7)).block, (ad683.add ((x5_1).toNat * 7)).off + 2, none⟩ = some (.int .i64 ((rd_T32 l1 x5_1).f2)) ∧ w'.cell? ⟨(ad683.add ((x5_1).toNat * 7)).block, (ad683.add ((x5_1).toNat * 7)).off + 3, none⟩ = some (.string ((rd_T32 l1 x5_1).f3)) ∧ w'.cell? ⟨(ad683.add ((x5_1).toNat * 7)).block, (ad683.add ((x5_1).toNat * 7)).off + 4, none⟩ = some (.slice A683_4 ((rd_T32 l1 x5_1).f4).length c683_4) ∧ w'.cell? ⟨(ad683.add ((x5_1).toNat * 7)).block, (ad683.add ((x5_1).toNat * 7)).off + 5, none⟩ = some (.slice A683_5 ((rd_T32 l1 x5_1).f5).length c683_5) ∧ w'.cell? ⟨(ad683.add ((x5_1).toNat * 7)).block, (ad683.add ((x5_1).toNat * 7)).off + 6, none⟩ = some (.slice A683_6 ((rd_T32 l1 x5_1).f6).length c683_6)) (ds := []) #[false, false, false, false, false, false, false, false, false, false] (by kernel_rfl) rfl rfl ⟨((HB.out.cell (zq8 w _ hw682_0)).trans hw682_0), ((HB.out.cell (zq8 w _ hw682_1)).trans hw682_1), ((HB.out.cell (zq8 w _ hw682_2)).trans hw682_2), ((HB.out.cell (zq8 w _ hw682_3)).trans hw682_3), ((HB.out.cell (zq8 w _ hw682_4)).trans hw682_4), ((HB.out.cell (zq8 w _ hw682_5)).trans hw682_5), ((HB.out.cell (zq8 w _ hw682_6)).trans hw682_6), ((HB.out.cell (zq8 w _ hw683_0)).trans hw683_0), ((HB.out.cell (zq8 w _ hw683_1)).trans hw683_1), ((HB.out.cell (zq8 w _ hw683_2)).trans hw683_2), ((HB.out.cell (zq8 w _ hw683_3)).trans hw683_3), ((HB.out.cell (zq8 w _ hw683_4)).trans hw683_4), ((HB.out.cell (zq8 w _ hw683_5)).trans hw683_5), ((HB.out.cell (zq8 w _ hw683_6)).trans hw683_6)⟩ (fun hHeld => ?_); refine with_tabW laws_eqEntryS.tab6 laws_eqEntryS.bits6 (fun HT_ HW_ => ?_)
       generalize wr.drew = w9 at HB HR682_4 HR682_5 HR682_6 HR683_4 HR683_5 HR683_6 hx682_0 hx682_1 hx682_2 hx682_3 hx682_4 hx682_5 hx682_6 hx683_0 hx683_1 hx683_2 hx683_3 hx683_4 hx683_5 hx683_6 hHeld ⊢
       refine pa HT_ 0 17 (zb 10 1) ?_
       refine pa HT_ 1 18 (zb 10 3) ?_
       refine pa HT_ 2 19 (zb 10 7) ?_
       refine pa HT_ 4 21 (zb 10 23) ?_
       refine pa HT_ 5 22 (zb 10 55) ?_
       refine pa HT_ 6 23 (zb 10 119) ?_
       refine take_ (i := 3) (N := some 20) (v := ?_) (a' := ?_) (zb 10 127) rfl rfl (take_ofW HT_.out HW_.out (by kernel_rfl)) (fun _ _ _ h => h) (Or.inl ⟨by rfl, ?_⟩) hHeld ?_ ?_
       rotate_left; ·rintro w' ⟨s0, s1, s2, s3, s4, s5, s6, s7, s8, s9, s10, s11, s12, s13⟩; go_simp; with_reducible rfl
       rotate_left; ·simp only [Act.put, zq0, zq1, zq2, i64_w, i32_w]; rfl
       refine take_ (i := 7) (N := some 24) (v := ?_) (a' := ?_) (zb 10 255) rfl rfl (take_ofW HT_.out HW_.out (by kernel_rfl)) (fun _ _ _ h => h) (Or.inl ⟨by rfl, ?_⟩) hHeld ?_ ?_
       rotate_left; ·rintro w' ⟨s0, s1, s2, s3, s4, s5, s6, s7, s8, s9, s10, s11, s12, s13⟩; go_simp; with_reducible rfl
       rotate_left; ·simp only [Act.put, zq0, zq1, zq2, i64_w, i32_w]; rfl
       refine one_ (i := 8) (N := some 25) (zb 10 511) rfl rfl (one_of HT_.out (by kernel_rfl)) (by decide) (fun K hK => ?_)
       refine gs Try.func14 #[.agg #[.string ((rd_T32 l0 x5_1).f0), .int .i64 ((rd_T32 l0 x5_1).f1), .int .i64 ((rd_T32 l0 x5_1).f2), .string ((rd_T32 l0 x5_1).f3), .slice A682_4 ((rd_T32 l0 x5_1).f4).length c682_4, .slice A682_5 ((rd_T32 l0 x5_1).f5).length c682_5, .slice A682_6 ((rd_T32 l0 x5_1).f6).length c682_6], .agg #[.string ((rd_T32 l1 x5_1).f0), .int .i64 ((rd_T32 l1 x5_1).f1), .int .i64 ((rd_T32 l1 x5_1).f2), .string ((rd_T32 l1 x5_1).f3), .slice A683_4 ((rd_T32 l1 x5_1).f4).length c683_4, .slice A683_5 ((rd_T32 l1 x5_1).f5).length c683_5, .slice A683_6 ((rd_T32 l1 x5_1).f6).length c683_6]] ?_
       with_reducible refine (laws_eqEntry.calls k1 ((rd_T32 l0 x5_1).f0) ((rd_T32 l0 x5_1).f1) ((rd_T32 l0 x5_1).f2) ((rd_T32 l0 x5_1).f3) _ _ ((rd_T32 l0 x5_1).f4) _ _ ((rd_T32 l0 x5_1).f5) _ _ ((rd_T32 l0 x5_1).f6) ((rd_T32 l1 x5_1).f0) ((rd_T32 l1 x5_1).f1) ((rd_T32 l1 x5_1).f2) ((rd_T32 l1 x5_1).f3) _ _ ((rd_T32 l1 x5_1).f4) _ _ ((rd_T32 l1 x5_1).f5) _ _ ((rd_T32 l1 x5_1).f6) t684 _ ?side1 ?side2 ?side3 ?side4 ?side5 ?side6 ?side7 ?side8 ?side9 ?side10 ?side11 ?side12 A7.out).mono ?_
       (case side1 => exact kc HR682_4 HB)
       (case side2 => exact HC682_4.out)
       (case side3 => exact kc HR682_5 HB)
       (case side4 => exact HC682_5.out)
       (case side5 => exact kc HR682_6 HB)
       (case side6 => exact HC682_6.out)
       (case side7 => exact kc HR683_4 HB)
       (case side8 => exact HC683_4.out)
       (case side9 => exact kc HR683_5 HB)
       (case side10 => exact HC683_5.out)
       (case side11 => exact kc HR683_6 HB)
       (case side12 => exact HC683_6.out)
       rintro e w10 ⟨rfl, hb⟩
       refine ⟨_, rfl, ?_⟩
       have n0_ := zq9 (zq27 (by exact bl HB) hb)
       clear HB
       have HB := n0_
       clear n0_
       (try clear hb)
       (try clear hb2)
       (try clear hk)
       (try clear hi)
       refine hK.out _ _ ⟨((HB.out.cell (zq8 w _ hw682_0)).trans hw682_0), ((HB.out.cell (zq8 w _ hw682_1)).trans hw682_1), ((HB.out.cell (zq8 w _ hw682_2)).trans hw682_2), ((HB.out.cell (zq8 w _ hw682_3)).trans hw682_3), ((HB.out.cell (zq8 w _ hw682_4)).trans hw682_4), ((HB.out.cell (zq8 w _ hw682_5)).trans hw682_5), ((HB.out.cell (zq8 w _ hw682_6)).trans hw682_6), ((HB.out.cell (zq8 w _ hw683_0)).trans hw683_0), ((HB.out.cell (zq8 w _ hw683_1)).trans hw683_1), ((HB.out.cell (zq8 w _ hw683_2)).trans hw683_2), ((HB.out.cell (zq8 w _ hw683_3)).trans hw683_3), ((HB.out.cell (zq8 w _ hw683_4)).trans hw683_4), ((HB.out.cell (zq8 w _ hw683_5)).trans hw683_5), ((HB.out.cell (zq8 w _ hw683_6)).trans hw683_6)⟩ (fun hHeld => ?_)
       clear hK K
       refine norm_ (a' := ?_) ?_ ?_
       rotate_left; ·show Act.put _ (some 25) _ = _; simp only [Act.put, zq0, zq1, zq2, i64_w, i32_w]; rfl
       refine pa HT_ 9 26 (zb 10 1023) ?_
       refine done_ (done_of HT_.out (by kernel_rfl)) ?_
       by_cases c8 : t684 = true
       ·subst c8
        have H1 : (laws_eqEntryS.l0 k1 l0 l1 (wrap64 (x5_1 + 1))) = some r := by rw [if_pos rfl] at H; exact H
        clear H
        have H := H1
        clear H1
        have H' := zq9 H
        clear H
        try go_wp2
        go_roundg k1
        case measure => have := HK1.out; omega
        case rel => exact ⟨(wrap64 (x5_1 + 1)), (by first | rfl | (simp; done) | (simp [*]; done)), H', ⟨by have := HK1.out; omega⟩, ⟨by exact bl HB⟩⟩
       ·replace c8 := Bool.eq_false_iff.mpr c8
        subst c8
        have H1 : (some false) = some r := by rw [if_neg (show ¬ (false = true) by decide)] at H; exact H
        clear H
        have H := H1
        clear H1
        obtain rfl := Option.some.inj H
        try go_wp2
        go_ret
        exact fz (by exact bl HB)
      ·rw [if_neg c6] at H
       exact absurd H (by simp)
     ·rw [if_neg c5] at H
      exact absurd H (by simp)
    ·rw [if_neg c4] at H
     have c4b0 : decide (x5_1 < (l0.length : Int)) = false := decide_eq_false c4
     clear c4
     obtain rfl := Option.some.inj H
     go_wp2
     go_ret
     exact fz (by exact bl HB)
 ·rw [if_neg c3] at H
  have c3b0 : ((l0.length : Int) == (l1.length : Int)) = false := beq_eq_false_iff_ne.mpr c3
  have c3b1 : ((l0.length : Int) != (l1.length : Int)) = true := bne_iff_ne.mpr c3
  have c3b2 : (l0.length == l1.length) = false := by first | simpa using c3 | (simp at c3 ⊢; omega)
  obtain rfl := Option.some.inj H
  go_wp2
  go_ret
  exact fz (by exact bl HB)
set_option maxHeartbeats 8000000 in
set_option maxRecDepth 100000 in
theorem laws_eqBase.calls (k : Nat) (a0_0 : Int) (A0_1 : Option Addr) (c0_1 : Nat) (l0_1 : List (S32)) (a1_0 : Int) (A1_1 : Option Addr) (c1_1 : Nat) (l1_1 : List (S32)) (r : Bool) (w : World) (hr0_1 : Kd.C k32 w A0_1 l0_1.length l0_1) (hc0_1 : l0_1.length ≤ c0_1) (hr1_1 : Kd.C k32 w A1_1 l1_1.length l1_1) (hc1_1 : l1_1.length ≤ c1_1) (h : laws_eqBase.f k a0_0 l0_1 a1_0 l1_1 = some r) :
    Calls Try.prog 20 #[.agg #[.int .i64 a0_0, .slice A0_1 l0_1.length c0_1], .agg #[.int .i64 a1_0, .slice A1_1 l1_1.length c1_1]] w fun e w' => e = .returned (.bool r) ∧ Below w.heap.size w w' := by
  have hu46 := Try.underlying46
  have HR0_1 := zq9 hr0_1
  have HC0_1 := zq9 hc0_1
  clear hr0_1 hc0_1
  have HR1_1 := zq9 hr1_1
  have HC1_1 := zq9 hc1_1
  clear hr1_1 hc1_1
  have HB := zq9 (Below.refl w.heap.size w)
  have H : (if a0_0 = a1_0 then ((laws_eqEntryS.f k l0_1 l1_1).bind fun t687 => (if t687 = true then (some true) else (some false))) else (some false)) = some r := h
  clear h
  go_enter Try.func20, Try.ntmps20
  by_cases c3 : a0_0 = a1_0
  · rw [if_pos c3] at H
    have c3b0 : (a0_0 == a1_0) = true := beq_iff_eq.mpr c3
    have c3b1 : (a0_0 != a1_0) = false := bne_eq_false_iff_eq.mpr c3
    clear c3
    replace H := Option.bind_eq_some_iff.mp H
    obtain ⟨t687, A40, H⟩ := H
    try dsimp only at H
    have A4 := zq9 A40
    clear A40
    by_cases c5 : t687 = true
    · subst c5
      have H1 : (some true) = some r := by rw [if_pos rfl] at H; exact H
      clear H
      have H := H1
      clear H1
      obtain rfl := Option.some.inj H
      go_wp2_with (first | ((with_reducible refine zq25 (N := 2) rfl ?_); refine bx 2 #[.int .i64 a0_0, .slice A0_1 l0_1.length c0_1] 46 ?_; intro gb685 hg w6 hbox hb; have n0_ := zq9 (zq27 (by exact bl HB) hb); have n1_ := zq9 (hbox); have n2_ := zq9 ((by rw [hg]; exact (zq29 (by exact bl HB)) : w.heap.size ≤ gb685)); have n3_ := n2_; clear HB; have HB := n0_; have BK685 := n1_; have GW685 := n2_; have GE685 := n3_; clear n0_ n1_ n2_ n3_; clear hb hbox hg) | ((with_reducible refine zq25 (N := 3) rfl ?_); refine bx 3 #[.int .i64 a1_0, .slice A1_1 l1_1.length c1_1] 46 ?_; intro gb686 hg w7 hbox hb; have n0_ := zq9 (zq30 (g := gb685) (o := .cells #[.int .i64 a0_0, .slice A0_1 l0_1.length c0_1] 46 (0, 0)) (by exact bk BK685) hb); have n1_ := zq9 (zq27 (by exact b1 HB GE685) hb); have n2_ := zq9 (hbox); have n3_ := zq9 ((by rw [hg]; exact (zq29 (by exact b1 HB GE685)) : w.heap.size ≤ gb686)); have n4_ := n3_; have n5_ := zq9 ((by rw [hg]; exact Nat.ne_of_lt (blk_lt (g := gb685) (o := .cells #[.int .i64 a0_0, .slice A0_1 l0_1.length c0_1] 46 (0, 0)) (by exact bk BK685)) : gb685 ≠ gb686)); have n6_ := zq9 ((by rw [hg]; exact Nat.ne_of_gt (blk_lt (g := gb685) (o := .cells #[.int .i64 a0_0, .slice A0_1 l0_1.length c0_1] 46 (0, 0)) (by exact bk BK685)) : gb686 ≠ gb685)); clear BK685; clear HB; have BK685 := n0_; have HB := n1_; have BK686 := n2_; have GW686 := n3_; have GE686 := n4_; have NB685_686 := n5_; have NB686_685 := n6_; clear n0_ n1_ n2_ n3_ n4_ n5_ n6_; clear hb hbox hg; have hnb8 := NB685_686.out; have hnc8 := NB686_685.out; have hcz9_0 : w7.cell? ⟨gb685, 0, none⟩ = some (.int .i64 a0_0) := bc BK685 0; have hcz9_1 : w7.cell? ⟨gb685, 1, none⟩ = some (.slice A0_1 l0_1.length c0_1) := bc BK685 1; have hfz9_0 := zq6 BK685.out 0; have hfz9_1 := zq6 BK685.out 1; have hcz10_0 : w7.cell? ⟨gb686, 0, none⟩ = some (.int .i64 a1_0) := bc BK686 0; have hcz10_1 : w7.cell? ⟨gb686, 1, none⟩ = some (.slice A1_1 l1_1.length c1_1) := bc BK686 1; have hfz10_0 := zq6 BK686.out 0; have hfz10_1 := zq6 BK686.out 1) | ((with_reducible refine zq24 (f := 60) rfl ?_); refine gl (some 14) Try.func60 #[.slice A0_1 l0_1.length c0_1, .slice A1_1 l1_1.length c1_1] ?_; (with_reducible refine (laws_eqEntryS.calls k _ _ l0_1 _ _ l1_1 true _ ?side1 ?side2 ?side3 ?side4 A4.out).mono ?_); (case side1 => exact kc HR0_1 HB); (case side2 => exact HC0_1.out); (case side3 => exact kc HR1_1 HB); (case side4 => exact HC1_1.out); rintro e w11 ⟨rfl, hb⟩; refine ⟨_, rfl, ?_⟩; have n0_ := zq9 (zq30 (g := gb685) (o := .cells #[.int .i64 a0_0, .slice A0_1 l0_1.length c0_1] 46 (0, 0)) (by exact bk BK685) hb); have n1_ := zq9 (zq30 (g := gb686) (o := .cells #[.int .i64 a1_0, .slice A1_1 l1_1.length c1_1] 46 (0, 0)) (by exact bk BK686) hb); have n2_ := zq9 (zq27 (by exact b2 HB GE685 GE686) hb); clear BK685; clear BK686; clear HB; have BK685 := n0_; have BK686 := n1_; have HB := n2_; clear n0_ n1_ n2_; (try clear hb); (try clear hb2); (try clear hk); (try clear hi)))
      go_ret
      exact fz (by exact b2 HB GE685 GE686)
    · replace c5 := Bool.eq_false_iff.mpr c5
      subst c5
      have H1 : (some false) = some r := by rw [if_neg (show ¬ (false = true) by decide)] at H; exact H
      clear H
      have H := H1
      clear H1
      obtain rfl := Option.some.inj H
      go_wp2_with (first | ((with_reducible refine zq25 (N := 2) rfl ?_); refine bx 2 #[.int .i64 a0_0, .slice A0_1 l0_1.length c0_1] 46 ?_; intro gb685 hg w6 hbox hb; have n0_ := zq9 (zq27 (by exact bl HB) hb); have n1_ := zq9 (hbox); have n2_ := zq9 ((by rw [hg]; exact (zq29 (by exact bl HB)) : w.heap.size ≤ gb685)); have n3_ := n2_; clear HB; have HB := n0_; have BK685 := n1_; have GW685 := n2_; have GE685 := n3_; clear n0_ n1_ n2_ n3_; clear hb hbox hg) | ((with_reducible refine zq25 (N := 3) rfl ?_); refine bx 3 #[.int .i64 a1_0, .slice A1_1 l1_1.length c1_1] 46 ?_; intro gb686 hg w7 hbox hb; have n0_ := zq9 (zq30 (g := gb685) (o := .cells #[.int .i64 a0_0, .slice A0_1 l0_1.length c0_1] 46 (0, 0)) (by exact bk BK685) hb); have n1_ := zq9 (zq27 (by exact b1 HB GE685) hb); have n2_ := zq9 (hbox); have n3_ := zq9 ((by rw [hg]; exact (zq29 (by exact b1 HB GE685)) : w.heap.size ≤ gb686)); have n4_ := n3_; have n5_ := zq9 ((by rw [hg]; exact Nat.ne_of_lt (blk_lt (g := gb685) (o := .cells #[.int .i64 a0_0, .slice A0_1 l0_1.length c0_1] 46 (0, 0)) (by exact bk BK685)) : gb685 ≠ gb686)); have n6_ := zq9 ((by rw [hg]; exact Nat.ne_of_gt (blk_lt (g := gb685) (o := .cells #[.int .i64 a0_0, .slice A0_1 l0_1.length c0_1] 46 (0, 0)) (by exact bk BK685)) : gb686 ≠ gb685)); clear BK685; clear HB; have BK685 := n0_; have HB := n1_; have BK686 := n2_; have GW686 := n3_; have GE686 := n4_; have NB685_686 := n5_; have NB686_685 := n6_; clear n0_ n1_ n2_ n3_ n4_ n5_ n6_; clear hb hbox hg; have hnb8 := NB685_686.out; have hnc8 := NB686_685.out; have hcz9_0 : w7.cell? ⟨gb685, 0, none⟩ = some (.int .i64 a0_0) := bc BK685 0; have hcz9_1 : w7.cell? ⟨gb685, 1, none⟩ = some (.slice A0_1 l0_1.length c0_1) := bc BK685 1; have hfz9_0 := zq6 BK685.out 0; have hfz9_1 := zq6 BK685.out 1; have hcz10_0 : w7.cell? ⟨gb686, 0, none⟩ = some (.int .i64 a1_0) := bc BK686 0; have hcz10_1 : w7.cell? ⟨gb686, 1, none⟩ = some (.slice A1_1 l1_1.length c1_1) := bc BK686 1; have hfz10_0 := zq6 BK686.out 0; have hfz10_1 := zq6 BK686.out 1) | ((with_reducible refine zq24 (f := 60) rfl ?_); refine gl (some 14) Try.func60 #[.slice A0_1 l0_1.length c0_1, .slice A1_1 l1_1.length c1_1] ?_; (with_reducible refine (laws_eqEntryS.calls k _ _ l0_1 _ _ l1_1 false _ ?side1 ?side2 ?side3 ?side4 A4.out).mono ?_); (case side1 => exact kc HR0_1 HB); (case side2 => exact HC0_1.out); (case side3 => exact kc HR1_1 HB); (case side4 => exact HC1_1.out); rintro e w11 ⟨rfl, hb⟩; refine ⟨_, rfl, ?_⟩; have n0_ := zq9 (zq30 (g := gb685) (o := .cells #[.int .i64 a0_0, .slice A0_1 l0_1.length c0_1] 46 (0, 0)) (by exact bk BK685) hb); have n1_ := zq9 (zq30 (g := gb686) (o := .cells #[.int .i64 a1_0, .slice A1_1 l1_1.length c1_1] 46 (0, 0)) (by exact bk BK686) hb); have n2_ := zq9 (zq27 (by exact b2 HB GE685 GE686) hb); clear BK685; clear BK686; clear HB; have BK685 := n0_; have BK686 := n1_; have HB := n2_; clear n0_ n1_ n2_; (try clear hb); (try clear hb2); (try clear hk); (try clear hi)))
      go_ret
      exact fz (by exact b2 HB GE685 GE686)
  · rw [if_neg c3] at H
    have c3b0 : (a0_0 == a1_0) = false := beq_eq_false_iff_ne.mpr c3
    have c3b1 : (a0_0 != a1_0) = true := bne_iff_ne.mpr c3
    obtain rfl := Option.some.inj H
    go_wp2_with (first | ((with_reducible refine zq25 (N := 2) rfl ?_); refine bx 2 #[.int .i64 a0_0, .slice A0_1 l0_1.length c0_1] 46 ?_; intro gb685 hg w18 hbox hb; have n0_ := zq9 (zq27 (by exact bl HB) hb); have n1_ := zq9 (hbox); have n2_ := zq9 ((by rw [hg]; exact (zq29 (by exact bl HB)) : w.heap.size ≤ gb685)); have n3_ := n2_; clear HB; have HB := n0_; have BK685 := n1_; have GW685 := n2_; have GE685 := n3_; clear n0_ n1_ n2_ n3_; clear hb hbox hg) | ((with_reducible refine zq25 (N := 3) rfl ?_); refine bx 3 #[.int .i64 a1_0, .slice A1_1 l1_1.length c1_1] 46 ?_; intro gb686 hg w19 hbox hb; have n0_ := zq9 (zq30 (g := gb685) (o := .cells #[.int .i64 a0_0, .slice A0_1 l0_1.length c0_1] 46 (0, 0)) (by exact bk BK685) hb); have n1_ := zq9 (zq27 (by exact b1 HB GE685) hb); have n2_ := zq9 (hbox); have n3_ := zq9 ((by rw [hg]; exact (zq29 (by exact b1 HB GE685)) : w.heap.size ≤ gb686)); have n4_ := n3_; have n5_ := zq9 ((by rw [hg]; exact Nat.ne_of_lt (blk_lt (g := gb685) (o := .cells #[.int .i64 a0_0, .slice A0_1 l0_1.length c0_1] 46 (0, 0)) (by exact bk BK685)) : gb685 ≠ gb686)); have n6_ := zq9 ((by rw [hg]; exact Nat.ne_of_gt (blk_lt (g := gb685) (o := .cells #[.int .i64 a0_0, .slice A0_1 l0_1.length c0_1] 46 (0, 0)) (by exact bk BK685)) : gb686 ≠ gb685)); clear BK685; clear HB; have BK685 := n0_; have HB := n1_; have BK686 := n2_; have GW686 := n3_; have GE686 := n4_; have NB685_686 := n5_; have NB686_685 := n6_; clear n0_ n1_ n2_ n3_ n4_ n5_ n6_; clear hb hbox hg; have hnb20 := NB685_686.out; have hnc20 := NB686_685.out; have hcz21_0 : w19.cell? ⟨gb685, 0, none⟩ = some (.int .i64 a0_0) := bc BK685 0; have hcz21_1 : w19.cell? ⟨gb685, 1, none⟩ = some (.slice A0_1 l0_1.length c0_1) := bc BK685 1; have hfz21_0 := zq6 BK685.out 0; have hfz21_1 := zq6 BK685.out 1; have hcz22_0 : w19.cell? ⟨gb686, 0, none⟩ = some (.int .i64 a1_0) := bc BK686 0; have hcz22_1 : w19.cell? ⟨gb686, 1, none⟩ = some (.slice A1_1 l1_1.length c1_1) := bc BK686 1; have hfz22_0 := zq6 BK686.out 0; have hfz22_1 := zq6 BK686.out 1))
    go_ret
    exact fz (by exact b2 HB GE685 GE686)
set_option maxHeartbeats 8000000 in
set_option maxRecDepth 100000 in
theorem laws_FnExactBaseOk.calls_t (k : Nat) (a0_0 : Int) (A0_1 : Option Addr) (c0_1 : Nat) (l0_1 : List (S26)) (r : Bool) (w : World) (hr0_1 : Kd.C k26 w A0_1 l0_1.length l0_1) (hc0_1 : l0_1.length ≤ c0_1) (h : laws_FnExactBaseOk.f k a0_0 l0_1 = some r) (hr_ : r = true) :
  Calls Try.prog 5 #[.agg #[.int .i64 a0_0, .slice A0_1 l0_1.length c0_1]] w fun e w' => e = .returned (.bool r) ∧ Below w.heap.size w w' := by
  have hu41 := Try.underlying41
  have hu46 := Try.underlying46
  have HR0_1 := zq9 hr0_1
  have HC0_1 := zq9 hc0_1
  clear hr0_1 hc0_1
  have HB := zq9 (Below.refl w.heap.size w)
  have H : ((laws_szBase.f k a0_0 l0_1 1048576).bind fun t689 => (if t689 < 0 then (some true) else ((laws_toBase.f k a0_0 l0_1).bind fun bt690 => ((spec_BaseOk.f k bt690.1 bt690.2).bind fun t694 => ((laws_toBase.f k a0_0 l0_1).bind fun bt695 => ((impl_BaseOk.f k bt695.1 bt695.2).bind fun t700 => (if (t700 != t694) = true then (some false) else ((laws_toBase.f k a0_0 l0_1).bind fun bt701 => ((laws_eqBase.f k bt695.1 bt695.2 bt701.1 bt701.2).bind fun t705 => (if t705 = true then (some true) else (some false))))))))))) = some r := h
  clear h
  replace H := Option.bind_eq_some_iff.mp H
  obtain ⟨t689, A20, H⟩ := H
  try dsimp only at H
  have A2 := zq9 A20
  clear A20
  by_cases c3 : t689 < 0
  · rw [if_pos c3] at H
    have c3b0 : decide (t689 < 0) = true := decide_eq_true c3
    clear c3
    obtain rfl := Option.some.inj H
    go_enter Try.func5, Try.ntmps5
    go_wp2_with (first | ((with_reducible refine zq25 (N := 1) rfl ?_); refine bx 1 #[.int .i64 a0_0, .slice A0_1 l0_1.length c0_1] 41 ?_; intro gb688 hg w4 hbox hb; have n0_ := zq9 (zq27 (by exact bl HB) hb); have n1_ := zq9 (hbox); have n2_ := zq9 ((by rw [hg]; exact (zq29 (by exact bl HB)) : w.heap.size ≤ gb688)); have n3_ := n2_; clear HB; have HB := n0_; have BK688 := n1_; have GW688 := n2_; have GE688 := n3_; clear n0_ n1_ n2_ n3_; clear hb hbox hg; have hcz5_0 : w4.cell? ⟨gb688, 0, none⟩ = some (.int .i64 a0_0) := bc BK688 0; have hcz5_1 : w4.cell? ⟨gb688, 1, none⟩ = some (.slice A0_1 l0_1.length c0_1) := bc BK688 1; have hfz5_0 := zq6 BK688.out 0; have hfz5_1 := zq6 BK688.out 1) | ((with_reducible refine zq24 (f := 16) rfl ?_); refine gl (some 9) Try.func16 #[.agg #[.int .i64 a0_0, .slice A0_1 l0_1.length c0_1], .int .i64 1048576] ?_; (with_reducible refine (laws_szBase.calls k a0_0 _ _ l0_1 1048576 t689 _ ?side1 ?side2 A2.out).mono ?_); (case side1 => exact kc HR0_1 HB); (case side2 => exact HC0_1.out); rintro e w6 ⟨rfl, hb⟩; refine ⟨_, rfl, ?_⟩; have n0_ := zq9 (zq30 (g := gb688) (o := .cells #[.int .i64 a0_0, .slice A0_1 l0_1.length c0_1] 41 (0, 0)) (by exact bk BK688) hb); have n1_ := zq9 (zq27 (by exact b1 HB GE688) hb); clear BK688; clear HB; have BK688 := n0_; have HB := n1_; clear n0_ n1_; (try clear hb); (try clear hb2); (try clear hk); (try clear hi)))
    go_ret
    exact fz (by exact b1 HB GE688)
  · rw [if_neg c3] at H
    have c3b0 : decide (t689 < 0) = false := decide_eq_false c3
    clear c3
    replace H := Option.bind_eq_some_iff.mp H
    obtain ⟨⟨t690, t691⟩, A70, H⟩ := H
    try dsimp only at H
    have A7 := zq9 A70
    clear A70
    replace H := Option.bind_eq_some_iff.mp H
    obtain ⟨t694, A80, H⟩ := H
    try dsimp only at H
    have A8 := zq9 A80
    clear A80
    replace H := Option.bind_eq_some_iff.mp H
    obtain ⟨⟨t695, t696⟩, A90, H⟩ := H
    try dsimp only at H
    have A9 := zq9 A90
    clear A90
    replace H := Option.bind_eq_some_iff.mp H
    obtain ⟨t700, A100, H⟩ := H
    try dsimp only at H
    have A10 := zq9 A100
    clear A100
    by_cases c11 : (t700 != t694) = true
    · rw [if_pos c11] at H
      have c11b0 : (t700 != t694) = true := c11
      (try (have c11b1 : decide (t700 = t694) = false := by simpa using c11))
      (try (have c11b2 : (t700 == t694) = false := by simpa using c11))
      (try (have c11b3 : ¬ (t700 = t694) := by simpa using c11))
      clear c11
      obtain rfl := Option.some.inj H
      cases hr_
    · rw [if_neg c11] at H
      have c11b0 : (t700 != t694) = false := by simpa using c11
      (try (have c11b1 : decide (t700 = t694) = true := by simpa using c11))
      (try (have c11b2 : (t700 == t694) = true := by simpa using c11))
      clear c11
      replace H := Option.bind_eq_some_iff.mp H
      obtain ⟨⟨t701, t702⟩, A260, H⟩ := H
      try dsimp only at H
      have A26 := zq9 A260
      clear A260
      replace H := Option.bind_eq_some_iff.mp H
      obtain ⟨t705, A270, H⟩ := H
      try dsimp only at H
      have A27 := zq9 A270
      clear A270
      by_cases c28 : t705 = true
      · subst c28
        have H1 : (some true) = some r := by rw [if_pos rfl] at H; exact H
        clear H
        have H := H1
        clear H1
        obtain rfl := Option.some.inj H
        go_enter Try.func5, Try.ntmps5
        try go_wp2_with (first | ((with_reducible refine zq25 (N := 1) rfl ?_); refine bx 1 #[.int .i64 a0_0, .slice A0_1 l0_1.length c0_1] 41 ?_; intro gb688 hg w29 hbox hb; have n0_ := zq9 (zq27 (by exact bl HB) hb); have n1_ := zq9 (hbox); have n2_ := zq9 ((by rw [hg]; exact (zq29 (by exact bl HB)) : w.heap.size ≤ gb688)); have n3_ := n2_; clear HB; have HB := n0_; have BK688 := n1_; have GW688 := n2_; have GE688 := n3_; clear n0_ n1_ n2_ n3_; clear hb hbox hg; have hcz30_0 : w29.cell? ⟨gb688, 0, none⟩ = some (.int .i64 a0_0) := bc BK688 0; have hcz30_1 : w29.cell? ⟨gb688, 1, none⟩ = some (.slice A0_1 l0_1.length c0_1) := bc BK688 1; have hfz30_0 := zq6 BK688.out 0; have hfz30_1 := zq6 BK688.out 1) | ((with_reducible refine zq24 (f := 16) rfl ?_); refine gl (some 9) Try.func16 #[.agg #[.int .i64 a0_0, .slice A0_1 l0_1.length c0_1], .int .i64 1048576] ?_; (with_reducible refine (laws_szBase.calls k a0_0 _ _ l0_1 1048576 t689 _ ?side1 ?side2 A2.out).mono ?_); (case side1 => exact kc HR0_1 HB); (case side2 => exact HC0_1.out); rintro e w31 ⟨rfl, hb⟩; refine ⟨_, rfl, ?_⟩; have n0_ := zq9 (zq30 (g := gb688) (o := .cells #[.int .i64 a0_0, .slice A0_1 l0_1.length c0_1] 41 (0, 0)) (by exact bk BK688) hb); have n1_ := zq9 (zq27 (by exact b1 HB GE688) hb); clear BK688; clear HB; have BK688 := n0_; have HB := n1_; clear n0_ n1_; (try clear hb); (try clear hb2); (try clear hk); (try clear hi); have hcz32_0 : w31.cell? ⟨gb688, 0, none⟩ = some (.int .i64 a0_0) := bc BK688 0; have hcz32_1 : w31.cell? ⟨gb688, 1, none⟩ = some (.slice A0_1 l0_1.length c0_1) := bc BK688 1; have hfz32_0 := zq6 BK688.out 0; have hfz32_1 := zq6 BK688.out 1) | ((with_reducible refine zq24 (f := 18) rfl ?_); refine gl (some 13) Try.func18 #[.agg #[.int .i64 a0_0, .slice A0_1 l0_1.length c0_1]] ?_; (with_reducible refine (laws_toBase.calls k a0_0 _ _ l0_1 t690 t691 _ ?side1 ?side2 A7.out).mono ?_); (case side1 => exact kc HR0_1 HB); (case side2 => exact HC0_1.out); rintro e w33 ⟨v692, rfl, ho0, hb⟩; refine ⟨_, rfl, ?_⟩; have n0_ := zq9 (Kd.S_lower ho0 (zq29 (by exact b1 HB GE688))); have n1_ := zq9 (zq30 (g := gb688) (o := .cells #[.int .i64 a0_0, .slice A0_1 l0_1.length c0_1] 41 (0, 0)) (by exact bk BK688) hb); have n2_ := zq9 (zq27 (by exact b1 HB GE688) hb); clear BK688; clear HB; have HO693 := n0_; have BK688 := n1_; have HB := n2_; clear n0_ n1_ n2_; (try clear hb); (try clear hb2); (try clear hk); (try clear hi); (try clear ho0); obtain ⟨Ao34, co34, eo34⟩ := Kd.S_slice HO693.out; subst eo34) | ((with_reducible refine zq24 (f := 17) rfl ?_); refine gl (some 14) Try.func17 #[.agg #[.int .i64 t690, .slice Ao34 t691.length co34]] ?_; (with_reducible refine (spec_BaseOk.calls k t690 _ _ t691 t694 _ ?side1 ?side2 A8.out).mono ?_); (case side1 => repeat (first | exact (Kd.S_reads' HO693.out).2.2 | (with_reducible refine zq18 ?_ _) | (with_reducible refine zq19 ?_ _) | (with_reducible refine zq20 ?_))); (case side2 => exact (Kd.S_reads' HO693.out).2.1); rintro e w35 ⟨rfl, hb⟩; refine ⟨_, rfl, ?_⟩; have n0_ := zq9 (Kd.S_below (by (with_reducible repeat (first | apply Kd.S_alloc | apply Kd.S_drewN | apply Kd.S_drew)); exact HO693.out) hb); have n1_ := zq9 (zq30 (g := gb688) (o := .cells #[.int .i64 a0_0, .slice A0_1 l0_1.length c0_1] 41 (0, 0)) (by exact bk BK688) hb); have n2_ := zq9 (zq27 (by exact b1 HB GE688) hb); clear HO693; clear BK688; clear HB; have HO693 := n0_; have BK688 := n1_; have HB := n2_; clear n0_ n1_ n2_; (try clear hb); (try clear hb2); (try clear hk); (try clear hi); have hcz36_0 : w35.cell? ⟨gb688, 0, none⟩ = some (.int .i64 a0_0) := bc BK688 0; have hcz36_1 : w35.cell? ⟨gb688, 1, none⟩ = some (.slice A0_1 l0_1.length c0_1) := bc BK688 1; have hfz36_0 := zq6 BK688.out 0; have hfz36_1 := zq6 BK688.out 1) | ((with_reducible refine zq24 (f := 18) rfl ?_); refine gl (some 16) Try.func18 #[.agg #[.int .i64 a0_0, .slice A0_1 l0_1.length c0_1]] ?_; (with_reducible refine (laws_toBase.calls k a0_0 _ _ l0_1 t695 t696 _ ?side1 ?side2 A9.out).mono ?_); (case side1 => exact kc HR0_1 HB); (case side2 => exact HC0_1.out); rintro e w37 ⟨v697, rfl, ho0, hb⟩; refine ⟨_, rfl, ?_⟩; have n0_ := zq9 (Kd.S_elder' (by (with_reducible repeat (first | apply Kd.S_alloc | apply Kd.S_drewN | apply Kd.S_drew)); exact HO693.out) (Kd.S_base ho0) hb); have n1_ := zq9 (Kd.S_lower (Kd.S_new' ho0 (Kd.S_lt (by (with_reducible repeat (first | apply Kd.S_alloc | apply Kd.S_drewN | apply Kd.S_drew)); exact HO693.out))) (zq29 (by exact b1 HB GE688))); have n2_ := zq9 (zq30 (g := gb688) (o := .cells #[.int .i64 a0_0, .slice A0_1 l0_1.length c0_1] 41 (0, 0)) (by exact bk BK688) hb); have n3_ := zq9 (zq27 (by exact b1 HB GE688) hb); clear HO693; clear BK688; clear HB; have HO693 := n0_; have HO698 := n1_; have BK688 := n2_; have HB := n3_; clear n0_ n1_ n2_ n3_; (try clear hb); (try clear hb2); (try clear hk); (try clear hi); (try clear ho0)) | ((with_reducible refine zq25 (N := 5) rfl ?_); refine bx 5 #[.int .i64 0, .slice none 0 0] 46 ?_; intro gb699 hg w38 hbox hb; have n0_ := zq9 (Kd.S_below (by (with_reducible repeat (first | apply Kd.S_alloc | apply Kd.S_drewN | apply Kd.S_drew)); exact HO693.out) hb); have n1_ := zq9 (Kd.S_below (by (with_reducible repeat (first | apply Kd.S_alloc | apply Kd.S_drewN | apply Kd.S_drew)); exact HO698.out) hb); have n2_ := zq9 (zq30 (g := gb688) (o := .cells #[.int .i64 a0_0, .slice A0_1 l0_1.length c0_1] 41 (0, 0)) (by exact bk BK688) hb); have n3_ := zq9 (zq27 (by exact b1 HB GE688) hb); have n4_ := zq9 (hbox); have n5_ := zq9 ((by rw [hg]; exact (zq29 (by exact b1 HB GE688)) : w.heap.size ≤ gb699)); have n6_ := n5_; have n7_ := zq9 ((by rw [hg]; exact Nat.ne_of_lt (blk_lt (g := gb688) (o := .cells #[.int .i64 a0_0, .slice A0_1 l0_1.length c0_1] 41 (0, 0)) (by exact bk BK688)) : gb688 ≠ gb699)); have n8_ := zq9 ((by rw [hg]; exact Nat.ne_of_gt (blk_lt (g := gb688) (o := .cells #[.int .i64 a0_0, .slice A0_1 l0_1.length c0_1] 41 (0, 0)) (by exact bk BK688)) : gb699 ≠ gb688)); clear HO693; clear HO698; clear BK688; clear HB; have HO693 := n0_; have HO698 := n1_; have BK688 := n2_; have HB := n3_; have BK699 := n4_; have GW699 := n5_; have GE699 := n6_; have NB688_699 := n7_; have NB699_688 := n8_; clear n0_ n1_ n2_ n3_ n4_ n5_ n6_ n7_ n8_; clear hb hbox hg; have hnb39 := NB699_688.out; have hnc39 := NB688_699.out; have hcz40_0 : w38.cell? ⟨gb699, 0, none⟩ = some (.int .i64 0) := bc BK699 0; have hcz40_1 : w38.cell? ⟨gb699, 1, none⟩ = some (.slice none 0 0) := bc BK699 1; have hfz40_0 := zq6 BK699.out 0; have hfz40_1 := zq6 BK699.out 1; obtain ⟨Ao41, co41, eo41⟩ := Kd.S_slice HO698.out; subst eo41) | ((with_reducible refine zq24 (f := 19) rfl ?_); refine gl (some 18) Try.func19 #[.agg #[.int .i64 t695, .slice Ao41 t696.length co41]] ?_; (with_reducible refine (impl_BaseOk.calls k t695 _ _ t696 t700 _ ?side1 ?side2 A10.out).mono ?_); (case side1 => refine (Kd.S_reads' (e := 32) (base := w.heap.size) (ok := fun k_ => (True ∧ some k_ ≠ (.slice Ao34 t691.length co34 : Value).ownBlock)) (n := t696.length) (c := co41) ?_).2.2; exact (by (with_reducible repeat (first | apply Kd.S_alloc | apply Kd.S_drewN | apply Kd.S_drew)); exact (Kd.S_mono (Kd.S_far (p := ⟨gb699, 1, none⟩) (Kd.S_far (p := ⟨gb699, 0, none⟩) (Kd.S_types HO698.out BK699.out (by decide)) (fun _ hk => hk.2) (.int .i64 t695)) (fun _ hk => hk.2) (.slice Ao41 t696.length co41)) (fun _ h_ => h_.1)))); (case side2 => exact (Kd.S_reads' HO698.out).2.1); rintro e w42 ⟨rfl, hb⟩; refine ⟨_, rfl, ?_⟩; have n0_ := zq9 (Kd.S_below (by (with_reducible repeat (first | apply Kd.S_alloc | apply Kd.S_drewN | apply Kd.S_drew)); exact (Kd.S_mono (Kd.S_far (p := ⟨gb699, 1, none⟩) (Kd.S_far (p := ⟨gb699, 0, none⟩) (Kd.S_types HO693.out BK699.out (by decide)) (fun _ hk => hk.2) (.int .i64 t695)) (fun _ hk => hk.2) (.slice Ao41 t696.length co41)) (fun _ h_ => h_.1))) hb); have n1_ := zq9 (Kd.S_below (by (with_reducible repeat (first | apply Kd.S_alloc | apply Kd.S_drewN | apply Kd.S_drew)); exact (Kd.S_mono (Kd.S_far (p := ⟨gb699, 1, none⟩) (Kd.S_far (p := ⟨gb699, 0, none⟩) (Kd.S_types HO698.out BK699.out (by decide)) (fun _ hk => hk.2) (.int .i64 t695)) (fun _ hk => hk.2) (.slice Ao41 t696.length co41)) (fun _ h_ => h_.1))) hb); have n2_ := zq9 (zq30 (g := gb688) (o := .cells #[.int .i64 a0_0, .slice A0_1 l0_1.length c0_1] 41 (0, 0)) (by refine bp ?_; refine blk_far ?_ NB688_699.out _; refine bp ?_; refine blk_far ?_ NB688_699.out _; refine bp ?_; exact BK688.out) hb); have n3_ := zq9 (zq30 (g := gb699) (o := .cells #[.int .i64 t695, .slice Ao41 t696.length co41] 46 (0, 0)) (by refine bp ?_; refine blk_put (cs := #[.int .i64 t695, .slice none 0 0]) ?_ 1 _ rfl; refine bp ?_; refine blk_put (cs := #[.int .i64 0, .slice none 0 0]) ?_ 0 _ rfl; refine bp ?_; exact BK699.out) hb); have n4_ := zq9 (zq27 (by exact b2 HB GE688 GE699) hb); clear HO693; clear HO698; clear BK688; clear BK699; clear HB; have HO693 := n0_; have HO698 := n1_; have BK688 := n2_; have BK699 := n3_; have HB := n4_; clear n0_ n1_ n2_ n3_ n4_; (try clear hb); (try clear hb2); (try clear hk); (try clear hi)))
        have n0_ := zq9 (Kd.S_drew HO693.out)
        have n1_ := zq9 (Kd.S_drew HO698.out)
        have n2_ := zq9 (blk_drew BK688.out)
        have n3_ := zq9 (blk_drew BK699.out)
        have n4_ := zq9 (zq4 HB.out)
        clear HO693
        clear HO698
        clear BK688
        clear BK699
        clear HB
        have HO693 := n0_
        have HO698 := n1_
        have BK688 := n2_
        have BK699 := n3_
        have HB := n4_
        clear n0_ n1_ n2_ n3_ n4_
        refine start_ (n := 5) (S := fun w' => w'.cell? ⟨gb699, 0, none⟩ = some (.int .i64 t695) ∧ w'.cell? ⟨gb699, 1, none⟩ = some (.slice Ao41 t696.length co41) ∧ w'.cell? ⟨gb688, 0, none⟩ = some (.int .i64 a0_0) ∧ w'.cell? ⟨gb688, 1, none⟩ = some (.slice A0_1 l0_1.length c0_1)) (ds := []) #[false, false, false, false, false] (by kernel_rfl) rfl rfl ⟨bc BK699 0, bc BK699 1, bc BK688 0, bc BK688 1⟩ (fun hHeld => ?_)
        generalize w42.drew = w43 at HO693 HO698 BK688 BK699 HB hHeld ⊢
        refine take_ (i := 0) (N := some 22) (v := ?_) (a' := ?_) (zb 5 1) rfl rfl (by kernel_rfl) (fun _ _ _ h => h) (Or.inl ⟨by rfl, ?_⟩) hHeld ?_ ?_
        rotate_left; · rintro w' ⟨s0, s1, s2, s3⟩; go_simp; with_reducible rfl
        rotate_left; · simp only [Act.put, zq0, zq1, zq2, i64_w, i32_w]; rfl
        refine take_ (i := 1) (N := some 23) (v := ?_) (a' := ?_) (zb 5 3) rfl rfl (by kernel_rfl) (fun _ _ _ h => h) (Or.inl ⟨by rfl, ?_⟩) hHeld ?_ ?_
        rotate_left; · rintro w' ⟨s0, s1, s2, s3⟩; go_simp; with_reducible rfl
        rotate_left; · simp only [Act.put, zq0, zq1, zq2, i64_w, i32_w]; rfl
        refine one_ (i := 2) (N := some 24) (zb 5 7) rfl rfl (by kernel_rfl) (by decide) (fun K hK => ?_)
        refine gs Try.func18 #[.agg #[.int .i64 a0_0, .slice A0_1 l0_1.length c0_1]] ?_
        with_reducible refine (laws_toBase.calls k a0_0 _ _ l0_1 t701 t702 _ ?side1 ?side2 A26.out).mono ?_
        (case side1 => exact kc HR0_1 HB)
        (case side2 => exact HC0_1.out)
        rintro e w44 ⟨v703, rfl, ho0, hb⟩
        refine ⟨_, rfl, ?_⟩
        have n0_ := zq9 (Kd.S_elder' (by (with_reducible repeat (first | apply Kd.S_alloc | apply Kd.S_drewN | apply Kd.S_drew)); exact HO693.out) (Kd.S_base ho0) hb)
        have n1_ := zq9 (Kd.S_elder' (by (with_reducible repeat (first | apply Kd.S_alloc | apply Kd.S_drewN | apply Kd.S_drew)); exact HO698.out) (Kd.S_base ho0) hb)
        have n2_ := zq9 (Kd.S_lower (Kd.S_new' (Kd.S_new' ho0 (Kd.S_lt (by (with_reducible repeat (first | apply Kd.S_alloc | apply Kd.S_drewN | apply Kd.S_drew)); exact HO693.out))) (Kd.S_lt (by (with_reducible repeat (first | apply Kd.S_alloc | apply Kd.S_drewN | apply Kd.S_drew)); exact HO698.out))) (zq29 (by exact b2 HB GE688 GE699)))
        have n3_ := zq9 (zq30 (g := gb688) (o := .cells #[.int .i64 a0_0, .slice A0_1 l0_1.length c0_1] 41 (0, 0)) (by exact bk BK688) hb)
        have n4_ := zq9 (zq30 (g := gb699) (o := .cells #[.int .i64 t695, .slice Ao41 t696.length co41] 46 (0, 0)) (by exact bk BK699) hb)
        have n5_ := zq9 (zq27 (by exact b2 HB GE688 GE699) hb)
        clear HO693
        clear HO698
        clear BK688
        clear BK699
        clear HB
        have HO693 := n0_
        have HO698 := n1_
        have HO704 := n2_
        have BK688 := n3_
        have BK699 := n4_
        have HB := n5_
        clear n0_ n1_ n2_ n3_ n4_ n5_
        (try clear hb)
        (try clear hb2)
        (try clear hk)
        (try clear hi)
        (try clear ho0)
        obtain ⟨Ao45, co45, eo45⟩ := Kd.S_slice HO704.out
        (first | subst eo45 | (injection eo45 with f1_ f2_ f3_; have f4_ := f1_.symm; have f5_ := f3_.symm; clear f1_ f2_ f3_; subst f4_; subst f5_))
        refine hK.out _ _ ⟨bc BK699 0, bc BK699 1, bc BK688 0, bc BK688 1⟩ (fun hHeld => ?_)
        clear hK K
        refine norm_ (a' := ?_) ?_ ?_
        rotate_left; · show Act.put _ (some 24) _ = _; simp only [Act.put, zq0, zq1, zq2, i64_w, i32_w]; rfl
        refine one_ (i := 3) (N := some 25) (zb 5 15) rfl rfl (by kernel_rfl) (by decide) (fun K hK => ?_)
        refine gs Try.func20 #[.agg #[.int .i64 t695, .slice Ao41 t696.length co41], .agg #[.int .i64 t701, .slice Ao45 t702.length co45]] ?_
        with_reducible refine (laws_eqBase.calls k t695 _ _ t696 t701 _ _ t702 true _ ?side1 ?side2 ?side3 ?side4 A27.out).mono ?_
        (case side1 => repeat (first | exact (Kd.S_reads' HO698.out).2.2 | (with_reducible refine zq18 ?_ _) | (with_reducible refine zq19 ?_ _) | (with_reducible refine zq20 ?_)))
        (case side2 => exact (Kd.S_reads' HO698.out).2.1)
        (case side3 => repeat (first | exact (Kd.S_reads' HO704.out).2.2 | (with_reducible refine zq18 ?_ _) | (with_reducible refine zq19 ?_ _) | (with_reducible refine zq20 ?_)))
        (case side4 => exact (Kd.S_reads' HO704.out).2.1)
        rintro e w46 ⟨rfl, hb⟩
        refine ⟨_, rfl, ?_⟩
        have n0_ := zq9 (Kd.S_below (by (with_reducible repeat (first | apply Kd.S_alloc | apply Kd.S_drewN | apply Kd.S_drew)); exact HO693.out) hb)
        have n1_ := zq9 (Kd.S_below (by (with_reducible repeat (first | apply Kd.S_alloc | apply Kd.S_drewN | apply Kd.S_drew)); exact HO698.out) hb)
        have n2_ := zq9 (Kd.S_below (by (with_reducible repeat (first | apply Kd.S_alloc | apply Kd.S_drewN | apply Kd.S_drew)); exact HO704.out) hb)
        have n3_ := zq9 (zq30 (g := gb688) (o := .cells #[.int .i64 a0_0, .slice A0_1 l0_1.length c0_1] 41 (0, 0)) (by exact bk BK688) hb)
        have n4_ := zq9 (zq30 (g := gb699) (o := .cells #[.int .i64 t695, .slice Ao41 t696.length co41] 46 (0, 0)) (by exact bk BK699) hb)
        have n5_ := zq9 (zq27 (by exact b2 HB GE688 GE699) hb)
        clear HO693
        clear HO698
        clear HO704
        clear BK688
        clear BK699
        clear HB
        have HO693 := n0_
        have HO698 := n1_
        have HO704 := n2_
        have BK688 := n3_
        have BK699 := n4_
        have HB := n5_
        clear n0_ n1_ n2_ n3_ n4_ n5_
        (try clear hb)
        (try clear hb2)
        (try clear hk)
        (try clear hi)
        refine hK.out _ _ ⟨bc BK699 0, bc BK699 1, bc BK688 0, bc BK688 1⟩ (fun hHeld => ?_)
        clear hK K
        refine norm_ (a' := ?_) ?_ ?_
        rotate_left; · show Act.put _ (some 25) _ = _; simp only [Act.put, zq0, zq1, zq2, i64_w, i32_w]; rfl
        refine pure_ (i := 4) (N := some 26) (v := ?_) (a' := ?_) (zb 5 31) rfl rfl (by kernel_rfl) (fun _ _ _ h => h) (Or.inl ⟨by rfl, ?_⟩) ?_ ?_
        rotate_left; · intro w'; go_simp; with_reducible rfl
        rotate_left; · simp only [Act.put, zq0, zq1, zq2, i64_w, i32_w]; rfl
        refine done_ (by kernel_rfl) ?_
        try go_wp2
        go_ret
        exact fz (by exact b2 HB GE688 GE699)
      · replace c28 := Bool.eq_false_iff.mpr c28
        subst c28
        have H1 : (some false) = some r := by rw [if_neg (show ¬ (false = true) by decide)] at H; exact H
        clear H
        have H := H1
        clear H1
        obtain rfl := Option.some.inj H
        cases hr_
end Go.Proofs.Ytnkgmcgbbldkgaa.P
namespace Go.Proofs.Ytnkgmcgbbldkgaa.Q
open Go.RowKit Go.Proofs.YtnkgmcgbbldkgaaW.PrintWords Go.Proofs.YtnkgmcgbbldkgaaW.PrintLast
def Opens {α H : Type} (enc : TypeId × Value → H) (P : Program) (W : World) (t : TypeId) (d : Kd α) (ok : α → Prop) : Prop :=
  ∀ (fuel : Nat) (cs : List Value) (y : DataW H × List MemPlace), DataW.trod enc P W 0 (fun _ => true) true fuel t cs = some y → ∃ x : α, d.K W x cs ∧ ok x
section
variable {α β H : Type} {enc : TypeId × Value → H} {P : Program} {W : World} {t e : TypeId}
theorem Opens.int {k : IntKind} (ht : P.underlying t = some (.int k)) : Opens enc P W t (Kd.int k) (fun x => (Lit.int k x).wf = true) := by
  intro fuel cs y h
  obtain ⟨n, rfl, _, hn⟩ := DataW.trod_int ht h
  exact ⟨n, rfl, hn⟩
theorem Opens.string (ht : P.underlying t = some .string) : Opens enc P W t Kd.string (fun x => x.size ≤ maxLen) := by
  intro fuel cs y h
  obtain ⟨s, rfl, _, hs⟩ := DataW.trod_string ht h
  exact ⟨s, rfl, hs⟩
theorem cells_len {b : Nat} {a : Addr} {n : Nat} {cs : List Value} (h : W.cells? b a n = some cs) : cs.length = n := by
  unfold World.cells? at h
  split at h
  · simpa using mapM_some_length h
  · cases h
theorem cells_get {b : Nat} {a : Addr} {n : Nat} {cs : List Value} (h : W.cells? b a n = some cs) (i : Nat) (u : Value) (hu : cs[i]? = some u) : W.cell? (a.add i) = some u := by
  have hl := cells_len h
  have hi : i < n := by rw [← hl]; exact (List.getElem?_eq_some_iff.1 hu).1
  unfold World.cells? at h
  split at h
  · rw [← hu]; exact mapM_some_get h i i (by simp [hi])
  · cases h
theorem each_of {γ : Type} {Q : Nat → γ → Prop} (n : Nat) (h : ∀ i, i < n → ∃ x, Q i x) : ∃ l : List γ, l.length = n ∧ ∀ i x, l[i]? = some x → Q i x := by
  induction n with
  | zero => exact ⟨[], rfl, fun i x hx => by simp at hx⟩
  | succ n ih =>
    obtain ⟨l, hl, hq⟩ := ih (fun i hi => h i (by omega))
    obtain ⟨x, hx⟩ := h n (by omega)
    refine ⟨l ++ [x], by simp [hl], fun i y hy => ?_⟩
    rcases Nat.lt_or_ge i l.length with hi | hi
    · rw [List.getElem?_append_left hi] at hy
      exact hq i y hy
    · rw [List.getElem?_append_right hi] at hy
      have : i - l.length = 0 := by
        have := (List.getElem?_eq_some_iff.1 hy).1
        simp at this
        omega
      rw [this] at hy
      injection hy with hy
      obtain rfl : i = n := by omega
      exact hy ▸ hx
theorem Opens.slice {d : Kd α} {ok : α → Prop} (ht : P.underlying t = some (.slice e)) (hc : P.cellsOf e = d.sz) (h : Opens enc P W e d ok) :
    Opens enc P W t (Kd.slice e d) (fun xs => xs.length ≤ maxLen ∧ ∀ x ∈ xs, ok x) := by
  intro fuel cs y hy
  rcases DataW.trod_slice ht hy with ⟨rfl, _⟩ | ⟨a, len, cap, elems, rest, n, _, rfl, _, hb, hl, hm, hlen, hel, _, _⟩
  · exact ⟨[], ⟨none, 0, rfl, Nat.le_refl _, rfl, by simp, fun h => by simp at h⟩, by simp, by simp⟩
  · have each : ∀ i, i < len → ∃ x : α, (∃ c, c.length = d.sz ∧ d.K W x c ∧ ∀ j u, c[j]? = some u → W.cell? (a.add (i * d.sz + j)) = some u) ∧ ok x := by
      intro i hi
      have h1 := hel i hi
      rw [List.getElem?_eq_getElem (by omega)] at h1
      obtain ⟨c, h2, h3⟩ := Option.bind_eq_some_iff.1 h1
      obtain ⟨x, hK, hx⟩ := h _ _ _ h3
      rw [hc] at h2
      refine ⟨x, ⟨c, d.K_len hK, hK, fun j u hu => ?_⟩, hx⟩
      have h4 := cells_get h2 j u hu
      rwa [add_add] at h4
    obtain ⟨l, hll, hq⟩ := each_of len each
    subst hll
    refine ⟨l, ⟨some a, cap, rfl, hl, rfl, ?_, fun _ => ⟨a, rfl, fun j p hp => (hq j p hp).1⟩⟩, by omega, fun x hx => ?_⟩
    · unfold maxLen at hm; omega
    · obtain ⟨i, hi, rfl⟩ := List.getElem_of_mem hx
      exact (hq i _ (List.getElem?_eq_getElem hi)).2
theorem Opens.iso {d : Kd α} {ok : α → Prop} (f : β → α) (g : α → β) (hfg : ∀ a, f (g a) = a) (h : Opens enc P W t d ok) : Opens enc P W t (Kd.iso d f) (fun x => ok (f x)) := by
  intro fuel cs y hy
  obtain ⟨x, hK, hx⟩ := h _ _ _ hy
  exact ⟨g x, by show d.K W (f (g x)) cs; rw [hfg]; exact hK, by show ok (f (g x)); rw [hfg]; exact hx⟩
def OpensF {α H : Type} (enc : TypeId × Value → H) (P : Program) (W : World) (fs : List Field) (o : Nat) (d : Kd α) (ok : α → Prop) : Prop :=
  ∀ (n : Nat) (cs : List Value) (xs : List (DataW H × List MemPlace)), cs.length = o + d.sz → xs.length = fs.length →
    (∀ (i : Nat) (f : Field), fs[i]? = some f → DataW.trod enc P W 0 (fun _ => true) true n f.type ((cs.drop f.offset).take (P.cellsOf f.type)) = xs[i]?) → ∃ x : α, d.K W x (cs.drop o) ∧ ok x
theorem OpensF.one {d : Kd α} {ok : α → Prop} {f : Field} {o : Nat} (ho : f.offset = o) (hc : P.cellsOf f.type = d.sz) (h : Opens enc P W f.type d ok) : OpensF enc P W [f] o d ok := by
  intro n cs xs hl hx hf
  match xs, hx with
  | [x0], _ =>
    have h0 := hf 0 f rfl
    rw [ho, hc, List.take_of_length_le (by rw [List.length_drop]; omega)] at h0
    exact h n _ x0 (by simpa using h0)
theorem OpensF.cons {d : Kd α} {ok : α → Prop} {d' : Kd β} {ok' : β → Prop} {f : Field} {fs : List Field} {o : Nat} (ho : f.offset = o) (hc : P.cellsOf f.type = d.sz) (h : Opens enc P W f.type d ok)
    (hs : OpensF enc P W fs (o + d.sz) d' ok') : OpensF enc P W (f :: fs) o (Kd.pair d d') (fun x => ok x.1 ∧ ok' x.2) := by
  intro n cs xs hl hx hf
  have hsz : (Kd.pair d d').sz = d.sz + d'.sz := rfl
  match xs, hx with
  | x0 :: xs', hx =>
    have h0 := hf 0 f rfl
    rw [ho, hc] at h0
    obtain ⟨a, ha, oka⟩ := h n _ x0 (by simpa using h0)
    obtain ⟨b, hb, okb⟩ := hs n cs xs' (by omega) (by simpa using hx) (fun i g hg => by simpa using hf (i + 1) g (by simpa using hg))
    refine ⟨(a, b), ⟨(cs.drop o).take d.sz, cs.drop (o + d.sz), ?_, ha, hb⟩, oka, okb⟩
    rw [← List.drop_drop, List.take_append_drop]
theorem Opens.struct {d : Kd α} {ok : α → Prop} {fs : Array Field} (ht : P.underlying t = some (.struct fs)) (hc : P.cellsOf t = d.sz) (h : OpensF enc P W fs.toList 0 d ok) : Opens enc P W t d ok := by
  intro fuel cs y hy
  obtain ⟨xs, n, _, _, hl, hx, hf⟩ := DataW.trod_struct ht hy
  have := h n cs xs (by omega) (by simpa using hx) (fun i f hf' => hf i f (by simpa using hf'))
  simpa using this
end
theorem pos {α : Type} {c : Prop} [Decidable c] {t e : Nat → Option α} {r : α} (h : c) (x : Ev t r) : Ev (fun k => if c then t k else e k) r := by
  obtain ⟨K, hK⟩ := x
  exact ⟨K, fun k hk => (if_pos h).trans (hK k hk)⟩
theorem neg {α : Type} {c : Prop} [Decidable c] {t e : Nat → Option α} {r : α} (h : ¬ c) (x : Ev e r) : Ev (fun k => if c then t k else e k) r := by
  obtain ⟨K, hK⟩ := x
  exact ⟨K, fun k hk => (if_neg h).trans (hK k hk)⟩
theorem both {α : Type} {c : Prop} [Decidable c] {t e : Nat → Option α} {r : α} (x : c → Ev t r) (y : ¬ c → Ev e r) : Ev (fun k => if c then t k else e k) r := by
  by_cases h : c
  · exact pos h (x h)
  · exact neg h (y h)
theorem ret {α : Type} (r : α) : Ev (fun _ => some r) r := Ev.now r
theorem ret' {α : Type} {r q : α} (h : r = q) : Ev (fun _ => some r) q := h ▸ Ev.now r
theorem val {α : Type} {g : Option α} {r : α} (h : g = some r) : Ev (fun _ => g) r := ⟨0, fun _ _ => h⟩
theorem of_eq {α : Type} {g : Nat → Option α} {r q : α} (h : Ev g r) (e : r = q) : Ev g q := e ▸ h
theorem exists_of {α : Type} {g : Nat → Option α} {r : α} (h : Ev g r) : ∃ k, g k = some r := by
  obtain ⟨K, hK⟩ := h
  exact ⟨K, hK K (Nat.le_refl _)⟩
theorem wrap_id {x : Int} (h1 : -9223372036854775808 ≤ x) (h2 : x ≤ 9223372036854775807) : wrap64 x = x := by
  unfold wrap64
  omega
theorem rdOf_lt {α : Type} (d : α) (l : List α) (i : Nat) (h : i < l.length) : rdOf d l (i : Int) = l[i] := by
  simp [rdOf, List.getD_eq_getElem?_getD, h]
theorem toList_inj {a b : ByteArray} (h : a.toList = b.toList) : a = b := by
  rw [ByteArray.toList_eq, ByteArray.toList_eq] at h
  cases a with
  | mk x => cases b with
    | mk y =>
      congr
      exact Array.toList_inj.1 h
end Go.Proofs.Ytnkgmcgbbldkgaa.Q
namespace Go.Proofs.Ytnkgmcgbbldkgaa.Q
open Go.RowKit Go.Proofs.YtnkgmcgbbldkgaaW.PrintWords Go.Proofs.YtnkgmcgbbldkgaaW.PrintLast Go.Proofs.Ytnkgmcgbbldkgaa.P
abbrev LScore := S95
abbrev Score := S99
instance : DecidableEq Score := fun a b => decidable_of_iff (a.f0 = b.f0 ∧ a.f1 = b.f1) ⟨fun h => by cases a; cases b; simp at h; simp [h], fun h => by rw [h]; exact ⟨rfl, rfl⟩⟩
theorem rdLScore_lt (l : List LScore) (i : Nat) (h : i < l.length) : rd_T95 l (i : Int) = l[i] := by
  simp [rd_T95, List.getD_eq_getElem?_getD, h]
theorem rdScore_lt (l : List Score) (i : Nat) (h : i < l.length) : rd_T99 l (i : Int) = l[i] := by
  simp [rd_T99, List.getD_eq_getElem?_getD, h]
theorem szScore_ev (a : ByteArray) (n : Int) (ha : a.size ≤ maxLen) (c : Int) (h0 : 0 ≤ c) (h1 : c ≤ 1048576) :
    ∃ v, laws_szScore.f a n c = some v ∧ v ≤ c ∧ -1 ≤ v ∧ (0 ≤ v → a.size ≤ 1048576) := by
  unfold maxLen at ha
  unfold laws_szScore.f
  rw [wrap_id (x := c - (a.size : Int)) (by omega) (by omega)]
  by_cases h : c - (a.size : Int) < 0
  · exact ⟨-1, if_pos h, by omega, by omega, by omega⟩
  · exact ⟨_, if_neg h, by omega, by omega, fun _ => by omega⟩
theorem szScoreS_l0 (l : List LScore) (hl : l.length ≤ maxLen) (hs : ∀ s ∈ l, s.f0.size ≤ maxLen ∧ (Lit.int .i64 s.f1).wf = true) (d : Nat) : ∀ (i : Nat) (c : Int), i + d = l.length → 0 ≤ c → c ≤ 1048576 →
    ∃ v, Ev (fun k => laws_szScoreS.l0 k l c (i : Int)) v ∧ v ≤ c ∧ -1 ≤ v ∧ (0 ≤ v → ∀ j (h : j < l.length), i ≤ j → l[j].f0.size ≤ 1048576) := by
  unfold maxLen at hl
  induction d with
  | zero =>
    intro i c hi h0 h1
    exact ⟨c, Ev.step (fun k => by rw [laws_szScoreS.l0]) (neg (by omega) (ret c)), by omega, by omega, fun _ j hj hij => by omega⟩
  | succ d ih =>
    intro i c hi h0 h1
    have hlt : i < l.length := by omega
    obtain ⟨hs0, _⟩ := hs _ (List.getElem_mem hlt)
    obtain ⟨v, hv, hv1, hv2, hv3⟩ := szScore_ev _ l[i].f1 hs0 c h0 h1
    by_cases hneg : v < 0
    · refine ⟨-1, Ev.step (fun k => by rw [laws_szScoreS.l0]) (pos (by omega) (pos (by omega) ?_)), by omega, by omega, by omega⟩
      rw [rdLScore_lt _ _ hlt]
      exact Ev.bind (val hv) (pos hneg (ret (-1)))
    · obtain ⟨u, hu, h2, h3, h4⟩ := ih (i + 1) v (by omega) (by omega) (by omega)
      refine ⟨u, Ev.step (fun k => by rw [laws_szScoreS.l0]) (pos (by omega) (pos (by omega) ?_)), by omega, h3, fun h5 j hj hij => ?_⟩
      · rw [rdLScore_lt _ _ hlt, wrap_id (x := (i : Int) + 1) (by omega) (by omega)]
        exact Ev.bind (val hv) (neg hneg hu)
      · rcases Nat.eq_or_lt_of_le hij with rfl | hij
        · exact hv3 (by omega)
        · exact h4 h5 j hj hij
theorem szScoreS_ev (l : List LScore) (hl : l.length ≤ maxLen) (hs : ∀ s ∈ l, s.f0.size ≤ maxLen ∧ (Lit.int .i64 s.f1).wf = true) (c : Int) (h0 : 0 ≤ c) (h1 : c ≤ 1048576) :
    ∃ v, Ev (fun k => laws_szScoreS.f k l c) v ∧ v ≤ c ∧ -1 ≤ v ∧ (0 ≤ v → l.length ≤ 1048576 ∧ ∀ s ∈ l, s.f0.size ≤ 1048576) := by
  have hl' := hl
  unfold maxLen at hl'
  by_cases h : c - (l.length : Int) < 0
  · refine ⟨-1, ?_, by omega, by omega, by omega⟩
    unfold laws_szScoreS.f
    refine pos ?_ (ret _)
    rw [wrap_id (by omega) (by omega)]
    exact h
  · obtain ⟨v, hv, h2, h3, h4⟩ := szScoreS_l0 l hl hs l.length 0 (c - (l.length : Int)) (by omega) (by omega) (by omega)
    refine ⟨v, ?_, by omega, h3, fun h5 => ⟨by omega, fun s hs => ?_⟩⟩
    · unfold laws_szScoreS.f
      rw [wrap_id (by omega) (by omega)]
      exact neg h hv
    · obtain ⟨j, hj, rfl⟩ := List.getElem_of_mem hs
      exact h4 h5 j hj (by omega)
def cvScore (x : LScore) : Score := ⟨x.f0, x.f1⟩
theorem toScoreS_l0 (l : List LScore) (hl : l.length ≤ maxLen) (d : Nat) : ∀ (i : Nat) (x : List Score), i + d = l.length → x.length = l.length → Ev (fun k => laws_toScoreS.l0 k l x (i : Int)) (x.take i ++ (l.drop i).map cvScore) := by
  unfold maxLen at hl
  induction d with
  | zero =>
    intro i x hi hx
    refine Ev.step (fun k => by rw [laws_toScoreS.l0]) (neg (by omega) (ret' ?_))
    rw [List.drop_of_length_le (by omega), List.take_of_length_le (by omega), List.map_nil, List.append_nil]
  | succ d ih =>
    intro i x hi hx
    have hlt : i < l.length := by omega
    refine Ev.step (fun k => by rw [laws_toScoreS.l0]) (pos (by omega) (pos (by omega) ?_))
    rw [rdLScore_lt _ _ hlt, wrap_id (by omega) (by omega)]
    refine Ev.bind (val rfl) (pos (by omega) (of_eq (ih (i + 1) _ (by omega) (by simp [hx])) ?_))
    rw [List.drop_eq_getElem_cons hlt, Int.toNat_natCast, List.take_set, List.take_succ_eq_append_getElem (by omega), List.set_append_right _ _ (by simp; omega), List.map_cons]
    simp [show min i x.length = i by omega]
    rfl
theorem toScoreS_ev (l : List LScore) (hl : l.length ≤ 1048576) : Ev (fun k => laws_toScoreS.f k l) (l.map cvScore) := by
  unfold laws_toScoreS.f
  refine pos (by omega) (pos (by omega) ?_)
  exact of_eq (toScoreS_l0 l (by unfold maxLen; omega) l.length 0 _ (by omega) (by simp)) (by simp)
theorem eqScore_eq (a b : Score) : laws_eqScore.f a.f0 a.f1 b.f0 b.f1 = some (decide (a = b)) := by
  unfold laws_eqScore.f
  obtain ⟨a0, a1⟩ := a
  obtain ⟨b0, b1⟩ := b
  by_cases h0 : a0 = b0
  · by_cases h1 : a1 = b1
    · simp [h0, h1]
    · simp [h0, h1]
  · have : ¬ a0.toList = b0.toList := fun e => h0 (toList_inj e)
    simp [h0, this]
theorem eqScoreS_l0 (l l' : List Score) (hl : l.length ≤ maxLen) (he : l.length = l'.length) (d : Nat) : ∀ (i : Nat), i + d = l.length → Ev (fun k => laws_eqScoreS.l0 k l l' (i : Int)) (decide (l.drop i = l'.drop i)) := by
  unfold maxLen at hl
  induction d with
  | zero =>
    intro i hi
    refine Ev.step (fun k => by rw [laws_eqScoreS.l0]) (neg (by omega) (ret' ?_))
    rw [List.drop_of_length_le (by omega), List.drop_of_length_le (by omega)]
    simp
  | succ d ih =>
    intro i hi
    have hlt : i < l.length := by omega
    have hlt' : i < l'.length := by omega
    refine Ev.step (fun k => by rw [laws_eqScoreS.l0]) (pos (by omega) (pos (by omega) (pos (by omega) ?_)))
    rw [rdScore_lt _ _ hlt, rdScore_lt _ _ hlt', wrap_id (by omega) (by omega), List.drop_eq_getElem_cons hlt, List.drop_eq_getElem_cons hlt']
    refine Ev.bind (val (eqScore_eq _ _)) (both (fun h => ?_) (fun h => ret' ?_))
    · refine of_eq (ih (i + 1) (by omega)) ?_
      rw [of_decide_eq_true h]
      exact decide_eq_decide.2 (by simp only [List.cons.injEq, true_and])
    · exact (decide_eq_false (fun e => h (decide_eq_true (List.cons.inj e).1))).symm
theorem eqScoreS_ev (l l' : List Score) (hl : l.length ≤ maxLen) : Ev (fun k => laws_eqScoreS.f k l l') (decide (l = l')) := by
  unfold laws_eqScoreS.f
  refine both (fun h => ?_) (fun h => ret' ?_)
  · exact eqScoreS_l0 l l' hl (by omega) l.length 0 (by omega)
  · have : l ≠ l' := fun e => h (by rw [e])
    simp [this]
theorem eqScoreS_same (l : List Score) (hl : l.length ≤ maxLen) : Ev (fun k => laws_eqScoreS.f k l l) true := of_eq (eqScoreS_ev l l hl) (by simp)
end Go.Proofs.Ytnkgmcgbbldkgaa.Q
namespace Go.Proofs.Ytnkgmcgbbldkgaa.Q
open Go.RowKit Go.Proofs.YtnkgmcgbbldkgaaW.PrintWords Go.Proofs.YtnkgmcgbbldkgaaW.PrintLast
theorem bl_irrefl (a : List UInt8) : Op.bytesLess a a = false := by
  induction a with
  | nil => rfl
  | cons x r ih => simp [Op.bytesLess, ih]
def lt (a b : ByteArray) : Bool := Op.bytesLess a.toList b.toList
theorem lt_irrefl (a : ByteArray) : lt a a = false := bl_irrefl _
end Go.Proofs.Ytnkgmcgbbldkgaa.Q
namespace Go.Proofs.Ytnkgmcgbbldkgaa.Q
open Go.RowKit Go.Proofs.YtnkgmcgbbldkgaaW.PrintWords Go.Proofs.YtnkgmcgbbldkgaaW.PrintLast Go.Proofs.Ytnkgmcgbbldkgaa.P
def inB (n low high : Int) : Bool := decide (low ≤ n) && decide (n ≤ high)
def placeB (n : Int) : Bool := inB n (-1000000000) 1000000000
theorem l1In_eq (n low high : Int) : spec_l1In.f n low high = some (inB n low high) := by
  unfold spec_l1In.f inB
  by_cases h : low ≤ n
  · rw [if_pos (show n ≥ low from h)]; simp [h]
  · rw [if_neg (show ¬ n ≥ low from h)]; simp [h]
theorem within_eq (n low high : Int) : impl_within.f n low high = some (inB n low high) := by
  unfold impl_within.f inB
  by_cases h : low ≤ n
  · rw [if_pos (show n ≥ low from h)]; simp [h]
  · rw [if_neg (show ¬ n ≥ low from h)]; simp [h]
theorem position_eq (n : Int) : impl_position.f n = some (placeB n) := by
  unfold impl_position.f
  rw [within_eq]
  rfl
theorem l1In_ev (n low high : Int) : Ev (fun _ => spec_l1In.f n low high) (inB n low high) := val (l1In_eq n low high)
theorem within_ev (n low high : Int) : Ev (fun _ => impl_within.f n low high) (inB n low high) := val (within_eq n low high)
theorem position_ev (n : Int) : Ev (fun _ => impl_position.f n) (placeB n) := val (position_eq n)
def ahd (a b : Score) : Bool := decide (a.f1 < b.f1) || (decide (a.f1 = b.f1) && lt a.f0 b.f0)
theorem l3Ahead_eq (a b : Score) : spec_l3Ahead.f a.f0 a.f1 b.f0 b.f1 = some (ahd a b) := by
  unfold spec_l3Ahead.f ahd
  by_cases h : a.f1 < b.f1
  · rw [if_pos h]; simp [h]
  · rw [if_neg h]
    by_cases h' : a.f1 = b.f1
    · rw [if_pos h']; simp [h', lt]
    · rw [if_neg h']; simp [h, h']
theorem Compare_int_eq (a b : Int) : cmp_Compare_int.f a b = some (if a < b then -1 else if a > b then 1 else 0) := by
  unfold cmp_Compare_int.f cmp_isNaN_int.f
  simp
  split
  · rfl
  · split <;> rfl
theorem Compare_string_eq (a b : ByteArray) : cmp_Compare_string.f a b = some (if lt a b = true then -1 else if lt b a = true then 1 else 0) := by
  unfold cmp_Compare_string.f cmp_isNaN_string.f lt
  simp
  split
  · rfl
  · split <;> rfl
theorem Or_ev (a b : Int) : Ev (fun k => cmp_Or_int.f k [a, b]) (if a = 0 then b else a) := by
  unfold cmp_Or_int.f
  refine Ev.step (g := fun k => cmp_Or_int.l0 k _ _ _ _) (fun k => by rw [cmp_Or_int.l0]) (pos (by simp) (pos (by omega) (pos (by simp) ?_)))
  rw [show rd [a, b] 0 = a by rfl]
  refine both (fun h => ?_) (fun h => ret' (if_neg h).symm)
  rw [if_pos h, show wrap64 (0 + 1) = 1 by unfold wrap64; decide]
  refine Ev.step (g := fun k => cmp_Or_int.l0 k _ _ _ _) (fun k => by rw [cmp_Or_int.l0]) (pos (by simp) (pos (by omega) (pos (by simp) ?_)))
  rw [show rd [a, b] 1 = b by rfl, show wrap64 (1 + 1) = 2 by unfold wrap64; decide]
  refine both (fun h' => ?_) (fun h' => ret _)
  exact Ev.step (g := fun k => cmp_Or_int.l0 k _ _ _ _) (fun k => by rw [cmp_Or_int.l0]) (neg (by simp) (ret' h'.symm))
def ordM (a b : Score) : Int := if a.f1 < b.f1 then -1 else if a.f1 > b.f1 then 1 else if lt a.f0 b.f0 = true then -1 else if lt b.f0 a.f0 = true then 1 else 0
theorem scoreOrder_ev (a b : Score) : Ev (fun k => impl_scoreOrder.f k a.f0 a.f1 b.f0 b.f1) (ordM a b) := by
  unfold impl_scoreOrder.f
  refine Ev.bind (val (Compare_int_eq _ _)) (Ev.bind (val (Compare_string_eq _ _)) (Ev.bind (Or_ev _ _) (ret' ?_)))
  unfold ordM
  by_cases h : a.f1 < b.f1
  · simp [h]
  · by_cases h' : a.f1 > b.f1
    · simp [h, h']
    · simp [h, h']
theorem ordM_ahd (a b : Score) : ordM a b ≥ 0 ↔ ahd a b = false := by
  unfold ordM ahd
  by_cases h : a.f1 < b.f1
  · simp [h]
  · by_cases h' : a.f1 > b.f1
    · have : ¬ a.f1 = b.f1 := by omega
      simp [h, h', this]
    · have : a.f1 = b.f1 := by omega
      cases hl : lt a.f0 b.f0 with
      | true => simp [this]
      | false => simp [this]; split <;> decide
def fresh (l : List Score) (i : Nat) : Bool := (List.range i).all (fun k => !decide ((rd_T99 l (k : Int)).f0 = (rd_T99 l (i : Int)).f0))
def sOk (l : List Score) (i : Nat) : Bool :=
  decide ((rd_T99 l (i : Int)).f0.size ≤ 40) && (placeB (rd_T99 l (i : Int)).f1 && ((decide (i = 0) || ahd (rd_T99 l ((i - 1 : Nat) : Int)) (rd_T99 l (i : Int))) && fresh l i))
theorem sOk_eq {l : List Score} {i : Nat} (h40 : (rd_T99 l (i : Int)).f0.size ≤ 40) (hp : placeB (rd_T99 l (i : Int)).f1 = true) (ha : i = 0 ∨ ahd (rd_T99 l ((i - 1 : Nat) : Int)) (rd_T99 l (i : Int)) = true) : sOk l i = fresh l i := by
  unfold sOk
  rw [decide_eq_true h40, hp, Bool.true_and, Bool.true_and]
  rcases ha with ha | ha
  · rw [decide_eq_true ha, Bool.true_or, Bool.true_and]
  · rw [ha, Bool.or_true, Bool.true_and]
theorem sOk_no {l : List Score} {i : Nat} (h : ¬ (rd_T99 l (i : Int)).f0.size ≤ 40 ∨ placeB (rd_T99 l (i : Int)).f1 = false ∨ (¬ i = 0 ∧ ahd (rd_T99 l ((i - 1 : Nat) : Int)) (rd_T99 l (i : Int)) = false) ∨ fresh l i = false) : sOk l i = false := by
  unfold sOk
  rcases h with h | h | ⟨h, h'⟩ | h
  · rw [decide_eq_false h, Bool.false_and]
  · rw [h, Bool.false_and, Bool.and_false]
  · rw [decide_eq_false h, h', Bool.false_or, Bool.false_and, Bool.and_false, Bool.and_false]
  · rw [h, Bool.and_false, Bool.and_false, Bool.and_false]
def scoresB (l : List Score) : Bool := (List.range' 0 l.length).all (sOk l) && decide ((l.length : Int) ≤ 16)
theorem spec_ScoresOk_l1 (l : List Score) (hl : l.length ≤ maxLen) (i : Nat) (hi : i < l.length) (r : Bool) (hr : Ev (fun k => spec_ScoresOk.l0 k l (wrap64 ((i : Int) + 1))) r) (d : Nat) : ∀ (j : Nat), j + d = i →
    Ev (fun k => spec_ScoresOk.l1 k l (i : Int) (j : Int)) ((List.range' j d).all (fun k => !decide ((rd_T99 l (k : Int)).f0 = (rd_T99 l (i : Int)).f0)) && r) := by
  unfold maxLen at hl
  induction d with
  | zero =>
    intro j hj
    refine Ev.step (g := fun k => spec_ScoresOk.l1 k _ _ _) (fun k => by rw [spec_ScoresOk.l1]) (neg (by omega) ?_)
    simpa using hr
  | succ d ih =>
    intro j hj
    refine Ev.step (g := fun k => spec_ScoresOk.l1 k _ _ _) (fun k => by rw [spec_ScoresOk.l1]) (pos (by omega) (pos (by omega) (pos (by omega) (pos (by omega) (pos (by omega) ?_)))))
    rw [wrap_id (x := (j : Int) + 1) (by omega) (by omega), List.range'_succ, List.all_cons]
    refine both (fun h => ret' ?_) (fun h => ?_)
    · simp [toList_inj h]
    · have : ¬ (rd_T99 l (j : Int)).f0 = (rd_T99 l (i : Int)).f0 := fun e => h (by rw [e])
      refine of_eq (ih (j + 1) (by omega)) ?_
      simp [this]
theorem spec_ScoresOk_l0 (l : List Score) (hl : l.length ≤ maxLen) (d : Nat) : ∀ (i : Nat), i + d = l.length → Ev (fun k => spec_ScoresOk.l0 k l (i : Int)) ((List.range' i d).all (sOk l) && decide ((l.length : Int) ≤ 16)) := by
  have hl' := hl
  unfold maxLen at hl'
  induction d with
  | zero =>
    intro i hi
    refine Ev.step (g := fun k => spec_ScoresOk.l0 k _ _) (fun k => by rw [spec_ScoresOk.l0]) (neg (by omega) (ret' ?_))
    simp
  | succ d ih =>
    intro i hi
    have hw : wrap64 ((i : Int) + 1) = ((i + 1 : Nat) : Int) := by rw [wrap_id (by omega) (by omega)]; omega
    have ih' := ih (i + 1) (by omega)
    have hin := spec_ScoresOk_l1 l hl i (by omega) _ (by rw [hw]; exact ih') i 0 (by omega)
    rw [← List.range_eq_range'] at hin
    refine Ev.step (g := fun k => spec_ScoresOk.l0 k _ _) (fun k => by rw [spec_ScoresOk.l0]) (pos (by omega) (pos (by omega) ?_))
    rw [List.range'_succ, List.all_cons]
    refine both (fun h => ?_) (fun h => ?_)
    · refine Ev.step (g := fun k => spec_ScoresOk.j1 k _ _ _) (fun k => by rw [spec_ScoresOk.j1]) ?_
      exact pos rfl (ret' (by rw [sOk_no (.inl (by omega))]; rfl))
    · have h40 : (rd_T99 l (i : Int)).f0.size ≤ 40 := by omega
      refine Ev.bind (l1In_ev _ _ _) ?_
      rw [show inB (rd_T99 l (i : Int)).f1 (-1000000000) 1000000000 = placeB (rd_T99 l (i : Int)).f1 from rfl]
      cases hp : placeB (rd_T99 l (i : Int)).f1 with
      | false =>
        refine neg (by decide) ?_
        refine Ev.step (g := fun k => spec_ScoresOk.j1 k _ _ _) (fun k => by rw [spec_ScoresOk.j1]) ?_
        exact pos rfl (ret' (by rw [sOk_no (.inr (.inl hp))]; rfl))
      | true =>
        refine pos rfl ?_
        by_cases h0 : i = 0
        · refine neg (by omega) ?_
          refine Ev.step (g := fun k => spec_ScoresOk.j1 k _ _ _) (fun k => by rw [spec_ScoresOk.j1]) ?_
          exact neg (by decide) (of_eq hin (by rw [sOk_eq h40 hp (.inl h0), Bool.and_assoc]; rfl))
        · refine pos (by omega) ?_
          rw [show wrap64 ((i : Int) - 1) = ((i - 1 : Nat) : Int) by rw [wrap_id (by omega) (by omega)]; omega]
          refine pos (by omega) (pos (by omega) (Ev.bind (val (l3Ahead_eq _ _)) ?_))
          cases ha : ahd (rd_T99 l ((i - 1 : Nat) : Int)) (rd_T99 l (i : Int)) with
          | false =>
            refine Ev.step (g := fun k => spec_ScoresOk.j1 k _ _ _) (fun k => by rw [spec_ScoresOk.j1]) ?_
            exact pos rfl (ret' (by rw [sOk_no (.inr (.inr (.inl ⟨h0, ha⟩)))]; rfl))
          | true =>
            refine Ev.step (g := fun k => spec_ScoresOk.j1 k _ _ _) (fun k => by rw [spec_ScoresOk.j1]) ?_
            exact neg (by decide) (of_eq hin (by rw [sOk_eq h40 hp (.inr ha), Bool.and_assoc]; rfl))
theorem spec_ScoresOk_ev (l : List Score) (hl : l.length ≤ maxLen) : Ev (fun k => spec_ScoresOk.f k l) (scoresB l) := spec_ScoresOk_l0 l hl l.length 0 (by omega)
theorem from_ge (t : ByteArray) (r : List Score) : ∀ o : Nat, impl_scoreAt.from t r o = -1 ∨ (o : Int) ≤ impl_scoreAt.from t r o ∧ impl_scoreAt.from t r o < o + r.length := by
  induction r with
  | nil => intro o; exact .inl rfl
  | cons x r ih =>
    intro o
    rw [impl_scoreAt.from]
    by_cases h : x.f0.toList = t.toList
    · rw [if_pos h]; right; simp; omega
    · rw [if_neg h]
      rcases ih (o + 1) with h | h
      · exact .inl h
      · right; simp; omega
theorem from_iff (t : ByteArray) (r : List Score) : ∀ (o j : Nat), impl_scoreAt.from t r o = ((o + j : Nat) : Int) ↔ ∃ h : j < r.length, r[j].f0 = t ∧ ∀ k (hk : k < j), (r[k]'(by omega)).f0 ≠ t := by
  induction r with
  | nil =>
    intro o j
    refine ⟨fun h => ?_, fun ⟨h, _⟩ => ?_⟩
    · have : (-1 : Int) = ((o + j : Nat) : Int) := h
      omega
    · simp at h
  | cons x r ih =>
    intro o j
    rw [impl_scoreAt.from]
    by_cases h : x.f0.toList = t.toList
    · rw [if_pos h]
      refine ⟨fun e => ?_, fun ⟨h1, h2, h3⟩ => ?_⟩
      · obtain rfl : j = 0 := by omega
        exact ⟨by simp, toList_inj h, fun k hk => by omega⟩
      · cases j with
        | zero => rfl
        | succ j => exact absurd (toList_inj h) (h3 0 (by omega))
    · rw [if_neg h]
      cases j with
      | zero =>
        refine ⟨fun e => ?_, fun ⟨h1, h2, h3⟩ => ?_⟩
        · rcases from_ge t r (o + 1) with q | q <;> omega
        · exact absurd (by rw [← h2]; rfl) h
      | succ j =>
        rw [show o + (j + 1) = (o + 1) + j by omega, ih (o + 1) j]
        refine ⟨fun ⟨h1, h2, h3⟩ => ⟨by simp; omega, h2, fun k hk => ?_⟩, fun ⟨h1, h2, h3⟩ => ⟨by simp at h1; omega, h2, fun k hk => h3 (k + 1) (by omega)⟩⟩
        cases k with
        | zero => exact fun e => h (by rw [← e]; rfl)
        | succ k => exact h3 k (by omega)
theorem from_fresh (l : List Score) (i : Nat) (hi : i < l.length) : decide (impl_scoreAt.from (rd_T99 l (i : Int)).f0 l 0 = (i : Int)) = fresh l i := by
  have := from_iff (rd_T99 l (i : Int)).f0 l 0 i
  rw [Nat.zero_add] at this
  rw [Bool.eq_iff_iff, decide_eq_true_iff, this]
  unfold fresh
  simp only [List.all_eq_true, List.mem_range, Bool.not_eq_true', decide_eq_false_iff_not]
  rw [rdScore_lt _ _ hi]
  refine ⟨fun ⟨_, _, h⟩ k hk => ?_, fun h => ⟨hi, rfl, fun k hk => ?_⟩⟩
  · rw [rdScore_lt _ _ (by omega)]; exact h k hk
  · have := h k hk
    rw [rdScore_lt _ _ (by omega)] at this
    exact this
theorem impl_ScoresOk_l0 (l : List Score) (hl : l.length ≤ maxLen) (d : Nat) : ∀ (i : Nat), i + d = l.length → Ev (fun k => impl_ScoresOk.l0 k l l (l.length : Int) (i : Int)) ((List.range' i d).all (sOk l) && decide ((l.length : Int) ≤ 16)) := by
  have hl' := hl
  unfold maxLen at hl'
  induction d with
  | zero =>
    intro i hi
    refine Ev.step (g := fun k => impl_ScoresOk.l0 k _ _ _ _) (fun k => by rw [impl_ScoresOk.l0]) (neg (by omega) (ret' ?_))
    simp
  | succ d ih =>
    intro i hi
    have ih' := ih (i + 1) (by omega)
    have hf := from_fresh l i (by omega)
    refine Ev.step (g := fun k => impl_ScoresOk.l0 k _ _ _ _) (fun k => by rw [impl_ScoresOk.l0]) (pos (by omega) (pos (by omega) (pos (by omega) ?_)))
    rw [List.range'_succ, List.all_cons, wrap_id (x := (i : Int) + 1) (by omega) (by omega)]
    refine both (fun h => ret' (by rw [sOk_no (.inl (by omega))]; rfl)) (fun h => ?_)
    · have h40 : (rd_T99 l (i : Int)).f0.size ≤ 40 := by omega
      refine Ev.bind (position_ev _) ?_
      cases hp : placeB (rd_T99 l (i : Int)).f1 with
      | false => exact neg (by decide) (ret' (by rw [sOk_no (.inr (.inl hp))]; rfl))
      | true =>
        refine pos rfl ?_
        by_cases h0 : i = 0
        · refine neg (by omega) (Ev.bind (val rfl) ?_)
          refine both (fun q => ?_) (fun q => ret' ?_)
          · rw [decide_eq_true q] at hf
            exact of_eq ih' (by rw [sOk_eq h40 hp (.inl h0), ← hf, Bool.true_and])
          · rw [decide_eq_false q] at hf
            rw [sOk_no (.inr (.inr (.inr hf.symm)))]; rfl
        · refine pos (by omega) ?_
          rw [show wrap64 ((i : Int) - 1) = ((i - 1 : Nat) : Int) by rw [wrap_id (by omega) (by omega)]; omega]
          refine pos (by omega) (pos (by omega) (Ev.bind (scoreOrder_ev _ _) ?_))
          refine both (fun q => ret' ?_) (fun q => ?_)
          · rw [sOk_no (.inr (.inr (.inl ⟨h0, (ordM_ahd _ _).1 q⟩)))]; rfl
          · have ha : ahd (rd_T99 l ((i - 1 : Nat) : Int)) (rd_T99 l (i : Int)) = true := by
              cases e : ahd (rd_T99 l ((i - 1 : Nat) : Int)) (rd_T99 l (i : Int)) with
              | true => rfl
              | false => exact absurd ((ordM_ahd _ _).2 e) q
            refine Ev.bind (val rfl) ?_
            refine both (fun q => ?_) (fun q => ret' ?_)
            · rw [decide_eq_true q] at hf
              exact of_eq ih' (by rw [sOk_eq h40 hp (.inr ha), ← hf, Bool.true_and])
            · rw [decide_eq_false q] at hf
              rw [sOk_no (.inr (.inr (.inr hf.symm)))]; rfl
theorem impl_ScoresOk_ev (l : List Score) (hl : l.length ≤ maxLen) : Ev (fun k => impl_ScoresOk.f k l) (scoresB l) := impl_ScoresOk_l0 l hl l.length 0 (by omega)
abbrev LPair := S98
abbrev Pair := S101
instance : DecidableEq Pair := fun a b => decidable_of_iff (a.f0 = b.f0 ∧ a.f1 = b.f1) ⟨fun h => by cases a; cases b; simp at h; simp [h], fun h => by rw [h]; exact ⟨rfl, rfl⟩⟩
theorem rdLPair_lt (l : List LPair) (i : Nat) (h : i < l.length) : rd_T98 l (i : Int) = l[i] := by
  simp [rd_T98, List.getD_eq_getElem?_getD, h]
theorem rdPair_lt (l : List Pair) (i : Nat) (h : i < l.length) : rd_T101 l (i : Int) = l[i] := by
  simp [rd_T101, List.getD_eq_getElem?_getD, h]
theorem szPair_ev (a b : ByteArray) (ha : a.size ≤ maxLen) (hb : b.size ≤ maxLen) (c : Int) (h0 : 0 ≤ c) (h1 : c ≤ 1048576) :
    ∃ v, laws_szPair.f a b c = some v ∧ v ≤ c ∧ -1 ≤ v ∧ (0 ≤ v → a.size ≤ 1048576 ∧ b.size ≤ 1048576) := by
  unfold maxLen at ha hb
  unfold laws_szPair.f
  rw [wrap_id (x := c - (a.size : Int)) (by omega) (by omega)]
  by_cases h : c - (a.size : Int) < 0
  · exact ⟨-1, if_pos h, by omega, by omega, by omega⟩
  · rw [if_neg h, wrap_id (x := c - (a.size : Int) - (b.size : Int)) (by omega) (by omega)]
    by_cases h' : c - (a.size : Int) - (b.size : Int) < 0
    · exact ⟨-1, if_pos h', by omega, by omega, by omega⟩
    · exact ⟨_, if_neg h', by omega, by omega, fun _ => ⟨by omega, by omega⟩⟩
theorem szPairS_l0 (l : List LPair) (hl : l.length ≤ maxLen) (hs : ∀ s ∈ l, s.f0.size ≤ maxLen ∧ s.f1.size ≤ maxLen) (d : Nat) : ∀ (i : Nat) (c : Int), i + d = l.length → 0 ≤ c → c ≤ 1048576 →
    ∃ v, Ev (fun k => laws_szPairS.l0 k l c (i : Int)) v ∧ v ≤ c ∧ -1 ≤ v ∧ (0 ≤ v → ∀ j (h : j < l.length), i ≤ j → l[j].f0.size ≤ 1048576 ∧ l[j].f1.size ≤ 1048576) := by
  unfold maxLen at hl
  induction d with
  | zero =>
    intro i c hi h0 h1
    exact ⟨c, Ev.step (fun k => by rw [laws_szPairS.l0]) (neg (by omega) (ret c)), by omega, by omega, fun _ j hj hij => by omega⟩
  | succ d ih =>
    intro i c hi h0 h1
    have hlt : i < l.length := by omega
    obtain ⟨hs0, hs1⟩ := hs _ (List.getElem_mem hlt)
    obtain ⟨v, hv, hv1, hv2, hv3⟩ := szPair_ev _ _ hs0 hs1 c h0 h1
    by_cases hneg : v < 0
    · refine ⟨-1, Ev.step (fun k => by rw [laws_szPairS.l0]) (pos (by omega) (pos (by omega) ?_)), by omega, by omega, by omega⟩
      rw [rdLPair_lt _ _ hlt]
      exact Ev.bind (val hv) (pos hneg (ret (-1)))
    · obtain ⟨u, hu, h2, h3, h4⟩ := ih (i + 1) v (by omega) (by omega) (by omega)
      refine ⟨u, Ev.step (fun k => by rw [laws_szPairS.l0]) (pos (by omega) (pos (by omega) ?_)), by omega, h3, fun h5 j hj hij => ?_⟩
      · rw [rdLPair_lt _ _ hlt, wrap_id (x := (i : Int) + 1) (by omega) (by omega)]
        exact Ev.bind (val hv) (neg hneg hu)
      · rcases Nat.eq_or_lt_of_le hij with rfl | hij
        · exact hv3 (by omega)
        · exact h4 h5 j hj hij
theorem szPairS_ev (l : List LPair) (hl : l.length ≤ maxLen) (hs : ∀ s ∈ l, s.f0.size ≤ maxLen ∧ s.f1.size ≤ maxLen) (c : Int) (h0 : 0 ≤ c) (h1 : c ≤ 1048576) :
    ∃ v, Ev (fun k => laws_szPairS.f k l c) v ∧ v ≤ c ∧ -1 ≤ v ∧ (0 ≤ v → l.length ≤ 1048576 ∧ ∀ s ∈ l, s.f0.size ≤ 1048576 ∧ s.f1.size ≤ 1048576) := by
  have hl' := hl
  unfold maxLen at hl'
  by_cases h : c - (l.length : Int) < 0
  · refine ⟨-1, ?_, by omega, by omega, by omega⟩
    unfold laws_szPairS.f
    refine pos ?_ (ret _)
    rw [wrap_id (by omega) (by omega)]
    exact h
  · obtain ⟨v, hv, h2, h3, h4⟩ := szPairS_l0 l hl hs l.length 0 (c - (l.length : Int)) (by omega) (by omega) (by omega)
    refine ⟨v, ?_, by omega, h3, fun h5 => ⟨by omega, fun s hs => ?_⟩⟩
    · unfold laws_szPairS.f
      rw [wrap_id (by omega) (by omega)]
      exact neg h hv
    · obtain ⟨j, hj, rfl⟩ := List.getElem_of_mem hs
      exact h4 h5 j hj (by omega)
def cvPair (x : LPair) : Pair := ⟨x.f0, x.f1⟩
theorem toPairS_l0 (l : List LPair) (hl : l.length ≤ maxLen) (d : Nat) : ∀ (i : Nat) (x : List Pair), i + d = l.length → x.length = l.length → Ev (fun k => laws_toPairS.l0 k l x (i : Int)) (x.take i ++ (l.drop i).map cvPair) := by
  unfold maxLen at hl
  induction d with
  | zero =>
    intro i x hi hx
    refine Ev.step (fun k => by rw [laws_toPairS.l0]) (neg (by omega) (ret' ?_))
    rw [List.drop_of_length_le (by omega), List.take_of_length_le (by omega), List.map_nil, List.append_nil]
  | succ d ih =>
    intro i x hi hx
    have hlt : i < l.length := by omega
    refine Ev.step (fun k => by rw [laws_toPairS.l0]) (pos (by omega) (pos (by omega) ?_))
    rw [rdLPair_lt _ _ hlt, wrap_id (by omega) (by omega)]
    refine Ev.bind (val rfl) (pos (by omega) (of_eq (ih (i + 1) _ (by omega) (by simp [hx])) ?_))
    rw [List.drop_eq_getElem_cons hlt, Int.toNat_natCast, List.take_set, List.take_succ_eq_append_getElem (by omega), List.set_append_right _ _ (by simp; omega), List.map_cons]
    simp [show min i x.length = i by omega]
    rfl
theorem toPairS_ev (l : List LPair) (hl : l.length ≤ 1048576) : Ev (fun k => laws_toPairS.f k l) (l.map cvPair) := by
  unfold laws_toPairS.f
  refine pos (by omega) (pos (by omega) ?_)
  exact of_eq (toPairS_l0 l (by unfold maxLen; omega) l.length 0 _ (by omega) (by simp)) (by simp)
theorem eqPair_eq (a b : Pair) : laws_eqPair.f a.f0 a.f1 b.f0 b.f1 = some (decide (a = b)) := by
  unfold laws_eqPair.f
  obtain ⟨a0, a1⟩ := a
  obtain ⟨b0, b1⟩ := b
  by_cases h0 : a0 = b0
  · by_cases h1 : a1 = b1
    · simp [h0, h1]
    · have : ¬ a1.toList = b1.toList := fun e => h1 (toList_inj e)
      simp [h0, h1, this]
  · have : ¬ a0.toList = b0.toList := fun e => h0 (toList_inj e)
    simp [h0, this]
theorem eqPairS_l0 (l l' : List Pair) (hl : l.length ≤ maxLen) (he : l.length = l'.length) (d : Nat) : ∀ (i : Nat), i + d = l.length → Ev (fun k => laws_eqPairS.l0 k l l' (i : Int)) (decide (l.drop i = l'.drop i)) := by
  unfold maxLen at hl
  induction d with
  | zero =>
    intro i hi
    refine Ev.step (fun k => by rw [laws_eqPairS.l0]) (neg (by omega) (ret' ?_))
    rw [List.drop_of_length_le (by omega), List.drop_of_length_le (by omega)]
    simp
  | succ d ih =>
    intro i hi
    have hlt : i < l.length := by omega
    have hlt' : i < l'.length := by omega
    refine Ev.step (fun k => by rw [laws_eqPairS.l0]) (pos (by omega) (pos (by omega) (pos (by omega) ?_)))
    rw [rdPair_lt _ _ hlt, rdPair_lt _ _ hlt', wrap_id (by omega) (by omega), List.drop_eq_getElem_cons hlt, List.drop_eq_getElem_cons hlt']
    refine Ev.bind (val (eqPair_eq _ _)) (both (fun h => ?_) (fun h => ret' ?_))
    · refine of_eq (ih (i + 1) (by omega)) ?_
      rw [of_decide_eq_true h]
      exact decide_eq_decide.2 (by simp only [List.cons.injEq, true_and])
    · exact (decide_eq_false (fun e => h (decide_eq_true (List.cons.inj e).1))).symm
theorem eqPairS_ev (l l' : List Pair) (hl : l.length ≤ maxLen) : Ev (fun k => laws_eqPairS.f k l l') (decide (l = l')) := by
  unfold laws_eqPairS.f
  refine both (fun h => ?_) (fun h => ret' ?_)
  · exact eqPairS_l0 l l' hl (by omega) l.length 0 (by omega)
  · have : l ≠ l' := fun e => h (by rw [e])
    simp [this]
theorem eqPairS_same (l : List Pair) (hl : l.length ≤ maxLen) : Ev (fun k => laws_eqPairS.f k l l) true := of_eq (eqPairS_ev l l hl) (by simp)
def ahead : Option ByteArray → ByteArray → Bool
  | none, _ => true
  | some y, x => lt y x
def fieldsUp : Option ByteArray → List Pair → Bool
  | _, [] => true
  | p, x :: r => decide (x.f0.size ≤ 40) && (decide (x.f1.size ≤ 40) && (ahead p x.f0 && fieldsUp (some x.f0) r))
def fieldsB (l : List Pair) : Bool := fieldsUp none l && decide ((l.length : Int) ≤ 16)
def before (l : List Pair) (i : Nat) : Option ByteArray := if h : 0 < i ∧ i - 1 < l.length then some (l[i - 1]'h.2).f0 else none
theorem spec_FieldsOk_l0 (l : List Pair) (hl : l.length ≤ maxLen) (d : Nat) : ∀ (i : Nat), i + d = l.length → Ev (fun k => spec_FieldsOk.l0 k l (i : Int)) (fieldsUp (before l i) (l.drop i) && decide ((l.length : Int) ≤ 16)) := by
  unfold maxLen at hl
  induction d with
  | zero =>
    intro i hi
    refine Ev.step (g := fun k => spec_FieldsOk.l0 k _ _) (fun k => by rw [spec_FieldsOk.l0]) (neg (by omega) (ret' ?_))
    rw [List.drop_of_length_le (by omega), fieldsUp, Bool.true_and]
  | succ d ih =>
    intro i hi
    have hlt : i < l.length := by omega
    refine Ev.step (g := fun k => spec_FieldsOk.l0 k _ _) (fun k => by rw [spec_FieldsOk.l0]) (pos (by omega) (pos (by omega) ?_))
    try refine pos (by omega) ?_
    rw [rdPair_lt _ _ hlt, List.drop_eq_getElem_cons hlt, fieldsUp, wrap_id (x := (i : Int) + 1) (by omega) (by omega)]
    have hb : before l (i + 1) = some l[i].f0 := by unfold before; rw [dif_pos ⟨by omega, by omega⟩]; rfl
    have ih := ih (i + 1) (by omega)
    rw [hb] at ih
    refine both (fun h => ret' ?_) (fun h => both (fun h' => ret' ?_) (fun h' => ?_))
    · rw [decide_eq_false (by omega), Bool.false_and, Bool.false_and]
    · rw [decide_eq_false (p := l[i].f1.size ≤ 40) (by omega)]; simp
    · rw [decide_eq_true (by omega), decide_eq_true (p := l[i].f1.size ≤ 40) (by omega), Bool.true_and, Bool.true_and]
      by_cases h0 : i = 0
      · subst h0
        refine neg (by omega) (of_eq ih ?_)
        simp [before, ahead]
      · have hlt1 : i - 1 < l.length := by omega
        have hp : before l i = some l[i - 1].f0 := by unfold before; rw [dif_pos ⟨by omega, hlt1⟩]
        have e : wrap64 ((i : Int) - 1) = ((i - 1 : Nat) : Int) := by rw [wrap_id (by omega) (by omega)]; omega
        rw [hp, e, rdPair_lt _ _ hlt1]
        refine pos (by omega) (pos (by omega) (pos (by omega) (both (fun h => ?_) (fun h => ret' ?_))))
        · refine of_eq ih ?_
          show _ = (lt l[i - 1].f0 l[i].f0 && fieldsUp (some l[i].f0) (l.drop (i + 1)) && _)
          rw [show lt l[i - 1].f0 l[i].f0 = true from h, Bool.true_and]
        · show false = (lt l[i - 1].f0 l[i].f0 && fieldsUp (some l[i].f0) (l.drop (i + 1)) && _)
          rw [show lt l[i - 1].f0 l[i].f0 = false from Bool.eq_false_iff.2 h, Bool.false_and, Bool.false_and]
theorem spec_FieldsOk_ev (l : List Pair) (hl : l.length ≤ maxLen) : Ev (fun k => spec_FieldsOk.f k l) (fieldsB l) := by
  have := spec_FieldsOk_l0 l hl l.length 0 (by omega)
  simpa [before, spec_FieldsOk.f, fieldsB] using this
theorem impl_FieldsOk_l0 (l : List Pair) (hl : l.length ≤ maxLen) (d : Nat) : ∀ (i : Nat), i + d = l.length → Ev (fun k => impl_FieldsOk.l0 k l l (l.length : Int) (i : Int)) (fieldsUp (before l i) (l.drop i) && decide ((l.length : Int) ≤ 16)) := by
  unfold maxLen at hl
  induction d with
  | zero =>
    intro i hi
    refine Ev.step (g := fun k => impl_FieldsOk.l0 k _ _ _ _) (fun k => by rw [impl_FieldsOk.l0]) (neg (by omega) (ret' ?_))
    rw [List.drop_of_length_le (by omega), fieldsUp, Bool.true_and]
  | succ d ih =>
    intro i hi
    have hlt : i < l.length := by omega
    refine Ev.step (g := fun k => impl_FieldsOk.l0 k _ _ _ _) (fun k => by rw [impl_FieldsOk.l0]) (pos (by omega) (pos (by omega) ?_))
    try refine pos (by omega) ?_
    rw [rdPair_lt _ _ hlt, List.drop_eq_getElem_cons hlt, fieldsUp, wrap_id (x := (i : Int) + 1) (by omega) (by omega)]
    have hb : before l (i + 1) = some l[i].f0 := by unfold before; rw [dif_pos ⟨by omega, by omega⟩]; rfl
    have ih := ih (i + 1) (by omega)
    rw [hb] at ih
    refine both (fun h => ret' ?_) (fun h => both (fun h' => ret' ?_) (fun h' => ?_))
    · rw [decide_eq_false (by omega), Bool.false_and, Bool.false_and]
    · rw [decide_eq_false (p := l[i].f1.size ≤ 40) (by omega)]; simp
    · rw [decide_eq_true (by omega), decide_eq_true (p := l[i].f1.size ≤ 40) (by omega), Bool.true_and, Bool.true_and]
      by_cases h0 : i = 0
      · subst h0
        refine neg (by omega) (of_eq ih ?_)
        simp [before, ahead]
      · have hlt1 : i - 1 < l.length := by omega
        have hp : before l i = some l[i - 1].f0 := by unfold before; rw [dif_pos ⟨by omega, hlt1⟩]
        have e : wrap64 ((i : Int) - 1) = ((i - 1 : Nat) : Int) := by rw [wrap_id (by omega) (by omega)]; omega
        rw [hp, e, rdPair_lt _ _ hlt1]
        refine pos (by omega) (pos (by omega) (pos (by omega) (both (fun h => ?_) (fun h => ret' ?_))))
        · refine of_eq ih ?_
          show _ = (lt l[i - 1].f0 l[i].f0 && fieldsUp (some l[i].f0) (l.drop (i + 1)) && _)
          rw [show lt l[i - 1].f0 l[i].f0 = true from h, Bool.true_and]
        · show false = (lt l[i - 1].f0 l[i].f0 && fieldsUp (some l[i].f0) (l.drop (i + 1)) && _)
          rw [show lt l[i - 1].f0 l[i].f0 = false from Bool.eq_false_iff.2 h, Bool.false_and, Bool.false_and]
theorem impl_FieldsOk_ev (l : List Pair) (hl : l.length ≤ maxLen) : Ev (fun k => impl_FieldsOk.f k l) (fieldsB l) := by
  have := impl_FieldsOk_l0 l hl l.length 0 (by omega)
  simpa [before, impl_FieldsOk.f, fieldsB] using this
theorem szStringS_l0 (l : List ByteArray) (hl : l.length ≤ maxLen) (hs : ∀ s ∈ l, s.size ≤ maxLen) (d : Nat) : ∀ (i : Nat) (c : Int), i + d = l.length → 0 ≤ c → c ≤ 1048576 →
    ∃ v, Ev (fun k => laws_szStringS.l0 k l c (i : Int)) v ∧ v ≤ c ∧ -1 ≤ v ∧ (0 ≤ v → ∀ j (h : j < l.length), i ≤ j → l[j].size ≤ 1048576) := by
  unfold maxLen at hl hs
  induction d with
  | zero =>
    intro i c hi h0 h1
    exact ⟨c, Ev.step (fun k => by rw [laws_szStringS.l0]) (neg (by omega) (ret c)), by omega, by omega, fun _ j hj hij => by omega⟩
  | succ d ih =>
    intro i c hi h0 h1
    have hlt : i < l.length := by omega
    have hsz := hs _ (List.getElem_mem hlt)
    by_cases hneg : c - (l[i].size : Int) < 0
    · refine ⟨-1, Ev.step (fun k => by rw [laws_szStringS.l0]) (pos (by omega) (pos (by omega) (pos ?_ (ret (-1))))), by omega, by omega, by omega⟩
      rw [rdOf_lt _ _ _ hlt, wrap_id (by omega) (by omega)]
      exact hneg
    · obtain ⟨v, hv, h2, h3, h4⟩ := ih (i + 1) (c - (l[i].size : Int)) (by omega) (by omega) (by omega)
      refine ⟨v, Ev.step (fun k => by rw [laws_szStringS.l0]) (pos (by omega) (pos (by omega) (neg ?_ ?_))), by omega, h3, fun h5 j hj hij => ?_⟩
      · rw [rdOf_lt _ _ _ hlt, wrap_id (by omega) (by omega)]
        exact hneg
      · rw [rdOf_lt _ _ _ hlt, wrap_id (x := c - _) (by omega) (by omega), wrap_id (x := (i : Int) + 1) (by omega) (by omega)]
        exact hv
      · rcases Nat.eq_or_lt_of_le hij with rfl | hij
        · omega
        · exact h4 h5 j hj hij
theorem szStringS_ev (l : List ByteArray) (hl : l.length ≤ maxLen) (hs : ∀ s ∈ l, s.size ≤ maxLen) (c : Int) (h0 : 0 ≤ c) (h1 : c ≤ 1048576) :
    ∃ v, Ev (fun k => laws_szStringS.f k l c) v ∧ v ≤ c ∧ -1 ≤ v ∧ (0 ≤ v → l.length ≤ 1048576 ∧ ∀ s ∈ l, s.size ≤ 1048576) := by
  have hl' := hl
  unfold maxLen at hl'
  by_cases h : c - (l.length : Int) < 0
  · refine ⟨-1, ?_, by omega, by omega, by omega⟩
    unfold laws_szStringS.f
    refine pos ?_ (ret _)
    rw [wrap_id (by omega) (by omega)]
    exact h
  · obtain ⟨v, hv, h2, h3, h4⟩ := szStringS_l0 l hl hs l.length 0 (c - (l.length : Int)) (by omega) (by omega) (by omega)
    refine ⟨v, ?_, by omega, h3, fun h5 => ⟨by omega, fun s hs => ?_⟩⟩
    · unfold laws_szStringS.f
      rw [wrap_id (by omega) (by omega)]
      exact neg h hv
    · obtain ⟨j, hj, rfl⟩ := List.getElem_of_mem hs
      exact h4 h5 j hj (by omega)
def textsB (l : List ByteArray) (m : Int) : Bool := l.all (fun s => decide (s.size ≤ 40)) && decide ((l.length : Int) ≤ m)
theorem l2Texts_l0 (l : List ByteArray) (hl : l.length ≤ maxLen) (d : Nat) : ∀ (i : Nat), i + d = l.length → Ev (fun k => spec_l2Texts.l0 k l (i : Int)) ((l.drop i).all (fun s => decide (s.size ≤ 40)) && decide ((l.length : Int) ≤ 16)) := by
  unfold maxLen at hl
  induction d with
  | zero =>
    intro i hi
    refine Ev.step (fun k => by rw [spec_l2Texts.l0]) (neg (by omega) (ret' ?_))
    rw [List.drop_of_length_le (by omega)]
    simp
  | succ d ih =>
    intro i hi
    have hlt : i < l.length := by omega
    refine Ev.step (fun k => by rw [spec_l2Texts.l0]) (pos (by omega) (pos (by omega) ?_))
    rw [rdOf_lt _ _ _ hlt, List.drop_eq_getElem_cons hlt, List.all_cons, wrap_id (by omega) (by omega)]
    refine both (fun h => ret' ?_) (fun h => ?_)
    · have : ¬ l[i].size ≤ 40 := by omega
      simp [this]
    · have : l[i].size ≤ 40 := by omega
      simp only [this, decide_true, Bool.true_and]
      exact ih (i + 1) (by omega)
theorem l2Texts_ev (l : List ByteArray) (hl : l.length ≤ maxLen) : Ev (fun k => spec_l2Texts.f k l) (textsB l 16) := l2Texts_l0 l hl l.length 0 (by omega)
theorem textsOk_l0 (l : List ByteArray) (hl : l.length ≤ maxLen) (m : Int) (d : Nat) : ∀ (i : Nat), i + d = l.length → Ev (fun k => impl_textsOk.l0 k l m l (l.length : Int) (i : Int)) ((l.drop i).all (fun s => decide (s.size ≤ 40)) && decide ((l.length : Int) ≤ m)) := by
  unfold maxLen at hl
  induction d with
  | zero =>
    intro i hi
    refine Ev.step (fun k => by rw [impl_textsOk.l0]) (neg (by omega) (ret' ?_))
    rw [List.drop_of_length_le (by omega)]
    simp
  | succ d ih =>
    intro i hi
    have hlt : i < l.length := by omega
    refine Ev.step (fun k => by rw [impl_textsOk.l0]) (pos (by omega) (pos (by omega) (pos (by omega) ?_)))
    rw [rdOf_lt _ _ _ hlt, List.drop_eq_getElem_cons hlt, List.all_cons, wrap_id (by omega) (by omega)]
    refine both (fun h => ret' ?_) (fun h => ?_)
    · have : ¬ l[i].size ≤ 40 := by omega
      simp [this]
    · have : l[i].size ≤ 40 := by omega
      simp only [this, decide_true, Bool.true_and]
      exact ih (i + 1) (by omega)
theorem textsOk_ev (l : List ByteArray) (hl : l.length ≤ maxLen) (m : Int) : Ev (fun k => impl_textsOk.f k l m) (textsB l m) := textsOk_l0 l hl m l.length 0 (by omega)
theorem listOk_ev (l : List ByteArray) (hl : l.length ≤ maxLen) : Ev (fun k => impl_listOk.f k l) (textsB l 16) := by
  unfold impl_listOk.f
  exact Ev.bind (textsOk_ev l hl 16) (ret _)
theorem toStringS_l0 (l : List ByteArray) (hl : l.length ≤ maxLen) (d : Nat) : ∀ (i : Nat) (x : List ByteArray), i + d = l.length → x.length = l.length → Ev (fun k => laws_toStringS.l0 k l x (i : Int)) (x.take i ++ l.drop i) := by
  unfold maxLen at hl
  induction d with
  | zero =>
    intro i x hi hx
    refine Ev.step (fun k => by rw [laws_toStringS.l0]) (neg (by omega) (ret' ?_))
    rw [List.drop_of_length_le (by omega), List.take_of_length_le (by omega), List.append_nil]
  | succ d ih =>
    intro i x hi hx
    have hlt : i < l.length := by omega
    refine Ev.step (fun k => by rw [laws_toStringS.l0]) (pos (by omega) (pos (by omega) (pos (by omega) ?_)))
    rw [rdOf_lt _ _ _ hlt, wrap_id (by omega) (by omega)]
    refine of_eq (ih (i + 1) _ (by omega) (by simp [hx])) ?_
    rw [List.drop_eq_getElem_cons hlt, Int.toNat_natCast, List.take_set, List.take_succ_eq_append_getElem (by omega), List.set_append_right _ _ (by simp; omega)]
    simp [show min i x.length = i by omega]
theorem toStringS_ev (l : List ByteArray) (hl : l.length ≤ 17592186044416) : Ev (fun k => laws_toStringS.f k l) l := by
  unfold laws_toStringS.f
  refine pos (by omega) (pos (by omega) ?_)
  exact of_eq (toStringS_l0 l (by unfold maxLen; omega) l.length 0 _ (by omega) (by simp)) (by simp)
theorem eqStringS_l0 (l l' : List ByteArray) (hl : l.length ≤ maxLen) (he : l.length = l'.length) (d : Nat) : ∀ (i : Nat), i + d = l.length → Ev (fun k => laws_eqStringS.l0 k l l' (i : Int)) (decide (l.drop i = l'.drop i)) := by
  unfold maxLen at hl
  induction d with
  | zero =>
    intro i hi
    refine Ev.step (fun k => by rw [laws_eqStringS.l0]) (neg (by omega) (ret' ?_))
    rw [List.drop_of_length_le (by omega), List.drop_of_length_le (by omega)]
    simp
  | succ d ih =>
    intro i hi
    have hlt : i < l.length := by omega
    have hlt' : i < l'.length := by omega
    refine Ev.step (fun k => by rw [laws_eqStringS.l0]) (pos (by omega) (pos (by omega) (pos (by omega) ?_)))
    rw [rdOf_lt _ _ _ hlt, rdOf_lt _ _ _ hlt', wrap_id (by omega) (by omega), List.drop_eq_getElem_cons hlt, List.drop_eq_getElem_cons hlt']
    refine both (fun h => ?_) (fun h => ret' ?_)
    · refine of_eq (ih (i + 1) (by omega)) ?_
      rw [toList_inj h]
      exact decide_eq_decide.2 (by simp only [List.cons.injEq, true_and])
    · exact (decide_eq_false (fun e => h (by rw [(List.cons.inj e).1]))).symm
theorem eqStringS_ev (l l' : List ByteArray) (hl : l.length ≤ maxLen) : Ev (fun k => laws_eqStringS.f k l l') (decide (l = l')) := by
  unfold laws_eqStringS.f
  refine both (fun h => ?_) (fun h => ret' ?_)
  · exact eqStringS_l0 l l' hl (by omega) l.length 0 (by omega)
  · have : l ≠ l' := fun e => h (by rw [e])
    simp [this]
theorem eqStringS_same (l : List ByteArray) (hl : l.length ≤ maxLen) : Ev (fun k => laws_eqStringS.f k l l) true := of_eq (eqStringS_ev l l hl) (by simp)
def ascB : List ByteArray → Bool
  | a :: b :: r => lt a b && ascB (b :: r)
  | _ => true
def setB (l : List ByteArray) : Bool := ascB l && textsB l 16
theorem spec_SetOk_l0 (l : List ByteArray) (hl : l.length ≤ maxLen) (d : Nat) : ∀ (j : Nat), j + 1 + d = l.length → Ev (fun k => spec_SetOk.l0 k l ((j : Int) + 1)) (ascB (l.drop j) && textsB l 16) := by
  have hl' := hl
  unfold maxLen at hl'
  induction d with
  | zero =>
    intro j hj
    refine Ev.step (fun k => by rw [spec_SetOk.l0]) (neg (by omega) ?_)
    rw [List.drop_eq_getElem_cons (by omega : j < l.length), List.drop_of_length_le (by omega)]
    exact Ev.bind (l2Texts_ev l hl) (ret' (by simp [ascB]))
  | succ d ih =>
    intro j hj
    have h1 : j < l.length := by omega
    have h2 : j + 1 < l.length := by omega
    have e : (j : Int) + 1 = ((j + 1 : Nat) : Int) := by omega
    refine Ev.step (fun k => by rw [spec_SetOk.l0]) (pos (by omega) ?_)
    rw [wrap_id (x := (j : Int) + 1 - 1) (by omega) (by omega), show (j : Int) + 1 - 1 = (j : Int) by omega]
    refine pos (by omega) (pos (by omega) (pos (by omega) ?_))
    rw [rdOf_lt _ _ _ h1, e, rdOf_lt _ _ _ h2, wrap_id (by omega) (by omega)]
    have hd : l.drop j = l[j] :: l[j + 1] :: l.drop (j + 2) := by rw [List.drop_eq_getElem_cons h1, List.drop_eq_getElem_cons h2]
    have hd1 : l.drop (j + 1) = l[j + 1] :: l.drop (j + 2) := List.drop_eq_getElem_cons h2
    rw [hd]
    refine both (fun h => ?_) (fun h => ret' ?_)
    · have := ih (j + 1) (by omega)
      rw [hd1] at this
      refine of_eq this ?_
      show _ = (lt l[j] l[j + 1] && ascB (l[j + 1] :: l.drop (j + 2)) && textsB l 16)
      rw [show lt l[j] l[j + 1] = true from h, Bool.true_and]
    · show false = (lt l[j] l[j + 1] && ascB (l[j + 1] :: l.drop (j + 2)) && textsB l 16)
      rw [show lt l[j] l[j + 1] = false from Bool.eq_false_iff.2 h, Bool.false_and, Bool.false_and]
theorem spec_SetOk_ev (l : List ByteArray) (hl : l.length ≤ maxLen) : Ev (fun k => spec_SetOk.f k l) (setB l) := by
  unfold spec_SetOk.f setB
  by_cases h : l.length = 0
  · obtain rfl : l = [] := List.length_eq_zero_iff.1 h
    refine Ev.step (fun k => by rw [spec_SetOk.l0]) (neg (by simp) ?_)
    exact Ev.bind (l2Texts_ev [] (by simp)) (ret' (by simp [ascB]))
  · exact spec_SetOk_l0 l hl (l.length - 1) 0 (by omega)
theorem impl_SetOk_l0 (l : List ByteArray) (hl : l.length ≤ maxLen) (d : Nat) : ∀ (j : Nat), j + 1 + d = l.length → Ev (fun k => impl_SetOk.l0 k l ((j : Int) + 1)) (ascB (l.drop j) && textsB l 16) := by
  have hl' := hl
  unfold maxLen at hl'
  induction d with
  | zero =>
    intro j hj
    refine Ev.step (fun k => by rw [impl_SetOk.l0]) (neg (by omega) ?_)
    rw [List.drop_eq_getElem_cons (by omega : j < l.length), List.drop_of_length_le (by omega)]
    exact Ev.bind (listOk_ev l hl) (ret' (by simp [ascB]))
  | succ d ih =>
    intro j hj
    have h1 : j < l.length := by omega
    have h2 : j + 1 < l.length := by omega
    have e : (j : Int) + 1 = ((j + 1 : Nat) : Int) := by omega
    refine Ev.step (fun k => by rw [impl_SetOk.l0]) (pos (by omega) ?_)
    rw [wrap_id (x := (j : Int) + 1 - 1) (by omega) (by omega), show (j : Int) + 1 - 1 = (j : Int) by omega]
    refine pos (by omega) (pos (by omega) (pos (by omega) ?_))
    rw [rdOf_lt _ _ _ h1, e, rdOf_lt _ _ _ h2, wrap_id (by omega) (by omega)]
    have hd : l.drop j = l[j] :: l[j + 1] :: l.drop (j + 2) := by rw [List.drop_eq_getElem_cons h1, List.drop_eq_getElem_cons h2]
    have hd1 : l.drop (j + 1) = l[j + 1] :: l.drop (j + 2) := List.drop_eq_getElem_cons h2
    rw [hd]
    refine both (fun h => ?_) (fun h => ret' ?_)
    · have := ih (j + 1) (by omega)
      rw [hd1] at this
      refine of_eq this ?_
      show _ = (lt l[j] l[j + 1] && ascB (l[j + 1] :: l.drop (j + 2)) && textsB l 16)
      rw [show lt l[j] l[j + 1] = true from h, Bool.true_and]
    · show false = (lt l[j] l[j + 1] && ascB (l[j + 1] :: l.drop (j + 2)) && textsB l 16)
      rw [show lt l[j] l[j + 1] = false from Bool.eq_false_iff.2 h, Bool.false_and, Bool.false_and]
theorem impl_SetOk_ev (l : List ByteArray) (hl : l.length ≤ maxLen) : Ev (fun k => impl_SetOk.f k l) (setB l) := by
  unfold impl_SetOk.f setB
  by_cases h : l.length = 0
  · obtain rfl : l = [] := List.length_eq_zero_iff.1 h
    refine Ev.step (fun k => by rw [impl_SetOk.l0]) (neg (by simp) ?_)
    exact Ev.bind (listOk_ev [] (by simp)) (ret' (by simp [ascB]))
  · exact impl_SetOk_l0 l hl (l.length - 1) 0 (by omega)
end Go.Proofs.Ytnkgmcgbbldkgaa.Q
namespace Go.Proofs.Ytnkgmcgbbldkgaa.Q
open Go.RowKit Go.Proofs.YtnkgmcgbbldkgaaW.PrintWords Go.Proofs.YtnkgmcgbbldkgaaW.PrintLast Go.Proofs.Ytnkgmcgbbldkgaa.P
set_option linter.unusedSimpArgs false
def kindB (kd : Int) (sz bt bl bs bf T S C F : Bool) : Bool :=
  if kd = 1 then sz && (bl && (bs && bf)) else if kd = 2 then bt && (!bl && (T && (bs && bf))) else if kd = 3 then bt && (!bl && (S && (bs && bf))) else if kd = 4 then bt && (bl && (!bs && (C && bf))) else if kd = 5 then bt && (bl && (bs && (!bf && F))) else false
def entryB (key : ByteArray) (exp kd : Int) (t : ByteArray) (l : List ByteArray) (s : List Score) (f : List Pair) : Bool :=
  inB (key.size : Int) 1 12 && (inB exp 0 2000000 && kindB kd (decide ((t.size : Int) ≤ 40)) (decide (t.toList = [])) (decide (l.length = 0)) (decide (s.length = 0)) (decide (f.length = 0)) (textsB l 16) (setB l) (scoresB s) (fieldsB f))
theorem len_pos (n : Nat) : ((n : Int) > 0) = (decide (n = 0) = false) := by
  rw [decide_eq_false_iff_not]
  exact propext (by omega)
theorem len_zero (n : Nat) : ((n : Int) = 0) = (decide (n = 0) = true) := by
  rw [decide_eq_true_iff]
  exact propext (by omega)
theorem len_beq (n : Nat) : ((n : Int) == 0) = decide (n = 0) := by
  rw [Bool.eq_iff_iff, beq_iff_eq, decide_eq_true_iff]
  omega
theorem len_dec (n : Nat) : decide ((n : Int) > 0) = !decide (n = 0) := by
  rw [Bool.eq_iff_iff, decide_eq_true_iff, Bool.not_eq_true', decide_eq_false_iff_not]
  omega
theorem text_nil (t : ByteArray) : (t.toList = ([] : List UInt8)) = (decide (t.toList = ([] : List UInt8)) = true) := by rw [decide_eq_true_iff]
theorem spec_EntryOk_j0 (key : ByteArray) (exp kd : Int) (t : ByteArray) (l : List ByteArray) (s : List Score) (f : List Pair) (hl : l.length ≤ maxLen) (hs : s.length ≤ maxLen) (hf : f.length ≤ maxLen) :
    Ev (fun k => spec_EntryOk.j0 k false key exp kd t l s f) (kindB kd (decide ((t.size : Int) ≤ 40)) (decide (t.toList = [])) (decide (l.length = 0)) (decide (s.length = 0)) (decide (f.length = 0)) (textsB l 16) (setB l) (scoresB s) (fieldsB f)) := by
  have hT := l2Texts_ev l hl
  have hT' := listOk_ev l hl
  have hS := spec_SetOk_ev l hl
  have hC := spec_ScoresOk_ev s hs
  have hF := spec_FieldsOk_ev f hf
  refine Ev.step (g := fun k => spec_EntryOk.j0 k _ _ _ _ _ _ _ _) (fun k => by rw [spec_EntryOk.j0]) (neg (by decide) ?_)
  generalize hbl : decide (l.length = 0) = bl
  generalize hbs : decide (s.length = 0) = bs
  generalize hbf : decide (f.length = 0) = bf
  generalize hbt : decide (t.toList = ([] : List UInt8)) = bt
  generalize hz : decide ((t.size : Int) ≤ 40) = sz
  have z1 : ((t.size : Int) ≤ 40) = (sz = true) := by rw [← hz, decide_eq_true_iff]
  have a1 := len_pos l.length
  have a2 := len_pos s.length
  have a3 := len_pos f.length
  have b1 := len_zero l.length
  have b2 := len_zero s.length
  have b3 := len_zero f.length
  have c1 := len_beq f.length
  have d1 := len_dec f.length
  have d2 := len_dec s.length
  have e1 := text_nil t
  rw [hbl] at a1 b1
  rw [hbs] at a2 b2 d2
  rw [hbf] at a3 b3 c1 d1
  rw [hbt] at e1
  generalize textsB l 16 = T at hT hT'
  generalize setB l = S at hS
  generalize scoresB s = C at hC
  generalize fieldsB f = F at hF
  clear hbl hbs hbf hbt hz
  simp only [a1, a2, a3, b1, b2, b3, c1, d1, d2, e1, z1]
  clear a1 a2 a3 b1 b2 b3 c1 d1 d2 e1 z1
  repeat' first
    | refine Ev.bind hT ?_
    | refine Ev.bind hT' ?_
    | refine Ev.bind hS ?_
    | refine Ev.bind hC ?_
    | refine Ev.bind hF ?_
    | (refine ret' ?_; simp_all [kindB]; done)
    | refine both (fun _ => ?_) (fun _ => ?_)
theorem spec_EntryOk_ev (key : ByteArray) (exp kd : Int) (t : ByteArray) (l : List ByteArray) (s : List Score) (f : List Pair) (hl : l.length ≤ maxLen) (hs : s.length ≤ maxLen) (hf : f.length ≤ maxLen) :
    Ev (fun k => spec_EntryOk.f k key exp kd t l s f) (entryB key exp kd t l s f) := by
  have hj := spec_EntryOk_j0 key exp kd t l s f hl hs hf
  unfold spec_EntryOk.f entryB
  have no : Ev (fun k => spec_EntryOk.j0 k true key exp kd t l s f) false := by
    refine Ev.step (g := fun k => spec_EntryOk.j0 k _ _ _ _ _ _ _ _) (fun k => by rw [spec_EntryOk.j0]) ?_
    exact pos rfl (ret _)
  have hK : Ev (fun _ => spec_l4Key.f key) (inB (key.size : Int) 1 12) := by
    unfold spec_l4Key.f
    exact Ev.bind (l1In_ev _ _ _) (ret _)
  have hK' : Ev (fun _ => impl_keyOk.f key) (inB (key.size : Int) 1 12) := by
    unfold impl_keyOk.f
    exact Ev.bind (within_ev _ _ _) (ret _)
  have hE := l1In_ev exp 0 2000000
  have hE' := within_ev exp 0 2000000
  first
    | refine Ev.bind hK ?_
    | refine Ev.bind hK' ?_
  cases inB (key.size : Int) 1 12 with
  | false => exact neg (by decide) no
  | true =>
    refine pos rfl ?_
    first
      | refine Ev.bind hE ?_
      | refine Ev.bind hE' ?_
    cases inB exp 0 2000000 with
    | false => exact no
    | true => exact hj
theorem impl_EntryOk_j0 (key : ByteArray) (exp kd : Int) (t : ByteArray) (l : List ByteArray) (s : List Score) (f : List Pair) (hl : l.length ≤ maxLen) (hs : s.length ≤ maxLen) (hf : f.length ≤ maxLen) :
    Ev (fun k => impl_EntryOk.j0 k false key exp kd t l s f) (kindB kd (decide ((t.size : Int) ≤ 40)) (decide (t.toList = [])) (decide (l.length = 0)) (decide (s.length = 0)) (decide (f.length = 0)) (textsB l 16) (setB l) (scoresB s) (fieldsB f)) := by
  have hT := l2Texts_ev l hl
  have hT' := listOk_ev l hl
  have hS := impl_SetOk_ev l hl
  have hC := impl_ScoresOk_ev s hs
  have hF := impl_FieldsOk_ev f hf
  refine Ev.step (g := fun k => impl_EntryOk.j0 k _ _ _ _ _ _ _ _) (fun k => by rw [impl_EntryOk.j0]) (neg (by decide) ?_)
  generalize hbl : decide (l.length = 0) = bl
  generalize hbs : decide (s.length = 0) = bs
  generalize hbf : decide (f.length = 0) = bf
  generalize hbt : decide (t.toList = ([] : List UInt8)) = bt
  generalize hz : decide ((t.size : Int) ≤ 40) = sz
  have z1 : ((t.size : Int) ≤ 40) = (sz = true) := by rw [← hz, decide_eq_true_iff]
  have a1 := len_pos l.length
  have a2 := len_pos s.length
  have a3 := len_pos f.length
  have b1 := len_zero l.length
  have b2 := len_zero s.length
  have b3 := len_zero f.length
  have c1 := len_beq f.length
  have d1 := len_dec f.length
  have d2 := len_dec s.length
  have e1 := text_nil t
  rw [hbl] at a1 b1
  rw [hbs] at a2 b2 d2
  rw [hbf] at a3 b3 c1 d1
  rw [hbt] at e1
  generalize textsB l 16 = T at hT hT'
  generalize setB l = S at hS
  generalize scoresB s = C at hC
  generalize fieldsB f = F at hF
  clear hbl hbs hbf hbt hz
  simp only [a1, a2, a3, b1, b2, b3, c1, d1, d2, e1, z1]
  clear a1 a2 a3 b1 b2 b3 c1 d1 d2 e1 z1
  repeat' first
    | refine Ev.bind hT ?_
    | refine Ev.bind hT' ?_
    | refine Ev.bind hS ?_
    | refine Ev.bind hC ?_
    | refine Ev.bind hF ?_
    | (refine ret' ?_; simp_all [kindB]; done)
    | refine both (fun _ => ?_) (fun _ => ?_)
theorem impl_EntryOk_ev (key : ByteArray) (exp kd : Int) (t : ByteArray) (l : List ByteArray) (s : List Score) (f : List Pair) (hl : l.length ≤ maxLen) (hs : s.length ≤ maxLen) (hf : f.length ≤ maxLen) :
    Ev (fun k => impl_EntryOk.f k key exp kd t l s f) (entryB key exp kd t l s f) := by
  have hj := impl_EntryOk_j0 key exp kd t l s f hl hs hf
  unfold impl_EntryOk.f entryB
  have no : Ev (fun k => impl_EntryOk.j0 k true key exp kd t l s f) false := by
    refine Ev.step (g := fun k => impl_EntryOk.j0 k _ _ _ _ _ _ _ _) (fun k => by rw [impl_EntryOk.j0]) ?_
    exact pos rfl (ret _)
  have hK : Ev (fun _ => spec_l4Key.f key) (inB (key.size : Int) 1 12) := by
    unfold spec_l4Key.f
    exact Ev.bind (l1In_ev _ _ _) (ret _)
  have hK' : Ev (fun _ => impl_keyOk.f key) (inB (key.size : Int) 1 12) := by
    unfold impl_keyOk.f
    exact Ev.bind (within_ev _ _ _) (ret _)
  have hE := l1In_ev exp 0 2000000
  have hE' := within_ev exp 0 2000000
  first
    | refine Ev.bind hK ?_
    | refine Ev.bind hK' ?_
  cases inB (key.size : Int) 1 12 with
  | false => exact neg (by decide) no
  | true =>
    refine pos rfl ?_
    first
      | refine Ev.bind hE ?_
      | refine Ev.bind hE' ?_
    cases inB exp 0 2000000 with
    | false => exact no
    | true => exact hj
end Go.Proofs.Ytnkgmcgbbldkgaa.Q
namespace Go.Proofs.Ytnkgmcgbbldkgaa.Q
open Go.RowKit Go.Proofs.YtnkgmcgbbldkgaaW.PrintWords Go.Proofs.YtnkgmcgbbldkgaaW.PrintLast Go.Proofs.Ytnkgmcgbbldkgaa.P
abbrev LEntry := S26
abbrev Entry := S32
theorem rdLEntry_lt (l : List LEntry) (i : Nat) (h : i < l.length) : rd_T26 l (i : Int) = l[i] := by
  simp [rd_T26, List.getD_eq_getElem?_getD, h]
theorem rdEntry_lt (l : List Entry) (i : Nat) (h : i < l.length) : rd_T32 l (i : Int) = l[i] := by
  simp [rd_T32, List.getD_eq_getElem?_getD, h]
def entryIn (x : LEntry) : Prop := x.f0.size ≤ maxLen ∧ x.f3.size ≤ maxLen ∧ (x.f4.length ≤ maxLen ∧ ∀ s ∈ x.f4, s.size ≤ maxLen) ∧ (x.f5.length ≤ maxLen ∧ ∀ s ∈ x.f5, s.f0.size ≤ maxLen ∧ (Lit.int .i64 s.f1).wf = true) ∧ (x.f6.length ≤ maxLen ∧ ∀ s ∈ x.f6, s.f0.size ≤ maxLen ∧ s.f1.size ≤ maxLen)
def entrySmall (x : LEntry) : Prop := x.f4.length ≤ 1048576 ∧ x.f5.length ≤ 1048576 ∧ x.f6.length ≤ 1048576
theorem szEntry_ev (x : LEntry) (hx : entryIn x) (c : Int) (h0 : 0 ≤ c) (h1 : c ≤ 1048576) :
    ∃ v, Ev (fun k => laws_szEntry.f k x.f0 x.f1 x.f2 x.f3 x.f4 x.f5 x.f6 c) v ∧ v ≤ c ∧ -1 ≤ v ∧ (0 ≤ v → entrySmall x) := by
  obtain ⟨hk, ht, ⟨hl, hls⟩, ⟨hs, hss⟩, ⟨hf, hfs⟩⟩ := hx
  unfold laws_szEntry.f
  unfold maxLen at hk ht
  rw [wrap_id (x := c - (x.f0.size : Int)) (by omega) (by omega)]
  by_cases c1 : c - (x.f0.size : Int) < 0
  · exact ⟨-1, pos c1 (ret _), by omega, by omega, by omega⟩
  · rw [wrap_id (x := c - (x.f0.size : Int) - (x.f3.size : Int)) (by omega) (by omega)]
    by_cases c2 : c - (x.f0.size : Int) - (x.f3.size : Int) < 0
    · exact ⟨-1, neg c1 (pos c2 (ret _)), by omega, by omega, by omega⟩
    · obtain ⟨v1, hv1, p1, q1, r1⟩ := szStringS_ev x.f4 hl hls (c - (x.f0.size : Int) - (x.f3.size : Int)) (by omega) (by omega)
      by_cases c3 : v1 < 0
      · exact ⟨-1, neg c1 (neg c2 (Ev.bind hv1 (pos c3 (ret _)))), by omega, by omega, by omega⟩
      · obtain ⟨v2, hv2, p2, q2, r2⟩ := szScoreS_ev x.f5 hs hss v1 (by omega) (by omega)
        by_cases c4 : v2 < 0
        · exact ⟨-1, neg c1 (neg c2 (Ev.bind hv1 (neg c3 (Ev.bind hv2 (pos c4 (ret _)))))), by omega, by omega, by omega⟩
        · obtain ⟨v3, hv3, p3, q3, r3⟩ := szPairS_ev x.f6 hf hfs v2 (by omega) (by omega)
          by_cases c5 : v3 < 0
          · exact ⟨-1, neg c1 (neg c2 (Ev.bind hv1 (neg c3 (Ev.bind hv2 (neg c4 (Ev.bind hv3 (pos c5 (ret _)))))))), by omega, by omega, by omega⟩
          · exact ⟨v3, neg c1 (neg c2 (Ev.bind hv1 (neg c3 (Ev.bind hv2 (neg c4 (Ev.bind hv3 (neg c5 (ret _)))))))), by omega, by omega, fun _ => ⟨(r1 (by omega)).1, (r2 (by omega)).1, (r3 (by omega)).1⟩⟩
theorem szEntryS_l0 (l : List LEntry) (hl : l.length ≤ maxLen) (hs : ∀ x ∈ l, entryIn x) (d : Nat) : ∀ (i : Nat) (c : Int), i + d = l.length → 0 ≤ c → c ≤ 1048576 →
    ∃ v, Ev (fun k => laws_szEntryS.l0 k l c (i : Int)) v ∧ v ≤ c ∧ -1 ≤ v ∧ (0 ≤ v → ∀ j (h : j < l.length), i ≤ j → entrySmall l[j]) := by
  unfold maxLen at hl
  induction d with
  | zero =>
    intro i c hi h0 h1
    exact ⟨c, Ev.step (g := fun k => laws_szEntryS.l0 k _ _ _) (fun k => by rw [laws_szEntryS.l0]) (neg (by omega) (ret c)), by omega, by omega, fun _ j hj hij => by omega⟩
  | succ d ih =>
    intro i c hi h0 h1
    have hlt : i < l.length := by omega
    obtain ⟨v, hv, hv1, hv2, hv3⟩ := szEntry_ev _ (hs _ (List.getElem_mem hlt)) c h0 h1
    by_cases hneg : v < 0
    · refine ⟨-1, Ev.step (g := fun k => laws_szEntryS.l0 k _ _ _) (fun k => by rw [laws_szEntryS.l0]) (pos (by omega) (pos (by omega) ?_)), by omega, by omega, by omega⟩
      rw [rdLEntry_lt _ _ hlt]
      exact Ev.bind hv (pos hneg (ret (-1)))
    · obtain ⟨u, hu, h2, h3, h4⟩ := ih (i + 1) v (by omega) (by omega) (by omega)
      refine ⟨u, Ev.step (g := fun k => laws_szEntryS.l0 k _ _ _) (fun k => by rw [laws_szEntryS.l0]) (pos (by omega) (pos (by omega) ?_)), by omega, h3, fun h5 j hj hij => ?_⟩
      · rw [rdLEntry_lt _ _ hlt, wrap_id (x := (i : Int) + 1) (by omega) (by omega)]
        exact Ev.bind hv (neg hneg hu)
      · rcases Nat.eq_or_lt_of_le hij with rfl | hij
        · exact hv3 (by omega)
        · exact h4 h5 j hj hij
theorem szEntryS_ev (l : List LEntry) (hl : l.length ≤ maxLen) (hs : ∀ x ∈ l, entryIn x) (c : Int) (h0 : 0 ≤ c) (h1 : c ≤ 1048576) :
    ∃ v, Ev (fun k => laws_szEntryS.f k l c) v ∧ v ≤ c ∧ -1 ≤ v ∧ (0 ≤ v → l.length ≤ 1048576 ∧ ∀ x ∈ l, entrySmall x) := by
  have hl' := hl
  unfold maxLen at hl'
  by_cases h : c - (l.length : Int) < 0
  · refine ⟨-1, ?_, by omega, by omega, by omega⟩
    unfold laws_szEntryS.f
    refine pos ?_ (ret _)
    rw [wrap_id (by omega) (by omega)]
    exact h
  · obtain ⟨v, hv, h2, h3, h4⟩ := szEntryS_l0 l hl hs l.length 0 (c - (l.length : Int)) (by omega) (by omega) (by omega)
    refine ⟨v, ?_, by omega, h3, fun h5 => ⟨by omega, fun s hs => ?_⟩⟩
    · unfold laws_szEntryS.f
      rw [wrap_id (by omega) (by omega)]
      exact neg h hv
    · obtain ⟨j, hj, rfl⟩ := List.getElem_of_mem hs
      exact h4 h5 j hj (by omega)
def cvEntry (x : LEntry) : Entry := ⟨x.f0, x.f1, x.f2, x.f3, x.f4, x.f5.map cvScore, x.f6.map cvPair⟩
theorem toEntry_ev (x : LEntry) (h : entrySmall x) : Ev (fun k => laws_toEntry.f k x.f0 x.f1 x.f2 x.f3 x.f4 x.f5 x.f6) (x.f0, x.f1, x.f2, x.f3, x.f4, x.f5.map cvScore, x.f6.map cvPair) := by
  obtain ⟨a, b, c⟩ := h
  unfold laws_toEntry.f
  exact Ev.bind (toStringS_ev x.f4 (by omega)) (Ev.bind (toScoreS_ev x.f5 b) (Ev.bind (toPairS_ev x.f6 c) (ret _)))
theorem toEntryS_l0 (l : List LEntry) (hl : l.length ≤ maxLen) (hs : ∀ x ∈ l, entrySmall x) (d : Nat) : ∀ (i : Nat) (x : List Entry), i + d = l.length → x.length = l.length → Ev (fun k => laws_toEntryS.l0 k l x (i : Int)) (x.take i ++ (l.drop i).map cvEntry) := by
  unfold maxLen at hl
  induction d with
  | zero =>
    intro i x hi hx
    refine Ev.step (g := fun k => laws_toEntryS.l0 k _ _ _) (fun k => by rw [laws_toEntryS.l0]) (neg (by omega) (ret' ?_))
    rw [List.drop_of_length_le (by omega), List.take_of_length_le (by omega), List.map_nil, List.append_nil]
  | succ d ih =>
    intro i x hi hx
    have hlt : i < l.length := by omega
    refine Ev.step (g := fun k => laws_toEntryS.l0 k _ _ _) (fun k => by rw [laws_toEntryS.l0]) (pos (by omega) (pos (by omega) ?_))
    rw [rdLEntry_lt _ _ hlt, wrap_id (by omega) (by omega)]
    refine Ev.bind (toEntry_ev _ (hs _ (List.getElem_mem hlt))) (pos (by omega) (of_eq (ih (i + 1) _ (by omega) (by simp [hx])) ?_))
    rw [List.drop_eq_getElem_cons hlt, Int.toNat_natCast, List.take_set, List.take_succ_eq_append_getElem (by omega), List.set_append_right _ _ (by simp; omega), List.map_cons]
    simp [show min i x.length = i by omega]
    rfl
theorem toEntryS_ev (l : List LEntry) (hl : l.length ≤ 1048576) (hs : ∀ x ∈ l, entrySmall x) : Ev (fun k => laws_toEntryS.f k l) (l.map cvEntry) := by
  unfold laws_toEntryS.f
  refine pos (by omega) (pos (by omega) ?_)
  exact of_eq (toEntryS_l0 l (by unfold maxLen; omega) hs l.length 0 _ (by omega) (by simp)) (by simp)
def entryLen (x : Entry) : Prop := x.f4.length ≤ maxLen ∧ x.f5.length ≤ maxLen ∧ x.f6.length ≤ maxLen
theorem eqEntry_same (x : Entry) (h : entryLen x) : Ev (fun k => laws_eqEntry.f k x.f0 x.f1 x.f2 x.f3 x.f4 x.f5 x.f6 x.f0 x.f1 x.f2 x.f3 x.f4 x.f5 x.f6) true := by
  obtain ⟨a, b, c⟩ := h
  unfold laws_eqEntry.f
  refine pos rfl (pos rfl (pos rfl (pos rfl (Ev.bind (eqStringS_same x.f4 a) (pos rfl (Ev.bind (eqScoreS_same x.f5 b) (pos rfl (Ev.bind (eqPairS_same x.f6 c) (pos rfl (ret _))))))))))
theorem eqEntryS_l0 (l : List Entry) (hl : l.length ≤ maxLen) (hs : ∀ x ∈ l, entryLen x) (d : Nat) : ∀ (i : Nat), i + d = l.length → Ev (fun k => laws_eqEntryS.l0 k l l (i : Int)) true := by
  unfold maxLen at hl
  induction d with
  | zero =>
    intro i hi
    exact Ev.step (g := fun k => laws_eqEntryS.l0 k _ _ _) (fun k => by rw [laws_eqEntryS.l0]) (neg (by omega) (ret _))
  | succ d ih =>
    intro i hi
    have hlt : i < l.length := by omega
    refine Ev.step (g := fun k => laws_eqEntryS.l0 k _ _ _) (fun k => by rw [laws_eqEntryS.l0]) (pos (by omega) (pos (by omega) (pos (by omega) ?_)))
    rw [rdEntry_lt _ _ hlt, wrap_id (by omega) (by omega)]
    exact Ev.bind (eqEntry_same _ (hs _ (List.getElem_mem hlt))) (pos rfl (ih (i + 1) (by omega)))
theorem eqEntryS_same (l : List Entry) (hl : l.length ≤ maxLen) (hs : ∀ x ∈ l, entryLen x) : Ev (fun k => laws_eqEntryS.f k l l) true := by
  unfold laws_eqEntryS.f
  exact pos rfl (eqEntryS_l0 l hl hs l.length 0 (by omega))
def stepB (now : Int) (l : List Entry) (i : Nat) : Bool :=
  entryB (rd_T32 l (i : Int)).f0 (rd_T32 l (i : Int)).f1 (rd_T32 l (i : Int)).f2 (rd_T32 l (i : Int)).f3 (rd_T32 l (i : Int)).f4 (rd_T32 l (i : Int)).f5 (rd_T32 l (i : Int)).f6 &&
    ((decide (i = 0) || lt (rd_T32 l ((i - 1 : Nat) : Int)).f0 (rd_T32 l (i : Int)).f0) && (decide ((rd_T32 l (i : Int)).f1 = 0) || !decide ((rd_T32 l (i : Int)).f1 ≤ now)))
def baseB (now : Int) (l : List Entry) : Bool := (List.range' 0 l.length).all (stepB now l) && (inB now 0 1000000 && decide ((l.length : Int) ≤ 12))
theorem spec_BaseOk_l0 (now : Int) (l : List Entry) (hl : l.length ≤ maxLen) (hs : ∀ x ∈ l, entryLen x) (d : Nat) : ∀ (i : Nat), i + d = l.length → Ev (fun k => spec_BaseOk.l0 k (i : Int) now l) ((List.range' i d).all (stepB now l) && (inB now 0 1000000 && decide ((l.length : Int) ≤ 12))) := by
  have hl' := hl
  unfold maxLen at hl'
  induction d with
  | zero =>
    intro i hi
    refine Ev.step (g := fun k => spec_BaseOk.l0 k _ _ _) (fun k => by rw [spec_BaseOk.l0]) (neg (by omega) (Ev.bind (l1In_ev _ _ _) ?_))
    cases inB now 0 1000000 with
    | true => exact pos rfl (ret' (by simp))
    | false => exact neg (by decide) (ret' (by simp))
  | succ d ih =>
    intro i hi
    have hlt : i < l.length := by omega
    obtain ⟨a, b, c⟩ := hs _ (List.getElem_mem hlt)
    rw [← rdEntry_lt l i hlt] at a b c
    have hE := spec_EntryOk_ev (rd_T32 l (i : Int)).f0 (rd_T32 l (i : Int)).f1 (rd_T32 l (i : Int)).f2 (rd_T32 l (i : Int)).f3 (rd_T32 l (i : Int)).f4 (rd_T32 l (i : Int)).f5 (rd_T32 l (i : Int)).f6 a b c
    have ih := ih (i + 1) (by omega)
    rw [List.range'_succ, List.all_cons, Bool.and_assoc]
    generalize ((List.range' (i + 1) d).all (stepB now l) && (inB now 0 1000000 && decide ((l.length : Int) ≤ 12))) = rest at ih
    have jj : ∀ q : Bool, Ev (fun k => spec_BaseOk.j1 k (i : Int) q now l) (!q && rest) := by
      intro q
      refine Ev.step (g := fun k => spec_BaseOk.j1 k _ _ _ _) (fun k => by rw [spec_BaseOk.j1]) ?_
      rw [wrap_id (x := (i : Int) + 1) (by omega) (by omega)]
      cases q with
      | true => exact pos rfl (ret' (by simp))
      | false => exact neg (by decide) (of_eq ih (by simp))
    refine Ev.step (g := fun k => spec_BaseOk.l0 k _ _ _) (fun k => by rw [spec_BaseOk.l0]) (pos (by omega) (pos (by omega) (Ev.bind hE ?_)))
    unfold stepB
    cases hB : entryB (rd_T32 l (i : Int)).f0 (rd_T32 l (i : Int)).f1 (rd_T32 l (i : Int)).f2 (rd_T32 l (i : Int)).f3 (rd_T32 l (i : Int)).f4 (rd_T32 l (i : Int)).f5 (rd_T32 l (i : Int)).f6 with
    | false => exact neg (by decide) (of_eq (jj true) (by simp))
    | true =>
      refine pos rfl ?_
      by_cases h0 : i = 0
      · have hn : ¬ (i : Int) > 0 := by omega
        refine both (fun h => neg hn (of_eq (jj false) (by rw [decide_eq_true h0]; simp [h]))) (fun h => both (fun h' => of_eq (jj true) (by rw [decide_eq_true h0]; simp [h, h'])) (fun h' => neg hn (of_eq (jj false) (by rw [decide_eq_true h0]; simp [h, h']))))
      · have hp : (i : Int) > 0 := by omega
        have e : wrap64 ((i : Int) - 1) = ((i - 1 : Nat) : Int) := by rw [wrap_id (by omega) (by omega)]; omega
        rw [e]
        have q1 : (0 : Int) ≤ ((i - 1 : Nat) : Int) := by omega
        have q2 : ((i - 1 : Nat) : Int) < (l.length : Int) := by omega
        refine both (fun h => pos hp (pos q1 (pos q2 (of_eq (jj _) ?_)))) (fun h => both (fun h' => of_eq (jj true) (by simp [h, h'])) (fun h' => pos hp (pos q1 (pos q2 (of_eq (jj _) ?_)))))
        · simp [h, h0, lt]
        · simp [h, h', h0, lt]
theorem spec_BaseOk_ev (now : Int) (l : List Entry) (hl : l.length ≤ maxLen) (hs : ∀ x ∈ l, entryLen x) : Ev (fun k => spec_BaseOk.f k now l) (baseB now l) := spec_BaseOk_l0 now l hl hs l.length 0 (by omega)
theorem impl_BaseOk_l0 (now : Int) (l : List Entry) (hl : l.length ≤ maxLen) (hs : ∀ x ∈ l, entryLen x) (d : Nat) : ∀ (i : Nat), i + d = l.length → Ev (fun k => impl_BaseOk.l0 k l (l.length : Int) (i : Int) now l) ((List.range' i d).all (stepB now l)) := by
  have hl' := hl
  unfold maxLen at hl'
  induction d with
  | zero =>
    intro i hi
    exact Ev.step (g := fun k => impl_BaseOk.l0 k _ _ _ _ _) (fun k => by rw [impl_BaseOk.l0]) (neg (by omega) (ret' (by simp)))
  | succ d ih =>
    intro i hi
    have hlt : i < l.length := by omega
    obtain ⟨a, b, c⟩ := hs _ (List.getElem_mem hlt)
    rw [← rdEntry_lt l i hlt] at a b c
    have hE := impl_EntryOk_ev (rd_T32 l (i : Int)).f0 (rd_T32 l (i : Int)).f1 (rd_T32 l (i : Int)).f2 (rd_T32 l (i : Int)).f3 (rd_T32 l (i : Int)).f4 (rd_T32 l (i : Int)).f5 (rd_T32 l (i : Int)).f6 a b c
    have ih := ih (i + 1) (by omega)
    rw [List.range'_succ, List.all_cons]
    generalize (List.range' (i + 1) d).all (stepB now l) = rest at ih
    have jj : ∀ q : Bool, Ev (fun k => impl_BaseOk.j2 k l (l.length : Int) (i : Int) q now l) (!q && rest) := by
      intro q
      refine Ev.step (g := fun k => impl_BaseOk.j2 k _ _ _ _ _ _) (fun k => by rw [impl_BaseOk.j2]) ?_
      rw [wrap_id (x := (i : Int) + 1) (by omega) (by omega)]
      cases q with
      | true => exact pos rfl (ret' (by simp))
      | false => exact neg (by decide) (of_eq ih (by simp))
    refine Ev.step (g := fun k => impl_BaseOk.l0 k _ _ _ _ _) (fun k => by rw [impl_BaseOk.l0]) (pos (by omega) (pos (by omega) (pos (by omega) (Ev.bind hE ?_))))
    unfold stepB
    cases hB : entryB (rd_T32 l (i : Int)).f0 (rd_T32 l (i : Int)).f1 (rd_T32 l (i : Int)).f2 (rd_T32 l (i : Int)).f3 (rd_T32 l (i : Int)).f4 (rd_T32 l (i : Int)).f5 (rd_T32 l (i : Int)).f6 with
    | false => exact neg (by decide) (of_eq (jj true) (by simp))
    | true =>
      refine pos rfl ?_
      by_cases h0 : i = 0
      · have hn : ¬ (i : Int) > 0 := by omega
        exact neg hn (both (fun h => of_eq (jj false) (by rw [decide_eq_true h0]; simp [h])) (fun h => of_eq (jj _) (by rw [decide_eq_true h0]; simp [h])))
      · have hp : (i : Int) > 0 := by omega
        have e : wrap64 ((i : Int) - 1) = ((i - 1 : Nat) : Int) := by rw [wrap_id (by omega) (by omega)]; omega
        rw [e]
        have q1 : (0 : Int) ≤ ((i - 1 : Nat) : Int) := by omega
        have q2 : ((i - 1 : Nat) : Int) < (l.length : Int) := by omega
        refine pos hp (pos q1 (pos q2 (both (fun g => both (fun h => of_eq (jj false) ?_) (fun h => of_eq (jj _) ?_)) (fun g => of_eq (jj true) ?_))))
        · simp [h, h0, lt, g]
        · simp [h, h0, lt, g]
        · simp [h0, lt, g]
theorem impl_BaseOk_ev (now : Int) (l : List Entry) (hl : l.length ≤ maxLen) (hs : ∀ x ∈ l, entryLen x) : Ev (fun k => impl_BaseOk.f k now l) (baseB now l) := by
  have hl0 := impl_BaseOk_l0 now l hl hs l.length 0 (by omega)
  have hj : ∀ q : Bool, Ev (fun k => impl_BaseOk.j0 k q now l) (!q && (List.range' 0 l.length).all (stepB now l)) := by
    intro q
    refine Ev.step (g := fun k => impl_BaseOk.j0 k _ _ _) (fun k => by rw [impl_BaseOk.j0]) ?_
    cases q with
    | true => exact pos rfl (ret' (by simp))
    | false => exact neg (by decide) (of_eq hl0 (by simp))
  unfold impl_BaseOk.f baseB
  refine Ev.bind (within_ev _ _ _) ?_
  cases inB now 0 1000000 with
  | false => exact neg (by decide) (of_eq (hj true) (by simp))
  | true =>
    refine pos rfl (of_eq (hj _) ?_)
    rw [Bool.true_and, Bool.and_comm]
    congr 1
    rw [← decide_not]
    exact decide_eq_decide.2 (by omega)
theorem FnExactBaseOk_pure (now : Int) (l : List LEntry) (_hn : (Lit.int .i64 now).wf = true) (hl : l.length ≤ maxLen)
    (hs : ∀ x ∈ l, x.f0.size ≤ maxLen ∧ (Lit.int .i64 x.f1).wf = true ∧ (Lit.int .i64 x.f2).wf = true ∧ x.f3.size ≤ maxLen ∧ (x.f4.length ≤ maxLen ∧ ∀ s ∈ x.f4, s.size ≤ maxLen) ∧ (x.f5.length ≤ maxLen ∧ ∀ s ∈ x.f5, s.f0.size ≤ maxLen ∧ (Lit.int .i64 s.f1).wf = true) ∧ (x.f6.length ≤ maxLen ∧ ∀ s ∈ x.f6, s.f0.size ≤ maxLen ∧ s.f1.size ≤ maxLen)) :
    ∃ k, laws_FnExactBaseOk.f k now l = some true := by
  refine exists_of (r := true) ?_
  unfold laws_FnExactBaseOk.f
  obtain ⟨v, hv, h1, h2, h3⟩ := szEntryS_ev l hl (fun x hx => by
    obtain ⟨a, _, _, b, c, d, e⟩ := hs x hx
    exact ⟨a, b, c, d, e⟩) 1048576 (by omega) (by omega)
  have hz : Ev (fun k => laws_szBase.f k now l 1048576) (if v < 0 then -1 else v) := by
    unfold laws_szBase.f
    refine Ev.bind hv (both (fun h => ret' (if_pos h).symm) (fun h => ret' (if_neg h).symm))
  refine Ev.bind hz (both (fun _ => ret _) (fun h => ?_))
  have hv0 : 0 ≤ v := by
    by_cases q : v < 0
    · rw [if_pos q] at h; omega
    · omega
  obtain ⟨h4, h5⟩ := h3 hv0
  have hT : Ev (fun k => laws_toBase.f k now l) (now, l.map cvEntry) := by
    unfold laws_toBase.f
    exact Ev.bind (toEntryS_ev l h4 h5) (ret _)
  have hlen : (l.map cvEntry).length ≤ maxLen := by rw [List.length_map]; exact hl
  have hs' : ∀ x ∈ l.map cvEntry, entryLen x := by
    intro x hx
    obtain ⟨y, hy, rfl⟩ := List.mem_map.1 hx
    obtain ⟨_, _, _, _, c, d, e⟩ := hs y hy
    exact ⟨c.1, by show (y.f5.map cvScore).length ≤ maxLen; rw [List.length_map]; exact d.1, by show (y.f6.map cvPair).length ≤ maxLen; rw [List.length_map]; exact e.1⟩
  generalize l.map cvEntry = m at hT hlen hs'
  have hS := spec_BaseOk_ev now m hlen hs'
  have hI := impl_BaseOk_ev now m hlen hs'
  have hE : Ev (fun k => laws_eqBase.f k now m now m) true := by
    unfold laws_eqBase.f
    exact pos rfl (Ev.bind (eqEntryS_same m hlen hs') (pos rfl (ret _)))
  exact Ev.bind hT (Ev.bind hS (Ev.bind hT (Ev.bind hI (neg (by simp) (Ev.bind hT (Ev.bind hE (pos rfl (ret _))))))))
end Go.Proofs.Ytnkgmcgbbldkgaa.Q
