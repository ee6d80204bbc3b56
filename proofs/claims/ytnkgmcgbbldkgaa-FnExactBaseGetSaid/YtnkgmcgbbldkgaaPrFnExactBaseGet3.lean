import Derived.Test.YtnkgmcgbbldkgaaPrFnExactBaseGet2
/- Texts of this claim, one behind the other: words on worlds and rows, printed functions and their walks, plain lemmas. -/
namespace Go.Proofs.Ytnkgmcgbbldkgaa.P
open Go.RowKit Go.Proofs.YtnkgmcgbbldkgaaW.PrintWords Go.Proofs.YtnkgmcgbbldkgaaW.PrintLast Go.Proofs.YtnkgmcgbbldkgaaW.PrintMore
attribute [local go_sem] max2_int min2_int max_two min_two max_three min_three max_four min_four   -- for this text's walks alone
set_option linter.unusedVariables false
set_option linter.unusedSimpArgs false
set_option maxHeartbeats 8000000 in
set_option maxRecDepth 100000 in
theorem laws_szEntryS.calls (k : Nat) (A0 : Option Addr) (c0 : Nat) (l0 : List (S26)) (a1 : Int) (r : Int) (w : World) (hr0 : Kd.C k26 w A0 l0.length l0) (hc0 : l0.length ≤ c0) (h : laws_szEntryS.f k l0 a1 = some r) :
  Calls Try.prog 58 #[.slice A0 l0.length c0, .int .i64 a1] w fun e w' => e = .returned (.int .i64 r) ∧ Below w.heap.size w w' := by
 have hu26 := Try.underlying26; have HR0 := zq9 hr0; have HC0 := zq9 hc0; clear hr0 hc0
 have HB := zq9 (Below.refl w.heap.size w)
 have H : (if (wrap64 (a1 - (l0.length : Int))) < 0 then (some (-1)) else (laws_szEntryS.l0 k l0 (wrap64 (a1 - (l0.length : Int))) 0)) = some r := h
 clear h
 go_enter Try.func58, Try.ntmps58
 by_cases c3 : (wrap64 (a1 - (l0.length : Int))) < 0
 ·rw [if_pos c3] at H; have c3b0 : decide ((wrap64 (a1 - (l0.length : Int))) < 0) = true := decide_eq_true c3; clear c3; obtain rfl := Option.some.inj H
  go_wp2
  go_ret
  exact fz (by exact bl HB)
 ·rw [if_neg c3] at H; have c3b0 : decide ((wrap64 (a1 - (l0.length : Int))) < 0) = false := decide_eq_false c3; clear c3; have H' := zq9 H; clear H
  go_wp2
  go_loopg [1, 5] k (fun kq v1 v5 w' => ∃ (x1_1 : Int) (x5_1 : Int), v1 = .int .i64 x1_1 ∧ v5 = .int .i64 x5_1 ∧ Aside0 (laws_szEntryS.l0 kq l0 x1_1 x5_1 = some r) ∧ Aside0 (kq ≤ k) ∧ Aside0 (Below w.heap.size w w'))
  case atStart => exact ⟨(wrap64 (a1 - (l0.length : Int))), (0), (by first | rfl | (simp; done) | (simp [*]; done)), (by first | rfl | (simp; done) | (simp [*]; done)), H', ⟨Nat.le_refl _⟩, ⟨by exact bl HB⟩⟩
  case round =>
   clear H'
   try clear p2
   try clear c3
   try clear c3b0
   obtain ⟨x1_1, x5_1, rfl, rfl, HA, HK1, HB⟩ := hrel
   cases gk with
   | zero => exact absurd HA.out (by simp [laws_szEntryS.l0])
   | succ k1 =>
    have H := HA.out; clear HA
    simp only [laws_szEntryS.l0] at H
    by_cases c4 : x5_1 < (l0.length : Int)
    ·rw [if_pos c4] at H; have c4b0 : decide (x5_1 < (l0.length : Int)) = true := decide_eq_true c4; clear c4
     by_cases c5 : 0 ≤ x5_1
     ·rw [if_pos c5] at H; have c5b0 : decide (0 ≤ x5_1) = true := decide_eq_true c5; clear c5; replace H := Option.bind_eq_some_iff.mp H; obtain ⟨t642, A60, H⟩ := H
      try dsimp only at H
      have A6 := zq9 A60; clear A60
      have p641 : 0 ≤ (x5_1 : Int) := of_decide_eq_true ‹_›
      have q641 : x5_1 < (l0.length : Int) := of_decide_eq_true ‹_›
      obtain ⟨ad641, A641_4, c641_4, A641_5, c641_5, A641_6, c641_6, e641, hx641_0, hx641_1, hx641_2, hx641_3, hx641_4, hx641_5, hx641_6, hl641_4, hi641_4, hl641_5, hi641_5, hl641_6, hi641_6⟩ := at_T26 HR0.out x5_1 p641 q641
      cases e641; replace hx641_0 := hcl HB hx641_0; replace hx641_1 := hcl HB hx641_1; replace hx641_2 := hcl HB hx641_2; replace hx641_3 := hcl HB hx641_3; replace hx641_4 := hcl HB hx641_4; replace hx641_5 := hcl HB hx641_5; replace hx641_6 := hcl HB hx641_6; have HR641_4 := zq9 hi641_4; have HC641_4 := zq9 hl641_4; clear hi641_4 hl641_4; have HR641_5 := zq9 hi641_5; have HC641_5 := zq9 hl641_5
      clear hi641_5 hl641_5; have HR641_6 := zq9 hi641_6; have HC641_6 := zq9 hl641_6; clear hi641_6 hl641_6; replace p641 := eq_true p641; replace q641 := eq_true q641
      by_cases c7 : t642 < 0
      ·rw [if_pos c7] at H; have c7b0 : decide (t642 < 0) = true := decide_eq_true c7; clear c7; obtain rfl := Option.some.inj H
       go_wp2_with (first | ((with_reducible refine zq24 (f := 10) rfl ?_); refine gl (some 23) Try.func10 #[.agg #[.string ((rd_T26 l0 x5_1).f0), .int .i64 ((rd_T26 l0 x5_1).f1), .int .i64 ((rd_T26 l0 x5_1).f2), .string ((rd_T26 l0 x5_1).f3), .slice A641_4 ((rd_T26 l0 x5_1).f4).length c641_4, .slice A641_5 ((rd_T26 l0 x5_1).f5).length c641_5, .slice A641_6 ((rd_T26 l0 x5_1).f6).length c641_6], .int .i64 x1_1] ?_; (with_reducible refine (laws_szEntry.calls k1 ((rd_T26 l0 x5_1).f0) ((rd_T26 l0 x5_1).f1) ((rd_T26 l0 x5_1).f2) ((rd_T26 l0 x5_1).f3) _ _ ((rd_T26 l0 x5_1).f4) _ _ ((rd_T26 l0 x5_1).f5) _ _ ((rd_T26 l0 x5_1).f6) x1_1 t642 _ ?side1 ?side2 ?side3 ?side4 ?side5 ?side6 A6.out).mono ?_); (case side1 => exact kc HR641_4 HB); (case side2 => exact HC641_4.out); (case side3 => exact kc HR641_5 HB); (case side4 => exact HC641_5.out); (case side5 => exact kc HR641_6 HB); (case side6 => exact HC641_6.out); rintro e w8 ⟨rfl, hb⟩; refine ⟨_, rfl, ?_⟩; have n0_ := zq9 (zq27 (by exact bl HB) hb); clear HB; have HB := n0_; clear n0_; (try clear hb); (try clear hb2); (try clear hk); (try clear hi)))
       go_ret
       exact fz (by exact bl HB)
      ·rw [if_neg c7] at H; have c7b0 : decide (t642 < 0) = false := decide_eq_false c7; clear c7; have H' := zq9 H; clear H
       go_wp2_with (first | ((with_reducible refine zq24 (f := 10) rfl ?_); refine gl (some 23) Try.func10 #[.agg #[.string ((rd_T26 l0 x5_1).f0), .int .i64 ((rd_T26 l0 x5_1).f1), .int .i64 ((rd_T26 l0 x5_1).f2), .string ((rd_T26 l0 x5_1).f3), .slice A641_4 ((rd_T26 l0 x5_1).f4).length c641_4, .slice A641_5 ((rd_T26 l0 x5_1).f5).length c641_5, .slice A641_6 ((rd_T26 l0 x5_1).f6).length c641_6], .int .i64 x1_1] ?_; (with_reducible refine (laws_szEntry.calls k1 ((rd_T26 l0 x5_1).f0) ((rd_T26 l0 x5_1).f1) ((rd_T26 l0 x5_1).f2) ((rd_T26 l0 x5_1).f3) _ _ ((rd_T26 l0 x5_1).f4) _ _ ((rd_T26 l0 x5_1).f5) _ _ ((rd_T26 l0 x5_1).f6) x1_1 t642 _ ?side1 ?side2 ?side3 ?side4 ?side5 ?side6 A6.out).mono ?_); (case side1 => exact kc HR641_4 HB); (case side2 => exact HC641_4.out); (case side3 => exact kc HR641_5 HB); (case side4 => exact HC641_5.out); (case side5 => exact kc HR641_6 HB); (case side6 => exact HC641_6.out); rintro e w8 ⟨rfl, hb⟩; refine ⟨_, rfl, ?_⟩; have n0_ := zq9 (zq27 (by exact bl HB) hb); clear HB; have HB := n0_; clear n0_; (try clear hb); (try clear hb2); (try clear hk); (try clear hi)))
       go_roundg k1
       case measure => have := HK1.out; omega
       case rel => exact ⟨(t642), (wrap64 (x5_1 + 1)), (by first | rfl | (simp; done) | (simp [*]; done)), (by first | rfl | (simp; done) | (simp [*]; done)), H', ⟨by have := HK1.out; omega⟩, ⟨by exact bl HB⟩⟩
     ·rw [if_neg c5] at H
      exact absurd H (by simp)
    ·rw [if_neg c4] at H; have c4b0 : decide (x5_1 < (l0.length : Int)) = false := decide_eq_false c4; clear c4; obtain rfl := Option.some.inj H
     go_wp2
     go_ret
     exact fz (by exact bl HB)
set_option maxHeartbeats 8000000 in
set_option maxRecDepth 100000 in
theorem laws_szBase.calls (k : Nat) (a0_0 : Int) (A0_1 : Option Addr) (c0_1 : Nat) (l0_1 : List (S26)) (a1 : Int) (r : Int) (w : World) (hr0_1 : Kd.C k26 w A0_1 l0_1.length l0_1) (hc0_1 : l0_1.length ≤ c0_1) (h : laws_szBase.f k a0_0 l0_1 a1 = some r) :
    Calls Try.prog 16 #[.agg #[.int .i64 a0_0, .slice A0_1 l0_1.length c0_1], .int .i64 a1] w fun e w' => e = .returned (.int .i64 r) ∧ Below w.heap.size w w' := by
  have hu41 := Try.underlying41; have HR0_1 := zq9 hr0_1; have HC0_1 := zq9 hc0_1; clear hr0_1 hc0_1
  have HB := zq9 (Below.refl w.heap.size w)
  have H : ((laws_szEntryS.f k l0_1 a1).bind fun t644 => (if t644 < 0 then (some (-1)) else (some t644))) = some r := h
  clear h; replace H := Option.bind_eq_some_iff.mp H; obtain ⟨t644, A30, H⟩ := H
  try dsimp only at H
  have A3 := zq9 A30; clear A30
  by_cases c4 : t644 < 0
  · rw [if_pos c4] at H; have c4b0 : decide (t644 < 0) = true := decide_eq_true c4; clear c4; obtain rfl := Option.some.inj H
    go_enter Try.func16, Try.ntmps16
    go_wp2_with (first | ((with_reducible refine zq25 (N := 2) rfl ?_); refine bx 2 #[.int .i64 a0_0, .slice A0_1 l0_1.length c0_1] 41 ?_; intro gb643 hg w5 hbox hb; have n0_ := zq9 (zq27 (by exact bl HB) hb); have n1_ := zq9 (hbox); have n2_ := zq9 ((by rw [hg]; exact (zq29 (by exact bl HB)) : w.heap.size ≤ gb643)); have n3_ := n2_; clear HB; have HB := n0_; have BK643 := n1_; have GW643 := n2_; have GE643 := n3_; clear n0_ n1_ n2_ n3_; clear hb hbox hg; have hcz6_0 : w5.cell? ⟨gb643, 0, none⟩ = some (.int .i64 a0_0) := bc BK643 0; have hcz6_1 : w5.cell? ⟨gb643, 1, none⟩ = some (.slice A0_1 l0_1.length c0_1) := bc BK643 1; have hfz6_0 := zq6 BK643.out 0; have hfz6_1 := zq6 BK643.out 1) | ((with_reducible refine zq24 (f := 58) rfl ?_); refine gl (some 8) Try.func58 #[.slice A0_1 l0_1.length c0_1, .int .i64 a1] ?_; (with_reducible refine (laws_szEntryS.calls k _ _ l0_1 a1 t644 _ ?side1 ?side2 A3.out).mono ?_); (case side1 => exact kc HR0_1 HB); (case side2 => exact HC0_1.out); rintro e w7 ⟨rfl, hb⟩; refine ⟨_, rfl, ?_⟩; have n0_ := zq9 (zq30 (g := gb643) (o := .cells #[.int .i64 a0_0, .slice A0_1 l0_1.length c0_1] 41 (0, 0)) (by exact bk BK643) hb); have n1_ := zq9 (zq27 (by exact b1 HB GE643) hb); clear BK643; clear HB; have BK643 := n0_; have HB := n1_; clear n0_ n1_; (try clear hb); (try clear hb2); (try clear hk); (try clear hi)))
    go_ret
    exact fz (by exact b1 HB GE643)
  · rw [if_neg c4] at H; have c4b0 : decide (t644 < 0) = false := decide_eq_false c4; clear c4; obtain rfl := Option.some.inj H
    go_enter Try.func16, Try.ntmps16
    go_wp2_with (first | ((with_reducible refine zq25 (N := 2) rfl ?_); refine bx 2 #[.int .i64 a0_0, .slice A0_1 l0_1.length c0_1] 41 ?_; intro gb643 hg w8 hbox hb; have n0_ := zq9 (zq27 (by exact bl HB) hb); have n1_ := zq9 (hbox); have n2_ := zq9 ((by rw [hg]; exact (zq29 (by exact bl HB)) : w.heap.size ≤ gb643)); have n3_ := n2_; clear HB; have HB := n0_; have BK643 := n1_; have GW643 := n2_; have GE643 := n3_; clear n0_ n1_ n2_ n3_; clear hb hbox hg; have hcz9_0 : w8.cell? ⟨gb643, 0, none⟩ = some (.int .i64 a0_0) := bc BK643 0; have hcz9_1 : w8.cell? ⟨gb643, 1, none⟩ = some (.slice A0_1 l0_1.length c0_1) := bc BK643 1; have hfz9_0 := zq6 BK643.out 0; have hfz9_1 := zq6 BK643.out 1) | ((with_reducible refine zq24 (f := 58) rfl ?_); refine gl (some 8) Try.func58 #[.slice A0_1 l0_1.length c0_1, .int .i64 a1] ?_; (with_reducible refine (laws_szEntryS.calls k _ _ l0_1 a1 t644 _ ?side1 ?side2 A3.out).mono ?_); (case side1 => exact kc HR0_1 HB); (case side2 => exact HC0_1.out); rintro e w10 ⟨rfl, hb⟩; refine ⟨_, rfl, ?_⟩; have n0_ := zq9 (zq30 (g := gb643) (o := .cells #[.int .i64 a0_0, .slice A0_1 l0_1.length c0_1] 41 (0, 0)) (by exact bk BK643) hb); have n1_ := zq9 (zq27 (by exact b1 HB GE643) hb); clear BK643; clear HB; have BK643 := n0_; have HB := n1_; clear n0_ n1_; (try clear hb); (try clear hb2); (try clear hk); (try clear hi)))
    go_ret
    exact fz (by exact b1 HB GE643)
set_option maxHeartbeats 8000000 in
set_option maxRecDepth 100000 in
theorem laws_toStringS.calls (k : Nat) (A0 : Option Addr) (c0 : Nat) (l0 : List ByteArray) (r : List ByteArray) (w : World) (hr0 : Kd.C Kd.string w A0 l0.length l0) (hc0 : l0.length ≤ c0) (h : laws_toStringS.f k l0 = some r) :
  Calls Try.prog 45 #[.slice A0 l0.length c0] w fun e w' => ∃ v0_ : Value, e = .returned (v0_) ∧ Kd.R Kd.string 9 w' w.heap.size (fun _ => True) v0_ r ∧ Below w.heap.size w w' := by
 have HR0 := zq9 hr0; have HC0 := zq9 hc0; clear hr0 hc0
 have HB := zq9 (Below.refl w.heap.size w)
 have H : (if 0 ≤ (l0.length : Int) then (if ((l0.length : Int) : Int).toNat ≤ 17592186044416 then (laws_toStringS.l0 k l0 (List.replicate ((l0.length : Int) : Int).toNat (⟨#[]⟩ : ByteArray)) 0) else (none)) else (none)) = some r := h
 clear h
 by_cases c2 : 0 ≤ (l0.length : Int)
 ·rw [if_pos c2] at H
  have c2b0 := eq_true c2
  have c2b1 : decide (0 ≤ (l0.length : Int)) = true := decide_eq_true c2; clear c2
  by_cases c3 : ((l0.length : Int) : Int).toNat ≤ 17592186044416
  ·rw [if_pos c3] at H
   have c3b0 := eq_true c3
   have c3b1 : decide (((l0.length : Int) : Int).toNat ≤ 17592186044416) = true := decide_eq_true c3; clear c3
   obtain ⟨y138, hy138⟩ : ∃ y_ : List ByteArray, y_ = (List.replicate ((l0.length : Int) : Int).toNat (⟨#[]⟩ : ByteArray)) := ⟨_, rfl⟩
   replace H : (laws_toStringS.l0 k l0 y138 0) = some r := by first | (rw [hy138]; with_reducible exact H) | (have H2_ := (Option.bind_some _ _).symm.trans H; rw [hy138]; with_reducible exact H2_) | (have H2_ := (Option.bind_some _ _).symm.trans H; with_reducible exact H2_) | with_reducible exact H | (rw [hy138]; exact H) | exact H
   have Ny138 := zq9 hy138; clear hy138; have H' := zq9 H; clear H
   go_enter Try.func45, Try.ntmps45
   go_wp2_with (first | ((with_reducible refine zq25 (N := 7) rfl ?_); refine Kd.R_make Kd.string _ 9 rfl (N := 7) rfl 22 _ _ rfl (l0.length : Int) rfl rfl Try.underlying22 (.string ⟨#[]⟩) 16 info9 rfl (by decide) (by omega) (⟨#[]⟩ : ByteArray) (ok := fun _ => True) (okp := fun _ => True) rfl (fun _ hk => hk) trivial (of_decide_eq_true ‹_›) (Nat.le_trans (Nat.mul_le_mul_right _ (of_decide_eq_true ‹_› : (l0.length : Int).toNat ≤ 17592186044416)) (by omega)) (Below.refl _ _) (Nat.le_refl _) ?_; intro v139 w4 ho5 hb hg_ hnew_; clear hg_ hnew_; (first | rw [← Ny138.out] at ho5 | (simp only [Int.reduceToNat] at ho5; rw [← Ny138.out] at ho5)); have n0_ := zq9 (Kd.R_lower ho5 (zq29 (by exact bl HB))); have n1_ := zq9 (zq27 (by exact bl HB) hb); clear HB; have HO140 := n0_; have HB := n1_; clear n0_ n1_; clear hb ho5))
   go_loopg [4] k (fun kq v4 w' => ∃ (x3_1 : List ByteArray) (x4_1 : Int), v4 = .int .i64 x4_1 ∧ Aside0 (laws_toStringS.l0 kq l0 x3_1 x4_1 = some r) ∧ Aside0 (kq ≤ k) ∧ Aside0 (Kd.R Kd.string 9 w' w.heap.size (fun _ => True) v139 x3_1) ∧ Aside0 (Below w.heap.size w w'))
   case atStart => exact ⟨(y138), (0), (by first | rfl | (simp; done) | (simp [*]; done)), H', ⟨Nat.le_refl _⟩, ⟨by (with_reducible repeat (first | apply zq10 | apply zq11 | apply zq12)); exact HO140.out⟩, ⟨by exact bl HB⟩⟩
   case round =>
    clear H'
    try clear c2
    try clear c2b0
    try clear c2b1
    try clear p2
    try clear c3
    try clear c3b0
    try clear c3b1
    try clear c4
    obtain ⟨x3_1, x4_1, rfl, HA, HK1, HO_3, HB⟩ := hrel
    cases gk with
    | zero => exact absurd HA.out (by simp [laws_toStringS.l0])
    | succ k1 =>
     have H := HA.out; clear HA
     simp only [laws_toStringS.l0] at H
     by_cases c6 : x4_1 < (l0.length : Int)
     ·rw [if_pos c6] at H; have c6b0 : decide (x4_1 < (l0.length : Int)) = true := decide_eq_true c6; clear c6
      by_cases c7 : 0 ≤ x4_1
      ·rw [if_pos c7] at H; have c7b0 : decide (0 ≤ x4_1) = true := decide_eq_true c7; clear c7
       by_cases c8 : x4_1 < (x3_1.length : Int)
       ·rw [if_pos c8] at H; have c8b0 : decide (x4_1 < (x3_1.length : Int)) = true := decide_eq_true c8; clear c8
        obtain ⟨y142, hy142⟩ : ∃ y_ : List ByteArray, y_ = (x3_1.set (x4_1 : Int).toNat (rdOf ByteArray.empty l0 x4_1)) := ⟨_, rfl⟩
        replace H : (laws_toStringS.l0 k1 l0 y142 (wrap64 (x4_1 + 1))) = some r := by first | (rw [hy142]; with_reducible exact H) | (have H2_ := (Option.bind_some _ _).symm.trans H; rw [hy142]; with_reducible exact H2_) | (have H2_ := (Option.bind_some _ _).symm.trans H; with_reducible exact H2_) | with_reducible exact H | (rw [hy142]; exact H) | exact H
        have Ny142 := zq9 hy142; clear hy142; have H' := zq9 H; clear H
        have p141 : 0 ≤ (x4_1 : Int) := of_decide_eq_true ‹_›
        have q141 : x4_1 < (l0.length : Int) := of_decide_eq_true ‹_›
        obtain ⟨ad141, e141, hx141_0⟩ := Kd.at_string HR0.out x4_1 p141 q141
        cases e141; replace hx141_0 := hcl HB hx141_0; replace p141 := eq_true p141; replace q141 := eq_true q141
        have p9 : 0 ≤ (x4_1 : Int) := of_decide_eq_true ‹_›
        have q9 : (x4_1 : Int) < ((x3_1.length : Int) : Int) := of_decide_eq_true ‹_›
        obtain ⟨go9, co9, eo9, gb9, gl9, cl9, HG9⟩ := Kd.R_form HO_3.out (by omega)
        (first | cases eo9 | (injection eo9 with ea_ en_ ec_; (first | subst ea_ | (injection ea_ with ea_; subst ea_)); subst ec_; clear en_))
        have GB9 := zq9 gb9; have GG9 := zq9 HG9; clear gb9 gl9 HG9
        obtain ⟨hx9_0, hf9_0⟩ := Kd.R_celln (⟨#[]⟩ : ByteArray) HO_3.out (x4_1 : Int) p9 q9
        replace p9 := eq_true p9; replace q9 := eq_true q9
        have HP10 := Kd.R_putg HO_3.out (x4_1 : Int) (rdOf ByteArray.empty l0 x4_1)
        go_wp2_with (first | ((with_reducible refine zq26 (t := 9) (p := 20) rfl ?_); refine store_event (t := 9) (p := 20) (v := ?vo_w11) (w1 := (wr.setCell ⟨go9, (x4_1 : Int).toNat, none⟩ (.string (rdOf ByteArray.empty l0 x4_1)))) ?hg ?ho ?hn ?hr ?_; (case ho => rfl); (case hg => rfl); (case hn => rfl); (case hr => first | (go_simp; done) | (go_simp; rfl)); intro w11 hw; have hg : wr.grownBy w11 (some go9) := (by rw [hw]; exact HP10.2); have hp_ : Kd.R Kd.string 9 w11 w.heap.size (fun _ => True) (.slice (some ⟨go9, 0, none⟩) x3_1.length co9) y142 := (by rw [hw, Ny142.out]; exact HP10.1); clear HP10; have n0_ := zq9 (hp_); have n1_ := zq9 ((by rw [hw]; exact zq28 (HB.out) GB9.out : Below w.heap.size w w11)); clear HO_3; clear HB; have HO_3 := n0_; have HB := n1_; clear n0_ n1_; clear hg hw hp_))
        go_roundg k1
        case measure => have := HK1.out; omega
        case rel => exact ⟨(y142), (wrap64 (x4_1 + 1)), (by first | rfl | (simp; done) | (simp [*]; done)), H', ⟨by have := HK1.out; omega⟩, ⟨by (with_reducible repeat (first | apply zq10 | apply zq11 | apply zq12)); exact HO_3.out⟩, ⟨by exact bl HB⟩⟩
       ·rw [if_neg c8] at H
        exact absurd H (by simp)
      ·rw [if_neg c7] at H
       exact absurd H (by simp)
     ·rw [if_neg c6] at H; have c6b0 : decide (x4_1 < (l0.length : Int)) = false := decide_eq_false c6; clear c6; obtain rfl := Option.some.inj H
      go_wp2
      go_ret
      exact ⟨_, by first | rfl | (simp [errW_none, errW_some] <;> rfl) | (simp [*, errW_none, errW_some] <;> rfl), by (with_reducible repeat (first | apply zq10 | apply zq11 | apply zq12)); exact HO_3.out, by exact bl HB⟩
  ·rw [if_neg c3] at H
   exact absurd H (by simp)
 ·rw [if_neg c2] at H
  exact absurd H (by simp)
set_option maxHeartbeats 8000000 in
set_option maxRecDepth 100000 in
theorem laws_toScore.calls (a0_0 : ByteArray) (a0_1 : Int) (r1 : ByteArray) (r2 : Int) (w : World) (h : laws_toScore.f a0_0 a0_1 = some (r1, r2)) :
    Calls Try.prog 82 #[.agg #[.string a0_0, .int .i64 a0_1]] w fun e w' => e = .returned (.agg #[.string r1, .int .i64 r2]) ∧ Below w.heap.size w w' := by
  have hu95 := Try.underlying95; have hu99 := Try.underlying99
  have HB := zq9 (Below.refl w.heap.size w)
  have H : (some (a0_0, a0_1)) = some (r1, r2) := h
  clear h
  simp only [Option.some.injEq, Prod.mk.injEq] at H
  obtain ⟨rfl, rfl⟩ := H
  go_enter Try.func82, Try.ntmps82
  go_wp2_with (first | ((with_reducible refine zq25 (N := 1) rfl ?_); refine bx 1 #[.string a0_0, .int .i64 a0_1] 95 ?_; intro gb143 hg w2 hbox hb; have n0_ := zq9 (zq27 (by exact bl HB) hb); have n1_ := zq9 (hbox); have n2_ := zq9 ((by rw [hg]; exact (zq29 (by exact bl HB)) : w.heap.size ≤ gb143)); have n3_ := n2_; clear HB; have HB := n0_; have BK143 := n1_; have GW143 := n2_; have GE143 := n3_; clear n0_ n1_ n2_ n3_; clear hb hbox hg) | ((with_reducible refine zq25 (N := 2) rfl ?_); refine bx 2 #[.string (⟨#[]⟩ : ByteArray), .int .i64 0] 99 ?_; intro gb144 hg w3 hbox hb; have n0_ := zq9 (zq30 (g := gb143) (o := .cells #[.string a0_0, .int .i64 a0_1] 95 (0, 0)) (by exact bk BK143) hb); have n1_ := zq9 (zq27 (by exact b1 HB GE143) hb); have n2_ := zq9 (hbox); have n3_ := zq9 ((by rw [hg]; exact (zq29 (by exact b1 HB GE143)) : w.heap.size ≤ gb144)); have n4_ := n3_; have n5_ := zq9 ((by rw [hg]; exact Nat.ne_of_lt (blk_lt (g := gb143) (o := .cells #[.string a0_0, .int .i64 a0_1] 95 (0, 0)) (by exact bk BK143)) : gb143 ≠ gb144)); have n6_ := zq9 ((by rw [hg]; exact Nat.ne_of_gt (blk_lt (g := gb143) (o := .cells #[.string a0_0, .int .i64 a0_1] 95 (0, 0)) (by exact bk BK143)) : gb144 ≠ gb143)); clear BK143; clear HB; have BK143 := n0_; have HB := n1_; have BK144 := n2_; have GW144 := n3_; have GE144 := n4_; have NB143_144 := n5_; have NB144_143 := n6_; clear n0_ n1_ n2_ n3_ n4_ n5_ n6_; clear hb hbox hg) | ((with_reducible refine zq25 (N := 3) rfl ?_); refine bx 3 #[.string (⟨#[]⟩ : ByteArray), .int .i64 0] 99 ?_; intro gb145 hg w4 hbox hb; have n0_ := zq9 (zq30 (g := gb143) (o := .cells #[.string a0_0, .int .i64 a0_1] 95 (0, 0)) (by exact bk BK143) hb); have n1_ := zq9 (zq30 (g := gb144) (o := .cells #[.string (⟨#[]⟩ : ByteArray), .int .i64 0] 99 (0, 0)) (by exact bk BK144) hb); have n2_ := zq9 (zq27 (by exact b2 HB GE143 GE144) hb); have n3_ := zq9 (hbox); have n4_ := zq9 ((by rw [hg]; exact (zq29 (by exact b2 HB GE143 GE144)) : w.heap.size ≤ gb145)); have n5_ := n4_; have n6_ := zq9 ((by rw [hg]; exact Nat.ne_of_lt (blk_lt (g := gb143) (o := .cells #[.string a0_0, .int .i64 a0_1] 95 (0, 0)) (by exact bk BK143)) : gb143 ≠ gb145)); have n7_ := zq9 ((by rw [hg]; exact Nat.ne_of_gt (blk_lt (g := gb143) (o := .cells #[.string a0_0, .int .i64 a0_1] 95 (0, 0)) (by exact bk BK143)) : gb145 ≠ gb143)); have n8_ := zq9 ((by rw [hg]; exact Nat.ne_of_lt (blk_lt (g := gb144) (o := .cells #[.string (⟨#[]⟩ : ByteArray), .int .i64 0] 99 (0, 0)) (by exact bk BK144)) : gb144 ≠ gb145)); have n9_ := zq9 ((by rw [hg]; exact Nat.ne_of_gt (blk_lt (g := gb144) (o := .cells #[.string (⟨#[]⟩ : ByteArray), .int .i64 0] 99 (0, 0)) (by exact bk BK144)) : gb145 ≠ gb144)); clear BK143; clear BK144; clear HB; have BK143 := n0_; have BK144 := n1_; have HB := n2_; have BK145 := n3_; have GW145 := n4_; have GE145 := n5_; have NB143_145 := n6_; have NB145_143 := n7_; have NB144_145 := n8_; have NB145_144 := n9_; clear n0_ n1_ n2_ n3_ n4_ n5_ n6_ n7_ n8_ n9_; clear hb hbox hg; have hnb5 := NB143_144.out; have hnc5 := NB144_143.out; have hnb6 := NB143_145.out; have hnc6 := NB145_143.out; have hcz7_0 : w4.cell? ⟨gb143, 0, none⟩ = some (.string a0_0) := bc BK143 0; have hcz7_1 : w4.cell? ⟨gb143, 1, none⟩ = some (.int .i64 a0_1) := bc BK143 1; have hfz7_0 := zq6 BK143.out 0; have hfz7_1 := zq6 BK143.out 1; have hnb8 := NB145_144.out; have hnc8 := NB144_145.out; have hcz9_0 : w4.cell? ⟨gb145, 0, none⟩ = some (.string (⟨#[]⟩ : ByteArray)) := bc BK145 0; have hcz9_1 : w4.cell? ⟨gb145, 1, none⟩ = some (.int .i64 0) := bc BK145 1; have hfz9_0 := zq6 BK145.out 0; have hfz9_1 := zq6 BK145.out 1; have hcz10_0 : w4.cell? ⟨gb144, 0, none⟩ = some (.string (⟨#[]⟩ : ByteArray)) := bc BK144 0; have hcz10_1 : w4.cell? ⟨gb144, 1, none⟩ = some (.int .i64 0) := bc BK144 1; have hfz10_0 := zq6 BK144.out 0; have hfz10_1 := zq6 BK144.out 1))
  refine bodyPost_ret (results_cell_row rfl _ _ gb144 99 #[.string a0_0, .int .i64 a0_1] (0, 0) _ rfl (by refine bp ?_; refine blk_put (cs := #[.string a0_0, .int .i64 0]) ?_ 1 _ rfl; refine bp ?_; refine blk_put (cs := #[.string (⟨#[]⟩ : ByteArray), .int .i64 0]) ?_ 0 _ rfl; refine bp ?_; refine blk_far ?_ NB144_145.out _; refine bp ?_; refine blk_far ?_ NB144_145.out _; refine bp ?_; exact BK144.out) Try.underlying99 rfl (by kernel_rfl)) rfl ?_
  exact fz (by exact b3 HB GE143 GE144 GE145)
set_option maxHeartbeats 8000000 in
set_option maxRecDepth 100000 in
theorem laws_toScoreS.calls (k : Nat) (A0 : Option Addr) (c0 : Nat) (l0 : List (S95)) (r : List (S99)) (w : World) (hr0 : Kd.C k95 w A0 l0.length l0) (hc0 : l0.length ≤ c0) (h : laws_toScoreS.f k l0 = some r) :
  Calls Try.prog 46 #[.slice A0 l0.length c0] w fun e w' => ∃ v0_ : Value, e = .returned (v0_) ∧ Kd.R k99 99 w' w.heap.size (fun _ => True) v0_ r ∧ Below w.heap.size w w' := by
 have hu95 := Try.underlying95; have hu99 := Try.underlying99; have HR0 := zq9 hr0; have HC0 := zq9 hc0; clear hr0 hc0
 have HB := zq9 (Below.refl w.heap.size w)
 have H : (if 0 ≤ (l0.length : Int) then (if ((l0.length : Int) : Int).toNat ≤ 11728124029610 then (laws_toScoreS.l0 k l0 (List.replicate ((l0.length : Int) : Int).toNat z99) 0) else (none)) else (none)) = some r := h
 clear h
 by_cases c2 : 0 ≤ (l0.length : Int)
 ·rw [if_pos c2] at H
  have c2b0 := eq_true c2
  have c2b1 : decide (0 ≤ (l0.length : Int)) = true := decide_eq_true c2; clear c2
  by_cases c3 : ((l0.length : Int) : Int).toNat ≤ 11728124029610
  ·rw [if_pos c3] at H
   have c3b0 := eq_true c3
   have c3b1 : decide (((l0.length : Int) : Int).toNat ≤ 11728124029610) = true := decide_eq_true c3; clear c3
   obtain ⟨y146, hy146⟩ : ∃ y_ : List (S99), y_ = (List.replicate ((l0.length : Int) : Int).toNat z99) := ⟨_, rfl⟩
   replace H : (laws_toScoreS.l0 k l0 y146 0) = some r := by first | (rw [hy146]; with_reducible exact H) | (have H2_ := (Option.bind_some _ _).symm.trans H; rw [hy146]; with_reducible exact H2_) | (have H2_ := (Option.bind_some _ _).symm.trans H; with_reducible exact H2_) | with_reducible exact H | (rw [hy146]; exact H) | exact H
   have Ny146 := zq9 hy146; clear hy146; have H' := zq9 H; clear H
   go_enter Try.func46, Try.ntmps46
   go_wp2_with (first | ((with_reducible refine zq25 (N := 7) rfl ?_); refine Kd.R_make k99 _ 99 rfl (N := 7) rfl 29 _ _ rfl (l0.length : Int) rfl rfl Try.underlying29 (.agg #[(.string ⟨#[]⟩), (.int .i64 0)]) 24 info99 rfl (by decide) (by omega) z99 (ok := fun _ => True) (okp := fun _ => True) (k99_mkM _ _ _ z99 ) (fun _ hk => hk) trivial (of_decide_eq_true ‹_›) (Nat.le_trans (Nat.mul_le_mul_right _ (of_decide_eq_true ‹_› : (l0.length : Int).toNat ≤ 11728124029610)) (by omega)) (Below.refl _ _) (Nat.le_refl _) ?_; intro v147 w4 ho5 hb hg_ hnew_; clear hg_ hnew_; (first | rw [← Ny146.out] at ho5 | (simp only [Int.reduceToNat] at ho5; rw [← Ny146.out] at ho5)); have n0_ := zq9 (Kd.R_lower ho5 (zq29 (by exact bl HB))); have n1_ := zq9 (zq27 (by exact bl HB) hb); clear HB; have HO148 := n0_; have HB := n1_; clear n0_ n1_; clear hb ho5))
   go_loopg [4] k (fun kq v4 w' => ∃ (x3_1 : List (S99)) (x4_1 : Int), v4 = .int .i64 x4_1 ∧ Aside0 (laws_toScoreS.l0 kq l0 x3_1 x4_1 = some r) ∧ Aside0 (kq ≤ k) ∧ Aside0 (Kd.R k99 99 w' w.heap.size (fun _ => True) v147 x3_1) ∧ Aside0 (Below w.heap.size w w'))
   case atStart => exact ⟨(y146), (0), (by first | rfl | (simp; done) | (simp [*]; done)), H', ⟨Nat.le_refl _⟩, ⟨by (with_reducible repeat (first | apply zq10 | apply zq11 | apply zq12)); exact HO148.out⟩, ⟨by exact bl HB⟩⟩
   case round =>
    clear H'
    try clear c2
    try clear c2b0
    try clear c2b1
    try clear p2
    try clear c3
    try clear c3b0
    try clear c3b1
    try clear c4
    obtain ⟨x3_1, x4_1, rfl, HA, HK1, HO_3, HB⟩ := hrel
    cases gk with
    | zero => exact absurd HA.out (by simp [laws_toScoreS.l0])
    | succ k1 =>
     have H := HA.out; clear HA
     simp only [laws_toScoreS.l0] at H
     by_cases c6 : x4_1 < (l0.length : Int)
     ·rw [if_pos c6] at H; have c6b0 : decide (x4_1 < (l0.length : Int)) = true := decide_eq_true c6; clear c6
      by_cases c7 : 0 ≤ x4_1
      ·rw [if_pos c7] at H; have c7b0 : decide (0 ≤ x4_1) = true := decide_eq_true c7; clear c7; replace H := Option.bind_eq_some_iff.mp H
       obtain ⟨⟨t150, t151⟩, A80, H⟩ := H
       try dsimp only at H
       have A8 := zq9 A80; clear A80
       by_cases c9 : x4_1 < (x3_1.length : Int)
       ·rw [if_pos c9] at H; have c9b0 : decide (x4_1 < (x3_1.length : Int)) = true := decide_eq_true c9; clear c9
        obtain ⟨y152, hy152⟩ : ∃ y_ : List (S99), y_ = (x3_1.set (x4_1 : Int).toNat (⟨t150, t151⟩ : S99)) := ⟨_, rfl⟩
        replace H : (laws_toScoreS.l0 k1 l0 y152 (wrap64 (x4_1 + 1))) = some r := by first | (rw [hy152]; with_reducible exact H) | (have H2_ := (Option.bind_some _ _).symm.trans H; rw [hy152]; with_reducible exact H2_) | (have H2_ := (Option.bind_some _ _).symm.trans H; with_reducible exact H2_) | with_reducible exact H | (rw [hy152]; exact H) | exact H
        have Ny152 := zq9 hy152; clear hy152; have H' := zq9 H; clear H
        have p149 : 0 ≤ (x4_1 : Int) := of_decide_eq_true ‹_›
        have q149 : x4_1 < (l0.length : Int) := of_decide_eq_true ‹_›
        obtain ⟨ad149, e149, hx149_0, hx149_1⟩ := at_T95 HR0.out x4_1 p149 q149
        cases e149; replace hx149_0 := hcl HB hx149_0; replace hx149_1 := hcl HB hx149_1; replace p149 := eq_true p149; replace q149 := eq_true q149
        go_wp2_with (first | ((with_reducible refine zq24 (f := 82) rfl ?_); refine gl (some 20) Try.func82 #[.agg #[.string ((rd_T95 l0 x4_1).f0), .int .i64 ((rd_T95 l0 x4_1).f1)]] ?_; (with_reducible refine (laws_toScore.calls ((rd_T95 l0 x4_1).f0) ((rd_T95 l0 x4_1).f1) t150 t151 _ A8.out).mono ?_); rintro e w11 ⟨rfl, hb⟩; refine ⟨_, rfl, ?_⟩; have n0_ := zq9 (Kd.R_below (by exact rz HO_3) hb); have n1_ := zq9 (zq27 (by exact bl HB) hb); clear HO_3; clear HB; have HO_3 := n0_; have HB := n1_; clear n0_ n1_; (try clear hb); (try clear hb2); (try clear hk); (try clear hi); have p10 : 0 ≤ (x4_1 : Int) := of_decide_eq_true ‹_›; have q10 : (x4_1 : Int) < ((x3_1.length : Int) : Int) := of_decide_eq_true ‹_›; obtain ⟨go10, co10, eo10, gb10, gl10, cl10, HG10⟩ := Kd.R_form HO_3.out (by omega); (first | cases eo10 | (injection eo10 with ea_ en_ ec_; (first | subst ea_ | (injection ea_ with ea_; subst ea_)); subst ec_; clear en_)); have GB10 := zq9 gb10; have GG10 := zq9 HG10; clear gb10 gl10 HG10; obtain ⟨ce10, hcl10, hM10, hcc10, hfr10⟩ := Kd.R_elem HO_3.out z99 (x4_1 : Int) p10 q10; obtain rfl := k99_openM hM10; have hx10_0 : w11.cell? ⟨go10, (x4_1 : Int).toNat * 2, none⟩ = some (.string ((rd_T99 x3_1 x4_1).f0)) := hcc10 0 _ rfl; have hx10_1 : w11.cell? ⟨go10, (x4_1 : Int).toNat * 2 + 1, none⟩ = some (.int .i64 ((rd_T99 x3_1 x4_1).f1)) := hcc10 1 _ rfl; have hf10_0 : w11.frozen? ⟨go10, (x4_1 : Int).toNat * 2, none⟩ = false := hfr10 0; have hf10_1 : w11.frozen? ⟨go10, (x4_1 : Int).toNat * 2 + 1, none⟩ = false := hfr10 1; clear hcl10 hcc10 hfr10 hM10; replace p10 := eq_true p10; replace q10 := eq_true q10; have HX12 := zq9 (show Kd.R k99 99 w11 w.heap.size (fun _ => True) (.slice (some ⟨go10, 0, none⟩) x3_1.length co10) x3_1 from (by exact rz HO_3)); obtain ⟨ce12, hcl12, hM12, hcc12, hfr12⟩ := Kd.R_elem HX12.out z99 (x4_1 : Int) (of_decide_eq_true ‹_›) (by have h_ : (x4_1 : Int) < ((x3_1.length : Int) : Int) := of_decide_eq_true ‹_›; first | exact h_ | (have e_ := (Kd.R_reads' HO_3.out).1; omega) | simpa using h_); obtain rfl := k99_openM hM12; have HP12 := Kd.R_seg HX12.out (x4_1 : Int) (of_decide_eq_true ‹_›) (by have h_ : (x4_1 : Int) < ((x3_1.length : Int) : Int) := of_decide_eq_true ‹_›; first | exact h_ | (have e_ := (Kd.R_reads' HO_3.out).1; omega) | simpa using h_) (seg := [.string t150, .int .i64 t151]) (j := 0) hcl12 hcc12 (show 2 ≤ 2 from by decide) (x' := (⟨t150, t151⟩ : S99)) (k99_mkM _ _ _ (⟨t150, t151⟩ : S99) ) (fun _ hk => hk); have hx12_0 := hcc12 0 _ rfl; (try simp only [show (k99).sz = 2 from rfl, Nat.mul_one, Nat.add_zero] at hx12_0); have hf12_0 := hfr12 0; (try simp only [show (k99).sz = 2 from rfl, Nat.mul_one, Nat.add_zero] at hf12_0); have hx12_1 := hcc12 1 _ rfl; (try simp only [show (k99).sz = 2 from rfl, Nat.mul_one, Nat.add_zero] at hx12_1); have hf12_1 := hfr12 1; (try simp only [show (k99).sz = 2 from rfl, Nat.mul_one, Nat.add_zero] at hf12_1); clear hcl12 hcc12 hfr12 hM12) | ((with_reducible refine zq26 (t := 99) (p := 21) rfl ?_); refine store_event (t := 99) (p := 21) (v := ?vo_w13) (w1 := ((w11.setCell ⟨go10, (x4_1 : Int).toNat * 2, none⟩ (.string t150)).setCell ⟨go10, (x4_1 : Int).toNat * 2 + 1, none⟩ (.int .i64 t151))) ?hg ?ho ?hn ?hr ?_; (case ho => rfl); (case hg => rfl); (case hn => rfl); (case hr => first | (go_simp; done) | (go_simp; rfl)); intro w13 hw; have hg : w11.grownBy w13 (some go10) := (by rw [hw]; exact HP12.2); have hp_ : Kd.R k99 99 w13 w.heap.size (fun _ => True) (.slice (some ⟨go10, 0, none⟩) x3_1.length co10) y152 := (by rw [hw, Ny152.out]; exact HP12.1); clear HP12; have n0_ := zq9 (hp_); have n1_ := zq9 ((by rw [hw]; exact zq28 (zq28 (HB.out) GB10.out) GB10.out : Below w.heap.size w w13)); clear HO_3; clear HB; have HO_3 := n0_; have HB := n1_; clear n0_ n1_; clear hg hw hp_))
        go_roundg k1
        case measure => have := HK1.out; omega
        case rel => exact ⟨(y152), (wrap64 (x4_1 + 1)), (by first | rfl | (simp; done) | (simp [*]; done)), H', ⟨by have := HK1.out; omega⟩, ⟨by (with_reducible repeat (first | apply zq10 | apply zq11 | apply zq12)); exact HO_3.out⟩, ⟨by exact bl HB⟩⟩
       ·rw [if_neg c9] at H
        exact absurd H (by simp)
      ·rw [if_neg c7] at H
       exact absurd H (by simp)
     ·rw [if_neg c6] at H; have c6b0 : decide (x4_1 < (l0.length : Int)) = false := decide_eq_false c6; clear c6; obtain rfl := Option.some.inj H
      go_wp2
      go_ret
      exact ⟨_, by first | rfl | (simp [errW_none, errW_some] <;> rfl) | (simp [*, errW_none, errW_some] <;> rfl), by (with_reducible repeat (first | apply zq10 | apply zq11 | apply zq12)); exact HO_3.out, by exact bl HB⟩
  ·rw [if_neg c3] at H
   exact absurd H (by simp)
 ·rw [if_neg c2] at H
  exact absurd H (by simp)
set_option maxHeartbeats 8000000 in
set_option maxRecDepth 100000 in
theorem laws_toPair.calls (a0_0 : ByteArray) (a0_1 : ByteArray) (r1 : ByteArray) (r2 : ByteArray) (w : World) (h : laws_toPair.f a0_0 a0_1 = some (r1, r2)) :
    Calls Try.prog 83 #[.agg #[.string a0_0, .string a0_1]] w fun e w' => e = .returned (.agg #[.string r1, .string r2]) ∧ Below w.heap.size w w' := by
  have hu98 := Try.underlying98; have hu101 := Try.underlying101
  have HB := zq9 (Below.refl w.heap.size w)
  have H : (some (a0_0, a0_1)) = some (r1, r2) := h
  clear h
  simp only [Option.some.injEq, Prod.mk.injEq] at H
  obtain ⟨rfl, rfl⟩ := H
  go_enter Try.func83, Try.ntmps83
  go_wp2_with (first | ((with_reducible refine zq25 (N := 1) rfl ?_); refine bx 1 #[.string a0_0, .string a0_1] 98 ?_; intro gb153 hg w2 hbox hb; have n0_ := zq9 (zq27 (by exact bl HB) hb); have n1_ := zq9 (hbox); have n2_ := zq9 ((by rw [hg]; exact (zq29 (by exact bl HB)) : w.heap.size ≤ gb153)); have n3_ := n2_; clear HB; have HB := n0_; have BK153 := n1_; have GW153 := n2_; have GE153 := n3_; clear n0_ n1_ n2_ n3_; clear hb hbox hg) | ((with_reducible refine zq25 (N := 2) rfl ?_); refine bx 2 #[.string (⟨#[]⟩ : ByteArray), .string (⟨#[]⟩ : ByteArray)] 101 ?_; intro gb154 hg w3 hbox hb; have n0_ := zq9 (zq30 (g := gb153) (o := .cells #[.string a0_0, .string a0_1] 98 (0, 0)) (by exact bk BK153) hb); have n1_ := zq9 (zq27 (by exact b1 HB GE153) hb); have n2_ := zq9 (hbox); have n3_ := zq9 ((by rw [hg]; exact (zq29 (by exact b1 HB GE153)) : w.heap.size ≤ gb154)); have n4_ := n3_; have n5_ := zq9 ((by rw [hg]; exact Nat.ne_of_lt (blk_lt (g := gb153) (o := .cells #[.string a0_0, .string a0_1] 98 (0, 0)) (by exact bk BK153)) : gb153 ≠ gb154)); have n6_ := zq9 ((by rw [hg]; exact Nat.ne_of_gt (blk_lt (g := gb153) (o := .cells #[.string a0_0, .string a0_1] 98 (0, 0)) (by exact bk BK153)) : gb154 ≠ gb153)); clear BK153; clear HB; have BK153 := n0_; have HB := n1_; have BK154 := n2_; have GW154 := n3_; have GE154 := n4_; have NB153_154 := n5_; have NB154_153 := n6_; clear n0_ n1_ n2_ n3_ n4_ n5_ n6_; clear hb hbox hg) | ((with_reducible refine zq25 (N := 3) rfl ?_); refine bx 3 #[.string (⟨#[]⟩ : ByteArray), .string (⟨#[]⟩ : ByteArray)] 101 ?_; intro gb155 hg w4 hbox hb; have n0_ := zq9 (zq30 (g := gb153) (o := .cells #[.string a0_0, .string a0_1] 98 (0, 0)) (by exact bk BK153) hb); have n1_ := zq9 (zq30 (g := gb154) (o := .cells #[.string (⟨#[]⟩ : ByteArray), .string (⟨#[]⟩ : ByteArray)] 101 (0, 0)) (by exact bk BK154) hb); have n2_ := zq9 (zq27 (by exact b2 HB GE153 GE154) hb); have n3_ := zq9 (hbox); have n4_ := zq9 ((by rw [hg]; exact (zq29 (by exact b2 HB GE153 GE154)) : w.heap.size ≤ gb155)); have n5_ := n4_; have n6_ := zq9 ((by rw [hg]; exact Nat.ne_of_lt (blk_lt (g := gb153) (o := .cells #[.string a0_0, .string a0_1] 98 (0, 0)) (by exact bk BK153)) : gb153 ≠ gb155)); have n7_ := zq9 ((by rw [hg]; exact Nat.ne_of_gt (blk_lt (g := gb153) (o := .cells #[.string a0_0, .string a0_1] 98 (0, 0)) (by exact bk BK153)) : gb155 ≠ gb153)); have n8_ := zq9 ((by rw [hg]; exact Nat.ne_of_lt (blk_lt (g := gb154) (o := .cells #[.string (⟨#[]⟩ : ByteArray), .string (⟨#[]⟩ : ByteArray)] 101 (0, 0)) (by exact bk BK154)) : gb154 ≠ gb155)); have n9_ := zq9 ((by rw [hg]; exact Nat.ne_of_gt (blk_lt (g := gb154) (o := .cells #[.string (⟨#[]⟩ : ByteArray), .string (⟨#[]⟩ : ByteArray)] 101 (0, 0)) (by exact bk BK154)) : gb155 ≠ gb154)); clear BK153; clear BK154; clear HB; have BK153 := n0_; have BK154 := n1_; have HB := n2_; have BK155 := n3_; have GW155 := n4_; have GE155 := n5_; have NB153_155 := n6_; have NB155_153 := n7_; have NB154_155 := n8_; have NB155_154 := n9_; clear n0_ n1_ n2_ n3_ n4_ n5_ n6_ n7_ n8_ n9_; clear hb hbox hg; have hnb5 := NB153_154.out; have hnc5 := NB154_153.out; have hnb6 := NB153_155.out; have hnc6 := NB155_153.out; have hcz7_0 : w4.cell? ⟨gb153, 0, none⟩ = some (.string a0_0) := bc BK153 0; have hcz7_1 : w4.cell? ⟨gb153, 1, none⟩ = some (.string a0_1) := bc BK153 1; have hfz7_0 := zq6 BK153.out 0; have hfz7_1 := zq6 BK153.out 1; have hnb8 := NB155_154.out; have hnc8 := NB154_155.out; have hcz9_0 : w4.cell? ⟨gb155, 0, none⟩ = some (.string (⟨#[]⟩ : ByteArray)) := bc BK155 0; have hcz9_1 : w4.cell? ⟨gb155, 1, none⟩ = some (.string (⟨#[]⟩ : ByteArray)) := bc BK155 1; have hfz9_0 := zq6 BK155.out 0; have hfz9_1 := zq6 BK155.out 1; have hcz10_0 : w4.cell? ⟨gb154, 0, none⟩ = some (.string (⟨#[]⟩ : ByteArray)) := bc BK154 0; have hcz10_1 : w4.cell? ⟨gb154, 1, none⟩ = some (.string (⟨#[]⟩ : ByteArray)) := bc BK154 1; have hfz10_0 := zq6 BK154.out 0; have hfz10_1 := zq6 BK154.out 1))
  refine bodyPost_ret (results_cell_row rfl _ _ gb154 101 #[.string a0_0, .string a0_1] (0, 0) _ rfl (by refine bp ?_; refine blk_put (cs := #[.string a0_0, .string (⟨#[]⟩ : ByteArray)]) ?_ 1 _ rfl; refine bp ?_; refine blk_put (cs := #[.string (⟨#[]⟩ : ByteArray), .string (⟨#[]⟩ : ByteArray)]) ?_ 0 _ rfl; refine bp ?_; refine blk_far ?_ NB154_155.out _; refine bp ?_; refine blk_far ?_ NB154_155.out _; refine bp ?_; exact BK154.out) Try.underlying101 rfl (by kernel_rfl)) rfl ?_
  exact fz (by exact b3 HB GE153 GE154 GE155)
set_option maxHeartbeats 8000000 in
set_option maxRecDepth 100000 in
theorem laws_toPairS.calls (k : Nat) (A0 : Option Addr) (c0 : Nat) (l0 : List (S98)) (r : List (S101)) (w : World) (hr0 : Kd.C k98 w A0 l0.length l0) (hc0 : l0.length ≤ c0) (h : laws_toPairS.f k l0 = some r) :
  Calls Try.prog 47 #[.slice A0 l0.length c0] w fun e w' => ∃ v0_ : Value, e = .returned (v0_) ∧ Kd.R k101 101 w' w.heap.size (fun _ => True) v0_ r ∧ Below w.heap.size w w' := by
 have hu98 := Try.underlying98; have hu101 := Try.underlying101; have HR0 := zq9 hr0; have HC0 := zq9 hc0; clear hr0 hc0
 have HB := zq9 (Below.refl w.heap.size w)
 have H : (if 0 ≤ (l0.length : Int) then (if ((l0.length : Int) : Int).toNat ≤ 8796093022208 then (laws_toPairS.l0 k l0 (List.replicate ((l0.length : Int) : Int).toNat z101) 0) else (none)) else (none)) = some r := h
 clear h
 by_cases c2 : 0 ≤ (l0.length : Int)
 ·rw [if_pos c2] at H
  have c2b0 := eq_true c2
  have c2b1 : decide (0 ≤ (l0.length : Int)) = true := decide_eq_true c2; clear c2
  by_cases c3 : ((l0.length : Int) : Int).toNat ≤ 8796093022208
  ·rw [if_pos c3] at H
   have c3b0 := eq_true c3
   have c3b1 : decide (((l0.length : Int) : Int).toNat ≤ 8796093022208) = true := decide_eq_true c3; clear c3
   obtain ⟨y156, hy156⟩ : ∃ y_ : List (S101), y_ = (List.replicate ((l0.length : Int) : Int).toNat z101) := ⟨_, rfl⟩
   replace H : (laws_toPairS.l0 k l0 y156 0) = some r := by first | (rw [hy156]; with_reducible exact H) | (have H2_ := (Option.bind_some _ _).symm.trans H; rw [hy156]; with_reducible exact H2_) | (have H2_ := (Option.bind_some _ _).symm.trans H; with_reducible exact H2_) | with_reducible exact H | (rw [hy156]; exact H) | exact H
   have Ny156 := zq9 hy156; clear hy156; have H' := zq9 H; clear H
   go_enter Try.func47, Try.ntmps47
   go_wp2_with (first | ((with_reducible refine zq25 (N := 7) rfl ?_); refine Kd.R_make k101 _ 101 rfl (N := 7) rfl 30 _ _ rfl (l0.length : Int) rfl rfl Try.underlying30 (.agg #[(.string ⟨#[]⟩), (.string ⟨#[]⟩)]) 32 info101 rfl (by decide) (by omega) z101 (ok := fun _ => True) (okp := fun _ => True) (k101_mkM _ _ _ z101 ) (fun _ hk => hk) trivial (of_decide_eq_true ‹_›) (Nat.le_trans (Nat.mul_le_mul_right _ (of_decide_eq_true ‹_› : (l0.length : Int).toNat ≤ 8796093022208)) (by omega)) (Below.refl _ _) (Nat.le_refl _) ?_; intro v157 w4 ho5 hb hg_ hnew_; clear hg_ hnew_; (first | rw [← Ny156.out] at ho5 | (simp only [Int.reduceToNat] at ho5; rw [← Ny156.out] at ho5)); have n0_ := zq9 (Kd.R_lower ho5 (zq29 (by exact bl HB))); have n1_ := zq9 (zq27 (by exact bl HB) hb); clear HB; have HO158 := n0_; have HB := n1_; clear n0_ n1_; clear hb ho5))
   go_loopg [4] k (fun kq v4 w' => ∃ (x3_1 : List (S101)) (x4_1 : Int), v4 = .int .i64 x4_1 ∧ Aside0 (laws_toPairS.l0 kq l0 x3_1 x4_1 = some r) ∧ Aside0 (kq ≤ k) ∧ Aside0 (Kd.R k101 101 w' w.heap.size (fun _ => True) v157 x3_1) ∧ Aside0 (Below w.heap.size w w'))
   case atStart => exact ⟨(y156), (0), (by first | rfl | (simp; done) | (simp [*]; done)), H', ⟨Nat.le_refl _⟩, ⟨by (with_reducible repeat (first | apply zq10 | apply zq11 | apply zq12)); exact HO158.out⟩, ⟨by exact bl HB⟩⟩
   case round =>
    clear H'
    try clear c2
    try clear c2b0
    try clear c2b1
    try clear p2
    try clear c3
    try clear c3b0
    try clear c3b1
    try clear c4
    obtain ⟨x3_1, x4_1, rfl, HA, HK1, HO_3, HB⟩ := hrel
    cases gk with
    | zero => exact absurd HA.out (by simp [laws_toPairS.l0])
    | succ k1 =>
     have H := HA.out; clear HA
     simp only [laws_toPairS.l0] at H
     by_cases c6 : x4_1 < (l0.length : Int)
     ·rw [if_pos c6] at H; have c6b0 : decide (x4_1 < (l0.length : Int)) = true := decide_eq_true c6; clear c6
      by_cases c7 : 0 ≤ x4_1
      ·rw [if_pos c7] at H; have c7b0 : decide (0 ≤ x4_1) = true := decide_eq_true c7; clear c7; replace H := Option.bind_eq_some_iff.mp H
       obtain ⟨⟨t160, t161⟩, A80, H⟩ := H
       try dsimp only at H
       have A8 := zq9 A80; clear A80
       by_cases c9 : x4_1 < (x3_1.length : Int)
       ·rw [if_pos c9] at H; have c9b0 : decide (x4_1 < (x3_1.length : Int)) = true := decide_eq_true c9; clear c9
        obtain ⟨y162, hy162⟩ : ∃ y_ : List (S101), y_ = (x3_1.set (x4_1 : Int).toNat (⟨t160, t161⟩ : S101)) := ⟨_, rfl⟩
        replace H : (laws_toPairS.l0 k1 l0 y162 (wrap64 (x4_1 + 1))) = some r := by first | (rw [hy162]; with_reducible exact H) | (have H2_ := (Option.bind_some _ _).symm.trans H; rw [hy162]; with_reducible exact H2_) | (have H2_ := (Option.bind_some _ _).symm.trans H; with_reducible exact H2_) | with_reducible exact H | (rw [hy162]; exact H) | exact H
        have Ny162 := zq9 hy162; clear hy162; have H' := zq9 H; clear H
        have p159 : 0 ≤ (x4_1 : Int) := of_decide_eq_true ‹_›
        have q159 : x4_1 < (l0.length : Int) := of_decide_eq_true ‹_›
        obtain ⟨ad159, e159, hx159_0, hx159_1⟩ := at_T98 HR0.out x4_1 p159 q159
        cases e159; replace hx159_0 := hcl HB hx159_0; replace hx159_1 := hcl HB hx159_1; replace p159 := eq_true p159; replace q159 := eq_true q159
        go_wp2_with (first | ((with_reducible refine zq24 (f := 83) rfl ?_); refine gl (some 20) Try.func83 #[.agg #[.string ((rd_T98 l0 x4_1).f0), .string ((rd_T98 l0 x4_1).f1)]] ?_; (with_reducible refine (laws_toPair.calls ((rd_T98 l0 x4_1).f0) ((rd_T98 l0 x4_1).f1) t160 t161 _ A8.out).mono ?_); rintro e w11 ⟨rfl, hb⟩; refine ⟨_, rfl, ?_⟩; have n0_ := zq9 (Kd.R_below (by exact rz HO_3) hb); have n1_ := zq9 (zq27 (by exact bl HB) hb); clear HO_3; clear HB; have HO_3 := n0_; have HB := n1_; clear n0_ n1_; (try clear hb); (try clear hb2); (try clear hk); (try clear hi); have p10 : 0 ≤ (x4_1 : Int) := of_decide_eq_true ‹_›; have q10 : (x4_1 : Int) < ((x3_1.length : Int) : Int) := of_decide_eq_true ‹_›; obtain ⟨go10, co10, eo10, gb10, gl10, cl10, HG10⟩ := Kd.R_form HO_3.out (by omega); (first | cases eo10 | (injection eo10 with ea_ en_ ec_; (first | subst ea_ | (injection ea_ with ea_; subst ea_)); subst ec_; clear en_)); have GB10 := zq9 gb10; have GG10 := zq9 HG10; clear gb10 gl10 HG10; obtain ⟨ce10, hcl10, hM10, hcc10, hfr10⟩ := Kd.R_elem HO_3.out z101 (x4_1 : Int) p10 q10; obtain rfl := k101_openM hM10; have hx10_0 : w11.cell? ⟨go10, (x4_1 : Int).toNat * 2, none⟩ = some (.string ((rd_T101 x3_1 x4_1).f0)) := hcc10 0 _ rfl; have hx10_1 : w11.cell? ⟨go10, (x4_1 : Int).toNat * 2 + 1, none⟩ = some (.string ((rd_T101 x3_1 x4_1).f1)) := hcc10 1 _ rfl; have hf10_0 : w11.frozen? ⟨go10, (x4_1 : Int).toNat * 2, none⟩ = false := hfr10 0; have hf10_1 : w11.frozen? ⟨go10, (x4_1 : Int).toNat * 2 + 1, none⟩ = false := hfr10 1; clear hcl10 hcc10 hfr10 hM10; replace p10 := eq_true p10; replace q10 := eq_true q10; have HX12 := zq9 (show Kd.R k101 101 w11 w.heap.size (fun _ => True) (.slice (some ⟨go10, 0, none⟩) x3_1.length co10) x3_1 from (by exact rz HO_3)); obtain ⟨ce12, hcl12, hM12, hcc12, hfr12⟩ := Kd.R_elem HX12.out z101 (x4_1 : Int) (of_decide_eq_true ‹_›) (by have h_ : (x4_1 : Int) < ((x3_1.length : Int) : Int) := of_decide_eq_true ‹_›; first | exact h_ | (have e_ := (Kd.R_reads' HO_3.out).1; omega) | simpa using h_); obtain rfl := k101_openM hM12; have HP12 := Kd.R_seg HX12.out (x4_1 : Int) (of_decide_eq_true ‹_›) (by have h_ : (x4_1 : Int) < ((x3_1.length : Int) : Int) := of_decide_eq_true ‹_›; first | exact h_ | (have e_ := (Kd.R_reads' HO_3.out).1; omega) | simpa using h_) (seg := [.string t160, .string t161]) (j := 0) hcl12 hcc12 (show 2 ≤ 2 from by decide) (x' := (⟨t160, t161⟩ : S101)) (k101_mkM _ _ _ (⟨t160, t161⟩ : S101) ) (fun _ hk => hk); have hx12_0 := hcc12 0 _ rfl; (try simp only [show (k101).sz = 2 from rfl, Nat.mul_one, Nat.add_zero] at hx12_0); have hf12_0 := hfr12 0; (try simp only [show (k101).sz = 2 from rfl, Nat.mul_one, Nat.add_zero] at hf12_0); have hx12_1 := hcc12 1 _ rfl; (try simp only [show (k101).sz = 2 from rfl, Nat.mul_one, Nat.add_zero] at hx12_1); have hf12_1 := hfr12 1; (try simp only [show (k101).sz = 2 from rfl, Nat.mul_one, Nat.add_zero] at hf12_1); clear hcl12 hcc12 hfr12 hM12) | ((with_reducible refine zq26 (t := 101) (p := 21) rfl ?_); refine store_event (t := 101) (p := 21) (v := ?vo_w13) (w1 := ((w11.setCell ⟨go10, (x4_1 : Int).toNat * 2, none⟩ (.string t160)).setCell ⟨go10, (x4_1 : Int).toNat * 2 + 1, none⟩ (.string t161))) ?hg ?ho ?hn ?hr ?_; (case ho => rfl); (case hg => rfl); (case hn => rfl); (case hr => first | (go_simp; done) | (go_simp; rfl)); intro w13 hw; have hg : w11.grownBy w13 (some go10) := (by rw [hw]; exact HP12.2); have hp_ : Kd.R k101 101 w13 w.heap.size (fun _ => True) (.slice (some ⟨go10, 0, none⟩) x3_1.length co10) y162 := (by rw [hw, Ny162.out]; exact HP12.1); clear HP12; have n0_ := zq9 (hp_); have n1_ := zq9 ((by rw [hw]; exact zq28 (zq28 (HB.out) GB10.out) GB10.out : Below w.heap.size w w13)); clear HO_3; clear HB; have HO_3 := n0_; have HB := n1_; clear n0_ n1_; clear hg hw hp_))
        go_roundg k1
        case measure => have := HK1.out; omega
        case rel => exact ⟨(y162), (wrap64 (x4_1 + 1)), (by first | rfl | (simp; done) | (simp [*]; done)), H', ⟨by have := HK1.out; omega⟩, ⟨by (with_reducible repeat (first | apply zq10 | apply zq11 | apply zq12)); exact HO_3.out⟩, ⟨by exact bl HB⟩⟩
       ·rw [if_neg c9] at H
        exact absurd H (by simp)
      ·rw [if_neg c7] at H
       exact absurd H (by simp)
     ·rw [if_neg c6] at H; have c6b0 : decide (x4_1 < (l0.length : Int)) = false := decide_eq_false c6; clear c6; obtain rfl := Option.some.inj H
      go_wp2
      go_ret
      exact ⟨_, by first | rfl | (simp [errW_none, errW_some] <;> rfl) | (simp [*, errW_none, errW_some] <;> rfl), by (with_reducible repeat (first | apply zq10 | apply zq11 | apply zq12)); exact HO_3.out, by exact bl HB⟩
  ·rw [if_neg c3] at H
   exact absurd H (by simp)
 ·rw [if_neg c2] at H
  exact absurd H (by simp)
set_option maxHeartbeats 8000000 in
set_option maxRecDepth 100000 in
theorem laws_toEntry.calls (k : Nat) (a0_0 : ByteArray) (a0_1 : Int) (a0_2 : Int) (a0_3 : ByteArray) (A0_4 : Option Addr) (c0_4 : Nat) (l0_4 : List ByteArray) (A0_5 : Option Addr) (c0_5 : Nat) (l0_5 : List (S95)) (A0_6 : Option Addr) (c0_6 : Nat) (l0_6 : List (S98)) (r1 : ByteArray) (r2 : Int) (r3 : Int) (r4 : ByteArray) (r5 : List ByteArray) (r6 : List (S99)) (r7 : List (S101)) (w : World) (hr0_4 : Kd.C Kd.string w A0_4 l0_4.length l0_4) (hc0_4 : l0_4.length ≤ c0_4) (hr0_5 : Kd.C k95 w A0_5 l0_5.length l0_5) (hc0_5 : l0_5.length ≤ c0_5) (hr0_6 : Kd.C k98 w A0_6 l0_6.length l0_6) (hc0_6 : l0_6.length ≤ c0_6) (h : laws_toEntry.f k a0_0 a0_1 a0_2 a0_3 l0_4 l0_5 l0_6 = some (r1, r2, r3, r4, r5, r6, r7)) :
    Calls Try.prog 12 #[.agg #[.string a0_0, .int .i64 a0_1, .int .i64 a0_2, .string a0_3, .slice A0_4 l0_4.length c0_4, .slice A0_5 l0_5.length c0_5, .slice A0_6 l0_6.length c0_6]] w fun e w' => ∃ v4_ v5_ v6_ : Value, e = .returned (.agg #[.string r1, .int .i64 r2, .int .i64 r3, .string r4, v4_, v5_, v6_]) ∧ Kd.R Kd.string 9 w' w.heap.size (fun _ => True) v4_ r5 ∧ Kd.R k99 99 w' w.heap.size (fun _ => True) v5_ r6 ∧ Kd.R k101 101 w' w.heap.size (fun _ => True) v6_ r7 ∧ Below w.heap.size w w' := by
  have hu26 := Try.underlying26; have hu32 := Try.underlying32; have HR0_4 := zq9 hr0_4; have HC0_4 := zq9 hc0_4; clear hr0_4 hc0_4; have HR0_5 := zq9 hr0_5; have HC0_5 := zq9 hc0_5; clear hr0_5 hc0_5; have HR0_6 := zq9 hr0_6; have HC0_6 := zq9 hc0_6; clear hr0_6 hc0_6
  have HB := zq9 (Below.refl w.heap.size w)
  have H : ((laws_toStringS.f k l0_4).bind fun t166 => ((laws_toScoreS.f k l0_5).bind fun t169 => ((laws_toPairS.f k l0_6).bind fun t172 => (some (a0_0, a0_1, a0_2, a0_3, t166, t169, t172))))) = some (r1, r2, r3, r4, r5, r6, r7) := h
  clear h; replace H := Option.bind_eq_some_iff.mp H; obtain ⟨t166, A20, H⟩ := H
  try dsimp only at H
  have A2 := zq9 A20; clear A20; replace H := Option.bind_eq_some_iff.mp H; obtain ⟨t169, A30, H⟩ := H
  try dsimp only at H
  have A3 := zq9 A30; clear A30; replace H := Option.bind_eq_some_iff.mp H; obtain ⟨t172, A40, H⟩ := H
  try dsimp only at H
  have A4 := zq9 A40; clear A40
  simp only [Option.some.injEq, Prod.mk.injEq] at H
  obtain ⟨rfl, rfl, rfl, rfl, rfl, rfl, rfl⟩ := H
  go_enter Try.func12, Try.ntmps12
  go_wp2_with (first | ((with_reducible refine zq25 (N := 1) rfl ?_); refine bx 1 #[.string a0_0, .int .i64 a0_1, .int .i64 a0_2, .string a0_3, .slice A0_4 l0_4.length c0_4, .slice A0_5 l0_5.length c0_5, .slice A0_6 l0_6.length c0_6] 26 ?_; intro gb163 hg w5 hbox hb; have n0_ := zq9 (zq27 (by exact bl HB) hb); have n1_ := zq9 (hbox); have n2_ := zq9 ((by rw [hg]; exact (zq29 (by exact bl HB)) : w.heap.size ≤ gb163)); have n3_ := n2_; clear HB; have HB := n0_; have BK163 := n1_; have GW163 := n2_; have GE163 := n3_; clear n0_ n1_ n2_ n3_; clear hb hbox hg) | ((with_reducible refine zq25 (N := 2) rfl ?_); refine bx 2 #[.string (⟨#[]⟩ : ByteArray), .int .i64 0, .int .i64 0, .string (⟨#[]⟩ : ByteArray), .slice none 0 0, .slice none 0 0, .slice none 0 0] 32 ?_; intro gb164 hg w6 hbox hb; have n0_ := zq9 (zq30 (g := gb163) (o := .cells #[.string a0_0, .int .i64 a0_1, .int .i64 a0_2, .string a0_3, .slice A0_4 l0_4.length c0_4, .slice A0_5 l0_5.length c0_5, .slice A0_6 l0_6.length c0_6] 26 (0, 0)) (by exact bk BK163) hb); have n1_ := zq9 (zq27 (by exact b1 HB GE163) hb); have n2_ := zq9 (hbox); have n3_ := zq9 ((by rw [hg]; exact (zq29 (by exact b1 HB GE163)) : w.heap.size ≤ gb164)); have n4_ := n3_; have n5_ := zq9 ((by rw [hg]; exact Nat.ne_of_lt (blk_lt (g := gb163) (o := .cells #[.string a0_0, .int .i64 a0_1, .int .i64 a0_2, .string a0_3, .slice A0_4 l0_4.length c0_4, .slice A0_5 l0_5.length c0_5, .slice A0_6 l0_6.length c0_6] 26 (0, 0)) (by exact bk BK163)) : gb163 ≠ gb164)); have n6_ := zq9 ((by rw [hg]; exact Nat.ne_of_gt (blk_lt (g := gb163) (o := .cells #[.string a0_0, .int .i64 a0_1, .int .i64 a0_2, .string a0_3, .slice A0_4 l0_4.length c0_4, .slice A0_5 l0_5.length c0_5, .slice A0_6 l0_6.length c0_6] 26 (0, 0)) (by exact bk BK163)) : gb164 ≠ gb163)); clear BK163; clear HB; have BK163 := n0_; have HB := n1_; have BK164 := n2_; have GW164 := n3_; have GE164 := n4_; have NB163_164 := n5_; have NB164_163 := n6_; clear n0_ n1_ n2_ n3_ n4_ n5_ n6_; clear hb hbox hg) | ((with_reducible refine zq25 (N := 3) rfl ?_); refine bx 3 #[.string (⟨#[]⟩ : ByteArray), .int .i64 0, .int .i64 0, .string (⟨#[]⟩ : ByteArray), .slice none 0 0, .slice none 0 0, .slice none 0 0] 32 ?_; intro gb165 hg w7 hbox hb; have n0_ := zq9 (zq30 (g := gb163) (o := .cells #[.string a0_0, .int .i64 a0_1, .int .i64 a0_2, .string a0_3, .slice A0_4 l0_4.length c0_4, .slice A0_5 l0_5.length c0_5, .slice A0_6 l0_6.length c0_6] 26 (0, 0)) (by exact bk BK163) hb); have n1_ := zq9 (zq30 (g := gb164) (o := .cells #[.string (⟨#[]⟩ : ByteArray), .int .i64 0, .int .i64 0, .string (⟨#[]⟩ : ByteArray), .slice none 0 0, .slice none 0 0, .slice none 0 0] 32 (0, 0)) (by exact bk BK164) hb); have n2_ := zq9 (zq27 (by exact b2 HB GE163 GE164) hb); have n3_ := zq9 (hbox); have n4_ := zq9 ((by rw [hg]; exact (zq29 (by exact b2 HB GE163 GE164)) : w.heap.size ≤ gb165)); have n5_ := n4_; have n6_ := zq9 ((by rw [hg]; exact Nat.ne_of_lt (blk_lt (g := gb163) (o := .cells #[.string a0_0, .int .i64 a0_1, .int .i64 a0_2, .string a0_3, .slice A0_4 l0_4.length c0_4, .slice A0_5 l0_5.length c0_5, .slice A0_6 l0_6.length c0_6] 26 (0, 0)) (by exact bk BK163)) : gb163 ≠ gb165)); have n7_ := zq9 ((by rw [hg]; exact Nat.ne_of_gt (blk_lt (g := gb163) (o := .cells #[.string a0_0, .int .i64 a0_1, .int .i64 a0_2, .string a0_3, .slice A0_4 l0_4.length c0_4, .slice A0_5 l0_5.length c0_5, .slice A0_6 l0_6.length c0_6] 26 (0, 0)) (by exact bk BK163)) : gb165 ≠ gb163)); have n8_ := zq9 ((by rw [hg]; exact Nat.ne_of_lt (blk_lt (g := gb164) (o := .cells #[.string (⟨#[]⟩ : ByteArray), .int .i64 0, .int .i64 0, .string (⟨#[]⟩ : ByteArray), .slice none 0 0, .slice none 0 0, .slice none 0 0] 32 (0, 0)) (by exact bk BK164)) : gb164 ≠ gb165)); have n9_ := zq9 ((by rw [hg]; exact Nat.ne_of_gt (blk_lt (g := gb164) (o := .cells #[.string (⟨#[]⟩ : ByteArray), .int .i64 0, .int .i64 0, .string (⟨#[]⟩ : ByteArray), .slice none 0 0, .slice none 0 0, .slice none 0 0] 32 (0, 0)) (by exact bk BK164)) : gb165 ≠ gb164)); clear BK163; clear BK164; clear HB; have BK163 := n0_; have BK164 := n1_; have HB := n2_; have BK165 := n3_; have GW165 := n4_; have GE165 := n5_; have NB163_165 := n6_; have NB165_163 := n7_; have NB164_165 := n8_; have NB165_164 := n9_; clear n0_ n1_ n2_ n3_ n4_ n5_ n6_ n7_ n8_ n9_; clear hb hbox hg; have hnb8 := NB163_164.out; have hnc8 := NB164_163.out; have hnb9 := NB163_165.out; have hnc9 := NB165_163.out; have hcz10_0 : w7.cell? ⟨gb163, 0, none⟩ = some (.string a0_0) := bc BK163 0; have hcz10_1 : w7.cell? ⟨gb163, 1, none⟩ = some (.int .i64 a0_1) := bc BK163 1; have hcz10_2 : w7.cell? ⟨gb163, 2, none⟩ = some (.int .i64 a0_2) := bc BK163 2; have hcz10_3 : w7.cell? ⟨gb163, 3, none⟩ = some (.string a0_3) := bc BK163 3; have hcz10_4 : w7.cell? ⟨gb163, 4, none⟩ = some (.slice A0_4 l0_4.length c0_4) := bc BK163 4; have hcz10_5 : w7.cell? ⟨gb163, 5, none⟩ = some (.slice A0_5 l0_5.length c0_5) := bc BK163 5; have hcz10_6 : w7.cell? ⟨gb163, 6, none⟩ = some (.slice A0_6 l0_6.length c0_6) := bc BK163 6; have hfz10_0 := zq6 BK163.out 0; have hfz10_1 := zq6 BK163.out 1; have hfz10_2 := zq6 BK163.out 2; have hfz10_3 := zq6 BK163.out 3; have hfz10_4 := zq6 BK163.out 4; have hfz10_5 := zq6 BK163.out 5; have hfz10_6 := zq6 BK163.out 6; have hnb11 := NB165_164.out; have hnc11 := NB164_165.out; have hcz12_0 : w7.cell? ⟨gb165, 0, none⟩ = some (.string (⟨#[]⟩ : ByteArray)) := bc BK165 0; have hcz12_1 : w7.cell? ⟨gb165, 1, none⟩ = some (.int .i64 0) := bc BK165 1; have hcz12_2 : w7.cell? ⟨gb165, 2, none⟩ = some (.int .i64 0) := bc BK165 2; have hcz12_3 : w7.cell? ⟨gb165, 3, none⟩ = some (.string (⟨#[]⟩ : ByteArray)) := bc BK165 3; have hcz12_4 : w7.cell? ⟨gb165, 4, none⟩ = some (.slice none 0 0) := bc BK165 4; have hcz12_5 : w7.cell? ⟨gb165, 5, none⟩ = some (.slice none 0 0) := bc BK165 5; have hcz12_6 : w7.cell? ⟨gb165, 6, none⟩ = some (.slice none 0 0) := bc BK165 6; have hfz12_0 := zq6 BK165.out 0; have hfz12_1 := zq6 BK165.out 1; have hfz12_2 := zq6 BK165.out 2; have hfz12_3 := zq6 BK165.out 3; have hfz12_4 := zq6 BK165.out 4; have hfz12_5 := zq6 BK165.out 5; have hfz12_6 := zq6 BK165.out 6) | ((with_reducible refine zq24 (f := 45) rfl ?_); refine gl (some 18) Try.func45 #[.slice A0_4 l0_4.length c0_4] ?_; (with_reducible refine (laws_toStringS.calls k _ _ l0_4 t166 _ ?side1 ?side2 A2.out).mono ?_); (case side1 => exact zq31 HR0_4.out (by exact b3 HB GE163 GE164 GE165)); (case side2 => exact HC0_4.out); rintro e w13 ⟨v167, rfl, ho0, hb⟩; refine ⟨_, rfl, ?_⟩; have n0_ := zq9 (Kd.R_lower ho0 (zq29 (by exact b3 HB GE163 GE164 GE165))); have n1_ := zq9 (zq30 (g := gb163) (o := .cells #[.string a0_0, .int .i64 a0_1, .int .i64 a0_2, .string a0_3, .slice A0_4 l0_4.length c0_4, .slice A0_5 l0_5.length c0_5, .slice A0_6 l0_6.length c0_6] 26 (0, 0)) (by refine bp ?_; refine blk_far ?_ NB163_165.out _; refine bp ?_; refine blk_far ?_ NB163_165.out _; refine bp ?_; refine blk_far ?_ NB163_165.out _; refine bp ?_; refine blk_far ?_ NB163_165.out _; refine bp ?_; exact BK163.out) hb); have n2_ := zq9 (zq30 (g := gb164) (o := .cells #[.string (⟨#[]⟩ : ByteArray), .int .i64 0, .int .i64 0, .string (⟨#[]⟩ : ByteArray), .slice none 0 0, .slice none 0 0, .slice none 0 0] 32 (0, 0)) (by refine bp ?_; refine blk_far ?_ NB164_165.out _; refine bp ?_; refine blk_far ?_ NB164_165.out _; refine bp ?_; refine blk_far ?_ NB164_165.out _; refine bp ?_; refine blk_far ?_ NB164_165.out _; refine bp ?_; exact BK164.out) hb); have n3_ := zq9 (zq30 (g := gb165) (o := .cells #[.string a0_0, .int .i64 a0_1, .int .i64 a0_2, .string a0_3, .slice none 0 0, .slice none 0 0, .slice none 0 0] 32 (0, 0)) (by refine bp ?_; refine blk_put (cs := #[.string a0_0, .int .i64 a0_1, .int .i64 a0_2, .string (⟨#[]⟩ : ByteArray), .slice none 0 0, .slice none 0 0, .slice none 0 0]) ?_ 3 _ rfl; refine bp ?_; refine blk_put (cs := #[.string a0_0, .int .i64 a0_1, .int .i64 0, .string (⟨#[]⟩ : ByteArray), .slice none 0 0, .slice none 0 0, .slice none 0 0]) ?_ 2 _ rfl; refine bp ?_; refine blk_put (cs := #[.string a0_0, .int .i64 0, .int .i64 0, .string (⟨#[]⟩ : ByteArray), .slice none 0 0, .slice none 0 0, .slice none 0 0]) ?_ 1 _ rfl; refine bp ?_; refine blk_put (cs := #[.string (⟨#[]⟩ : ByteArray), .int .i64 0, .int .i64 0, .string (⟨#[]⟩ : ByteArray), .slice none 0 0, .slice none 0 0, .slice none 0 0]) ?_ 0 _ rfl; refine bp ?_; exact BK165.out) hb); have n4_ := zq9 (zq27 (by exact b3 HB GE163 GE164 GE165) hb); clear BK163; clear BK164; clear BK165; clear HB; have HO168 := n0_; have BK163 := n1_; have BK164 := n2_; have BK165 := n3_; have HB := n4_; clear n0_ n1_ n2_ n3_ n4_; (try clear hb); (try clear hb2); (try clear hk); (try clear hi); (try clear ho0); obtain ⟨Ao14, co14, eo14⟩ := Kd.R_slice HO168.out; subst eo14; have hcz15_0 : w13.cell? ⟨gb165, 0, none⟩ = some (.string a0_0) := bc BK165 0; have hcz15_1 : w13.cell? ⟨gb165, 1, none⟩ = some (.int .i64 a0_1) := bc BK165 1; have hcz15_2 : w13.cell? ⟨gb165, 2, none⟩ = some (.int .i64 a0_2) := bc BK165 2; have hcz15_3 : w13.cell? ⟨gb165, 3, none⟩ = some (.string a0_3) := bc BK165 3; have hcz15_4 : w13.cell? ⟨gb165, 4, none⟩ = some (.slice none 0 0) := bc BK165 4; have hcz15_5 : w13.cell? ⟨gb165, 5, none⟩ = some (.slice none 0 0) := bc BK165 5; have hcz15_6 : w13.cell? ⟨gb165, 6, none⟩ = some (.slice none 0 0) := bc BK165 6; have hfz15_0 := zq6 BK165.out 0; have hfz15_1 := zq6 BK165.out 1; have hfz15_2 := zq6 BK165.out 2; have hfz15_3 := zq6 BK165.out 3; have hfz15_4 := zq6 BK165.out 4; have hfz15_5 := zq6 BK165.out 5; have hfz15_6 := zq6 BK165.out 6; have hcz16_0 : w13.cell? ⟨gb163, 0, none⟩ = some (.string a0_0) := bc BK163 0; have hcz16_1 : w13.cell? ⟨gb163, 1, none⟩ = some (.int .i64 a0_1) := bc BK163 1; have hcz16_2 : w13.cell? ⟨gb163, 2, none⟩ = some (.int .i64 a0_2) := bc BK163 2; have hcz16_3 : w13.cell? ⟨gb163, 3, none⟩ = some (.string a0_3) := bc BK163 3; have hcz16_4 : w13.cell? ⟨gb163, 4, none⟩ = some (.slice A0_4 l0_4.length c0_4) := bc BK163 4; have hcz16_5 : w13.cell? ⟨gb163, 5, none⟩ = some (.slice A0_5 l0_5.length c0_5) := bc BK163 5; have hcz16_6 : w13.cell? ⟨gb163, 6, none⟩ = some (.slice A0_6 l0_6.length c0_6) := bc BK163 6; have hfz16_0 := zq6 BK163.out 0; have hfz16_1 := zq6 BK163.out 1; have hfz16_2 := zq6 BK163.out 2; have hfz16_3 := zq6 BK163.out 3; have hfz16_4 := zq6 BK163.out 4; have hfz16_5 := zq6 BK163.out 5; have hfz16_6 := zq6 BK163.out 6) | ((with_reducible refine zq24 (f := 46) rfl ?_); refine gl (some 22) Try.func46 #[.slice A0_5 l0_5.length c0_5] ?_; (with_reducible refine (laws_toScoreS.calls k _ _ l0_5 t169 _ ?side1 ?side2 A3.out).mono ?_); (case side1 => exact zq31 HR0_5.out (by exact b3 HB GE163 GE164 GE165)); (case side2 => exact HC0_5.out); rintro e w17 ⟨v170, rfl, ho0, hb⟩; refine ⟨_, rfl, ?_⟩; have n0_ := zq9 (Kd.R_below (by (with_reducible repeat (first | apply zq10 | apply zq11 | apply zq12)); exact (Kd.R_mono (Kd.R_far (p := ⟨gb165, 4, none⟩) (Kd.R_types HO168.out BK165.out (by decide)) (fun _ hk => hk.2) (.slice Ao14 t166.length co14)) (fun _ h_ => h_.1))) hb); have n1_ := zq9 (Kd.R_lower ho0 (zq29 (by exact b3 HB GE163 GE164 GE165))); have n2_ := zq9 (zq30 (g := gb163) (o := .cells #[.string a0_0, .int .i64 a0_1, .int .i64 a0_2, .string a0_3, .slice A0_4 l0_4.length c0_4, .slice A0_5 l0_5.length c0_5, .slice A0_6 l0_6.length c0_6] 26 (0, 0)) (by refine bp ?_; refine blk_far ?_ NB163_165.out _; refine bp ?_; exact BK163.out) hb); have n3_ := zq9 (zq30 (g := gb164) (o := .cells #[.string (⟨#[]⟩ : ByteArray), .int .i64 0, .int .i64 0, .string (⟨#[]⟩ : ByteArray), .slice none 0 0, .slice none 0 0, .slice none 0 0] 32 (0, 0)) (by refine bp ?_; refine blk_far ?_ NB164_165.out _; refine bp ?_; exact BK164.out) hb); have n4_ := zq9 (zq30 (g := gb165) (o := .cells #[.string a0_0, .int .i64 a0_1, .int .i64 a0_2, .string a0_3, .slice Ao14 t166.length co14, .slice none 0 0, .slice none 0 0] 32 (0, 0)) (by refine bp ?_; refine blk_put (cs := #[.string a0_0, .int .i64 a0_1, .int .i64 a0_2, .string a0_3, .slice none 0 0, .slice none 0 0, .slice none 0 0]) ?_ 4 _ rfl; refine bp ?_; exact BK165.out) hb); have n5_ := zq9 (zq27 (by exact b3 HB GE163 GE164 GE165) hb); clear HO168; clear BK163; clear BK164; clear BK165; clear HB; have HO168 := n0_; have HO171 := n1_; have BK163 := n2_; have BK164 := n3_; have BK165 := n4_; have HB := n5_; clear n0_ n1_ n2_ n3_ n4_ n5_; (try clear hb); (try clear hb2); (try clear hk); (try clear hi); (try clear ho0); obtain ⟨Ao18, co18, eo18⟩ := Kd.R_slice HO171.out; subst eo18; have hcz19_0 : w17.cell? ⟨gb165, 0, none⟩ = some (.string a0_0) := bc BK165 0; have hcz19_1 : w17.cell? ⟨gb165, 1, none⟩ = some (.int .i64 a0_1) := bc BK165 1; have hcz19_2 : w17.cell? ⟨gb165, 2, none⟩ = some (.int .i64 a0_2) := bc BK165 2; have hcz19_3 : w17.cell? ⟨gb165, 3, none⟩ = some (.string a0_3) := bc BK165 3; have hcz19_4 : w17.cell? ⟨gb165, 4, none⟩ = some (.slice Ao14 t166.length co14) := bc BK165 4; have hcz19_5 : w17.cell? ⟨gb165, 5, none⟩ = some (.slice none 0 0) := bc BK165 5; have hcz19_6 : w17.cell? ⟨gb165, 6, none⟩ = some (.slice none 0 0) := bc BK165 6; have hfz19_0 := zq6 BK165.out 0; have hfz19_1 := zq6 BK165.out 1; have hfz19_2 := zq6 BK165.out 2; have hfz19_3 := zq6 BK165.out 3; have hfz19_4 := zq6 BK165.out 4; have hfz19_5 := zq6 BK165.out 5; have hfz19_6 := zq6 BK165.out 6; have hcz20_0 : w17.cell? ⟨gb163, 0, none⟩ = some (.string a0_0) := bc BK163 0; have hcz20_1 : w17.cell? ⟨gb163, 1, none⟩ = some (.int .i64 a0_1) := bc BK163 1; have hcz20_2 : w17.cell? ⟨gb163, 2, none⟩ = some (.int .i64 a0_2) := bc BK163 2; have hcz20_3 : w17.cell? ⟨gb163, 3, none⟩ = some (.string a0_3) := bc BK163 3; have hcz20_4 : w17.cell? ⟨gb163, 4, none⟩ = some (.slice A0_4 l0_4.length c0_4) := bc BK163 4; have hcz20_5 : w17.cell? ⟨gb163, 5, none⟩ = some (.slice A0_5 l0_5.length c0_5) := bc BK163 5; have hcz20_6 : w17.cell? ⟨gb163, 6, none⟩ = some (.slice A0_6 l0_6.length c0_6) := bc BK163 6; have hfz20_0 := zq6 BK163.out 0; have hfz20_1 := zq6 BK163.out 1; have hfz20_2 := zq6 BK163.out 2; have hfz20_3 := zq6 BK163.out 3; have hfz20_4 := zq6 BK163.out 4; have hfz20_5 := zq6 BK163.out 5; have hfz20_6 := zq6 BK163.out 6) | ((with_reducible refine zq24 (f := 47) rfl ?_); refine gl (some 26) Try.func47 #[.slice A0_6 l0_6.length c0_6] ?_; (with_reducible refine (laws_toPairS.calls k _ _ l0_6 t172 _ ?side1 ?side2 A4.out).mono ?_); (case side1 => exact zq31 HR0_6.out (by exact b3 HB GE163 GE164 GE165)); (case side2 => exact HC0_6.out); rintro e w21 ⟨v173, rfl, ho0, hb⟩; refine ⟨_, rfl, ?_⟩; have n0_ := zq9 (Kd.R_below (by (with_reducible repeat (first | apply zq10 | apply zq11 | apply zq12)); exact (Kd.R_mono (Kd.R_far (p := ⟨gb165, 5, none⟩) (Kd.R_types HO168.out BK165.out (by decide)) (fun _ hk => hk.2) (.slice Ao18 t169.length co18)) (fun _ h_ => h_.1))) hb); have n1_ := zq9 (Kd.R_below (by (with_reducible repeat (first | apply zq10 | apply zq11 | apply zq12)); exact (Kd.R_mono (Kd.R_far (p := ⟨gb165, 5, none⟩) (Kd.R_types HO171.out BK165.out (by decide)) (fun _ hk => hk.2) (.slice Ao18 t169.length co18)) (fun _ h_ => h_.1))) hb); have n2_ := zq9 (Kd.R_lower ho0 (zq29 (by exact b3 HB GE163 GE164 GE165))); have n3_ := zq9 (zq30 (g := gb163) (o := .cells #[.string a0_0, .int .i64 a0_1, .int .i64 a0_2, .string a0_3, .slice A0_4 l0_4.length c0_4, .slice A0_5 l0_5.length c0_5, .slice A0_6 l0_6.length c0_6] 26 (0, 0)) (by refine bp ?_; refine blk_far ?_ NB163_165.out _; refine bp ?_; exact BK163.out) hb); have n4_ := zq9 (zq30 (g := gb164) (o := .cells #[.string (⟨#[]⟩ : ByteArray), .int .i64 0, .int .i64 0, .string (⟨#[]⟩ : ByteArray), .slice none 0 0, .slice none 0 0, .slice none 0 0] 32 (0, 0)) (by refine bp ?_; refine blk_far ?_ NB164_165.out _; refine bp ?_; exact BK164.out) hb); have n5_ := zq9 (zq30 (g := gb165) (o := .cells #[.string a0_0, .int .i64 a0_1, .int .i64 a0_2, .string a0_3, .slice Ao14 t166.length co14, .slice Ao18 t169.length co18, .slice none 0 0] 32 (0, 0)) (by refine bp ?_; refine blk_put (cs := #[.string a0_0, .int .i64 a0_1, .int .i64 a0_2, .string a0_3, .slice Ao14 t166.length co14, .slice none 0 0, .slice none 0 0]) ?_ 5 _ rfl; refine bp ?_; exact BK165.out) hb); have n6_ := zq9 (zq27 (by exact b3 HB GE163 GE164 GE165) hb); clear HO168; clear HO171; clear BK163; clear BK164; clear BK165; clear HB; have HO168 := n0_; have HO171 := n1_; have HO174 := n2_; have BK163 := n3_; have BK164 := n4_; have BK165 := n5_; have HB := n6_; clear n0_ n1_ n2_ n3_ n4_ n5_ n6_; (try clear hb); (try clear hb2); (try clear hk); (try clear hi); (try clear ho0); obtain ⟨Ao22, co22, eo22⟩ := Kd.R_slice HO174.out; subst eo22; have hcz23_0 : w21.cell? ⟨gb165, 0, none⟩ = some (.string a0_0) := bc BK165 0; have hcz23_1 : w21.cell? ⟨gb165, 1, none⟩ = some (.int .i64 a0_1) := bc BK165 1; have hcz23_2 : w21.cell? ⟨gb165, 2, none⟩ = some (.int .i64 a0_2) := bc BK165 2; have hcz23_3 : w21.cell? ⟨gb165, 3, none⟩ = some (.string a0_3) := bc BK165 3; have hcz23_4 : w21.cell? ⟨gb165, 4, none⟩ = some (.slice Ao14 t166.length co14) := bc BK165 4; have hcz23_5 : w21.cell? ⟨gb165, 5, none⟩ = some (.slice Ao18 t169.length co18) := bc BK165 5; have hcz23_6 : w21.cell? ⟨gb165, 6, none⟩ = some (.slice none 0 0) := bc BK165 6; have hfz23_0 := zq6 BK165.out 0; have hfz23_1 := zq6 BK165.out 1; have hfz23_2 := zq6 BK165.out 2; have hfz23_3 := zq6 BK165.out 3; have hfz23_4 := zq6 BK165.out 4; have hfz23_5 := zq6 BK165.out 5; have hfz23_6 := zq6 BK165.out 6; have hcz24_0 : w21.cell? ⟨gb164, 0, none⟩ = some (.string (⟨#[]⟩ : ByteArray)) := bc BK164 0; have hcz24_1 : w21.cell? ⟨gb164, 1, none⟩ = some (.int .i64 0) := bc BK164 1; have hcz24_2 : w21.cell? ⟨gb164, 2, none⟩ = some (.int .i64 0) := bc BK164 2; have hcz24_3 : w21.cell? ⟨gb164, 3, none⟩ = some (.string (⟨#[]⟩ : ByteArray)) := bc BK164 3; have hcz24_4 : w21.cell? ⟨gb164, 4, none⟩ = some (.slice none 0 0) := bc BK164 4; have hcz24_5 : w21.cell? ⟨gb164, 5, none⟩ = some (.slice none 0 0) := bc BK164 5; have hcz24_6 : w21.cell? ⟨gb164, 6, none⟩ = some (.slice none 0 0) := bc BK164 6; have hfz24_0 := zq6 BK164.out 0; have hfz24_1 := zq6 BK164.out 1; have hfz24_2 := zq6 BK164.out 2; have hfz24_3 := zq6 BK164.out 3; have hfz24_4 := zq6 BK164.out 4; have hfz24_5 := zq6 BK164.out 5; have hfz24_6 := zq6 BK164.out 6))
  refine bodyPost_ret (results_cell_row rfl _ _ gb164 32 #[.string a0_0, .int .i64 a0_1, .int .i64 a0_2, .string a0_3, .slice Ao14 t166.length co14, .slice Ao18 t169.length co18, .slice Ao22 t172.length co22] (0, 0) _ rfl (by refine bp ?_; refine blk_put (cs := #[.string a0_0, .int .i64 a0_1, .int .i64 a0_2, .string a0_3, .slice Ao14 t166.length co14, .slice Ao18 t169.length co18, .slice none 0 0]) ?_ 6 _ rfl; refine bp ?_; refine blk_put (cs := #[.string a0_0, .int .i64 a0_1, .int .i64 a0_2, .string a0_3, .slice Ao14 t166.length co14, .slice none 0 0, .slice none 0 0]) ?_ 5 _ rfl; refine bp ?_; refine blk_put (cs := #[.string a0_0, .int .i64 a0_1, .int .i64 a0_2, .string a0_3, .slice none 0 0, .slice none 0 0, .slice none 0 0]) ?_ 4 _ rfl; refine bp ?_; refine blk_put (cs := #[.string a0_0, .int .i64 a0_1, .int .i64 a0_2, .string (⟨#[]⟩ : ByteArray), .slice none 0 0, .slice none 0 0, .slice none 0 0]) ?_ 3 _ rfl; refine bp ?_; refine blk_put (cs := #[.string a0_0, .int .i64 a0_1, .int .i64 0, .string (⟨#[]⟩ : ByteArray), .slice none 0 0, .slice none 0 0, .slice none 0 0]) ?_ 2 _ rfl; refine bp ?_; refine blk_put (cs := #[.string a0_0, .int .i64 0, .int .i64 0, .string (⟨#[]⟩ : ByteArray), .slice none 0 0, .slice none 0 0, .slice none 0 0]) ?_ 1 _ rfl; refine bp ?_; refine blk_put (cs := #[.string (⟨#[]⟩ : ByteArray), .int .i64 0, .int .i64 0, .string (⟨#[]⟩ : ByteArray), .slice none 0 0, .slice none 0 0, .slice none 0 0]) ?_ 0 _ rfl; refine bp ?_; refine blk_far ?_ NB164_165.out _; refine bp ?_; exact BK164.out) Try.underlying32 rfl (by kernel_rfl)) rfl ?_
  exact ⟨_, _, _, by first | rfl | (simp [errW_none, errW_some] <;> rfl) | (simp [*, errW_none, errW_some] <;> rfl), by (with_reducible repeat (first | apply zq10 | apply zq11 | apply zq12)); exact Kd.R_mono (Kd.R_far (p := ⟨gb164, 6, none⟩) (Kd.R_far (p := ⟨gb164, 5, none⟩) (Kd.R_far (p := ⟨gb164, 4, none⟩) (Kd.R_far (p := ⟨gb164, 3, none⟩) (Kd.R_far (p := ⟨gb164, 2, none⟩) (Kd.R_far (p := ⟨gb164, 1, none⟩) (Kd.R_far (p := ⟨gb164, 0, none⟩) (Kd.R_far (p := ⟨gb165, 6, none⟩) (Kd.R_types (Kd.R_types HO168.out BK165.out (by decide)) BK164.out (by decide)) (fun _ hk => hk.1.2) (.slice Ao22 t172.length co22)) (fun _ hk => hk.2) (.string a0_0)) (fun _ hk => hk.2) (.int .i64 a0_1)) (fun _ hk => hk.2) (.int .i64 a0_2)) (fun _ hk => hk.2) (.string a0_3)) (fun _ hk => hk.2) (.slice Ao14 t166.length co14)) (fun _ hk => hk.2) (.slice Ao18 t169.length co18)) (fun _ hk => hk.2) (.slice Ao22 t172.length co22)) (fun _ hk => trivial), by (with_reducible repeat (first | apply zq10 | apply zq11 | apply zq12)); exact Kd.R_mono (Kd.R_far (p := ⟨gb164, 6, none⟩) (Kd.R_far (p := ⟨gb164, 5, none⟩) (Kd.R_far (p := ⟨gb164, 4, none⟩) (Kd.R_far (p := ⟨gb164, 3, none⟩) (Kd.R_far (p := ⟨gb164, 2, none⟩) (Kd.R_far (p := ⟨gb164, 1, none⟩) (Kd.R_far (p := ⟨gb164, 0, none⟩) (Kd.R_far (p := ⟨gb165, 6, none⟩) (Kd.R_types (Kd.R_types HO171.out BK165.out (by decide)) BK164.out (by decide)) (fun _ hk => hk.1.2) (.slice Ao22 t172.length co22)) (fun _ hk => hk.2) (.string a0_0)) (fun _ hk => hk.2) (.int .i64 a0_1)) (fun _ hk => hk.2) (.int .i64 a0_2)) (fun _ hk => hk.2) (.string a0_3)) (fun _ hk => hk.2) (.slice Ao14 t166.length co14)) (fun _ hk => hk.2) (.slice Ao18 t169.length co18)) (fun _ hk => hk.2) (.slice Ao22 t172.length co22)) (fun _ hk => trivial), by (with_reducible repeat (first | apply zq10 | apply zq11 | apply zq12)); exact Kd.R_mono (Kd.R_far (p := ⟨gb164, 6, none⟩) (Kd.R_far (p := ⟨gb164, 5, none⟩) (Kd.R_far (p := ⟨gb164, 4, none⟩) (Kd.R_far (p := ⟨gb164, 3, none⟩) (Kd.R_far (p := ⟨gb164, 2, none⟩) (Kd.R_far (p := ⟨gb164, 1, none⟩) (Kd.R_far (p := ⟨gb164, 0, none⟩) (Kd.R_far (p := ⟨gb165, 6, none⟩) (Kd.R_types (Kd.R_types HO174.out BK165.out (by decide)) BK164.out (by decide)) (fun _ hk => hk.1.2) (.slice Ao22 t172.length co22)) (fun _ hk => hk.2) (.string a0_0)) (fun _ hk => hk.2) (.int .i64 a0_1)) (fun _ hk => hk.2) (.int .i64 a0_2)) (fun _ hk => hk.2) (.string a0_3)) (fun _ hk => hk.2) (.slice Ao14 t166.length co14)) (fun _ hk => hk.2) (.slice Ao18 t169.length co18)) (fun _ hk => hk.2) (.slice Ao22 t172.length co22)) (fun _ hk => trivial), by exact b3 HB GE163 GE164 GE165⟩
set_option maxHeartbeats 8000000 in
set_option maxRecDepth 100000 in
theorem laws_toEntryS.calls (k : Nat) (A0 : Option Addr) (c0 : Nat) (l0 : List (S26)) (r : List (S32)) (w : World) (hr0 : Kd.C k26 w A0 l0.length l0) (hc0 : l0.length ≤ c0) (h : laws_toEntryS.f k l0 = some r) :
  Calls Try.prog 59 #[.slice A0 l0.length c0] w fun e w' => ∃ v0_ : Value, e = .returned (v0_) ∧ Kd.S k32 32 w' w.heap.size (fun _ => True) v0_ r ∧ Below w.heap.size w w' := by
 have hu26 := Try.underlying26; have hu32 := Try.underlying32; have HR0 := zq9 hr0; have HC0 := zq9 hc0; clear hr0 hc0
 have HB := zq9 (Below.refl w.heap.size w)
 have H : (if 0 ≤ (l0.length : Int) then (if ((l0.length : Int) : Int).toNat ≤ 2345624805922 then (laws_toEntryS.l0 k l0 (List.replicate ((l0.length : Int) : Int).toNat z32) 0) else (none)) else (none)) = some r := h
 clear h
 by_cases c2 : 0 ≤ (l0.length : Int)
 ·rw [if_pos c2] at H
  have c2b0 := eq_true c2
  have c2b1 : decide (0 ≤ (l0.length : Int)) = true := decide_eq_true c2; clear c2
  by_cases c3 : ((l0.length : Int) : Int).toNat ≤ 2345624805922
  ·rw [if_pos c3] at H
   have c3b0 := eq_true c3
   have c3b1 : decide (((l0.length : Int) : Int).toNat ≤ 2345624805922) = true := decide_eq_true c3; clear c3
   obtain ⟨y652, hy652⟩ : ∃ y_ : List (S32), y_ = (List.replicate ((l0.length : Int) : Int).toNat z32) := ⟨_, rfl⟩
   replace H : (laws_toEntryS.l0 k l0 y652 0) = some r := by first | (rw [hy652]; with_reducible exact H) | (have H2_ := (Option.bind_some _ _).symm.trans H; rw [hy652]; with_reducible exact H2_) | (have H2_ := (Option.bind_some _ _).symm.trans H; with_reducible exact H2_) | with_reducible exact H | (rw [hy652]; exact H) | exact H
   have Ny652 := zq9 hy652; clear hy652; have H' := zq9 H; clear H
   go_enter Try.func59, Try.ntmps59
   go_wp2_with (first | ((with_reducible refine zq25 (N := 7) rfl ?_); refine Kd.S_make k32 _ 32 rfl (N := 7) rfl 44 _ _ rfl (l0.length : Int) rfl rfl Try.underlying44 (.agg #[(.string ⟨#[]⟩), (.int .i64 0), (.int .i64 0), (.string ⟨#[]⟩), (.slice none 0 0), (.slice none 0 0), (.slice none 0 0)]) 120 info32 rfl (by decide) (by omega) z32 (ok := fun _ => True) (okp := fun _ => True) (k32_mkM _ _ _ z32 (Kd.R_nil _ _ _ _ _) (Kd.R_nil _ _ _ _ _) (Kd.R_nil _ _ _ _ _)) (fun _ hk => hk) trivial (of_decide_eq_true ‹_›) (Nat.le_trans (Nat.mul_le_mul_right _ (of_decide_eq_true ‹_› : (l0.length : Int).toNat ≤ 2345624805922)) (by omega)) (Below.refl _ _) (Nat.le_refl _) ?_; intro v653 w4 ho5 hb hg_ hnew_; clear hg_ hnew_; (first | rw [← Ny652.out] at ho5 | (simp only [Int.reduceToNat] at ho5; rw [← Ny652.out] at ho5)); have n0_ := zq9 (Kd.S_lower ho5 (zq29 (by exact bl HB))); have n1_ := zq9 (zq27 (by exact bl HB) hb); clear HB; have HO654 := n0_; have HB := n1_; clear n0_ n1_; clear hb ho5))
   go_loopg [4] k (fun kq v4 w' => ∃ (x3_1 : List (S32)) (x4_1 : Int), v4 = .int .i64 x4_1 ∧ Aside0 (laws_toEntryS.l0 kq l0 x3_1 x4_1 = some r) ∧ Aside0 (kq ≤ k) ∧ Aside0 (Kd.S k32 32 w' w.heap.size (fun _ => True) v653 x3_1) ∧ Aside0 (Below w.heap.size w w'))
   case atStart => exact ⟨(y652), (0), (by first | rfl | (simp; done) | (simp [*]; done)), H', ⟨Nat.le_refl _⟩, ⟨by (with_reducible repeat (first | apply Kd.S_alloc | apply Kd.S_drewN | apply Kd.S_drew)); exact HO654.out⟩, ⟨by exact bl HB⟩⟩
   case round =>
    clear H'
    try clear c2
    try clear c2b0
    try clear c2b1
    try clear p2
    try clear c3
    try clear c3b0
    try clear c3b1
    try clear c5
    obtain ⟨x3_1, x4_1, rfl, HA, HK1, HO_3, HB⟩ := hrel
    cases gk with
    | zero => exact absurd HA.out (by simp [laws_toEntryS.l0])
    | succ k1 =>
     have H := HA.out; clear HA
     simp only [laws_toEntryS.l0] at H
     by_cases c6 : x4_1 < (l0.length : Int)
     ·rw [if_pos c6] at H; have c6b0 : decide (x4_1 < (l0.length : Int)) = true := decide_eq_true c6; clear c6
      by_cases c7 : 0 ≤ x4_1
      ·rw [if_pos c7] at H; have c7b0 : decide (0 ≤ x4_1) = true := decide_eq_true c7; clear c7; replace H := Option.bind_eq_some_iff.mp H
       obtain ⟨⟨t656, t657, t658, t659, t660, t663, t666⟩, A80, H⟩ := H
       try dsimp only at H
       have A8 := zq9 A80; clear A80
       by_cases c9 : x4_1 < (x3_1.length : Int)
       ·rw [if_pos c9] at H; have c9b0 : decide (x4_1 < (x3_1.length : Int)) = true := decide_eq_true c9; clear c9
        obtain ⟨y669, hy669⟩ : ∃ y_ : List (S32), y_ = (x3_1.set (x4_1 : Int).toNat (⟨t656, t657, t658, t659, t660, t663, t666⟩ : S32)) := ⟨_, rfl⟩
        replace H : (laws_toEntryS.l0 k1 l0 y669 (wrap64 (x4_1 + 1))) = some r := by first | (rw [hy669]; with_reducible exact H) | (have H2_ := (Option.bind_some _ _).symm.trans H; rw [hy669]; with_reducible exact H2_) | (have H2_ := (Option.bind_some _ _).symm.trans H; with_reducible exact H2_) | with_reducible exact H | (rw [hy669]; exact H) | exact H
        have Ny669 := zq9 hy669; clear hy669; have H' := zq9 H; clear H
        have p655 : 0 ≤ (x4_1 : Int) := of_decide_eq_true ‹_›
        have q655 : x4_1 < (l0.length : Int) := of_decide_eq_true ‹_›
        obtain ⟨ad655, A655_4, c655_4, A655_5, c655_5, A655_6, c655_6, e655, hx655_0, hx655_1, hx655_2, hx655_3, hx655_4, hx655_5, hx655_6, hl655_4, hi655_4, hl655_5, hi655_5, hl655_6, hi655_6⟩ := at_T26 HR0.out x4_1 p655 q655
        cases e655; replace hx655_0 := hcl HB hx655_0; replace hx655_1 := hcl HB hx655_1; replace hx655_2 := hcl HB hx655_2; replace hx655_3 := hcl HB hx655_3; replace hx655_4 := hcl HB hx655_4; replace hx655_5 := hcl HB hx655_5; replace hx655_6 := hcl HB hx655_6; have HR655_4 := zq9 hi655_4; have HC655_4 := zq9 hl655_4; clear hi655_4 hl655_4; have HR655_5 := zq9 hi655_5; have HC655_5 := zq9 hl655_5
        clear hi655_5 hl655_5; have HR655_6 := zq9 hi655_6; have HC655_6 := zq9 hl655_6; clear hi655_6 hl655_6; replace p655 := eq_true p655; replace q655 := eq_true q655
        go_wp2_with (first | ((with_reducible refine zq24 (f := 12) rfl ?_); refine gl (some 20) Try.func12 #[.agg #[.string ((rd_T26 l0 x4_1).f0), .int .i64 ((rd_T26 l0 x4_1).f1), .int .i64 ((rd_T26 l0 x4_1).f2), .string ((rd_T26 l0 x4_1).f3), .slice A655_4 ((rd_T26 l0 x4_1).f4).length c655_4, .slice A655_5 ((rd_T26 l0 x4_1).f5).length c655_5, .slice A655_6 ((rd_T26 l0 x4_1).f6).length c655_6]] ?_; (with_reducible refine (laws_toEntry.calls k1 ((rd_T26 l0 x4_1).f0) ((rd_T26 l0 x4_1).f1) ((rd_T26 l0 x4_1).f2) ((rd_T26 l0 x4_1).f3) _ _ ((rd_T26 l0 x4_1).f4) _ _ ((rd_T26 l0 x4_1).f5) _ _ ((rd_T26 l0 x4_1).f6) t656 t657 t658 t659 t660 t663 t666 _ ?side1 ?side2 ?side3 ?side4 ?side5 ?side6 A8.out).mono ?_); (case side1 => exact kc HR655_4 HB); (case side2 => exact HC655_4.out); (case side3 => exact kc HR655_5 HB); (case side4 => exact HC655_5.out); (case side5 => exact kc HR655_6 HB); (case side6 => exact HC655_6.out); rintro e w11 ⟨v661, v664, v667, rfl, ho0, ho1, ho2, hb⟩; refine ⟨_, rfl, ?_⟩; have n0_ := zq9 (Kd.S_mono (Kd.S_told (Kd.S_told (Kd.S_told (Kd.S_old (by (with_reducible repeat (first | apply Kd.S_alloc | apply Kd.S_drewN | apply Kd.S_drew)); exact HO_3.out) hb) (Kd.R_base ho0)) (Kd.R_base ho1)) (Kd.R_base ho2)) (fun _ h_ => h_.1)); have n1_ := zq9 (Kd.R_lower ho0 (zq29 (by exact bl HB))); have n2_ := zq9 (Kd.R_lower ho1 (zq29 (by exact bl HB))); have n3_ := zq9 (Kd.R_lower ho2 (zq29 (by exact bl HB))); have n4_ := zq9 (zq27 (by exact bl HB) hb); clear HO_3; clear HB; have HO_3 := n0_; have HO662 := n1_; have HO665 := n2_; have HO668 := n3_; have HB := n4_; clear n0_ n1_ n2_ n3_ n4_; (try clear hb); (try clear hb2); (try clear hk); (try clear hi); (try clear ho0); (try clear ho1); (try clear ho2); have p10 : 0 ≤ (x4_1 : Int) := of_decide_eq_true ‹_›; have q10 : (x4_1 : Int) < ((x3_1.length : Int) : Int) := of_decide_eq_true ‹_›; obtain ⟨go10, co10, eo10, gb10, gl10, cl10, HG10⟩ := Kd.S_form HO_3.out (by omega); (first | cases eo10 | (injection eo10 with ea_ en_ ec_; (first | subst ea_ | (injection ea_ with ea_; subst ea_)); subst ec_; clear en_)); have GB10 := zq9 gb10; have GG10 := zq9 HG10; clear gb10 gl10 HG10; obtain ⟨_, ce10, hcl10, hM10, hcc10, hfr10, _, _⟩ := Kd.S_elem HO_3.out z32 (x4_1 : Int) p10 q10; obtain ⟨ve10_4, ve10_5, ve10_6, rfl, ge10_4, ge10_5, ge10_6⟩ := k32_openM hM10; have hx10_0 : w11.cell? ⟨go10, (x4_1 : Int).toNat * 7, none⟩ = some (.string ((rd_T32 x3_1 x4_1).f0)) := hcc10 0 _ rfl; have hx10_1 : w11.cell? ⟨go10, (x4_1 : Int).toNat * 7 + 1, none⟩ = some (.int .i64 ((rd_T32 x3_1 x4_1).f1)) := hcc10 1 _ rfl; have hx10_2 : w11.cell? ⟨go10, (x4_1 : Int).toNat * 7 + 2, none⟩ = some (.int .i64 ((rd_T32 x3_1 x4_1).f2)) := hcc10 2 _ rfl; have hx10_3 : w11.cell? ⟨go10, (x4_1 : Int).toNat * 7 + 3, none⟩ = some (.string ((rd_T32 x3_1 x4_1).f3)) := hcc10 3 _ rfl; have hx10_4 : w11.cell? ⟨go10, (x4_1 : Int).toNat * 7 + 4, none⟩ = some (ve10_4) := hcc10 4 _ rfl; have hx10_5 : w11.cell? ⟨go10, (x4_1 : Int).toNat * 7 + 5, none⟩ = some (ve10_5) := hcc10 5 _ rfl; have hx10_6 : w11.cell? ⟨go10, (x4_1 : Int).toNat * 7 + 6, none⟩ = some (ve10_6) := hcc10 6 _ rfl; have hf10_0 : w11.frozen? ⟨go10, (x4_1 : Int).toNat * 7, none⟩ = false := hfr10 0; have hf10_1 : w11.frozen? ⟨go10, (x4_1 : Int).toNat * 7 + 1, none⟩ = false := hfr10 1; have hf10_2 : w11.frozen? ⟨go10, (x4_1 : Int).toNat * 7 + 2, none⟩ = false := hfr10 2; have hf10_3 : w11.frozen? ⟨go10, (x4_1 : Int).toNat * 7 + 3, none⟩ = false := hfr10 3; have hf10_4 : w11.frozen? ⟨go10, (x4_1 : Int).toNat * 7 + 4, none⟩ = false := hfr10 4; have hf10_5 : w11.frozen? ⟨go10, (x4_1 : Int).toNat * 7 + 5, none⟩ = false := hfr10 5; have hf10_6 : w11.frozen? ⟨go10, (x4_1 : Int).toNat * 7 + 6, none⟩ = false := hfr10 6; clear hcl10 hcc10 hfr10 hM10; replace p10 := eq_true p10; replace q10 := eq_true q10; have n_ := zq9 (Kd.S_mono (ok' := (fun k_ => some k_ ≠ (v661 : Value).ownBlock ∧ some k_ ≠ (v664 : Value).ownBlock ∧ some k_ ≠ (v667 : Value).ownBlock)) HO_3.out (fun k_ hk => ⟨hk.1.1.2, ⟨hk.1.2, hk.2⟩⟩)); clear HO_3; have HO_3 := n_; clear n_; have HX12 := zq9 (show Kd.S k32 32 w11 w.heap.size (fun k_ => ((fun _ => True)) k_ ∧ ¬ ((fun k_ => some k_ = (v661 : Value).ownBlock ∨ some k_ = (v664 : Value).ownBlock ∨ some k_ = (v667 : Value).ownBlock)) k_) (.slice (some ⟨go10, 0, none⟩) x3_1.length co10) x3_1 from (by (with_reducible repeat (first | apply Kd.S_alloc | apply Kd.S_drewN | apply Kd.S_drew)); exact Kd.S_mono HO_3.out (fun k_ hk => ⟨trivial, fun e_ => e_.elim (fun h_ => hk.1 h_) (fun h_ => h_.elim (fun h_ => hk.2.1 h_) (fun h_ => hk.2.2 h_))⟩))); obtain ⟨oki12, ce12, hcl12, hM12, hcc12, hfr12, hoki12, hH12⟩ := Kd.S_elem HX12.out z32 (x4_1 : Int) (of_decide_eq_true ‹_›) (by have h_ : (x4_1 : Int) < ((x3_1.length : Int) : Int) := of_decide_eq_true ‹_›; first | exact h_ | (have e_ := (Kd.S_reads' HO_3.out).1; omega) | simpa using h_); obtain ⟨ve12_4, ve12_5, ve12_6, rfl, ge12_4, ge12_5, ge12_6⟩ := k32_openM hM12; have HP12 := Kd.S_seg hH12 (of_decide_eq_true ‹_›) (by have h_ : (x4_1 : Int) < ((x3_1.length : Int) : Int) := of_decide_eq_true ‹_›; first | exact h_ | (have e_ := (Kd.S_reads' HO_3.out).1; omega) | simpa using h_) (seg := [.string t656, .int .i64 t657, .int .i64 t658, .string t659, v661, v664, v667]) (j := 0) (show 7 ≤ 7 from by decide) (x' := (⟨t656, t657, t658, t659, t660, t663, t666⟩ : S32)) (k32_mkM _ _ _ (⟨t656, t657, t658, t659, t660, t663, t666⟩ : S32) (Kd.R_mono (Kd.R_tight rfl (Kd.R_mono (ok' := fun k_ => ((fun _ => True)) k_ ∧ k_ ≠ go10) (Kd.R_apart' (HO662.out) (Kd.S_typed HO_3.out) (by decide)) (fun k_ hk => ⟨trivial, fun e_ => (hk.2) (by rw [e_]; rfl)⟩))) (fun _ h_ => Or.inr (Or.inl h_))) (Kd.R_mono (Kd.R_tight rfl (Kd.R_mono (ok' := fun k_ => ((fun _ => True)) k_ ∧ k_ ≠ go10) (Kd.R_apart' (HO665.out) (Kd.S_typed HO_3.out) (by decide)) (fun k_ hk => ⟨trivial, fun e_ => (hk.2) (by rw [e_]; rfl)⟩))) (fun _ h_ => Or.inr (Or.inr (Or.inl h_)))) (Kd.R_mono (Kd.R_tight rfl (Kd.R_mono (ok' := fun k_ => ((fun _ => True)) k_ ∧ k_ ≠ go10) (Kd.R_apart' (HO668.out) (Kd.S_typed HO_3.out) (by decide)) (fun k_ hk => ⟨trivial, fun e_ => (hk.2) (by rw [e_]; rfl)⟩))) (fun _ h_ => Or.inr (Or.inr (Or.inr (h_)))))) (fun _ hk => hk) (fun k_ hk_ => hk_.elim (fun h_ => ((Kd.R_mono (ok' := fun k_ => ((fun _ => True)) k_ ∧ k_ ≠ go10) (Kd.R_apart' (HO662.out) (Kd.S_typed HO_3.out) (by decide)) (fun k_ hk => ⟨trivial, fun e_ => (hk.2) (by rw [e_]; rfl)⟩))).1 k_ h_.symm) (fun h_ => h_.elim (fun h_ => ((Kd.R_mono (ok' := fun k_ => ((fun _ => True)) k_ ∧ k_ ≠ go10) (Kd.R_apart' (HO665.out) (Kd.S_typed HO_3.out) (by decide)) (fun k_ hk => ⟨trivial, fun e_ => (hk.2) (by rw [e_]; rfl)⟩))).1 k_ h_.symm) (fun h_ => ((Kd.R_mono (ok' := fun k_ => ((fun _ => True)) k_ ∧ k_ ≠ go10) (Kd.R_apart' (HO668.out) (Kd.S_typed HO_3.out) (by decide)) (fun k_ hk => ⟨trivial, fun e_ => (hk.2) (by rw [e_]; rfl)⟩))).1 k_ h_.symm))); have hx12_0 := hcc12 0 _ rfl; (try simp only [show (k32).sz = 7 from rfl, Nat.mul_one, Nat.add_zero] at hx12_0); have hf12_0 := hfr12 0; (try simp only [show (k32).sz = 7 from rfl, Nat.mul_one, Nat.add_zero] at hf12_0); have hx12_1 := hcc12 1 _ rfl; (try simp only [show (k32).sz = 7 from rfl, Nat.mul_one, Nat.add_zero] at hx12_1); have hf12_1 := hfr12 1; (try simp only [show (k32).sz = 7 from rfl, Nat.mul_one, Nat.add_zero] at hf12_1); have hx12_2 := hcc12 2 _ rfl; (try simp only [show (k32).sz = 7 from rfl, Nat.mul_one, Nat.add_zero] at hx12_2); have hf12_2 := hfr12 2; (try simp only [show (k32).sz = 7 from rfl, Nat.mul_one, Nat.add_zero] at hf12_2); have hx12_3 := hcc12 3 _ rfl; (try simp only [show (k32).sz = 7 from rfl, Nat.mul_one, Nat.add_zero] at hx12_3); have hf12_3 := hfr12 3; (try simp only [show (k32).sz = 7 from rfl, Nat.mul_one, Nat.add_zero] at hf12_3); have hx12_4 := hcc12 4 _ rfl; (try simp only [show (k32).sz = 7 from rfl, Nat.mul_one, Nat.add_zero] at hx12_4); have hf12_4 := hfr12 4; (try simp only [show (k32).sz = 7 from rfl, Nat.mul_one, Nat.add_zero] at hf12_4); have hx12_5 := hcc12 5 _ rfl; (try simp only [show (k32).sz = 7 from rfl, Nat.mul_one, Nat.add_zero] at hx12_5); have hf12_5 := hfr12 5; (try simp only [show (k32).sz = 7 from rfl, Nat.mul_one, Nat.add_zero] at hf12_5); have hx12_6 := hcc12 6 _ rfl; (try simp only [show (k32).sz = 7 from rfl, Nat.mul_one, Nat.add_zero] at hx12_6); have hf12_6 := hfr12 6; (try simp only [show (k32).sz = 7 from rfl, Nat.mul_one, Nat.add_zero] at hf12_6); clear hcl12 hcc12 hfr12 hM12 hoki12 hH12) | (obtain ⟨Aq0, cq0, eq0⟩ := Kd.R_slice HO662.out; obtain ⟨Aq1, cq1, eq1⟩ := Kd.R_slice HO665.out; obtain ⟨Aq2, cq2, eq2⟩ := Kd.R_slice HO668.out; subst eq0; subst eq1; subst eq2; (with_reducible refine zq26 (t := 32) (p := 21) rfl ?_); refine store_event (t := 32) (p := 21) (v := ?vo_w13) (w1 := (((((((w11.setCell ⟨go10, (x4_1 : Int).toNat * 7, none⟩ (.string t656)).setCell ⟨go10, (x4_1 : Int).toNat * 7 + 1, none⟩ (.int .i64 t657)).setCell ⟨go10, (x4_1 : Int).toNat * 7 + 2, none⟩ (.int .i64 t658)).setCell ⟨go10, (x4_1 : Int).toNat * 7 + 3, none⟩ (.string t659)).setCell ⟨go10, (x4_1 : Int).toNat * 7 + 4, none⟩ (.slice Aq0 t660.length cq0)).setCell ⟨go10, (x4_1 : Int).toNat * 7 + 5, none⟩ (.slice Aq1 t663.length cq1)).setCell ⟨go10, (x4_1 : Int).toNat * 7 + 6, none⟩ (.slice Aq2 t666.length cq2))) ?hg ?ho ?hn ?hr ?_; (case ho => rfl); (case hg => rfl); (case hn => rfl); (case hr => first | (go_simp; done) | (go_simp; rfl)); intro w13 hw; have hg : w11.grownBy w13 (some go10) := (by rw [hw]; exact HP12.2); have hp_ : Kd.S k32 32 w13 w.heap.size (fun _ => True) (.slice (some ⟨go10, 0, none⟩) x3_1.length co10) y669 := (by rw [hw, Ny669.out]; exact HP12.1); clear HP12; have n0_ := zq9 (hp_); have n1_ := zq9 ((by rw [hw]; exact zq28 (zq28 (zq28 (zq28 (zq28 (zq28 (zq28 (HB.out) GB10.out) GB10.out) GB10.out) GB10.out) GB10.out) GB10.out) GB10.out : Below w.heap.size w w13)); clear HO_3; clear HB; clear HO662; clear HO665; clear HO668; have HO_3 := n0_; have HB := n1_; clear n0_ n1_; clear hg hw hp_))
        go_roundg k1
        case measure => have := HK1.out; omega
        case rel => exact ⟨(y669), (wrap64 (x4_1 + 1)), (by first | rfl | (simp; done) | (simp [*]; done)), H', ⟨by have := HK1.out; omega⟩, ⟨by (with_reducible repeat (first | apply Kd.S_alloc | apply Kd.S_drewN | apply Kd.S_drew)); exact HO_3.out⟩, ⟨by exact bl HB⟩⟩
       ·rw [if_neg c9] at H
        exact absurd H (by simp)
      ·rw [if_neg c7] at H
       exact absurd H (by simp)
     ·rw [if_neg c6] at H; have c6b0 : decide (x4_1 < (l0.length : Int)) = false := decide_eq_false c6; clear c6; obtain rfl := Option.some.inj H
      go_wp2
      go_ret
      exact ⟨_, by first | rfl | (simp [errW_none, errW_some] <;> rfl) | (simp [*, errW_none, errW_some] <;> rfl), by (with_reducible repeat (first | apply Kd.S_alloc | apply Kd.S_drewN | apply Kd.S_drew)); exact HO_3.out, by exact bl HB⟩
  ·rw [if_neg c3] at H
   exact absurd H (by simp)
 ·rw [if_neg c2] at H
  exact absurd H (by simp)
set_option maxHeartbeats 8000000 in
set_option maxRecDepth 100000 in
theorem laws_toBase.calls (k : Nat) (a0_0 : Int) (A0_1 : Option Addr) (c0_1 : Nat) (l0_1 : List (S26)) (r1 : Int) (r2 : List (S32)) (w : World) (hr0_1 : Kd.C k26 w A0_1 l0_1.length l0_1) (hc0_1 : l0_1.length ≤ c0_1) (h : laws_toBase.f k a0_0 l0_1 = some (r1, r2)) :
    Calls Try.prog 18 #[.agg #[.int .i64 a0_0, .slice A0_1 l0_1.length c0_1]] w fun e w' => ∃ v1_ : Value, e = .returned (.agg #[.int .i64 r1, v1_]) ∧ Kd.S k32 32 w' w.heap.size (fun _ => True) v1_ r2 ∧ Below w.heap.size w w' := by
  have hu41 := Try.underlying41; have hu46 := Try.underlying46; have HR0_1 := zq9 hr0_1; have HC0_1 := zq9 hc0_1; clear hr0_1 hc0_1
  have HB := zq9 (Below.refl w.heap.size w)
  have H : ((laws_toEntryS.f k l0_1).bind fun t673 => (some (a0_0, t673))) = some (r1, r2) := h
  clear h; replace H := Option.bind_eq_some_iff.mp H; obtain ⟨t673, A20, H⟩ := H
  try dsimp only at H
  have A2 := zq9 A20; clear A20
  simp only [Option.some.injEq, Prod.mk.injEq] at H
  obtain ⟨rfl, rfl⟩ := H
  go_enter Try.func18, Try.ntmps18
  go_wp2_with (first | ((with_reducible refine zq25 (N := 1) rfl ?_); refine bx 1 #[.int .i64 a0_0, .slice A0_1 l0_1.length c0_1] 41 ?_; intro gb670 hg w3 hbox hb; have n0_ := zq9 (zq27 (by exact bl HB) hb); have n1_ := zq9 (hbox); have n2_ := zq9 ((by rw [hg]; exact (zq29 (by exact bl HB)) : w.heap.size ≤ gb670)); have n3_ := n2_; clear HB; have HB := n0_; have BK670 := n1_; have GW670 := n2_; have GE670 := n3_; clear n0_ n1_ n2_ n3_; clear hb hbox hg) | ((with_reducible refine zq25 (N := 2) rfl ?_); refine bx 2 #[.int .i64 0, .slice none 0 0] 46 ?_; intro gb671 hg w4 hbox hb; have n0_ := zq9 (zq30 (g := gb670) (o := .cells #[.int .i64 a0_0, .slice A0_1 l0_1.length c0_1] 41 (0, 0)) (by exact bk BK670) hb); have n1_ := zq9 (zq27 (by exact b1 HB GE670) hb); have n2_ := zq9 (hbox); have n3_ := zq9 ((by rw [hg]; exact (zq29 (by exact b1 HB GE670)) : w.heap.size ≤ gb671)); have n4_ := n3_; have n5_ := zq9 ((by rw [hg]; exact Nat.ne_of_lt (blk_lt (g := gb670) (o := .cells #[.int .i64 a0_0, .slice A0_1 l0_1.length c0_1] 41 (0, 0)) (by exact bk BK670)) : gb670 ≠ gb671)); have n6_ := zq9 ((by rw [hg]; exact Nat.ne_of_gt (blk_lt (g := gb670) (o := .cells #[.int .i64 a0_0, .slice A0_1 l0_1.length c0_1] 41 (0, 0)) (by exact bk BK670)) : gb671 ≠ gb670)); clear BK670; clear HB; have BK670 := n0_; have HB := n1_; have BK671 := n2_; have GW671 := n3_; have GE671 := n4_; have NB670_671 := n5_; have NB671_670 := n6_; clear n0_ n1_ n2_ n3_ n4_ n5_ n6_; clear hb hbox hg) | ((with_reducible refine zq25 (N := 3) rfl ?_); refine bx 3 #[.int .i64 0, .slice none 0 0] 46 ?_; intro gb672 hg w5 hbox hb; have n0_ := zq9 (zq30 (g := gb670) (o := .cells #[.int .i64 a0_0, .slice A0_1 l0_1.length c0_1] 41 (0, 0)) (by exact bk BK670) hb); have n1_ := zq9 (zq30 (g := gb671) (o := .cells #[.int .i64 0, .slice none 0 0] 46 (0, 0)) (by exact bk BK671) hb); have n2_ := zq9 (zq27 (by exact b2 HB GE670 GE671) hb); have n3_ := zq9 (hbox); have n4_ := zq9 ((by rw [hg]; exact (zq29 (by exact b2 HB GE670 GE671)) : w.heap.size ≤ gb672)); have n5_ := n4_; have n6_ := zq9 ((by rw [hg]; exact Nat.ne_of_lt (blk_lt (g := gb670) (o := .cells #[.int .i64 a0_0, .slice A0_1 l0_1.length c0_1] 41 (0, 0)) (by exact bk BK670)) : gb670 ≠ gb672)); have n7_ := zq9 ((by rw [hg]; exact Nat.ne_of_gt (blk_lt (g := gb670) (o := .cells #[.int .i64 a0_0, .slice A0_1 l0_1.length c0_1] 41 (0, 0)) (by exact bk BK670)) : gb672 ≠ gb670)); have n8_ := zq9 ((by rw [hg]; exact Nat.ne_of_lt (blk_lt (g := gb671) (o := .cells #[.int .i64 0, .slice none 0 0] 46 (0, 0)) (by exact bk BK671)) : gb671 ≠ gb672)); have n9_ := zq9 ((by rw [hg]; exact Nat.ne_of_gt (blk_lt (g := gb671) (o := .cells #[.int .i64 0, .slice none 0 0] 46 (0, 0)) (by exact bk BK671)) : gb672 ≠ gb671)); clear BK670; clear BK671; clear HB; have BK670 := n0_; have BK671 := n1_; have HB := n2_; have BK672 := n3_; have GW672 := n4_; have GE672 := n5_; have NB670_672 := n6_; have NB672_670 := n7_; have NB671_672 := n8_; have NB672_671 := n9_; clear n0_ n1_ n2_ n3_ n4_ n5_ n6_ n7_ n8_ n9_; clear hb hbox hg; have hnb6 := NB670_671.out; have hnc6 := NB671_670.out; have hnb7 := NB670_672.out; have hnc7 := NB672_670.out; have hcz8_0 : w5.cell? ⟨gb670, 0, none⟩ = some (.int .i64 a0_0) := bc BK670 0; have hcz8_1 : w5.cell? ⟨gb670, 1, none⟩ = some (.slice A0_1 l0_1.length c0_1) := bc BK670 1; have hfz8_0 := zq6 BK670.out 0; have hfz8_1 := zq6 BK670.out 1; have hnb9 := NB672_671.out; have hnc9 := NB671_672.out; have hcz10_0 : w5.cell? ⟨gb672, 0, none⟩ = some (.int .i64 0) := bc BK672 0; have hcz10_1 : w5.cell? ⟨gb672, 1, none⟩ = some (.slice none 0 0) := bc BK672 1; have hfz10_0 := zq6 BK672.out 0; have hfz10_1 := zq6 BK672.out 1) | ((with_reducible refine zq24 (f := 59) rfl ?_); refine gl (some 9) Try.func59 #[.slice A0_1 l0_1.length c0_1] ?_; (with_reducible refine (laws_toEntryS.calls k _ _ l0_1 t673 _ ?side1 ?side2 A2.out).mono ?_); (case side1 => exact zq31 HR0_1.out (by exact b3 HB GE670 GE671 GE672)); (case side2 => exact HC0_1.out); rintro e w11 ⟨v674, rfl, ho0, hb⟩; refine ⟨_, rfl, ?_⟩; have n0_ := zq9 (Kd.S_lower ho0 (zq29 (by exact b3 HB GE670 GE671 GE672))); have n1_ := zq9 (zq30 (g := gb670) (o := .cells #[.int .i64 a0_0, .slice A0_1 l0_1.length c0_1] 41 (0, 0)) (by refine bp ?_; refine blk_far ?_ NB670_672.out _; refine bp ?_; exact BK670.out) hb); have n2_ := zq9 (zq30 (g := gb671) (o := .cells #[.int .i64 0, .slice none 0 0] 46 (0, 0)) (by refine bp ?_; refine blk_far ?_ NB671_672.out _; refine bp ?_; exact BK671.out) hb); have n3_ := zq9 (zq30 (g := gb672) (o := .cells #[.int .i64 a0_0, .slice none 0 0] 46 (0, 0)) (by refine bp ?_; refine blk_put (cs := #[.int .i64 0, .slice none 0 0]) ?_ 0 _ rfl; refine bp ?_; exact BK672.out) hb); have n4_ := zq9 (zq27 (by exact b3 HB GE670 GE671 GE672) hb); clear BK670; clear BK671; clear BK672; clear HB; have HO675 := n0_; have BK670 := n1_; have BK671 := n2_; have BK672 := n3_; have HB := n4_; clear n0_ n1_ n2_ n3_ n4_; (try clear hb); (try clear hb2); (try clear hk); (try clear hi); (try clear ho0); obtain ⟨Ao12, co12, eo12⟩ := Kd.S_slice HO675.out; subst eo12; have hcz13_0 : w11.cell? ⟨gb672, 0, none⟩ = some (.int .i64 a0_0) := bc BK672 0; have hcz13_1 : w11.cell? ⟨gb672, 1, none⟩ = some (.slice none 0 0) := bc BK672 1; have hfz13_0 := zq6 BK672.out 0; have hfz13_1 := zq6 BK672.out 1; have hcz14_0 : w11.cell? ⟨gb671, 0, none⟩ = some (.int .i64 0) := bc BK671 0; have hcz14_1 : w11.cell? ⟨gb671, 1, none⟩ = some (.slice none 0 0) := bc BK671 1; have hfz14_0 := zq6 BK671.out 0; have hfz14_1 := zq6 BK671.out 1))
  refine bodyPost_ret (results_cell_row rfl _ _ gb671 46 #[.int .i64 a0_0, .slice Ao12 t673.length co12] (0, 0) _ rfl (by refine bp ?_; refine blk_put (cs := #[.int .i64 a0_0, .slice none 0 0]) ?_ 1 _ rfl; refine bp ?_; refine blk_put (cs := #[.int .i64 0, .slice none 0 0]) ?_ 0 _ rfl; refine bp ?_; refine blk_far ?_ NB671_672.out _; refine bp ?_; exact BK671.out) Try.underlying46 rfl (by kernel_rfl)) rfl ?_
  exact ⟨_, by first | rfl | (simp [errW_none, errW_some] <;> rfl) | (simp [*, errW_none, errW_some] <;> rfl), by (with_reducible repeat (first | apply Kd.S_alloc | apply Kd.S_drewN | apply Kd.S_drew)); exact Kd.S_mono (Kd.S_far (p := ⟨gb671, 1, none⟩) (Kd.S_far (p := ⟨gb671, 0, none⟩) (Kd.S_far (p := ⟨gb672, 1, none⟩) (Kd.S_types (Kd.S_types HO675.out BK672.out (by decide)) BK671.out (by decide)) (fun _ hk => hk.1.2) (.slice Ao12 t673.length co12)) (fun _ hk => hk.2) (.int .i64 a0_0)) (fun _ hk => hk.2) (.slice Ao12 t673.length co12)) (fun _ hk => trivial), by exact b3 HB GE670 GE671 GE672⟩
def laws_eqEntryS.T6 : Bool × List (List Nat × List Nat) := (true, [([], []), ([], []), ([0, 1], [0, 1]), ([2], [2]), ([], []), ([], []), ([4, 5], [4, 5]), ([6], [6]), ([3, 7], [3, 7]), ([8], [8])])
def laws_eqEntryS.B6 : List Nat := [0, 0, 3, 7, 0, 0, 48, 112, 255, 511]
theorem laws_eqEntryS.tab6 : rtab .any (opsOf Try.f60 6) = laws_eqEntryS.T6 := by kernel_rfl
theorem laws_eqEntryS.bits6 : waitsOk laws_eqEntryS.T6.2 laws_eqEntryS.B6 = true := by kernel_rfl
set_option maxHeartbeats 8000000 in
set_option maxRecDepth 100000 in
theorem laws_eqEntryS.calls (k : Nat) (A0 : Option Addr) (c0 : Nat) (l0 : List (S32)) (A1 : Option Addr) (c1 : Nat) (l1 : List (S32)) (r : Bool) (w : World) (hr0 : Kd.C k32 w A0 l0.length l0) (hc0 : l0.length ≤ c0) (hr1 : Kd.C k32 w A1 l1.length l1) (hc1 : l1.length ≤ c1) (h : laws_eqEntryS.f k l0 l1 = some r) :
  Calls Try.prog 60 #[.slice A0 l0.length c0, .slice A1 l1.length c1] w fun e w' => e = .returned (.bool r) ∧ Below w.heap.size w w' := by
 have hu32 := Try.underlying32; have HR0 := zq9 hr0; have HC0 := zq9 hc0; clear hr0 hc0; have HR1 := zq9 hr1; have HC1 := zq9 hc1; clear hr1 hc1
 have HB := zq9 (Below.refl w.heap.size w)
 have H : (if (l0.length : Int) = (l1.length : Int) then (laws_eqEntryS.l0 k l0 l1 0) else (some false)) = some r := h
 clear h
 go_enter Try.func60, Try.ntmps60
 by_cases c3 : (l0.length : Int) = (l1.length : Int)
 ·rw [if_pos c3] at H
  have c3b0 : ((l0.length : Int) == (l1.length : Int)) = true := beq_iff_eq.mpr c3
  have c3b1 : ((l0.length : Int) != (l1.length : Int)) = false := bne_eq_false_iff_eq.mpr c3
  have c3b2 : (l0.length == l1.length) = true := by first | simpa using c3 | (simp at c3 ⊢; omega)
  clear c3; have H' := zq9 H; clear H
  go_wp2
  go_loopg [5] k (fun kq v5 w' => ∃ (x5_1 : Int), v5 = .int .i64 x5_1 ∧ Aside0 (laws_eqEntryS.l0 kq l0 l1 x5_1 = some r) ∧ Aside0 (kq ≤ k) ∧ Aside0 (Below w.heap.size w w'))
  case atStart => exact ⟨(0), (by first | rfl | (simp; done) | (simp [*]; done)), H', ⟨Nat.le_refl _⟩, ⟨by exact bl HB⟩⟩
  case round =>
   clear H'
   try clear c1
   try clear p2
   try clear c3
   try clear c3b0
   try clear c3b1
   try clear c3b2
   obtain ⟨x5_1, rfl, HA, HK1, HB⟩ := hrel
   cases gk with
   | zero => exact absurd HA.out (by simp [laws_eqEntryS.l0])
   | succ k1 =>
    have H := HA.out; clear HA
    simp only [laws_eqEntryS.l0] at H
    by_cases c4 : x5_1 < (l0.length : Int)
    ·rw [if_pos c4] at H; have c4b0 : decide (x5_1 < (l0.length : Int)) = true := decide_eq_true c4; clear c4
     by_cases c5 : 0 ≤ x5_1
     ·rw [if_pos c5] at H; have c5b0 : decide (0 ≤ x5_1) = true := decide_eq_true c5; clear c5
      by_cases c6 : x5_1 < (l1.length : Int)
      ·rw [if_pos c6] at H; have c6b0 : decide (x5_1 < (l1.length : Int)) = true := decide_eq_true c6; clear c6; replace H := Option.bind_eq_some_iff.mp H; obtain ⟨t684, A70, H⟩ := H
       try dsimp only at H
       have A7 := zq9 A70; clear A70
       try go_wp2
       have n0_ := zq9 (zq4 HB.out)
       clear HB; have HB := n0_; clear n0_
       have p682 : 0 ≤ (x5_1 : Int) := of_decide_eq_true ‹_›
       have q682 : x5_1 < (l0.length : Int) := of_decide_eq_true ‹_›
       obtain ⟨ad682, A682_4, c682_4, A682_5, c682_5, A682_6, c682_6, e682, hx682_0, hx682_1, hx682_2, hx682_3, hx682_4, hx682_5, hx682_6, hl682_4, hi682_4, hl682_5, hi682_5, hl682_6, hi682_6⟩ := at_T32 HR0.out x5_1 p682 q682
       have hw682_6 := hx682_6; have hw682_5 := hx682_5; have hw682_4 := hx682_4; have hw682_3 := hx682_3; have hw682_2 := hx682_2; have hw682_1 := hx682_1; have hw682_0 := hx682_0; cases e682; replace hx682_0 := hcl HB hx682_0; replace hx682_1 := hcl HB hx682_1; replace hx682_2 := hcl HB hx682_2; replace hx682_3 := hcl HB hx682_3; replace hx682_4 := hcl HB hx682_4; replace hx682_5 := hcl HB hx682_5
       replace hx682_6 := hcl HB hx682_6; have HR682_4 := zq9 hi682_4; have HC682_4 := zq9 hl682_4; clear hi682_4 hl682_4; have HR682_5 := zq9 hi682_5; have HC682_5 := zq9 hl682_5; clear hi682_5 hl682_5; have HR682_6 := zq9 hi682_6; have HC682_6 := zq9 hl682_6; clear hi682_6 hl682_6; replace p682 := eq_true p682; replace q682 := eq_true q682
       have p683 : 0 ≤ (x5_1 : Int) := of_decide_eq_true ‹_›
       have q683 : x5_1 < (l1.length : Int) := of_decide_eq_true ‹_›
       obtain ⟨ad683, A683_4, c683_4, A683_5, c683_5, A683_6, c683_6, e683, hx683_0, hx683_1, hx683_2, hx683_3, hx683_4, hx683_5, hx683_6, hl683_4, hi683_4, hl683_5, hi683_5, hl683_6, hi683_6⟩ := at_T32 HR1.out x5_1 p683 q683
       have hw683_6 := hx683_6; have hw683_5 := hx683_5; have hw683_4 := hx683_4; have hw683_3 := hx683_3; have hw683_2 := hx683_2; have hw683_1 := hx683_1; have hw683_0 := hx683_0; cases e683; replace hx683_0 := hcl HB hx683_0; replace hx683_1 := hcl HB hx683_1; replace hx683_2 := hcl HB hx683_2; replace hx683_3 := hcl HB hx683_3; replace hx683_4 := hcl HB hx683_4; replace hx683_5 := hcl HB hx683_5
       replace hx683_6 := hcl HB hx683_6; have HR683_4 := zq9 hi683_4; have HC683_4 := zq9 hl683_4; clear hi683_4 hl683_4; have HR683_5 := zq9 hi683_5; have HC683_5 := zq9 hl683_5; clear hi683_5 hl683_5; have HR683_6 := zq9 hi683_6; have HC683_6 := zq9 hl683_6; clear hi683_6 hl683_6; replace p683 := eq_true p683; replace q683 := eq_true q683
       refine start_ (n := 10) (S := fun w' => w'.cell? (ad682.add ((x5_1).toNat * 7)) = some (.string ((rd_T32 l0 x5_1).f0)) ∧ w'.cell? ⟨(ad682.add ((x5_1).toNat * 7)).block, (ad682.add ((x5_1).toNat * 7)).off + 1, none⟩ = some (.int .i64 ((rd_T32 l0 x5_1).f1)) ∧ w'.cell? ⟨(ad682.add ((x5_1).toNat * 7)).block, (ad682.add ((x5_1).toNat * 7)).off + 2, none⟩ = some (.int .i64 ((rd_T32 l0 x5_1).f2)) ∧ w'.cell? ⟨(ad682.add ((x5_1).toNat * 7)).block, (ad682.add ((x5_1).toNat * 7)).off + 3, none⟩ = some (.string ((rd_T32 l0 x5_1).f3)) ∧ w'.cell? ⟨(ad682.add ((x5_1).toNat * 7)).block, (ad682.add ((x5_1).toNat * 7)).off + 4, none⟩ = some (.slice A682_4 ((rd_T32 l0 x5_1).f4).length c682_4) ∧ w'.cell? ⟨(ad682.add ((x5_1).toNat * 7)).block, (ad682.add ((x5_1).toNat * 7)).off + 5, none⟩ = some (.slice A682_5 ((rd_T32 l0 x5_1).f5).length c682_5) ∧ w'.cell? ⟨(ad682.add ((x5_1).toNat * 7)).block, (ad682.add ((x5_1).toNat * 7)).off + 6, none⟩ = some (.slice A682_6 ((rd_T32 l0 x5_1).f6).length c682_6) ∧ w'.cell? (ad683.add ((x5_1).toNat * 7)) = some (.string ((rd_T32 l1 x5_1).f0)) ∧ w'.cell? ⟨(ad683.add ((x5_1).toNat * 7)).block, (ad683.add ((x5_1).toNat * 7)).off + 1, none⟩ = some (.int .i64 ((rd_T32 l1 x5_1).f1)) ∧ w'.cell? ⟨(ad683.add ((x5_1).toNat * 7)).block, (ad683.add ((x5_1).toNat * 7)).off + 2, none⟩ = some (.int .i64 ((rd_T32 l1 x5_1).f2)) ∧ w'.cell? ⟨(ad683.add ((x5_1).toNat * 7)).block, (ad683.add ((x5_1).toNat * 7)).off + 3, none⟩ = some (.string ((rd_T32 l1 x5_1).f3)) ∧ w'.cell? ⟨(ad683.add ((x5_1).toNat * 7)).block, (ad683.add ((x5_1).toNat * 7)).off + 4, none⟩ = some (.slice A683_4 ((rd_T32 l1 x5_1).f4).length c683_4) ∧ w'.cell? ⟨(ad683.add ((x5_1).toNat * 7)).block, (ad683.add ((x5_1).toNat * 7)).off + 5, none⟩ = some (.slice A683_5 ((rd_T32 l1 x5_1).f5).length c683_5) ∧ w'.cell? ⟨(ad683.add ((x5_1).toNat * 7)).block, (ad683.add ((x5_1).toNat * 7)).off + 6, none⟩ = some (.slice A683_6 ((rd_T32 l1 x5_1).f6).length c683_6)) (ds := []) #[false, false, false, false, false, false, false, false, false, false] (by kernel_rfl) rfl rfl ⟨(hcm HB hw682_0), (hcm HB hw682_1), (hcm HB hw682_2), (hcm HB hw682_3), (hcm HB hw682_4), (hcm HB hw682_5), (hcm HB hw682_6), (hcm HB hw683_0), (hcm HB hw683_1), (hcm HB hw683_2), (hcm HB hw683_3), (hcm HB hw683_4), (hcm HB hw683_5), (hcm HB hw683_6)⟩ (fun hHeld => ?_); refine with_tabW laws_eqEntryS.tab6 laws_eqEntryS.bits6 (fun HT_ HW_ => ?_)
       generalize wr.drew = w9 at HB HR682_4 HR682_5 HR682_6 HR683_4 HR683_5 HR683_6 hx682_0 hx682_1 hx682_2 hx682_3 hx682_4 hx682_5 hx682_6 hx683_0 hx683_1 hx683_2 hx683_3 hx683_4 hx683_5 hx683_6 hHeld ⊢
       refine pa HT_ 0 17 (zb 10 1) ?_; refine pa HT_ 1 18 (zb 10 3) ?_; refine pa HT_ 2 19 (zb 10 7) ?_; refine pa HT_ 4 21 (zb 10 23) ?_; refine pa HT_ 5 22 (zb 10 55) ?_; refine pa HT_ 6 23 (zb 10 119) ?_
       refine take_ (i := 3) (N := some 20) (v := ?_) (a' := ?_) (zb 10 127) rfl rfl (take_ofW HT_.out HW_.out (by kernel_rfl)) (fun _ _ _ h => h) (Or.inl ⟨by rfl, ?_⟩) hHeld ?_ ?_
       rotate_left; ·rintro w' ⟨s0, s1, s2, s3, s4, s5, s6, s7, s8, s9, s10, s11, s12, s13⟩; go_simp; with_reducible rfl
       rotate_left; ·simp only [Act.put, zq0, zq1, zq2, i64_w, i32_w]; rfl
       refine take_ (i := 7) (N := some 24) (v := ?_) (a' := ?_) (zb 10 255) rfl rfl (take_ofW HT_.out HW_.out (by kernel_rfl)) (fun _ _ _ h => h) (Or.inl ⟨by rfl, ?_⟩) hHeld ?_ ?_
       rotate_left; ·rintro w' ⟨s0, s1, s2, s3, s4, s5, s6, s7, s8, s9, s10, s11, s12, s13⟩; go_simp; with_reducible rfl
       rotate_left; ·simp only [Act.put, zq0, zq1, zq2, i64_w, i32_w]; rfl
       refine one_ (i := 8) (N := some 25) (zb 10 511) rfl rfl (one_of HT_.out (by kernel_rfl)) (by decide) (fun K hK => ?_)
       refine gs Try.func14 #[.agg #[.string ((rd_T32 l0 x5_1).f0), .int .i64 ((rd_T32 l0 x5_1).f1), .int .i64 ((rd_T32 l0 x5_1).f2), .string ((rd_T32 l0 x5_1).f3), .slice A682_4 ((rd_T32 l0 x5_1).f4).length c682_4, .slice A682_5 ((rd_T32 l0 x5_1).f5).length c682_5, .slice A682_6 ((rd_T32 l0 x5_1).f6).length c682_6], .agg #[.string ((rd_T32 l1 x5_1).f0), .int .i64 ((rd_T32 l1 x5_1).f1), .int .i64 ((rd_T32 l1 x5_1).f2), .string ((rd_T32 l1 x5_1).f3), .slice A683_4 ((rd_T32 l1 x5_1).f4).length c683_4, .slice A683_5 ((rd_T32 l1 x5_1).f5).length c683_5, .slice A683_6 ((rd_T32 l1 x5_1).f6).length c683_6]] ?_
       with_reducible refine (laws_eqEntry.calls k1 ((rd_T32 l0 x5_1).f0) ((rd_T32 l0 x5_1).f1) ((rd_T32 l0 x5_1).f2) ((rd_T32 l0 x5_1).f3) _ _ ((rd_T32 l0 x5_1).f4) _ _ ((rd_T32 l0 x5_1).f5) _ _ ((rd_T32 l0 x5_1).f6) ((rd_T32 l1 x5_1).f0) ((rd_T32 l1 x5_1).f1) ((rd_T32 l1 x5_1).f2) ((rd_T32 l1 x5_1).f3) _ _ ((rd_T32 l1 x5_1).f4) _ _ ((rd_T32 l1 x5_1).f5) _ _ ((rd_T32 l1 x5_1).f6) t684 _ ?side1 ?side2 ?side3 ?side4 ?side5 ?side6 ?side7 ?side8 ?side9 ?side10 ?side11 ?side12 A7.out).mono ?_
       (case side1 => exact kc HR682_4 HB)
       (case side2 => exact HC682_4.out)
       (case side3 => exact kc HR682_5 HB)
       (case side4 => exact HC682_5.out)
       (case side5 => exact kc HR682_6 HB)
       (case side6 => exact HC682_6.out)
       (case side7 => exact kc HR683_4 HB)
       (case side8 => exact HC683_4.out)
       (case side9 => exact kc HR683_5 HB)
       (case side10 => exact HC683_5.out)
       (case side11 => exact kc HR683_6 HB)
       (case side12 => exact HC683_6.out)
       rintro e w10 ⟨rfl, hb⟩
       refine ⟨_, rfl, ?_⟩
       have n0_ := zq9 (zq27 (by exact bl HB) hb)
       clear HB; have HB := n0_; clear n0_
       (try clear hb)
       (try clear hb2)
       (try clear hk)
       (try clear hi)
       refine hK.out _ _ ⟨(hcm HB hw682_0), (hcm HB hw682_1), (hcm HB hw682_2), (hcm HB hw682_3), (hcm HB hw682_4), (hcm HB hw682_5), (hcm HB hw682_6), (hcm HB hw683_0), (hcm HB hw683_1), (hcm HB hw683_2), (hcm HB hw683_3), (hcm HB hw683_4), (hcm HB hw683_5), (hcm HB hw683_6)⟩ (fun hHeld => ?_)
       clear hK K
       refine norm_ (a' := ?_) ?_ ?_
       rotate_left; ·show Act.put _ (some 25) _ = _; simp only [Act.put, zq0, zq1, zq2, i64_w, i32_w]; rfl
       refine pa HT_ 9 26 (zb 10 1023) ?_
       refine done_ (done_of HT_.out (by kernel_rfl)) ?_
       by_cases c8 : t684 = true
       ·subst c8
        have H1 : (laws_eqEntryS.l0 k1 l0 l1 (wrap64 (x5_1 + 1))) = some r := by rw [if_pos rfl] at H; exact H
        clear H; have H := H1; clear H1; have H' := zq9 H; clear H
        try go_wp2
        go_roundg k1
        case measure => have := HK1.out; omega
        case rel => exact ⟨(wrap64 (x5_1 + 1)), (by first | rfl | (simp; done) | (simp [*]; done)), H', ⟨by have := HK1.out; omega⟩, ⟨by exact bl HB⟩⟩
       ·replace c8 := Bool.eq_false_iff.mpr c8
        subst c8
        have H1 : (some false) = some r := by rw [if_neg (show ¬ (false = true) by decide)] at H; exact H
        clear H; have H := H1; clear H1; obtain rfl := Option.some.inj H
        try go_wp2
        go_ret
        exact fz (by exact bl HB)
      ·rw [if_neg c6] at H
       exact absurd H (by simp)
     ·rw [if_neg c5] at H
      exact absurd H (by simp)
    ·rw [if_neg c4] at H; have c4b0 : decide (x5_1 < (l0.length : Int)) = false := decide_eq_false c4; clear c4; obtain rfl := Option.some.inj H
     go_wp2
     go_ret
     exact fz (by exact bl HB)
 ·rw [if_neg c3] at H
  have c3b0 : ((l0.length : Int) == (l1.length : Int)) = false := beq_eq_false_iff_ne.mpr c3
  have c3b1 : ((l0.length : Int) != (l1.length : Int)) = true := bne_iff_ne.mpr c3
  have c3b2 : (l0.length == l1.length) = false := by first | simpa using c3 | (simp at c3 ⊢; omega)
  obtain rfl := Option.some.inj H
  go_wp2
  go_ret
  exact fz (by exact bl HB)
set_option maxHeartbeats 8000000 in
set_option maxRecDepth 100000 in
theorem laws_eqBase.calls (k : Nat) (a0_0 : Int) (A0_1 : Option Addr) (c0_1 : Nat) (l0_1 : List (S32)) (a1_0 : Int) (A1_1 : Option Addr) (c1_1 : Nat) (l1_1 : List (S32)) (r : Bool) (w : World) (hr0_1 : Kd.C k32 w A0_1 l0_1.length l0_1) (hc0_1 : l0_1.length ≤ c0_1) (hr1_1 : Kd.C k32 w A1_1 l1_1.length l1_1) (hc1_1 : l1_1.length ≤ c1_1) (h : laws_eqBase.f k a0_0 l0_1 a1_0 l1_1 = some r) :
    Calls Try.prog 20 #[.agg #[.int .i64 a0_0, .slice A0_1 l0_1.length c0_1], .agg #[.int .i64 a1_0, .slice A1_1 l1_1.length c1_1]] w fun e w' => e = .returned (.bool r) ∧ Below w.heap.size w w' := by
  have hu46 := Try.underlying46; have HR0_1 := zq9 hr0_1; have HC0_1 := zq9 hc0_1; clear hr0_1 hc0_1; have HR1_1 := zq9 hr1_1; have HC1_1 := zq9 hc1_1; clear hr1_1 hc1_1
  have HB := zq9 (Below.refl w.heap.size w)
  have H : (if a0_0 = a1_0 then ((laws_eqEntryS.f k l0_1 l1_1).bind fun t687 => (if t687 = true then (some true) else (some false))) else (some false)) = some r := h
  clear h
  go_enter Try.func20, Try.ntmps20
  refine (Classical.em (a0_0 = a1_0)).elim (fun c3 => ?p0) (fun c3 => ?n0)
  case' p0 =>
    rw [if_pos c3] at H
    have c3b0 : (a0_0 == a1_0) = true := beq_iff_eq.mpr c3
    have c3b1 : (a0_0 != a1_0) = false := bne_eq_false_iff_eq.mpr c3
    clear c3; replace H := Option.bind_eq_some_iff.mp H; obtain ⟨t687, A40, H⟩ := H
    try dsimp only at H
    have A4 := zq9 A40; clear A40
    refine (Classical.em (t687 = true)).elim (fun c5 => ?p1) (fun c5 => ?n1)
    case' p1 =>
      subst c5
      have H1 : (some true) = some r := by rw [if_pos rfl] at H; exact H
      clear H; have H := H1; clear H1; obtain rfl := Option.some.inj H
    case' n1 =>
      replace c5 := Bool.eq_false_iff.mpr c5
      subst c5
      have H1 : (some false) = some r := by rw [if_neg (show ¬ (false = true) by decide)] at H; exact H
      clear H; have H := H1; clear H1; obtain rfl := Option.some.inj H
  case' n0 =>
    rw [if_neg c3] at H
    have c3b0 : (a0_0 == a1_0) = false := beq_eq_false_iff_ne.mpr c3
    have c3b1 : (a0_0 != a1_0) = true := bne_iff_ne.mpr c3
    obtain rfl := Option.some.inj H
  case p1 | n1 | n0 =>
    try go_wp2_with (first | ((with_reducible refine zq25 (N := 2) rfl ?_); refine bx 2 #[.int .i64 a0_0, .slice A0_1 l0_1.length c0_1] 46 ?_; intro gb685 hg w6 hbox hb; have n0_ := zq9 (zq27 (by exact bl HB) hb); have n1_ := zq9 (hbox); have n2_ := zq9 ((by rw [hg]; exact (zq29 (by exact bl HB)) : w.heap.size ≤ gb685)); have n3_ := n2_; clear HB; have HB := n0_; have BK685 := n1_; have GW685 := n2_; have GE685 := n3_; clear n0_ n1_ n2_ n3_; clear hb hbox hg) | ((with_reducible refine zq25 (N := 3) rfl ?_); refine bx 3 #[.int .i64 a1_0, .slice A1_1 l1_1.length c1_1] 46 ?_; intro gb686 hg w7 hbox hb; have n0_ := zq9 (zq30 (g := gb685) (o := .cells #[.int .i64 a0_0, .slice A0_1 l0_1.length c0_1] 46 (0, 0)) (by exact bk BK685) hb); have n1_ := zq9 (zq27 (by exact b1 HB GE685) hb); have n2_ := zq9 (hbox); have n3_ := zq9 ((by rw [hg]; exact (zq29 (by exact b1 HB GE685)) : w.heap.size ≤ gb686)); have n4_ := n3_; have n5_ := zq9 ((by rw [hg]; exact Nat.ne_of_lt (blk_lt (g := gb685) (o := .cells #[.int .i64 a0_0, .slice A0_1 l0_1.length c0_1] 46 (0, 0)) (by exact bk BK685)) : gb685 ≠ gb686)); have n6_ := zq9 ((by rw [hg]; exact Nat.ne_of_gt (blk_lt (g := gb685) (o := .cells #[.int .i64 a0_0, .slice A0_1 l0_1.length c0_1] 46 (0, 0)) (by exact bk BK685)) : gb686 ≠ gb685)); clear BK685; clear HB; have BK685 := n0_; have HB := n1_; have BK686 := n2_; have GW686 := n3_; have GE686 := n4_; have NB685_686 := n5_; have NB686_685 := n6_; clear n0_ n1_ n2_ n3_ n4_ n5_ n6_; clear hb hbox hg; have hnb8 := NB685_686.out; have hnc8 := NB686_685.out; have hcz9_0 : w7.cell? ⟨gb685, 0, none⟩ = some (.int .i64 a0_0) := bc BK685 0; have hcz9_1 : w7.cell? ⟨gb685, 1, none⟩ = some (.slice A0_1 l0_1.length c0_1) := bc BK685 1; have hfz9_0 := zq6 BK685.out 0; have hfz9_1 := zq6 BK685.out 1; have hcz10_0 : w7.cell? ⟨gb686, 0, none⟩ = some (.int .i64 a1_0) := bc BK686 0; have hcz10_1 : w7.cell? ⟨gb686, 1, none⟩ = some (.slice A1_1 l1_1.length c1_1) := bc BK686 1; have hfz10_0 := zq6 BK686.out 0; have hfz10_1 := zq6 BK686.out 1) | ((with_reducible refine zq24 (f := 60) rfl ?_); refine gl (some 14) Try.func60 #[.slice A0_1 l0_1.length c0_1, .slice A1_1 l1_1.length c1_1] ?_; (with_reducible refine (laws_eqEntryS.calls k _ _ l0_1 _ _ l1_1 _ _ ?side1 ?side2 ?side3 ?side4 A4.out).mono ?_); (case side1 => exact kc HR0_1 HB); (case side2 => exact HC0_1.out); (case side3 => exact kc HR1_1 HB); (case side4 => exact HC1_1.out); rintro e w11 ⟨rfl, hb⟩; refine ⟨_, rfl, ?_⟩; have n0_ := zq9 (zq30 (g := gb685) (o := .cells #[.int .i64 a0_0, .slice A0_1 l0_1.length c0_1] 46 (0, 0)) (by exact bk BK685) hb); have n1_ := zq9 (zq30 (g := gb686) (o := .cells #[.int .i64 a1_0, .slice A1_1 l1_1.length c1_1] 46 (0, 0)) (by exact bk BK686) hb); have n2_ := zq9 (zq27 (by exact b2 HB GE685 GE686) hb); clear BK685; clear BK686; clear HB; have BK685 := n0_; have BK686 := n1_; have HB := n2_; clear n0_ n1_ n2_; (try clear hb); (try clear hb2); (try clear hk); (try clear hi)))
    go_ret
    exact fz (by exact b2 HB GE685 GE686)
set_option maxHeartbeats 8000000 in
set_option maxRecDepth 100000 in
theorem laws_markText.calls (k : Nat) (a0 : Int) (r : ByteArray) (w : World) (h : laws_markText.f k a0 = some r) :
    Calls Try.prog 64 #[.int .i64 a0] w fun e w' => e = .returned (.string r) ∧ Below w.heap.size w w' := by
  have HB := zq9 (Below.refl w.heap.size w)
  have H : (if a0 ≤ 0 then (some (⟨#[109, 48]⟩ : ByteArray)) else (laws_markText.l0 k a0 (⟨#[]⟩ : ByteArray))) = some r := h
  clear h
  go_enter Try.func64, Try.ntmps64
  by_cases c2 : a0 ≤ 0
  · rw [if_pos c2] at H; have c2b0 : decide (a0 ≤ 0) = true := decide_eq_true c2; clear c2; obtain rfl := Option.some.inj H
    go_wp2
    go_ret
    exact fz (by exact bl HB)
  · rw [if_neg c2] at H; have c2b0 : decide (a0 ≤ 0) = false := decide_eq_false c2; clear c2; have H' := zq9 H; clear H
    go_wp2
    go_loopg [0, 3] k (fun kq v0 v3 w' => ∃ (x0_1 : Int) (x3_1 : ByteArray), v0 = .int .i64 x0_1 ∧ v3 = .string x3_1 ∧ Aside0 (laws_markText.l0 kq x0_1 x3_1 = some r) ∧ Aside0 (kq ≤ k) ∧ Aside0 (Below w.heap.size w w'))
    case atStart => exact ⟨(a0), ((⟨#[]⟩ : ByteArray)), (by first | rfl | (simp; done) | (simp [*]; done)), (by first | rfl | (simp; done) | (simp [*]; done)), H', ⟨Nat.le_refl _⟩, ⟨by exact bl HB⟩⟩
    case round =>
      clear H'
      try clear c2
      try clear c2b0
      try clear p2
      obtain ⟨x0_1, x3_1, rfl, rfl, HA, HK1, HB⟩ := hrel
      cases gk with
      | zero => exact absurd HA.out (by simp [laws_markText.l0])
      | succ k1 =>
        have H := HA.out; clear HA
        simp only [laws_markText.l0] at H
        by_cases c3 : x0_1 > 0
        · rw [if_pos c3] at H; have c3b0 : decide (0 < x0_1) = true := decide_eq_true c3; clear c3
          obtain ⟨y749, hy749⟩ : ∃ y_ : List Int, y_ = (([(wrap64 (48 + (Int.tmod x0_1 10))) % 256] : List Int)) := ⟨_, rfl⟩
          replace H : (if (strOfNums y749).size + x3_1.size ≤ 9223372036854775807 then (laws_markText.l0 k1 (wrap64 (Int.tdiv x0_1 10)) ((strOfNums y749) ++ x3_1)) else (none)) = some r := by first | (rw [hy749]; with_reducible exact H) | (have H2_ := (Option.bind_some _ _).symm.trans H; rw [hy749]; with_reducible exact H2_) | (have H2_ := (Option.bind_some _ _).symm.trans H; with_reducible exact H2_) | with_reducible exact H | (rw [hy749]; exact H) | exact H
          have Ny749 := zq9 hy749; clear hy749
          by_cases c4 : (strOfNums y749).size + x3_1.size ≤ 9223372036854775807
          · rw [if_pos c4] at H
            have c4b0 := eq_true c4
            have c4b1 : decide ((strOfNums y749).size + x3_1.size ≤ 9223372036854775807) = true := decide_eq_true c4
            try have c4b2 : (9223372036854775807 < (strOfNums y749).size + x3_1.size) = False := eq_false (Nat.not_lt.2 c4)
            have H' := zq9 H; clear H
            go_wp2_with (first | ((with_reducible refine zq25 (N := 12) rfl ?_); refine Kd.R_lit (Kd.int .u8) _ 5 ?hg (N := 12) ?hd (xs := ([(wrap64 (48 + (Int.tmod x0_1 10))) % 256] : List Int)) (inner := [.int .u8 ((wrap64 (48 + (Int.tmod x0_1 10))) % 256)]) (ok := fun _ => True) (okp := fun _ => True) ?hr ?hp (fun _ hk => hk) trivial (Below.refl _ _) (Nat.le_refl _) (by simp) ?_; (case hd => rfl); (case hg => rfl); (case hr => first | (go_simp; done) | (go_simp; rfl)); (case hp => exact (Reps.one (show Kd.M (Kd.int .u8) _ _ _ ((wrap64 (48 + (Int.tmod x0_1 10))) % 256) [.int .u8 ((wrap64 (48 + (Int.tmod x0_1 10))) % 256)] from rfl) (Reps.none _ _))); intro v750 w5 ho6 hb hg_ hnew_; clear hg_ hnew_; (first | rw [← Ny749.out] at ho6 | (simp only [Int.reduceToNat] at ho6; rw [← Ny749.out] at ho6)); have n0_ := zq9 (Kd.R_lower ho6 (zq29 (by exact bl HB))); have n1_ := zq9 (zq27 (by exact bl HB) hb); clear HB; have HO751 := n0_; have HB := n1_; clear n0_ n1_; clear hb ho6; have hcv7 := own_string (P := Try.prog) Try.underlying36 Try.underlying5 Try.underlying9 (Kd.own_of_R HO751.out)))
            go_roundg k1
            case measure => have := HK1.out; omega
            case rel => exact ⟨(wrap64 (Int.tdiv x0_1 10)), ((strOfNums y749) ++ x3_1), (by first | rfl | (simp; done) | (simp [*]; done)), (by first | rfl | (simp; done) | (simp [*]; done)), H', ⟨by have := HK1.out; omega⟩, ⟨by exact bl HB⟩⟩
          · rw [if_neg c4] at H
            exact absurd H (by simp)
        · rw [if_neg c3] at H; have c3b0 : decide (0 < x0_1) = false := decide_eq_false c3; clear c3
          by_cases c8 : 1 + x3_1.size ≤ 9223372036854775807
          · rw [if_pos c8] at H
            have c8b0 := eq_true c8
            have c8b1 : decide (1 + x3_1.size ≤ 9223372036854775807) = true := decide_eq_true c8
            try have c8b2 : (9223372036854775807 < 1 + x3_1.size) = False := eq_false (Nat.not_lt.2 c8)
            obtain rfl := Option.some.inj H
            go_wp2
            go_ret
            exact fz (by exact bl HB)
          · rw [if_neg c8] at H
            exact absurd H (by simp)
set_option maxHeartbeats 8000000 in
set_option maxRecDepth 100000 in
theorem laws_markStringS.calls (k : Nat) (P0_ : Nat → Prop) (u9000_ : Value) (l0 : List ByteArray) (a1 : Int) (r1 : Int) (r2 : List ByteArray) (w0 w : World) (hB : Below w0.heap.size w0 w) (ho0 : Kd.R Kd.string 9 w w0.heap.size P0_ u9000_ l0) (h : laws_markStringS.f k l0 a1 = some (r1, r2)) :
    Calls Try.prog 25 #[u9000_, .int .i64 a1] w fun e w' => e = .returned (.int .i64 r1) ∧ Kd.R Kd.string 9 w' w0.heap.size (fun k_ => (P0_ k_ ∨ w.heap.size ≤ k_)) u9000_ r2 ∧ Below w0.heap.size w0 w' ∧ Kept w w' (fun k_ => P0_ k_) := by
  have HO0 := zq9 (show Kd.R Kd.string 9 w w0.heap.size (fun k_ => (P0_ k_ ∨ w.heap.size ≤ k_)) u9000_ l0 from Kd.R_mono ho0 (fun k_ hk => (.inl hk)))
  have HK := zq9 (Kept.refl w (fun k_ => P0_ k_))
  have HW0 := zq9 hB.size; have HB := zq9 hB; clear hB
  have H : (laws_markStringS.l0 k l0 a1 0) = some (r1, r2) := h
  clear h; have H' := zq9 H; clear H
  go_enter Try.func25, Try.ntmps25
  go_wp2
  go_loopg [1, 5] k (fun kq v1 v5 w' => ∃ (x0_1 : List ByteArray) (x1_1 : Int) (x5_1 : Int), v1 = .int .i64 x1_1 ∧ v5 = .int .i64 x5_1 ∧ Aside0 (laws_markStringS.l0 kq x0_1 x1_1 x5_1 = some (r1, r2)) ∧ Aside0 (kq ≤ k) ∧ Aside0 (Kd.R Kd.string 9 w' w0.heap.size (fun k_ => (P0_ k_ ∨ w.heap.size ≤ k_)) u9000_ x0_1) ∧ Aside0 (Kept w w' (fun k_ => P0_ k_)) ∧ Aside0 (Below w0.heap.size w0 w'))
  case atStart => exact ⟨(l0), (a1), (0), (by first | rfl | (simp; done) | (simp [*]; done)), (by first | rfl | (simp; done) | (simp [*]; done)), H', ⟨Nat.le_refl _⟩, ⟨by (with_reducible repeat (first | apply zq10 | apply zq11 | apply zq12)); exact HO0.out⟩, ⟨by repeat (first | (with_reducible first | exact HK.out | apply Kept.alloc | apply Kept.drewN | apply Kept.drew) | exact HK.out)⟩, ⟨by exact bl HB⟩⟩
  case round =>
    clear H'
    try clear c2
    try clear p2
    obtain ⟨x0_1, x1_1, x5_1, rfl, rfl, HA, HK1, HO_0, HK, HB⟩ := hrel
    cases gk with
    | zero => exact absurd HA.out (by simp [laws_markStringS.l0])
    | succ k1 =>
      have H := HA.out; clear HA
      simp only [laws_markStringS.l0] at H
      obtain ⟨Ao7, co7, eo7⟩ := Kd.R_slice HO_0.out
      subst eo7
      by_cases c3 : x5_1 < (x0_1.length : Int)
      · rw [if_pos c3] at H; have c3b0 : decide (x5_1 < (x0_1.length : Int)) = true := decide_eq_true c3; clear c3; replace H := Option.bind_eq_some_iff.mp H; obtain ⟨t752, A40, H⟩ := H
        try dsimp only at H
        have A4 := zq9 A40; clear A40
        by_cases c5 : 0 ≤ x5_1
        · rw [if_pos c5] at H; have c5b0 : decide (0 ≤ x5_1) = true := decide_eq_true c5; clear c5
          obtain ⟨y753, hy753⟩ : ∃ y_ : List ByteArray, y_ = (x0_1.set (x5_1 : Int).toNat t752) := ⟨_, rfl⟩
          replace H : (laws_markStringS.l0 k1 y753 (wrap64 (x1_1 + 1)) (wrap64 (x5_1 + 1))) = some (r1, r2) := by first | (rw [hy753]; with_reducible exact H) | (have H2_ := (Option.bind_some _ _).symm.trans H; rw [hy753]; with_reducible exact H2_) | (have H2_ := (Option.bind_some _ _).symm.trans H; with_reducible exact H2_) | with_reducible exact H | (rw [hy753]; exact H) | exact H
          have Ny753 := zq9 hy753; clear hy753; have H' := zq9 H; clear H
          go_wp2_with (first | ((with_reducible refine zq24 (f := 64) rfl ?_); refine gl (some 15) Try.func64 #[.int .i64 x1_1] ?_; (with_reducible refine (laws_markText.calls k1 x1_1 t752 _ A4.out).mono ?_); rintro e w8 ⟨rfl, hb⟩; refine ⟨_, rfl, ?_⟩; have n0_ := zq9 (Kd.R_below (by exact rz HO_0) hb); have n1_ := zq9 (Kept.below (S := (fun k_ => P0_ k_)) (by repeat (first | (with_reducible first | exact HK.out | apply Kept.alloc | apply Kept.drewN | apply Kept.drew) | exact HK.out)) hb); have n2_ := zq9 (zq27 (by exact bl HB) hb); clear HO_0; clear HK; clear HB; have HO_0 := n0_; have HK := n1_; have HB := n2_; clear n0_ n1_ n2_; (try clear hb); (try clear hb2); (try clear hk); (try clear hi); have p6 : 0 ≤ (x5_1 : Int) := of_decide_eq_true ‹_›; have q6 : (x5_1 : Int) < ((x0_1.length : Int) : Int) := of_decide_eq_true ‹_›; obtain ⟨go6, co6, eo6, gb6, gl6, cl6, HG6⟩ := Kd.R_form HO_0.out (by omega); (first | cases eo6 | (injection eo6 with ea_ en_ ec_; (first | subst ea_ | (injection ea_ with ea_; subst ea_)); subst ec_; clear en_)); have GB6 := zq9 gb6; have GG6 := zq9 HG6; clear gb6 gl6 HG6; have HMgo6 := zq9 (show (P0_ go6 ∨ w.heap.size ≤ go6) from (HO_0.out.1 _ rfl)); obtain ⟨hx6_0, hf6_0⟩ := Kd.R_celln (⟨#[]⟩ : ByteArray) HO_0.out (x5_1 : Int) p6 q6; replace p6 := eq_true p6; replace q6 := eq_true q6; obtain ⟨hy9_, hz9_⟩ := Kd.R_celln (⟨#[]⟩ : ByteArray) HO_0.out (x5_1 : Int) (of_decide_eq_true ‹_›) (of_decide_eq_true ‹_›); have HP9 := Kd.R_putg HO_0.out (x5_1 : Int) t752) | ((with_reducible refine zq26 (t := 9) (p := 16) rfl ?_); refine store_event (t := 9) (p := 16) (v := ?vo_w10) (w1 := (w8.setCell ⟨go6, (x5_1 : Int).toNat, none⟩ (.string t752))) ?hg ?ho ?hn ?hr ?_; (case ho => rfl); (case hg => rfl); (case hn => rfl); (case hr => first | (go_simp; done) | (go_simp; rfl)); intro w10 hw; have hg : w8.grownBy w10 (some go6) := (by rw [hw]; exact HP9.2); have hp_ : Kd.R Kd.string 9 w10 w0.heap.size (fun k_ => (P0_ k_ ∨ w.heap.size ≤ k_)) (.slice (some ⟨go6, 0, none⟩) x0_1.length co7) y753 := (by rw [hw, Ny753.out]; exact HP9.1); clear HP9; have n0_ := zq9 (hp_); have n1_ := zq9 ((by rw [hw]; exact zq28 (HB.out) GB6.out : Below w0.heap.size w0 w10)); have n2_ := zq9 (Kept.of_grown (S := (fun k_ => P0_ k_)) hg (by repeat (first | (with_reducible first | exact HK.out | apply Kept.alloc | apply Kept.drewN | apply Kept.drew) | exact HK.out)) (fun k_ e_ => (HO_0.out.1 k_ e_))); clear HO_0; clear HB; clear HK; have HO_0 := n0_; have HB := n1_; have HK := n2_; clear n0_ n1_ n2_; clear hg hw hp_))
          go_roundg k1
          case measure => have := HK1.out; omega
          case rel => exact ⟨(y753), (wrap64 (x1_1 + 1)), (wrap64 (x5_1 + 1)), (by first | rfl | (simp; done) | (simp [*]; done)), (by first | rfl | (simp; done) | (simp [*]; done)), H', ⟨by have := HK1.out; omega⟩, ⟨by (with_reducible repeat (first | apply zq10 | apply zq11 | apply zq12)); exact HO_0.out⟩, ⟨by repeat (first | (with_reducible first | exact HK.out | apply Kept.alloc | apply Kept.drewN | apply Kept.drew) | exact HK.out)⟩, ⟨by exact bl HB⟩⟩
        · rw [if_neg c5] at H
          exact absurd H (by simp)
      · rw [if_neg c3] at H; have c3b0 : decide (x5_1 < (x0_1.length : Int)) = false := decide_eq_false c3; clear c3
        simp only [Option.some.injEq, Prod.mk.injEq] at H
        obtain ⟨rfl, rfl⟩ := H
        go_wp2
        go_ret
        exact ⟨by first | rfl | (simp [errW_none, errW_some] <;> rfl) | (simp [*, errW_none, errW_some] <;> rfl), by (with_reducible repeat (first | apply zq10 | apply zq11 | apply zq12)); exact HO_0.out, by exact bl HB, by repeat (first | (with_reducible first | exact HK.out | apply Kept.alloc | apply Kept.drewN | apply Kept.drew) | exact HK.out)⟩
set_option maxHeartbeats 8000000 in
set_option maxRecDepth 100000 in
theorem laws_markScoreS.calls (k : Nat) (P0_ : Nat → Prop) (u9000_ : Value) (l0 : List (S99)) (a1 : Int) (r1 : Int) (r2 : List (S99)) (w0 w : World) (hB : Below w0.heap.size w0 w) (ho0 : Kd.R k99 99 w w0.heap.size P0_ u9000_ l0) (h : laws_markScoreS.f k l0 a1 = some (r1, r2)) :
    Calls Try.prog 69 #[u9000_, .int .i64 a1] w fun e w' => e = .returned (.int .i64 r1) ∧ Kd.R k99 99 w' w0.heap.size (fun k_ => (P0_ k_ ∨ w.heap.size ≤ k_)) u9000_ r2 ∧ Below w0.heap.size w0 w' ∧ Kept w w' (fun k_ => P0_ k_) := by
  have HO0 := zq9 (show Kd.R k99 99 w w0.heap.size (fun k_ => (P0_ k_ ∨ w.heap.size ≤ k_)) u9000_ l0 from Kd.R_mono ho0 (fun k_ hk => (.inl hk)))
  have HK := zq9 (Kept.refl w (fun k_ => P0_ k_))
  have HW0 := zq9 hB.size; have HB := zq9 hB; clear hB
  have H : (laws_markScoreS.l0 k l0 a1 0) = some (r1, r2) := h
  clear h; have H' := zq9 H; clear H
  go_enter Try.func69, Try.ntmps69
  go_wp2
  go_loopg [1, 5] k (fun kq v1 v5 w' => ∃ (x0_1 : List (S99)) (x1_1 : Int) (x5_1 : Int), v1 = .int .i64 x1_1 ∧ v5 = .int .i64 x5_1 ∧ Aside0 (laws_markScoreS.l0 kq x0_1 x1_1 x5_1 = some (r1, r2)) ∧ Aside0 (kq ≤ k) ∧ Aside0 (Kd.R k99 99 w' w0.heap.size (fun k_ => (P0_ k_ ∨ w.heap.size ≤ k_)) u9000_ x0_1) ∧ Aside0 (Kept w w' (fun k_ => P0_ k_)) ∧ Aside0 (Below w0.heap.size w0 w'))
  case atStart => exact ⟨(l0), (a1), (0), (by first | rfl | (simp; done) | (simp [*]; done)), (by first | rfl | (simp; done) | (simp [*]; done)), H', ⟨Nat.le_refl _⟩, ⟨by (with_reducible repeat (first | apply zq10 | apply zq11 | apply zq12)); exact HO0.out⟩, ⟨by repeat (first | (with_reducible first | exact HK.out | apply Kept.alloc | apply Kept.drewN | apply Kept.drew) | exact HK.out)⟩, ⟨by exact bl HB⟩⟩
  case round =>
    clear H'
    try clear p2
    obtain ⟨x0_1, x1_1, x5_1, rfl, rfl, HA, HK1, HO_0, HK, HB⟩ := hrel
    cases gk with
    | zero => exact absurd HA.out (by simp [laws_markScoreS.l0])
    | succ k1 =>
      have H := HA.out; clear HA
      simp only [laws_markScoreS.l0] at H
      obtain ⟨Ao8, co8, eo8⟩ := Kd.R_slice HO_0.out
      subst eo8
      by_cases c3 : x5_1 < (x0_1.length : Int)
      · rw [if_pos c3] at H; have c3b0 : decide (x5_1 < (x0_1.length : Int)) = true := decide_eq_true c3; clear c3; replace H := Option.bind_eq_some_iff.mp H; obtain ⟨t754, A40, H⟩ := H
        try dsimp only at H
        have A4 := zq9 A40; clear A40
        by_cases c5 : 0 ≤ x5_1
        · rw [if_pos c5] at H; have c5b0 : decide (0 ≤ x5_1) = true := decide_eq_true c5; clear c5
          obtain ⟨y755, hy755⟩ : ∃ y_ : List (S99), y_ = (x0_1.set (x5_1 : Int).toNat (⟨t754, (rd_T99 x0_1 x5_1).f1⟩ : S99)) := ⟨_, rfl⟩
          replace H : (laws_markScoreS.l0 k1 (y755.set (x5_1 : Int).toNat (⟨(rd_T99 y755 x5_1).f0, wrap64 (x1_1 + 1)⟩ : S99)) (wrap64 ((wrap64 (x1_1 + 1)) + 1)) (wrap64 (x5_1 + 1))) = some (r1, r2) := by first | (rw [hy755]; with_reducible exact H) | (have H2_ := (Option.bind_some _ _).symm.trans H; rw [hy755]; with_reducible exact H2_) | (have H2_ := (Option.bind_some _ _).symm.trans H; with_reducible exact H2_) | with_reducible exact H | (rw [hy755]; exact H) | exact H
          have Ny755 := zq9 hy755; clear hy755
          obtain ⟨y756, hy756⟩ : ∃ y_ : List (S99), y_ = (y755.set (x5_1 : Int).toNat (⟨(rd_T99 y755 x5_1).f0, wrap64 (x1_1 + 1)⟩ : S99)) := ⟨_, rfl⟩
          replace H : (laws_markScoreS.l0 k1 y756 (wrap64 ((wrap64 (x1_1 + 1)) + 1)) (wrap64 (x5_1 + 1))) = some (r1, r2) := by first | (rw [hy756]; with_reducible exact H) | (have H2_ := (Option.bind_some _ _).symm.trans H; rw [hy756]; with_reducible exact H2_) | (have H2_ := (Option.bind_some _ _).symm.trans H; with_reducible exact H2_) | with_reducible exact H | (rw [hy756]; exact H) | exact H
          have Ny756 := zq9 hy756; clear hy756; have H' := zq9 H; clear H
          go_wp2_with (first | ((with_reducible refine zq24 (f := 64) rfl ?_); refine gl (some 15) Try.func64 #[.int .i64 x1_1] ?_; (with_reducible refine (laws_markText.calls k1 x1_1 t754 _ A4.out).mono ?_); rintro e w9 ⟨rfl, hb⟩; refine ⟨_, rfl, ?_⟩; have n0_ := zq9 (Kd.R_below (by exact rz HO_0) hb); have n1_ := zq9 (Kept.below (S := (fun k_ => P0_ k_)) (by repeat (first | (with_reducible first | exact HK.out | apply Kept.alloc | apply Kept.drewN | apply Kept.drew) | exact HK.out)) hb); have n2_ := zq9 (zq27 (by exact bl HB) hb); clear HO_0; clear HK; clear HB; have HO_0 := n0_; have HK := n1_; have HB := n2_; clear n0_ n1_ n2_; (try clear hb); (try clear hb2); (try clear hk); (try clear hi); have p6 : 0 ≤ (x5_1 : Int) := of_decide_eq_true ‹_›; have q6 : (x5_1 : Int) < ((x0_1.length : Int) : Int) := of_decide_eq_true ‹_›; obtain ⟨go6, co6, eo6, gb6, gl6, cl6, HG6⟩ := Kd.R_form HO_0.out (by omega); (first | cases eo6 | (injection eo6 with ea_ en_ ec_; (first | subst ea_ | (injection ea_ with ea_; subst ea_)); subst ec_; clear en_)); have GB6 := zq9 gb6; have GG6 := zq9 HG6; clear gb6 gl6 HG6; have HMgo6 := zq9 (show (P0_ go6 ∨ w.heap.size ≤ go6) from (HO_0.out.1 _ rfl)); obtain ⟨ce6, hcl6, hM6, hcc6, hfr6⟩ := Kd.R_elem HO_0.out z99 (x5_1 : Int) p6 q6; obtain rfl := k99_openM hM6; have hx6_0 : w9.cell? ⟨go6, (x5_1 : Int).toNat * 2, none⟩ = some (.string ((rd_T99 x0_1 x5_1).f0)) := hcc6 0 _ rfl; have hx6_1 : w9.cell? ⟨go6, (x5_1 : Int).toNat * 2 + 1, none⟩ = some (.int .i64 ((rd_T99 x0_1 x5_1).f1)) := hcc6 1 _ rfl; have hf6_0 : w9.frozen? ⟨go6, (x5_1 : Int).toNat * 2, none⟩ = false := hfr6 0; have hf6_1 : w9.frozen? ⟨go6, (x5_1 : Int).toNat * 2 + 1, none⟩ = false := hfr6 1; clear hcl6 hcc6 hfr6 hM6; replace p6 := eq_true p6; replace q6 := eq_true q6; have HX10 := zq9 (show Kd.R k99 99 w9 w0.heap.size (fun k_ => (P0_ k_ ∨ w.heap.size ≤ k_)) (.slice (some ⟨go6, 0, none⟩) x0_1.length co8) x0_1 from (by exact rz HO_0)); obtain ⟨ce10, hcl10, hM10, hcc10, hfr10⟩ := Kd.R_elem HX10.out z99 (x5_1 : Int) (of_decide_eq_true ‹_›) (by have h_ : (x5_1 : Int) < ((x0_1.length : Int) : Int) := of_decide_eq_true ‹_›; first | exact h_ | (have e_ := (Kd.R_reads' HO_0.out).1; omega) | simpa using h_); obtain rfl := k99_openM hM10; have HP10 := Kd.R_seg HX10.out (x5_1 : Int) (of_decide_eq_true ‹_›) (by have h_ : (x5_1 : Int) < ((x0_1.length : Int) : Int) := of_decide_eq_true ‹_›; first | exact h_ | (have e_ := (Kd.R_reads' HO_0.out).1; omega) | simpa using h_) (seg := [.string t754]) (j := 0) hcl10 hcc10 (show 1 ≤ 2 from by decide) (x' := (⟨t754, (rd_T99 x0_1 x5_1).f1⟩ : S99)) (k99_mkM _ _ _ (⟨t754, (rd_T99 x0_1 x5_1).f1⟩ : S99) ) (fun _ hk => hk); have hx10_0 := hcc10 0 _ rfl; (try simp only [show (k99).sz = 2 from rfl, Nat.mul_one, Nat.add_zero] at hx10_0); have hf10_0 := hfr10 0; (try simp only [show (k99).sz = 2 from rfl, Nat.mul_one, Nat.add_zero] at hf10_0); clear hcl10 hcc10 hfr10 hM10) | ((with_reducible refine zq26 (t := 9) (p := 17) rfl ?_); refine store_event (t := 9) (p := 17) (v := ?vo_w11) (w1 := (w9.setCell ⟨go6, (x5_1 : Int).toNat * 2, none⟩ (.string t754))) ?hg ?ho ?hn ?hr ?_; (case ho => rfl); (case hg => rfl); (case hn => rfl); (case hr => first | (go_simp; done) | (go_simp; rfl)); intro w11 hw; have hg : w9.grownBy w11 (some go6) := (by rw [hw]; exact HP10.2); have hp_ : Kd.R k99 99 w11 w0.heap.size (fun k_ => (P0_ k_ ∨ w.heap.size ≤ k_)) (.slice (some ⟨go6, 0, none⟩) x0_1.length co8) y755 := (by rw [hw, Ny755.out]; exact HP10.1); clear HP10; have n0_ := zq9 (hp_); have n1_ := zq9 ((by rw [hw]; exact zq28 (HB.out) GB6.out : Below w0.heap.size w0 w11)); have n2_ := zq9 (Kept.of_grown (S := (fun k_ => P0_ k_)) hg (by repeat (first | (with_reducible first | exact HK.out | apply Kept.alloc | apply Kept.drewN | apply Kept.drew) | exact HK.out)) (fun k_ e_ => (HO_0.out.1 k_ e_))); clear HO_0; clear HB; clear HK; have HO_0 := n0_; have HB := n1_; have HK := n2_; clear n0_ n1_ n2_; clear hg hw hp_; have p7 : 0 ≤ (x5_1 : Int) := of_decide_eq_true ‹_›; have q7 : (x5_1 : Int) < ((x0_1.length : Int) : Int) := of_decide_eq_true ‹_›; obtain ⟨ce7, hcl7, hM7, hcc7, hfr7⟩ := Kd.R_elem HO_0.out z99 (x5_1 : Int) p7 q7; obtain rfl := k99_openM hM7; have hx7_0 : w11.cell? ⟨go6, (x5_1 : Int).toNat * 2, none⟩ = some (.string ((rd_T99 y755 x5_1).f0)) := hcc7 0 _ rfl; have hx7_1 : w11.cell? ⟨go6, (x5_1 : Int).toNat * 2 + 1, none⟩ = some (.int .i64 ((rd_T99 y755 x5_1).f1)) := hcc7 1 _ rfl; have hf7_0 : w11.frozen? ⟨go6, (x5_1 : Int).toNat * 2, none⟩ = false := hfr7 0; have hf7_1 : w11.frozen? ⟨go6, (x5_1 : Int).toNat * 2 + 1, none⟩ = false := hfr7 1; clear hcl7 hcc7 hfr7 hM7; replace p7 := eq_true p7; replace q7 := eq_true q7; have HX12 := zq9 (show Kd.R k99 99 w11 w0.heap.size (fun k_ => (P0_ k_ ∨ w.heap.size ≤ k_)) (.slice (some ⟨go6, 0, none⟩) x0_1.length co8) y755 from (by exact rz HO_0)); obtain ⟨ce12, hcl12, hM12, hcc12, hfr12⟩ := Kd.R_elem HX12.out z99 (x5_1 : Int) (of_decide_eq_true ‹_›) (by have h_ : (x5_1 : Int) < ((x0_1.length : Int) : Int) := of_decide_eq_true ‹_›; first | exact h_ | (have e_ := (Kd.R_reads' HO_0.out).1; omega) | simpa using h_); obtain rfl := k99_openM hM12; have HP12 := Kd.R_seg HX12.out (x5_1 : Int) (of_decide_eq_true ‹_›) (by have h_ : (x5_1 : Int) < ((x0_1.length : Int) : Int) := of_decide_eq_true ‹_›; first | exact h_ | (have e_ := (Kd.R_reads' HO_0.out).1; omega) | simpa using h_) (seg := [.int .i64 (wrap64 (x1_1 + 1))]) (j := 1) hcl12 hcc12 (show 2 ≤ 2 from by decide) (x' := (⟨(rd_T99 y755 x5_1).f0, wrap64 (x1_1 + 1)⟩ : S99)) (k99_mkM _ _ _ (⟨(rd_T99 y755 x5_1).f0, wrap64 (x1_1 + 1)⟩ : S99) ) (fun _ hk => hk); have hx12_1 := hcc12 1 _ rfl; (try simp only [show (k99).sz = 2 from rfl, Nat.mul_one, Nat.add_zero] at hx12_1); have hf12_1 := hfr12 1; (try simp only [show (k99).sz = 2 from rfl, Nat.mul_one, Nat.add_zero] at hf12_1); clear hcl12 hcc12 hfr12 hM12) | ((with_reducible refine zq26 (t := 3) (p := 24) rfl ?_); refine store_event (t := 3) (p := 24) (v := ?vo_w13) (w1 := (w11.setCell ⟨go6, (x5_1 : Int).toNat * 2 + 1, none⟩ (.int .i64 (wrap64 (x1_1 + 1))))) ?hg ?ho ?hn ?hr ?_; (case ho => rfl); (case hg => rfl); (case hn => rfl); (case hr => first | (go_simp; done) | (go_simp; rfl)); intro w13 hw; have hg : w11.grownBy w13 (some go6) := (by rw [hw]; exact HP12.2); have hp_ : Kd.R k99 99 w13 w0.heap.size (fun k_ => (P0_ k_ ∨ w.heap.size ≤ k_)) (.slice (some ⟨go6, 0, none⟩) x0_1.length co8) y756 := (by rw [hw, Ny756.out]; exact HP12.1); clear HP12; have n0_ := zq9 (hp_); have n1_ := zq9 ((by rw [hw]; exact zq28 (HB.out) GB6.out : Below w0.heap.size w0 w13)); have n2_ := zq9 (Kept.of_grown (S := (fun k_ => P0_ k_)) hg (by repeat (first | (with_reducible first | exact HK.out | apply Kept.alloc | apply Kept.drewN | apply Kept.drew) | exact HK.out)) (fun k_ e_ => (HO_0.out.1 k_ e_))); clear HO_0; clear HB; clear HK; have HO_0 := n0_; have HB := n1_; have HK := n2_; clear n0_ n1_ n2_; clear hg hw hp_))
          go_roundg k1
          case measure => have := HK1.out; omega
          case rel => exact ⟨(y756), (wrap64 ((wrap64 (x1_1 + 1)) + 1)), (wrap64 (x5_1 + 1)), (by first | rfl | (simp; done) | (simp [*]; done)), (by first | rfl | (simp; done) | (simp [*]; done)), H', ⟨by have := HK1.out; omega⟩, ⟨by (with_reducible repeat (first | apply zq10 | apply zq11 | apply zq12)); exact HO_0.out⟩, ⟨by repeat (first | (with_reducible first | exact HK.out | apply Kept.alloc | apply Kept.drewN | apply Kept.drew) | exact HK.out)⟩, ⟨by exact bl HB⟩⟩
        · rw [if_neg c5] at H
          exact absurd H (by simp)
      · rw [if_neg c3] at H; have c3b0 : decide (x5_1 < (x0_1.length : Int)) = false := decide_eq_false c3; clear c3
        simp only [Option.some.injEq, Prod.mk.injEq] at H
        obtain ⟨rfl, rfl⟩ := H
        go_wp2
        go_ret
        exact ⟨by first | rfl | (simp [errW_none, errW_some] <;> rfl) | (simp [*, errW_none, errW_some] <;> rfl), by (with_reducible repeat (first | apply zq10 | apply zq11 | apply zq12)); exact HO_0.out, by exact bl HB, by repeat (first | (with_reducible first | exact HK.out | apply Kept.alloc | apply Kept.drewN | apply Kept.drew) | exact HK.out)⟩
set_option maxHeartbeats 8000000 in
set_option maxRecDepth 100000 in
theorem laws_markPairS.calls (k : Nat) (P0_ : Nat → Prop) (u9000_ : Value) (l0 : List (S101)) (a1 : Int) (r1 : Int) (r2 : List (S101)) (w0 w : World) (hB : Below w0.heap.size w0 w) (ho0 : Kd.R k101 101 w w0.heap.size P0_ u9000_ l0) (h : laws_markPairS.f k l0 a1 = some (r1, r2)) :
    Calls Try.prog 70 #[u9000_, .int .i64 a1] w fun e w' => e = .returned (.int .i64 r1) ∧ Kd.R k101 101 w' w0.heap.size (fun k_ => (P0_ k_ ∨ w.heap.size ≤ k_)) u9000_ r2 ∧ Below w0.heap.size w0 w' ∧ Kept w w' (fun k_ => P0_ k_) := by
  have HO0 := zq9 (show Kd.R k101 101 w w0.heap.size (fun k_ => (P0_ k_ ∨ w.heap.size ≤ k_)) u9000_ l0 from Kd.R_mono ho0 (fun k_ hk => (.inl hk)))
  have HK := zq9 (Kept.refl w (fun k_ => P0_ k_))
  have HW0 := zq9 hB.size; have HB := zq9 hB; clear hB
  have H : (laws_markPairS.l0 k l0 a1 0) = some (r1, r2) := h
  clear h; have H' := zq9 H; clear H
  go_enter Try.func70, Try.ntmps70
  go_wp2
  go_loopg [1, 5] k (fun kq v1 v5 w' => ∃ (x0_1 : List (S101)) (x1_1 : Int) (x5_1 : Int), v1 = .int .i64 x1_1 ∧ v5 = .int .i64 x5_1 ∧ Aside0 (laws_markPairS.l0 kq x0_1 x1_1 x5_1 = some (r1, r2)) ∧ Aside0 (kq ≤ k) ∧ Aside0 (Kd.R k101 101 w' w0.heap.size (fun k_ => (P0_ k_ ∨ w.heap.size ≤ k_)) u9000_ x0_1) ∧ Aside0 (Kept w w' (fun k_ => P0_ k_)) ∧ Aside0 (Below w0.heap.size w0 w'))
  case atStart => exact ⟨(l0), (a1), (0), (by first | rfl | (simp; done) | (simp [*]; done)), (by first | rfl | (simp; done) | (simp [*]; done)), H', ⟨Nat.le_refl _⟩, ⟨by (with_reducible repeat (first | apply zq10 | apply zq11 | apply zq12)); exact HO0.out⟩, ⟨by repeat (first | (with_reducible first | exact HK.out | apply Kept.alloc | apply Kept.drewN | apply Kept.drew) | exact HK.out)⟩, ⟨by exact bl HB⟩⟩
  case round =>
    clear H'
    try clear p2
    obtain ⟨x0_1, x1_1, x5_1, rfl, rfl, HA, HK1, HO_0, HK, HB⟩ := hrel
    cases gk with
    | zero => exact absurd HA.out (by simp [laws_markPairS.l0])
    | succ k1 =>
      have H := HA.out; clear HA
      simp only [laws_markPairS.l0] at H
      obtain ⟨Ao9, co9, eo9⟩ := Kd.R_slice HO_0.out
      subst eo9
      by_cases c3 : x5_1 < (x0_1.length : Int)
      · rw [if_pos c3] at H; have c3b0 : decide (x5_1 < (x0_1.length : Int)) = true := decide_eq_true c3; clear c3; replace H := Option.bind_eq_some_iff.mp H; obtain ⟨t757, A40, H⟩ := H
        try dsimp only at H
        have A4 := zq9 A40; clear A40
        by_cases c5 : 0 ≤ x5_1
        · rw [if_pos c5] at H; have c5b0 : decide (0 ≤ x5_1) = true := decide_eq_true c5; clear c5
          obtain ⟨y758, hy758⟩ : ∃ y_ : List (S101), y_ = (x0_1.set (x5_1 : Int).toNat (⟨t757, (rd_T101 x0_1 x5_1).f1⟩ : S101)) := ⟨_, rfl⟩
          replace H : ((laws_markText.f k1 (wrap64 (x1_1 + 1))).bind fun t759 => (laws_markPairS.l0 k1 (y758.set (x5_1 : Int).toNat (⟨(rd_T101 y758 x5_1).f0, t759⟩ : S101)) (wrap64 ((wrap64 (x1_1 + 1)) + 1)) (wrap64 (x5_1 + 1)))) = some (r1, r2) := by first | (rw [hy758]; with_reducible exact H) | (have H2_ := (Option.bind_some _ _).symm.trans H; rw [hy758]; with_reducible exact H2_) | (have H2_ := (Option.bind_some _ _).symm.trans H; with_reducible exact H2_) | with_reducible exact H | (rw [hy758]; exact H) | exact H
          have Ny758 := zq9 hy758; clear hy758; replace H := Option.bind_eq_some_iff.mp H; obtain ⟨t759, A70, H⟩ := H
          try dsimp only at H
          have A7 := zq9 A70; clear A70
          obtain ⟨y760, hy760⟩ : ∃ y_ : List (S101), y_ = (y758.set (x5_1 : Int).toNat (⟨(rd_T101 y758 x5_1).f0, t759⟩ : S101)) := ⟨_, rfl⟩
          replace H : (laws_markPairS.l0 k1 y760 (wrap64 ((wrap64 (x1_1 + 1)) + 1)) (wrap64 (x5_1 + 1))) = some (r1, r2) := by first | (rw [hy760]; with_reducible exact H) | (have H2_ := (Option.bind_some _ _).symm.trans H; rw [hy760]; with_reducible exact H2_) | (have H2_ := (Option.bind_some _ _).symm.trans H; with_reducible exact H2_) | with_reducible exact H | (rw [hy760]; exact H) | exact H
          have Ny760 := zq9 hy760; clear hy760; have H' := zq9 H; clear H
          go_wp2_with (first | ((with_reducible refine zq24 (f := 64) rfl ?_); refine gl (some 15) Try.func64 #[.int .i64 x1_1] ?_; (with_reducible refine (laws_markText.calls k1 x1_1 t757 _ A4.out).mono ?_); rintro e w10 ⟨rfl, hb⟩; refine ⟨_, rfl, ?_⟩; have n0_ := zq9 (Kd.R_below (by exact rz HO_0) hb); have n1_ := zq9 (Kept.below (S := (fun k_ => P0_ k_)) (by repeat (first | (with_reducible first | exact HK.out | apply Kept.alloc | apply Kept.drewN | apply Kept.drew) | exact HK.out)) hb); have n2_ := zq9 (zq27 (by exact bl HB) hb); clear HO_0; clear HK; clear HB; have HO_0 := n0_; have HK := n1_; have HB := n2_; clear n0_ n1_ n2_; (try clear hb); (try clear hb2); (try clear hk); (try clear hi); have p6 : 0 ≤ (x5_1 : Int) := of_decide_eq_true ‹_›; have q6 : (x5_1 : Int) < ((x0_1.length : Int) : Int) := of_decide_eq_true ‹_›; obtain ⟨go6, co6, eo6, gb6, gl6, cl6, HG6⟩ := Kd.R_form HO_0.out (by omega); (first | cases eo6 | (injection eo6 with ea_ en_ ec_; (first | subst ea_ | (injection ea_ with ea_; subst ea_)); subst ec_; clear en_)); have GB6 := zq9 gb6; have GG6 := zq9 HG6; clear gb6 gl6 HG6; have HMgo6 := zq9 (show (P0_ go6 ∨ w.heap.size ≤ go6) from (HO_0.out.1 _ rfl)); obtain ⟨ce6, hcl6, hM6, hcc6, hfr6⟩ := Kd.R_elem HO_0.out z101 (x5_1 : Int) p6 q6; obtain rfl := k101_openM hM6; have hx6_0 : w10.cell? ⟨go6, (x5_1 : Int).toNat * 2, none⟩ = some (.string ((rd_T101 x0_1 x5_1).f0)) := hcc6 0 _ rfl; have hx6_1 : w10.cell? ⟨go6, (x5_1 : Int).toNat * 2 + 1, none⟩ = some (.string ((rd_T101 x0_1 x5_1).f1)) := hcc6 1 _ rfl; have hf6_0 : w10.frozen? ⟨go6, (x5_1 : Int).toNat * 2, none⟩ = false := hfr6 0; have hf6_1 : w10.frozen? ⟨go6, (x5_1 : Int).toNat * 2 + 1, none⟩ = false := hfr6 1; clear hcl6 hcc6 hfr6 hM6; replace p6 := eq_true p6; replace q6 := eq_true q6; have HX11 := zq9 (show Kd.R k101 101 w10 w0.heap.size (fun k_ => (P0_ k_ ∨ w.heap.size ≤ k_)) (.slice (some ⟨go6, 0, none⟩) x0_1.length co9) x0_1 from (by exact rz HO_0)); obtain ⟨ce11, hcl11, hM11, hcc11, hfr11⟩ := Kd.R_elem HX11.out z101 (x5_1 : Int) (of_decide_eq_true ‹_›) (by have h_ : (x5_1 : Int) < ((x0_1.length : Int) : Int) := of_decide_eq_true ‹_›; first | exact h_ | (have e_ := (Kd.R_reads' HO_0.out).1; omega) | simpa using h_); obtain rfl := k101_openM hM11; have HP11 := Kd.R_seg HX11.out (x5_1 : Int) (of_decide_eq_true ‹_›) (by have h_ : (x5_1 : Int) < ((x0_1.length : Int) : Int) := of_decide_eq_true ‹_›; first | exact h_ | (have e_ := (Kd.R_reads' HO_0.out).1; omega) | simpa using h_) (seg := [.string t757]) (j := 0) hcl11 hcc11 (show 1 ≤ 2 from by decide) (x' := (⟨t757, (rd_T101 x0_1 x5_1).f1⟩ : S101)) (k101_mkM _ _ _ (⟨t757, (rd_T101 x0_1 x5_1).f1⟩ : S101) ) (fun _ hk => hk); have hx11_0 := hcc11 0 _ rfl; (try simp only [show (k101).sz = 2 from rfl, Nat.mul_one, Nat.add_zero] at hx11_0); have hf11_0 := hfr11 0; (try simp only [show (k101).sz = 2 from rfl, Nat.mul_one, Nat.add_zero] at hf11_0); clear hcl11 hcc11 hfr11 hM11) | ((with_reducible refine zq26 (t := 9) (p := 17) rfl ?_); refine store_event (t := 9) (p := 17) (v := ?vo_w12) (w1 := (w10.setCell ⟨go6, (x5_1 : Int).toNat * 2, none⟩ (.string t757))) ?hg ?ho ?hn ?hr ?_; (case ho => rfl); (case hg => rfl); (case hn => rfl); (case hr => first | (go_simp; done) | (go_simp; rfl)); intro w12 hw; have hg : w10.grownBy w12 (some go6) := (by rw [hw]; exact HP11.2); have hp_ : Kd.R k101 101 w12 w0.heap.size (fun k_ => (P0_ k_ ∨ w.heap.size ≤ k_)) (.slice (some ⟨go6, 0, none⟩) x0_1.length co9) y758 := (by rw [hw, Ny758.out]; exact HP11.1); clear HP11; have n0_ := zq9 (hp_); have n1_ := zq9 ((by rw [hw]; exact zq28 (HB.out) GB6.out : Below w0.heap.size w0 w12)); have n2_ := zq9 (Kept.of_grown (S := (fun k_ => P0_ k_)) hg (by repeat (first | (with_reducible first | exact HK.out | apply Kept.alloc | apply Kept.drewN | apply Kept.drew) | exact HK.out)) (fun k_ e_ => (HO_0.out.1 k_ e_))); clear HO_0; clear HB; clear HK; have HO_0 := n0_; have HB := n1_; have HK := n2_; clear n0_ n1_ n2_; clear hg hw hp_) | ((with_reducible refine zq24 (f := 64) rfl ?_); refine gl (some 23) Try.func64 #[.int .i64 (wrap64 (x1_1 + 1))] ?_; (with_reducible refine (laws_markText.calls k1 (wrap64 (x1_1 + 1)) t759 _ A7.out).mono ?_); rintro e w13 ⟨rfl, hb⟩; refine ⟨_, rfl, ?_⟩; have n0_ := zq9 (Kd.R_below (by exact rz HO_0) hb); have n1_ := zq9 (Kept.below (S := (fun k_ => P0_ k_)) (by repeat (first | (with_reducible first | exact HK.out | apply Kept.alloc | apply Kept.drewN | apply Kept.drew) | exact HK.out)) hb); have n2_ := zq9 (zq27 (by exact bl HB) hb); clear HO_0; clear HK; clear HB; have HO_0 := n0_; have HK := n1_; have HB := n2_; clear n0_ n1_ n2_; (try clear hb); (try clear hb2); (try clear hk); (try clear hi); have p8 : 0 ≤ (x5_1 : Int) := of_decide_eq_true ‹_›; have q8 : (x5_1 : Int) < ((x0_1.length : Int) : Int) := of_decide_eq_true ‹_›; obtain ⟨ce8, hcl8, hM8, hcc8, hfr8⟩ := Kd.R_elem HO_0.out z101 (x5_1 : Int) p8 q8; obtain rfl := k101_openM hM8; have hx8_0 : w13.cell? ⟨go6, (x5_1 : Int).toNat * 2, none⟩ = some (.string ((rd_T101 y758 x5_1).f0)) := hcc8 0 _ rfl; have hx8_1 : w13.cell? ⟨go6, (x5_1 : Int).toNat * 2 + 1, none⟩ = some (.string ((rd_T101 y758 x5_1).f1)) := hcc8 1 _ rfl; have hf8_0 : w13.frozen? ⟨go6, (x5_1 : Int).toNat * 2, none⟩ = false := hfr8 0; have hf8_1 : w13.frozen? ⟨go6, (x5_1 : Int).toNat * 2 + 1, none⟩ = false := hfr8 1; clear hcl8 hcc8 hfr8 hM8; replace p8 := eq_true p8; replace q8 := eq_true q8; have HX14 := zq9 (show Kd.R k101 101 w13 w0.heap.size (fun k_ => (P0_ k_ ∨ w.heap.size ≤ k_)) (.slice (some ⟨go6, 0, none⟩) x0_1.length co9) y758 from (by exact rz HO_0)); obtain ⟨ce14, hcl14, hM14, hcc14, hfr14⟩ := Kd.R_elem HX14.out z101 (x5_1 : Int) (of_decide_eq_true ‹_›) (by have h_ : (x5_1 : Int) < ((x0_1.length : Int) : Int) := of_decide_eq_true ‹_›; first | exact h_ | (have e_ := (Kd.R_reads' HO_0.out).1; omega) | simpa using h_); obtain rfl := k101_openM hM14; have HP14 := Kd.R_seg HX14.out (x5_1 : Int) (of_decide_eq_true ‹_›) (by have h_ : (x5_1 : Int) < ((x0_1.length : Int) : Int) := of_decide_eq_true ‹_›; first | exact h_ | (have e_ := (Kd.R_reads' HO_0.out).1; omega) | simpa using h_) (seg := [.string t759]) (j := 1) hcl14 hcc14 (show 2 ≤ 2 from by decide) (x' := (⟨(rd_T101 y758 x5_1).f0, t759⟩ : S101)) (k101_mkM _ _ _ (⟨(rd_T101 y758 x5_1).f0, t759⟩ : S101) ) (fun _ hk => hk); have hx14_1 := hcc14 1 _ rfl; (try simp only [show (k101).sz = 2 from rfl, Nat.mul_one, Nat.add_zero] at hx14_1); have hf14_1 := hfr14 1; (try simp only [show (k101).sz = 2 from rfl, Nat.mul_one, Nat.add_zero] at hf14_1); clear hcl14 hcc14 hfr14 hM14) | ((with_reducible refine zq26 (t := 9) (p := 25) rfl ?_); refine store_event (t := 9) (p := 25) (v := ?vo_w15) (w1 := (w13.setCell ⟨go6, (x5_1 : Int).toNat * 2 + 1, none⟩ (.string t759))) ?hg ?ho ?hn ?hr ?_; (case ho => rfl); (case hg => rfl); (case hn => rfl); (case hr => first | (go_simp; done) | (go_simp; rfl)); intro w15 hw; have hg : w13.grownBy w15 (some go6) := (by rw [hw]; exact HP14.2); have hp_ : Kd.R k101 101 w15 w0.heap.size (fun k_ => (P0_ k_ ∨ w.heap.size ≤ k_)) (.slice (some ⟨go6, 0, none⟩) x0_1.length co9) y760 := (by rw [hw, Ny760.out]; exact HP14.1); clear HP14; have n0_ := zq9 (hp_); have n1_ := zq9 ((by rw [hw]; exact zq28 (HB.out) GB6.out : Below w0.heap.size w0 w15)); have n2_ := zq9 (Kept.of_grown (S := (fun k_ => P0_ k_)) hg (by repeat (first | (with_reducible first | exact HK.out | apply Kept.alloc | apply Kept.drewN | apply Kept.drew) | exact HK.out)) (fun k_ e_ => (HO_0.out.1 k_ e_))); clear HO_0; clear HB; clear HK; have HO_0 := n0_; have HB := n1_; have HK := n2_; clear n0_ n1_ n2_; clear hg hw hp_))
          go_roundg k1
          case measure => have := HK1.out; omega
          case rel => exact ⟨(y760), (wrap64 ((wrap64 (x1_1 + 1)) + 1)), (wrap64 (x5_1 + 1)), (by first | rfl | (simp; done) | (simp [*]; done)), (by first | rfl | (simp; done) | (simp [*]; done)), H', ⟨by have := HK1.out; omega⟩, ⟨by (with_reducible repeat (first | apply zq10 | apply zq11 | apply zq12)); exact HO_0.out⟩, ⟨by repeat (first | (with_reducible first | exact HK.out | apply Kept.alloc | apply Kept.drewN | apply Kept.drew) | exact HK.out)⟩, ⟨by exact bl HB⟩⟩
        · rw [if_neg c5] at H
          exact absurd H (by simp)
      · rw [if_neg c3] at H; have c3b0 : decide (x5_1 < (x0_1.length : Int)) = false := decide_eq_false c3; clear c3
        simp only [Option.some.injEq, Prod.mk.injEq] at H
        obtain ⟨rfl, rfl⟩ := H
        go_wp2
        go_ret
        exact ⟨by first | rfl | (simp [errW_none, errW_some] <;> rfl) | (simp [*, errW_none, errW_some] <;> rfl), by (with_reducible repeat (first | apply zq10 | apply zq11 | apply zq12)); exact HO_0.out, by exact bl HB, by repeat (first | (with_reducible first | exact HK.out | apply Kept.alloc | apply Kept.drewN | apply Kept.drew) | exact HK.out)⟩
set_option maxHeartbeats 8000000 in
theorem laws_markEntryS.calls_lend {W : World} {b : Nat} {ok : Nat → Prop} {g n cap : Nat} {xs : List S32} (h : Kd.S k32 32 W b ok (.slice (some ⟨g, 0, none⟩) n cap) xs) (i : Int) (h0 : 0 ≤ i) (h1 : i < n) :
    ∃ oki v4 v5 v6, laws_markEntryS.L W b ok oki g n cap xs i (rd_T32 xs i) v4 v5 v6 := by
  obtain ⟨oki, c, hcl, hM, hcc, hoki, hH⟩ := Kd.S_lend h z32 i h0 h1
  obtain ⟨v4, v5, v6, rfl, g4, g5, g6⟩ := k32_openM hM
  exact ⟨oki, v4, v5, v6, hH, g4, g5, g6, hoki⟩
section
variable {W W' : World} {b : Nat} {ok oki : Nat → Prop} {g n cap : Nat} {xs : List S32} {i : Int} {x : S32} {v4 v5 v6 : Value}
theorem laws_markEntryS.calls_back (h : laws_markEntryS.L W b ok oki g n cap xs i x v4 v5 v6) : Kd.S k32 32 W b ok (.slice (some ⟨g, 0, none⟩) n cap) (xs.set i.toNat x) :=
  Kd.H_back h.1 (k32_mkM W b oki x h.2.1 h.2.2.1 h.2.2.2.1) (fun _ hk => hk)
theorem laws_markEntryS.calls_below (h : laws_markEntryS.L W b ok oki g n cap xs i x v4 v5 v6) (hb : Below W.heap.size W W') : laws_markEntryS.L W' b ok oki g n cap xs i x v4 v5 v6 :=
  ⟨Kd.H_below h.1 hb, Kd.R_below h.2.1 hb, Kd.R_below h.2.2.1 hb, Kd.R_below h.2.2.2.1 hb, h.2.2.2.2⟩
theorem laws_markEntryS.calls_at (h : laws_markEntryS.L W b ok oki g n cap xs i x v4 v5 v6) (h0 : 0 ≤ i) (h1 : i < n) :
    (∀ j u, [.string x.f0, .int .i64 x.f1, .int .i64 x.f2, .string x.f3, v4, v5, v6][j]? = some u → W.cell? ⟨g, i.toNat * 7 + j, none⟩ = some u) ∧ ∀ j, W.frozen? ⟨g, i.toNat * 7 + j, none⟩ = false := Kd.H_at h.1 h0 h1
theorem laws_markEntryS.calls_set (h : laws_markEntryS.L W b ok oki g n cap xs i x v4 v5 v6) (h0 : 0 ≤ i) (h1 : i < n) (j : Nat) (u : Value) (x' : S32) (hj : j + 1 ≤ 7) (hu : u.oneCell' = true)
    (hc : ([.string x.f0, .int .i64 x.f1, .int .i64 x.f2, .string x.f3, v4, v5, v6] : List Value).take j ++ [u] ++ ([.string x.f0, .int .i64 x.f1, .int .i64 x.f2, .string x.f3, v4, v5, v6] : List Value).drop (j + 1) = [.string x'.f0, .int .i64 x'.f1, .int .i64 x'.f2, .string x'.f3, v4, v5, v6])
    (e4 : x'.f4 = x.f4) (e5 : x'.f5 = x.f5) (e6 : x'.f6 = x.f6) :
    laws_markEntryS.L (W.setCells g (i.toNat * 7 + j) [u]) b ok oki g n cap xs i x' v4 v5 v6 ∧ W.grownBy (W.setCells g (i.toNat * 7 + j) [u]) (some g) := by
  obtain ⟨hH, h4, h5, h6, hok⟩ := h
  obtain ⟨a, hg⟩ := Kd.H_seg hH h0 h1 (seg := [u]) (j := j) hj (fun q hq => by rw [List.mem_singleton.1 hq]; exact hu)
  have hne : ∀ k, oki k → some k ≠ some g := fun k hk he => (hok k hk).2 (by injection he)
  refine ⟨⟨?_, ?_, ?_, ?_, hok⟩, hg⟩
  · have a' : Kd.H k32 32 (W.setCells g (i.toNat * 7 + j) [u]) b ok (.slice (some ⟨g, 0, none⟩) n cap) xs i oki (([.string x.f0, .int .i64 x.f1, .int .i64 x.f2, .string x.f3, v4, v5, v6] : List Value).take j ++ [u] ++ ([.string x.f0, .int .i64 x.f1, .int .i64 x.f2, .string x.f3, v4, v5, v6] : List Value).drop (j + 1)) := a
    rw [hc] at a'
    exact a'
  · rw [e4]; exact Kd.R_grown h4 hg hne
  · rw [e5]; exact Kd.R_grown h5 hg hne
  · rw [e6]; exact Kd.R_grown h6 hg hne
theorem laws_markEntryS.calls_apart {α β : Type} {d : Kd α} {d' : Kd β} {e e' : Nat} {u v : Value} {ys : List α} {zs : List β} {r : Nat → Prop} (h : d.R e W b oki u ys) (hE : d.E = []) (h' : d'.R e' W b r v zs) (hne : e ≠ e') (hk : Kept W W' (fun k => some k = v.ownBlock)) : d.R e W' b oki u ys :=
  Kd.R_mono (Kd.R_kept (Kd.R_tight hE h) hk (fun k hk1 hk2 => by
    obtain ⟨c1, hc1⟩ := Kd.R_typed h k hk1.symm
    obtain ⟨c2, hc2⟩ := Kd.R_typed h' k hk2.symm
    rw [hc1] at hc2
    injection hc2 with hc2
    injection hc2 with _ hc2
    exact hne hc2)) (fun k hk1 => h.1 k hk1.symm)
theorem laws_markEntryS.calls_row4 {r : List ByteArray} {x' : S32} (h : laws_markEntryS.L W b ok oki g n cap xs i x v4 v5 v6) (hk : Kept W W' (fun k => some k = v4.ownBlock)) (hr : Kd.string.R 9 W' b (fun k => some k = v4.ownBlock ∨ W.heap.size ≤ k) v4 r) (hx : x' = ⟨x.f0, x.f1, x.f2, x.f3, r, x.f5, x.f6⟩) : laws_markEntryS.L W' b ok oki g n cap xs i x' v4 v5 v6 := by
  subst hx
  obtain ⟨hH, h4, h5, h6, hok⟩ := h
  exact ⟨Kd.H_kept hH hk (fun k _ hn hs => hn (h4.1 k hs.symm)), Kd.R_reok rfl hr h4.1, laws_markEntryS.calls_apart h5 rfl h4 (by decide) hk, laws_markEntryS.calls_apart h6 rfl h4 (by decide) hk, hok⟩
theorem laws_markEntryS.calls_row5 {r : List S99} {x' : S32} (h : laws_markEntryS.L W b ok oki g n cap xs i x v4 v5 v6) (hk : Kept W W' (fun k => some k = v5.ownBlock)) (hr : k99.R 99 W' b (fun k => some k = v5.ownBlock ∨ W.heap.size ≤ k) v5 r) (hx : x' = ⟨x.f0, x.f1, x.f2, x.f3, x.f4, r, x.f6⟩) : laws_markEntryS.L W' b ok oki g n cap xs i x' v4 v5 v6 := by
  subst hx
  obtain ⟨hH, h4, h5, h6, hok⟩ := h
  exact ⟨Kd.H_kept hH hk (fun k _ hn hs => hn (h5.1 k hs.symm)), laws_markEntryS.calls_apart h4 rfl h5 (by decide) hk, Kd.R_reok rfl hr h5.1, laws_markEntryS.calls_apart h6 rfl h5 (by decide) hk, hok⟩
theorem laws_markEntryS.calls_row6 {r : List S101} {x' : S32} (h : laws_markEntryS.L W b ok oki g n cap xs i x v4 v5 v6) (hk : Kept W W' (fun k => some k = v6.ownBlock)) (hr : k101.R 101 W' b (fun k => some k = v6.ownBlock ∨ W.heap.size ≤ k) v6 r) (hx : x' = ⟨x.f0, x.f1, x.f2, x.f3, x.f4, x.f5, r⟩) : laws_markEntryS.L W' b ok oki g n cap xs i x' v4 v5 v6 := by
  subst hx
  obtain ⟨hH, h4, h5, h6, hok⟩ := h
  exact ⟨Kd.H_kept hH hk (fun k _ hn hs => hn (h6.1 k hs.symm)), laws_markEntryS.calls_apart h4 rfl h6 (by decide) hk, laws_markEntryS.calls_apart h5 rfl h6 (by decide) hk, Kd.R_reok rfl hr h6.1, hok⟩
theorem laws_markEntryS.calls_own (h : laws_markEntryS.L W b ok oki g n cap xs i x v4 v5 v6) : Kd.string.R 9 W b oki v4 x.f4 ∧ k99.R 99 W b oki v5 x.f5 ∧ k101.R 101 W b oki v6 x.f6 ∧ (∀ k, v4.ownBlock = some k → oki k) ∧ (∀ k, v5.ownBlock = some k → oki k) ∧ (∀ k, v6.ownBlock = some k → oki k) ∧ ∀ k, oki k → ok k ∧ k ≠ g :=
  ⟨h.2.1, h.2.2.1, h.2.2.2.1, h.2.1.1, h.2.2.1.1, h.2.2.2.1.1, h.2.2.2.2⟩
theorem laws_markEntryS.calls_keep {P : Nat → Prop} {w : World} {v : Value} (hk : Kept w W P) (hv : ∀ k, v.ownBlock = some k → oki k) (hok : ∀ k, oki k → P k ∧ k ≠ g) (h : Kept W W' (fun k => some k = v.ownBlock)) : Kept w W' P :=
  hk.then_ h (fun k hk2 => Or.inl (hok k (hv k hk2.symm)).1)
end
set_option maxHeartbeats 8000000 in
set_option maxRecDepth 100000 in
theorem laws_markEntryS.calls (k : Nat) (P0_ : Nat → Prop) (u9000_ : Value) (l0 : List (S32)) (a1 : Int) (r1 : Int) (r2 : List (S32)) (w0 w : World) (hB : Below w0.heap.size w0 w) (ho0 : Kd.S k32 32 w w0.heap.size P0_ u9000_ l0) (h : laws_markEntryS.f k l0 a1 = some (r1, r2)) :
    Calls Try.prog 63 #[u9000_, .int .i64 a1] w fun e w' => e = .returned (.int .i64 r1) ∧ Kd.S k32 32 w' w0.heap.size P0_ u9000_ r2 ∧ Below w0.heap.size w0 w' ∧ Kept w w' (fun k_ => P0_ k_) := by
  have HO0 := zq9 ho0
  have HK := zq9 (Kept.refl w (fun k_ => P0_ k_))
  have HB := zq9 hB; clear hB
  have H' := zq9 (show laws_markEntryS.l0 k l0 a1 0 = some (r1, r2) from h)
  clear h ho0
  go_enter Try.func63, Try.ntmps63
  go_wp2
  go_loopg [1, 5] k (fun kq v1 v5 w' => ∃ (x0_1 : List (S32)) (x1_1 : Int) (x5_1 : Int), v1 = .int .i64 x1_1 ∧ v5 = .int .i64 x5_1 ∧ Aside0 (laws_markEntryS.l0 kq x0_1 x1_1 x5_1 = some (r1, r2)) ∧ Aside0 (kq ≤ k) ∧ Aside0 (Kd.S k32 32 w' w0.heap.size P0_ u9000_ x0_1) ∧ Aside0 (Kept w w' (fun k_ => P0_ k_)) ∧ Aside0 (Below w0.heap.size w0 w'))
  case atStart => exact ⟨(l0), (a1), (0), rfl, rfl, H', ⟨Nat.le_refl _⟩, HO0, HK, HB⟩
  case round =>
    clear H' HO0 HK HB
    obtain ⟨x0_1, x1_1, x5_1, rfl, rfl, HA, HK1, HO_0, HK, HB⟩ := hrel
    cases gk with
    | zero => exact absurd HA.out (by simp [laws_markEntryS.l0])
    | succ k1 =>
      have H := HA.out; clear HA
      simp only [laws_markEntryS.l0] at H
      by_cases c3 : x5_1 < (x0_1.length : Int)
      · rw [if_pos c3] at H; have c3b0 : decide (x5_1 < (x0_1.length : Int)) = true := decide_eq_true c3
        by_cases c5 : 0 ≤ x5_1
        · rw [if_pos c5] at H; have c5b0 : decide (0 ≤ x5_1) = true := decide_eq_true c5
          obtain ⟨t0, A0, H⟩ := Option.bind_eq_some_iff.mp H
          obtain ⟨t1, A1, H⟩ := Option.bind_eq_some_iff.mp H
          obtain ⟨⟨a4, l4⟩, A4, H⟩ := Option.bind_eq_some_iff.mp H
          obtain ⟨⟨a5, l5⟩, A5, H⟩ := Option.bind_eq_some_iff.mp H
          obtain ⟨⟨a6, l6⟩, A6, H⟩ := Option.bind_eq_some_iff.mp H
          replace A0 := zq9 A0
          replace A1 := zq9 A1
          replace A4 := zq9 A4
          replace A5 := zq9 A5
          replace A6 := zq9 A6
          have H' := zq9 (show laws_markEntryS.l0 k1 (x0_1.set x5_1.toNat ⟨t0, wrap64 (x1_1 + 1), wrap64 ((wrap64 (x1_1 + 1)) + 1), t1, l4, l5, l6⟩) a6 (wrap64 (x5_1 + 1)) = some (r1, r2) from H)
          clear H
          obtain ⟨g, cap, rfl, hgb, _, _, _⟩ := Kd.S_form HO_0.out (by omega)
          have GB := zq9 hgb
          obtain ⟨oki, v4, v5, v6, hL⟩ := laws_markEntryS.calls_lend HO_0.out x5_1 c5 c3
          have hgs : P0_ g := (Kd.S_R HO_0.out).1 g (by simp [Value.ownBlock])
          have HGS := zq9 hgs; have HL := zq9 hL
          obtain ⟨C4, n4, e4⟩ := Kd.R_slice hL.2.1
          obtain ⟨C5, n5, e5⟩ := Kd.R_slice hL.2.2.1
          obtain ⟨C6, n6, e6⟩ := Kd.R_slice hL.2.2.2.1
          have E4 := zq9 e4; have E5 := zq9 e5; have E6 := zq9 e6; clear hL hgb e4 e5 e6 HO_0 hgs; have HC3 := zq9 c3; have HC5 := zq9 c5
          have p6 := eq_true c5
          have q6 := eq_true c3
          clear c3 c5
          go_wp2_with (first
            | ((with_reducible refine zq24 (f := 64) rfl ?_); refine gl (some 15) Try.func64 #[.int .i64 x1_1] ?_; (with_reducible refine (laws_markText.calls k1 x1_1 t0 _ A0.out).mono ?_); rintro e w10 ⟨rfl, hb⟩; refine ⟨_, rfl, ?_⟩; have n0_ := zq9 (laws_markEntryS.calls_below HL.out hb); have n1_ := zq9 (HK.out.below hb); have n2_ := zq9 (zq27 HB.out hb); clear HL HK HB hb; have HL := n0_; have HK := n1_; have HB := n2_; clear n0_ n1_ n2_; have hx : w10.cell? ⟨g, x5_1.toNat * 7, none⟩ = some _ := (laws_markEntryS.calls_at HL.out HC5.out HC3.out).1 0 _ rfl; have hf : w10.frozen? ⟨g, x5_1.toNat * 7, none⟩ = false := (laws_markEntryS.calls_at HL.out HC5.out HC3.out).2 0)
            | ((with_reducible refine zq26 (t := 9) (p := 17) rfl ?_); refine store_event (t := 9) (p := 17) (v := ?vo_w12) (w1 := (w10.setCell ⟨g, x5_1.toNat * 7, none⟩ (.string t0))) ?hg ?ho ?hn ?hr ?_; (case ho => rfl); (case hg => rfl); (case hn => rfl); (case hr => first | (go_simp; done) | (go_simp; rfl)); intro w12 hw; obtain ⟨n0, hgr⟩ := laws_markEntryS.calls_set HL.out HC5.out HC3.out 0 (.string t0) ⟨t0, (rd_T32 x0_1 x5_1).f1, (rd_T32 x0_1 x5_1).f2, (rd_T32 x0_1 x5_1).f3, (rd_T32 x0_1 x5_1).f4, (rd_T32 x0_1 x5_1).f5, (rd_T32 x0_1 x5_1).f6⟩ (by decide) rfl rfl rfl rfl rfl; have n0_ := zq9 (show laws_markEntryS.L w12 _ _ _ _ _ _ _ _ _ _ _ _ from (by rw [hw]; exact n0)); have n1_ := zq9 (Kept.of_grown (show World.grownBy w10 w12 (some g) from (by rw [hw]; exact hgr)) HK.out (fun k_ e_ => by injection e_ with e_; subst e_; exact .inl HGS.out)); have n2_ := zq9 (show Below w0.heap.size w0 w12 from (by rw [hw]; exact zq28 HB.out GB.out)); clear n0 hgr hw HL HK HB hx hf; have HL := n0_; have HK := n1_; have HB := n2_; clear n0_ n1_ n2_; have hx : w12.cell? ⟨g, x5_1.toNat * 7 + 1, none⟩ = some _ := (laws_markEntryS.calls_at HL.out HC5.out HC3.out).1 1 _ rfl; have hf : w12.frozen? ⟨g, x5_1.toNat * 7 + 1, none⟩ = false := (laws_markEntryS.calls_at HL.out HC5.out HC3.out).2 1)
            | ((with_reducible refine zq26 (t := 3) (p := 24) rfl ?_); refine store_event (t := 3) (p := 24) (v := ?vo_w13) (w1 := (w12.setCell ⟨g, x5_1.toNat * 7 + 1, none⟩ (.int .i64 (wrap64 (x1_1 + 1))))) ?hg ?ho ?hn ?hr ?_; (case ho => rfl); (case hg => rfl); (case hn => rfl); (case hr => first | (go_simp; done) | (go_simp; rfl)); intro w13 hw; obtain ⟨n0, hgr⟩ := laws_markEntryS.calls_set HL.out HC5.out HC3.out 1 (.int .i64 (wrap64 (x1_1 + 1))) ⟨t0, wrap64 (x1_1 + 1), (rd_T32 x0_1 x5_1).f2, (rd_T32 x0_1 x5_1).f3, (rd_T32 x0_1 x5_1).f4, (rd_T32 x0_1 x5_1).f5, (rd_T32 x0_1 x5_1).f6⟩ (by decide) rfl rfl rfl rfl rfl; have n0_ := zq9 (show laws_markEntryS.L w13 _ _ _ _ _ _ _ _ _ _ _ _ from (by rw [hw]; exact n0)); have n1_ := zq9 (Kept.of_grown (show World.grownBy w12 w13 (some g) from (by rw [hw]; exact hgr)) HK.out (fun k_ e_ => by injection e_ with e_; subst e_; exact .inl HGS.out)); have n2_ := zq9 (show Below w0.heap.size w0 w13 from (by rw [hw]; exact zq28 HB.out GB.out)); clear n0 hgr hw HL HK HB hx hf; have HL := n0_; have HK := n1_; have HB := n2_; clear n0_ n1_ n2_; have hx : w13.cell? ⟨g, x5_1.toNat * 7 + 2, none⟩ = some _ := (laws_markEntryS.calls_at HL.out HC5.out HC3.out).1 2 _ rfl; have hf : w13.frozen? ⟨g, x5_1.toNat * 7 + 2, none⟩ = false := (laws_markEntryS.calls_at HL.out HC5.out HC3.out).2 2)
            | ((with_reducible refine zq26 (t := 3) (p := 31) rfl ?_); refine store_event (t := 3) (p := 31) (v := ?vo_w14) (w1 := (w13.setCell ⟨g, x5_1.toNat * 7 + 2, none⟩ (.int .i64 (wrap64 ((wrap64 (x1_1 + 1)) + 1))))) ?hg ?ho ?hn ?hr ?_; (case ho => rfl); (case hg => rfl); (case hn => rfl); (case hr => first | (go_simp; done) | (go_simp; rfl)); intro w14 hw; obtain ⟨n0, hgr⟩ := laws_markEntryS.calls_set HL.out HC5.out HC3.out 2 (.int .i64 (wrap64 ((wrap64 (x1_1 + 1)) + 1))) ⟨t0, wrap64 (x1_1 + 1), wrap64 ((wrap64 (x1_1 + 1)) + 1), (rd_T32 x0_1 x5_1).f3, (rd_T32 x0_1 x5_1).f4, (rd_T32 x0_1 x5_1).f5, (rd_T32 x0_1 x5_1).f6⟩ (by decide) rfl rfl rfl rfl rfl; have n0_ := zq9 (show laws_markEntryS.L w14 _ _ _ _ _ _ _ _ _ _ _ _ from (by rw [hw]; exact n0)); have n1_ := zq9 (Kept.of_grown (show World.grownBy w13 w14 (some g) from (by rw [hw]; exact hgr)) HK.out (fun k_ e_ => by injection e_ with e_; subst e_; exact .inl HGS.out)); have n2_ := zq9 (show Below w0.heap.size w0 w14 from (by rw [hw]; exact zq28 HB.out GB.out)); clear n0 hgr hw HL HK HB hx hf; have HL := n0_; have HK := n1_; have HB := n2_; clear n0_ n1_ n2_)
            | ((with_reducible refine zq24 (f := 64) rfl ?_); refine gl (some 37) Try.func64 #[.int .i64 (wrap64 ((wrap64 ((wrap64 (x1_1 + 1)) + 1)) + 1))] ?_; (with_reducible refine (laws_markText.calls k1 (wrap64 ((wrap64 ((wrap64 (x1_1 + 1)) + 1)) + 1)) t1 _ A1.out).mono ?_); rintro e w15 ⟨rfl, hb⟩; refine ⟨_, rfl, ?_⟩; have n0_ := zq9 (laws_markEntryS.calls_below HL.out hb); have n1_ := zq9 (HK.out.below hb); have n2_ := zq9 (zq27 HB.out hb); clear HL HK HB hb; have HL := n0_; have HK := n1_; have HB := n2_; clear n0_ n1_ n2_; have hx : w15.cell? ⟨g, x5_1.toNat * 7 + 3, none⟩ = some _ := (laws_markEntryS.calls_at HL.out HC5.out HC3.out).1 3 _ rfl; have hf : w15.frozen? ⟨g, x5_1.toNat * 7 + 3, none⟩ = false := (laws_markEntryS.calls_at HL.out HC5.out HC3.out).2 3)
            | ((with_reducible refine zq26 (t := 9) (p := 39) rfl ?_); refine store_event (t := 9) (p := 39) (v := ?vo_w16) (w1 := (w15.setCell ⟨g, x5_1.toNat * 7 + 3, none⟩ (.string t1))) ?hg ?ho ?hn ?hr ?_; (case ho => rfl); (case hg => rfl); (case hn => rfl); (case hr => first | (go_simp; done) | (go_simp; rfl)); intro w16 hw; obtain ⟨n0, hgr⟩ := laws_markEntryS.calls_set HL.out HC5.out HC3.out 3 (.string t1) ⟨t0, wrap64 (x1_1 + 1), wrap64 ((wrap64 (x1_1 + 1)) + 1), t1, (rd_T32 x0_1 x5_1).f4, (rd_T32 x0_1 x5_1).f5, (rd_T32 x0_1 x5_1).f6⟩ (by decide) rfl rfl rfl rfl rfl; have n0_ := zq9 (show laws_markEntryS.L w16 _ _ _ _ _ _ _ _ _ _ _ _ from (by rw [hw]; exact n0)); have n1_ := zq9 (Kept.of_grown (show World.grownBy w15 w16 (some g) from (by rw [hw]; exact hgr)) HK.out (fun k_ e_ => by injection e_ with e_; subst e_; exact .inl HGS.out)); have n2_ := zq9 (show Below w0.heap.size w0 w16 from (by rw [hw]; exact zq28 HB.out GB.out)); clear n0 hgr hw HL HK HB hx hf; have HL := n0_; have HK := n1_; have HB := n2_; clear n0_ n1_ n2_; have hx : w16.cell? ⟨g, x5_1.toNat * 7 + 4, none⟩ = some v4 := (laws_markEntryS.calls_at HL.out HC5.out HC3.out).1 4 _ rfl; rw [E4.out] at hx)
            | ((with_reducible refine zq24 (f := 25) rfl ?_); refine gl (some 48) Try.func25 #[.slice C4 (rd_T32 x0_1 x5_1).f4.length n4, .int .i64 (wrap64 ((wrap64 ((wrap64 ((wrap64 (x1_1 + 1)) + 1)) + 1)) + 1))] ?_; (with_reducible refine (laws_markStringS.calls k1 (fun k => some k = (Value.slice C4 (rd_T32 x0_1 x5_1).f4.length n4).ownBlock) _ _ _ a4 l4 w0 _ HB.out (E4.out ▸ Kd.R_tight rfl (laws_markEntryS.calls_own HL.out).1) A4.out).mono ?_); rintro e w17 ⟨rfl, hr, hb, hk⟩; rw [← E4.out] at hr hk; refine ⟨_, rfl, ?_⟩; have n0_ := zq9 (laws_markEntryS.calls_row4 HL.out hk hr rfl); have n1_ := zq9 (laws_markEntryS.calls_keep HK.out (laws_markEntryS.calls_own HL.out).2.2.2.1 (laws_markEntryS.calls_own HL.out).2.2.2.2.2.2 hk); have n2_ := zq9 hb; clear hx hk hr hb HL HK HB; have HL := n0_; have HK := n1_; have HB := n2_; clear n0_ n1_ n2_; have hx : w17.cell? ⟨g, x5_1.toNat * 7 + 5, none⟩ = some v5 := (laws_markEntryS.calls_at HL.out HC5.out HC3.out).1 5 _ rfl; rw [E5.out] at hx)
            | ((with_reducible refine zq24 (f := 69) rfl ?_); refine gl (some 55) Try.func69 #[.slice C5 (rd_T32 x0_1 x5_1).f5.length n5, .int .i64 a4] ?_; (with_reducible refine (laws_markScoreS.calls k1 (fun k => some k = (Value.slice C5 (rd_T32 x0_1 x5_1).f5.length n5).ownBlock) _ _ _ a5 l5 w0 _ HB.out (E5.out ▸ Kd.R_tight rfl (laws_markEntryS.calls_own HL.out).2.1) A5.out).mono ?_); rintro e w18 ⟨rfl, hr, hb, hk⟩; rw [← E5.out] at hr hk; refine ⟨_, rfl, ?_⟩; have n0_ := zq9 (laws_markEntryS.calls_row5 HL.out hk hr rfl); have n1_ := zq9 (laws_markEntryS.calls_keep HK.out (laws_markEntryS.calls_own HL.out).2.2.2.2.1 (laws_markEntryS.calls_own HL.out).2.2.2.2.2.2 hk); have n2_ := zq9 hb; clear hx hk hr hb HL HK HB; have HL := n0_; have HK := n1_; have HB := n2_; clear n0_ n1_ n2_; have hx : w18.cell? ⟨g, x5_1.toNat * 7 + 6, none⟩ = some v6 := (laws_markEntryS.calls_at HL.out HC5.out HC3.out).1 6 _ rfl; rw [E6.out] at hx)
            | ((with_reducible refine zq24 (f := 70) rfl ?_); refine gl (some 62) Try.func70 #[.slice C6 (rd_T32 x0_1 x5_1).f6.length n6, .int .i64 a5] ?_; (with_reducible refine (laws_markPairS.calls k1 (fun k => some k = (Value.slice C6 (rd_T32 x0_1 x5_1).f6.length n6).ownBlock) _ _ _ a6 l6 w0 _ HB.out (E6.out ▸ Kd.R_tight rfl (laws_markEntryS.calls_own HL.out).2.2.1) A6.out).mono ?_); rintro e w19 ⟨rfl, hr, hb, hk⟩; rw [← E6.out] at hr hk; refine ⟨_, rfl, ?_⟩; have n0_ := zq9 (laws_markEntryS.calls_row6 HL.out hk hr rfl); have n1_ := zq9 (laws_markEntryS.calls_keep HK.out (laws_markEntryS.calls_own HL.out).2.2.2.2.2.1 (laws_markEntryS.calls_own HL.out).2.2.2.2.2.2 hk); have n2_ := zq9 hb; clear hx hk hr hb HL HK HB; have HL := n0_; have HK := n1_; have HB := n2_; clear n0_ n1_ n2_))
          go_roundg k1
          case measure => have := HK1.out; omega
          case rel => exact ⟨_, a6, (wrap64 (x5_1 + 1)), rfl, rfl, H', ⟨by have := HK1.out; omega⟩, ⟨laws_markEntryS.calls_back HL.out⟩, HK, HB⟩
        · rw [if_neg c5] at H
          exact absurd H (by simp)
      · rw [if_neg c3] at H; have c3b0 : decide (x5_1 < (x0_1.length : Int)) = false := decide_eq_false c3; clear c3
        simp only [Option.some.injEq, Prod.mk.injEq] at H
        obtain ⟨rfl, rfl⟩ := H
        obtain ⟨Ao16, co16, eo16⟩ := Kd.S_slice HO_0.out
        subst eo16
        go_wp2
        go_ret
        exact ⟨rfl, HO_0.out, HB.out, HK.out⟩
set_option maxHeartbeats 8000000 in
set_option maxRecDepth 100000 in
theorem laws_markBase.calls (k : Nat) (a0_0 : Int) (P0_1_ : Nat → Prop) (u9000_ : Value) (l0_1 : List (S32)) (a1 : Int) (r1 : Int) (r2 : List (S32)) (w0 w : World) (hB : Below w0.heap.size w0 w) (ho0_1 : Kd.S k32 32 w w0.heap.size P0_1_ u9000_ l0_1) (h : laws_markBase.f k a0_0 l0_1 a1 = some (r1, r2)) :
    Calls Try.prog 24 #[.agg #[.int .i64 a0_0, u9000_], .int .i64 a1] w fun e w' => e = .returned (.int .i64 r1) ∧ Kd.S k32 32 w' w0.heap.size P0_1_ u9000_ r2 ∧ Below w0.heap.size w0 w' ∧ Kept w w' (fun k_ => P0_1_ k_) := by
  obtain ⟨A0, c0, rfl⟩ := Kd.S_slice ho0_1
  have hu := Try.underlying46
  have H := zq9 (show laws_markEntryS.f k l0_1 a1 = some (r1, r2) from h)
  have HO := zq9 ho0_1; have HB := zq9 hB; clear h hB ho0_1
  go_enter Try.func24, Try.ntmps24
  go_wp2_with (first
    | ((with_reducible refine zq25 (N := 2) rfl ?_); refine bx 2 #[.int .i64 a0_0, .slice A0 l0_1.length c0] 46 ?_; intro g hg w5 hbox hb; have HX := zq9 hb; have HG := zq9 hg; have hc1 : w5.cell? ⟨g, 1, none⟩ = some (.slice A0 l0_1.length c0) := bc ⟨hbox⟩ 1; clear hbox hb hg)
    | ((with_reducible refine zq24 (f := 63) rfl ?_); refine gl (some 8) Try.func63 #[.slice A0 l0_1.length c0, .int .i64 a1] ?_; (with_reducible refine (laws_markEntryS.calls k P0_1_ _ l0_1 a1 r1 r2 w0 _ (zq27 HB.out HX.out) (Kd.S_below HO.out HX.out) H.out).mono ?_); rintro e w' ⟨rfl, hr, hb, hk⟩; refine ⟨_, rfl, ?_⟩; have n0_ := zq9 hr; have n1_ := zq9 hb; have n2_ := zq9 (Kept.then_ (Kept.of_below HX.out (fun k_ => P0_1_ k_)) hk (fun _ h_ => .inl h_)); clear hr hb hk))
  go_ret
  exact ⟨rfl, n0_.out, n1_.out, n2_.out⟩
set_option maxHeartbeats 8000000 in
set_option maxRecDepth 100000 in
theorem spec_l1In.calls (a0 : Int) (a1 : Int) (a2 : Int) (r : Bool) (w : World) (h : spec_l1In.f a0 a1 a2 = some r) :
    Calls Try.prog 40 #[.int .i64 a0, .int .i64 a1, .int .i64 a2] w fun e w' => e = .returned (.bool r) ∧ Drawn0 w w' := by
  have H : (if a0 ≥ a1 then (some (decide (a0 ≤ a2))) else (some false)) = some r := h
  clear h
  by_cases c4 : a0 ≥ a1
  · rw [if_pos c4] at H; have c4b0 : decide (a1 ≤ a0) = true := decide_eq_true c4; clear c4; obtain rfl := Option.some.inj H
    go_enter Try.func40, Try.ntmps40
    go_wp2
    go_ret
    exact ⟨by first | rfl | (simp; done) | (simp [*]; done), by repeat (first | exact Drawn0.refl _ | apply Drawn0.step)⟩
  · rw [if_neg c4] at H; have c4b0 : decide (a1 ≤ a0) = false := decide_eq_false c4; clear c4; obtain rfl := Option.some.inj H
    go_enter Try.func40, Try.ntmps40
    go_wp2
    go_ret
    exact ⟨by first | rfl | (simp; done) | (simp [*]; done), by repeat (first | exact Drawn0.refl _ | apply Drawn0.step)⟩
set_option maxHeartbeats 8000000 in
set_option maxRecDepth 100000 in
theorem spec_l4Key.calls (a0 : ByteArray) (r : Bool) (w : World) (h : spec_l4Key.f a0 = some r) :
    Calls Try.prog 39 #[.string a0] w fun e w' => e = .returned (.bool r) ∧ Drawn0 w w' := by
  have H : ((spec_l1In.f (a0.size : Int) 1 12).bind fun t112 => (some t112)) = some r := h
  clear h; replace H := Option.bind_eq_some_iff.mp H; obtain ⟨t112, A20, H⟩ := H
  try dsimp only at H
  have A2 := zq9 A20; clear A20; obtain rfl := Option.some.inj H
  go_enter Try.func39, Try.ntmps39
  go_wp2_with (first | ((with_reducible refine zq24 (f := 40) rfl ?_); refine gl (some 5) Try.func40 #[.int .i64 (a0.size : Int), .int .i64 1, .int .i64 12] ?_; (with_reducible refine (spec_l1In.calls (a0.size : Int) 1 12 t112 _ A2.out).mono ?_); rintro e w' ⟨rfl, ⟨nd, rfl⟩⟩; refine ⟨_, rfl, ?_⟩))
  go_ret
  exact ⟨by first | rfl | (simp; done) | (simp [*]; done), by repeat (first | exact Drawn0.refl _ | apply Drawn0.step)⟩
set_option maxHeartbeats 8000000 in
set_option maxRecDepth 100000 in
theorem spec_l2Texts.calls (k : Nat) (A0 : Option Addr) (c0 : Nat) (l0 : List ByteArray) (r : Bool) (w : World) (hr0 : Kd.C Kd.string w A0 l0.length l0) (hc0 : l0.length ≤ c0) (h : spec_l2Texts.f k l0 = some r) :
    Calls Try.prog 41 #[.slice A0 l0.length c0] w fun e w' => e = .returned (.bool r) ∧ Drawn0 w w' := by
  have HR0 := zq9 hr0; have HC0 := zq9 hc0; clear hr0 hc0
  have H : (spec_l2Texts.l0 k l0 0) = some r := h
  clear h; have H' := zq9 H; clear H
  go_enter Try.func41, Try.ntmps41
  go_wp2
  go_loopg [3] k (fun kq v3 w' => ∃ (x3_1 : Int), v3 = .int .i64 x3_1 ∧ Aside0 (spec_l2Texts.l0 kq l0 x3_1 = some r) ∧ Aside0 (kq ≤ k) ∧ Drawn0 w w')
  case atStart => exact ⟨(0), (by first | rfl | (simp; done) | (simp [*]; done)), H', ⟨Nat.le_refl _⟩, by repeat (first | exact Drawn0.refl _ | apply Drawn0.step)⟩
  case round =>
    clear H'
    obtain ⟨x3_1, rfl, HA, HK1, ⟨m1, rfl⟩⟩ := hrel
    cases gk with
    | zero => exact absurd HA.out (by simp [spec_l2Texts.l0])
    | succ k1 =>
      have H := HA.out; clear HA
      simp only [spec_l2Texts.l0] at H
      by_cases c2 : x3_1 < (l0.length : Int)
      · rw [if_pos c2] at H; have c2b0 : decide (x3_1 < (l0.length : Int)) = true := decide_eq_true c2; clear c2
        by_cases c3 : 0 ≤ x3_1
        · rw [if_pos c3] at H; have c3b0 : decide (0 ≤ x3_1) = true := decide_eq_true c3; clear c3
          by_cases c4 : ((rdOf ByteArray.empty l0 x3_1).size : Int) > 40
          · rw [if_pos c4] at H; have c4b0 : decide (40 < ((rdOf ByteArray.empty l0 x3_1).size : Int)) = true := decide_eq_true c4
            have c4b1 : decide (40 < (rdOf ByteArray.empty l0 x3_1).size) = true := decide_eq_true (by omega)
            clear c4; obtain rfl := Option.some.inj H
            have p113 : 0 ≤ (x3_1 : Int) := of_decide_eq_true ‹_›
            have q113 : x3_1 < (l0.length : Int) := of_decide_eq_true ‹_›
            obtain ⟨ad113, e113, hx113_0⟩ := Kd.at_string HR0.out x3_1 p113 q113
            cases e113; replace p113 := eq_true p113; replace q113 := eq_true q113
            go_wp2
            go_ret
            exact ⟨by first | rfl | (simp; done) | (simp [*]; done), by repeat (first | exact Drawn0.refl _ | apply Drawn0.step)⟩
          · rw [if_neg c4] at H; have c4b0 : decide (40 < ((rdOf ByteArray.empty l0 x3_1).size : Int)) = false := decide_eq_false c4
            have c4b1 : decide (40 < (rdOf ByteArray.empty l0 x3_1).size) = false := decide_eq_false (by omega)
            clear c4; have H' := zq9 H; clear H
            have p113 : 0 ≤ (x3_1 : Int) := of_decide_eq_true ‹_›
            have q113 : x3_1 < (l0.length : Int) := of_decide_eq_true ‹_›
            obtain ⟨ad113, e113, hx113_0⟩ := Kd.at_string HR0.out x3_1 p113 q113
            cases e113; replace p113 := eq_true p113; replace q113 := eq_true q113
            go_wp2
            go_roundg k1
            case measure => have := HK1.out; omega
            case rel => exact ⟨(wrap64 (x3_1 + 1)), (by first | rfl | (simp; done) | (simp [*]; done)), H', ⟨by have := HK1.out; omega⟩, by repeat (first | exact Drawn0.refl _ | apply Drawn0.step)⟩
        · rw [if_neg c3] at H
          exact absurd H (by simp)
      · rw [if_neg c2] at H; have c2b0 : decide (x3_1 < (l0.length : Int)) = false := decide_eq_false c2; clear c2; obtain rfl := Option.some.inj H
        go_wp2
        go_ret
        exact ⟨by first | rfl | (simp; done) | (simp [*]; done), by repeat (first | exact Drawn0.refl _ | apply Drawn0.step)⟩
set_option maxHeartbeats 8000000 in
set_option maxRecDepth 100000 in
theorem spec_SetOk.calls (k : Nat) (A0 : Option Addr) (c0 : Nat) (l0 : List ByteArray) (r : Bool) (w : World) (hr0 : Kd.C Kd.string w A0 l0.length l0) (hc0 : l0.length ≤ c0) (h : spec_SetOk.f k l0 = some r) :
  Calls Try.prog 42 #[.slice A0 l0.length c0] w fun e w' => e = .returned (.bool r) ∧ Drawn0 w w' := by
 have HR0 := zq9 hr0; have HC0 := zq9 hc0; clear hr0 hc0
 have H : (spec_SetOk.l0 k l0 1) = some r := h
 clear h; have H' := zq9 H; clear H
 go_enter Try.func42, Try.ntmps42
 go_wp2
 repeat (go_quiet (fail); try go_wp2)
 go_loopg [3] k (fun kq v3 w' => ∃ (x3_1 : Int), v3 = .int .i64 x3_1 ∧ Aside0 (spec_SetOk.l0 kq l0 x3_1 = some r) ∧ Aside0 (kq ≤ k) ∧ Drawn0 w w')
 case atStart => exact ⟨(1), (by first | rfl | (simp; done) | (simp [*]; done)), H', ⟨Nat.le_refl _⟩, by repeat (first | exact Drawn0.refl _ | apply Drawn0.step)⟩
 case round =>
  clear H'
  obtain ⟨x3_1, rfl, HA, HK1, ⟨m1, rfl⟩⟩ := hrel
  cases gk with
  | zero => exact absurd HA.out (by simp [spec_SetOk.l0])
  | succ k1 =>
   have H := HA.out; clear HA
   simp only [spec_SetOk.l0] at H
   by_cases c2 : x3_1 < (l0.length : Int)
   ·rw [if_pos c2] at H; have c2b0 : decide (x3_1 < (l0.length : Int)) = true := decide_eq_true c2; clear c2
    obtain ⟨ji3, hji3⟩ : ∃ j_ : Int, (wrap64 (x3_1 - 1)) = j_ := ⟨_, rfl⟩
    replace H : (if 0 ≤ (ji3) then (if (ji3) < (l0.length : Int) then (if 0 ≤ x3_1 then (if ((Op.bytesLess ((rdOf ByteArray.empty l0 (ji3)).toList) ((rdOf ByteArray.empty l0 x3_1).toList)) = true) then (spec_SetOk.l0 k1 l0 (wrap64 (x3_1 + 1))) else (some false)) else (none)) else (none)) else (none)) = some r := by first | (rw [hji3] at H; exact H) | (simp only [hji3] at H ⊢; exact H)
    have hji3w : (IntKind.i64.wrap (x3_1 - 1)) = ji3 := (i64_w _).trans hji3
    by_cases c4 : 0 ≤ (ji3)
    ·rw [if_pos c4] at H; have c4b0 : decide (0 ≤ (ji3)) = true := decide_eq_true c4; clear c4
     by_cases c5 : (ji3) < (l0.length : Int)
     ·rw [if_pos c5] at H; have c5b0 : decide ((ji3) < (l0.length : Int)) = true := decide_eq_true c5; clear c5
      by_cases c6 : 0 ≤ x3_1
      ·rw [if_pos c6] at H; have c6b0 : decide (0 ≤ x3_1) = true := decide_eq_true c6; clear c6
       have p114 : 0 ≤ ((ji3) : Int) := of_decide_eq_true ‹_›
       have q114 : (ji3) < (l0.length : Int) := of_decide_eq_true ‹_›
       obtain ⟨ad114, e114, hx114_0⟩ := Kd.at_string HR0.out (ji3) p114 q114
       cases e114; replace p114 := eq_true p114; replace q114 := eq_true q114
       have p115 : 0 ≤ (x3_1 : Int) := of_decide_eq_true ‹_›
       have q115 : x3_1 < (l0.length : Int) := of_decide_eq_true ‹_›
       obtain ⟨ad115, e115, hx115_0⟩ := Kd.at_string HR0.out x3_1 p115 q115
       obtain rfl : ad114 = ad115 := (by injection e115)
       replace p115 := eq_true p115; replace q115 := eq_true q115
       go_wp2
       by_cases c7 : ((Op.bytesLess ((rdOf ByteArray.empty l0 (ji3)).toList) ((rdOf ByteArray.empty l0 x3_1).toList)) = true)
       ·rw [if_pos c7] at H
        have c7b0 : (Op.bytesLess ((rdOf ByteArray.empty l0 (ji3)).toList) ((rdOf ByteArray.empty l0 x3_1).toList)) = true := c7
        clear c7; have H' := zq9 H; clear H
        repeat (go_quiet (fail); try go_wp2)
        go_roundg k1
        case measure => have := HK1.out; omega
        case rel => exact ⟨(wrap64 (x3_1 + 1)), (by first | rfl | (simp; done) | (simp [*]; done)), H', ⟨by have := HK1.out; omega⟩, by repeat (first | exact Drawn0.refl _ | apply Drawn0.step)⟩
       ·rw [if_neg c7] at H
        have c7b0 : (Op.bytesLess ((rdOf ByteArray.empty l0 (ji3)).toList) ((rdOf ByteArray.empty l0 x3_1).toList)) = false := by simpa using c7
        clear c7; obtain rfl := Option.some.inj H
        repeat (go_quiet (fail); try go_wp2)
        go_ret
        exact ⟨by first | rfl | (simp; done) | (simp only [← hji3] <;> (first | rfl | simp)) | (simp [*]; done), by repeat (first | exact Drawn0.refl _ | apply Drawn0.step)⟩
      ·rw [if_neg c6] at H
       exact absurd H (by simp)
     ·rw [if_neg c5] at H
      exact absurd H (by simp)
    ·rw [if_neg c4] at H
     exact absurd H (by simp)
   ·rw [if_neg c2] at H; have c2b0 : decide (x3_1 < (l0.length : Int)) = false := decide_eq_false c2; clear c2; replace H := Option.bind_eq_some_iff.mp H; obtain ⟨t116, A80, H⟩ := H
    try dsimp only at H
    have A8 := zq9 A80; clear A80; obtain rfl := Option.some.inj H
    go_wp2_with (first | (go_at_call 41; (with_reducible refine (spec_l2Texts.calls k1 _ _ l0 t116 _ ?side1 ?side2 A8.out).mono ?_); (case side1 => repeat (first | exact HR0.out | (with_reducible refine zq18 ?_ _) | (with_reducible refine zq19 ?_ _) | (with_reducible refine zq20 ?_))); (case side2 => exact HC0.out); rintro e w' ⟨rfl, ⟨nd, rfl⟩⟩; (try first | exact ⟨rfl, _, zq32 _ _ _⟩ | exact ⟨rfl, _, Eq.trans (zq32 _ _ _) (congrArg (World.drewN _) (Nat.add_assoc _ _ _))⟩)))
    repeat (go_quiet (first | (go_at_call 41; (with_reducible refine (spec_l2Texts.calls k1 _ _ l0 t116 _ ?side1 ?side2 A8.out).mono ?_); (case side1 => repeat (first | exact HR0.out | (with_reducible refine zq18 ?_ _) | (with_reducible refine zq19 ?_ _) | (with_reducible refine zq20 ?_))); (case side2 => exact HC0.out); rintro e w' ⟨rfl, ⟨nd, rfl⟩⟩; (try first | exact ⟨rfl, _, zq32 _ _ _⟩ | exact ⟨rfl, _, Eq.trans (zq32 _ _ _) (congrArg (World.drewN _) (Nat.add_assoc _ _ _))⟩))); try go_wp2_with (first | (go_at_call 41; (with_reducible refine (spec_l2Texts.calls k1 _ _ l0 t116 _ ?side1 ?side2 A8.out).mono ?_); (case side1 => repeat (first | exact HR0.out | (with_reducible refine zq18 ?_ _) | (with_reducible refine zq19 ?_ _) | (with_reducible refine zq20 ?_))); (case side2 => exact HC0.out); rintro e w' ⟨rfl, ⟨nd, rfl⟩⟩; (try first | exact ⟨rfl, _, zq32 _ _ _⟩ | exact ⟨rfl, _, Eq.trans (zq32 _ _ _) (congrArg (World.drewN _) (Nat.add_assoc _ _ _))⟩))))
    go_ret
    exact ⟨by first | rfl | (simp; done) | (simp [*]; done), by repeat (first | exact Drawn0.refl _ | apply Drawn0.step)⟩
set_option maxHeartbeats 8000000 in
set_option maxRecDepth 100000 in
theorem spec_l3Ahead.calls (a0_0 : ByteArray) (a0_1 : Int) (a1_0 : ByteArray) (a1_1 : Int) (r : Bool) (w : World) (h : spec_l3Ahead.f a0_0 a0_1 a1_0 a1_1 = some r) :
    Calls Try.prog 81 #[.agg #[.string a0_0, .int .i64 a0_1], .agg #[.string a1_0, .int .i64 a1_1]] w fun e w' => e = .returned (.bool r) ∧ Below w.heap.size w w' := by
  have hu99 := Try.underlying99
  have HB := zq9 (Below.refl w.heap.size w)
  have H : (if a0_1 < a1_1 then (some true) else (if a0_1 = a1_1 then (some (Op.bytesLess a0_0.toList a1_0.toList)) else (some false))) = some r := h
  clear h
  go_enter Try.func81, Try.ntmps81
  refine (Classical.em (a0_1 < a1_1)).elim (fun c3 => ?p0) (fun c3 => ?n0)
  case' p0 =>
    rw [if_pos c3] at H; have c3b0 : decide (a0_1 < a1_1) = true := decide_eq_true c3; clear c3; obtain rfl := Option.some.inj H
  case' n0 =>
    rw [if_neg c3] at H; have c3b0 : decide (a0_1 < a1_1) = false := decide_eq_false c3; clear c3
    refine (Classical.em (a0_1 = a1_1)).elim (fun c9 => ?p1) (fun c9 => ?n1)
    case' p1 =>
      rw [if_pos c9] at H
      have c9b0 : (a0_1 == a1_1) = true := beq_iff_eq.mpr c9
      have c9b1 : (a0_1 != a1_1) = false := bne_eq_false_iff_eq.mpr c9
      clear c9; obtain rfl := Option.some.inj H
    case' n1 =>
      rw [if_neg c9] at H
      have c9b0 : (a0_1 == a1_1) = false := beq_eq_false_iff_ne.mpr c9
      have c9b1 : (a0_1 != a1_1) = true := bne_iff_ne.mpr c9
      obtain rfl := Option.some.inj H
  case p0 | p1 | n1 =>
    try go_wp2_with (first | ((with_reducible refine zq25 (N := 2) rfl ?_); refine bx 2 #[.string a0_0, .int .i64 a0_1] 99 ?_; intro gb117 hg w4 hbox hb; have n0_ := zq9 (zq27 (by exact bl HB) hb); have n1_ := zq9 (hbox); have n2_ := zq9 ((by rw [hg]; exact (zq29 (by exact bl HB)) : w.heap.size ≤ gb117)); have n3_ := n2_; clear HB; have HB := n0_; have BK117 := n1_; have GW117 := n2_; have GE117 := n3_; clear n0_ n1_ n2_ n3_; clear hb hbox hg) | ((with_reducible refine zq25 (N := 3) rfl ?_); refine bx 3 #[.string a1_0, .int .i64 a1_1] 99 ?_; intro gb118 hg w5 hbox hb; have n0_ := zq9 (zq30 (g := gb117) (o := .cells #[.string a0_0, .int .i64 a0_1] 99 (0, 0)) (by exact bk BK117) hb); have n1_ := zq9 (zq27 (by exact b1 HB GE117) hb); have n2_ := zq9 (hbox); have n3_ := zq9 ((by rw [hg]; exact (zq29 (by exact b1 HB GE117)) : w.heap.size ≤ gb118)); have n4_ := n3_; have n5_ := zq9 ((by rw [hg]; exact Nat.ne_of_lt (blk_lt (g := gb117) (o := .cells #[.string a0_0, .int .i64 a0_1] 99 (0, 0)) (by exact bk BK117)) : gb117 ≠ gb118)); have n6_ := zq9 ((by rw [hg]; exact Nat.ne_of_gt (blk_lt (g := gb117) (o := .cells #[.string a0_0, .int .i64 a0_1] 99 (0, 0)) (by exact bk BK117)) : gb118 ≠ gb117)); clear BK117; clear HB; have BK117 := n0_; have HB := n1_; have BK118 := n2_; have GW118 := n3_; have GE118 := n4_; have NB117_118 := n5_; have NB118_117 := n6_; clear n0_ n1_ n2_ n3_ n4_ n5_ n6_; clear hb hbox hg; have hnb6 := NB117_118.out; have hnc6 := NB118_117.out; have hcz7_0 : w5.cell? ⟨gb117, 0, none⟩ = some (.string a0_0) := bc BK117 0; have hcz7_1 : w5.cell? ⟨gb117, 1, none⟩ = some (.int .i64 a0_1) := bc BK117 1; have hfz7_0 := zq6 BK117.out 0; have hfz7_1 := zq6 BK117.out 1; have hcz8_0 : w5.cell? ⟨gb118, 0, none⟩ = some (.string a1_0) := bc BK118 0; have hcz8_1 : w5.cell? ⟨gb118, 1, none⟩ = some (.int .i64 a1_1) := bc BK118 1; have hfz8_0 := zq6 BK118.out 0; have hfz8_1 := zq6 BK118.out 1))
    go_ret
    exact fz (by exact b2 HB GE117 GE118)
def spec_ScoresOk.T4 : Bool × List (List Nat × List Nat) := (true, [([], []), ([], []), ([0, 1], [0, 1]), ([2], [2]), ([3], [3]), ([4], [4]), ([5], [5]), ([6], [6]), ([7], [7]), ([7], [7]), ([8, 9, 7], [7, 8, 9]), ([10, 7], [7, 10]), ([11, 7], [7, 11]), ([12, 7, 7], [7, 12]), ([13, 7], [7, 13]), ([7, 14], [7, 14]), ([15, 13], [15]), ([16], [16]), ([17, 16], [16, 17]), ([18, 16, 16], [16, 18]), ([19], [19]), ([19], [19]), ([21, 19], [19, 21]), ([20, 22, 19], [19, 20, 22]), ([23, 19], [19, 23]), ([19], [19]), ([19], [19]), ([25, 26, 19], [19, 25, 26]), ([27, 19], [19, 27]), ([24, 28, 19, 19], [19, 24, 28]), ([29, 19], [19, 29]), ([19, 30, 16], [16, 19, 30]), ([16, 31], [16, 31])])
def spec_ScoresOk.B4 : List Nat := [0, 0, 3, 7, 15, 31, 63, 127, 255, 255, 1023, 2047, 4095, 8191, 16383, 32767, 65535, 131071, 262143, 524287, 1048575, 1048575, 3145727, 8388607, 16777215, 1048575, 1048575, 101711871, 235929599, 536870911, 1073741823, 2147483647, 4294967295]
theorem spec_ScoresOk.tab4 : rtab .any (opsOf Try.f43 4) = spec_ScoresOk.T4 := by kernel_rfl
theorem spec_ScoresOk.bits4 : waitsOk spec_ScoresOk.T4.2 spec_ScoresOk.B4 = true := by kernel_rfl
def spec_ScoresOk.T9 : Bool × List (List Nat × List Nat) := (true, [([], []), ([], []), ([0, 1], [0, 1]), ([2], [2]), ([3], [3]), ([], []), ([], []), ([5, 6], [5, 6]), ([7], [7]), ([8], [8]), ([4, 9], [4, 9])])
def spec_ScoresOk.B9 : List Nat := [0, 0, 3, 7, 15, 0, 0, 96, 224, 480, 1023]
theorem spec_ScoresOk.tab9 : rtab .any (opsOf Try.f43 9) = spec_ScoresOk.T9 := by kernel_rfl
theorem spec_ScoresOk.bits9 : waitsOk spec_ScoresOk.T9.2 spec_ScoresOk.B9 = true := by kernel_rfl
set_option maxHeartbeats 8000000 in
set_option maxRecDepth 100000 in
theorem spec_ScoresOk.calls (k : Nat) (A0 : Option Addr) (c0 : Nat) (l0 : List (S99)) (r : Bool) (w : World) (hr0 : Kd.C k99 w A0 l0.length l0) (hc0 : l0.length ≤ c0) (h : spec_ScoresOk.f k l0 = some r) :
  Calls Try.prog 43 #[.slice A0 l0.length c0] w fun e w' => e = .returned (.bool r) ∧ Below w.heap.size w w' := by
 have hu99 := Try.underlying99; have HR0 := zq9 hr0; have HC0 := zq9 hc0; clear hr0 hc0
 have HB := zq9 (Below.refl w.heap.size w)
 have H : (spec_ScoresOk.l0 k l0 0) = some r := h
 clear h; have H' := zq9 H; clear H
 go_enter Try.func43, Try.ntmps43
 go_wp2
 go_loopg [3] k (fun kq v3 w' => ∃ (x3_1 : Int), v3 = .int .i64 x3_1 ∧ Aside0 (spec_ScoresOk.l0 kq l0 x3_1 = some r) ∧ Aside0 (kq ≤ k) ∧ Aside0 (Below w.heap.size w w'))
 case atStart => exact ⟨(0), (by first | rfl | (simp; done) | (simp [*]; done)), H', ⟨Nat.le_refl _⟩, ⟨by exact bl HB⟩⟩
 case round =>
  clear H'
  obtain ⟨x3_1, rfl, HA, HK1, HB⟩ := hrel
  cases gk with
  | zero => exact absurd HA.out (by simp [spec_ScoresOk.l0])
  | succ k1 =>
   have H := HA.out; clear HA
   simp only [spec_ScoresOk.l0] at H
   by_cases c2 : x3_1 < (l0.length : Int)
   ·rw [if_pos c2] at H; have c2b0 : decide (x3_1 < (l0.length : Int)) = true := decide_eq_true c2; clear c2; have HC3 := zq9 H; clear H
    go_upto_region 4 with (fail)
    go_cut [43] (fun v43 wc => ∃ (kq : Nat) (x43_2 : Bool), v43 = .bool x43_2 ∧ Aside0 (spec_ScoresOk.j1 kq l0 x3_1 x43_2 = some r) ∧ Aside0 (kq ≤ k1) ∧ Aside0 (Below w.heap.size w wc))
    case first =>
     have H := HC3.out; clear HC3
     by_cases c4 : 0 ≤ x3_1
     ·rw [if_pos c4] at H; have c4b0 : decide (0 ≤ x3_1) = true := decide_eq_true c4; clear c4
      (first | rw [c4b0] | (simp only [i64_w, i32_w]; rw [c4b0]) | skip)
      by_cases c5 : (((rd_T99 l0 x3_1).f0).size : Int) > 40
      ·rw [if_pos c5] at H; have c5b0 : decide (40 < (((rd_T99 l0 x3_1).f0).size : Int)) = true := decide_eq_true c5
       have c5b1 : decide (40 < ((rd_T99 l0 x3_1).f0).size) = true := decide_eq_true (by omega)
       clear c5; have H' := zq9 H; clear H
       try go_wp2
       have n0_ := zq9 (zq4 HB.out)
       clear HB; have HB := n0_; clear n0_
       have p119 : 0 ≤ (x3_1 : Int) := of_decide_eq_true ‹_›
       have q119 : x3_1 < (l0.length : Int) := of_decide_eq_true ‹_›
       obtain ⟨ad119, e119, hx119_0, hx119_1⟩ := at_T99 HR0.out x3_1 p119 q119
       have hw119_1 := hx119_1; have hw119_0 := hx119_0; cases e119; replace hx119_0 := hcl HB hx119_0; replace hx119_1 := hcl HB hx119_1; replace p119 := eq_true p119; replace q119 := eq_true q119
       refine start_ (n := 33) (S := fun w' => w'.cell? (ad119.add ((x3_1).toNat * 2)) = some (.string ((rd_T99 l0 x3_1).f0)) ∧ w'.cell? ⟨(ad119.add ((x3_1).toNat * 2)).block, (ad119.add ((x3_1).toNat * 2)).off + 1, none⟩ = some (.int .i64 ((rd_T99 l0 x3_1).f1))) (ds := []) #[false, false, false, false, false, false, false, false, false, false, false, false, false, false, false, false, false, false, false, false, false, false, false, false, false, false, false, false, false, false, false, false, false] (by kernel_rfl) rfl rfl ⟨(hcm HB hw119_0), (hcm HB hw119_1)⟩ (fun hHeld => ?_); refine with_tabW spec_ScoresOk.tab4 spec_ScoresOk.bits4 (fun HT_ HW_ => ?_)
       generalize wr.drew = w6 at HB hx119_0 hx119_1 hHeld ⊢
       refine pa HT_ 0 11 (zb 33 1) ?_; refine pa HT_ 1 12 (zb 33 3) ?_; refine pa HT_ 2 13 (zb 33 7) ?_; refine pa HT_ 3 14 (zb 33 15) ?_
       refine take_ (i := 4) (N := some 15) (v := ?_) (a' := ?_) (zb 33 31) rfl rfl (take_ofW HT_.out HW_.out (by kernel_rfl)) (fun _ _ _ h => h) (Or.inl ⟨by rfl, ?_⟩) hHeld ?_ ?_
       rotate_left; ·rintro w' ⟨s0, s1⟩; go_simp; with_reducible rfl
       rotate_left; ·simp only [Act.put, zq0, zq1, zq2, i64_w, i32_w]; rfl
       refine pa HT_ 5 16 (zb 33 63) ?_; refine pa HT_ 6 17 (zb 33 127) ?_; refine pa HT_ 7 18 (zb 33 255) ?_; refine pb HT_ 8 19 (zb 33 511) ?_; refine pb HT_ 9 20 (zb 33 1023) ?_; refine pb HT_ 10 21 (zb 33 2047) ?_; refine pb HT_ 11 22 (zb 33 4095) ?_; refine pb HT_ 12 23 (zb 33 8191) ?_; refine pb HT_ 13 24 (zb 33 16383) ?_; refine pb HT_ 14 25 (zb 33 32767) ?_; refine pa HT_ 15 26 (zb 33 65535) ?_
       refine pa HT_ 16 27 (zb 33 131071) ?_; refine pb HT_ 17 28 (zb 33 262143) ?_; refine pb HT_ 18 29 (zb 33 524287) ?_; refine pb HT_ 19 30 (zb 33 1048575) ?_; refine pb HT_ 20 31 (zb 33 2097151) ?_; refine pb HT_ 21 32 (zb 33 4194303) ?_; refine pb HT_ 22 33 (zb 33 8388607) ?_; refine pb HT_ 23 34 (zb 33 16777215) ?_; refine pb HT_ 24 35 (zb 33 33554431) ?_; refine pb HT_ 25 36 (zb 33 67108863) ?_
       refine pb HT_ 26 37 (zb 33 134217727) ?_; refine pb HT_ 27 38 (zb 33 268435455) ?_; refine pb HT_ 28 39 (zb 33 536870911) ?_; refine pb HT_ 29 40 (zb 33 1073741823) ?_; refine pb HT_ 30 41 (zb 33 2147483647) ?_; refine pb HT_ 31 42 (zb 33 4294967295) ?_; refine pa HT_ 32 43 (zb 33 8589934591) ?_
       refine done_ (done_of HT_.out (by kernel_rfl)) ?_
       try go_wp2
       go_meet
       case rel => exact ⟨_, (true), (by first | rfl | (simp; done) | (simp [*]; done)), H', ⟨by have := HK1.out; first | omega | exact Nat.le_refl _⟩, ⟨by exact bl HB⟩⟩
      ·rw [if_neg c5] at H; have c5b0 : decide (40 < (((rd_T99 l0 x3_1).f0).size : Int)) = false := decide_eq_false c5
       have c5b1 : decide (40 < ((rd_T99 l0 x3_1).f0).size) = false := decide_eq_false (by omega)
       clear c5; replace H := Option.bind_eq_some_iff.mp H; obtain ⟨t121, A70, H⟩ := H
       try dsimp only at H
       have A7 := zq9 A70; clear A70
       by_cases c8 : t121 = true
       ·subst c8
        have H1 : (if x3_1 > 0 then (if 0 ≤ (wrap64 (x3_1 - 1)) then (if (wrap64 (x3_1 - 1)) < (l0.length : Int) then ((spec_l3Ahead.f ((rd_T99 l0 (wrap64 (x3_1 - 1))).f0) ((rd_T99 l0 (wrap64 (x3_1 - 1))).f1) ((rd_T99 l0 x3_1).f0) ((rd_T99 l0 x3_1).f1)).bind fun t124 => (spec_ScoresOk.j1 k1 l0 x3_1 (!t124))) else (none)) else (none)) else (spec_ScoresOk.j1 k1 l0 x3_1 false)) = some r := by rw [if_pos rfl] at H; exact H
        clear H; have H := H1; clear H1
        by_cases c9 : x3_1 > 0
        ·rw [if_pos c9] at H; have c9b0 : decide (0 < x3_1) = true := decide_eq_true c9; clear c9
         obtain ⟨ji10, hji10⟩ : ∃ j_ : Int, (wrap64 (x3_1 - 1)) = j_ := ⟨_, rfl⟩
         replace H : (if 0 ≤ (ji10) then (if (ji10) < (l0.length : Int) then ((spec_l3Ahead.f ((rd_T99 l0 (ji10)).f0) ((rd_T99 l0 (ji10)).f1) ((rd_T99 l0 x3_1).f0) ((rd_T99 l0 x3_1).f1)).bind fun t124 => (spec_ScoresOk.j1 k1 l0 x3_1 (!t124))) else (none)) else (none)) = some r := by first | (rw [hji10] at H; exact H) | (simp only [hji10] at H ⊢; exact H)
         (try rw [hji10] at A7)
         have hji10w : (IntKind.i64.wrap (x3_1 - 1)) = ji10 := (i64_w _).trans hji10
         by_cases c11 : 0 ≤ (ji10)
         ·rw [if_pos c11] at H; have c11b0 : decide (0 ≤ (ji10)) = true := decide_eq_true c11; clear c11
          by_cases c12 : (ji10) < (l0.length : Int)
          ·rw [if_pos c12] at H; have c12b0 : decide ((ji10) < (l0.length : Int)) = true := decide_eq_true c12; clear c12; replace H := Option.bind_eq_some_iff.mp H; obtain ⟨t124, A130, H⟩ := H
           try dsimp only at H
           have A13 := zq9 A130; clear A130; have H' := zq9 H; clear H
           try go_wp2
           have n0_ := zq9 (zq4 HB.out)
           clear HB; have HB := n0_; clear n0_
           have p119 : 0 ≤ (x3_1 : Int) := of_decide_eq_true ‹_›
           have q119 : x3_1 < (l0.length : Int) := of_decide_eq_true ‹_›
           obtain ⟨ad119, e119, hx119_0, hx119_1⟩ := at_T99 HR0.out x3_1 p119 q119
           have hw119_1 := hx119_1; have hw119_0 := hx119_0; cases e119; replace hx119_0 := hcl HB hx119_0; replace hx119_1 := hcl HB hx119_1; replace p119 := eq_true p119; replace q119 := eq_true q119
           have p120 : 0 ≤ (x3_1 : Int) := of_decide_eq_true ‹_›
           have q120 : x3_1 < (l0.length : Int) := of_decide_eq_true ‹_›
           obtain ⟨ad120, e120, hx120_0, hx120_1⟩ := at_T99 HR0.out x3_1 p120 q120
           have hw120_1 := hx120_1; have hw120_0 := hx120_0
           obtain rfl : ad119 = ad120 := (by injection e120)
           replace hx120_0 := hcl HB hx120_0; replace hx120_1 := hcl HB hx120_1; replace p120 := eq_true p120; replace q120 := eq_true q120
           have p122 : 0 ≤ ((ji10) : Int) := of_decide_eq_true ‹_›
           have q122 : (ji10) < (l0.length : Int) := of_decide_eq_true ‹_›
           obtain ⟨ad122, e122, hx122_0, hx122_1⟩ := at_T99 HR0.out (ji10) p122 q122
           have hw122_1 := hx122_1; have hw122_0 := hx122_0
           obtain rfl : ad119 = ad122 := (by injection e122)
           replace hx122_0 := hcl HB hx122_0; replace hx122_1 := hcl HB hx122_1; replace p122 := eq_true p122; replace q122 := eq_true q122
           have p123 : 0 ≤ (x3_1 : Int) := of_decide_eq_true ‹_›
           have q123 : x3_1 < (l0.length : Int) := of_decide_eq_true ‹_›
           obtain ⟨ad123, e123, hx123_0, hx123_1⟩ := at_T99 HR0.out x3_1 p123 q123
           have hw123_1 := hx123_1; have hw123_0 := hx123_0
           obtain rfl : ad119 = ad123 := (by injection e123)
           replace hx123_0 := hcl HB hx123_0; replace hx123_1 := hcl HB hx123_1; replace p123 := eq_true p123; replace q123 := eq_true q123
           refine start_ (n := 33) (S := fun w' => w'.cell? (ad119.add ((x3_1).toNat * 2)) = some (.string ((rd_T99 l0 x3_1).f0)) ∧ w'.cell? ⟨(ad119.add ((x3_1).toNat * 2)).block, (ad119.add ((x3_1).toNat * 2)).off + 1, none⟩ = some (.int .i64 ((rd_T99 l0 x3_1).f1)) ∧ w'.cell? (ad119.add ((x3_1).toNat * 2)) = some (.string ((rd_T99 l0 x3_1).f0)) ∧ w'.cell? ⟨(ad119.add ((x3_1).toNat * 2)).block, (ad119.add ((x3_1).toNat * 2)).off + 1, none⟩ = some (.int .i64 ((rd_T99 l0 x3_1).f1)) ∧ w'.cell? (ad119.add (((ji10)).toNat * 2)) = some (.string ((rd_T99 l0 (ji10)).f0)) ∧ w'.cell? ⟨(ad119.add (((ji10)).toNat * 2)).block, (ad119.add (((ji10)).toNat * 2)).off + 1, none⟩ = some (.int .i64 ((rd_T99 l0 (ji10)).f1)) ∧ w'.cell? (ad119.add ((x3_1).toNat * 2)) = some (.string ((rd_T99 l0 x3_1).f0)) ∧ w'.cell? ⟨(ad119.add ((x3_1).toNat * 2)).block, (ad119.add ((x3_1).toNat * 2)).off + 1, none⟩ = some (.int .i64 ((rd_T99 l0 x3_1).f1))) (ds := []) #[false, false, false, false, false, false, false, false, false, false, false, false, false, false, false, false, false, false, false, false, false, false, false, false, false, false, false, false, false, false, false, false, false] (by kernel_rfl) rfl rfl ⟨(hcm HB hw119_0), (hcm HB hw119_1), (hcm HB hw120_0), (hcm HB hw120_1), (hcm HB hw122_0), (hcm HB hw122_1), (hcm HB hw123_0), (hcm HB hw123_1)⟩ (fun hHeld => ?_); refine with_tabW spec_ScoresOk.tab4 spec_ScoresOk.bits4 (fun HT_ HW_ => ?_)
           generalize wr.drew = w14 at HB hx119_0 hx119_1 hx120_0 hx120_1 hx122_0 hx122_1 hx123_0 hx123_1 hHeld ⊢
           refine pa HT_ 0 11 (zb 33 1) ?_; refine pa HT_ 1 12 (zb 33 3) ?_; refine pa HT_ 2 13 (zb 33 7) ?_; refine pa HT_ 3 14 (zb 33 15) ?_
           refine take_ (i := 4) (N := some 15) (v := ?_) (a' := ?_) (zb 33 31) rfl rfl (take_ofW HT_.out HW_.out (by kernel_rfl)) (fun _ _ _ h => h) (Or.inl ⟨by rfl, ?_⟩) hHeld ?_ ?_
           rotate_left; ·rintro w' ⟨s0, s1, s2, s3, s4, s5, s6, s7⟩; go_simp; with_reducible rfl
           rotate_left; ·simp only [Act.put, zq0, zq1, zq2, i64_w, i32_w]; rfl
           refine pa HT_ 5 16 (zb 33 63) ?_; refine pa HT_ 6 17 (zb 33 127) ?_; refine pa HT_ 7 18 (zb 33 255) ?_; refine pa HT_ 8 19 (zb 33 511) ?_; refine pa HT_ 9 20 (zb 33 1023) ?_; refine pa HT_ 10 21 (zb 33 2047) ?_; refine pa HT_ 11 22 (zb 33 4095) ?_
           refine take_ (i := 12) (N := some 23) (v := ?_) (a' := ?_) (zb 33 8191) rfl rfl (take_ofW HT_.out HW_.out (by kernel_rfl)) (fun _ _ _ h => h) (Or.inl ⟨by rfl, ?_⟩) hHeld ?_ ?_
           rotate_left; ·rintro w' ⟨s0, s1, s2, s3, s4, s5, s6, s7⟩; go_simp; with_reducible rfl
           rotate_left; ·simp only [Act.put, zq0, zq1, zq2, i64_w, i32_w]; rfl
           refine one_ (i := 13) (N := some 24) (zb 33 16383) rfl rfl (one_of HT_.out (by kernel_rfl)) (by decide) (fun K hK => ?_)
           refine gs Try.func40 #[.int .i64 ((rd_T99 l0 x3_1).f1), .int .i64 (-1000000000), .int .i64 1000000000] ?_
           with_reducible refine (spec_l1In.calls ((rd_T99 l0 x3_1).f1) (-1000000000) 1000000000 true _ A7.out).mono ?_
           rintro e w' ⟨rfl, ⟨nd, rfl⟩⟩
           refine ⟨_, rfl, ?_⟩
           refine hK.out _ _ ⟨(hcm HB hw119_0), (hcm HB hw119_1), (hcm HB hw120_0), (hcm HB hw120_1), (hcm HB hw122_0), (hcm HB hw122_1), (hcm HB hw123_0), (hcm HB hw123_1)⟩ (fun hHeld => ?_)
           clear hK K
           refine norm_ (a' := ?_) ?_ ?_
           rotate_left; ·show Act.put _ (some 24) _ = _; simp only [Act.put, zq0, zq1, zq2, i64_w, i32_w]; rfl
           refine pa HT_ 14 25 (zb 33 32767) ?_; refine pa HT_ 15 26 (zb 33 65535) ?_; refine pa HT_ 16 27 (zb 33 131071) ?_; refine pa HT_ 17 28 (zb 33 262143) ?_; refine pa HT_ 18 29 (zb 33 524287) ?_; refine pa HT_ 19 30 (zb 33 1048575) ?_; refine pa HT_ 20 31 (zb 33 2097151) ?_; refine pa HT_ 21 32 (zb 33 4194303) ?_; refine pa HT_ 22 33 (zb 33 8388607) ?_; refine pa HT_ 23 34 (zb 33 16777215) ?_
           refine pa HT_ 25 36 (zb 33 50331647) ?_; refine pa HT_ 26 37 (zb 33 117440511) ?_; refine pa HT_ 27 38 (zb 33 251658239) ?_
           refine take_ (i := 24) (N := some 35) (v := ?_) (a' := ?_) (zb 33 268435455) rfl rfl (take_ofW HT_.out HW_.out (by kernel_rfl)) (fun _ _ _ h => h) (Or.inl ⟨by rfl, ?_⟩) hHeld ?_ ?_
           rotate_left; ·rintro w' ⟨s0, s1, s2, s3, s4, s5, s6, s7⟩; go_simp; with_reducible rfl
           rotate_left; ·simp only [Act.put, zq0, zq1, zq2, i64_w, i32_w]; rfl
           refine take_ (i := 28) (N := some 39) (v := ?_) (a' := ?_) (zb 33 536870911) rfl rfl (take_ofW HT_.out HW_.out (by kernel_rfl)) (fun _ _ _ h => h) (Or.inl ⟨by rfl, ?_⟩) hHeld ?_ ?_
           rotate_left; ·rintro w' ⟨s0, s1, s2, s3, s4, s5, s6, s7⟩; go_simp; with_reducible rfl
           rotate_left; ·simp only [Act.put, zq0, zq1, zq2, i64_w, i32_w]; rfl
           refine one_ (i := 29) (N := some 40) (zb 33 1073741823) rfl rfl (one_of HT_.out (by kernel_rfl)) (by decide) (fun K hK => ?_)
           refine goes_ Try.func81 (by kernel_rfl) rfl #[.agg #[.string ((rd_T99 l0 (ji10)).f0), .int .i64 ((rd_T99 l0 (ji10)).f1)], .agg #[.string ((rd_T99 l0 x3_1).f0), .int .i64 ((rd_T99 l0 x3_1).f1)]] (by rfl) rfl rfl (by (try simp only [List.map_toArray, List.map_cons, List.map_nil]); first | done | (simp only [hji10]; rfl) | rfl | (simp only [zq33, zq34]; rfl)) ?_
           with_reducible refine (spec_l3Ahead.calls ((rd_T99 l0 (ji10)).f0) ((rd_T99 l0 (ji10)).f1) ((rd_T99 l0 x3_1).f0) ((rd_T99 l0 x3_1).f1) t124 _ A13.out).mono ?_
           rintro e w15 ⟨rfl, hb⟩
           refine ⟨_, rfl, ?_⟩
           have n0_ := zq9 (zq27 (by exact bl HB) hb)
           clear HB; have HB := n0_; clear n0_
           (try clear hb)
           (try clear hb2)
           (try clear hk)
           (try clear hi)
           refine hK.out _ _ ⟨(hcm HB hw119_0), (hcm HB hw119_1), (hcm HB hw120_0), (hcm HB hw120_1), (hcm HB hw122_0), (hcm HB hw122_1), (hcm HB hw123_0), (hcm HB hw123_1)⟩ (fun hHeld => ?_)
           clear hK K
           refine norm_ (a' := ?_) ?_ ?_
           rotate_left; ·show Act.put _ (some 40) _ = _; simp only [Act.put, zq0, zq1, zq2, i64_w, i32_w]; rfl
           refine pa HT_ 30 41 (zb 33 2147483647) ?_; refine pa HT_ 31 42 (zb 33 4294967295) ?_; refine pa HT_ 32 43 (zb 33 8589934591) ?_
           refine done_ (done_of HT_.out (by kernel_rfl)) ?_
           try go_wp2
           go_meet
           case rel => exact ⟨_, (!t124), (by first | rfl | (simp; done) | (simp [*]; done)), H', ⟨by have := HK1.out; first | omega | exact Nat.le_refl _⟩, ⟨by exact bl HB⟩⟩
          ·rw [if_neg c12] at H
           exact absurd H (by simp)
         ·rw [if_neg c11] at H
          exact absurd H (by simp)
        ·rw [if_neg c9] at H; have c9b0 : decide (0 < x3_1) = false := decide_eq_false c9; clear c9; have H' := zq9 H; clear H
         try go_wp2
         have n0_ := zq9 (zq4 HB.out)
         clear HB; have HB := n0_; clear n0_
         have p119 : 0 ≤ (x3_1 : Int) := of_decide_eq_true ‹_›
         have q119 : x3_1 < (l0.length : Int) := of_decide_eq_true ‹_›
         obtain ⟨ad119, e119, hx119_0, hx119_1⟩ := at_T99 HR0.out x3_1 p119 q119
         have hw119_1 := hx119_1; have hw119_0 := hx119_0; cases e119; replace hx119_0 := hcl HB hx119_0; replace hx119_1 := hcl HB hx119_1; replace p119 := eq_true p119; replace q119 := eq_true q119
         have p120 : 0 ≤ (x3_1 : Int) := of_decide_eq_true ‹_›
         have q120 : x3_1 < (l0.length : Int) := of_decide_eq_true ‹_›
         obtain ⟨ad120, e120, hx120_0, hx120_1⟩ := at_T99 HR0.out x3_1 p120 q120
         have hw120_1 := hx120_1; have hw120_0 := hx120_0
         obtain rfl : ad119 = ad120 := (by injection e120)
         replace hx120_0 := hcl HB hx120_0; replace hx120_1 := hcl HB hx120_1; replace p120 := eq_true p120; replace q120 := eq_true q120
         refine start_ (n := 33) (S := fun w' => w'.cell? (ad119.add ((x3_1).toNat * 2)) = some (.string ((rd_T99 l0 x3_1).f0)) ∧ w'.cell? ⟨(ad119.add ((x3_1).toNat * 2)).block, (ad119.add ((x3_1).toNat * 2)).off + 1, none⟩ = some (.int .i64 ((rd_T99 l0 x3_1).f1)) ∧ w'.cell? (ad119.add ((x3_1).toNat * 2)) = some (.string ((rd_T99 l0 x3_1).f0)) ∧ w'.cell? ⟨(ad119.add ((x3_1).toNat * 2)).block, (ad119.add ((x3_1).toNat * 2)).off + 1, none⟩ = some (.int .i64 ((rd_T99 l0 x3_1).f1))) (ds := []) #[false, false, false, false, false, false, false, false, false, false, false, false, false, false, false, false, false, false, false, false, false, false, false, false, false, false, false, false, false, false, false, false, false] (by kernel_rfl) rfl rfl ⟨(hcm HB hw119_0), (hcm HB hw119_1), (hcm HB hw120_0), (hcm HB hw120_1)⟩ (fun hHeld => ?_); refine with_tabW spec_ScoresOk.tab4 spec_ScoresOk.bits4 (fun HT_ HW_ => ?_)
         generalize wr.drew = w16 at HB hx119_0 hx119_1 hx120_0 hx120_1 hHeld ⊢
         refine pa HT_ 0 11 (zb 33 1) ?_; refine pa HT_ 1 12 (zb 33 3) ?_; refine pa HT_ 2 13 (zb 33 7) ?_; refine pa HT_ 3 14 (zb 33 15) ?_
         refine take_ (i := 4) (N := some 15) (v := ?_) (a' := ?_) (zb 33 31) rfl rfl (take_ofW HT_.out HW_.out (by kernel_rfl)) (fun _ _ _ h => h) (Or.inl ⟨by rfl, ?_⟩) hHeld ?_ ?_
         rotate_left; ·rintro w' ⟨s0, s1, s2, s3⟩; go_simp; with_reducible rfl
         rotate_left; ·simp only [Act.put, zq0, zq1, zq2, i64_w, i32_w]; rfl
         refine pa HT_ 5 16 (zb 33 63) ?_; refine pa HT_ 6 17 (zb 33 127) ?_; refine pa HT_ 7 18 (zb 33 255) ?_; refine pa HT_ 8 19 (zb 33 511) ?_; refine pa HT_ 9 20 (zb 33 1023) ?_; refine pa HT_ 10 21 (zb 33 2047) ?_; refine pa HT_ 11 22 (zb 33 4095) ?_
         refine take_ (i := 12) (N := some 23) (v := ?_) (a' := ?_) (zb 33 8191) rfl rfl (take_ofW HT_.out HW_.out (by kernel_rfl)) (fun _ _ _ h => h) (Or.inl ⟨by rfl, ?_⟩) hHeld ?_ ?_
         rotate_left; ·rintro w' ⟨s0, s1, s2, s3⟩; go_simp; with_reducible rfl
         rotate_left; ·simp only [Act.put, zq0, zq1, zq2, i64_w, i32_w]; rfl
         refine one_ (i := 13) (N := some 24) (zb 33 16383) rfl rfl (one_of HT_.out (by kernel_rfl)) (by decide) (fun K hK => ?_)
         refine gs Try.func40 #[.int .i64 ((rd_T99 l0 x3_1).f1), .int .i64 (-1000000000), .int .i64 1000000000] ?_
         with_reducible refine (spec_l1In.calls ((rd_T99 l0 x3_1).f1) (-1000000000) 1000000000 true _ A7.out).mono ?_
         rintro e w' ⟨rfl, ⟨nd, rfl⟩⟩
         refine ⟨_, rfl, ?_⟩
         refine hK.out _ _ ⟨(hcm HB hw119_0), (hcm HB hw119_1), (hcm HB hw120_0), (hcm HB hw120_1)⟩ (fun hHeld => ?_)
         clear hK K
         refine norm_ (a' := ?_) ?_ ?_
         rotate_left; ·show Act.put _ (some 24) _ = _; simp only [Act.put, zq0, zq1, zq2, i64_w, i32_w]; rfl
         refine pa HT_ 14 25 (zb 33 32767) ?_; refine pa HT_ 15 26 (zb 33 65535) ?_; refine pa HT_ 16 27 (zb 33 131071) ?_; refine pa HT_ 17 28 (zb 33 262143) ?_; refine pa HT_ 18 29 (zb 33 524287) ?_; refine pa HT_ 19 30 (zb 33 1048575) ?_; refine pb HT_ 20 31 (zb 33 2097151) ?_; refine pb HT_ 21 32 (zb 33 4194303) ?_; refine pb HT_ 22 33 (zb 33 8388607) ?_; refine pb HT_ 23 34 (zb 33 16777215) ?_
         refine pb HT_ 24 35 (zb 33 33554431) ?_; refine pb HT_ 25 36 (zb 33 67108863) ?_; refine pb HT_ 26 37 (zb 33 134217727) ?_; refine pb HT_ 27 38 (zb 33 268435455) ?_; refine pb HT_ 28 39 (zb 33 536870911) ?_; refine pb HT_ 29 40 (zb 33 1073741823) ?_; refine pb HT_ 30 41 (zb 33 2147483647) ?_; refine pa HT_ 31 42 (zb 33 4294967295) ?_; refine pa HT_ 32 43 (zb 33 8589934591) ?_
         refine done_ (done_of HT_.out (by kernel_rfl)) ?_
         try go_wp2
         go_meet
         case rel => exact ⟨_, (false), (by first | rfl | (simp; done) | (simp [*]; done)), H', ⟨by have := HK1.out; first | omega | exact Nat.le_refl _⟩, ⟨by exact bl HB⟩⟩
       ·replace c8 := Bool.eq_false_iff.mpr c8
        subst c8
        have H1 : (spec_ScoresOk.j1 k1 l0 x3_1 true) = some r := by rw [if_neg (show ¬ (false = true) by decide)] at H; exact H
        clear H; have H := H1; clear H1; have H' := zq9 H; clear H
        try go_wp2
        have n0_ := zq9 (zq4 HB.out)
        clear HB; have HB := n0_; clear n0_
        have p119 : 0 ≤ (x3_1 : Int) := of_decide_eq_true ‹_›
        have q119 : x3_1 < (l0.length : Int) := of_decide_eq_true ‹_›
        obtain ⟨ad119, e119, hx119_0, hx119_1⟩ := at_T99 HR0.out x3_1 p119 q119
        have hw119_1 := hx119_1; have hw119_0 := hx119_0; cases e119; replace hx119_0 := hcl HB hx119_0; replace hx119_1 := hcl HB hx119_1; replace p119 := eq_true p119; replace q119 := eq_true q119
        have p120 : 0 ≤ (x3_1 : Int) := of_decide_eq_true ‹_›
        have q120 : x3_1 < (l0.length : Int) := of_decide_eq_true ‹_›
        obtain ⟨ad120, e120, hx120_0, hx120_1⟩ := at_T99 HR0.out x3_1 p120 q120
        have hw120_1 := hx120_1; have hw120_0 := hx120_0
        obtain rfl : ad119 = ad120 := (by injection e120)
        replace hx120_0 := hcl HB hx120_0; replace hx120_1 := hcl HB hx120_1; replace p120 := eq_true p120; replace q120 := eq_true q120
        refine start_ (n := 33) (S := fun w' => w'.cell? (ad119.add ((x3_1).toNat * 2)) = some (.string ((rd_T99 l0 x3_1).f0)) ∧ w'.cell? ⟨(ad119.add ((x3_1).toNat * 2)).block, (ad119.add ((x3_1).toNat * 2)).off + 1, none⟩ = some (.int .i64 ((rd_T99 l0 x3_1).f1)) ∧ w'.cell? (ad119.add ((x3_1).toNat * 2)) = some (.string ((rd_T99 l0 x3_1).f0)) ∧ w'.cell? ⟨(ad119.add ((x3_1).toNat * 2)).block, (ad119.add ((x3_1).toNat * 2)).off + 1, none⟩ = some (.int .i64 ((rd_T99 l0 x3_1).f1))) (ds := []) #[false, false, false, false, false, false, false, false, false, false, false, false, false, false, false, false, false, false, false, false, false, false, false, false, false, false, false, false, false, false, false, false, false] (by kernel_rfl) rfl rfl ⟨(hcm HB hw119_0), (hcm HB hw119_1), (hcm HB hw120_0), (hcm HB hw120_1)⟩ (fun hHeld => ?_); refine with_tabW spec_ScoresOk.tab4 spec_ScoresOk.bits4 (fun HT_ HW_ => ?_)
        generalize wr.drew = w17 at HB hx119_0 hx119_1 hx120_0 hx120_1 hHeld ⊢
        refine pa HT_ 0 11 (zb 33 1) ?_; refine pa HT_ 1 12 (zb 33 3) ?_; refine pa HT_ 2 13 (zb 33 7) ?_; refine pa HT_ 3 14 (zb 33 15) ?_
        refine take_ (i := 4) (N := some 15) (v := ?_) (a' := ?_) (zb 33 31) rfl rfl (take_ofW HT_.out HW_.out (by kernel_rfl)) (fun _ _ _ h => h) (Or.inl ⟨by rfl, ?_⟩) hHeld ?_ ?_
        rotate_left; ·rintro w' ⟨s0, s1, s2, s3⟩; go_simp; with_reducible rfl
        rotate_left; ·simp only [Act.put, zq0, zq1, zq2, i64_w, i32_w]; rfl
        refine pa HT_ 5 16 (zb 33 63) ?_; refine pa HT_ 6 17 (zb 33 127) ?_; refine pa HT_ 7 18 (zb 33 255) ?_; refine pa HT_ 8 19 (zb 33 511) ?_; refine pa HT_ 9 20 (zb 33 1023) ?_; refine pa HT_ 10 21 (zb 33 2047) ?_; refine pa HT_ 11 22 (zb 33 4095) ?_
        refine take_ (i := 12) (N := some 23) (v := ?_) (a' := ?_) (zb 33 8191) rfl rfl (take_ofW HT_.out HW_.out (by kernel_rfl)) (fun _ _ _ h => h) (Or.inl ⟨by rfl, ?_⟩) hHeld ?_ ?_
        rotate_left; ·rintro w' ⟨s0, s1, s2, s3⟩; go_simp; with_reducible rfl
        rotate_left; ·simp only [Act.put, zq0, zq1, zq2, i64_w, i32_w]; rfl
        refine one_ (i := 13) (N := some 24) (zb 33 16383) rfl rfl (one_of HT_.out (by kernel_rfl)) (by decide) (fun K hK => ?_)
        refine gs Try.func40 #[.int .i64 ((rd_T99 l0 x3_1).f1), .int .i64 (-1000000000), .int .i64 1000000000] ?_
        with_reducible refine (spec_l1In.calls ((rd_T99 l0 x3_1).f1) (-1000000000) 1000000000 false _ A7.out).mono ?_
        rintro e w' ⟨rfl, ⟨nd, rfl⟩⟩
        refine ⟨_, rfl, ?_⟩
        refine hK.out _ _ ⟨(hcm HB hw119_0), (hcm HB hw119_1), (hcm HB hw120_0), (hcm HB hw120_1)⟩ (fun hHeld => ?_)
        clear hK K
        refine norm_ (a' := ?_) ?_ ?_
        rotate_left; ·show Act.put _ (some 24) _ = _; simp only [Act.put, zq0, zq1, zq2, i64_w, i32_w]; rfl
        refine pa HT_ 14 25 (zb 33 32767) ?_; refine pa HT_ 15 26 (zb 33 65535) ?_; refine pa HT_ 16 27 (zb 33 131071) ?_; refine pb HT_ 17 28 (zb 33 262143) ?_; refine pb HT_ 18 29 (zb 33 524287) ?_; refine pb HT_ 19 30 (zb 33 1048575) ?_; refine pb HT_ 20 31 (zb 33 2097151) ?_; refine pb HT_ 21 32 (zb 33 4194303) ?_; refine pb HT_ 22 33 (zb 33 8388607) ?_; refine pb HT_ 23 34 (zb 33 16777215) ?_
        refine pb HT_ 24 35 (zb 33 33554431) ?_; refine pb HT_ 25 36 (zb 33 67108863) ?_; refine pb HT_ 26 37 (zb 33 134217727) ?_; refine pb HT_ 27 38 (zb 33 268435455) ?_; refine pb HT_ 28 39 (zb 33 536870911) ?_; refine pb HT_ 29 40 (zb 33 1073741823) ?_; refine pb HT_ 30 41 (zb 33 2147483647) ?_; refine pb HT_ 31 42 (zb 33 4294967295) ?_; refine pa HT_ 32 43 (zb 33 8589934591) ?_
        refine done_ (done_of HT_.out (by kernel_rfl)) ?_
        try go_wp2
        go_meet
        case rel => exact ⟨_, (true), (by first | rfl | (simp; done) | (simp [*]; done)), H', ⟨by have := HK1.out; first | omega | exact Nat.le_refl _⟩, ⟨by exact bl HB⟩⟩
     ·rw [if_neg c4] at H
      exact absurd H (by simp)
    case rest =>
     clear HC3
     try clear c1
     try clear p1
     try clear q1
     try clear hx1
     try clear p2
     try clear c4
     try clear c8
     try clear c9
     try clear c9b0
     try clear c11
     try clear p11
     try clear q11
     try clear hx11
     try clear c12
     try clear p12
     try clear q12
     try clear hx12
     try clear hx119_0
     try clear hx119_1
     try clear hx120_0
     try clear hx120_1
     try clear p119
     try clear p120
     try clear q119
     try clear q120
     obtain ⟨kq, x43_2, rfl, HA, HJ2, HB⟩ := hcut
     cases kq with
     | zero => exact absurd HA.out (by simp [spec_ScoresOk.j1])
     | succ kj2 =>
      have H := HA.out; clear HA
      simp only [spec_ScoresOk.j1] at H
      by_cases c18 : x43_2 = true
      ·subst c18
       have H1 : (some false) = some r := by rw [if_pos rfl] at H; exact H
       clear H; have H := H1; clear H1; obtain rfl := Option.some.inj H
       go_wp2
       go_ret
       exact fz (by exact bl HB)
      ·replace c18 := Bool.eq_false_iff.mpr c18
       subst c18
       have H1 : (spec_ScoresOk.l1 kj2 l0 x3_1 0) = some r := by rw [if_neg (show ¬ (false = true) by decide)] at H; exact H
       clear H; have H := H1; clear H1; have H' := zq9 H; clear H
       go_wp2
       go_loopg [4] kj2 (fun kq v4 w' => ∃ (x4_3 : Int), v4 = .int .i64 x4_3 ∧ Aside0 (spec_ScoresOk.l1 kq l0 x3_1 x4_3 = some r) ∧ Aside0 (kq ≤ kj2) ∧ Aside0 (Below w.heap.size w w'))
       case atStart => exact ⟨(0), (by first | rfl | (simp; done) | (simp [*]; done)), H', ⟨Nat.le_refl _⟩, ⟨by exact bl HB⟩⟩
       case round =>
        clear H'
        try clear c1
        try clear p1
        try clear q1
        try clear hx1
        try clear p2
        try clear c4
        try clear c8
        try clear c9
        try clear c9b0
        try clear c11
        try clear p11
        try clear q11
        try clear hx11
        try clear c12
        try clear p12
        try clear q12
        try clear hx12
        try clear c18
        try clear hx119_0
        try clear hx119_1
        try clear hx120_0
        try clear hx120_1
        try clear p1
        try clear p11
        try clear p119
        try clear p12
        try clear p120
        try clear p2
        try clear q1
        try clear q11
        try clear q119
        try clear q12
        try clear q120
        obtain ⟨x4_3, rfl, HA, HK3, HB⟩ := hrel
        cases gk with
        | zero => exact absurd HA.out (by simp [spec_ScoresOk.l1])
        | succ k3 =>
         have H := HA.out; clear HA
         simp only [spec_ScoresOk.l1] at H
         by_cases c19 : x4_3 < x3_1
         ·rw [if_pos c19] at H; have c19b0 : decide (x4_3 < x3_1) = true := decide_eq_true c19; clear c19
          by_cases c20 : 0 ≤ x4_3
          ·rw [if_pos c20] at H; have c20b0 : decide (0 ≤ x4_3) = true := decide_eq_true c20; clear c20
           by_cases c21 : x4_3 < (l0.length : Int)
           ·rw [if_pos c21] at H; have c21b0 : decide (x4_3 < (l0.length : Int)) = true := decide_eq_true c21; clear c21
            by_cases c22 : 0 ≤ x3_1
            ·rw [if_pos c22] at H; have c22b0 : decide (0 ≤ x3_1) = true := decide_eq_true c22; clear c22
             by_cases c23 : x3_1 < (l0.length : Int)
             ·rw [if_pos c23] at H; have c23b0 : decide (x3_1 < (l0.length : Int)) = true := decide_eq_true c23; clear c23
              by_cases c24 : ((rd_T99 l0 x4_3).f0).toList = ((rd_T99 l0 x3_1).f0).toList
              ·rw [if_pos c24] at H
               have c24b0 : (((rd_T99 l0 x4_3).f0).toList == ((rd_T99 l0 x3_1).f0).toList) = true := beq_iff_eq.mpr c24
               have c24b1 : (((rd_T99 l0 x4_3).f0).toList != ((rd_T99 l0 x3_1).f0).toList) = false := bne_eq_false_iff_eq.mpr c24
               clear c24; obtain rfl := Option.some.inj H
               try go_wp2
               have n0_ := zq9 (zq4 HB.out)
               clear HB; have HB := n0_; clear n0_
               have p125 : 0 ≤ (x4_3 : Int) := of_decide_eq_true ‹_›
               have q125 : x4_3 < (l0.length : Int) := of_decide_eq_true ‹_›
               obtain ⟨ad125, e125, hx125_0, hx125_1⟩ := at_T99 HR0.out x4_3 p125 q125
               have hw125_1 := hx125_1; have hw125_0 := hx125_0; cases e125; replace hx125_0 := hcl HB hx125_0; replace hx125_1 := hcl HB hx125_1; replace p125 := eq_true p125; replace q125 := eq_true q125
               have p126 : 0 ≤ (x3_1 : Int) := of_decide_eq_true ‹_›
               have q126 : x3_1 < (l0.length : Int) := of_decide_eq_true ‹_›
               obtain ⟨ad126, e126, hx126_0, hx126_1⟩ := at_T99 HR0.out x3_1 p126 q126
               have hw126_1 := hx126_1; have hw126_0 := hx126_0
               obtain rfl : ad125 = ad126 := (by injection e126)
               replace hx126_0 := hcl HB hx126_0; replace hx126_1 := hcl HB hx126_1; replace p126 := eq_true p126; replace q126 := eq_true q126
               refine start_ (n := 11) (S := fun w' => w'.cell? (ad125.add ((x4_3).toNat * 2)) = some (.string ((rd_T99 l0 x4_3).f0)) ∧ w'.cell? ⟨(ad125.add ((x4_3).toNat * 2)).block, (ad125.add ((x4_3).toNat * 2)).off + 1, none⟩ = some (.int .i64 ((rd_T99 l0 x4_3).f1)) ∧ w'.cell? (ad125.add ((x3_1).toNat * 2)) = some (.string ((rd_T99 l0 x3_1).f0)) ∧ w'.cell? ⟨(ad125.add ((x3_1).toNat * 2)).block, (ad125.add ((x3_1).toNat * 2)).off + 1, none⟩ = some (.int .i64 ((rd_T99 l0 x3_1).f1))) (ds := []) #[false, false, false, false, false, false, false, false, false, false, false] (by kernel_rfl) rfl rfl ⟨(hcm HB hw125_0), (hcm HB hw125_1), (hcm HB hw126_0), (hcm HB hw126_1)⟩ (fun hHeld => ?_); refine with_tabW spec_ScoresOk.tab9 spec_ScoresOk.bits9 (fun HT_ HW_ => ?_)
               generalize wr.drew = w25 at HB hx125_0 hx125_1 hx126_0 hx126_1 hHeld ⊢
               refine pa HT_ 0 49 (zb 11 1) ?_; refine pa HT_ 1 50 (zb 11 3) ?_; refine pa HT_ 2 51 (zb 11 7) ?_; refine pa HT_ 3 52 (zb 11 15) ?_; refine pa HT_ 5 54 (zb 11 47) ?_; refine pa HT_ 6 55 (zb 11 111) ?_; refine pa HT_ 7 56 (zb 11 239) ?_; refine pa HT_ 8 57 (zb 11 495) ?_
               refine take_ (i := 4) (N := some 53) (v := ?_) (a' := ?_) (zb 11 511) rfl rfl (take_ofW HT_.out HW_.out (by kernel_rfl)) (fun _ _ _ h => h) (Or.inl ⟨by rfl, ?_⟩) hHeld ?_ ?_
               rotate_left; ·rintro w' ⟨s0, s1, s2, s3⟩; go_simp; with_reducible rfl
               rotate_left; ·simp only [Act.put, zq0, zq1, zq2, i64_w, i32_w]; rfl
               refine take_ (i := 9) (N := some 58) (v := ?_) (a' := ?_) (zb 11 1023) rfl rfl (take_ofW HT_.out HW_.out (by kernel_rfl)) (fun _ _ _ h => h) (Or.inl ⟨by rfl, ?_⟩) hHeld ?_ ?_
               rotate_left; ·rintro w' ⟨s0, s1, s2, s3⟩; go_simp; with_reducible rfl
               rotate_left; ·simp only [Act.put, zq0, zq1, zq2, i64_w, i32_w]; rfl
               refine pa HT_ 10 59 (zb 11 2047) ?_
               refine done_ (done_of HT_.out (by kernel_rfl)) ?_
               try go_wp2
               go_ret
               exact fz (by exact bl HB)
              ·rw [if_neg c24] at H
               have c24b0 : (((rd_T99 l0 x4_3).f0).toList == ((rd_T99 l0 x3_1).f0).toList) = false := beq_eq_false_iff_ne.mpr c24
               have c24b1 : (((rd_T99 l0 x4_3).f0).toList != ((rd_T99 l0 x3_1).f0).toList) = true := bne_iff_ne.mpr c24
               have H' := zq9 H; clear H
               try go_wp2
               have n0_ := zq9 (zq4 HB.out)
               clear HB; have HB := n0_; clear n0_
               have p125 : 0 ≤ (x4_3 : Int) := of_decide_eq_true ‹_›
               have q125 : x4_3 < (l0.length : Int) := of_decide_eq_true ‹_›
               obtain ⟨ad125, e125, hx125_0, hx125_1⟩ := at_T99 HR0.out x4_3 p125 q125
               have hw125_1 := hx125_1; have hw125_0 := hx125_0; cases e125; replace hx125_0 := hcl HB hx125_0; replace hx125_1 := hcl HB hx125_1; replace p125 := eq_true p125; replace q125 := eq_true q125
               have p126 : 0 ≤ (x3_1 : Int) := of_decide_eq_true ‹_›
               have q126 : x3_1 < (l0.length : Int) := of_decide_eq_true ‹_›
               obtain ⟨ad126, e126, hx126_0, hx126_1⟩ := at_T99 HR0.out x3_1 p126 q126
               have hw126_1 := hx126_1; have hw126_0 := hx126_0
               obtain rfl : ad125 = ad126 := (by injection e126)
               replace hx126_0 := hcl HB hx126_0; replace hx126_1 := hcl HB hx126_1; replace p126 := eq_true p126; replace q126 := eq_true q126
               refine start_ (n := 11) (S := fun w' => w'.cell? (ad125.add ((x4_3).toNat * 2)) = some (.string ((rd_T99 l0 x4_3).f0)) ∧ w'.cell? ⟨(ad125.add ((x4_3).toNat * 2)).block, (ad125.add ((x4_3).toNat * 2)).off + 1, none⟩ = some (.int .i64 ((rd_T99 l0 x4_3).f1)) ∧ w'.cell? (ad125.add ((x3_1).toNat * 2)) = some (.string ((rd_T99 l0 x3_1).f0)) ∧ w'.cell? ⟨(ad125.add ((x3_1).toNat * 2)).block, (ad125.add ((x3_1).toNat * 2)).off + 1, none⟩ = some (.int .i64 ((rd_T99 l0 x3_1).f1))) (ds := []) #[false, false, false, false, false, false, false, false, false, false, false] (by kernel_rfl) rfl rfl ⟨(hcm HB hw125_0), (hcm HB hw125_1), (hcm HB hw126_0), (hcm HB hw126_1)⟩ (fun hHeld => ?_); refine with_tabW spec_ScoresOk.tab9 spec_ScoresOk.bits9 (fun HT_ HW_ => ?_)
               generalize wr.drew = w26 at HB hx125_0 hx125_1 hx126_0 hx126_1 hHeld ⊢
               refine pa HT_ 0 49 (zb 11 1) ?_; refine pa HT_ 1 50 (zb 11 3) ?_; refine pa HT_ 2 51 (zb 11 7) ?_; refine pa HT_ 3 52 (zb 11 15) ?_; refine pa HT_ 5 54 (zb 11 47) ?_; refine pa HT_ 6 55 (zb 11 111) ?_; refine pa HT_ 7 56 (zb 11 239) ?_; refine pa HT_ 8 57 (zb 11 495) ?_
               refine take_ (i := 4) (N := some 53) (v := ?_) (a' := ?_) (zb 11 511) rfl rfl (take_ofW HT_.out HW_.out (by kernel_rfl)) (fun _ _ _ h => h) (Or.inl ⟨by rfl, ?_⟩) hHeld ?_ ?_
               rotate_left; ·rintro w' ⟨s0, s1, s2, s3⟩; go_simp; with_reducible rfl
               rotate_left; ·simp only [Act.put, zq0, zq1, zq2, i64_w, i32_w]; rfl
               refine take_ (i := 9) (N := some 58) (v := ?_) (a' := ?_) (zb 11 1023) rfl rfl (take_ofW HT_.out HW_.out (by kernel_rfl)) (fun _ _ _ h => h) (Or.inl ⟨by rfl, ?_⟩) hHeld ?_ ?_
               rotate_left; ·rintro w' ⟨s0, s1, s2, s3⟩; go_simp; with_reducible rfl
               rotate_left; ·simp only [Act.put, zq0, zq1, zq2, i64_w, i32_w]; rfl
               refine pa HT_ 10 59 (zb 11 2047) ?_
               refine done_ (done_of HT_.out (by kernel_rfl)) ?_
               try go_wp2
               go_roundg k3
               case measure => have := HK1.out; have := HJ2.out; have := HK3.out; omega
               case rel => exact ⟨(wrap64 (x4_3 + 1)), (by first | rfl | (simp; done) | (simp [*]; done)), H', ⟨by have := HK1.out; have := HJ2.out; have := HK3.out; omega⟩, ⟨by exact bl HB⟩⟩
             ·rw [if_neg c23] at H
              exact absurd H (by simp)
            ·rw [if_neg c22] at H
             exact absurd H (by simp)
           ·rw [if_neg c21] at H
            exact absurd H (by simp)
          ·rw [if_neg c20] at H
           exact absurd H (by simp)
         ·rw [if_neg c19] at H; have c19b0 : decide (x4_3 < x3_1) = false := decide_eq_false c19; clear c19; have H' := zq9 H; clear H
          go_wp2
          go_roundg k3
          case measure => have := HK1.out; have := HJ2.out; have := HK3.out; omega
          case rel => exact ⟨(wrap64 (x3_1 + 1)), (by first | rfl | (simp; done) | (simp [*]; done)), H', ⟨by have := HK1.out; have := HJ2.out; have := HK3.out; omega⟩, ⟨by exact bl HB⟩⟩
   ·rw [if_neg c2] at H; have c2b0 : decide (x3_1 < (l0.length : Int)) = false := decide_eq_false c2; clear c2; obtain rfl := Option.some.inj H
    go_wp2
    go_ret
    exact fz (by exact bl HB)
set_option maxHeartbeats 8000000 in
set_option maxRecDepth 100000 in
theorem spec_FieldsOk.calls (k : Nat) (A0 : Option Addr) (c0 : Nat) (l0 : List (S101)) (r : Bool) (w : World) (hr0 : Kd.C k101 w A0 l0.length l0) (hc0 : l0.length ≤ c0) (h : spec_FieldsOk.f k l0 = some r) :
  Calls Try.prog 44 #[.slice A0 l0.length c0] w fun e w' => e = .returned (.bool r) ∧ Drawn0 w w' := by
 have HR0 := zq9 hr0; have HC0 := zq9 hc0; clear hr0 hc0
 have H : (spec_FieldsOk.l0 k l0 0) = some r := h
 clear h; have H' := zq9 H; clear H
 go_enter Try.func44, Try.ntmps44
 go_wp2
 repeat (go_quiet (fail); try go_wp2)
 go_loopg [3] k (fun kq v3 w' => ∃ (x3_1 : Int), v3 = .int .i64 x3_1 ∧ Aside0 (spec_FieldsOk.l0 kq l0 x3_1 = some r) ∧ Aside0 (kq ≤ k) ∧ Drawn0 w w')
 case atStart => exact ⟨(0), (by first | rfl | (simp; done) | (simp [*]; done)), H', ⟨Nat.le_refl _⟩, by repeat (first | exact Drawn0.refl _ | apply Drawn0.step)⟩
 case round =>
  clear H'
  obtain ⟨x3_1, rfl, HA, HK1, ⟨m1, rfl⟩⟩ := hrel
  cases gk with
  | zero => exact absurd HA.out (by simp [spec_FieldsOk.l0])
  | succ k1 =>
   have H := HA.out; clear HA
   simp only [spec_FieldsOk.l0] at H
   refine (Classical.em (x3_1 < (l0.length : Int))).elim (fun c2 => ?p0) (fun c2 => ?n0)
   case' p0 =>
    rw [if_pos c2] at H; have c2b0 : decide (x3_1 < (l0.length : Int)) = true := decide_eq_true c2; clear c2
    refine (Classical.em (0 ≤ x3_1)).elim (fun c3 => ?p1) (fun c3 => ?n1)
    case' p1 =>
     rw [if_pos c3] at H; have c3b0 : decide (0 ≤ x3_1) = true := decide_eq_true c3; clear c3
     have p127 : 0 ≤ (x3_1 : Int) := of_decide_eq_true ‹_›
     have q127 : x3_1 < (l0.length : Int) := of_decide_eq_true ‹_›
     obtain ⟨ad127, e127, hx127_0, hx127_1⟩ := at_T101 HR0.out x3_1 p127 q127
     cases e127; replace p127 := eq_true p127; replace q127 := eq_true q127
     refine (Classical.em ((((rd_T101 l0 x3_1).f0).size : Int) > 40)).elim (fun c4 => ?p2) (fun c4 => ?n2)
     case' p2 =>
      rw [if_pos c4] at H; have c4b0 : decide (40 < (((rd_T101 l0 x3_1).f0).size : Int)) = true := decide_eq_true c4
      have c4b1 : decide (40 < ((rd_T101 l0 x3_1).f0).size) = true := decide_eq_true (by omega)
      clear c4; obtain rfl := Option.some.inj H
     case' n2 =>
      rw [if_neg c4] at H; have c4b0 : decide (40 < (((rd_T101 l0 x3_1).f0).size : Int)) = false := decide_eq_false c4
      have c4b1 : decide (40 < ((rd_T101 l0 x3_1).f0).size) = false := decide_eq_false (by omega)
      clear c4
      have p128 : 0 ≤ (x3_1 : Int) := of_decide_eq_true ‹_›
      have q128 : x3_1 < (l0.length : Int) := of_decide_eq_true ‹_›
      obtain ⟨ad128, e128, hx128_0, hx128_1⟩ := at_T101 HR0.out x3_1 p128 q128
      obtain rfl : ad127 = ad128 := (by injection e128)
      replace p128 := eq_true p128; replace q128 := eq_true q128
      refine (Classical.em ((((rd_T101 l0 x3_1).f1).size : Int) > 40)).elim (fun c5 => ?p3) (fun c5 => ?n3)
      case' p3 =>
       rw [if_pos c5] at H; have c5b0 : decide (40 < (((rd_T101 l0 x3_1).f1).size : Int)) = true := decide_eq_true c5
       have c5b1 : decide (40 < ((rd_T101 l0 x3_1).f1).size) = true := decide_eq_true (by omega)
       clear c5; obtain rfl := Option.some.inj H
      case n3 =>
       rw [if_neg c5] at H; have c5b0 : decide (40 < (((rd_T101 l0 x3_1).f1).size : Int)) = false := decide_eq_false c5
       have c5b1 : decide (40 < ((rd_T101 l0 x3_1).f1).size) = false := decide_eq_false (by omega)
       clear c5
       by_cases c6 : x3_1 > 0
       ·rw [if_pos c6] at H; have c6b0 : decide (0 < x3_1) = true := decide_eq_true c6; clear c6
        obtain ⟨ji7, hji7⟩ : ∃ j_ : Int, (wrap64 (x3_1 - 1)) = j_ := ⟨_, rfl⟩
        replace H : (if 0 ≤ (ji7) then (if (ji7) < (l0.length : Int) then (if ((Op.bytesLess (((rd_T101 l0 (ji7)).f0).toList) (((rd_T101 l0 x3_1).f0).toList)) = true) then (spec_FieldsOk.l0 k1 l0 (wrap64 (x3_1 + 1))) else (some false)) else (none)) else (none)) = some r := by first | (rw [hji7] at H; exact H) | (simp only [hji7] at H ⊢; exact H)
        have hji7w : (IntKind.i64.wrap (x3_1 - 1)) = ji7 := (i64_w _).trans hji7
        by_cases c8 : 0 ≤ (ji7)
        ·rw [if_pos c8] at H; have c8b0 : decide (0 ≤ (ji7)) = true := decide_eq_true c8; clear c8
         by_cases c9 : (ji7) < (l0.length : Int)
         ·rw [if_pos c9] at H; have c9b0 : decide ((ji7) < (l0.length : Int)) = true := decide_eq_true c9; clear c9
          have p129 : 0 ≤ ((ji7) : Int) := of_decide_eq_true ‹_›
          have q129 : (ji7) < (l0.length : Int) := of_decide_eq_true ‹_›
          obtain ⟨ad129, e129, hx129_0, hx129_1⟩ := at_T101 HR0.out (ji7) p129 q129
          obtain rfl : ad127 = ad129 := (by injection e129)
          replace p129 := eq_true p129; replace q129 := eq_true q129
          have p130 : 0 ≤ (x3_1 : Int) := of_decide_eq_true ‹_›
          have q130 : x3_1 < (l0.length : Int) := of_decide_eq_true ‹_›
          obtain ⟨ad130, e130, hx130_0, hx130_1⟩ := at_T101 HR0.out x3_1 p130 q130
          obtain rfl : ad127 = ad130 := (by injection e130)
          replace p130 := eq_true p130; replace q130 := eq_true q130
          go_wp2
          by_cases c10 : ((Op.bytesLess (((rd_T101 l0 (ji7)).f0).toList) (((rd_T101 l0 x3_1).f0).toList)) = true)
          ·rw [if_pos c10] at H
           have c10b0 : (Op.bytesLess (((rd_T101 l0 (ji7)).f0).toList) (((rd_T101 l0 x3_1).f0).toList)) = true := c10
           clear c10; have H' := zq9 H; clear H
           repeat (go_quiet (fail); try go_wp2)
           go_roundg k1
           case measure => have := HK1.out; omega
           case rel => exact ⟨(wrap64 (x3_1 + 1)), (by first | rfl | (simp; done) | (simp [*]; done)), H', ⟨by have := HK1.out; omega⟩, by repeat (first | exact Drawn0.refl _ | apply Drawn0.step)⟩
          ·rw [if_neg c10] at H
           have c10b0 : (Op.bytesLess (((rd_T101 l0 (ji7)).f0).toList) (((rd_T101 l0 x3_1).f0).toList)) = false := by simpa using c10
           clear c10; obtain rfl := Option.some.inj H
           repeat (go_quiet (fail); try go_wp2)
           go_ret
           exact ⟨by first | rfl | (simp; done) | (simp only [← hji7] <;> (first | rfl | simp)) | (simp [*]; done), by repeat (first | exact Drawn0.refl _ | apply Drawn0.step)⟩
         ·rw [if_neg c9] at H
          exact absurd H (by simp)
        ·rw [if_neg c8] at H
         exact absurd H (by simp)
       ·rw [if_neg c6] at H; have c6b0 : decide (0 < x3_1) = false := decide_eq_false c6; clear c6; have H' := zq9 H; clear H
        go_wp2
        repeat (go_quiet (fail); try go_wp2)
        go_roundg k1
        case measure => have := HK1.out; omega
        case rel => exact ⟨(wrap64 (x3_1 + 1)), (by first | rfl | (simp; done) | (simp [*]; done)), H', ⟨by have := HK1.out; omega⟩, by repeat (first | exact Drawn0.refl _ | apply Drawn0.step)⟩
    case n1 =>
     rw [if_neg c3] at H
     exact absurd H (by simp)
   case' n0 =>
    rw [if_neg c2] at H; have c2b0 : decide (x3_1 < (l0.length : Int)) = false := decide_eq_false c2; clear c2; obtain rfl := Option.some.inj H
   case p2 | n2 | n0 =>
    try go_wp2
    repeat (go_quiet (fail); try go_wp2)
    go_ret
    exact ⟨by first | rfl | (simp; done) | (simp [*]; done), by repeat (first | exact Drawn0.refl _ | apply Drawn0.step)⟩
set_option maxHeartbeats 8000000 in
set_option maxRecDepth 100000 in
theorem spec_EntryOk.calls (k : Nat) (a0_0 : ByteArray) (a0_1 : Int) (a0_2 : Int) (a0_3 : ByteArray) (A0_4 : Option Addr) (c0_4 : Nat) (l0_4 : List ByteArray) (A0_5 : Option Addr) (c0_5 : Nat) (l0_5 : List (S99)) (A0_6 : Option Addr) (c0_6 : Nat) (l0_6 : List (S101)) (r : Bool) (w : World) (hr0_4 : Kd.C Kd.string w A0_4 l0_4.length l0_4) (hc0_4 : l0_4.length ≤ c0_4) (hr0_5 : Kd.C k99 w A0_5 l0_5.length l0_5) (hc0_5 : l0_5.length ≤ c0_5) (hr0_6 : Kd.C k101 w A0_6 l0_6.length l0_6) (hc0_6 : l0_6.length ≤ c0_6) (h : spec_EntryOk.f k a0_0 a0_1 a0_2 a0_3 l0_4 l0_5 l0_6 = some r) :
  Calls Try.prog 11 #[.agg #[.string a0_0, .int .i64 a0_1, .int .i64 a0_2, .string a0_3, .slice A0_4 l0_4.length c0_4, .slice A0_5 l0_5.length c0_5, .slice A0_6 l0_6.length c0_6]] w fun e w' => e = .returned (.bool r) ∧ Below w.heap.size w w' := by
 have hu32 := Try.underlying32; have HR0_4 := zq9 hr0_4; have HC0_4 := zq9 hc0_4; clear hr0_4 hc0_4; have HR0_5 := zq9 hr0_5; have HC0_5 := zq9 hc0_5; clear hr0_5 hc0_5; have HR0_6 := zq9 hr0_6; have HC0_6 := zq9 hc0_6; clear hr0_6 hc0_6
 have HB := zq9 (Below.refl w.heap.size w)
 have H : ((spec_l4Key.f a0_0).bind fun t132 => (if t132 = true then ((spec_l1In.f a0_1 0 2000000).bind fun t133 => (spec_EntryOk.j0 k (!t133) a0_0 a0_1 a0_2 a0_3 l0_4 l0_5 l0_6)) else (spec_EntryOk.j0 k true a0_0 a0_1 a0_2 a0_3 l0_4 l0_5 l0_6))) = some r := h
 clear h; have HC2 := zq9 H; clear H
 go_enter Try.func11, Try.ntmps11
 go_upto_region 1 with (first | ((with_reducible refine zq25 (N := 1) rfl ?_); refine bx 1 #[.string a0_0, .int .i64 a0_1, .int .i64 a0_2, .string a0_3, .slice A0_4 l0_4.length c0_4, .slice A0_5 l0_5.length c0_5, .slice A0_6 l0_6.length c0_6] 32 ?_; intro gb131 hg w3 hbox hb; have n0_ := zq9 (zq27 (by exact bl HB) hb); have n1_ := zq9 (hbox); have n2_ := zq9 ((by rw [hg]; exact (zq29 (by exact bl HB)) : w.heap.size ≤ gb131)); have n3_ := n2_; clear HB; have HB := n0_; have BK131 := n1_; have GW131 := n2_; have GE131 := n3_; clear n0_ n1_ n2_ n3_; clear hb hbox hg))
 (try simp only [Act.put, zq0, zq1, zq2])
 go_cut [16] (fun v16 wc => ∃ (kq : Nat) (x16_1 : Bool), v16 = .bool x16_1 ∧ Aside0 (spec_EntryOk.j0 kq x16_1 a0_0 a0_1 a0_2 a0_3 l0_4 l0_5 l0_6 = some r) ∧ Aside0 (kq ≤ k) ∧ Aside0 (wc.heap[gb131]? = some (.cells #[.string a0_0, .int .i64 a0_1, .int .i64 a0_2, .string a0_3, (.slice A0_4 l0_4.length c0_4), (.slice A0_5 l0_5.length c0_5), (.slice A0_6 l0_6.length c0_6)] 32 (0, 0))) ∧ Aside0 (Below w.heap.size w wc))
 case first =>
  have H := HC2.out; clear HC2; replace H := Option.bind_eq_some_iff.mp H; obtain ⟨t132, A40, H⟩ := H
  try dsimp only at H
  have A4 := zq9 A40; clear A40
  have hcz7_0 : w3.cell? ⟨gb131, 0, none⟩ = some (.string a0_0) := bc BK131 0
  have hcz7_1 : w3.cell? ⟨gb131, 1, none⟩ = some (.int .i64 a0_1) := bc BK131 1
  have hcz7_2 : w3.cell? ⟨gb131, 2, none⟩ = some (.int .i64 a0_2) := bc BK131 2
  have hcz7_3 : w3.cell? ⟨gb131, 3, none⟩ = some (.string a0_3) := bc BK131 3
  have hcz7_4 : w3.cell? ⟨gb131, 4, none⟩ = some (.slice A0_4 l0_4.length c0_4) := bc BK131 4
  have hcz7_5 : w3.cell? ⟨gb131, 5, none⟩ = some (.slice A0_5 l0_5.length c0_5) := bc BK131 5
  have hcz7_6 : w3.cell? ⟨gb131, 6, none⟩ = some (.slice A0_6 l0_6.length c0_6) := bc BK131 6
  have hfz7_0 := zq6 BK131.out 0
  have hfz7_1 := zq6 BK131.out 1
  have hfz7_2 := zq6 BK131.out 2
  have hfz7_3 := zq6 BK131.out 3
  have hfz7_4 := zq6 BK131.out 4
  have hfz7_5 := zq6 BK131.out 5
  have hfz7_6 := zq6 BK131.out 6
  by_cases c5 : t132 = true
  ·subst c5
   have H1 : ((spec_l1In.f a0_1 0 2000000).bind fun t133 => (spec_EntryOk.j0 k (!t133) a0_0 a0_1 a0_2 a0_3 l0_4 l0_5 l0_6)) = some r := by rw [if_pos rfl] at H; exact H
   clear H; have H := H1; clear H1; replace H := Option.bind_eq_some_iff.mp H; obtain ⟨t133, A60, H⟩ := H
   try dsimp only at H
   have A6 := zq9 A60; clear A60; have H' := zq9 H; clear H
   go_wp2_with (first | ((with_reducible refine zq24 (f := 39) rfl ?_); refine gl (some 9) Try.func39 #[.string a0_0] ?_; (with_reducible refine (spec_l4Key.calls a0_0 true _ A4.out).mono ?_); rintro e w' ⟨rfl, ⟨nd, rfl⟩⟩; refine ⟨_, rfl, ?_⟩) | (go_at_call 40; (with_reducible refine (spec_l1In.calls a0_1 0 2000000 t133 _ A6.out).mono ?_); rintro e w' ⟨rfl, ⟨nd, rfl⟩⟩))
   go_meet
   case rel => exact ⟨_, (!t133), (by first | rfl | (simp; done) | (simp [*]; done)), H', ⟨by first | omega | exact Nat.le_refl _⟩, ⟨by refine bp ?_; exact BK131.out⟩, ⟨by exact b1 HB GE131⟩⟩
  ·replace c5 := Bool.eq_false_iff.mpr c5
   subst c5
   have H1 : (spec_EntryOk.j0 k true a0_0 a0_1 a0_2 a0_3 l0_4 l0_5 l0_6) = some r := by rw [if_neg (show ¬ (false = true) by decide)] at H; exact H
   clear H; have H := H1; clear H1; have H' := zq9 H; clear H
   go_wp2_with (first | ((with_reducible refine zq24 (f := 39) rfl ?_); refine gl (some 9) Try.func39 #[.string a0_0] ?_; (with_reducible refine (spec_l4Key.calls a0_0 false _ A4.out).mono ?_); rintro e w' ⟨rfl, ⟨nd, rfl⟩⟩; refine ⟨_, rfl, ?_⟩))
   go_meet
   case rel => exact ⟨_, (true), (by first | rfl | (simp; done) | (simp [*]; done)), H', ⟨by first | omega | exact Nat.le_refl _⟩, ⟨by refine bp ?_; exact BK131.out⟩, ⟨by exact b1 HB GE131⟩⟩
 case rest =>
  clear HC2
  try clear c1
  try clear p2
  try clear c3
  try clear c5
  try clear hcz7_0
  try clear hcz7_1
  try clear hcz7_2
  try clear hcz7_3
  try clear hcz7_4
  try clear hcz7_5
  try clear hcz7_6
  try clear hcz8_0
  try clear hcz8_1
  try clear hcz8_2
  try clear hcz8_3
  try clear hcz8_4
  try clear hcz8_5
  try clear hcz8_6
  try clear hfz7_0
  try clear hfz7_1
  try clear hfz7_2
  try clear hfz7_3
  try clear hfz7_4
  try clear hfz7_5
  try clear hfz7_6
  try clear hfz8_0
  try clear hfz8_1
  try clear hfz8_2
  try clear hfz8_3
  try clear hfz8_4
  try clear hfz8_5
  try clear hfz8_6
  obtain ⟨kq, x16_1, rfl, HA, HJ1, BK131, HB⟩ := hcut
  cases kq with
  | zero => exact absurd HA.out (by simp [spec_EntryOk.j0])
  | succ kj1 =>
   have H := HA.out; clear HA
   simp only [spec_EntryOk.j0] at H
   refine (Classical.em (x16_1 = true)).elim (fun c9 => ?p1) (fun c9 => ?n1)
   case p1 =>
    subst c9
    have H1 : (some false) = some r := by rw [if_pos rfl] at H; exact H
    clear H; have H := H1; clear H1; obtain rfl := Option.some.inj H
    go_wp2
    go_ret
    exact fz (by exact b1 HB GE131)
   case' n1 =>
    replace c9 := Bool.eq_false_iff.mpr c9
    subst c9
    have H1 : (if a0_2 = 1 then (if (a0_3.size : Int) ≤ 40 then (if (l0_4.length : Int) = 0 then (if (l0_5.length : Int) = 0 then (some ((l0_6.length : Int) == 0)) else (some false)) else (some false)) else (some false)) else (if a0_2 = 2 then (if a0_3.toList = ([] : List UInt8) then (if ((l0_4.length : Int) = 0) then (some false) else ((spec_l2Texts.f kj1 l0_4).bind fun t134 => (if t134 = true then (if (l0_5.length : Int) = 0 then (some ((l0_6.length : Int) == 0)) else (some false)) else (some false)))) else (some false)) else (if a0_2 = 3 then (if a0_3.toList = ([] : List UInt8) then (if ((l0_4.length : Int) = 0) then (some false) else ((spec_SetOk.f kj1 l0_4).bind fun t135 => (if t135 = true then (if (l0_5.length : Int) = 0 then (some ((l0_6.length : Int) == 0)) else (some false)) else (some false)))) else (some false)) else (if a0_2 = 4 then (if a0_3.toList = ([] : List UInt8) then (if (l0_4.length : Int) = 0 then (if ((l0_5.length : Int) = 0) then (some false) else ((spec_ScoresOk.f kj1 l0_5).bind fun t136 => (if t136 = true then (some ((l0_6.length : Int) == 0)) else (some false)))) else (some false)) else (some false)) else (if a0_2 = 5 then (if a0_3.toList = ([] : List UInt8) then (if (l0_4.length : Int) = 0 then (if (l0_5.length : Int) = 0 then (if ((l0_6.length : Int) = 0) then (some false) else ((spec_FieldsOk.f kj1 l0_6).bind fun t137 => (some t137))) else (some false)) else (some false)) else (some false)) else (some false)))))) = some r := by rw [if_neg (show ¬ (false = true) by decide)] at H; exact H
    clear H; have H := H1; clear H1
    have hcz14_0 : wc.cell? ⟨gb131, 0, none⟩ = some (.string a0_0) := bc BK131 0
    have hcz14_1 : wc.cell? ⟨gb131, 1, none⟩ = some (.int .i64 a0_1) := bc BK131 1
    have hcz14_2 : wc.cell? ⟨gb131, 2, none⟩ = some (.int .i64 a0_2) := bc BK131 2
    have hcz14_3 : wc.cell? ⟨gb131, 3, none⟩ = some (.string a0_3) := bc BK131 3
    have hcz14_4 : wc.cell? ⟨gb131, 4, none⟩ = some (.slice A0_4 l0_4.length c0_4) := bc BK131 4
    have hcz14_5 : wc.cell? ⟨gb131, 5, none⟩ = some (.slice A0_5 l0_5.length c0_5) := bc BK131 5
    have hcz14_6 : wc.cell? ⟨gb131, 6, none⟩ = some (.slice A0_6 l0_6.length c0_6) := bc BK131 6
    have hfz14_0 := zq6 BK131.out 0
    have hfz14_1 := zq6 BK131.out 1
    have hfz14_2 := zq6 BK131.out 2
    have hfz14_3 := zq6 BK131.out 3
    have hfz14_4 := zq6 BK131.out 4
    have hfz14_5 := zq6 BK131.out 5
    have hfz14_6 := zq6 BK131.out 6
    refine (Classical.em (a0_2 = 1)).elim (fun c10 => ?p2) (fun c10 => ?n2)
    case p2 =>
     rw [if_pos c10] at H
     have c10b0 : (a0_2 == 1) = true := beq_iff_eq.mpr c10
     have c10b1 : (a0_2 != 1) = false := bne_eq_false_iff_eq.mpr c10
     clear c10
     by_cases c11 : (a0_3.size : Int) ≤ 40
     ·rw [if_pos c11] at H; have c11b0 : decide ((a0_3.size : Int) ≤ 40) = true := decide_eq_true c11
      have c11b1 : decide (a0_3.size ≤ 40) = true := decide_eq_true (by omega)
      clear c11
      by_cases c12 : (l0_4.length : Int) = 0
      ·rw [if_pos c12] at H
       have c12b0 : ((l0_4.length : Int) == 0) = true := beq_iff_eq.mpr c12
       have c12b1 : ((l0_4.length : Int) != 0) = false := bne_eq_false_iff_eq.mpr c12
       clear c12
       by_cases c13 : (l0_5.length : Int) = 0
       ·rw [if_pos c13] at H
        have c13b0 : ((l0_5.length : Int) == 0) = true := beq_iff_eq.mpr c13
        have c13b1 : ((l0_5.length : Int) != 0) = false := bne_eq_false_iff_eq.mpr c13
        clear c13; obtain rfl := Option.some.inj H
        go_wp2
        go_ret
        exact fz (by exact b1 HB GE131)
       ·rw [if_neg c13] at H
        have c13b0 : ((l0_5.length : Int) == 0) = false := beq_eq_false_iff_ne.mpr c13
        have c13b1 : ((l0_5.length : Int) != 0) = true := bne_iff_ne.mpr c13
        have c13b2 : ¬ (l0_5 = []) := fun h_ => c13 (by rw [h_]; rfl)
        obtain rfl := Option.some.inj H
        go_wp2
        go_ret
        exact fz (by exact b1 HB GE131)
      ·rw [if_neg c12] at H
       have c12b0 : ((l0_4.length : Int) == 0) = false := beq_eq_false_iff_ne.mpr c12
       have c12b1 : ((l0_4.length : Int) != 0) = true := bne_iff_ne.mpr c12
       have c12b2 : ¬ (l0_4 = []) := fun h_ => c12 (by rw [h_]; rfl)
       obtain rfl := Option.some.inj H
       go_wp2
       go_ret
       exact fz (by exact b1 HB GE131)
     ·rw [if_neg c11] at H; have c11b0 : decide ((a0_3.size : Int) ≤ 40) = false := decide_eq_false c11
      have c11b1 : decide (a0_3.size ≤ 40) = false := decide_eq_false (by omega)
      clear c11; obtain rfl := Option.some.inj H
      go_wp2
      go_ret
      exact fz (by exact b1 HB GE131)
    case' n2 =>
     rw [if_neg c10] at H
     have c10b0 : (a0_2 == 1) = false := beq_eq_false_iff_ne.mpr c10
     have c10b1 : (a0_2 != 1) = true := bne_iff_ne.mpr c10
     refine (Classical.em (a0_2 = 2)).elim (fun c18 => ?p6) (fun c18 => ?n6)
     case' p6 =>
      rw [if_pos c18] at H
      have c18b0 : (a0_2 == 2) = true := beq_iff_eq.mpr c18
      have c18b1 : (a0_2 != 2) = false := bne_eq_false_iff_eq.mpr c18
      clear c18
      refine (Classical.em (a0_3.toList = ([] : List UInt8))).elim (fun c19 => ?p7) (fun c19 => ?n7)
      case' p7 =>
       rw [if_pos c19] at H
       have c19b0 : (a0_3.toList == ([] : List UInt8)) = true := beq_iff_eq.mpr c19
       have c19b1 : (a0_3.toList != ([] : List UInt8)) = false := bne_eq_false_iff_eq.mpr c19
       clear c19
       refine (Classical.em (((l0_4.length : Int) = 0))).elim (fun c20 => ?p8) (fun c20 => ?n8)
       case p8 =>
        rw [if_pos c20] at H
        have c20b0 : ((l0_4.length : Int) == 0) = true := beq_iff_eq.mpr c20
        have c20b1 : ((l0_4.length : Int) != 0) = false := bne_eq_false_iff_eq.mpr c20
        clear c20; obtain rfl := Option.some.inj H
        go_wp2
        go_ret
        exact fz (by exact b1 HB GE131)
       case' n8 =>
        rw [if_neg c20] at H
        have c20b0 : ((l0_4.length : Int) == 0) = false := beq_eq_false_iff_ne.mpr c20
        have c20b1 : ((l0_4.length : Int) != 0) = true := bne_iff_ne.mpr c20
        have c20b2 : ¬ (l0_4 = []) := fun h_ => c20 (by rw [h_]; rfl)
        replace H := Option.bind_eq_some_iff.mp H; obtain ⟨t134, A220, H⟩ := H
        try dsimp only at H
        have A22 := zq9 A220; clear A220
        refine (Classical.em (t134 = true)).elim (fun c23 => ?p9) (fun c23 => ?n9)
        case' p9 =>
         subst c23
         have H1 : (if (l0_5.length : Int) = 0 then (some ((l0_6.length : Int) == 0)) else (some false)) = some r := by rw [if_pos rfl] at H; exact H
         clear H; have H := H1; clear H1
         refine (Classical.em ((l0_5.length : Int) = 0)).elim (fun c24 => ?p10) (fun c24 => ?n10)
         case' p10 =>
          rw [if_pos c24] at H
          have c24b0 : ((l0_5.length : Int) == 0) = true := beq_iff_eq.mpr c24
          have c24b1 : ((l0_5.length : Int) != 0) = false := bne_eq_false_iff_eq.mpr c24
          clear c24; obtain rfl := Option.some.inj H
         case' n10 =>
          rw [if_neg c24] at H
          have c24b0 : ((l0_5.length : Int) == 0) = false := beq_eq_false_iff_ne.mpr c24
          have c24b1 : ((l0_5.length : Int) != 0) = true := bne_iff_ne.mpr c24
          have c24b2 : ¬ (l0_5 = []) := fun h_ => c24 (by rw [h_]; rfl)
          obtain rfl := Option.some.inj H
        case' n9 =>
         replace c23 := Bool.eq_false_iff.mpr c23
         subst c23
         have H1 : (some false) = some r := by rw [if_neg (show ¬ (false = true) by decide)] at H; exact H
         clear H; have H := H1; clear H1; obtain rfl := Option.some.inj H
      case n7 =>
       rw [if_neg c19] at H
       have c19b0 : (a0_3.toList == ([] : List UInt8)) = false := beq_eq_false_iff_ne.mpr c19
       have c19b1 : (a0_3.toList != ([] : List UInt8)) = true := bne_iff_ne.mpr c19
       obtain rfl := Option.some.inj H
       go_wp2
       go_ret
       exact fz (by exact b1 HB GE131)
     case' n6 =>
      rw [if_neg c18] at H
      have c18b0 : (a0_2 == 2) = false := beq_eq_false_iff_ne.mpr c18
      have c18b1 : (a0_2 != 2) = true := bne_iff_ne.mpr c18
      refine (Classical.em (a0_2 = 3)).elim (fun c29 => ?p11) (fun c29 => ?n11)
      case' p11 =>
       rw [if_pos c29] at H
       have c29b0 : (a0_2 == 3) = true := beq_iff_eq.mpr c29
       have c29b1 : (a0_2 != 3) = false := bne_eq_false_iff_eq.mpr c29
       clear c29
       refine (Classical.em (a0_3.toList = ([] : List UInt8))).elim (fun c30 => ?p12) (fun c30 => ?n12)
       case' p12 =>
        rw [if_pos c30] at H
        have c30b0 : (a0_3.toList == ([] : List UInt8)) = true := beq_iff_eq.mpr c30
        have c30b1 : (a0_3.toList != ([] : List UInt8)) = false := bne_eq_false_iff_eq.mpr c30
        clear c30
        refine (Classical.em (((l0_4.length : Int) = 0))).elim (fun c31 => ?p13) (fun c31 => ?n13)
        case p13 =>
         rw [if_pos c31] at H
         have c31b0 : ((l0_4.length : Int) == 0) = true := beq_iff_eq.mpr c31
         have c31b1 : ((l0_4.length : Int) != 0) = false := bne_eq_false_iff_eq.mpr c31
         clear c31; obtain rfl := Option.some.inj H
         go_wp2
         go_ret
         exact fz (by exact b1 HB GE131)
        case' n13 =>
         rw [if_neg c31] at H
         have c31b0 : ((l0_4.length : Int) == 0) = false := beq_eq_false_iff_ne.mpr c31
         have c31b1 : ((l0_4.length : Int) != 0) = true := bne_iff_ne.mpr c31
         have c31b2 : ¬ (l0_4 = []) := fun h_ => c31 (by rw [h_]; rfl)
         replace H := Option.bind_eq_some_iff.mp H; obtain ⟨t135, A330, H⟩ := H
         try dsimp only at H
         have A33 := zq9 A330; clear A330
         refine (Classical.em (t135 = true)).elim (fun c34 => ?p14) (fun c34 => ?n14)
         case' p14 =>
          subst c34
          have H1 : (if (l0_5.length : Int) = 0 then (some ((l0_6.length : Int) == 0)) else (some false)) = some r := by rw [if_pos rfl] at H; exact H
          clear H; have H := H1; clear H1
          refine (Classical.em ((l0_5.length : Int) = 0)).elim (fun c35 => ?p15) (fun c35 => ?n15)
          case' p15 =>
           rw [if_pos c35] at H
           have c35b0 : ((l0_5.length : Int) == 0) = true := beq_iff_eq.mpr c35
           have c35b1 : ((l0_5.length : Int) != 0) = false := bne_eq_false_iff_eq.mpr c35
           clear c35; obtain rfl := Option.some.inj H
          case' n15 =>
           rw [if_neg c35] at H
           have c35b0 : ((l0_5.length : Int) == 0) = false := beq_eq_false_iff_ne.mpr c35
           have c35b1 : ((l0_5.length : Int) != 0) = true := bne_iff_ne.mpr c35
           have c35b2 : ¬ (l0_5 = []) := fun h_ => c35 (by rw [h_]; rfl)
           obtain rfl := Option.some.inj H
         case' n14 =>
          replace c34 := Bool.eq_false_iff.mpr c34
          subst c34
          have H1 : (some false) = some r := by rw [if_neg (show ¬ (false = true) by decide)] at H; exact H
          clear H; have H := H1; clear H1; obtain rfl := Option.some.inj H
       case n12 =>
        rw [if_neg c30] at H
        have c30b0 : (a0_3.toList == ([] : List UInt8)) = false := beq_eq_false_iff_ne.mpr c30
        have c30b1 : (a0_3.toList != ([] : List UInt8)) = true := bne_iff_ne.mpr c30
        obtain rfl := Option.some.inj H
        go_wp2
        go_ret
        exact fz (by exact b1 HB GE131)
      case' n11 =>
       rw [if_neg c29] at H
       have c29b0 : (a0_2 == 3) = false := beq_eq_false_iff_ne.mpr c29
       have c29b1 : (a0_2 != 3) = true := bne_iff_ne.mpr c29
       refine (Classical.em (a0_2 = 4)).elim (fun c40 => ?p16) (fun c40 => ?n16)
       case' p16 =>
        rw [if_pos c40] at H
        have c40b0 : (a0_2 == 4) = true := beq_iff_eq.mpr c40
        have c40b1 : (a0_2 != 4) = false := bne_eq_false_iff_eq.mpr c40
        clear c40
        refine (Classical.em (a0_3.toList = ([] : List UInt8))).elim (fun c41 => ?p17) (fun c41 => ?n17)
        case' p17 =>
         rw [if_pos c41] at H
         have c41b0 : (a0_3.toList == ([] : List UInt8)) = true := beq_iff_eq.mpr c41
         have c41b1 : (a0_3.toList != ([] : List UInt8)) = false := bne_eq_false_iff_eq.mpr c41
         clear c41
         refine (Classical.em ((l0_4.length : Int) = 0)).elim (fun c42 => ?p18) (fun c42 => ?n18)
         case' p18 =>
          rw [if_pos c42] at H
          have c42b0 : ((l0_4.length : Int) == 0) = true := beq_iff_eq.mpr c42
          have c42b1 : ((l0_4.length : Int) != 0) = false := bne_eq_false_iff_eq.mpr c42
          clear c42
          refine (Classical.em (((l0_5.length : Int) = 0))).elim (fun c43 => ?p19) (fun c43 => ?n19)
          case p19 =>
           rw [if_pos c43] at H
           have c43b0 : ((l0_5.length : Int) == 0) = true := beq_iff_eq.mpr c43
           have c43b1 : ((l0_5.length : Int) != 0) = false := bne_eq_false_iff_eq.mpr c43
           clear c43; obtain rfl := Option.some.inj H
           go_wp2
           go_ret
           exact fz (by exact b1 HB GE131)
          case' n19 =>
           rw [if_neg c43] at H
           have c43b0 : ((l0_5.length : Int) == 0) = false := beq_eq_false_iff_ne.mpr c43
           have c43b1 : ((l0_5.length : Int) != 0) = true := bne_iff_ne.mpr c43
           have c43b2 : ¬ (l0_5 = []) := fun h_ => c43 (by rw [h_]; rfl)
           replace H := Option.bind_eq_some_iff.mp H; obtain ⟨t136, A450, H⟩ := H
           try dsimp only at H
           have A45 := zq9 A450; clear A450
           refine (Classical.em (t136 = true)).elim (fun c46 => ?p20) (fun c46 => ?n20)
           case' p20 =>
            subst c46
            have H1 : (some ((l0_6.length : Int) == 0)) = some r := by rw [if_pos rfl] at H; exact H
            clear H; have H := H1; clear H1; obtain rfl := Option.some.inj H
           case' n20 =>
            replace c46 := Bool.eq_false_iff.mpr c46
            subst c46
            have H1 : (some false) = some r := by rw [if_neg (show ¬ (false = true) by decide)] at H; exact H
            clear H; have H := H1; clear H1; obtain rfl := Option.some.inj H
         case n18 =>
          rw [if_neg c42] at H
          have c42b0 : ((l0_4.length : Int) == 0) = false := beq_eq_false_iff_ne.mpr c42
          have c42b1 : ((l0_4.length : Int) != 0) = true := bne_iff_ne.mpr c42
          have c42b2 : ¬ (l0_4 = []) := fun h_ => c42 (by rw [h_]; rfl)
          obtain rfl := Option.some.inj H
          go_wp2
          go_ret
          exact fz (by exact b1 HB GE131)
        case n17 =>
         rw [if_neg c41] at H
         have c41b0 : (a0_3.toList == ([] : List UInt8)) = false := beq_eq_false_iff_ne.mpr c41
         have c41b1 : (a0_3.toList != ([] : List UInt8)) = true := bne_iff_ne.mpr c41
         obtain rfl := Option.some.inj H
         go_wp2
         go_ret
         exact fz (by exact b1 HB GE131)
       case' n16 =>
        rw [if_neg c40] at H
        have c40b0 : (a0_2 == 4) = false := beq_eq_false_iff_ne.mpr c40
        have c40b1 : (a0_2 != 4) = true := bne_iff_ne.mpr c40
        refine (Classical.em (a0_2 = 5)).elim (fun c53 => ?p21) (fun c53 => ?n21)
        case' p21 =>
         rw [if_pos c53] at H
         have c53b0 : (a0_2 == 5) = true := beq_iff_eq.mpr c53
         have c53b1 : (a0_2 != 5) = false := bne_eq_false_iff_eq.mpr c53
         clear c53
         refine (Classical.em (a0_3.toList = ([] : List UInt8))).elim (fun c54 => ?p22) (fun c54 => ?n22)
         case' p22 =>
          rw [if_pos c54] at H
          have c54b0 : (a0_3.toList == ([] : List UInt8)) = true := beq_iff_eq.mpr c54
          have c54b1 : (a0_3.toList != ([] : List UInt8)) = false := bne_eq_false_iff_eq.mpr c54
          clear c54
          refine (Classical.em ((l0_4.length : Int) = 0)).elim (fun c55 => ?p23) (fun c55 => ?n23)
          case' p23 =>
           rw [if_pos c55] at H
           have c55b0 : ((l0_4.length : Int) == 0) = true := beq_iff_eq.mpr c55
           have c55b1 : ((l0_4.length : Int) != 0) = false := bne_eq_false_iff_eq.mpr c55
           clear c55
           refine (Classical.em ((l0_5.length : Int) = 0)).elim (fun c56 => ?p24) (fun c56 => ?n24)
           case' p24 =>
            rw [if_pos c56] at H
            have c56b0 : ((l0_5.length : Int) == 0) = true := beq_iff_eq.mpr c56
            have c56b1 : ((l0_5.length : Int) != 0) = false := bne_eq_false_iff_eq.mpr c56
            clear c56
            refine (Classical.em (((l0_6.length : Int) = 0))).elim (fun c57 => ?p25) (fun c57 => ?n25)
            case p25 =>
             rw [if_pos c57] at H
             have c57b0 : ((l0_6.length : Int) == 0) = true := beq_iff_eq.mpr c57
             have c57b1 : ((l0_6.length : Int) != 0) = false := bne_eq_false_iff_eq.mpr c57
             clear c57; obtain rfl := Option.some.inj H
             go_wp2
             go_ret
             exact fz (by exact b1 HB GE131)
            case' n25 =>
             rw [if_neg c57] at H
             have c57b0 : ((l0_6.length : Int) == 0) = false := beq_eq_false_iff_ne.mpr c57
             have c57b1 : ((l0_6.length : Int) != 0) = true := bne_iff_ne.mpr c57
             have c57b2 : ¬ (l0_6 = []) := fun h_ => c57 (by rw [h_]; rfl)
             replace H := Option.bind_eq_some_iff.mp H; obtain ⟨t137, A590, H⟩ := H
             try dsimp only at H
             have A59 := zq9 A590; clear A590; obtain rfl := Option.some.inj H
           case n24 =>
            rw [if_neg c56] at H
            have c56b0 : ((l0_5.length : Int) == 0) = false := beq_eq_false_iff_ne.mpr c56
            have c56b1 : ((l0_5.length : Int) != 0) = true := bne_iff_ne.mpr c56
            have c56b2 : ¬ (l0_5 = []) := fun h_ => c56 (by rw [h_]; rfl)
            obtain rfl := Option.some.inj H
            go_wp2
            go_ret
            exact fz (by exact b1 HB GE131)
          case n23 =>
           rw [if_neg c55] at H
           have c55b0 : ((l0_4.length : Int) == 0) = false := beq_eq_false_iff_ne.mpr c55
           have c55b1 : ((l0_4.length : Int) != 0) = true := bne_iff_ne.mpr c55
           have c55b2 : ¬ (l0_4 = []) := fun h_ => c55 (by rw [h_]; rfl)
           obtain rfl := Option.some.inj H
           go_wp2
           go_ret
           exact fz (by exact b1 HB GE131)
         case n22 =>
          rw [if_neg c54] at H
          have c54b0 : (a0_3.toList == ([] : List UInt8)) = false := beq_eq_false_iff_ne.mpr c54
          have c54b1 : (a0_3.toList != ([] : List UInt8)) = true := bne_iff_ne.mpr c54
          obtain rfl := Option.some.inj H
          go_wp2
          go_ret
          exact fz (by exact b1 HB GE131)
        case n21 =>
         rw [if_neg c53] at H
         have c53b0 : (a0_2 == 5) = false := beq_eq_false_iff_ne.mpr c53
         have c53b1 : (a0_2 != 5) = true := bne_iff_ne.mpr c53
         obtain rfl := Option.some.inj H
         go_wp2
         go_ret
         exact fz (by exact b1 HB GE131)
   case p10 | n10 | n9 | p15 | n15 | n14 | p20 | n20 | n16 =>
    try go_wp2_with (first | (go_at_call 44; (with_reducible refine (spec_FieldsOk.calls kj1 _ _ l0_6 t137 _ ?side1 ?side2 A59.out).mono ?_); (case side1 => exact kc HR0_6 HB); (case side2 => exact HC0_6.out); rintro e w' ⟨rfl, ⟨nd, rfl⟩⟩) | (go_at_call 43; (with_reducible refine (spec_ScoresOk.calls kj1 _ _ l0_5 _ _ ?side1 ?side2 A45.out).mono ?_); (case side1 => exact kc HR0_5 HB); (case side2 => exact HC0_5.out); rintro e w48 ⟨rfl, hb⟩; have n0_ := zq9 (zq30 (g := gb131) (o := .cells #[.string a0_0, .int .i64 a0_1, .int .i64 a0_2, .string a0_3, .slice A0_4 l0_4.length c0_4, .slice A0_5 l0_5.length c0_5, .slice A0_6 l0_6.length c0_6] 32 (0, 0)) (by exact bk BK131) hb); have n1_ := zq9 (zq27 (by exact b1 HB GE131) hb); clear BK131; clear HB; have BK131 := n0_; have HB := n1_; clear n0_ n1_; (try clear hb); (try clear hb2); (try clear hk); (try clear hi)) | (go_at_call 42; (with_reducible refine (spec_SetOk.calls kj1 _ _ l0_4 _ _ ?side1 ?side2 A33.out).mono ?_); (case side1 => exact kc HR0_4 HB); (case side2 => exact HC0_4.out); rintro e w' ⟨rfl, ⟨nd, rfl⟩⟩) | (go_at_call 41; (with_reducible refine (spec_l2Texts.calls kj1 _ _ l0_4 _ _ ?side1 ?side2 A22.out).mono ?_); (case side1 => exact kc HR0_4 HB); (case side2 => exact HC0_4.out); rintro e w' ⟨rfl, ⟨nd, rfl⟩⟩))
    go_ret
    exact fz (by exact b1 HB GE131)
end Go.Proofs.Ytnkgmcgbbldkgaa.P
