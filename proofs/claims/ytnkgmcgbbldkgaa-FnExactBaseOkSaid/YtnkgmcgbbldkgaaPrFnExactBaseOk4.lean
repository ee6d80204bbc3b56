import Derived.Test.YtnkgmcgbbldkgaaPrFnExactBaseOk3
/- Texts of this claim, one behind the other: words on worlds and rows, printed functions and their walks, plain lemmas. -/
namespace Go.Proofs.Ytnkgmcgbbldkgaa.P
open Go.RowKit Go.Proofs.YtnkgmcgbbldkgaaW.PrintWords Go.Proofs.YtnkgmcgbbldkgaaW.PrintLast Go.Proofs.YtnkgmcgbbldkgaaW.PrintMore
attribute [local go_sem] max2_int min2_int max_two min_two max_three min_three max_four min_four   -- for this text's walks alone
set_option linter.unusedVariables false
set_option linter.unusedSimpArgs false
set_option maxHeartbeats 8000000 in
set_option maxRecDepth 100000 in
theorem cmp_Compare_string.calls (a0 : ByteArray) (a1 : ByteArray) (r : Int) (w : World) (h : cmp_Compare_string.f a0 a1 = some r) :
    Calls Try.prog 106 #[.string a0, .string a1] w fun e w' => e = .returned (.int .i64 r) ∧ Drawn0 w w' := by
  have H : ((cmp_isNaN_string.f a0).bind fun t185 => ((cmp_isNaN_string.f a1).bind fun t186 => (if t185 = true then (if t186 = true then (some 0) else (some (-1))) else (if t186 = true then (some 1) else (if (Op.bytesLess a0.toList a1.toList) = true then (some (-1)) else (if (Op.bytesLess a1.toList a0.toList) = true then (some 1) else (some 0))))))) = some r := h
  clear h
  replace H := Option.bind_eq_some_iff.mp H
  obtain ⟨t185, A30, H⟩ := H
  try dsimp only at H
  have A3 := zq9 A30
  clear A30
  replace H := Option.bind_eq_some_iff.mp H
  obtain ⟨t186, A40, H⟩ := H
  try dsimp only at H
  have A4 := zq9 A40
  clear A40
  go_enter Try.func106, Try.ntmps106
  by_cases c5 : t185 = true
  · subst c5
    have H1 : (if t186 = true then (some 0) else (some (-1))) = some r := by rw [if_pos rfl] at H; exact H
    clear H
    have H := H1
    clear H1
    by_cases c6 : t186 = true
    · subst c6
      have H1 : (some 0) = some r := by rw [if_pos rfl] at H; exact H
      clear H
      have H := H1
      clear H1
      obtain rfl := Option.some.inj H
      go_wp2_with (first | ((with_reducible refine zq24 (f := 118) rfl ?_); refine gl (some 8) Try.func118 #[.string a0] ?_; (with_reducible refine (cmp_isNaN_string.calls a0 true _ A3.out).mono ?_); rintro e w' ⟨rfl, ⟨nd, rfl⟩⟩; refine ⟨_, rfl, ?_⟩) | ((with_reducible refine zq24 (f := 118) rfl ?_); refine gl (some 10) Try.func118 #[.string a1] ?_; (with_reducible refine (cmp_isNaN_string.calls a1 true _ A4.out).mono ?_); rintro e w' ⟨rfl, ⟨nd, rfl⟩⟩; refine ⟨_, rfl, ?_⟩))
      go_ret
      exact ⟨by first | rfl | (simp; done) | (simp [*]; done), by repeat (first | exact Drawn0.refl _ | apply Drawn0.step)⟩
    · replace c6 := Bool.eq_false_iff.mpr c6
      subst c6
      have H1 : (some (-1)) = some r := by rw [if_neg (show ¬ (false = true) by decide)] at H; exact H
      clear H
      have H := H1
      clear H1
      obtain rfl := Option.some.inj H
      go_wp2_with (first | ((with_reducible refine zq24 (f := 118) rfl ?_); refine gl (some 8) Try.func118 #[.string a0] ?_; (with_reducible refine (cmp_isNaN_string.calls a0 true _ A3.out).mono ?_); rintro e w' ⟨rfl, ⟨nd, rfl⟩⟩; refine ⟨_, rfl, ?_⟩) | ((with_reducible refine zq24 (f := 118) rfl ?_); refine gl (some 10) Try.func118 #[.string a1] ?_; (with_reducible refine (cmp_isNaN_string.calls a1 false _ A4.out).mono ?_); rintro e w' ⟨rfl, ⟨nd, rfl⟩⟩; refine ⟨_, rfl, ?_⟩))
      go_ret
      exact ⟨by first | rfl | (simp; done) | (simp [*]; done), by repeat (first | exact Drawn0.refl _ | apply Drawn0.step)⟩
  · replace c5 := Bool.eq_false_iff.mpr c5
    subst c5
    have H1 : (if t186 = true then (some 1) else (if (Op.bytesLess a0.toList a1.toList) = true then (some (-1)) else (if (Op.bytesLess a1.toList a0.toList) = true then (some 1) else (some 0)))) = some r := by rw [if_neg (show ¬ (false = true) by decide)] at H; exact H
    clear H
    have H := H1
    clear H1
    by_cases c7 : t186 = true
    · subst c7
      have H1 : (some 1) = some r := by rw [if_pos rfl] at H; exact H
      clear H
      have H := H1
      clear H1
      obtain rfl := Option.some.inj H
      go_wp2_with (first | ((with_reducible refine zq24 (f := 118) rfl ?_); refine gl (some 8) Try.func118 #[.string a0] ?_; (with_reducible refine (cmp_isNaN_string.calls a0 false _ A3.out).mono ?_); rintro e w' ⟨rfl, ⟨nd, rfl⟩⟩; refine ⟨_, rfl, ?_⟩) | ((with_reducible refine zq24 (f := 118) rfl ?_); refine gl (some 10) Try.func118 #[.string a1] ?_; (with_reducible refine (cmp_isNaN_string.calls a1 true _ A4.out).mono ?_); rintro e w' ⟨rfl, ⟨nd, rfl⟩⟩; refine ⟨_, rfl, ?_⟩))
      go_ret
      exact ⟨by first | rfl | (simp; done) | (simp [*]; done), by repeat (first | exact Drawn0.refl _ | apply Drawn0.step)⟩
    · replace c7 := Bool.eq_false_iff.mpr c7
      subst c7
      have H1 : (if (Op.bytesLess a0.toList a1.toList) = true then (some (-1)) else (if (Op.bytesLess a1.toList a0.toList) = true then (some 1) else (some 0))) = some r := by rw [if_neg (show ¬ (false = true) by decide)] at H; exact H
      clear H
      have H := H1
      clear H1
      by_cases c8 : (Op.bytesLess a0.toList a1.toList) = true
      · rw [if_pos c8] at H
        have c8b0 : (Op.bytesLess a0.toList a1.toList) = true := c8
        have c8q : (a1.toList == a0.toList) = false := X.bl_ne c8b0
        clear c8
        obtain rfl := Option.some.inj H
        go_wp2_with (first | ((with_reducible refine zq24 (f := 118) rfl ?_); refine gl (some 8) Try.func118 #[.string a0] ?_; (with_reducible refine (cmp_isNaN_string.calls a0 false _ A3.out).mono ?_); rintro e w' ⟨rfl, ⟨nd, rfl⟩⟩; refine ⟨_, rfl, ?_⟩) | ((with_reducible refine zq24 (f := 118) rfl ?_); refine gl (some 10) Try.func118 #[.string a1] ?_; (with_reducible refine (cmp_isNaN_string.calls a1 false _ A4.out).mono ?_); rintro e w' ⟨rfl, ⟨nd, rfl⟩⟩; refine ⟨_, rfl, ?_⟩))
        go_ret
        exact ⟨by first | rfl | (simp; done) | (simp [*]; done), by repeat (first | exact Drawn0.refl _ | apply Drawn0.step)⟩
      · rw [if_neg c8] at H
        have c8b0 : (Op.bytesLess a0.toList a1.toList) = false := by simpa using c8
        try have c8q : (a1.toList == a0.toList) = true := X.bl_eq (by assumption) c8b0
        clear c8
        by_cases c9 : (Op.bytesLess a1.toList a0.toList) = true
        · rw [if_pos c9] at H
          have c9b0 : (Op.bytesLess a1.toList a0.toList) = true := c9
          have c9q : (a0.toList == a1.toList) = false := X.bl_ne c9b0
          clear c9
          obtain rfl := Option.some.inj H
          go_wp2_with (first | ((with_reducible refine zq24 (f := 118) rfl ?_); refine gl (some 8) Try.func118 #[.string a0] ?_; (with_reducible refine (cmp_isNaN_string.calls a0 false _ A3.out).mono ?_); rintro e w' ⟨rfl, ⟨nd, rfl⟩⟩; refine ⟨_, rfl, ?_⟩) | ((with_reducible refine zq24 (f := 118) rfl ?_); refine gl (some 10) Try.func118 #[.string a1] ?_; (with_reducible refine (cmp_isNaN_string.calls a1 false _ A4.out).mono ?_); rintro e w' ⟨rfl, ⟨nd, rfl⟩⟩; refine ⟨_, rfl, ?_⟩))
          go_ret
          exact ⟨by first | rfl | (simp; done) | (simp [*]; done), by repeat (first | exact Drawn0.refl _ | apply Drawn0.step)⟩
        · rw [if_neg c9] at H
          have c9b0 : (Op.bytesLess a1.toList a0.toList) = false := by simpa using c9
          try have c9q : (a0.toList == a1.toList) = true := X.bl_eq (by assumption) c9b0
          clear c9
          obtain rfl := Option.some.inj H
          go_wp2_with (first | ((with_reducible refine zq24 (f := 118) rfl ?_); refine gl (some 8) Try.func118 #[.string a0] ?_; (with_reducible refine (cmp_isNaN_string.calls a0 false _ A3.out).mono ?_); rintro e w' ⟨rfl, ⟨nd, rfl⟩⟩; refine ⟨_, rfl, ?_⟩) | ((with_reducible refine zq24 (f := 118) rfl ?_); refine gl (some 10) Try.func118 #[.string a1] ?_; (with_reducible refine (cmp_isNaN_string.calls a1 false _ A4.out).mono ?_); rintro e w' ⟨rfl, ⟨nd, rfl⟩⟩; refine ⟨_, rfl, ?_⟩))
          go_ret
          exact ⟨by first | rfl | (simp; done) | (simp [*]; done), by repeat (first | exact Drawn0.refl _ | apply Drawn0.step)⟩
def impl_scoreOrder.T1 : Bool × List (List Nat × List Nat) := (true, [([], []), ([0], [0]), ([], []), ([2], [2]), ([1, 3], [1, 3]), ([], []), ([5], [5]), ([], []), ([7], [7]), ([6, 8, 4], [6, 8]), ([4, 9], [4, 9]), ([10, 9], [10]), ([11, 11, 0, 1, 2, 3, 4, 5, 6, 7, 8, 9, 10, 11], [11])])
def impl_scoreOrder.B1 : List Nat := [0, 1, 0, 4, 15, 0, 32, 0, 128, 511, 1023, 2047, 4095]
theorem impl_scoreOrder.tab1 : rtab .any (opsOf Try.f86 1) = impl_scoreOrder.T1 := by kernel_rfl
theorem impl_scoreOrder.bits1 : waitsOk impl_scoreOrder.T1.2 impl_scoreOrder.B1 = true := by kernel_rfl
set_option maxHeartbeats 8000000 in
set_option maxRecDepth 100000 in
theorem impl_scoreOrder.calls (k : Nat) (a0_0 : ByteArray) (a0_1 : Int) (a1_0 : ByteArray) (a1_1 : Int) (r : Int) (w : World) (h : impl_scoreOrder.f k a0_0 a0_1 a1_0 a1_1 = some r) :
    Calls Try.prog 86 #[.agg #[.string a0_0, .int .i64 a0_1], .agg #[.string a1_0, .int .i64 a1_1]] w fun e w' => e = .returned (.int .i64 r) ∧ Below w.heap.size w w' := by
  have hu99 := Try.underlying99
  have HB := zq9 (Below.refl w.heap.size w)
  have H : ((cmp_Compare_int.f a0_1 a1_1).bind fun t189 => ((cmp_Compare_string.f a0_0 a1_0).bind fun t190 => ((cmp_Or_int.f k (([t189, t190] : List Int))).bind fun t194 => (some t194)))) = some r := h
  clear h
  replace H := Option.bind_eq_some_iff.mp H
  obtain ⟨t189, A30, H⟩ := H
  try dsimp only at H
  have A3 := zq9 A30
  clear A30
  replace H := Option.bind_eq_some_iff.mp H
  obtain ⟨t190, A40, H⟩ := H
  try dsimp only at H
  have A4 := zq9 A40
  clear A40
  obtain ⟨y191, hy191⟩ : ∃ y_ : List Int, y_ = (([t189, t190] : List Int)) := ⟨_, rfl⟩
  replace H : ((cmp_Or_int.f k y191).bind fun t194 => (some t194)) = some r := by first | (rw [hy191]; with_reducible exact H) | (have H2_ := (Option.bind_some _ _).symm.trans H; rw [hy191]; with_reducible exact H2_) | (have H2_ := (Option.bind_some _ _).symm.trans H; with_reducible exact H2_) | with_reducible exact H | (rw [hy191]; exact H) | exact H
  have Ny191 := zq9 hy191
  clear hy191
  replace H := Option.bind_eq_some_iff.mp H
  obtain ⟨t194, A50, H⟩ := H
  try dsimp only at H
  have A5 := zq9 A50
  clear A50
  obtain rfl := Option.some.inj H
  go_enter Try.func86, Try.ntmps86
  try go_wp2_with (first | ((with_reducible refine zq25 (N := 2) rfl ?_); refine bx 2 #[.string a0_0, .int .i64 a0_1] 99 ?_; intro gb187 hg w6 hbox hb; have n0_ := zq9 (zq27 (by exact bl HB) hb); have n1_ := zq9 (hbox); have n2_ := zq9 ((by rw [hg]; exact (zq29 (by exact bl HB)) : w.heap.size ≤ gb187)); have n3_ := n2_; clear HB; have HB := n0_; have BK187 := n1_; have GW187 := n2_; have GE187 := n3_; clear n0_ n1_ n2_ n3_; clear hb hbox hg) | ((with_reducible refine zq25 (N := 3) rfl ?_); refine bx 3 #[.string a1_0, .int .i64 a1_1] 99 ?_; intro gb188 hg w7 hbox hb; have n0_ := zq9 (zq30 (g := gb187) (o := .cells #[.string a0_0, .int .i64 a0_1] 99 (0, 0)) (by exact bk BK187) hb); have n1_ := zq9 (zq27 (by exact b1 HB GE187) hb); have n2_ := zq9 (hbox); have n3_ := zq9 ((by rw [hg]; exact (zq29 (by exact b1 HB GE187)) : w.heap.size ≤ gb188)); have n4_ := n3_; have n5_ := zq9 ((by rw [hg]; exact Nat.ne_of_lt (blk_lt (g := gb187) (o := .cells #[.string a0_0, .int .i64 a0_1] 99 (0, 0)) (by exact bk BK187)) : gb187 ≠ gb188)); have n6_ := zq9 ((by rw [hg]; exact Nat.ne_of_gt (blk_lt (g := gb187) (o := .cells #[.string a0_0, .int .i64 a0_1] 99 (0, 0)) (by exact bk BK187)) : gb188 ≠ gb187)); clear BK187; clear HB; have BK187 := n0_; have HB := n1_; have BK188 := n2_; have GW188 := n3_; have GE188 := n4_; have NB187_188 := n5_; have NB188_187 := n6_; clear n0_ n1_ n2_ n3_ n4_ n5_ n6_; clear hb hbox hg))
  have n0_ := zq9 (blk_drew BK187.out)
  have n1_ := zq9 (blk_drew BK188.out)
  have n2_ := zq9 (zq4 HB.out)
  clear BK187
  clear BK188
  clear HB
  have BK187 := n0_
  have BK188 := n1_
  have HB := n2_
  clear n0_ n1_ n2_
  refine start_ (n := 13) (S := fun w' => w'.cell? ⟨gb187, 0, none⟩ = some (.string a0_0) ∧ w'.cell? ⟨gb187, 1, none⟩ = some (.int .i64 a0_1) ∧ w'.cell? ⟨gb188, 0, none⟩ = some (.string a1_0) ∧ w'.cell? ⟨gb188, 1, none⟩ = some (.int .i64 a1_1)) (ds := []) #[false, false, false, false, false, false, false, false, false, false, false, false, false] (by kernel_rfl) rfl rfl ⟨bc BK187 0, bc BK187 1, bc BK188 0, bc BK188 1⟩ (fun hHeld => ?_); refine with_tabW impl_scoreOrder.tab1 impl_scoreOrder.bits1 (fun HT_ HW_ => ?_)
  generalize w7.drew = w8 at BK187 BK188 HB hHeld ⊢
  refine pa HT_ 0 5 (zb 13 1) ?_
  refine pa HT_ 2 7 (zb 13 5) ?_
  refine pa HT_ 5 10 (zb 13 37) ?_
  refine pa HT_ 7 12 (zb 13 165) ?_
  refine take_ (i := 1) (N := some 6) (v := ?_) (a' := ?_) (zb 13 167) rfl rfl (take_ofW HT_.out HW_.out (by kernel_rfl)) (fun _ _ _ h => h) (Or.inl ⟨by rfl, ?_⟩) hHeld ?_ ?_
  rotate_left; · rintro w' ⟨s0, s1, s2, s3⟩; go_simp; with_reducible rfl
  rotate_left; · simp only [Act.put, zq0, zq1, zq2, i64_w, i32_w]; rfl
  refine take_ (i := 3) (N := some 8) (v := ?_) (a' := ?_) (zb 13 175) rfl rfl (take_ofW HT_.out HW_.out (by kernel_rfl)) (fun _ _ _ h => h) (Or.inl ⟨by rfl, ?_⟩) hHeld ?_ ?_
  rotate_left; · rintro w' ⟨s0, s1, s2, s3⟩; go_simp; with_reducible rfl
  rotate_left; · simp only [Act.put, zq0, zq1, zq2, i64_w, i32_w]; rfl
  refine take_ (i := 6) (N := some 11) (v := ?_) (a' := ?_) (zb 13 239) rfl rfl (take_ofW HT_.out HW_.out (by kernel_rfl)) (fun _ _ _ h => h) (Or.inl ⟨by rfl, ?_⟩) hHeld ?_ ?_
  rotate_left; · rintro w' ⟨s0, s1, s2, s3⟩; go_simp; with_reducible rfl
  rotate_left; · simp only [Act.put, zq0, zq1, zq2, i64_w, i32_w]; rfl
  refine take_ (i := 8) (N := some 13) (v := ?_) (a' := ?_) (zb 13 495) rfl rfl (take_ofW HT_.out HW_.out (by kernel_rfl)) (fun _ _ _ h => h) (Or.inl ⟨by rfl, ?_⟩) hHeld ?_ ?_
  rotate_left; · rintro w' ⟨s0, s1, s2, s3⟩; go_simp; with_reducible rfl
  rotate_left; · simp only [Act.put, zq0, zq1, zq2, i64_w, i32_w]; rfl
  refine one_ (i := 4) (N := some 9) (zb 13 511) rfl rfl (one_of HT_.out (by kernel_rfl)) (by decide) (fun K hK => ?_)
  refine gs Try.func105 #[.int .i64 a0_1, .int .i64 a1_1] ?_
  with_reducible refine (cmp_Compare_int.calls a0_1 a1_1 t189 _ A3.out).mono ?_
  rintro e w' ⟨rfl, ⟨nd, rfl⟩⟩
  refine ⟨_, rfl, ?_⟩
  refine hK.out _ _ ⟨bc BK187 0, bc BK187 1, bc BK188 0, bc BK188 1⟩ (fun hHeld => ?_)
  clear hK K
  refine norm_ (a' := ?_) ?_ ?_
  rotate_left; · show Act.put _ (some 9) _ = _; simp only [Act.put, zq0, zq1, zq2, i64_w, i32_w]; rfl
  refine one_ (i := 9) (N := some 14) (zb 13 1023) rfl rfl (one_of HT_.out (by kernel_rfl)) (by decide) (fun K hK => ?_)
  refine gs Try.func106 #[.string a0_0, .string a1_0] ?_
  with_reducible refine (cmp_Compare_string.calls a0_0 a1_0 t190 _ A4.out).mono ?_
  rintro e w' ⟨rfl, ⟨nd, rfl⟩⟩
  refine ⟨_, rfl, ?_⟩
  refine hK.out _ _ ⟨bc BK187 0, bc BK187 1, bc BK188 0, bc BK188 1⟩ (fun hHeld => ?_)
  clear hK K
  refine norm_ (a' := ?_) ?_ ?_
  rotate_left; · show Act.put _ (some 14) _ = _; simp only [Act.put, zq0, zq1, zq2, i64_w, i32_w]; rfl
  refine one_ (i := 10) (N := some 15) (zb 13 2047) rfl rfl (one_of HT_.out (by kernel_rfl)) (by decide) (fun K hK => ?_)
  refine Kd.R_lit_step (Kd.int .i64) _ 3 ?hg (N := 15) ?hd (xs := ([t189, t190] : List Int)) (inner := [.int .i64 t189, .int .i64 t190]) (ok := fun _ => True) (okp := fun _ => True) ?hr ?hp (fun _ hk => hk) trivial (Below.refl _ _) (Nat.le_refl _) (by simp) ?_; (case hd => rfl); (case hg => rfl); (case hr => first | (go_simp; done) | (go_simp; rfl)); (case hp => exact (Reps.one (show Kd.M (Kd.int .i64) _ _ _ t189 [.int .i64 t189] from rfl) (Reps.one (show Kd.M (Kd.int .i64) _ _ _ t190 [.int .i64 t190] from rfl) (Reps.none _ _))))
  intro v192 w9 ho10 hb hg_ hnew_
  clear hg_ hnew_
  (first | rw [← Ny191.out] at ho10 | (simp only [Int.reduceToNat] at ho10; rw [← Ny191.out] at ho10))
  have n0_ := zq9 (Kd.R_lower ho10 (zq29 (by exact b2 HB GE187 GE188)))
  have n1_ := zq9 (zq30 (g := gb187) (o := .cells #[.string a0_0, .int .i64 a0_1] 99 (0, 0)) (by exact bk BK187) hb)
  have n2_ := zq9 (zq30 (g := gb188) (o := .cells #[.string a1_0, .int .i64 a1_1] 99 (0, 0)) (by exact bk BK188) hb)
  have n3_ := zq9 (zq27 (by exact b2 HB GE187 GE188) hb)
  clear BK187
  clear BK188
  clear HB
  have HO193 := n0_
  have BK187 := n1_
  have BK188 := n2_
  have HB := n3_
  clear n0_ n1_ n2_ n3_
  clear hb ho10
  obtain ⟨Ao11, co11, eo11⟩ := Kd.R_slice HO193.out
  (first | subst eo11 | (injection eo11 with f1_ f2_ f3_; have f4_ := f1_.symm; have f5_ := f3_.symm; clear f1_ f2_ f3_; subst f4_; subst f5_))
  refine hK.out _ _ ⟨bc BK187 0, bc BK187 1, bc BK188 0, bc BK188 1⟩ (fun hHeld => ?_)
  clear hK K
  refine norm_ (a' := ?_) ?_ ?_
  rotate_left; · show Act.put _ (some 15) _ = _; simp only [Act.put, zq0, zq1, zq2, i64_w, i32_w]; rfl
  refine one_ (i := 11) (N := some 16) (zb 13 4095) rfl rfl (one_of HT_.out (by kernel_rfl)) (by decide) (fun K hK => ?_)
  refine gs Try.func104 #[.slice Ao11 y191.length co11] ?_
  with_reducible refine (cmp_Or_int.calls k _ _ y191 t194 _ ?side1 ?side2 A5.out).mono ?_
  (case side1 => repeat (first | exact (Kd.R_reads' HO193.out).2.2 | (with_reducible refine zq18 ?_ _) | (with_reducible refine zq19 ?_ _) | (with_reducible refine zq20 ?_)))
  (case side2 => exact (Kd.R_reads' HO193.out).2.1)
  rintro e w' ⟨rfl, ⟨nd, rfl⟩⟩
  refine ⟨_, rfl, ?_⟩
  refine hK.out _ _ ⟨bc BK187 0, bc BK187 1, bc BK188 0, bc BK188 1⟩ (fun hHeld => ?_)
  clear hK K
  refine norm_ (a' := ?_) ?_ ?_
  rotate_left; · show Act.put _ (some 16) _ = _; simp only [Act.put, zq0, zq1, zq2, i64_w, i32_w]; rfl
  refine pa HT_ 12 4 (zb 13 8191) ?_
  refine done_ (done_of HT_.out (by kernel_rfl)) ?_
  try go_wp2
  go_ret
  exact fz (by exact b2 HB GE187 GE188)
set_option maxHeartbeats 400000 in
theorem impl_scoreAt.calls_lit (x0 : ByteArray) (x1 : Int) (t : ByteArray) (B : Nat) (w : World) (hB : w.cell? ⟨B, 0, none⟩ = some (.string t)) :
    Calls Try.prog 108 #[.agg #[.string x0, .int .i64 x1], .pointer (some ⟨B, 0, none⟩)] w fun e w' => e = .returned (.bool (x0.toList == t.toList)) ∧ Below w.heap.size w w' := by
  have hlt := zq8 w ⟨B, 0, none⟩ hB
  go_enter Try.func108, Try.ntmps108
  go_wp2
  go_ret
  exact ⟨rfl, (Below.refl _ _).alloc (Nat.le_refl _) _⟩
theorem impl_scoreAt.hit (t : ByteArray) (l : List S99) (i : Nat) (h : i < l.length) (he : (l[i].f0.toList == t.toList) = true) : impl_scoreAt.from t (l.drop i) i = i := by
  rw [List.drop_eq_getElem_cons h, impl_scoreAt.from, if_pos (by simpa using he)]
theorem impl_scoreAt.step (t : ByteArray) (l : List S99) (i : Nat) (h : i < l.length) (he : (l[i].f0.toList == t.toList) = false) : impl_scoreAt.from t (l.drop i) i = impl_scoreAt.from t (l.drop (i + 1)) (i + 1) := by
  rw [List.drop_eq_getElem_cons h, impl_scoreAt.from, if_neg (by simpa using he)]
set_option maxHeartbeats 2000000 in
theorem impl_scoreAt.finds (A0 : Option Addr) (c0 : Nat) (l0 : List S99) (t : ByteArray) (B : Nat) (w : World) (hr0 : Kd.C k99 w A0 l0.length l0) (hB : w.cell? ⟨B, 0, none⟩ = some (.string t)) :
    Calls Try.prog 107 #[.slice A0 l0.length c0, .func (.func 108) #[] #[.pointer (some ⟨B, 0, none⟩)]] w fun e w' => e = .returned (.int .i64 (impl_scoreAt.from t l0 0)) ∧ Below w.heap.size w w' := by
  have hlt := zq8 w ⟨B, 0, none⟩ hB
  have hbig : l0.length ≤ 9223372036854775807 := hr0.2.1
  have HR0 := zq9 hr0
  clear hr0
  go_enter Try.func107, Try.ntmps107
  go_wp2
  go_loopg [5, 8] l0.length (fun gg _ s8 wr => ∃ kk : Nat, kk ≤ l0.length ∧ l0.length - kk ≤ gg ∧ s8 = .int .i64 kk ∧ Aside0 (Below w.heap.size w wr) ∧ Aside0 (impl_scoreAt.from t (l0.drop kk) kk = impl_scoreAt.from t l0 0))
  case atStart => exact ⟨0, Nat.zero_le _, by omega, rfl, ⟨Below.refl _ w⟩, ⟨rfl⟩⟩
  case round =>
    obtain ⟨kk, hkk, hg, rfl, BW, A⟩ := hrel
    by_cases hlt2 : kk < l0.length
    · have hltz : (kk : Int) < (l0.length : Int) := by omega
      have hel : rd_T99 l0 (kk : Int) = l0[kk] := by simp [rd_T99, List.getD_eq_getElem?_getD, hlt2]
      obtain ⟨ad, e0, hx0, hx1⟩ := at_T99 (zq31 HR0.out BW.out) (kk : Int) (by omega) (by omega)
      cases e0
      simp only [Int.toNat_natCast] at hx0 hx1
      have hcall := impl_scoreAt.calls_lit (rd_T99 l0 kk).f0 (rd_T99 l0 kk).f1 t B wr ((BW.out.cell (p := ⟨B, 0, none⟩) hlt).trans hB)
      cases hq : ((rd_T99 l0 (kk : Int)).f0.toList == t.toList) with
      | true =>
        rw [hq] at hcall
        have HIT := zq9 (impl_scoreAt.hit t l0 kk hlt2 (by rw [← hel]; exact hq))
        clear hq hel
        go_wp2_with (refine hcall.mono ?_; rintro e w' ⟨rfl, hb'⟩)
        go_ret
        exact ⟨congrArg (fun z => Ending.returned (.int .i64 z)) (HIT.out.symm.trans A.out), BW.out.trans (hb'.mono BW.out.size)⟩
      | false =>
        rw [hq] at hcall
        have MISS := zq9 (impl_scoreAt.step t l0 kk hlt2 (by rw [← hel]; exact hq))
        clear hq hel
        go_wp2_with (refine hcall.mono ?_; rintro e w' ⟨rfl, hb'⟩)
        go_roundg (l0.length - (kk + 1))
        case measure => omega
        case rel => exact ⟨kk + 1, by omega, by omega, by go_num, ⟨BW.out.trans (hb'.mono BW.out.size)⟩, ⟨by rw [← MISS.out]; exact A.out⟩⟩
    · have hltz : ¬ (kk : Int) < (l0.length : Int) := by omega
      obtain rfl : kk = l0.length := by omega
      go_wp2
      go_ret
      have e1 := A.out
      rw [List.drop_of_length_le (Nat.le_refl _)] at e1
      exact ⟨congrArg (fun z => Ending.returned (.int .i64 z)) e1, BW.out⟩
set_option maxHeartbeats 2000000 in
theorem impl_scoreAt.calls (A0 : Option Addr) (c0 : Nat) (l0 : List S99) (a1 : ByteArray) (r : Int) (w : World) (hr0 : Kd.C k99 w A0 l0.length l0) (hc0 : l0.length ≤ c0) (h : impl_scoreAt.f l0 a1 = some r) :
    Calls Try.prog 87 #[.slice A0 l0.length c0, .string a1] w fun e w' => e = .returned (.int .i64 r) ∧ Below w.heap.size w w' := by
  obtain rfl := Option.some.inj h
  have hr1 : Kd.C k99 (w.alloc (.cells #[.string a1] 9)) A0 l0.length l0 := zq31 hr0 ((Below.refl _ _).alloc (Nat.le_refl _) _)
  have HF := fun hB => impl_scoreAt.finds A0 c0 l0 a1 w.heap.size (w.alloc (.cells #[.string a1] 9)) hr1 hB
  go_enter Try.func87, Try.ntmps87
  go_wp2_with fail
  refine (HF (by simp)).mono ?_
  rintro e w' ⟨rfl, hb⟩
  go_wp2
  go_ret
  exact ⟨rfl, ((Below.refl _ _).alloc (Nat.le_refl _) _).trans (hb.mono (by simp))⟩
def impl_ScoresOk.T4 : Bool × List (List Nat × List Nat) := (true, [([], []), ([0], [0]), ([1], [1]), ([2], [2]), ([3], [3]), ([4], [4]), ([5, 4], [4, 5]), ([6, 4, 4], [4, 6]), ([7, 4], [4, 7]), ([4, 8], [4, 8]), ([9, 7], [9]), ([10], [10]), ([11, 10], [10, 11]), ([12, 10, 10], [10, 12]), ([13], [13]), ([13], [13]), ([15, 13], [13, 15]), ([14, 16, 13], [13, 14, 16]), ([17, 13], [13, 17]), ([13], [13]), ([18, 19, 13, 13], [13, 18, 19]), ([20, 13], [13, 20]), ([13, 21, 10], [10, 13, 21]), ([10, 22], [10, 22]), ([23, 20], [23]), ([24], [24]), ([24], [24]), ([26, 24], [24, 26]), ([25, 27, 24, 24], [24, 25, 27]), ([24], [24]), ([28, 29, 24], [24, 28, 29]), ([24, 30], [24, 30])])
def impl_ScoresOk.B4 : List Nat := [0, 1, 3, 7, 15, 31, 63, 127, 255, 511, 1023, 2047, 4095, 8191, 16383, 16383, 49151, 131071, 262143, 16383, 1048575, 2097151, 4194303, 8388607, 16777215, 33554431, 33554431, 100663295, 268435455, 33554431, 1073741823, 2147483647]
theorem impl_ScoresOk.tab4 : rtab .any (opsOf Try.f52 4) = impl_ScoresOk.T4 := by kernel_rfl
theorem impl_ScoresOk.bits4 : waitsOk impl_ScoresOk.T4.2 impl_ScoresOk.B4 = true := by kernel_rfl
set_option maxHeartbeats 8000000 in
set_option maxRecDepth 100000 in
theorem impl_ScoresOk.calls (k : Nat) (A0 : Option Addr) (c0 : Nat) (l0 : List (S99)) (r : Bool) (w : World) (hr0 : Kd.C k99 w A0 l0.length l0) (hc0 : l0.length ≤ c0) (h : impl_ScoresOk.f k l0 = some r) :
  Calls Try.prog 52 #[.slice A0 l0.length c0] w fun e w' => e = .returned (.bool r) ∧ Below w.heap.size w w' := by
 have hu99 := Try.underlying99
 have HR0 := zq9 hr0
 have HC0 := zq9 hc0
 clear hr0 hc0
 have HB := zq9 (Below.refl w.heap.size w)
 have H : (impl_ScoresOk.l0 k l0 l0 (l0.length : Int) 0) = some r := h
 clear h
 have H' := zq9 H
 clear H
 go_enter Try.func52, Try.ntmps52
 go_wp2
 go_loopg [7] k (fun kq v7 w' => ∃ (x7_1 : Int), v7 = .int .i64 x7_1 ∧ Aside0 (impl_ScoresOk.l0 kq l0 l0 (l0.length : Int) x7_1 = some r) ∧ Aside0 (kq ≤ k) ∧ Aside0 (Below w.heap.size w w'))
 case atStart => exact ⟨(0), (by first | rfl | (simp; done) | (simp [*]; done)), H', ⟨Nat.le_refl _⟩, ⟨by exact bl HB⟩⟩
 case round =>
  clear H'
  obtain ⟨x7_1, rfl, HA, HK1, HB⟩ := hrel
  cases gk with
  | zero => exact absurd HA.out (by simp [impl_ScoresOk.l0])
  | succ k1 =>
   have H := HA.out
   clear HA
   simp only [impl_ScoresOk.l0] at H
   by_cases c2 : x7_1 < (l0.length : Int)
   ·rw [if_pos c2] at H
    have c2b0 : decide (x7_1 < (l0.length : Int)) = true := decide_eq_true c2
    clear c2
    by_cases c3 : 0 ≤ x7_1
    ·rw [if_pos c3] at H
     have c3b0 : decide (0 ≤ x7_1) = true := decide_eq_true c3
     clear c3
     by_cases c4 : x7_1 < (l0.length : Int)
     ·rw [if_pos c4] at H
      have c4b0 : decide (x7_1 < (l0.length : Int)) = true := decide_eq_true c4
      clear c4
      have p195 : 0 ≤ (x7_1 : Int) := of_decide_eq_true ‹_›
      have q195 : x7_1 < (l0.length : Int) := of_decide_eq_true ‹_›
      obtain ⟨ad195, e195, hx195_0, hx195_1⟩ := at_T99 HR0.out x7_1 p195 q195
      cases e195
      replace hx195_0 := (HB.out.cell (zq8 w _ hx195_0)).trans hx195_0
      replace hx195_1 := (HB.out.cell (zq8 w _ hx195_1)).trans hx195_1
      replace p195 := eq_true p195
      replace q195 := eq_true q195
      try go_wp2_with (first | ((with_reducible refine zq25 (N := 4) rfl ?_); refine bx 4 #[.string (⟨#[]⟩ : ByteArray), .int .i64 0] 99 ?_; intro gb196 hg w6 hbox hb; have n0_ := zq9 (zq27 (by exact bl HB) hb); have n1_ := zq9 (hbox); have n2_ := zq9 ((by rw [hg]; exact (zq29 (by exact bl HB)) : w.heap.size ≤ gb196)); have n3_ := n2_; clear HB; have HB := n0_; have BK196 := n1_; have GW196 := n2_; have GE196 := n3_; clear n0_ n1_ n2_ n3_; clear hb hbox hg; have hcz7_0 : w6.cell? ⟨gb196, 0, none⟩ = some (.string (⟨#[]⟩ : ByteArray)) := bc BK196 0; have hcz7_1 : w6.cell? ⟨gb196, 1, none⟩ = some (.int .i64 0) := bc BK196 1; have hfz7_0 := zq6 BK196.out 0; have hfz7_1 := zq6 BK196.out 1))
      have n0_ : Aside0 (((w6.setCell ⟨gb196, 0, none⟩ (.string ((rd_T99 l0 x7_1).f0))).setCell ⟨gb196, 1, none⟩ (.int .i64 ((rd_T99 l0 x7_1).f1))).heap[gb196]? = some (.cells #[.string ((rd_T99 l0 x7_1).f0), .int .i64 ((rd_T99 l0 x7_1).f1)] 99 (0, 0))) := ⟨by refine bp ?_; refine blk_put (cs := #[.string ((rd_T99 l0 x7_1).f0), .int .i64 0]) ?_ 1 _ rfl; refine bp ?_; refine blk_put (cs := #[.string (⟨#[]⟩ : ByteArray), .int .i64 0]) ?_ 0 _ rfl; refine bp ?_; exact BK196.out⟩
      have n1_ : Aside0 (Below w.heap.size w ((w6.setCell ⟨gb196, 0, none⟩ (.string ((rd_T99 l0 x7_1).f0))).setCell ⟨gb196, 1, none⟩ (.int .i64 ((rd_T99 l0 x7_1).f1)))) := ⟨by exact b1 HB GE196⟩
      (try clear BK196)
      (try clear HB)
      generalize ((w6.setCell ⟨gb196, 0, none⟩ (.string ((rd_T99 l0 x7_1).f0))).setCell ⟨gb196, 1, none⟩ (.int .i64 ((rd_T99 l0 x7_1).f1))) = w8 at n0_ n1_ ⊢
      have BK196 := n0_
      have HB := n1_
      clear n0_ n1_
      have n0_ := zq9 (blk_drew BK196.out)
      have n1_ := zq9 (zq4 HB.out)
      clear BK196
      clear HB
      have BK196 := n0_
      have HB := n1_
      clear n0_ n1_
      by_cases c5 : (((rd_T99 l0 x7_1).f0).size : Int) > 40
      ·rw [if_pos c5] at H
       have c5b0 : decide (40 < (((rd_T99 l0 x7_1).f0).size : Int)) = true := decide_eq_true c5
       have c5b1 : decide (40 < ((rd_T99 l0 x7_1).f0).size) = true := decide_eq_true (by omega)
       clear c5
       obtain rfl := Option.some.inj H
       refine start_ (n := 32) (S := fun w' => w'.cell? ⟨gb196, 0, none⟩ = some (.string ((rd_T99 l0 x7_1).f0)) ∧ w'.cell? ⟨gb196, 1, none⟩ = some (.int .i64 ((rd_T99 l0 x7_1).f1))) (ds := []) #[false, false, false, false, false, false, false, false, false, false, false, false, false, false, false, false, false, false, false, false, false, false, false, false, false, false, false, false, false, false, false, false] (by kernel_rfl) rfl rfl ⟨bc BK196 0, bc BK196 1⟩ (fun hHeld => ?_); refine with_tabW impl_ScoresOk.tab4 impl_ScoresOk.bits4 (fun HT_ HW_ => ?_)
       generalize w8.drew = w9 at BK196 HB hHeld ⊢
       refine pa HT_ 0 12 (zb 32 1) ?_
       refine take_ (i := 1) (N := some 13) (v := ?_) (a' := ?_) (zb 32 3) rfl rfl (take_ofW HT_.out HW_.out (by kernel_rfl)) (fun _ _ _ h => h) (Or.inl ⟨by rfl, ?_⟩) hHeld ?_ ?_
       rotate_left; ·rintro w' ⟨s0, s1⟩; go_simp; with_reducible rfl
       rotate_left; ·simp only [Act.put, zq0, zq1, zq2, i64_w, i32_w]; rfl
       refine pa HT_ 2 14 (zb 32 7) ?_
       refine pa HT_ 3 15 (zb 32 15) ?_
       refine pa HT_ 4 16 (zb 32 31) ?_
       refine pb HT_ 5 17 (zb 32 63) ?_
       refine pb HT_ 6 18 (zb 32 127) ?_
       refine pb HT_ 7 19 (zb 32 255) ?_
       refine pb HT_ 8 20 (zb 32 511) ?_
       refine pa HT_ 9 21 (zb 32 1023) ?_
       refine pa HT_ 10 22 (zb 32 2047) ?_
       refine pb HT_ 11 23 (zb 32 4095) ?_
       refine pb HT_ 12 24 (zb 32 8191) ?_
       refine pb HT_ 13 25 (zb 32 16383) ?_
       refine pb HT_ 14 26 (zb 32 32767) ?_
       refine pb HT_ 15 27 (zb 32 65535) ?_
       refine pb HT_ 16 28 (zb 32 131071) ?_
       refine pb HT_ 17 29 (zb 32 262143) ?_
       refine pb HT_ 18 30 (zb 32 524287) ?_
       refine pb HT_ 19 31 (zb 32 1048575) ?_
       refine pb HT_ 20 32 (zb 32 2097151) ?_
       refine pb HT_ 21 33 (zb 32 4194303) ?_
       refine pb HT_ 22 34 (zb 32 8388607) ?_
       refine pa HT_ 23 35 (zb 32 16777215) ?_
       refine pa HT_ 24 36 (zb 32 33554431) ?_
       refine pb HT_ 25 37 (zb 32 67108863) ?_
       refine pb HT_ 26 38 (zb 32 134217727) ?_
       refine pb HT_ 27 39 (zb 32 268435455) ?_
       refine pb HT_ 28 40 (zb 32 536870911) ?_
       refine pb HT_ 29 41 (zb 32 1073741823) ?_
       refine pb HT_ 30 42 (zb 32 2147483647) ?_
       refine pa HT_ 31 43 (zb 32 4294967295) ?_
       refine done_ (done_of HT_.out (by kernel_rfl)) ?_
       try go_wp2
       go_ret
       exact fz (by exact b1 HB GE196)
      ·rw [if_neg c5] at H
       have c5b0 : decide (40 < (((rd_T99 l0 x7_1).f0).size : Int)) = false := decide_eq_false c5
       have c5b1 : decide (40 < ((rd_T99 l0 x7_1).f0).size) = false := decide_eq_false (by omega)
       clear c5
       replace H := Option.bind_eq_some_iff.mp H
       obtain ⟨t197, A100, H⟩ := H
       try dsimp only at H
       have A10 := zq9 A100
       clear A100
       by_cases c11 : t197 = true
       ·subst c11
        have H1 : (if x7_1 > 0 then (if 0 ≤ (wrap64 (x7_1 - 1)) then (if (wrap64 (x7_1 - 1)) < (l0.length : Int) then ((impl_scoreOrder.f k1 ((rd_T99 l0 (wrap64 (x7_1 - 1))).f0) ((rd_T99 l0 (wrap64 (x7_1 - 1))).f1) ((rd_T99 l0 x7_1).f0) ((rd_T99 l0 x7_1).f1)).bind fun t199 => (if t199 ≥ 0 then (some false) else ((impl_scoreAt.f l0 ((rd_T99 l0 x7_1).f0)).bind fun t200 => (if t200 = x7_1 then (impl_ScoresOk.l0 k1 l0 l0 (l0.length : Int) (wrap64 (x7_1 + 1))) else (some false))))) else (none)) else (none)) else ((impl_scoreAt.f l0 ((rd_T99 l0 x7_1).f0)).bind fun t201 => (if t201 = x7_1 then (impl_ScoresOk.l0 k1 l0 l0 (l0.length : Int) (wrap64 (x7_1 + 1))) else (some false)))) = some r := by rw [if_pos rfl] at H; exact H
        clear H
        have H := H1
        clear H1
        by_cases c12 : x7_1 > 0
        ·rw [if_pos c12] at H
         have c12b0 : decide (0 < x7_1) = true := decide_eq_true c12
         clear c12
         obtain ⟨ji13, hji13⟩ : ∃ j_ : Int, (wrap64 (x7_1 - 1)) = j_ := ⟨_, rfl⟩
         replace H : (if 0 ≤ (ji13) then (if (ji13) < (l0.length : Int) then ((impl_scoreOrder.f k1 ((rd_T99 l0 (ji13)).f0) ((rd_T99 l0 (ji13)).f1) ((rd_T99 l0 x7_1).f0) ((rd_T99 l0 x7_1).f1)).bind fun t199 => (if t199 ≥ 0 then (some false) else ((impl_scoreAt.f l0 ((rd_T99 l0 x7_1).f0)).bind fun t200 => (if t200 = x7_1 then (impl_ScoresOk.l0 k1 l0 l0 (l0.length : Int) (wrap64 (x7_1 + 1))) else (some false))))) else (none)) else (none)) = some r := by first | (rw [hji13] at H; exact H) | (simp only [hji13] at H ⊢; exact H)
         (try rw [hji13] at A10)
         have hji13w : (IntKind.i64.wrap (x7_1 - 1)) = ji13 := (i64_w _).trans hji13
         by_cases c14 : 0 ≤ (ji13)
         ·rw [if_pos c14] at H
          have c14b0 : decide (0 ≤ (ji13)) = true := decide_eq_true c14
          clear c14
          by_cases c15 : (ji13) < (l0.length : Int)
          ·rw [if_pos c15] at H
           have c15b0 : decide ((ji13) < (l0.length : Int)) = true := decide_eq_true c15
           clear c15
           replace H := Option.bind_eq_some_iff.mp H
           obtain ⟨t199, A160, H⟩ := H
           try dsimp only at H
           have A16 := zq9 A160
           clear A160
           have p198 : 0 ≤ ((ji13) : Int) := of_decide_eq_true ‹_›
           have q198 : (ji13) < (l0.length : Int) := of_decide_eq_true ‹_›
           obtain ⟨ad198, e198, hx198_0, hx198_1⟩ := at_T99 HR0.out (ji13) p198 q198
           have hw198_1 := hx198_1
           have hw198_0 := hx198_0
           obtain rfl : ad195 = ad198 := (by injection e198)
           replace hx198_0 := (HB.out.cell (zq8 w _ hx198_0)).trans hx198_0
           replace hx198_1 := (HB.out.cell (zq8 w _ hx198_1)).trans hx198_1
           replace p198 := eq_true p198
           replace q198 := eq_true q198
           refine start_ (n := 32) (S := fun w' => w'.cell? ⟨gb196, 0, none⟩ = some (.string ((rd_T99 l0 x7_1).f0)) ∧ w'.cell? ⟨gb196, 1, none⟩ = some (.int .i64 ((rd_T99 l0 x7_1).f1)) ∧ w'.cell? (ad195.add (((ji13)).toNat * 2)) = some (.string ((rd_T99 l0 (ji13)).f0)) ∧ w'.cell? ⟨(ad195.add (((ji13)).toNat * 2)).block, (ad195.add (((ji13)).toNat * 2)).off + 1, none⟩ = some (.int .i64 ((rd_T99 l0 (ji13)).f1))) (ds := []) #[false, false, false, false, false, false, false, false, false, false, false, false, false, false, false, false, false, false, false, false, false, false, false, false, false, false, false, false, false, false, false, false] (by kernel_rfl) rfl rfl ⟨bc BK196 0, bc BK196 1, ((HB.out.cell (zq8 w _ hw198_0)).trans hw198_0), ((HB.out.cell (zq8 w _ hw198_1)).trans hw198_1)⟩ (fun hHeld => ?_); refine with_tabW impl_ScoresOk.tab4 impl_ScoresOk.bits4 (fun HT_ HW_ => ?_)
           generalize w8.drew = w21 at BK196 HB hx198_0 hx198_1 hHeld ⊢
           refine pa HT_ 0 12 (zb 32 1) ?_
           refine take_ (i := 1) (N := some 13) (v := ?_) (a' := ?_) (zb 32 3) rfl rfl (take_ofW HT_.out HW_.out (by kernel_rfl)) (fun _ _ _ h => h) (Or.inl ⟨by rfl, ?_⟩) hHeld ?_ ?_
           rotate_left; ·rintro w' ⟨s0, s1, s2, s3⟩; go_simp; with_reducible rfl
           rotate_left; ·simp only [Act.put, zq0, zq1, zq2, i64_w, i32_w]; rfl
           refine pa HT_ 2 14 (zb 32 7) ?_
           refine pa HT_ 3 15 (zb 32 15) ?_
           refine pa HT_ 4 16 (zb 32 31) ?_
           refine pa HT_ 5 17 (zb 32 63) ?_
           refine take_ (i := 6) (N := some 18) (v := ?_) (a' := ?_) (zb 32 127) rfl rfl (take_ofW HT_.out HW_.out (by kernel_rfl)) (fun _ _ _ h => h) (Or.inl ⟨by rfl, ?_⟩) hHeld ?_ ?_
           rotate_left; ·rintro w' ⟨s0, s1, s2, s3⟩; go_simp; with_reducible rfl
           rotate_left; ·simp only [Act.put, zq0, zq1, zq2, i64_w, i32_w]; rfl
           refine one_ (i := 7) (N := some 19) (zb 32 255) rfl rfl (one_of HT_.out (by kernel_rfl)) (by decide) (fun K hK => ?_)
           refine gs Try.func85 #[.int .i64 ((rd_T99 l0 x7_1).f1)] ?_
           with_reducible refine (impl_position.calls ((rd_T99 l0 x7_1).f1) true _ A10.out).mono ?_
           rintro e w' ⟨rfl, ⟨nd, rfl⟩⟩
           refine ⟨_, rfl, ?_⟩
           refine hK.out _ _ ⟨bc BK196 0, bc BK196 1, ((HB.out.cell (zq8 w _ hw198_0)).trans hw198_0), ((HB.out.cell (zq8 w _ hw198_1)).trans hw198_1)⟩ (fun hHeld => ?_)
           clear hK K
           refine norm_ (a' := ?_) ?_ ?_
           rotate_left; ·show Act.put _ (some 19) _ = _; simp only [Act.put, zq0, zq1, zq2, i64_w, i32_w]; rfl
           refine pa HT_ 8 20 (zb 32 511) ?_
           refine pa HT_ 9 21 (zb 32 1023) ?_
           refine pa HT_ 10 22 (zb 32 2047) ?_
           refine pa HT_ 11 23 (zb 32 4095) ?_
           refine pa HT_ 12 24 (zb 32 8191) ?_
           refine pa HT_ 13 25 (zb 32 16383) ?_
           refine pa HT_ 14 26 (zb 32 32767) ?_
           refine pa HT_ 15 27 (zb 32 65535) ?_
           refine pa HT_ 16 28 (zb 32 131071) ?_
           refine pa HT_ 17 29 (zb 32 262143) ?_
           refine take_ (i := 18) (N := some 30) (v := ?_) (a' := ?_) (zb 32 524287) rfl rfl (take_ofW HT_.out HW_.out (by kernel_rfl)) (fun _ _ _ h => h) (Or.inl ⟨by rfl, ?_⟩) hHeld ?_ ?_
           rotate_left; ·rintro w' ⟨s0, s1, s2, s3⟩; go_simp; with_reducible rfl
           rotate_left; ·simp only [Act.put, zq0, zq1, zq2, i64_w, i32_w]; rfl
           refine take_ (i := 19) (N := some 31) (v := ?_) (a' := ?_) (zb 32 1048575) rfl rfl (take_ofW HT_.out HW_.out (by kernel_rfl)) (fun _ _ _ h => h) (Or.inl ⟨by rfl, ?_⟩) hHeld ?_ ?_
           rotate_left; ·rintro w' ⟨s0, s1, s2, s3⟩; go_simp; with_reducible rfl
           rotate_left; ·simp only [Act.put, zq0, zq1, zq2, i64_w, i32_w]; rfl
           refine one_ (i := 20) (N := some 32) (zb 32 2097151) rfl rfl (one_of HT_.out (by kernel_rfl)) (by decide) (fun K hK => ?_)
           refine goes_ Try.func86 (by kernel_rfl) rfl #[.agg #[.string ((rd_T99 l0 (ji13)).f0), .int .i64 ((rd_T99 l0 (ji13)).f1)], .agg #[.string ((rd_T99 l0 x7_1).f0), .int .i64 ((rd_T99 l0 x7_1).f1)]] (by rfl) rfl rfl (by (try simp only [List.map_toArray, List.map_cons, List.map_nil]); first | done | (simp only [hji13]; rfl) | rfl | (simp only [zq33, zq34]; rfl)) ?_
           with_reducible refine (impl_scoreOrder.calls k1 ((rd_T99 l0 (ji13)).f0) ((rd_T99 l0 (ji13)).f1) ((rd_T99 l0 x7_1).f0) ((rd_T99 l0 x7_1).f1) t199 _ A16.out).mono ?_
           rintro e w22 ⟨rfl, hb⟩
           refine ⟨_, rfl, ?_⟩
           have n0_ := zq9 (zq30 (g := gb196) (o := .cells #[.string ((rd_T99 l0 x7_1).f0), .int .i64 ((rd_T99 l0 x7_1).f1)] 99 (0, 0)) (by exact bk BK196) hb)
           have n1_ := zq9 (zq27 (by exact b1 HB GE196) hb)
           clear BK196
           clear HB
           have BK196 := n0_
           have HB := n1_
           clear n0_ n1_
           (try clear hb)
           (try clear hb2)
           (try clear hk)
           (try clear hi)
           refine hK.out _ _ ⟨bc BK196 0, bc BK196 1, ((HB.out.cell (zq8 w _ hw198_0)).trans hw198_0), ((HB.out.cell (zq8 w _ hw198_1)).trans hw198_1)⟩ (fun hHeld => ?_)
           clear hK K
           refine norm_ (a' := ?_) ?_ ?_
           rotate_left; ·show Act.put _ (some 32) _ = _; simp only [Act.put, zq0, zq1, zq2, i64_w, i32_w]; rfl
           refine pa HT_ 21 33 (zb 32 4194303) ?_
           refine pa HT_ 22 34 (zb 32 8388607) ?_
           refine pa HT_ 23 35 (zb 32 16777215) ?_
           refine pa HT_ 24 36 (zb 32 33554431) ?_
           by_cases c17 : t199 ≥ 0
           ·rw [if_pos c17] at H
            have c17b0 : decide (0 ≤ t199) = true := decide_eq_true c17
            clear c17
            obtain rfl := Option.some.inj H
            try rw [c17b0]
            refine pb HT_ 25 37 (zb 32 67108863) ?_
            refine pb HT_ 26 38 (zb 32 134217727) ?_
            refine pb HT_ 27 39 (zb 32 268435455) ?_
            refine pb HT_ 28 40 (zb 32 536870911) ?_
            refine pb HT_ 29 41 (zb 32 1073741823) ?_
            refine pb HT_ 30 42 (zb 32 2147483647) ?_
            refine pa HT_ 31 43 (zb 32 4294967295) ?_
            refine done_ (done_of HT_.out (by kernel_rfl)) ?_
            try go_wp2
            go_ret
            exact ⟨by first | rfl | (simp [errW_none, errW_some] <;> rfl) | (simp only [← hji13]; first | rfl | (simp [errW_none, errW_some] <;> rfl)) | (simp [*, errW_none, errW_some] <;> rfl), by exact b1 HB GE196⟩
           ·rw [if_neg c17] at H
            have c17b0 : decide (0 ≤ t199) = false := decide_eq_false c17
            clear c17
            replace H := Option.bind_eq_some_iff.mp H
            obtain ⟨t200, A230, H⟩ := H
            try dsimp only at H
            have A23 := zq9 A230
            clear A230
            try rw [c17b0]
            refine pa HT_ 25 37 (zb 32 67108863) ?_
            refine pa HT_ 26 38 (zb 32 134217727) ?_
            refine pa HT_ 29 41 (zb 32 671088639) ?_
            refine take_ (i := 27) (N := some 39) (v := ?_) (a' := ?_) (zb 32 805306367) rfl rfl (take_ofW HT_.out HW_.out (by kernel_rfl)) (fun _ _ _ h => h) (Or.inl ⟨by rfl, ?_⟩) hHeld ?_ ?_
            rotate_left; ·rintro w' ⟨s0, s1, s2, s3⟩; go_simp; with_reducible rfl
            rotate_left; ·simp only [Act.put, zq0, zq1, zq2, i64_w, i32_w]; rfl
            refine one_ (i := 28) (N := some 40) (zb 32 1073741823) rfl rfl (one_of HT_.out (by kernel_rfl)) (by decide) (fun K hK => ?_)
            refine gs Try.func87 #[.slice (some ad195) l0.length c0, .string ((rd_T99 l0 x7_1).f0)] ?_
            with_reducible refine (impl_scoreAt.calls _ _ l0 ((rd_T99 l0 x7_1).f0) t200 _ ?side1 ?side2 A23.out).mono ?_
            (case side1 => exact kc HR0 HB)
            (case side2 => exact HC0.out)
            rintro e w30 ⟨rfl, hb⟩
            refine ⟨_, rfl, ?_⟩
            have n0_ := zq9 (zq30 (g := gb196) (o := .cells #[.string ((rd_T99 l0 x7_1).f0), .int .i64 ((rd_T99 l0 x7_1).f1)] 99 (0, 0)) (by exact bk BK196) hb)
            have n1_ := zq9 (zq27 (by exact b1 HB GE196) hb)
            clear BK196
            clear HB
            have BK196 := n0_
            have HB := n1_
            clear n0_ n1_
            (try clear hb)
            (try clear hb2)
            (try clear hk)
            (try clear hi)
            refine hK.out _ _ ⟨bc BK196 0, bc BK196 1, ((HB.out.cell (zq8 w _ hw198_0)).trans hw198_0), ((HB.out.cell (zq8 w _ hw198_1)).trans hw198_1)⟩ (fun hHeld => ?_)
            clear hK K
            refine norm_ (a' := ?_) ?_ ?_
            rotate_left; ·show Act.put _ (some 40) _ = _; simp only [Act.put, zq0, zq1, zq2, i64_w, i32_w]; rfl
            refine pa HT_ 30 42 (zb 32 2147483647) ?_
            refine pa HT_ 31 43 (zb 32 4294967295) ?_
            refine done_ (done_of HT_.out (by kernel_rfl)) ?_
            by_cases c24 : t200 = x7_1
            ·rw [if_pos c24] at H
             have c24b0 : (t200 == x7_1) = true := beq_iff_eq.mpr c24
             have c24b1 : (t200 != x7_1) = false := bne_eq_false_iff_eq.mpr c24
             clear c24
             have H' := zq9 H
             clear H
             try rw [c24b0]; try rw [c24b1]
             try go_wp2
             go_roundg k1
             case measure => have := HK1.out; omega
             case rel => exact ⟨(wrap64 (x7_1 + 1)), (by first | rfl | (simp; done) | (simp [*]; done)), H', ⟨by have := HK1.out; omega⟩, ⟨by exact b1 HB GE196⟩⟩
            ·rw [if_neg c24] at H
             have c24b0 : (t200 == x7_1) = false := beq_eq_false_iff_ne.mpr c24
             have c24b1 : (t200 != x7_1) = true := bne_iff_ne.mpr c24
             obtain rfl := Option.some.inj H
             try rw [c24b0]; try rw [c24b1]
             try go_wp2
             go_ret
             exact ⟨by first | rfl | (simp [errW_none, errW_some] <;> rfl) | (simp only [← hji13]; first | rfl | (simp [errW_none, errW_some] <;> rfl)) | (simp [*, errW_none, errW_some] <;> rfl), by exact b1 HB GE196⟩
          ·rw [if_neg c15] at H
           exact absurd H (by simp)
         ·rw [if_neg c14] at H
          exact absurd H (by simp)
        ·rw [if_neg c12] at H
         have c12b0 : decide (0 < x7_1) = false := decide_eq_false c12
         clear c12
         replace H := Option.bind_eq_some_iff.mp H
         obtain ⟨t201, A370, H⟩ := H
         try dsimp only at H
         have A37 := zq9 A370
         clear A370
         refine start_ (n := 32) (S := fun w' => w'.cell? ⟨gb196, 0, none⟩ = some (.string ((rd_T99 l0 x7_1).f0)) ∧ w'.cell? ⟨gb196, 1, none⟩ = some (.int .i64 ((rd_T99 l0 x7_1).f1))) (ds := []) #[false, false, false, false, false, false, false, false, false, false, false, false, false, false, false, false, false, false, false, false, false, false, false, false, false, false, false, false, false, false, false, false] (by kernel_rfl) rfl rfl ⟨bc BK196 0, bc BK196 1⟩ (fun hHeld => ?_); refine with_tabW impl_ScoresOk.tab4 impl_ScoresOk.bits4 (fun HT_ HW_ => ?_)
         generalize w8.drew = w42 at BK196 HB hHeld ⊢
         refine pa HT_ 0 12 (zb 32 1) ?_
         refine take_ (i := 1) (N := some 13) (v := ?_) (a' := ?_) (zb 32 3) rfl rfl (take_ofW HT_.out HW_.out (by kernel_rfl)) (fun _ _ _ h => h) (Or.inl ⟨by rfl, ?_⟩) hHeld ?_ ?_
         rotate_left; ·rintro w' ⟨s0, s1⟩; go_simp; with_reducible rfl
         rotate_left; ·simp only [Act.put, zq0, zq1, zq2, i64_w, i32_w]; rfl
         refine pa HT_ 2 14 (zb 32 7) ?_
         refine pa HT_ 3 15 (zb 32 15) ?_
         refine pa HT_ 4 16 (zb 32 31) ?_
         refine pa HT_ 5 17 (zb 32 63) ?_
         refine take_ (i := 6) (N := some 18) (v := ?_) (a' := ?_) (zb 32 127) rfl rfl (take_ofW HT_.out HW_.out (by kernel_rfl)) (fun _ _ _ h => h) (Or.inl ⟨by rfl, ?_⟩) hHeld ?_ ?_
         rotate_left; ·rintro w' ⟨s0, s1⟩; go_simp; with_reducible rfl
         rotate_left; ·simp only [Act.put, zq0, zq1, zq2, i64_w, i32_w]; rfl
         refine one_ (i := 7) (N := some 19) (zb 32 255) rfl rfl (one_of HT_.out (by kernel_rfl)) (by decide) (fun K hK => ?_)
         refine gs Try.func85 #[.int .i64 ((rd_T99 l0 x7_1).f1)] ?_
         with_reducible refine (impl_position.calls ((rd_T99 l0 x7_1).f1) true _ A10.out).mono ?_
         rintro e w' ⟨rfl, ⟨nd, rfl⟩⟩
         refine ⟨_, rfl, ?_⟩
         refine hK.out _ _ ⟨bc BK196 0, bc BK196 1⟩ (fun hHeld => ?_)
         clear hK K
         refine norm_ (a' := ?_) ?_ ?_
         rotate_left; ·show Act.put _ (some 19) _ = _; simp only [Act.put, zq0, zq1, zq2, i64_w, i32_w]; rfl
         refine pa HT_ 8 20 (zb 32 511) ?_
         refine pa HT_ 9 21 (zb 32 1023) ?_
         refine pa HT_ 10 22 (zb 32 2047) ?_
         refine pa HT_ 11 23 (zb 32 4095) ?_
         refine pa HT_ 12 24 (zb 32 8191) ?_
         refine pa HT_ 13 25 (zb 32 16383) ?_
         refine pb HT_ 14 26 (zb 32 32767) ?_
         refine pb HT_ 15 27 (zb 32 65535) ?_
         refine pb HT_ 16 28 (zb 32 131071) ?_
         refine pb HT_ 17 29 (zb 32 262143) ?_
         refine pb HT_ 18 30 (zb 32 524287) ?_
         refine pb HT_ 19 31 (zb 32 1048575) ?_
         refine pb HT_ 20 32 (zb 32 2097151) ?_
         refine pb HT_ 21 33 (zb 32 4194303) ?_
         refine pa HT_ 22 34 (zb 32 8388607) ?_
         refine pa HT_ 23 35 (zb 32 16777215) ?_
         refine pa HT_ 24 36 (zb 32 33554431) ?_
         refine pa HT_ 25 37 (zb 32 67108863) ?_
         refine pa HT_ 26 38 (zb 32 134217727) ?_
         refine pa HT_ 29 41 (zb 32 671088639) ?_
         refine take_ (i := 27) (N := some 39) (v := ?_) (a' := ?_) (zb 32 805306367) rfl rfl (take_ofW HT_.out HW_.out (by kernel_rfl)) (fun _ _ _ h => h) (Or.inl ⟨by rfl, ?_⟩) hHeld ?_ ?_
         rotate_left; ·rintro w' ⟨s0, s1⟩; go_simp; with_reducible rfl
         rotate_left; ·simp only [Act.put, zq0, zq1, zq2, i64_w, i32_w]; rfl
         refine one_ (i := 28) (N := some 40) (zb 32 1073741823) rfl rfl (one_of HT_.out (by kernel_rfl)) (by decide) (fun K hK => ?_)
         refine gs Try.func87 #[.slice (some ad195) l0.length c0, .string ((rd_T99 l0 x7_1).f0)] ?_
         with_reducible refine (impl_scoreAt.calls _ _ l0 ((rd_T99 l0 x7_1).f0) t201 _ ?side1 ?side2 A37.out).mono ?_
         (case side1 => repeat (first | exact (zq31 HR0.out (by exact b1 HB GE196)) | (with_reducible refine zq18 ?_ _) | (with_reducible refine zq19 ?_ _) | (with_reducible refine zq20 ?_)))
         (case side2 => exact HC0.out)
         rintro e w43 ⟨rfl, hb⟩
         refine ⟨_, rfl, ?_⟩
         have n0_ := zq9 (zq30 (g := gb196) (o := .cells #[.string ((rd_T99 l0 x7_1).f0), .int .i64 ((rd_T99 l0 x7_1).f1)] 99 (0, 0)) (by exact bk BK196) hb)
         have n1_ := zq9 (zq27 (by exact b1 HB GE196) hb)
         clear BK196
         clear HB
         have BK196 := n0_
         have HB := n1_
         clear n0_ n1_
         (try clear hb)
         (try clear hb2)
         (try clear hk)
         (try clear hi)
         refine hK.out _ _ ⟨bc BK196 0, bc BK196 1⟩ (fun hHeld => ?_)
         clear hK K
         refine norm_ (a' := ?_) ?_ ?_
         rotate_left; ·show Act.put _ (some 40) _ = _; simp only [Act.put, zq0, zq1, zq2, i64_w, i32_w]; rfl
         refine pa HT_ 30 42 (zb 32 2147483647) ?_
         refine pa HT_ 31 43 (zb 32 4294967295) ?_
         refine done_ (done_of HT_.out (by kernel_rfl)) ?_
         by_cases c38 : t201 = x7_1
         ·rw [if_pos c38] at H
          have c38b0 : (t201 == x7_1) = true := beq_iff_eq.mpr c38
          have c38b1 : (t201 != x7_1) = false := bne_eq_false_iff_eq.mpr c38
          clear c38
          have H' := zq9 H
          clear H
          try rw [c38b0]; try rw [c38b1]
          try go_wp2
          go_roundg k1
          case measure => have := HK1.out; omega
          case rel => exact ⟨(wrap64 (x7_1 + 1)), (by first | rfl | (simp; done) | (simp [*]; done)), H', ⟨by have := HK1.out; omega⟩, ⟨by exact b1 HB GE196⟩⟩
         ·rw [if_neg c38] at H
          have c38b0 : (t201 == x7_1) = false := beq_eq_false_iff_ne.mpr c38
          have c38b1 : (t201 != x7_1) = true := bne_iff_ne.mpr c38
          obtain rfl := Option.some.inj H
          try rw [c38b0]; try rw [c38b1]
          try go_wp2
          go_ret
          exact fz (by exact b1 HB GE196)
       ·replace c11 := Bool.eq_false_iff.mpr c11
        subst c11
        have H1 : (some false) = some r := by rw [if_neg (show ¬ (false = true) by decide)] at H; exact H
        clear H
        have H := H1
        clear H1
        obtain rfl := Option.some.inj H
        refine start_ (n := 32) (S := fun w' => w'.cell? ⟨gb196, 0, none⟩ = some (.string ((rd_T99 l0 x7_1).f0)) ∧ w'.cell? ⟨gb196, 1, none⟩ = some (.int .i64 ((rd_T99 l0 x7_1).f1))) (ds := []) #[false, false, false, false, false, false, false, false, false, false, false, false, false, false, false, false, false, false, false, false, false, false, false, false, false, false, false, false, false, false, false, false] (by kernel_rfl) rfl rfl ⟨bc BK196 0, bc BK196 1⟩ (fun hHeld => ?_); refine with_tabW impl_ScoresOk.tab4 impl_ScoresOk.bits4 (fun HT_ HW_ => ?_)
        generalize w8.drew = w52 at BK196 HB hHeld ⊢
        refine pa HT_ 0 12 (zb 32 1) ?_
        refine take_ (i := 1) (N := some 13) (v := ?_) (a' := ?_) (zb 32 3) rfl rfl (take_ofW HT_.out HW_.out (by kernel_rfl)) (fun _ _ _ h => h) (Or.inl ⟨by rfl, ?_⟩) hHeld ?_ ?_
        rotate_left; ·rintro w' ⟨s0, s1⟩; go_simp; with_reducible rfl
        rotate_left; ·simp only [Act.put, zq0, zq1, zq2, i64_w, i32_w]; rfl
        refine pa HT_ 2 14 (zb 32 7) ?_
        refine pa HT_ 3 15 (zb 32 15) ?_
        refine pa HT_ 4 16 (zb 32 31) ?_
        refine pa HT_ 5 17 (zb 32 63) ?_
        refine take_ (i := 6) (N := some 18) (v := ?_) (a' := ?_) (zb 32 127) rfl rfl (take_ofW HT_.out HW_.out (by kernel_rfl)) (fun _ _ _ h => h) (Or.inl ⟨by rfl, ?_⟩) hHeld ?_ ?_
        rotate_left; ·rintro w' ⟨s0, s1⟩; go_simp; with_reducible rfl
        rotate_left; ·simp only [Act.put, zq0, zq1, zq2, i64_w, i32_w]; rfl
        refine one_ (i := 7) (N := some 19) (zb 32 255) rfl rfl (one_of HT_.out (by kernel_rfl)) (by decide) (fun K hK => ?_)
        refine gs Try.func85 #[.int .i64 ((rd_T99 l0 x7_1).f1)] ?_
        with_reducible refine (impl_position.calls ((rd_T99 l0 x7_1).f1) false _ A10.out).mono ?_
        rintro e w' ⟨rfl, ⟨nd, rfl⟩⟩
        refine ⟨_, rfl, ?_⟩
        refine hK.out _ _ ⟨bc BK196 0, bc BK196 1⟩ (fun hHeld => ?_)
        clear hK K
        refine norm_ (a' := ?_) ?_ ?_
        rotate_left; ·show Act.put _ (some 19) _ = _; simp only [Act.put, zq0, zq1, zq2, i64_w, i32_w]; rfl
        refine pa HT_ 8 20 (zb 32 511) ?_
        refine pa HT_ 9 21 (zb 32 1023) ?_
        refine pa HT_ 10 22 (zb 32 2047) ?_
        refine pb HT_ 11 23 (zb 32 4095) ?_
        refine pb HT_ 12 24 (zb 32 8191) ?_
        refine pb HT_ 13 25 (zb 32 16383) ?_
        refine pb HT_ 14 26 (zb 32 32767) ?_
        refine pb HT_ 15 27 (zb 32 65535) ?_
        refine pb HT_ 16 28 (zb 32 131071) ?_
        refine pb HT_ 17 29 (zb 32 262143) ?_
        refine pb HT_ 18 30 (zb 32 524287) ?_
        refine pb HT_ 19 31 (zb 32 1048575) ?_
        refine pb HT_ 20 32 (zb 32 2097151) ?_
        refine pb HT_ 21 33 (zb 32 4194303) ?_
        refine pb HT_ 22 34 (zb 32 8388607) ?_
        refine pa HT_ 23 35 (zb 32 16777215) ?_
        refine pa HT_ 24 36 (zb 32 33554431) ?_
        refine pb HT_ 25 37 (zb 32 67108863) ?_
        refine pb HT_ 26 38 (zb 32 134217727) ?_
        refine pb HT_ 27 39 (zb 32 268435455) ?_
        refine pb HT_ 28 40 (zb 32 536870911) ?_
        refine pb HT_ 29 41 (zb 32 1073741823) ?_
        refine pb HT_ 30 42 (zb 32 2147483647) ?_
        refine pa HT_ 31 43 (zb 32 4294967295) ?_
        refine done_ (done_of HT_.out (by kernel_rfl)) ?_
        try go_wp2
        go_ret
        exact fz (by exact b1 HB GE196)
     ·rw [if_neg c4] at H
      exact absurd H (by simp)
    ·rw [if_neg c3] at H
     exact absurd H (by simp)
   ·rw [if_neg c2] at H
    have c2b0 : decide (x7_1 < (l0.length : Int)) = false := decide_eq_false c2
    clear c2
    obtain rfl := Option.some.inj H
    go_wp2
    go_ret
    exact fz (by exact bl HB)
set_option maxHeartbeats 8000000 in
set_option maxRecDepth 100000 in
theorem impl_FieldsOk.calls (k : Nat) (A0 : Option Addr) (c0 : Nat) (l0 : List (S101)) (r : Bool) (w : World) (hr0 : Kd.C k101 w A0 l0.length l0) (hc0 : l0.length ≤ c0) (h : impl_FieldsOk.f k l0 = some r) :
  Calls Try.prog 53 #[.slice A0 l0.length c0] w fun e w' => e = .returned (.bool r) ∧ Below w.heap.size w w' := by
 have hu101 := Try.underlying101
 have HR0 := zq9 hr0
 have HC0 := zq9 hc0
 clear hr0 hc0
 have HB := zq9 (Below.refl w.heap.size w)
 have H : (impl_FieldsOk.l0 k l0 l0 (l0.length : Int) 0) = some r := h
 clear h
 have H' := zq9 H
 clear H
 go_enter Try.func53, Try.ntmps53
 go_wp2
 repeat (go_quiet (fail); try go_wp2)
 go_loopg [7] k (fun kq v7 w' => ∃ (x7_1 : Int), v7 = .int .i64 x7_1 ∧ Aside0 (impl_FieldsOk.l0 kq l0 l0 (l0.length : Int) x7_1 = some r) ∧ Aside0 (kq ≤ k) ∧ Aside0 (Below w.heap.size w w'))
 case atStart => exact ⟨(0), (by first | rfl | (simp; done) | (simp [*]; done)), H', ⟨Nat.le_refl _⟩, ⟨by exact bl HB⟩⟩
 case round =>
  clear H'
  obtain ⟨x7_1, rfl, HA, HK1, HB⟩ := hrel
  cases gk with
  | zero => exact absurd HA.out (by simp [impl_FieldsOk.l0])
  | succ k1 =>
   have H := HA.out
   clear HA
   simp only [impl_FieldsOk.l0] at H
   by_cases c2 : x7_1 < (l0.length : Int)
   ·rw [if_pos c2] at H
    have c2b0 : decide (x7_1 < (l0.length : Int)) = true := decide_eq_true c2
    clear c2
    by_cases c3 : 0 ≤ x7_1
    ·rw [if_pos c3] at H
     have c3b0 : decide (0 ≤ x7_1) = true := decide_eq_true c3
     clear c3
     by_cases c4 : x7_1 < (l0.length : Int)
     ·rw [if_pos c4] at H
      have c4b0 : decide (x7_1 < (l0.length : Int)) = true := decide_eq_true c4
      clear c4
      have p202 : 0 ≤ (x7_1 : Int) := of_decide_eq_true ‹_›
      have q202 : x7_1 < (l0.length : Int) := of_decide_eq_true ‹_›
      obtain ⟨ad202, e202, hx202_0, hx202_1⟩ := at_T101 HR0.out x7_1 p202 q202
      cases e202
      replace hx202_0 := (HB.out.cell (zq8 w _ hx202_0)).trans hx202_0
      replace hx202_1 := (HB.out.cell (zq8 w _ hx202_1)).trans hx202_1
      replace p202 := eq_true p202
      replace q202 := eq_true q202
      by_cases c5 : (((rd_T101 l0 x7_1).f0).size : Int) > 40
      ·rw [if_pos c5] at H
       have c5b0 : decide (40 < (((rd_T101 l0 x7_1).f0).size : Int)) = true := decide_eq_true c5
       have c5b1 : decide (40 < ((rd_T101 l0 x7_1).f0).size) = true := decide_eq_true (by omega)
       clear c5
       obtain rfl := Option.some.inj H
       go_wp2_with (first | ((with_reducible refine zq25 (N := 4) rfl ?_); (try (refine gate_guard (by rfl) ?_; dsimp only)); refine bx 4 #[.string (⟨#[]⟩ : ByteArray), .string (⟨#[]⟩ : ByteArray)] 101 ?_; intro gb203 hg w6 hbox hb; have n0_ := zq9 (zq27 (by exact bl HB) hb); have n1_ := zq9 (hbox); have n2_ := zq9 ((by rw [hg]; exact (zq29 (by exact bl HB)) : w.heap.size ≤ gb203)); have n3_ := n2_; clear HB; have HB := n0_; have BK203 := n1_; have GW203 := n2_; have GE203 := n3_; clear n0_ n1_ n2_ n3_; clear hb hbox hg; have hcz7_0 : w6.cell? ⟨gb203, 0, none⟩ = some (.string (⟨#[]⟩ : ByteArray)) := bc BK203 0; have hcz7_1 : w6.cell? ⟨gb203, 1, none⟩ = some (.string (⟨#[]⟩ : ByteArray)) := bc BK203 1; have hfz7_0 := zq6 BK203.out 0; have hfz7_1 := zq6 BK203.out 1))
       repeat (go_quiet (first | ((with_reducible refine zq25 (N := 4) rfl ?_); (try (refine gate_guard (by rfl) ?_; dsimp only)); refine bx 4 #[.string (⟨#[]⟩ : ByteArray), .string (⟨#[]⟩ : ByteArray)] 101 ?_; intro gb203 hg w6 hbox hb; have n0_ := zq9 (zq27 (by exact bl HB) hb); have n1_ := zq9 (hbox); have n2_ := zq9 ((by rw [hg]; exact (zq29 (by exact bl HB)) : w.heap.size ≤ gb203)); have n3_ := n2_; clear HB; have HB := n0_; have BK203 := n1_; have GW203 := n2_; have GE203 := n3_; clear n0_ n1_ n2_ n3_; clear hb hbox hg; have hcz7_0 : w6.cell? ⟨gb203, 0, none⟩ = some (.string (⟨#[]⟩ : ByteArray)) := bc BK203 0; have hcz7_1 : w6.cell? ⟨gb203, 1, none⟩ = some (.string (⟨#[]⟩ : ByteArray)) := bc BK203 1; have hfz7_0 := zq6 BK203.out 0; have hfz7_1 := zq6 BK203.out 1)); try go_wp2_with (first | ((with_reducible refine zq25 (N := 4) rfl ?_); (try (refine gate_guard (by rfl) ?_; dsimp only)); refine bx 4 #[.string (⟨#[]⟩ : ByteArray), .string (⟨#[]⟩ : ByteArray)] 101 ?_; intro gb203 hg w6 hbox hb; have n0_ := zq9 (zq27 (by exact bl HB) hb); have n1_ := zq9 (hbox); have n2_ := zq9 ((by rw [hg]; exact (zq29 (by exact bl HB)) : w.heap.size ≤ gb203)); have n3_ := n2_; clear HB; have HB := n0_; have BK203 := n1_; have GW203 := n2_; have GE203 := n3_; clear n0_ n1_ n2_ n3_; clear hb hbox hg; have hcz7_0 : w6.cell? ⟨gb203, 0, none⟩ = some (.string (⟨#[]⟩ : ByteArray)) := bc BK203 0; have hcz7_1 : w6.cell? ⟨gb203, 1, none⟩ = some (.string (⟨#[]⟩ : ByteArray)) := bc BK203 1; have hfz7_0 := zq6 BK203.out 0; have hfz7_1 := zq6 BK203.out 1)))
       go_ret
       exact fz (by exact b1 HB GE203)
      ·rw [if_neg c5] at H
       have c5b0 : decide (40 < (((rd_T101 l0 x7_1).f0).size : Int)) = false := decide_eq_false c5
       have c5b1 : decide (40 < ((rd_T101 l0 x7_1).f0).size) = false := decide_eq_false (by omega)
       clear c5
       by_cases c8 : (((rd_T101 l0 x7_1).f1).size : Int) > 40
       ·rw [if_pos c8] at H
        have c8b0 : decide (40 < (((rd_T101 l0 x7_1).f1).size : Int)) = true := decide_eq_true c8
        have c8b1 : decide (40 < ((rd_T101 l0 x7_1).f1).size) = true := decide_eq_true (by omega)
        clear c8
        obtain rfl := Option.some.inj H
        go_wp2_with (first | ((with_reducible refine zq25 (N := 4) rfl ?_); (try (refine gate_guard (by rfl) ?_; dsimp only)); refine bx 4 #[.string (⟨#[]⟩ : ByteArray), .string (⟨#[]⟩ : ByteArray)] 101 ?_; intro gb203 hg w9 hbox hb; have n0_ := zq9 (zq27 (by exact bl HB) hb); have n1_ := zq9 (hbox); have n2_ := zq9 ((by rw [hg]; exact (zq29 (by exact bl HB)) : w.heap.size ≤ gb203)); have n3_ := n2_; clear HB; have HB := n0_; have BK203 := n1_; have GW203 := n2_; have GE203 := n3_; clear n0_ n1_ n2_ n3_; clear hb hbox hg; have hcz10_0 : w9.cell? ⟨gb203, 0, none⟩ = some (.string (⟨#[]⟩ : ByteArray)) := bc BK203 0; have hcz10_1 : w9.cell? ⟨gb203, 1, none⟩ = some (.string (⟨#[]⟩ : ByteArray)) := bc BK203 1; have hfz10_0 := zq6 BK203.out 0; have hfz10_1 := zq6 BK203.out 1))
        repeat (go_quiet (first | ((with_reducible refine zq25 (N := 4) rfl ?_); (try (refine gate_guard (by rfl) ?_; dsimp only)); refine bx 4 #[.string (⟨#[]⟩ : ByteArray), .string (⟨#[]⟩ : ByteArray)] 101 ?_; intro gb203 hg w9 hbox hb; have n0_ := zq9 (zq27 (by exact bl HB) hb); have n1_ := zq9 (hbox); have n2_ := zq9 ((by rw [hg]; exact (zq29 (by exact bl HB)) : w.heap.size ≤ gb203)); have n3_ := n2_; clear HB; have HB := n0_; have BK203 := n1_; have GW203 := n2_; have GE203 := n3_; clear n0_ n1_ n2_ n3_; clear hb hbox hg; have hcz10_0 : w9.cell? ⟨gb203, 0, none⟩ = some (.string (⟨#[]⟩ : ByteArray)) := bc BK203 0; have hcz10_1 : w9.cell? ⟨gb203, 1, none⟩ = some (.string (⟨#[]⟩ : ByteArray)) := bc BK203 1; have hfz10_0 := zq6 BK203.out 0; have hfz10_1 := zq6 BK203.out 1)); try go_wp2_with (first | ((with_reducible refine zq25 (N := 4) rfl ?_); (try (refine gate_guard (by rfl) ?_; dsimp only)); refine bx 4 #[.string (⟨#[]⟩ : ByteArray), .string (⟨#[]⟩ : ByteArray)] 101 ?_; intro gb203 hg w9 hbox hb; have n0_ := zq9 (zq27 (by exact bl HB) hb); have n1_ := zq9 (hbox); have n2_ := zq9 ((by rw [hg]; exact (zq29 (by exact bl HB)) : w.heap.size ≤ gb203)); have n3_ := n2_; clear HB; have HB := n0_; have BK203 := n1_; have GW203 := n2_; have GE203 := n3_; clear n0_ n1_ n2_ n3_; clear hb hbox hg; have hcz10_0 : w9.cell? ⟨gb203, 0, none⟩ = some (.string (⟨#[]⟩ : ByteArray)) := bc BK203 0; have hcz10_1 : w9.cell? ⟨gb203, 1, none⟩ = some (.string (⟨#[]⟩ : ByteArray)) := bc BK203 1; have hfz10_0 := zq6 BK203.out 0; have hfz10_1 := zq6 BK203.out 1)))
        go_ret
        exact fz (by exact b1 HB GE203)
       ·rw [if_neg c8] at H
        have c8b0 : decide (40 < (((rd_T101 l0 x7_1).f1).size : Int)) = false := decide_eq_false c8
        have c8b1 : decide (40 < ((rd_T101 l0 x7_1).f1).size) = false := decide_eq_false (by omega)
        clear c8
        by_cases c11 : x7_1 > 0
        ·rw [if_pos c11] at H
         have c11b0 : decide (0 < x7_1) = true := decide_eq_true c11
         clear c11
         obtain ⟨ji12, hji12⟩ : ∃ j_ : Int, (wrap64 (x7_1 - 1)) = j_ := ⟨_, rfl⟩
         replace H : (if 0 ≤ (ji12) then (if (ji12) < (l0.length : Int) then (if ((Op.bytesLess (((rd_T101 l0 (ji12)).f0).toList) (((rd_T101 l0 x7_1).f0).toList)) = true) then (impl_FieldsOk.l0 k1 l0 l0 (l0.length : Int) (wrap64 (x7_1 + 1))) else (some false)) else (none)) else (none)) = some r := by first | (rw [hji12] at H; exact H) | (simp only [hji12] at H ⊢; exact H)
         have hji12w : (IntKind.i64.wrap (x7_1 - 1)) = ji12 := (i64_w _).trans hji12
         by_cases c13 : 0 ≤ (ji12)
         ·rw [if_pos c13] at H
          have c13b0 : decide (0 ≤ (ji12)) = true := decide_eq_true c13
          clear c13
          by_cases c14 : (ji12) < (l0.length : Int)
          ·rw [if_pos c14] at H
           have c14b0 : decide ((ji12) < (l0.length : Int)) = true := decide_eq_true c14
           clear c14
           go_wp2_with (first | ((with_reducible refine zq25 (N := 4) rfl ?_); (try (refine gate_guard (by rfl) ?_; dsimp only)); refine bx 4 #[.string (⟨#[]⟩ : ByteArray), .string (⟨#[]⟩ : ByteArray)] 101 ?_; intro gb203 hg w16 hbox hb; have n0_ := zq9 (zq27 (by exact bl HB) hb); have n1_ := zq9 (hbox); have n2_ := zq9 ((by rw [hg]; exact (zq29 (by exact bl HB)) : w.heap.size ≤ gb203)); have n3_ := n2_; clear HB; have HB := n0_; have BK203 := n1_; have GW203 := n2_; have GE203 := n3_; clear n0_ n1_ n2_ n3_; clear hb hbox hg; have hcz17_0 : w16.cell? ⟨gb203, 0, none⟩ = some (.string (⟨#[]⟩ : ByteArray)) := bc BK203 0; have hcz17_1 : w16.cell? ⟨gb203, 1, none⟩ = some (.string (⟨#[]⟩ : ByteArray)) := bc BK203 1; have hfz17_0 := zq6 BK203.out 0; have hfz17_1 := zq6 BK203.out 1; have p204 : 0 ≤ ((ji12) : Int) := of_decide_eq_true ‹_›; have q204 : (ji12) < (l0.length : Int) := of_decide_eq_true ‹_›; obtain ⟨ad204, e204, hx204_0, hx204_1⟩ := at_T101 HR0.out (ji12) p204 q204; obtain rfl : ad202 = ad204 := (by injection e204); have hn204_0 : ad202.block ≠ gb203 := Nat.ne_of_lt (Nat.lt_of_lt_of_le (by have := zq8 _ _ hx204_0; first | rwa [add_block] at this | exact this) GW203.out); have hn204_1 : ad202.block ≠ gb203 := Nat.ne_of_lt (Nat.lt_of_lt_of_le (by have := zq8 _ _ hx204_0; first | rwa [add_block] at this | exact this) GW203.out); replace hx204_0 := (HB.out.cell (zq8 w _ hx204_0)).trans hx204_0; replace hx204_1 := (HB.out.cell (zq8 w _ hx204_1)).trans hx204_1; replace hx204_0 := (cell_far (p := ⟨gb203, 0, none⟩) (by first | (rw [add_block]; exact hn204_0) | (show (Addr.add _ _).block ≠ _; rw [add_block]; exact hn204_0) | exact hn204_0) (.string ((rd_T101 l0 x7_1).f0))).trans hx204_0; replace hx204_1 := (cell_far (p := ⟨gb203, 0, none⟩) (by first | (rw [add_block]; exact hn204_0) | (show (Addr.add _ _).block ≠ _; rw [add_block]; exact hn204_0) | exact hn204_0) (.string ((rd_T101 l0 x7_1).f0))).trans hx204_1; replace hx204_0 := (cell_far (p := ⟨gb203, 1, none⟩) (by first | (rw [add_block]; exact hn204_1) | (show (Addr.add _ _).block ≠ _; rw [add_block]; exact hn204_1) | exact hn204_1) (.string ((rd_T101 l0 x7_1).f1))).trans hx204_0; replace hx204_1 := (cell_far (p := ⟨gb203, 1, none⟩) (by first | (rw [add_block]; exact hn204_1) | (show (Addr.add _ _).block ≠ _; rw [add_block]; exact hn204_1) | exact hn204_1) (.string ((rd_T101 l0 x7_1).f1))).trans hx204_1; (try have hy204_0 := fun (n_ : Nat) => (show ((((w16.drewN n_).setCell ⟨gb203, 0, none⟩ (.string ((rd_T101 l0 x7_1).f0))).setCell ⟨gb203, 1, none⟩ (.string ((rd_T101 l0 x7_1).f1)))).cell? _ = some _ from hx204_0)); (try have hy204_1 := fun (n_ : Nat) => (show ((((w16.drewN n_).setCell ⟨gb203, 0, none⟩ (.string ((rd_T101 l0 x7_1).f0))).setCell ⟨gb203, 1, none⟩ (.string ((rd_T101 l0 x7_1).f1)))).cell? _ = some _ from hx204_1)); clear hn204_0; clear hn204_1; replace p204 := eq_true p204; replace q204 := eq_true q204))
           by_cases c15 : ((Op.bytesLess (((rd_T101 l0 (ji12)).f0).toList) (((rd_T101 l0 x7_1).f0).toList)) = true)
           ·rw [if_pos c15] at H
            have c15b0 : (Op.bytesLess (((rd_T101 l0 (ji12)).f0).toList) (((rd_T101 l0 x7_1).f0).toList)) = true := c15
            clear c15
            have H' := zq9 H
            clear H
            repeat (go_quiet (first | ((with_reducible refine zq25 (N := 4) rfl ?_); (try (refine gate_guard (by rfl) ?_; dsimp only)); refine bx 4 #[.string (⟨#[]⟩ : ByteArray), .string (⟨#[]⟩ : ByteArray)] 101 ?_; intro gb203 hg w16 hbox hb; have n0_ := zq9 (zq27 (by exact bl HB) hb); have n1_ := zq9 (hbox); have n2_ := zq9 ((by rw [hg]; exact (zq29 (by exact bl HB)) : w.heap.size ≤ gb203)); have n3_ := n2_; clear HB; have HB := n0_; have BK203 := n1_; have GW203 := n2_; have GE203 := n3_; clear n0_ n1_ n2_ n3_; clear hb hbox hg; have hcz17_0 : w16.cell? ⟨gb203, 0, none⟩ = some (.string (⟨#[]⟩ : ByteArray)) := bc BK203 0; have hcz17_1 : w16.cell? ⟨gb203, 1, none⟩ = some (.string (⟨#[]⟩ : ByteArray)) := bc BK203 1; have hfz17_0 := zq6 BK203.out 0; have hfz17_1 := zq6 BK203.out 1; have p204 : 0 ≤ ((ji12) : Int) := of_decide_eq_true ‹_›; have q204 : (ji12) < (l0.length : Int) := of_decide_eq_true ‹_›; obtain ⟨ad204, e204, hx204_0, hx204_1⟩ := at_T101 HR0.out (ji12) p204 q204; obtain rfl : ad202 = ad204 := (by injection e204); have hn204_0 : ad202.block ≠ gb203 := Nat.ne_of_lt (Nat.lt_of_lt_of_le (by have := zq8 _ _ hx204_0; first | rwa [add_block] at this | exact this) GW203.out); have hn204_1 : ad202.block ≠ gb203 := Nat.ne_of_lt (Nat.lt_of_lt_of_le (by have := zq8 _ _ hx204_0; first | rwa [add_block] at this | exact this) GW203.out); replace hx204_0 := (HB.out.cell (zq8 w _ hx204_0)).trans hx204_0; replace hx204_1 := (HB.out.cell (zq8 w _ hx204_1)).trans hx204_1; replace hx204_0 := (cell_far (p := ⟨gb203, 0, none⟩) (by first | (rw [add_block]; exact hn204_0) | (show (Addr.add _ _).block ≠ _; rw [add_block]; exact hn204_0) | exact hn204_0) (.string ((rd_T101 l0 x7_1).f0))).trans hx204_0; replace hx204_1 := (cell_far (p := ⟨gb203, 0, none⟩) (by first | (rw [add_block]; exact hn204_0) | (show (Addr.add _ _).block ≠ _; rw [add_block]; exact hn204_0) | exact hn204_0) (.string ((rd_T101 l0 x7_1).f0))).trans hx204_1; replace hx204_0 := (cell_far (p := ⟨gb203, 1, none⟩) (by first | (rw [add_block]; exact hn204_1) | (show (Addr.add _ _).block ≠ _; rw [add_block]; exact hn204_1) | exact hn204_1) (.string ((rd_T101 l0 x7_1).f1))).trans hx204_0; replace hx204_1 := (cell_far (p := ⟨gb203, 1, none⟩) (by first | (rw [add_block]; exact hn204_1) | (show (Addr.add _ _).block ≠ _; rw [add_block]; exact hn204_1) | exact hn204_1) (.string ((rd_T101 l0 x7_1).f1))).trans hx204_1; (try have hy204_0 := fun (n_ : Nat) => (show ((((w16.drewN n_).setCell ⟨gb203, 0, none⟩ (.string ((rd_T101 l0 x7_1).f0))).setCell ⟨gb203, 1, none⟩ (.string ((rd_T101 l0 x7_1).f1)))).cell? _ = some _ from hx204_0)); (try have hy204_1 := fun (n_ : Nat) => (show ((((w16.drewN n_).setCell ⟨gb203, 0, none⟩ (.string ((rd_T101 l0 x7_1).f0))).setCell ⟨gb203, 1, none⟩ (.string ((rd_T101 l0 x7_1).f1)))).cell? _ = some _ from hx204_1)); clear hn204_0; clear hn204_1; replace p204 := eq_true p204; replace q204 := eq_true q204)); try go_wp2_with (first | ((with_reducible refine zq25 (N := 4) rfl ?_); (try (refine gate_guard (by rfl) ?_; dsimp only)); refine bx 4 #[.string (⟨#[]⟩ : ByteArray), .string (⟨#[]⟩ : ByteArray)] 101 ?_; intro gb203 hg w16 hbox hb; have n0_ := zq9 (zq27 (by exact bl HB) hb); have n1_ := zq9 (hbox); have n2_ := zq9 ((by rw [hg]; exact (zq29 (by exact bl HB)) : w.heap.size ≤ gb203)); have n3_ := n2_; clear HB; have HB := n0_; have BK203 := n1_; have GW203 := n2_; have GE203 := n3_; clear n0_ n1_ n2_ n3_; clear hb hbox hg; have hcz17_0 : w16.cell? ⟨gb203, 0, none⟩ = some (.string (⟨#[]⟩ : ByteArray)) := bc BK203 0; have hcz17_1 : w16.cell? ⟨gb203, 1, none⟩ = some (.string (⟨#[]⟩ : ByteArray)) := bc BK203 1; have hfz17_0 := zq6 BK203.out 0; have hfz17_1 := zq6 BK203.out 1; have p204 : 0 ≤ ((ji12) : Int) := of_decide_eq_true ‹_›; have q204 : (ji12) < (l0.length : Int) := of_decide_eq_true ‹_›; obtain ⟨ad204, e204, hx204_0, hx204_1⟩ := at_T101 HR0.out (ji12) p204 q204; obtain rfl : ad202 = ad204 := (by injection e204); have hn204_0 : ad202.block ≠ gb203 := Nat.ne_of_lt (Nat.lt_of_lt_of_le (by have := zq8 _ _ hx204_0; first | rwa [add_block] at this | exact this) GW203.out); have hn204_1 : ad202.block ≠ gb203 := Nat.ne_of_lt (Nat.lt_of_lt_of_le (by have := zq8 _ _ hx204_0; first | rwa [add_block] at this | exact this) GW203.out); replace hx204_0 := (HB.out.cell (zq8 w _ hx204_0)).trans hx204_0; replace hx204_1 := (HB.out.cell (zq8 w _ hx204_1)).trans hx204_1; replace hx204_0 := (cell_far (p := ⟨gb203, 0, none⟩) (by first | (rw [add_block]; exact hn204_0) | (show (Addr.add _ _).block ≠ _; rw [add_block]; exact hn204_0) | exact hn204_0) (.string ((rd_T101 l0 x7_1).f0))).trans hx204_0; replace hx204_1 := (cell_far (p := ⟨gb203, 0, none⟩) (by first | (rw [add_block]; exact hn204_0) | (show (Addr.add _ _).block ≠ _; rw [add_block]; exact hn204_0) | exact hn204_0) (.string ((rd_T101 l0 x7_1).f0))).trans hx204_1; replace hx204_0 := (cell_far (p := ⟨gb203, 1, none⟩) (by first | (rw [add_block]; exact hn204_1) | (show (Addr.add _ _).block ≠ _; rw [add_block]; exact hn204_1) | exact hn204_1) (.string ((rd_T101 l0 x7_1).f1))).trans hx204_0; replace hx204_1 := (cell_far (p := ⟨gb203, 1, none⟩) (by first | (rw [add_block]; exact hn204_1) | (show (Addr.add _ _).block ≠ _; rw [add_block]; exact hn204_1) | exact hn204_1) (.string ((rd_T101 l0 x7_1).f1))).trans hx204_1; (try have hy204_0 := fun (n_ : Nat) => (show ((((w16.drewN n_).setCell ⟨gb203, 0, none⟩ (.string ((rd_T101 l0 x7_1).f0))).setCell ⟨gb203, 1, none⟩ (.string ((rd_T101 l0 x7_1).f1)))).cell? _ = some _ from hx204_0)); (try have hy204_1 := fun (n_ : Nat) => (show ((((w16.drewN n_).setCell ⟨gb203, 0, none⟩ (.string ((rd_T101 l0 x7_1).f0))).setCell ⟨gb203, 1, none⟩ (.string ((rd_T101 l0 x7_1).f1)))).cell? _ = some _ from hx204_1)); clear hn204_0; clear hn204_1; replace p204 := eq_true p204; replace q204 := eq_true q204)))
            go_roundg k1
            case measure => have := HK1.out; omega
            case rel => exact ⟨(wrap64 (x7_1 + 1)), (by first | rfl | (simp; done) | (simp [*]; done)), H', ⟨by have := HK1.out; omega⟩, ⟨by exact b1 HB GE203⟩⟩
           ·rw [if_neg c15] at H
            have c15b0 : (Op.bytesLess (((rd_T101 l0 (ji12)).f0).toList) (((rd_T101 l0 x7_1).f0).toList)) = false := by simpa using c15
            clear c15
            obtain rfl := Option.some.inj H
            repeat (go_quiet (first | ((with_reducible refine zq25 (N := 4) rfl ?_); (try (refine gate_guard (by rfl) ?_; dsimp only)); refine bx 4 #[.string (⟨#[]⟩ : ByteArray), .string (⟨#[]⟩ : ByteArray)] 101 ?_; intro gb203 hg w16 hbox hb; have n0_ := zq9 (zq27 (by exact bl HB) hb); have n1_ := zq9 (hbox); have n2_ := zq9 ((by rw [hg]; exact (zq29 (by exact bl HB)) : w.heap.size ≤ gb203)); have n3_ := n2_; clear HB; have HB := n0_; have BK203 := n1_; have GW203 := n2_; have GE203 := n3_; clear n0_ n1_ n2_ n3_; clear hb hbox hg; have hcz17_0 : w16.cell? ⟨gb203, 0, none⟩ = some (.string (⟨#[]⟩ : ByteArray)) := bc BK203 0; have hcz17_1 : w16.cell? ⟨gb203, 1, none⟩ = some (.string (⟨#[]⟩ : ByteArray)) := bc BK203 1; have hfz17_0 := zq6 BK203.out 0; have hfz17_1 := zq6 BK203.out 1; have p204 : 0 ≤ ((ji12) : Int) := of_decide_eq_true ‹_›; have q204 : (ji12) < (l0.length : Int) := of_decide_eq_true ‹_›; obtain ⟨ad204, e204, hx204_0, hx204_1⟩ := at_T101 HR0.out (ji12) p204 q204; obtain rfl : ad202 = ad204 := (by injection e204); have hn204_0 : ad202.block ≠ gb203 := Nat.ne_of_lt (Nat.lt_of_lt_of_le (by have := zq8 _ _ hx204_0; first | rwa [add_block] at this | exact this) GW203.out); have hn204_1 : ad202.block ≠ gb203 := Nat.ne_of_lt (Nat.lt_of_lt_of_le (by have := zq8 _ _ hx204_0; first | rwa [add_block] at this | exact this) GW203.out); replace hx204_0 := (HB.out.cell (zq8 w _ hx204_0)).trans hx204_0; replace hx204_1 := (HB.out.cell (zq8 w _ hx204_1)).trans hx204_1; replace hx204_0 := (cell_far (p := ⟨gb203, 0, none⟩) (by first | (rw [add_block]; exact hn204_0) | (show (Addr.add _ _).block ≠ _; rw [add_block]; exact hn204_0) | exact hn204_0) (.string ((rd_T101 l0 x7_1).f0))).trans hx204_0; replace hx204_1 := (cell_far (p := ⟨gb203, 0, none⟩) (by first | (rw [add_block]; exact hn204_0) | (show (Addr.add _ _).block ≠ _; rw [add_block]; exact hn204_0) | exact hn204_0) (.string ((rd_T101 l0 x7_1).f0))).trans hx204_1; replace hx204_0 := (cell_far (p := ⟨gb203, 1, none⟩) (by first | (rw [add_block]; exact hn204_1) | (show (Addr.add _ _).block ≠ _; rw [add_block]; exact hn204_1) | exact hn204_1) (.string ((rd_T101 l0 x7_1).f1))).trans hx204_0; replace hx204_1 := (cell_far (p := ⟨gb203, 1, none⟩) (by first | (rw [add_block]; exact hn204_1) | (show (Addr.add _ _).block ≠ _; rw [add_block]; exact hn204_1) | exact hn204_1) (.string ((rd_T101 l0 x7_1).f1))).trans hx204_1; (try have hy204_0 := fun (n_ : Nat) => (show ((((w16.drewN n_).setCell ⟨gb203, 0, none⟩ (.string ((rd_T101 l0 x7_1).f0))).setCell ⟨gb203, 1, none⟩ (.string ((rd_T101 l0 x7_1).f1)))).cell? _ = some _ from hx204_0)); (try have hy204_1 := fun (n_ : Nat) => (show ((((w16.drewN n_).setCell ⟨gb203, 0, none⟩ (.string ((rd_T101 l0 x7_1).f0))).setCell ⟨gb203, 1, none⟩ (.string ((rd_T101 l0 x7_1).f1)))).cell? _ = some _ from hx204_1)); clear hn204_0; clear hn204_1; replace p204 := eq_true p204; replace q204 := eq_true q204)); try go_wp2_with (first | ((with_reducible refine zq25 (N := 4) rfl ?_); (try (refine gate_guard (by rfl) ?_; dsimp only)); refine bx 4 #[.string (⟨#[]⟩ : ByteArray), .string (⟨#[]⟩ : ByteArray)] 101 ?_; intro gb203 hg w16 hbox hb; have n0_ := zq9 (zq27 (by exact bl HB) hb); have n1_ := zq9 (hbox); have n2_ := zq9 ((by rw [hg]; exact (zq29 (by exact bl HB)) : w.heap.size ≤ gb203)); have n3_ := n2_; clear HB; have HB := n0_; have BK203 := n1_; have GW203 := n2_; have GE203 := n3_; clear n0_ n1_ n2_ n3_; clear hb hbox hg; have hcz17_0 : w16.cell? ⟨gb203, 0, none⟩ = some (.string (⟨#[]⟩ : ByteArray)) := bc BK203 0; have hcz17_1 : w16.cell? ⟨gb203, 1, none⟩ = some (.string (⟨#[]⟩ : ByteArray)) := bc BK203 1; have hfz17_0 := zq6 BK203.out 0; have hfz17_1 := zq6 BK203.out 1; have p204 : 0 ≤ ((ji12) : Int) := of_decide_eq_true ‹_›; have q204 : (ji12) < (l0.length : Int) := of_decide_eq_true ‹_›; obtain ⟨ad204, e204, hx204_0, hx204_1⟩ := at_T101 HR0.out (ji12) p204 q204; obtain rfl : ad202 = ad204 := (by injection e204); have hn204_0 : ad202.block ≠ gb203 := Nat.ne_of_lt (Nat.lt_of_lt_of_le (by have := zq8 _ _ hx204_0; first | rwa [add_block] at this | exact this) GW203.out); have hn204_1 : ad202.block ≠ gb203 := Nat.ne_of_lt (Nat.lt_of_lt_of_le (by have := zq8 _ _ hx204_0; first | rwa [add_block] at this | exact this) GW203.out); replace hx204_0 := (HB.out.cell (zq8 w _ hx204_0)).trans hx204_0; replace hx204_1 := (HB.out.cell (zq8 w _ hx204_1)).trans hx204_1; replace hx204_0 := (cell_far (p := ⟨gb203, 0, none⟩) (by first | (rw [add_block]; exact hn204_0) | (show (Addr.add _ _).block ≠ _; rw [add_block]; exact hn204_0) | exact hn204_0) (.string ((rd_T101 l0 x7_1).f0))).trans hx204_0; replace hx204_1 := (cell_far (p := ⟨gb203, 0, none⟩) (by first | (rw [add_block]; exact hn204_0) | (show (Addr.add _ _).block ≠ _; rw [add_block]; exact hn204_0) | exact hn204_0) (.string ((rd_T101 l0 x7_1).f0))).trans hx204_1; replace hx204_0 := (cell_far (p := ⟨gb203, 1, none⟩) (by first | (rw [add_block]; exact hn204_1) | (show (Addr.add _ _).block ≠ _; rw [add_block]; exact hn204_1) | exact hn204_1) (.string ((rd_T101 l0 x7_1).f1))).trans hx204_0; replace hx204_1 := (cell_far (p := ⟨gb203, 1, none⟩) (by first | (rw [add_block]; exact hn204_1) | (show (Addr.add _ _).block ≠ _; rw [add_block]; exact hn204_1) | exact hn204_1) (.string ((rd_T101 l0 x7_1).f1))).trans hx204_1; (try have hy204_0 := fun (n_ : Nat) => (show ((((w16.drewN n_).setCell ⟨gb203, 0, none⟩ (.string ((rd_T101 l0 x7_1).f0))).setCell ⟨gb203, 1, none⟩ (.string ((rd_T101 l0 x7_1).f1)))).cell? _ = some _ from hx204_0)); (try have hy204_1 := fun (n_ : Nat) => (show ((((w16.drewN n_).setCell ⟨gb203, 0, none⟩ (.string ((rd_T101 l0 x7_1).f0))).setCell ⟨gb203, 1, none⟩ (.string ((rd_T101 l0 x7_1).f1)))).cell? _ = some _ from hx204_1)); clear hn204_0; clear hn204_1; replace p204 := eq_true p204; replace q204 := eq_true q204)))
            go_ret
            exact ⟨by first | rfl | (simp [errW_none, errW_some] <;> rfl) | (simp only [← hji12]; first | rfl | (simp [errW_none, errW_some] <;> rfl)) | (simp [*, errW_none, errW_some] <;> rfl), by exact b1 HB GE203⟩
          ·rw [if_neg c14] at H
           exact absurd H (by simp)
         ·rw [if_neg c13] at H
          exact absurd H (by simp)
        ·rw [if_neg c11] at H
         have c11b0 : decide (0 < x7_1) = false := decide_eq_false c11
         clear c11
         have H' := zq9 H
         clear H
         go_wp2_with (first | ((with_reducible refine zq25 (N := 4) rfl ?_); (try (refine gate_guard (by rfl) ?_; dsimp only)); refine bx 4 #[.string (⟨#[]⟩ : ByteArray), .string (⟨#[]⟩ : ByteArray)] 101 ?_; intro gb203 hg w20 hbox hb; have n0_ := zq9 (zq27 (by exact bl HB) hb); have n1_ := zq9 (hbox); have n2_ := zq9 ((by rw [hg]; exact (zq29 (by exact bl HB)) : w.heap.size ≤ gb203)); have n3_ := n2_; clear HB; have HB := n0_; have BK203 := n1_; have GW203 := n2_; have GE203 := n3_; clear n0_ n1_ n2_ n3_; clear hb hbox hg; have hcz21_0 : w20.cell? ⟨gb203, 0, none⟩ = some (.string (⟨#[]⟩ : ByteArray)) := bc BK203 0; have hcz21_1 : w20.cell? ⟨gb203, 1, none⟩ = some (.string (⟨#[]⟩ : ByteArray)) := bc BK203 1; have hfz21_0 := zq6 BK203.out 0; have hfz21_1 := zq6 BK203.out 1))
         repeat (go_quiet (first | ((with_reducible refine zq25 (N := 4) rfl ?_); (try (refine gate_guard (by rfl) ?_; dsimp only)); refine bx 4 #[.string (⟨#[]⟩ : ByteArray), .string (⟨#[]⟩ : ByteArray)] 101 ?_; intro gb203 hg w20 hbox hb; have n0_ := zq9 (zq27 (by exact bl HB) hb); have n1_ := zq9 (hbox); have n2_ := zq9 ((by rw [hg]; exact (zq29 (by exact bl HB)) : w.heap.size ≤ gb203)); have n3_ := n2_; clear HB; have HB := n0_; have BK203 := n1_; have GW203 := n2_; have GE203 := n3_; clear n0_ n1_ n2_ n3_; clear hb hbox hg; have hcz21_0 : w20.cell? ⟨gb203, 0, none⟩ = some (.string (⟨#[]⟩ : ByteArray)) := bc BK203 0; have hcz21_1 : w20.cell? ⟨gb203, 1, none⟩ = some (.string (⟨#[]⟩ : ByteArray)) := bc BK203 1; have hfz21_0 := zq6 BK203.out 0; have hfz21_1 := zq6 BK203.out 1)); try go_wp2_with (first | ((with_reducible refine zq25 (N := 4) rfl ?_); (try (refine gate_guard (by rfl) ?_; dsimp only)); refine bx 4 #[.string (⟨#[]⟩ : ByteArray), .string (⟨#[]⟩ : ByteArray)] 101 ?_; intro gb203 hg w20 hbox hb; have n0_ := zq9 (zq27 (by exact bl HB) hb); have n1_ := zq9 (hbox); have n2_ := zq9 ((by rw [hg]; exact (zq29 (by exact bl HB)) : w.heap.size ≤ gb203)); have n3_ := n2_; clear HB; have HB := n0_; have BK203 := n1_; have GW203 := n2_; have GE203 := n3_; clear n0_ n1_ n2_ n3_; clear hb hbox hg; have hcz21_0 : w20.cell? ⟨gb203, 0, none⟩ = some (.string (⟨#[]⟩ : ByteArray)) := bc BK203 0; have hcz21_1 : w20.cell? ⟨gb203, 1, none⟩ = some (.string (⟨#[]⟩ : ByteArray)) := bc BK203 1; have hfz21_0 := zq6 BK203.out 0; have hfz21_1 := zq6 BK203.out 1)))
         go_roundg k1
         case measure => have := HK1.out; omega
         case rel => exact ⟨(wrap64 (x7_1 + 1)), (by first | rfl | (simp; done) | (simp [*]; done)), H', ⟨by have := HK1.out; omega⟩, ⟨by exact b1 HB GE203⟩⟩
     ·rw [if_neg c4] at H
      exact absurd H (by simp)
    ·rw [if_neg c3] at H
     exact absurd H (by simp)
   ·rw [if_neg c2] at H
    have c2b0 : decide (x7_1 < (l0.length : Int)) = false := decide_eq_false c2
    clear c2
    obtain rfl := Option.some.inj H
    go_wp2
    repeat (go_quiet (fail); try go_wp2)
    go_ret
    exact fz (by exact bl HB)
set_option maxHeartbeats 8000000 in
set_option maxRecDepth 100000 in
theorem impl_EntryOk.calls (k : Nat) (a0_0 : ByteArray) (a0_1 : Int) (a0_2 : Int) (a0_3 : ByteArray) (A0_4 : Option Addr) (c0_4 : Nat) (l0_4 : List ByteArray) (A0_5 : Option Addr) (c0_5 : Nat) (l0_5 : List (S99)) (A0_6 : Option Addr) (c0_6 : Nat) (l0_6 : List (S101)) (r : Bool) (w : World) (hr0_4 : Kd.C Kd.string w A0_4 l0_4.length l0_4) (hc0_4 : l0_4.length ≤ c0_4) (hr0_5 : Kd.C k99 w A0_5 l0_5.length l0_5) (hc0_5 : l0_5.length ≤ c0_5) (hr0_6 : Kd.C k101 w A0_6 l0_6.length l0_6) (hc0_6 : l0_6.length ≤ c0_6) (h : impl_EntryOk.f k a0_0 a0_1 a0_2 a0_3 l0_4 l0_5 l0_6 = some r) :
  Calls Try.prog 13 #[.agg #[.string a0_0, .int .i64 a0_1, .int .i64 a0_2, .string a0_3, .slice A0_4 l0_4.length c0_4, .slice A0_5 l0_5.length c0_5, .slice A0_6 l0_6.length c0_6]] w fun e w' => e = .returned (.bool r) ∧ Below w.heap.size w w' := by
 have hu32 := Try.underlying32
 have HR0_4 := zq9 hr0_4
 have HC0_4 := zq9 hc0_4
 clear hr0_4 hc0_4
 have HR0_5 := zq9 hr0_5
 have HC0_5 := zq9 hc0_5
 clear hr0_5 hc0_5
 have HR0_6 := zq9 hr0_6
 have HC0_6 := zq9 hc0_6
 clear hr0_6 hc0_6
 have HB := zq9 (Below.refl w.heap.size w)
 have H : ((impl_keyOk.f a0_0).bind fun t206 => (if t206 = true then ((impl_within.f a0_1 0 2000000).bind fun t207 => (impl_EntryOk.j0 k (!t207) a0_0 a0_1 a0_2 a0_3 l0_4 l0_5 l0_6)) else (impl_EntryOk.j0 k true a0_0 a0_1 a0_2 a0_3 l0_4 l0_5 l0_6))) = some r := h
 clear h
 have HC2 := zq9 H
 clear H
 go_enter Try.func13, Try.ntmps13
 go_upto_region 1 with (first | ((with_reducible refine zq25 (N := 1) rfl ?_); refine bx 1 #[.string a0_0, .int .i64 a0_1, .int .i64 a0_2, .string a0_3, .slice A0_4 l0_4.length c0_4, .slice A0_5 l0_5.length c0_5, .slice A0_6 l0_6.length c0_6] 32 ?_; intro gb205 hg w3 hbox hb; have n0_ := zq9 (zq27 (by exact bl HB) hb); have n1_ := zq9 (hbox); have n2_ := zq9 ((by rw [hg]; exact (zq29 (by exact bl HB)) : w.heap.size ≤ gb205)); have n3_ := n2_; clear HB; have HB := n0_; have BK205 := n1_; have GW205 := n2_; have GE205 := n3_; clear n0_ n1_ n2_ n3_; clear hb hbox hg))
 repeat (go_quiet (first | ((with_reducible refine zq25 (N := 1) rfl ?_); refine bx 1 #[.string a0_0, .int .i64 a0_1, .int .i64 a0_2, .string a0_3, .slice A0_4 l0_4.length c0_4, .slice A0_5 l0_5.length c0_5, .slice A0_6 l0_6.length c0_6] 32 ?_; intro gb205 hg w3 hbox hb; have n0_ := zq9 (zq27 (by exact bl HB) hb); have n1_ := zq9 (hbox); have n2_ := zq9 ((by rw [hg]; exact (zq29 (by exact bl HB)) : w.heap.size ≤ gb205)); have n3_ := n2_; clear HB; have HB := n0_; have BK205 := n1_; have GW205 := n2_; have GE205 := n3_; clear n0_ n1_ n2_ n3_; clear hb hbox hg)); go_upto_region 1 with (first | ((with_reducible refine zq25 (N := 1) rfl ?_); refine bx 1 #[.string a0_0, .int .i64 a0_1, .int .i64 a0_2, .string a0_3, .slice A0_4 l0_4.length c0_4, .slice A0_5 l0_5.length c0_5, .slice A0_6 l0_6.length c0_6] 32 ?_; intro gb205 hg w3 hbox hb; have n0_ := zq9 (zq27 (by exact bl HB) hb); have n1_ := zq9 (hbox); have n2_ := zq9 ((by rw [hg]; exact (zq29 (by exact bl HB)) : w.heap.size ≤ gb205)); have n3_ := n2_; clear HB; have HB := n0_; have BK205 := n1_; have GW205 := n2_; have GE205 := n3_; clear n0_ n1_ n2_ n3_; clear hb hbox hg)))
 (try simp only [Act.put, zq0, zq1, zq2])
 go_cut [16] (fun v16 wc => ∃ (kq : Nat) (x16_1 : Bool), v16 = .bool x16_1 ∧ Aside0 (impl_EntryOk.j0 kq x16_1 a0_0 a0_1 a0_2 a0_3 l0_4 l0_5 l0_6 = some r) ∧ Aside0 (kq ≤ k) ∧ Aside0 (wc.heap[gb205]? = some (.cells #[.string a0_0, .int .i64 a0_1, .int .i64 a0_2, .string a0_3, (.slice A0_4 l0_4.length c0_4), (.slice A0_5 l0_5.length c0_5), (.slice A0_6 l0_6.length c0_6)] 32 (0, 0))) ∧ Aside0 (Below w.heap.size w wc))
 case first =>
  have H := HC2.out
  clear HC2
  replace H := Option.bind_eq_some_iff.mp H
  obtain ⟨t206, A40, H⟩ := H
  try dsimp only at H
  have A4 := zq9 A40
  clear A40
  have hcz7_0 : w3.cell? ⟨gb205, 0, none⟩ = some (.string a0_0) := bc BK205 0
  have hcz7_1 : w3.cell? ⟨gb205, 1, none⟩ = some (.int .i64 a0_1) := bc BK205 1
  have hcz7_2 : w3.cell? ⟨gb205, 2, none⟩ = some (.int .i64 a0_2) := bc BK205 2
  have hcz7_3 : w3.cell? ⟨gb205, 3, none⟩ = some (.string a0_3) := bc BK205 3
  have hcz7_4 : w3.cell? ⟨gb205, 4, none⟩ = some (.slice A0_4 l0_4.length c0_4) := bc BK205 4
  have hcz7_5 : w3.cell? ⟨gb205, 5, none⟩ = some (.slice A0_5 l0_5.length c0_5) := bc BK205 5
  have hcz7_6 : w3.cell? ⟨gb205, 6, none⟩ = some (.slice A0_6 l0_6.length c0_6) := bc BK205 6
  have hfz7_0 := zq6 BK205.out 0
  have hfz7_1 := zq6 BK205.out 1
  have hfz7_2 := zq6 BK205.out 2
  have hfz7_3 := zq6 BK205.out 3
  have hfz7_4 := zq6 BK205.out 4
  have hfz7_5 := zq6 BK205.out 5
  have hfz7_6 := zq6 BK205.out 6
  by_cases c5 : t206 = true
  ·subst c5
   have H1 : ((impl_within.f a0_1 0 2000000).bind fun t207 => (impl_EntryOk.j0 k (!t207) a0_0 a0_1 a0_2 a0_3 l0_4 l0_5 l0_6)) = some r := by rw [if_pos rfl] at H; exact H
   clear H
   have H := H1
   clear H1
   replace H := Option.bind_eq_some_iff.mp H
   obtain ⟨t207, A60, H⟩ := H
   try dsimp only at H
   have A6 := zq9 A60
   clear A60
   have H' := zq9 H
   clear H
   go_wp2_with (first | (go_at_call 48; (with_reducible refine (impl_keyOk.calls a0_0 true _ A4.out).mono ?_); rintro e w' ⟨rfl, ⟨nd, rfl⟩⟩; (try first | exact ⟨rfl, _, zq32 _ _ _⟩ | exact ⟨rfl, _, Eq.trans (zq32 _ _ _) (congrArg (World.drewN _) (Nat.add_assoc _ _ _))⟩)) | (go_at_call 49; (with_reducible refine (impl_within.calls a0_1 0 2000000 t207 _ A6.out).mono ?_); rintro e w' ⟨rfl, ⟨nd, rfl⟩⟩; (try first | exact ⟨rfl, _, zq32 _ _ _⟩ | exact ⟨rfl, _, Eq.trans (zq32 _ _ _) (congrArg (World.drewN _) (Nat.add_assoc _ _ _))⟩)))
   repeat (go_quiet (first | (go_at_call 48; (with_reducible refine (impl_keyOk.calls a0_0 true _ A4.out).mono ?_); rintro e w' ⟨rfl, ⟨nd, rfl⟩⟩; (try first | exact ⟨rfl, _, zq32 _ _ _⟩ | exact ⟨rfl, _, Eq.trans (zq32 _ _ _) (congrArg (World.drewN _) (Nat.add_assoc _ _ _))⟩)) | (go_at_call 49; (with_reducible refine (impl_within.calls a0_1 0 2000000 t207 _ A6.out).mono ?_); rintro e w' ⟨rfl, ⟨nd, rfl⟩⟩; (try first | exact ⟨rfl, _, zq32 _ _ _⟩ | exact ⟨rfl, _, Eq.trans (zq32 _ _ _) (congrArg (World.drewN _) (Nat.add_assoc _ _ _))⟩))); try go_wp2_with (first | (go_at_call 48; (with_reducible refine (impl_keyOk.calls a0_0 true _ A4.out).mono ?_); rintro e w' ⟨rfl, ⟨nd, rfl⟩⟩; (try first | exact ⟨rfl, _, zq32 _ _ _⟩ | exact ⟨rfl, _, Eq.trans (zq32 _ _ _) (congrArg (World.drewN _) (Nat.add_assoc _ _ _))⟩)) | (go_at_call 49; (with_reducible refine (impl_within.calls a0_1 0 2000000 t207 _ A6.out).mono ?_); rintro e w' ⟨rfl, ⟨nd, rfl⟩⟩; (try first | exact ⟨rfl, _, zq32 _ _ _⟩ | exact ⟨rfl, _, Eq.trans (zq32 _ _ _) (congrArg (World.drewN _) (Nat.add_assoc _ _ _))⟩))))
   go_meet
   case rel => exact ⟨_, (!t207), (by first | rfl | (simp; done) | (simp [*]; done)), H', ⟨by first | omega | exact Nat.le_refl _⟩, ⟨by refine bp ?_; exact BK205.out⟩, ⟨by exact b1 HB GE205⟩⟩
  ·replace c5 := Bool.eq_false_iff.mpr c5
   subst c5
   have H1 : (impl_EntryOk.j0 k true a0_0 a0_1 a0_2 a0_3 l0_4 l0_5 l0_6) = some r := by rw [if_neg (show ¬ (false = true) by decide)] at H; exact H
   clear H
   have H := H1
   clear H1
   have H' := zq9 H
   clear H
   go_wp2_with (first | (go_at_call 48; (with_reducible refine (impl_keyOk.calls a0_0 false _ A4.out).mono ?_); rintro e w' ⟨rfl, ⟨nd, rfl⟩⟩; (try first | exact ⟨rfl, _, zq32 _ _ _⟩ | exact ⟨rfl, _, Eq.trans (zq32 _ _ _) (congrArg (World.drewN _) (Nat.add_assoc _ _ _))⟩)))
   repeat (go_quiet (first | (go_at_call 48; (with_reducible refine (impl_keyOk.calls a0_0 false _ A4.out).mono ?_); rintro e w' ⟨rfl, ⟨nd, rfl⟩⟩; (try first | exact ⟨rfl, _, zq32 _ _ _⟩ | exact ⟨rfl, _, Eq.trans (zq32 _ _ _) (congrArg (World.drewN _) (Nat.add_assoc _ _ _))⟩))); try go_wp2_with (first | (go_at_call 48; (with_reducible refine (impl_keyOk.calls a0_0 false _ A4.out).mono ?_); rintro e w' ⟨rfl, ⟨nd, rfl⟩⟩; (try first | exact ⟨rfl, _, zq32 _ _ _⟩ | exact ⟨rfl, _, Eq.trans (zq32 _ _ _) (congrArg (World.drewN _) (Nat.add_assoc _ _ _))⟩))))
   go_meet
   case rel => exact ⟨_, (true), (by first | rfl | (simp; done) | (simp [*]; done)), H', ⟨by first | omega | exact Nat.le_refl _⟩, ⟨by refine bp ?_; exact BK205.out⟩, ⟨by exact b1 HB GE205⟩⟩
 case rest =>
  clear HC2
  try clear c1
  try clear p2
  try clear c5
  try clear hcz7_0
  try clear hcz7_1
  try clear hcz7_2
  try clear hcz7_3
  try clear hcz7_4
  try clear hcz7_5
  try clear hcz7_6
  try clear hcz8_0
  try clear hcz8_1
  try clear hcz8_2
  try clear hcz8_3
  try clear hcz8_4
  try clear hcz8_5
  try clear hcz8_6
  try clear hfz7_0
  try clear hfz7_1
  try clear hfz7_2
  try clear hfz7_3
  try clear hfz7_4
  try clear hfz7_5
  try clear hfz7_6
  try clear hfz8_0
  try clear hfz8_1
  try clear hfz8_2
  try clear hfz8_3
  try clear hfz8_4
  try clear hfz8_5
  try clear hfz8_6
  obtain ⟨kq, x16_1, rfl, HA, HJ1, BK205, HB⟩ := hcut
  cases kq with
  | zero => exact absurd HA.out (by simp [impl_EntryOk.j0])
  | succ kj1 =>
   have H := HA.out
   clear HA
   simp only [impl_EntryOk.j0] at H
   by_cases c9 : x16_1 = true
   ·subst c9
    have H1 : (some false) = some r := by rw [if_pos rfl] at H; exact H
    clear H
    have H := H1
    clear H1
    obtain rfl := Option.some.inj H
    go_wp2
    repeat (go_quiet (fail); try go_wp2)
    go_ret
    exact fz (by exact b1 HB GE205)
   ·replace c9 := Bool.eq_false_iff.mpr c9
    subst c9
    have H1 : (if a0_2 = 1 then (if (a0_3.size : Int) ≤ 40 then (if ((l0_4.length : Int) > 0) then (some false) else (if ((l0_5.length : Int) > 0) then (some false) else (some (!(decide ((l0_6.length : Int) > 0)))))) else (some false)) else (if a0_2 = 2 then (if (l0_4.length : Int) > 0 then ((impl_listOk.f kj1 l0_4).bind fun t208 => (if t208 = true then (if (¬ a0_3.toList = ([] : List UInt8)) then (some false) else (if ((l0_5.length : Int) > 0) then (some false) else (some (!(decide ((l0_6.length : Int) > 0)))))) else (some false))) else (some false)) else (if a0_2 = 3 then (if (l0_4.length : Int) > 0 then ((impl_SetOk.f kj1 l0_4).bind fun t209 => (if t209 = true then (if (¬ a0_3.toList = ([] : List UInt8)) then (some false) else (if ((l0_5.length : Int) > 0) then (some false) else (some (!(decide ((l0_6.length : Int) > 0)))))) else (some false))) else (some false)) else (if a0_2 = 4 then (if (l0_5.length : Int) > 0 then ((impl_ScoresOk.f kj1 l0_5).bind fun t210 => (if t210 = true then (if (¬ a0_3.toList = ([] : List UInt8)) then (some false) else (if ((l0_4.length : Int) > 0) then (some false) else (some (!(decide ((l0_6.length : Int) > 0)))))) else (some false))) else (some false)) else (if a0_2 = 5 then (if (l0_6.length : Int) > 0 then ((impl_FieldsOk.f kj1 l0_6).bind fun t211 => (if t211 = true then (if (¬ a0_3.toList = ([] : List UInt8)) then (some false) else (if ((l0_4.length : Int) > 0) then (some false) else (some (!(decide ((l0_5.length : Int) > 0)))))) else (some false))) else (some false)) else (some false)))))) = some r := by rw [if_neg (show ¬ (false = true) by decide)] at H; exact H
    clear H
    have H := H1
    clear H1
    have hcz13_0 : wc.cell? ⟨gb205, 0, none⟩ = some (.string a0_0) := bc BK205 0
    have hcz13_1 : wc.cell? ⟨gb205, 1, none⟩ = some (.int .i64 a0_1) := bc BK205 1
    have hcz13_2 : wc.cell? ⟨gb205, 2, none⟩ = some (.int .i64 a0_2) := bc BK205 2
    have hcz13_3 : wc.cell? ⟨gb205, 3, none⟩ = some (.string a0_3) := bc BK205 3
    have hcz13_4 : wc.cell? ⟨gb205, 4, none⟩ = some (.slice A0_4 l0_4.length c0_4) := bc BK205 4
    have hcz13_5 : wc.cell? ⟨gb205, 5, none⟩ = some (.slice A0_5 l0_5.length c0_5) := bc BK205 5
    have hcz13_6 : wc.cell? ⟨gb205, 6, none⟩ = some (.slice A0_6 l0_6.length c0_6) := bc BK205 6
    have hfz13_0 := zq6 BK205.out 0
    have hfz13_1 := zq6 BK205.out 1
    have hfz13_2 := zq6 BK205.out 2
    have hfz13_3 := zq6 BK205.out 3
    have hfz13_4 := zq6 BK205.out 4
    have hfz13_5 := zq6 BK205.out 5
    have hfz13_6 := zq6 BK205.out 6
    by_cases c10 : a0_2 = 1
    ·rw [if_pos c10] at H
     have c10b0 : (a0_2 == 1) = true := beq_iff_eq.mpr c10
     have c10b1 : (a0_2 != 1) = false := bne_eq_false_iff_eq.mpr c10
     clear c10
     go_wp2
     by_cases c11 : (a0_3.size : Int) ≤ 40
     ·rw [if_pos c11] at H
      have c11b0 : decide ((a0_3.size : Int) ≤ 40) = true := decide_eq_true c11
      have c11b1 : decide (a0_3.size ≤ 40) = true := decide_eq_true (by omega)
      clear c11
      by_cases c12 : ((l0_4.length : Int) > 0)
      ·rw [if_pos c12] at H
       have c12b0 : decide (0 < (l0_4.length : Int)) = true := decide_eq_true c12
       have c12b1 : decide (0 < l0_4.length) = true := decide_eq_true (by omega)
       clear c12
       obtain rfl := Option.some.inj H
       repeat (go_quiet (fail); try go_wp2)
       go_ret
       exact fz (by exact b1 HB GE205)
      ·rw [if_neg c12] at H
       have c12b0 : decide (0 < (l0_4.length : Int)) = false := decide_eq_false c12
       have c12b1 : decide (0 < l0_4.length) = false := decide_eq_false (by omega)
       clear c12
       by_cases c14 : ((l0_5.length : Int) > 0)
       ·rw [if_pos c14] at H
        have c14b0 : decide (0 < (l0_5.length : Int)) = true := decide_eq_true c14
        have c14b1 : decide (0 < l0_5.length) = true := decide_eq_true (by omega)
        clear c14
        obtain rfl := Option.some.inj H
        repeat (go_quiet (fail); try go_wp2)
        go_ret
        exact fz (by exact b1 HB GE205)
       ·rw [if_neg c14] at H
        have c14b0 : decide (0 < (l0_5.length : Int)) = false := decide_eq_false c14
        have c14b1 : decide (0 < l0_5.length) = false := decide_eq_false (by omega)
        clear c14
        obtain rfl := Option.some.inj H
        repeat (go_quiet (fail); try go_wp2)
        go_ret
        exact fz (by exact b1 HB GE205)
     ·rw [if_neg c11] at H
      have c11b0 : decide ((a0_3.size : Int) ≤ 40) = false := decide_eq_false c11
      have c11b1 : decide (a0_3.size ≤ 40) = false := decide_eq_false (by omega)
      clear c11
      obtain rfl := Option.some.inj H
      repeat (go_quiet (fail); try go_wp2)
      go_ret
      exact fz (by exact b1 HB GE205)
    ·rw [if_neg c10] at H
     have c10b0 : (a0_2 == 1) = false := beq_eq_false_iff_ne.mpr c10
     have c10b1 : (a0_2 != 1) = true := bne_iff_ne.mpr c10
     by_cases c18 : a0_2 = 2
     ·rw [if_pos c18] at H
      have c18b0 : (a0_2 == 2) = true := beq_iff_eq.mpr c18
      have c18b1 : (a0_2 != 2) = false := bne_eq_false_iff_eq.mpr c18
      clear c18
      by_cases c19 : (l0_4.length : Int) > 0
      ·rw [if_pos c19] at H
       have c19b0 : decide (0 < (l0_4.length : Int)) = true := decide_eq_true c19
       have c19b1 : decide (0 < l0_4.length) = true := decide_eq_true (by omega)
       clear c19
       replace H := Option.bind_eq_some_iff.mp H
       obtain ⟨t208, A200, H⟩ := H
       try dsimp only at H
       have A20 := zq9 A200
       clear A200
       go_wp2_with (first | (go_at_call 50; (with_reducible refine (impl_listOk.calls kj1 _ _ l0_4 t208 _ ?side1 ?side2 A20.out).mono ?_); (case side1 => exact kc HR0_4 HB); (case side2 => exact HC0_4.out); rintro e w' ⟨rfl, ⟨nd, rfl⟩⟩; (try first | exact ⟨rfl, _, zq32 _ _ _⟩ | exact ⟨rfl, _, Eq.trans (zq32 _ _ _) (congrArg (World.drewN _) (Nat.add_assoc _ _ _))⟩)))
       by_cases c21 : t208 = true
       ·subst c21
        have H1 : (if (¬ a0_3.toList = ([] : List UInt8)) then (some false) else (if ((l0_5.length : Int) > 0) then (some false) else (some (!(decide ((l0_6.length : Int) > 0)))))) = some r := by rw [if_pos rfl] at H; exact H
        clear H
        have H := H1
        clear H1
        by_cases c22 : (¬ a0_3.toList = ([] : List UInt8))
        ·rw [if_pos c22] at H
         have c22b0 : (a0_3.toList == ([] : List UInt8)) = false := beq_eq_false_iff_ne.mpr c22
         have c22b1 : (a0_3.toList != ([] : List UInt8)) = true := bne_iff_ne.mpr c22
         clear c22
         obtain rfl := Option.some.inj H
         repeat (go_quiet (first | (go_at_call 50; (with_reducible refine (impl_listOk.calls kj1 _ _ l0_4 true _ ?side1 ?side2 A20.out).mono ?_); (case side1 => exact kc HR0_4 HB); (case side2 => exact HC0_4.out); rintro e w' ⟨rfl, ⟨nd, rfl⟩⟩; (try first | exact ⟨rfl, _, zq32 _ _ _⟩ | exact ⟨rfl, _, Eq.trans (zq32 _ _ _) (congrArg (World.drewN _) (Nat.add_assoc _ _ _))⟩))); try go_wp2_with (first | (go_at_call 50; (with_reducible refine (impl_listOk.calls kj1 _ _ l0_4 true _ ?side1 ?side2 A20.out).mono ?_); (case side1 => exact kc HR0_4 HB); (case side2 => exact HC0_4.out); rintro e w' ⟨rfl, ⟨nd, rfl⟩⟩; (try first | exact ⟨rfl, _, zq32 _ _ _⟩ | exact ⟨rfl, _, Eq.trans (zq32 _ _ _) (congrArg (World.drewN _) (Nat.add_assoc _ _ _))⟩))))
         go_ret
         exact fz (by exact b1 HB GE205)
        ·rw [if_neg c22] at H
         have c22b0 : (a0_3.toList == ([] : List UInt8)) = true := beq_iff_eq.mpr (Decidable.not_not.mp c22)
         have c22b1 : (a0_3.toList != ([] : List UInt8)) = false := bne_eq_false_iff_eq.mpr (Decidable.not_not.mp c22)
         by_cases c24 : ((l0_5.length : Int) > 0)
         ·rw [if_pos c24] at H
          have c24b0 : decide (0 < (l0_5.length : Int)) = true := decide_eq_true c24
          have c24b1 : decide (0 < l0_5.length) = true := decide_eq_true (by omega)
          clear c24
          obtain rfl := Option.some.inj H
          repeat (go_quiet (first | (go_at_call 50; (with_reducible refine (impl_listOk.calls kj1 _ _ l0_4 true _ ?side1 ?side2 A20.out).mono ?_); (case side1 => exact kc HR0_4 HB); (case side2 => exact HC0_4.out); rintro e w' ⟨rfl, ⟨nd, rfl⟩⟩; (try first | exact ⟨rfl, _, zq32 _ _ _⟩ | exact ⟨rfl, _, Eq.trans (zq32 _ _ _) (congrArg (World.drewN _) (Nat.add_assoc _ _ _))⟩))); try go_wp2_with (first | (go_at_call 50; (with_reducible refine (impl_listOk.calls kj1 _ _ l0_4 true _ ?side1 ?side2 A20.out).mono ?_); (case side1 => exact kc HR0_4 HB); (case side2 => exact HC0_4.out); rintro e w' ⟨rfl, ⟨nd, rfl⟩⟩; (try first | exact ⟨rfl, _, zq32 _ _ _⟩ | exact ⟨rfl, _, Eq.trans (zq32 _ _ _) (congrArg (World.drewN _) (Nat.add_assoc _ _ _))⟩))))
          go_ret
          exact fz (by exact b1 HB GE205)
         ·rw [if_neg c24] at H
          have c24b0 : decide (0 < (l0_5.length : Int)) = false := decide_eq_false c24
          have c24b1 : decide (0 < l0_5.length) = false := decide_eq_false (by omega)
          clear c24
          obtain rfl := Option.some.inj H
          repeat (go_quiet (first | (go_at_call 50; (with_reducible refine (impl_listOk.calls kj1 _ _ l0_4 true _ ?side1 ?side2 A20.out).mono ?_); (case side1 => exact kc HR0_4 HB); (case side2 => exact HC0_4.out); rintro e w' ⟨rfl, ⟨nd, rfl⟩⟩; (try first | exact ⟨rfl, _, zq32 _ _ _⟩ | exact ⟨rfl, _, Eq.trans (zq32 _ _ _) (congrArg (World.drewN _) (Nat.add_assoc _ _ _))⟩))); try go_wp2_with (first | (go_at_call 50; (with_reducible refine (impl_listOk.calls kj1 _ _ l0_4 true _ ?side1 ?side2 A20.out).mono ?_); (case side1 => exact kc HR0_4 HB); (case side2 => exact HC0_4.out); rintro e w' ⟨rfl, ⟨nd, rfl⟩⟩; (try first | exact ⟨rfl, _, zq32 _ _ _⟩ | exact ⟨rfl, _, Eq.trans (zq32 _ _ _) (congrArg (World.drewN _) (Nat.add_assoc _ _ _))⟩))))
          go_ret
          exact fz (by exact b1 HB GE205)
       ·replace c21 := Bool.eq_false_iff.mpr c21
        subst c21
        have H1 : (some false) = some r := by rw [if_neg (show ¬ (false = true) by decide)] at H; exact H
        clear H
        have H := H1
        clear H1
        obtain rfl := Option.some.inj H
        repeat (go_quiet (first | (go_at_call 50; (with_reducible refine (impl_listOk.calls kj1 _ _ l0_4 false _ ?side1 ?side2 A20.out).mono ?_); (case side1 => exact kc HR0_4 HB); (case side2 => exact HC0_4.out); rintro e w' ⟨rfl, ⟨nd, rfl⟩⟩; (try first | exact ⟨rfl, _, zq32 _ _ _⟩ | exact ⟨rfl, _, Eq.trans (zq32 _ _ _) (congrArg (World.drewN _) (Nat.add_assoc _ _ _))⟩))); try go_wp2_with (first | (go_at_call 50; (with_reducible refine (impl_listOk.calls kj1 _ _ l0_4 false _ ?side1 ?side2 A20.out).mono ?_); (case side1 => exact kc HR0_4 HB); (case side2 => exact HC0_4.out); rintro e w' ⟨rfl, ⟨nd, rfl⟩⟩; (try first | exact ⟨rfl, _, zq32 _ _ _⟩ | exact ⟨rfl, _, Eq.trans (zq32 _ _ _) (congrArg (World.drewN _) (Nat.add_assoc _ _ _))⟩))))
        go_ret
        exact fz (by exact b1 HB GE205)
      ·rw [if_neg c19] at H
       have c19b0 : decide (0 < (l0_4.length : Int)) = false := decide_eq_false c19
       have c19b1 : decide (0 < l0_4.length) = false := decide_eq_false (by omega)
       clear c19
       obtain rfl := Option.some.inj H
       go_wp2
       repeat (go_quiet (fail); try go_wp2)
       go_ret
       exact fz (by exact b1 HB GE205)
     ·rw [if_neg c18] at H
      have c18b0 : (a0_2 == 2) = false := beq_eq_false_iff_ne.mpr c18
      have c18b1 : (a0_2 != 2) = true := bne_iff_ne.mpr c18
      by_cases c29 : a0_2 = 3
      ·rw [if_pos c29] at H
       have c29b0 : (a0_2 == 3) = true := beq_iff_eq.mpr c29
       have c29b1 : (a0_2 != 3) = false := bne_eq_false_iff_eq.mpr c29
       clear c29
       by_cases c30 : (l0_4.length : Int) > 0
       ·rw [if_pos c30] at H
        have c30b0 : decide (0 < (l0_4.length : Int)) = true := decide_eq_true c30
        have c30b1 : decide (0 < l0_4.length) = true := decide_eq_true (by omega)
        clear c30
        replace H := Option.bind_eq_some_iff.mp H
        obtain ⟨t209, A310, H⟩ := H
        try dsimp only at H
        have A31 := zq9 A310
        clear A310
        go_wp2_with (first | (go_at_call 51; (with_reducible refine (impl_SetOk.calls kj1 _ _ l0_4 t209 _ ?side1 ?side2 A31.out).mono ?_); (case side1 => exact kc HR0_4 HB); (case side2 => exact HC0_4.out); rintro e w' ⟨rfl, ⟨nd, rfl⟩⟩; (try first | exact ⟨rfl, _, zq32 _ _ _⟩ | exact ⟨rfl, _, Eq.trans (zq32 _ _ _) (congrArg (World.drewN _) (Nat.add_assoc _ _ _))⟩)))
        by_cases c32 : t209 = true
        ·subst c32
         have H1 : (if (¬ a0_3.toList = ([] : List UInt8)) then (some false) else (if ((l0_5.length : Int) > 0) then (some false) else (some (!(decide ((l0_6.length : Int) > 0)))))) = some r := by rw [if_pos rfl] at H; exact H
         clear H
         have H := H1
         clear H1
         by_cases c33 : (¬ a0_3.toList = ([] : List UInt8))
         ·rw [if_pos c33] at H
          have c33b0 : (a0_3.toList == ([] : List UInt8)) = false := beq_eq_false_iff_ne.mpr c33
          have c33b1 : (a0_3.toList != ([] : List UInt8)) = true := bne_iff_ne.mpr c33
          clear c33
          obtain rfl := Option.some.inj H
          repeat (go_quiet (first | (go_at_call 51; (with_reducible refine (impl_SetOk.calls kj1 _ _ l0_4 true _ ?side1 ?side2 A31.out).mono ?_); (case side1 => exact kc HR0_4 HB); (case side2 => exact HC0_4.out); rintro e w' ⟨rfl, ⟨nd, rfl⟩⟩; (try first | exact ⟨rfl, _, zq32 _ _ _⟩ | exact ⟨rfl, _, Eq.trans (zq32 _ _ _) (congrArg (World.drewN _) (Nat.add_assoc _ _ _))⟩))); try go_wp2_with (first | (go_at_call 51; (with_reducible refine (impl_SetOk.calls kj1 _ _ l0_4 true _ ?side1 ?side2 A31.out).mono ?_); (case side1 => exact kc HR0_4 HB); (case side2 => exact HC0_4.out); rintro e w' ⟨rfl, ⟨nd, rfl⟩⟩; (try first | exact ⟨rfl, _, zq32 _ _ _⟩ | exact ⟨rfl, _, Eq.trans (zq32 _ _ _) (congrArg (World.drewN _) (Nat.add_assoc _ _ _))⟩))))
          go_ret
          exact fz (by exact b1 HB GE205)
         ·rw [if_neg c33] at H
          have c33b0 : (a0_3.toList == ([] : List UInt8)) = true := beq_iff_eq.mpr (Decidable.not_not.mp c33)
          have c33b1 : (a0_3.toList != ([] : List UInt8)) = false := bne_eq_false_iff_eq.mpr (Decidable.not_not.mp c33)
          by_cases c35 : ((l0_5.length : Int) > 0)
          ·rw [if_pos c35] at H
           have c35b0 : decide (0 < (l0_5.length : Int)) = true := decide_eq_true c35
           have c35b1 : decide (0 < l0_5.length) = true := decide_eq_true (by omega)
           clear c35
           obtain rfl := Option.some.inj H
           repeat (go_quiet (first | (go_at_call 51; (with_reducible refine (impl_SetOk.calls kj1 _ _ l0_4 true _ ?side1 ?side2 A31.out).mono ?_); (case side1 => exact kc HR0_4 HB); (case side2 => exact HC0_4.out); rintro e w' ⟨rfl, ⟨nd, rfl⟩⟩; (try first | exact ⟨rfl, _, zq32 _ _ _⟩ | exact ⟨rfl, _, Eq.trans (zq32 _ _ _) (congrArg (World.drewN _) (Nat.add_assoc _ _ _))⟩))); try go_wp2_with (first | (go_at_call 51; (with_reducible refine (impl_SetOk.calls kj1 _ _ l0_4 true _ ?side1 ?side2 A31.out).mono ?_); (case side1 => exact kc HR0_4 HB); (case side2 => exact HC0_4.out); rintro e w' ⟨rfl, ⟨nd, rfl⟩⟩; (try first | exact ⟨rfl, _, zq32 _ _ _⟩ | exact ⟨rfl, _, Eq.trans (zq32 _ _ _) (congrArg (World.drewN _) (Nat.add_assoc _ _ _))⟩))))
           go_ret
           exact fz (by exact b1 HB GE205)
          ·rw [if_neg c35] at H
           have c35b0 : decide (0 < (l0_5.length : Int)) = false := decide_eq_false c35
           have c35b1 : decide (0 < l0_5.length) = false := decide_eq_false (by omega)
           clear c35
           obtain rfl := Option.some.inj H
           repeat (go_quiet (first | (go_at_call 51; (with_reducible refine (impl_SetOk.calls kj1 _ _ l0_4 true _ ?side1 ?side2 A31.out).mono ?_); (case side1 => exact kc HR0_4 HB); (case side2 => exact HC0_4.out); rintro e w' ⟨rfl, ⟨nd, rfl⟩⟩; (try first | exact ⟨rfl, _, zq32 _ _ _⟩ | exact ⟨rfl, _, Eq.trans (zq32 _ _ _) (congrArg (World.drewN _) (Nat.add_assoc _ _ _))⟩))); try go_wp2_with (first | (go_at_call 51; (with_reducible refine (impl_SetOk.calls kj1 _ _ l0_4 true _ ?side1 ?side2 A31.out).mono ?_); (case side1 => exact kc HR0_4 HB); (case side2 => exact HC0_4.out); rintro e w' ⟨rfl, ⟨nd, rfl⟩⟩; (try first | exact ⟨rfl, _, zq32 _ _ _⟩ | exact ⟨rfl, _, Eq.trans (zq32 _ _ _) (congrArg (World.drewN _) (Nat.add_assoc _ _ _))⟩))))
           go_ret
           exact fz (by exact b1 HB GE205)
        ·replace c32 := Bool.eq_false_iff.mpr c32
         subst c32
         have H1 : (some false) = some r := by rw [if_neg (show ¬ (false = true) by decide)] at H; exact H
         clear H
         have H := H1
         clear H1
         obtain rfl := Option.some.inj H
         repeat (go_quiet (first | (go_at_call 51; (with_reducible refine (impl_SetOk.calls kj1 _ _ l0_4 false _ ?side1 ?side2 A31.out).mono ?_); (case side1 => exact kc HR0_4 HB); (case side2 => exact HC0_4.out); rintro e w' ⟨rfl, ⟨nd, rfl⟩⟩; (try first | exact ⟨rfl, _, zq32 _ _ _⟩ | exact ⟨rfl, _, Eq.trans (zq32 _ _ _) (congrArg (World.drewN _) (Nat.add_assoc _ _ _))⟩))); try go_wp2_with (first | (go_at_call 51; (with_reducible refine (impl_SetOk.calls kj1 _ _ l0_4 false _ ?side1 ?side2 A31.out).mono ?_); (case side1 => exact kc HR0_4 HB); (case side2 => exact HC0_4.out); rintro e w' ⟨rfl, ⟨nd, rfl⟩⟩; (try first | exact ⟨rfl, _, zq32 _ _ _⟩ | exact ⟨rfl, _, Eq.trans (zq32 _ _ _) (congrArg (World.drewN _) (Nat.add_assoc _ _ _))⟩))))
         go_ret
         exact fz (by exact b1 HB GE205)
       ·rw [if_neg c30] at H
        have c30b0 : decide (0 < (l0_4.length : Int)) = false := decide_eq_false c30
        have c30b1 : decide (0 < l0_4.length) = false := decide_eq_false (by omega)
        clear c30
        obtain rfl := Option.some.inj H
        go_wp2
        repeat (go_quiet (fail); try go_wp2)
        go_ret
        exact fz (by exact b1 HB GE205)
      ·rw [if_neg c29] at H
       have c29b0 : (a0_2 == 3) = false := beq_eq_false_iff_ne.mpr c29
       have c29b1 : (a0_2 != 3) = true := bne_iff_ne.mpr c29
       by_cases c40 : a0_2 = 4
       ·rw [if_pos c40] at H
        have c40b0 : (a0_2 == 4) = true := beq_iff_eq.mpr c40
        have c40b1 : (a0_2 != 4) = false := bne_eq_false_iff_eq.mpr c40
        clear c40
        by_cases c41 : (l0_5.length : Int) > 0
        ·rw [if_pos c41] at H
         have c41b0 : decide (0 < (l0_5.length : Int)) = true := decide_eq_true c41
         have c41b1 : decide (0 < l0_5.length) = true := decide_eq_true (by omega)
         clear c41
         replace H := Option.bind_eq_some_iff.mp H
         obtain ⟨t210, A420, H⟩ := H
         try dsimp only at H
         have A42 := zq9 A420
         clear A420
         go_wp2_with (first | (go_at_call 52; (with_reducible refine (impl_ScoresOk.calls kj1 _ _ l0_5 t210 _ ?side1 ?side2 A42.out).mono ?_); (case side1 => exact kc HR0_5 HB); (case side2 => exact HC0_5.out); rintro e w46 ⟨rfl, hb⟩; have n0_ := zq9 (zq30 (g := gb205) (o := .cells #[.string a0_0, .int .i64 a0_1, .int .i64 a0_2, .string a0_3, .slice A0_4 l0_4.length c0_4, .slice A0_5 l0_5.length c0_5, .slice A0_6 l0_6.length c0_6] 32 (0, 0)) (by exact bk BK205) hb); have n1_ := zq9 (zq27 (by exact b1 HB GE205) hb); clear BK205; clear HB; have BK205 := n0_; have HB := n1_; clear n0_ n1_; (try clear hb); (try clear hb2); (try clear hk); (try clear hi)))
         by_cases c43 : t210 = true
         ·subst c43
          have H1 : (if (¬ a0_3.toList = ([] : List UInt8)) then (some false) else (if ((l0_4.length : Int) > 0) then (some false) else (some (!(decide ((l0_6.length : Int) > 0)))))) = some r := by rw [if_pos rfl] at H; exact H
          clear H
          have H := H1
          clear H1
          by_cases c44 : (¬ a0_3.toList = ([] : List UInt8))
          ·rw [if_pos c44] at H
           have c44b0 : (a0_3.toList == ([] : List UInt8)) = false := beq_eq_false_iff_ne.mpr c44
           have c44b1 : (a0_3.toList != ([] : List UInt8)) = true := bne_iff_ne.mpr c44
           clear c44
           obtain rfl := Option.some.inj H
           repeat (go_quiet (first | (go_at_call 52; (with_reducible refine (impl_ScoresOk.calls kj1 _ _ l0_5 true _ ?side1 ?side2 A42.out).mono ?_); (case side1 => exact kc HR0_5 HB); (case side2 => exact HC0_5.out); rintro e w46 ⟨rfl, hb⟩; have n0_ := zq9 (zq30 (g := gb205) (o := .cells #[.string a0_0, .int .i64 a0_1, .int .i64 a0_2, .string a0_3, .slice A0_4 l0_4.length c0_4, .slice A0_5 l0_5.length c0_5, .slice A0_6 l0_6.length c0_6] 32 (0, 0)) (by exact bk BK205) hb); have n1_ := zq9 (zq27 (by exact b1 HB GE205) hb); clear BK205; clear HB; have BK205 := n0_; have HB := n1_; clear n0_ n1_; (try clear hb); (try clear hb2); (try clear hk); (try clear hi))); try go_wp2_with (first | (go_at_call 52; (with_reducible refine (impl_ScoresOk.calls kj1 _ _ l0_5 true _ ?side1 ?side2 A42.out).mono ?_); (case side1 => exact kc HR0_5 HB); (case side2 => exact HC0_5.out); rintro e w46 ⟨rfl, hb⟩; have n0_ := zq9 (zq30 (g := gb205) (o := .cells #[.string a0_0, .int .i64 a0_1, .int .i64 a0_2, .string a0_3, .slice A0_4 l0_4.length c0_4, .slice A0_5 l0_5.length c0_5, .slice A0_6 l0_6.length c0_6] 32 (0, 0)) (by exact bk BK205) hb); have n1_ := zq9 (zq27 (by exact b1 HB GE205) hb); clear BK205; clear HB; have BK205 := n0_; have HB := n1_; clear n0_ n1_; (try clear hb); (try clear hb2); (try clear hk); (try clear hi))))
           go_ret
           exact fz (by exact b1 HB GE205)
          ·rw [if_neg c44] at H
           have c44b0 : (a0_3.toList == ([] : List UInt8)) = true := beq_iff_eq.mpr (Decidable.not_not.mp c44)
           have c44b1 : (a0_3.toList != ([] : List UInt8)) = false := bne_eq_false_iff_eq.mpr (Decidable.not_not.mp c44)
           by_cases c47 : ((l0_4.length : Int) > 0)
           ·rw [if_pos c47] at H
            have c47b0 : decide (0 < (l0_4.length : Int)) = true := decide_eq_true c47
            have c47b1 : decide (0 < l0_4.length) = true := decide_eq_true (by omega)
            clear c47
            obtain rfl := Option.some.inj H
            repeat (go_quiet (first | (go_at_call 52; (with_reducible refine (impl_ScoresOk.calls kj1 _ _ l0_5 true _ ?side1 ?side2 A42.out).mono ?_); (case side1 => exact kc HR0_5 HB); (case side2 => exact HC0_5.out); rintro e w46 ⟨rfl, hb⟩; have n0_ := zq9 (zq30 (g := gb205) (o := .cells #[.string a0_0, .int .i64 a0_1, .int .i64 a0_2, .string a0_3, .slice A0_4 l0_4.length c0_4, .slice A0_5 l0_5.length c0_5, .slice A0_6 l0_6.length c0_6] 32 (0, 0)) (by exact bk BK205) hb); have n1_ := zq9 (zq27 (by exact b1 HB GE205) hb); clear BK205; clear HB; have BK205 := n0_; have HB := n1_; clear n0_ n1_; (try clear hb); (try clear hb2); (try clear hk); (try clear hi))); try go_wp2_with (first | (go_at_call 52; (with_reducible refine (impl_ScoresOk.calls kj1 _ _ l0_5 true _ ?side1 ?side2 A42.out).mono ?_); (case side1 => exact kc HR0_5 HB); (case side2 => exact HC0_5.out); rintro e w46 ⟨rfl, hb⟩; have n0_ := zq9 (zq30 (g := gb205) (o := .cells #[.string a0_0, .int .i64 a0_1, .int .i64 a0_2, .string a0_3, .slice A0_4 l0_4.length c0_4, .slice A0_5 l0_5.length c0_5, .slice A0_6 l0_6.length c0_6] 32 (0, 0)) (by exact bk BK205) hb); have n1_ := zq9 (zq27 (by exact b1 HB GE205) hb); clear BK205; clear HB; have BK205 := n0_; have HB := n1_; clear n0_ n1_; (try clear hb); (try clear hb2); (try clear hk); (try clear hi))))
            go_ret
            exact fz (by exact b1 HB GE205)
           ·rw [if_neg c47] at H
            have c47b0 : decide (0 < (l0_4.length : Int)) = false := decide_eq_false c47
            have c47b1 : decide (0 < l0_4.length) = false := decide_eq_false (by omega)
            clear c47
            obtain rfl := Option.some.inj H
            repeat (go_quiet (first | (go_at_call 52; (with_reducible refine (impl_ScoresOk.calls kj1 _ _ l0_5 true _ ?side1 ?side2 A42.out).mono ?_); (case side1 => exact kc HR0_5 HB); (case side2 => exact HC0_5.out); rintro e w46 ⟨rfl, hb⟩; have n0_ := zq9 (zq30 (g := gb205) (o := .cells #[.string a0_0, .int .i64 a0_1, .int .i64 a0_2, .string a0_3, .slice A0_4 l0_4.length c0_4, .slice A0_5 l0_5.length c0_5, .slice A0_6 l0_6.length c0_6] 32 (0, 0)) (by exact bk BK205) hb); have n1_ := zq9 (zq27 (by exact b1 HB GE205) hb); clear BK205; clear HB; have BK205 := n0_; have HB := n1_; clear n0_ n1_; (try clear hb); (try clear hb2); (try clear hk); (try clear hi))); try go_wp2_with (first | (go_at_call 52; (with_reducible refine (impl_ScoresOk.calls kj1 _ _ l0_5 true _ ?side1 ?side2 A42.out).mono ?_); (case side1 => exact kc HR0_5 HB); (case side2 => exact HC0_5.out); rintro e w46 ⟨rfl, hb⟩; have n0_ := zq9 (zq30 (g := gb205) (o := .cells #[.string a0_0, .int .i64 a0_1, .int .i64 a0_2, .string a0_3, .slice A0_4 l0_4.length c0_4, .slice A0_5 l0_5.length c0_5, .slice A0_6 l0_6.length c0_6] 32 (0, 0)) (by exact bk BK205) hb); have n1_ := zq9 (zq27 (by exact b1 HB GE205) hb); clear BK205; clear HB; have BK205 := n0_; have HB := n1_; clear n0_ n1_; (try clear hb); (try clear hb2); (try clear hk); (try clear hi))))
            go_ret
            exact fz (by exact b1 HB GE205)
         ·replace c43 := Bool.eq_false_iff.mpr c43
          subst c43
          have H1 : (some false) = some r := by rw [if_neg (show ¬ (false = true) by decide)] at H; exact H
          clear H
          have H := H1
          clear H1
          obtain rfl := Option.some.inj H
          repeat (go_quiet (first | (go_at_call 52; (with_reducible refine (impl_ScoresOk.calls kj1 _ _ l0_5 false _ ?side1 ?side2 A42.out).mono ?_); (case side1 => exact kc HR0_5 HB); (case side2 => exact HC0_5.out); rintro e w46 ⟨rfl, hb⟩; have n0_ := zq9 (zq30 (g := gb205) (o := .cells #[.string a0_0, .int .i64 a0_1, .int .i64 a0_2, .string a0_3, .slice A0_4 l0_4.length c0_4, .slice A0_5 l0_5.length c0_5, .slice A0_6 l0_6.length c0_6] 32 (0, 0)) (by exact bk BK205) hb); have n1_ := zq9 (zq27 (by exact b1 HB GE205) hb); clear BK205; clear HB; have BK205 := n0_; have HB := n1_; clear n0_ n1_; (try clear hb); (try clear hb2); (try clear hk); (try clear hi))); try go_wp2_with (first | (go_at_call 52; (with_reducible refine (impl_ScoresOk.calls kj1 _ _ l0_5 false _ ?side1 ?side2 A42.out).mono ?_); (case side1 => exact kc HR0_5 HB); (case side2 => exact HC0_5.out); rintro e w46 ⟨rfl, hb⟩; have n0_ := zq9 (zq30 (g := gb205) (o := .cells #[.string a0_0, .int .i64 a0_1, .int .i64 a0_2, .string a0_3, .slice A0_4 l0_4.length c0_4, .slice A0_5 l0_5.length c0_5, .slice A0_6 l0_6.length c0_6] 32 (0, 0)) (by exact bk BK205) hb); have n1_ := zq9 (zq27 (by exact b1 HB GE205) hb); clear BK205; clear HB; have BK205 := n0_; have HB := n1_; clear n0_ n1_; (try clear hb); (try clear hb2); (try clear hk); (try clear hi))))
          go_ret
          exact fz (by exact b1 HB GE205)
        ·rw [if_neg c41] at H
         have c41b0 : decide (0 < (l0_5.length : Int)) = false := decide_eq_false c41
         have c41b1 : decide (0 < l0_5.length) = false := decide_eq_false (by omega)
         clear c41
         obtain rfl := Option.some.inj H
         go_wp2
         repeat (go_quiet (fail); try go_wp2)
         go_ret
         exact fz (by exact b1 HB GE205)
       ·rw [if_neg c40] at H
        have c40b0 : (a0_2 == 4) = false := beq_eq_false_iff_ne.mpr c40
        have c40b1 : (a0_2 != 4) = true := bne_iff_ne.mpr c40
        by_cases c55 : a0_2 = 5
        ·rw [if_pos c55] at H
         have c55b0 : (a0_2 == 5) = true := beq_iff_eq.mpr c55
         have c55b1 : (a0_2 != 5) = false := bne_eq_false_iff_eq.mpr c55
         clear c55
         by_cases c56 : (l0_6.length : Int) > 0
         ·rw [if_pos c56] at H
          have c56b0 : decide (0 < (l0_6.length : Int)) = true := decide_eq_true c56
          have c56b1 : decide (0 < l0_6.length) = true := decide_eq_true (by omega)
          clear c56
          replace H := Option.bind_eq_some_iff.mp H
          obtain ⟨t211, A570, H⟩ := H
          try dsimp only at H
          have A57 := zq9 A570
          clear A570
          go_wp2_with (first | (go_at_call 53; (with_reducible refine (impl_FieldsOk.calls kj1 _ _ l0_6 t211 _ ?side1 ?side2 A57.out).mono ?_); (case side1 => exact kc HR0_6 HB); (case side2 => exact HC0_6.out); rintro e w61 ⟨rfl, hb⟩; have n0_ := zq9 (zq30 (g := gb205) (o := .cells #[.string a0_0, .int .i64 a0_1, .int .i64 a0_2, .string a0_3, .slice A0_4 l0_4.length c0_4, .slice A0_5 l0_5.length c0_5, .slice A0_6 l0_6.length c0_6] 32 (0, 0)) (by exact bk BK205) hb); have n1_ := zq9 (zq27 (by exact b1 HB GE205) hb); clear BK205; clear HB; have BK205 := n0_; have HB := n1_; clear n0_ n1_; (try clear hb); (try clear hb2); (try clear hk); (try clear hi)))
          by_cases c58 : t211 = true
          ·subst c58
           have H1 : (if (¬ a0_3.toList = ([] : List UInt8)) then (some false) else (if ((l0_4.length : Int) > 0) then (some false) else (some (!(decide ((l0_5.length : Int) > 0)))))) = some r := by rw [if_pos rfl] at H; exact H
           clear H
           have H := H1
           clear H1
           by_cases c59 : (¬ a0_3.toList = ([] : List UInt8))
           ·rw [if_pos c59] at H
            have c59b0 : (a0_3.toList == ([] : List UInt8)) = false := beq_eq_false_iff_ne.mpr c59
            have c59b1 : (a0_3.toList != ([] : List UInt8)) = true := bne_iff_ne.mpr c59
            clear c59
            obtain rfl := Option.some.inj H
            repeat (go_quiet (first | (go_at_call 53; (with_reducible refine (impl_FieldsOk.calls kj1 _ _ l0_6 true _ ?side1 ?side2 A57.out).mono ?_); (case side1 => exact kc HR0_6 HB); (case side2 => exact HC0_6.out); rintro e w61 ⟨rfl, hb⟩; have n0_ := zq9 (zq30 (g := gb205) (o := .cells #[.string a0_0, .int .i64 a0_1, .int .i64 a0_2, .string a0_3, .slice A0_4 l0_4.length c0_4, .slice A0_5 l0_5.length c0_5, .slice A0_6 l0_6.length c0_6] 32 (0, 0)) (by exact bk BK205) hb); have n1_ := zq9 (zq27 (by exact b1 HB GE205) hb); clear BK205; clear HB; have BK205 := n0_; have HB := n1_; clear n0_ n1_; (try clear hb); (try clear hb2); (try clear hk); (try clear hi))); try go_wp2_with (first | (go_at_call 53; (with_reducible refine (impl_FieldsOk.calls kj1 _ _ l0_6 true _ ?side1 ?side2 A57.out).mono ?_); (case side1 => exact kc HR0_6 HB); (case side2 => exact HC0_6.out); rintro e w61 ⟨rfl, hb⟩; have n0_ := zq9 (zq30 (g := gb205) (o := .cells #[.string a0_0, .int .i64 a0_1, .int .i64 a0_2, .string a0_3, .slice A0_4 l0_4.length c0_4, .slice A0_5 l0_5.length c0_5, .slice A0_6 l0_6.length c0_6] 32 (0, 0)) (by exact bk BK205) hb); have n1_ := zq9 (zq27 (by exact b1 HB GE205) hb); clear BK205; clear HB; have BK205 := n0_; have HB := n1_; clear n0_ n1_; (try clear hb); (try clear hb2); (try clear hk); (try clear hi))))
            go_ret
            exact fz (by exact b1 HB GE205)
           ·rw [if_neg c59] at H
            have c59b0 : (a0_3.toList == ([] : List UInt8)) = true := beq_iff_eq.mpr (Decidable.not_not.mp c59)
            have c59b1 : (a0_3.toList != ([] : List UInt8)) = false := bne_eq_false_iff_eq.mpr (Decidable.not_not.mp c59)
            by_cases c62 : ((l0_4.length : Int) > 0)
            ·rw [if_pos c62] at H
             have c62b0 : decide (0 < (l0_4.length : Int)) = true := decide_eq_true c62
             have c62b1 : decide (0 < l0_4.length) = true := decide_eq_true (by omega)
             clear c62
             obtain rfl := Option.some.inj H
             repeat (go_quiet (first | (go_at_call 53; (with_reducible refine (impl_FieldsOk.calls kj1 _ _ l0_6 true _ ?side1 ?side2 A57.out).mono ?_); (case side1 => exact kc HR0_6 HB); (case side2 => exact HC0_6.out); rintro e w61 ⟨rfl, hb⟩; have n0_ := zq9 (zq30 (g := gb205) (o := .cells #[.string a0_0, .int .i64 a0_1, .int .i64 a0_2, .string a0_3, .slice A0_4 l0_4.length c0_4, .slice A0_5 l0_5.length c0_5, .slice A0_6 l0_6.length c0_6] 32 (0, 0)) (by exact bk BK205) hb); have n1_ := zq9 (zq27 (by exact b1 HB GE205) hb); clear BK205; clear HB; have BK205 := n0_; have HB := n1_; clear n0_ n1_; (try clear hb); (try clear hb2); (try clear hk); (try clear hi))); try go_wp2_with (first | (go_at_call 53; (with_reducible refine (impl_FieldsOk.calls kj1 _ _ l0_6 true _ ?side1 ?side2 A57.out).mono ?_); (case side1 => exact kc HR0_6 HB); (case side2 => exact HC0_6.out); rintro e w61 ⟨rfl, hb⟩; have n0_ := zq9 (zq30 (g := gb205) (o := .cells #[.string a0_0, .int .i64 a0_1, .int .i64 a0_2, .string a0_3, .slice A0_4 l0_4.length c0_4, .slice A0_5 l0_5.length c0_5, .slice A0_6 l0_6.length c0_6] 32 (0, 0)) (by exact bk BK205) hb); have n1_ := zq9 (zq27 (by exact b1 HB GE205) hb); clear BK205; clear HB; have BK205 := n0_; have HB := n1_; clear n0_ n1_; (try clear hb); (try clear hb2); (try clear hk); (try clear hi))))
             go_ret
             exact fz (by exact b1 HB GE205)
            ·rw [if_neg c62] at H
             have c62b0 : decide (0 < (l0_4.length : Int)) = false := decide_eq_false c62
             have c62b1 : decide (0 < l0_4.length) = false := decide_eq_false (by omega)
             clear c62
             obtain rfl := Option.some.inj H
             repeat (go_quiet (first | (go_at_call 53; (with_reducible refine (impl_FieldsOk.calls kj1 _ _ l0_6 true _ ?side1 ?side2 A57.out).mono ?_); (case side1 => exact kc HR0_6 HB); (case side2 => exact HC0_6.out); rintro e w61 ⟨rfl, hb⟩; have n0_ := zq9 (zq30 (g := gb205) (o := .cells #[.string a0_0, .int .i64 a0_1, .int .i64 a0_2, .string a0_3, .slice A0_4 l0_4.length c0_4, .slice A0_5 l0_5.length c0_5, .slice A0_6 l0_6.length c0_6] 32 (0, 0)) (by exact bk BK205) hb); have n1_ := zq9 (zq27 (by exact b1 HB GE205) hb); clear BK205; clear HB; have BK205 := n0_; have HB := n1_; clear n0_ n1_; (try clear hb); (try clear hb2); (try clear hk); (try clear hi))); try go_wp2_with (first | (go_at_call 53; (with_reducible refine (impl_FieldsOk.calls kj1 _ _ l0_6 true _ ?side1 ?side2 A57.out).mono ?_); (case side1 => exact kc HR0_6 HB); (case side2 => exact HC0_6.out); rintro e w61 ⟨rfl, hb⟩; have n0_ := zq9 (zq30 (g := gb205) (o := .cells #[.string a0_0, .int .i64 a0_1, .int .i64 a0_2, .string a0_3, .slice A0_4 l0_4.length c0_4, .slice A0_5 l0_5.length c0_5, .slice A0_6 l0_6.length c0_6] 32 (0, 0)) (by exact bk BK205) hb); have n1_ := zq9 (zq27 (by exact b1 HB GE205) hb); clear BK205; clear HB; have BK205 := n0_; have HB := n1_; clear n0_ n1_; (try clear hb); (try clear hb2); (try clear hk); (try clear hi))))
             go_ret
             exact fz (by exact b1 HB GE205)
          ·replace c58 := Bool.eq_false_iff.mpr c58
           subst c58
           have H1 : (some false) = some r := by rw [if_neg (show ¬ (false = true) by decide)] at H; exact H
           clear H
           have H := H1
           clear H1
           obtain rfl := Option.some.inj H
           repeat (go_quiet (first | (go_at_call 53; (with_reducible refine (impl_FieldsOk.calls kj1 _ _ l0_6 false _ ?side1 ?side2 A57.out).mono ?_); (case side1 => exact kc HR0_6 HB); (case side2 => exact HC0_6.out); rintro e w61 ⟨rfl, hb⟩; have n0_ := zq9 (zq30 (g := gb205) (o := .cells #[.string a0_0, .int .i64 a0_1, .int .i64 a0_2, .string a0_3, .slice A0_4 l0_4.length c0_4, .slice A0_5 l0_5.length c0_5, .slice A0_6 l0_6.length c0_6] 32 (0, 0)) (by exact bk BK205) hb); have n1_ := zq9 (zq27 (by exact b1 HB GE205) hb); clear BK205; clear HB; have BK205 := n0_; have HB := n1_; clear n0_ n1_; (try clear hb); (try clear hb2); (try clear hk); (try clear hi))); try go_wp2_with (first | (go_at_call 53; (with_reducible refine (impl_FieldsOk.calls kj1 _ _ l0_6 false _ ?side1 ?side2 A57.out).mono ?_); (case side1 => exact kc HR0_6 HB); (case side2 => exact HC0_6.out); rintro e w61 ⟨rfl, hb⟩; have n0_ := zq9 (zq30 (g := gb205) (o := .cells #[.string a0_0, .int .i64 a0_1, .int .i64 a0_2, .string a0_3, .slice A0_4 l0_4.length c0_4, .slice A0_5 l0_5.length c0_5, .slice A0_6 l0_6.length c0_6] 32 (0, 0)) (by exact bk BK205) hb); have n1_ := zq9 (zq27 (by exact b1 HB GE205) hb); clear BK205; clear HB; have BK205 := n0_; have HB := n1_; clear n0_ n1_; (try clear hb); (try clear hb2); (try clear hk); (try clear hi))))
           go_ret
           exact fz (by exact b1 HB GE205)
         ·rw [if_neg c56] at H
          have c56b0 : decide (0 < (l0_6.length : Int)) = false := decide_eq_false c56
          have c56b1 : decide (0 < l0_6.length) = false := decide_eq_false (by omega)
          clear c56
          obtain rfl := Option.some.inj H
          go_wp2
          repeat (go_quiet (fail); try go_wp2)
          go_ret
          exact fz (by exact b1 HB GE205)
        ·rw [if_neg c55] at H
         have c55b0 : (a0_2 == 5) = false := beq_eq_false_iff_ne.mpr c55
         have c55b1 : (a0_2 != 5) = true := bne_iff_ne.mpr c55
         obtain rfl := Option.some.inj H
         go_wp2
         repeat (go_quiet (fail); try go_wp2)
         go_ret
         exact fz (by exact b1 HB GE205)
def impl_BaseOk.T6 : Bool × List (List Nat × List Nat) := (true, [([], []), ([0], [0]), ([1], [1]), ([2, 1], [2]), ([3], [3]), ([4, 3], [3, 4]), ([5, 3, 3], [3, 5]), ([6], [6]), ([7, 6], [6, 7]), ([6], [6]), ([9, 6], [6, 9]), ([8, 10, 6], [6, 8, 10]), ([11, 6], [6, 11]), ([12, 6], [6, 12]), ([6], [6]), ([14, 6], [6, 14]), ([13, 15, 6], [6, 13, 15]), ([6, 16, 3], [3, 6, 16]), ([3, 17], [3, 17]), ([18, 6], [18]), ([19], [19]), ([20, 19], [19, 20]), ([21, 19], [19, 21]), ([22, 19, 19], [19, 22]), ([23], [23]), ([24, 23], [23, 24]), ([23], [23]), ([26, 23], [23, 26]), ([25, 27, 23], [23, 25, 27]), ([23, 28, 19], [19, 23, 28]), ([19, 29], [19, 29])])
def impl_BaseOk.B6 : List Nat := [0, 1, 3, 7, 15, 31, 63, 127, 255, 127, 639, 2047, 4095, 8191, 127, 16511, 65535, 131071, 262143, 524287, 1048575, 2097151, 4194303, 8388607, 16777215, 33554431, 16777215, 83886079, 268435455, 536870911, 1073741823]
theorem impl_BaseOk.tab6 : rtab .any (opsOf Try.f19 6) = impl_BaseOk.T6 := by kernel_rfl
theorem impl_BaseOk.bits6 : waitsOk impl_BaseOk.T6.2 impl_BaseOk.B6 = true := by kernel_rfl
set_option maxHeartbeats 8000000 in
set_option maxRecDepth 100000 in
theorem impl_BaseOk.calls (k : Nat) (a0_0 : Int) (A0_1 : Option Addr) (c0_1 : Nat) (l0_1 : List (S32)) (r : Bool) (w : World) (hr0_1 : Kd.C k32 w A0_1 l0_1.length l0_1) (hc0_1 : l0_1.length ≤ c0_1) (h : impl_BaseOk.f k a0_0 l0_1 = some r) :
  Calls Try.prog 19 #[.agg #[.int .i64 a0_0, .slice A0_1 l0_1.length c0_1]] w fun e w' => e = .returned (.bool r) ∧ Below w.heap.size w w' := by
 have hu46 := Try.underlying46
 have hu32 := Try.underlying32
 have HR0_1 := zq9 hr0_1
 have HC0_1 := zq9 hc0_1
 clear hr0_1 hc0_1
 have HB := zq9 (Below.refl w.heap.size w)
 have H : ((impl_within.f a0_0 0 1000000).bind fun t677 => (if t677 = true then (impl_BaseOk.j0 k (decide ((l0_1.length : Int) > 12)) a0_0 l0_1) else (impl_BaseOk.j0 k true a0_0 l0_1))) = some r := h
 clear h
 have HC2 := zq9 H
 clear H
 go_enter Try.func19, Try.ntmps19
 go_upto_region 1 with (first | ((with_reducible refine zq25 (N := 1) rfl ?_); (try (refine gate_guard (by rfl) ?_; dsimp only)); refine bx 1 #[.int .i64 a0_0, .slice A0_1 l0_1.length c0_1] 46 ?_; intro gb676 hg w3 hbox hb; have n0_ := zq9 (zq27 (by exact bl HB) hb); have n1_ := zq9 (hbox); have n2_ := zq9 ((by rw [hg]; exact (zq29 (by exact bl HB)) : w.heap.size ≤ gb676)); have n3_ := n2_; clear HB; have HB := n0_; have BK676 := n1_; have GW676 := n2_; have GE676 := n3_; clear n0_ n1_ n2_ n3_; clear hb hbox hg))
 (try simp only [Act.put, zq0, zq1, zq2])
 go_cut [14] (fun v14 wc => ∃ (kq : Nat) (x14_1 : Bool), v14 = .bool x14_1 ∧ Aside0 (impl_BaseOk.j0 kq x14_1 a0_0 l0_1 = some r) ∧ Aside0 (kq ≤ k) ∧ Aside0 (wc.heap[gb676]? = some (.cells #[.int .i64 a0_0, (.slice A0_1 l0_1.length c0_1)] 46 (0, 0))) ∧ Aside0 (Below w.heap.size w wc))
 case first =>
  have H := HC2.out
  clear HC2
  replace H := Option.bind_eq_some_iff.mp H
  obtain ⟨t677, A40, H⟩ := H
  try dsimp only at H
  have A4 := zq9 A40
  clear A40
  have hcz6_0 : w3.cell? ⟨gb676, 0, none⟩ = some (.int .i64 a0_0) := bc BK676 0
  have hcz6_1 : w3.cell? ⟨gb676, 1, none⟩ = some (.slice A0_1 l0_1.length c0_1) := bc BK676 1
  have hfz6_0 := zq6 BK676.out 0
  have hfz6_1 := zq6 BK676.out 1
  by_cases c5 : t677 = true
  ·subst c5
   have H1 : (impl_BaseOk.j0 k (decide ((l0_1.length : Int) > 12)) a0_0 l0_1) = some r := by rw [if_pos rfl] at H; exact H
   clear H
   have H := H1
   clear H1
   have H' := zq9 H
   clear H
   go_wp2_with (first | ((with_reducible refine zq24 (f := 49) rfl ?_); refine gl (some 7) Try.func49 #[.int .i64 a0_0, .int .i64 0, .int .i64 1000000] ?_; (with_reducible refine (impl_within.calls a0_0 0 1000000 true _ A4.out).mono ?_); rintro e w' ⟨rfl, ⟨nd, rfl⟩⟩; refine ⟨_, rfl, ?_⟩))
   go_meet
   case rel => exact ⟨_, (decide ((l0_1.length : Int) > 12)), (by first | rfl | (simp; done) | (simp [*]; done)), H', ⟨by first | omega | exact Nat.le_refl _⟩, ⟨by refine bp ?_; exact BK676.out⟩, ⟨by exact b1 HB GE676⟩⟩
  ·replace c5 := Bool.eq_false_iff.mpr c5
   subst c5
   have H1 : (impl_BaseOk.j0 k true a0_0 l0_1) = some r := by rw [if_neg (show ¬ (false = true) by decide)] at H; exact H
   clear H
   have H := H1
   clear H1
   have H' := zq9 H
   clear H
   go_wp2_with (first | ((with_reducible refine zq24 (f := 49) rfl ?_); refine gl (some 7) Try.func49 #[.int .i64 a0_0, .int .i64 0, .int .i64 1000000] ?_; (with_reducible refine (impl_within.calls a0_0 0 1000000 false _ A4.out).mono ?_); rintro e w' ⟨rfl, ⟨nd, rfl⟩⟩; refine ⟨_, rfl, ?_⟩))
   go_meet
   case rel => exact ⟨_, (true), (by first | rfl | (simp; done) | (simp [*]; done)), H', ⟨by first | omega | exact Nat.le_refl _⟩, ⟨by refine bp ?_; exact BK676.out⟩, ⟨by exact b1 HB GE676⟩⟩
 case rest =>
  clear HC2
  try clear c1
  try clear p2
  try clear c4
  try clear c5
  try clear hcz6_0
  try clear hcz6_1
  try clear hcz7_0
  try clear hcz7_1
  try clear hfz6_0
  try clear hfz6_1
  try clear hfz7_0
  try clear hfz7_1
  obtain ⟨kq, x14_1, rfl, HA, HJ1, BK676, HB⟩ := hcut
  cases kq with
  | zero => exact absurd HA.out (by simp [impl_BaseOk.j0])
  | succ kj1 =>
   have H := HA.out
   clear HA
   simp only [impl_BaseOk.j0] at H
   by_cases c8 : x14_1 = true
   ·subst c8
    have H1 : (some false) = some r := by rw [if_pos rfl] at H; exact H
    clear H
    have H := H1
    clear H1
    obtain rfl := Option.some.inj H
    go_wp2
    go_ret
    exact fz (by exact b1 HB GE676)
   ·replace c8 := Bool.eq_false_iff.mpr c8
    subst c8
    have H1 : (impl_BaseOk.l0 kj1 l0_1 (l0_1.length : Int) 0 a0_0 l0_1) = some r := by rw [if_neg (show ¬ (false = true) by decide)] at H; exact H
    clear H
    have H := H1
    clear H1
    have H' := zq9 H
    clear H
    have hcz9_0 : wc.cell? ⟨gb676, 0, none⟩ = some (.int .i64 a0_0) := bc BK676 0
    have hcz9_1 : wc.cell? ⟨gb676, 1, none⟩ = some (.slice A0_1 l0_1.length c0_1) := bc BK676 1
    have hfz9_0 := zq6 BK676.out 0
    have hfz9_1 := zq6 BK676.out 1
    go_wp2
    go_loopg [18] kj1 (fun kq v18 w' => ∃ (x18_2 : Int), v18 = .int .i64 x18_2 ∧ Aside0 (impl_BaseOk.l0 kq l0_1 (l0_1.length : Int) x18_2 a0_0 l0_1 = some r) ∧ Aside0 (kq ≤ kj1) ∧ Aside0 (w'.heap[gb676]? = some (.cells #[.int .i64 a0_0, (.slice A0_1 l0_1.length c0_1)] 46 (0, 0))) ∧ Aside0 (Below w.heap.size w w'))
    case atStart => exact ⟨(0), (by first | rfl | (simp; done) | (simp [*]; done)), H', ⟨Nat.le_refl _⟩, ⟨by refine bp ?_; exact BK676.out⟩, ⟨by exact b1 HB GE676⟩⟩
    case round =>
     clear H'
     try clear c1
     try clear p2
     try clear c4
     try clear c5
     try clear c8
     try clear hcz6_0
     try clear hcz6_1
     try clear hcz7_0
     try clear hcz7_1
     try clear hcz9_0
     try clear hcz9_1
     try clear hfz6_0
     try clear hfz6_1
     try clear hfz7_0
     try clear hfz7_1
     try clear hfz9_0
     try clear hfz9_1
     try clear p2
     obtain ⟨x18_2, rfl, HA, HK2, BK676, HB⟩ := hrel
     cases gk with
     | zero => exact absurd HA.out (by simp [impl_BaseOk.l0])
     | succ k2 =>
      have H := HA.out
      clear HA
      simp only [impl_BaseOk.l0] at H
      by_cases c10 : x18_2 < (l0_1.length : Int)
      ·rw [if_pos c10] at H
       have c10b0 : decide (x18_2 < (l0_1.length : Int)) = true := decide_eq_true c10
       clear c10
       by_cases c11 : 0 ≤ x18_2
       ·rw [if_pos c11] at H
        have c11b0 : decide (0 ≤ x18_2) = true := decide_eq_true c11
        clear c11
        by_cases c12 : x18_2 < (l0_1.length : Int)
        ·rw [if_pos c12] at H
         have c12b0 : decide (x18_2 < (l0_1.length : Int)) = true := decide_eq_true c12
         clear c12
         have HC13 := zq9 H
         clear H
         have p678 : 0 ≤ (x18_2 : Int) := of_decide_eq_true ‹_›
         have q678 : x18_2 < (l0_1.length : Int) := of_decide_eq_true ‹_›
         obtain ⟨ad678, A678_4, c678_4, A678_5, c678_5, A678_6, c678_6, e678, hx678_0, hx678_1, hx678_2, hx678_3, hx678_4, hx678_5, hx678_6, hl678_4, hi678_4, hl678_5, hi678_5, hl678_6, hi678_6⟩ := at_T32 HR0_1.out x18_2 p678 q678
         cases e678
         replace hx678_0 := (HB.out.cell (zq8 w _ hx678_0)).trans hx678_0
         replace hx678_1 := (HB.out.cell (zq8 w _ hx678_1)).trans hx678_1
         replace hx678_2 := (HB.out.cell (zq8 w _ hx678_2)).trans hx678_2
         replace hx678_3 := (HB.out.cell (zq8 w _ hx678_3)).trans hx678_3
         replace hx678_4 := (HB.out.cell (zq8 w _ hx678_4)).trans hx678_4
         replace hx678_5 := (HB.out.cell (zq8 w _ hx678_5)).trans hx678_5
         replace hx678_6 := (HB.out.cell (zq8 w _ hx678_6)).trans hx678_6
         have HR678_4 := zq9 hi678_4
         have HC678_4 := zq9 hl678_4
         clear hi678_4 hl678_4
         have HR678_5 := zq9 hi678_5
         have HC678_5 := zq9 hl678_5
         clear hi678_5 hl678_5
         have HR678_6 := zq9 hi678_6
         have HC678_6 := zq9 hl678_6
         clear hi678_6 hl678_6
         replace p678 := eq_true p678
         replace q678 := eq_true q678
         go_upto_region 6 with (first | ((with_reducible refine zq25 (N := 4) rfl ?_); (try (refine gate_guard (by rfl) ?_; dsimp only)); refine bx 4 #[.string (⟨#[]⟩ : ByteArray), .int .i64 0, .int .i64 0, .string (⟨#[]⟩ : ByteArray), .slice none 0 0, .slice none 0 0, .slice none 0 0] 32 ?_; intro gb679 hg w14 hbox hb; have n0_ := zq9 (zq30 (g := gb676) (o := .cells #[.int .i64 a0_0, .slice (some ad678) l0_1.length c0_1] 46 (0, 0)) (by exact bk BK676) hb); have n1_ := zq9 (zq27 (by exact b1 HB GE676) hb); have n2_ := zq9 (hbox); have n3_ := zq9 ((by rw [hg]; exact (zq29 (by exact b1 HB GE676)) : w.heap.size ≤ gb679)); have n4_ := n3_; have n5_ := zq9 ((by rw [hg]; exact Nat.ne_of_lt (blk_lt (g := gb676) (o := .cells #[.int .i64 a0_0, .slice (some ad678) l0_1.length c0_1] 46 (0, 0)) (by exact bk BK676)) : gb676 ≠ gb679)); have n6_ := zq9 ((by rw [hg]; exact Nat.ne_of_gt (blk_lt (g := gb676) (o := .cells #[.int .i64 a0_0, .slice (some ad678) l0_1.length c0_1] 46 (0, 0)) (by exact bk BK676)) : gb679 ≠ gb676)); clear BK676; clear HB; have BK676 := n0_; have HB := n1_; have BK679 := n2_; have GW679 := n3_; have GE679 := n4_; have NB676_679 := n5_; have NB679_676 := n6_; clear n0_ n1_ n2_ n3_ n4_ n5_ n6_; clear hb hbox hg; have hnb15 := NB679_676.out; have hnc15 := NB676_679.out; have hcz16_0 : w14.cell? ⟨gb679, 0, none⟩ = some (.string (⟨#[]⟩ : ByteArray)) := bc BK679 0; have hcz16_1 : w14.cell? ⟨gb679, 1, none⟩ = some (.int .i64 0) := bc BK679 1; have hcz16_2 : w14.cell? ⟨gb679, 2, none⟩ = some (.int .i64 0) := bc BK679 2; have hcz16_3 : w14.cell? ⟨gb679, 3, none⟩ = some (.string (⟨#[]⟩ : ByteArray)) := bc BK679 3; have hcz16_4 : w14.cell? ⟨gb679, 4, none⟩ = some (.slice none 0 0) := bc BK679 4; have hcz16_5 : w14.cell? ⟨gb679, 5, none⟩ = some (.slice none 0 0) := bc BK679 5; have hcz16_6 : w14.cell? ⟨gb679, 6, none⟩ = some (.slice none 0 0) := bc BK679 6; have hfz16_0 := zq6 BK679.out 0; have hfz16_1 := zq6 BK679.out 1; have hfz16_2 := zq6 BK679.out 2; have hfz16_3 := zq6 BK679.out 3; have hfz16_4 := zq6 BK679.out 4; have hfz16_5 := zq6 BK679.out 5; have hfz16_6 := zq6 BK679.out 6))
         (try simp only [Act.put, zq0, zq1, zq2])
         go_cut [53] (fun v53 wc => ∃ (kq : Nat) (x53_12 : Bool), v53 = .bool x53_12 ∧ Aside0 (impl_BaseOk.j2 kq l0_1 (l0_1.length : Int) x18_2 x53_12 a0_0 l0_1 = some r) ∧ Aside0 (kq ≤ k2) ∧ Aside0 (wc.heap[gb676]? = some (.cells #[.int .i64 a0_0, (.slice (some ad678) l0_1.length c0_1)] 46 (0, 0))) ∧ Aside0 (wc.heap[gb679]? = some (.cells #[.string ((rd_T32 l0_1 x18_2).f0), .int .i64 ((rd_T32 l0_1 x18_2).f1), .int .i64 ((rd_T32 l0_1 x18_2).f2), .string ((rd_T32 l0_1 x18_2).f3), (.slice A678_4 ((rd_T32 l0_1 x18_2).f4).length c678_4), (.slice A678_5 ((rd_T32 l0_1 x18_2).f5).length c678_5), (.slice A678_6 ((rd_T32 l0_1 x18_2).f6).length c678_6)] 32 (0, 0))) ∧ Aside0 (Below w.heap.size w wc))
         case first =>
          have H := HC13.out
          clear HC13
          replace H := Option.bind_eq_some_iff.mp H
          obtain ⟨t680, A170, H⟩ := H
          try dsimp only at H
          have A17 := zq9 A170
          clear A170
          by_cases c18 : t680 = true
          ·subst c18
           have H1 : (if x18_2 > 0 then (if 0 ≤ (wrap64 (x18_2 - 1)) then (if (wrap64 (x18_2 - 1)) < (l0_1.length : Int) then (if ((Op.bytesLess (((rd_T32 l0_1 (wrap64 (x18_2 - 1))).f0).toList) (((rd_T32 l0_1 x18_2).f0).toList)) = true) then (if ((rd_T32 l0_1 x18_2).f1) = 0 then (impl_BaseOk.j2 k2 l0_1 (l0_1.length : Int) x18_2 false a0_0 l0_1) else (impl_BaseOk.j2 k2 l0_1 (l0_1.length : Int) x18_2 (decide (((rd_T32 l0_1 x18_2).f1) ≤ a0_0)) a0_0 l0_1)) else (impl_BaseOk.j2 k2 l0_1 (l0_1.length : Int) x18_2 true a0_0 l0_1)) else (none)) else (none)) else (if ((rd_T32 l0_1 x18_2).f1) = 0 then (impl_BaseOk.j2 k2 l0_1 (l0_1.length : Int) x18_2 false a0_0 l0_1) else (impl_BaseOk.j2 k2 l0_1 (l0_1.length : Int) x18_2 (decide (((rd_T32 l0_1 x18_2).f1) ≤ a0_0)) a0_0 l0_1))) = some r := by rw [if_pos rfl] at H; exact H
           clear H
           have H := H1
           clear H1
           by_cases c19 : x18_2 > 0
           ·rw [if_pos c19] at H
            have c19b0 : decide (0 < x18_2) = true := decide_eq_true c19
            clear c19
            (first | rw [c19b0] | (simp only [i64_w, i32_w]; rw [c19b0]) | skip)
            obtain ⟨ji20, hji20⟩ : ∃ j_ : Int, (wrap64 (x18_2 - 1)) = j_ := ⟨_, rfl⟩
            replace H : (if 0 ≤ (ji20) then (if (ji20) < (l0_1.length : Int) then (if ((Op.bytesLess (((rd_T32 l0_1 (ji20)).f0).toList) (((rd_T32 l0_1 x18_2).f0).toList)) = true) then (if ((rd_T32 l0_1 x18_2).f1) = 0 then (impl_BaseOk.j2 k2 l0_1 (l0_1.length : Int) x18_2 false a0_0 l0_1) else (impl_BaseOk.j2 k2 l0_1 (l0_1.length : Int) x18_2 (decide (((rd_T32 l0_1 x18_2).f1) ≤ a0_0)) a0_0 l0_1)) else (impl_BaseOk.j2 k2 l0_1 (l0_1.length : Int) x18_2 true a0_0 l0_1)) else (none)) else (none)) = some r := by first | (rw [hji20] at H; exact H) | (simp only [hji20] at H ⊢; exact H)
            (try rw [hji20] at A17)
            have hji20w : (IntKind.i64.wrap (x18_2 - 1)) = ji20 := (i64_w _).trans hji20
            by_cases c21 : 0 ≤ (ji20)
            ·rw [if_pos c21] at H
             have c21b0 : decide (0 ≤ (ji20)) = true := decide_eq_true c21
             clear c21
             by_cases c22 : (ji20) < (l0_1.length : Int)
             ·rw [if_pos c22] at H
              have c22b0 : decide ((ji20) < (l0_1.length : Int)) = true := decide_eq_true c22
              clear c22
              by_cases c23 : ((Op.bytesLess (((rd_T32 l0_1 (ji20)).f0).toList) (((rd_T32 l0_1 x18_2).f0).toList)) = true)
              ·rw [if_pos c23] at H
               have c23b0 : (Op.bytesLess (((rd_T32 l0_1 (ji20)).f0).toList) (((rd_T32 l0_1 x18_2).f0).toList)) = true := c23
               clear c23
               by_cases c24 : ((rd_T32 l0_1 x18_2).f1) = 0
               ·rw [if_pos c24] at H
                have c24b0 : (((rd_T32 l0_1 x18_2).f1) == 0) = true := beq_iff_eq.mpr c24
                have c24b1 : (((rd_T32 l0_1 x18_2).f1) != 0) = false := bne_eq_false_iff_eq.mpr c24
                clear c24
                have H' := zq9 H
                clear H
                try go_wp2
                have n0_ : Aside0 ((((((((w14.setCell ⟨gb679, 0, none⟩ (.string ((rd_T32 l0_1 x18_2).f0))).setCell ⟨gb679, 1, none⟩ (.int .i64 ((rd_T32 l0_1 x18_2).f1))).setCell ⟨gb679, 2, none⟩ (.int .i64 ((rd_T32 l0_1 x18_2).f2))).setCell ⟨gb679, 3, none⟩ (.string ((rd_T32 l0_1 x18_2).f3))).setCell ⟨gb679, 4, none⟩ (.slice A678_4 ((rd_T32 l0_1 x18_2).f4).length c678_4)).setCell ⟨gb679, 5, none⟩ (.slice A678_5 ((rd_T32 l0_1 x18_2).f5).length c678_5)).setCell ⟨gb679, 6, none⟩ (.slice A678_6 ((rd_T32 l0_1 x18_2).f6).length c678_6)).heap[gb676]? = some (.cells #[.int .i64 a0_0, .slice (some ad678) l0_1.length c0_1] 46 (0, 0))) := ⟨by refine bp ?_; refine blk_far ?_ NB676_679.out _; refine bp ?_; refine blk_far ?_ NB676_679.out _; refine bp ?_; refine blk_far ?_ NB676_679.out _; refine bp ?_; refine blk_far ?_ NB676_679.out _; refine bp ?_; refine blk_far ?_ NB676_679.out _; refine bp ?_; refine blk_far ?_ NB676_679.out _; refine bp ?_; refine blk_far ?_ NB676_679.out _; refine bp ?_; exact BK676.out⟩
                have n1_ : Aside0 ((((((((w14.setCell ⟨gb679, 0, none⟩ (.string ((rd_T32 l0_1 x18_2).f0))).setCell ⟨gb679, 1, none⟩ (.int .i64 ((rd_T32 l0_1 x18_2).f1))).setCell ⟨gb679, 2, none⟩ (.int .i64 ((rd_T32 l0_1 x18_2).f2))).setCell ⟨gb679, 3, none⟩ (.string ((rd_T32 l0_1 x18_2).f3))).setCell ⟨gb679, 4, none⟩ (.slice A678_4 ((rd_T32 l0_1 x18_2).f4).length c678_4)).setCell ⟨gb679, 5, none⟩ (.slice A678_5 ((rd_T32 l0_1 x18_2).f5).length c678_5)).setCell ⟨gb679, 6, none⟩ (.slice A678_6 ((rd_T32 l0_1 x18_2).f6).length c678_6)).heap[gb679]? = some (.cells #[.string ((rd_T32 l0_1 x18_2).f0), .int .i64 ((rd_T32 l0_1 x18_2).f1), .int .i64 ((rd_T32 l0_1 x18_2).f2), .string ((rd_T32 l0_1 x18_2).f3), .slice A678_4 ((rd_T32 l0_1 x18_2).f4).length c678_4, .slice A678_5 ((rd_T32 l0_1 x18_2).f5).length c678_5, .slice A678_6 ((rd_T32 l0_1 x18_2).f6).length c678_6] 32 (0, 0))) := ⟨by refine bp ?_; refine blk_put (cs := #[.string ((rd_T32 l0_1 x18_2).f0), .int .i64 ((rd_T32 l0_1 x18_2).f1), .int .i64 ((rd_T32 l0_1 x18_2).f2), .string ((rd_T32 l0_1 x18_2).f3), .slice A678_4 ((rd_T32 l0_1 x18_2).f4).length c678_4, .slice A678_5 ((rd_T32 l0_1 x18_2).f5).length c678_5, .slice none 0 0]) ?_ 6 _ rfl; refine bp ?_; refine blk_put (cs := #[.string ((rd_T32 l0_1 x18_2).f0), .int .i64 ((rd_T32 l0_1 x18_2).f1), .int .i64 ((rd_T32 l0_1 x18_2).f2), .string ((rd_T32 l0_1 x18_2).f3), .slice A678_4 ((rd_T32 l0_1 x18_2).f4).length c678_4, .slice none 0 0, .slice none 0 0]) ?_ 5 _ rfl; refine bp ?_; refine blk_put (cs := #[.string ((rd_T32 l0_1 x18_2).f0), .int .i64 ((rd_T32 l0_1 x18_2).f1), .int .i64 ((rd_T32 l0_1 x18_2).f2), .string ((rd_T32 l0_1 x18_2).f3), .slice none 0 0, .slice none 0 0, .slice none 0 0]) ?_ 4 _ rfl; refine bp ?_; refine blk_put (cs := #[.string ((rd_T32 l0_1 x18_2).f0), .int .i64 ((rd_T32 l0_1 x18_2).f1), .int .i64 ((rd_T32 l0_1 x18_2).f2), .string (⟨#[]⟩ : ByteArray), .slice none 0 0, .slice none 0 0, .slice none 0 0]) ?_ 3 _ rfl; refine bp ?_; refine blk_put (cs := #[.string ((rd_T32 l0_1 x18_2).f0), .int .i64 ((rd_T32 l0_1 x18_2).f1), .int .i64 0, .string (⟨#[]⟩ : ByteArray), .slice none 0 0, .slice none 0 0, .slice none 0 0]) ?_ 2 _ rfl; refine bp ?_; refine blk_put (cs := #[.string ((rd_T32 l0_1 x18_2).f0), .int .i64 0, .int .i64 0, .string (⟨#[]⟩ : ByteArray), .slice none 0 0, .slice none 0 0, .slice none 0 0]) ?_ 1 _ rfl; refine bp ?_; refine blk_put (cs := #[.string (⟨#[]⟩ : ByteArray), .int .i64 0, .int .i64 0, .string (⟨#[]⟩ : ByteArray), .slice none 0 0, .slice none 0 0, .slice none 0 0]) ?_ 0 _ rfl; refine bp ?_; exact BK679.out⟩
                have n2_ : Aside0 (Below w.heap.size w (((((((w14.setCell ⟨gb679, 0, none⟩ (.string ((rd_T32 l0_1 x18_2).f0))).setCell ⟨gb679, 1, none⟩ (.int .i64 ((rd_T32 l0_1 x18_2).f1))).setCell ⟨gb679, 2, none⟩ (.int .i64 ((rd_T32 l0_1 x18_2).f2))).setCell ⟨gb679, 3, none⟩ (.string ((rd_T32 l0_1 x18_2).f3))).setCell ⟨gb679, 4, none⟩ (.slice A678_4 ((rd_T32 l0_1 x18_2).f4).length c678_4)).setCell ⟨gb679, 5, none⟩ (.slice A678_5 ((rd_T32 l0_1 x18_2).f5).length c678_5)).setCell ⟨gb679, 6, none⟩ (.slice A678_6 ((rd_T32 l0_1 x18_2).f6).length c678_6))) := ⟨by exact b2 HB GE676 GE679⟩
                (try clear BK676)
                (try clear BK679)
                (try clear HB)
                generalize (((((((w14.setCell ⟨gb679, 0, none⟩ (.string ((rd_T32 l0_1 x18_2).f0))).setCell ⟨gb679, 1, none⟩ (.int .i64 ((rd_T32 l0_1 x18_2).f1))).setCell ⟨gb679, 2, none⟩ (.int .i64 ((rd_T32 l0_1 x18_2).f2))).setCell ⟨gb679, 3, none⟩ (.string ((rd_T32 l0_1 x18_2).f3))).setCell ⟨gb679, 4, none⟩ (.slice A678_4 ((rd_T32 l0_1 x18_2).f4).length c678_4)).setCell ⟨gb679, 5, none⟩ (.slice A678_5 ((rd_T32 l0_1 x18_2).f5).length c678_5)).setCell ⟨gb679, 6, none⟩ (.slice A678_6 ((rd_T32 l0_1 x18_2).f6).length c678_6)) = w25 at n0_ n1_ n2_ ⊢
                have BK676 := n0_
                have BK679 := n1_
                have HB := n2_
                clear n0_ n1_ n2_
                have n0_ := zq9 (blk_drew BK676.out)
                have n1_ := zq9 (blk_drew BK679.out)
                have n2_ := zq9 (zq4 HB.out)
                clear BK676
                clear BK679
                clear HB
                have BK676 := n0_
                have BK679 := n1_
                have HB := n2_
                clear n0_ n1_ n2_
                have p681 : 0 ≤ ((ji20) : Int) := of_decide_eq_true ‹_›
                have q681 : (ji20) < (l0_1.length : Int) := of_decide_eq_true ‹_›
                obtain ⟨ad681, A681_4, c681_4, A681_5, c681_5, A681_6, c681_6, e681, hx681_0, hx681_1, hx681_2, hx681_3, hx681_4, hx681_5, hx681_6, hl681_4, hi681_4, hl681_5, hi681_5, hl681_6, hi681_6⟩ := at_T32 HR0_1.out (ji20) p681 q681
                have hw681_6 := hx681_6
                have hw681_5 := hx681_5
                have hw681_4 := hx681_4
                have hw681_3 := hx681_3
                have hw681_2 := hx681_2
                have hw681_1 := hx681_1
                have hw681_0 := hx681_0
                obtain rfl : ad678 = ad681 := (by injection e681)
                replace hx681_0 := (HB.out.cell (zq8 w _ hx681_0)).trans hx681_0
                replace hx681_1 := (HB.out.cell (zq8 w _ hx681_1)).trans hx681_1
                replace hx681_2 := (HB.out.cell (zq8 w _ hx681_2)).trans hx681_2
                replace hx681_3 := (HB.out.cell (zq8 w _ hx681_3)).trans hx681_3
                replace hx681_4 := (HB.out.cell (zq8 w _ hx681_4)).trans hx681_4
                replace hx681_5 := (HB.out.cell (zq8 w _ hx681_5)).trans hx681_5
                replace hx681_6 := (HB.out.cell (zq8 w _ hx681_6)).trans hx681_6
                have HR681_4 := zq9 hi681_4
                have HC681_4 := zq9 hl681_4
                clear hi681_4 hl681_4
                have HR681_5 := zq9 hi681_5
                have HC681_5 := zq9 hl681_5
                clear hi681_5 hl681_5
                have HR681_6 := zq9 hi681_6
                have HC681_6 := zq9 hl681_6
                clear hi681_6 hl681_6
                replace p681 := eq_true p681
                replace q681 := eq_true q681
                refine start_ (n := 31) (S := fun w' => w'.cell? ⟨gb679, 0, none⟩ = some (.string ((rd_T32 l0_1 x18_2).f0)) ∧ w'.cell? ⟨gb679, 1, none⟩ = some (.int .i64 ((rd_T32 l0_1 x18_2).f1)) ∧ w'.cell? ⟨gb679, 2, none⟩ = some (.int .i64 ((rd_T32 l0_1 x18_2).f2)) ∧ w'.cell? ⟨gb679, 3, none⟩ = some (.string ((rd_T32 l0_1 x18_2).f3)) ∧ w'.cell? ⟨gb679, 4, none⟩ = some (.slice A678_4 ((rd_T32 l0_1 x18_2).f4).length c678_4) ∧ w'.cell? ⟨gb679, 5, none⟩ = some (.slice A678_5 ((rd_T32 l0_1 x18_2).f5).length c678_5) ∧ w'.cell? ⟨gb679, 6, none⟩ = some (.slice A678_6 ((rd_T32 l0_1 x18_2).f6).length c678_6) ∧ w'.cell? ⟨gb676, 0, none⟩ = some (.int .i64 a0_0) ∧ w'.cell? ⟨gb676, 1, none⟩ = some (.slice (some ad678) l0_1.length c0_1) ∧ w'.cell? (ad678.add (((ji20)).toNat * 7)) = some (.string ((rd_T32 l0_1 (ji20)).f0)) ∧ w'.cell? ⟨(ad678.add (((ji20)).toNat * 7)).block, (ad678.add (((ji20)).toNat * 7)).off + 1, none⟩ = some (.int .i64 ((rd_T32 l0_1 (ji20)).f1)) ∧ w'.cell? ⟨(ad678.add (((ji20)).toNat * 7)).block, (ad678.add (((ji20)).toNat * 7)).off + 2, none⟩ = some (.int .i64 ((rd_T32 l0_1 (ji20)).f2)) ∧ w'.cell? ⟨(ad678.add (((ji20)).toNat * 7)).block, (ad678.add (((ji20)).toNat * 7)).off + 3, none⟩ = some (.string ((rd_T32 l0_1 (ji20)).f3)) ∧ w'.cell? ⟨(ad678.add (((ji20)).toNat * 7)).block, (ad678.add (((ji20)).toNat * 7)).off + 4, none⟩ = some (.slice A681_4 ((rd_T32 l0_1 (ji20)).f4).length c681_4) ∧ w'.cell? ⟨(ad678.add (((ji20)).toNat * 7)).block, (ad678.add (((ji20)).toNat * 7)).off + 5, none⟩ = some (.slice A681_5 ((rd_T32 l0_1 (ji20)).f5).length c681_5) ∧ w'.cell? ⟨(ad678.add (((ji20)).toNat * 7)).block, (ad678.add (((ji20)).toNat * 7)).off + 6, none⟩ = some (.slice A681_6 ((rd_T32 l0_1 (ji20)).f6).length c681_6)) (ds := []) #[false, false, false, false, false, false, false, false, false, false, false, false, false, false, false, false, false, false, false, false, false, false, false, false, false, false, false, false, false, false, false] (by kernel_rfl) rfl rfl ⟨bc BK679 0, bc BK679 1, bc BK679 2, bc BK679 3, bc BK679 4, bc BK679 5, bc BK679 6, bc BK676 0, bc BK676 1, ((HB.out.cell (zq8 w _ hw681_0)).trans hw681_0), ((HB.out.cell (zq8 w _ hw681_1)).trans hw681_1), ((HB.out.cell (zq8 w _ hw681_2)).trans hw681_2), ((HB.out.cell (zq8 w _ hw681_3)).trans hw681_3), ((HB.out.cell (zq8 w _ hw681_4)).trans hw681_4), ((HB.out.cell (zq8 w _ hw681_5)).trans hw681_5), ((HB.out.cell (zq8 w _ hw681_6)).trans hw681_6)⟩ (fun hHeld => ?_); refine with_tabW impl_BaseOk.tab6 impl_BaseOk.bits6 (fun HT_ HW_ => ?_)
                generalize w25.drew = w26 at BK676 BK679 HB HR681_4 HR681_5 HR681_6 hx681_0 hx681_1 hx681_2 hx681_3 hx681_4 hx681_5 hx681_6 hHeld ⊢
                refine take_ (i := 0) (N := some 23) (v := ?_) (a' := ?_) (zb 31 1) rfl rfl (take_ofW HT_.out HW_.out (by kernel_rfl)) (fun _ _ _ h => h) (Or.inl ⟨by rfl, ?_⟩) hHeld ?_ ?_
                rotate_left; ·rintro w' ⟨s0, s1, s2, s3, s4, s5, s6, s7, s8, s9, s10, s11, s12, s13, s14, s15⟩; go_simp; with_reducible rfl
                rotate_left; ·simp only [Act.put, zq0, zq1, zq2, i64_w, i32_w]; rfl
                refine one_ (i := 1) (N := some 24) (zb 31 3) rfl rfl (one_of HT_.out (by kernel_rfl)) (by decide) (fun K hK => ?_)
                refine gs Try.func13 #[.agg #[.string ((rd_T32 l0_1 x18_2).f0), .int .i64 ((rd_T32 l0_1 x18_2).f1), .int .i64 ((rd_T32 l0_1 x18_2).f2), .string ((rd_T32 l0_1 x18_2).f3), .slice A678_4 ((rd_T32 l0_1 x18_2).f4).length c678_4, .slice A678_5 ((rd_T32 l0_1 x18_2).f5).length c678_5, .slice A678_6 ((rd_T32 l0_1 x18_2).f6).length c678_6]] ?_
                with_reducible refine (impl_EntryOk.calls k2 ((rd_T32 l0_1 x18_2).f0) ((rd_T32 l0_1 x18_2).f1) ((rd_T32 l0_1 x18_2).f2) ((rd_T32 l0_1 x18_2).f3) _ _ ((rd_T32 l0_1 x18_2).f4) _ _ ((rd_T32 l0_1 x18_2).f5) _ _ ((rd_T32 l0_1 x18_2).f6) true _ ?side1 ?side2 ?side3 ?side4 ?side5 ?side6 A17.out).mono ?_
                (case side1 => exact kc HR678_4 HB)
                (case side2 => exact HC678_4.out)
                (case side3 => exact kc HR678_5 HB)
                (case side4 => exact HC678_5.out)
                (case side5 => exact kc HR678_6 HB)
                (case side6 => exact HC678_6.out)
                rintro e w27 ⟨rfl, hb⟩
                refine ⟨_, rfl, ?_⟩
                have n0_ := zq9 (zq30 (g := gb676) (o := .cells #[.int .i64 a0_0, .slice (some ad678) l0_1.length c0_1] 46 (0, 0)) (by exact bk BK676) hb)
                have n1_ := zq9 (zq30 (g := gb679) (o := .cells #[.string ((rd_T32 l0_1 x18_2).f0), .int .i64 ((rd_T32 l0_1 x18_2).f1), .int .i64 ((rd_T32 l0_1 x18_2).f2), .string ((rd_T32 l0_1 x18_2).f3), .slice A678_4 ((rd_T32 l0_1 x18_2).f4).length c678_4, .slice A678_5 ((rd_T32 l0_1 x18_2).f5).length c678_5, .slice A678_6 ((rd_T32 l0_1 x18_2).f6).length c678_6] 32 (0, 0)) (by exact bk BK679) hb)
                have n2_ := zq9 (zq27 (by exact b2 HB GE676 GE679) hb)
                clear BK676
                clear BK679
                clear HB
                have BK676 := n0_
                have BK679 := n1_
                have HB := n2_
                clear n0_ n1_ n2_
                (try clear hb)
                (try clear hb2)
                (try clear hk)
                (try clear hi)
                refine hK.out _ _ ⟨bc BK679 0, bc BK679 1, bc BK679 2, bc BK679 3, bc BK679 4, bc BK679 5, bc BK679 6, bc BK676 0, bc BK676 1, ((HB.out.cell (zq8 w _ hw681_0)).trans hw681_0), ((HB.out.cell (zq8 w _ hw681_1)).trans hw681_1), ((HB.out.cell (zq8 w _ hw681_2)).trans hw681_2), ((HB.out.cell (zq8 w _ hw681_3)).trans hw681_3), ((HB.out.cell (zq8 w _ hw681_4)).trans hw681_4), ((HB.out.cell (zq8 w _ hw681_5)).trans hw681_5), ((HB.out.cell (zq8 w _ hw681_6)).trans hw681_6)⟩ (fun hHeld => ?_)
                clear hK K
                refine norm_ (a' := ?_) ?_ ?_
                rotate_left; ·show Act.put _ (some 24) _ = _; simp only [Act.put, zq0, zq1, zq2, i64_w, i32_w]; rfl
                refine pa HT_ 2 25 (zb 31 7) ?_
                refine pa HT_ 3 26 (zb 31 15) ?_
                refine pa HT_ 4 27 (zb 31 31) ?_
                refine pa HT_ 5 28 (zb 31 63) ?_
                refine pa HT_ 6 29 (zb 31 127) ?_
                refine pa HT_ 7 30 (zb 31 255) ?_
                refine pa HT_ 9 32 (zb 31 767) ?_
                refine pa HT_ 10 33 (zb 31 1791) ?_
                refine pa HT_ 14 37 (zb 31 18175) ?_
                refine take_ (i := 8) (N := some 31) (v := ?_) (a' := ?_) (zb 31 18431) rfl rfl (take_ofW HT_.out HW_.out (by kernel_rfl)) (fun _ _ _ h => h) (Or.inl ⟨by rfl, ?_⟩) hHeld ?_ ?_
                rotate_left; ·rintro w' ⟨s0, s1, s2, s3, s4, s5, s6, s7, s8, s9, s10, s11, s12, s13, s14, s15⟩; go_simp; with_reducible rfl
                rotate_left; ·simp only [Act.put, zq0, zq1, zq2, i64_w, i32_w]; rfl
                refine pa HT_ 11 34 (zb 31 20479) ?_
                refine pa HT_ 12 35 (zb 31 24575) ?_
                refine take_ (i := 13) (N := some 36) (v := ?_) (a' := ?_) (zb 31 32767) rfl rfl (take_ofW HT_.out HW_.out (by kernel_rfl)) (fun _ _ _ h => h) (Or.inl ⟨by rfl, ?_⟩) hHeld ?_ ?_
                rotate_left; ·rintro w' ⟨s0, s1, s2, s3, s4, s5, s6, s7, s8, s9, s10, s11, s12, s13, s14, s15⟩; go_simp; with_reducible rfl
                rotate_left; ·simp only [Act.put, zq0, zq1, zq2, i64_w, i32_w]; rfl
                refine take_ (i := 15) (N := some 38) (v := ?_) (a' := ?_) (zb 31 65535) rfl rfl (take_ofW HT_.out HW_.out (by kernel_rfl)) (fun _ _ _ h => h) (Or.inl ⟨by rfl, ?_⟩) hHeld ?_ ?_
                rotate_left; ·rintro w' ⟨s0, s1, s2, s3, s4, s5, s6, s7, s8, s9, s10, s11, s12, s13, s14, s15⟩; go_simp; with_reducible rfl
                rotate_left; ·simp only [Act.put, zq0, zq1, zq2, i64_w, i32_w]; rfl
                refine pa HT_ 16 39 (zb 31 131071) ?_
                refine pa HT_ 17 40 (zb 31 262143) ?_
                refine pa HT_ 18 41 (zb 31 524287) ?_
                refine pa HT_ 19 42 (zb 31 1048575) ?_
                refine pa HT_ 20 43 (zb 31 2097151) ?_
                refine take_ (i := 21) (N := some 44) (v := ?_) (a' := ?_) (zb 31 4194303) rfl rfl (take_ofW HT_.out HW_.out (by kernel_rfl)) (fun _ _ _ h => h) (Or.inl ⟨by rfl, ?_⟩) hHeld ?_ ?_
                rotate_left; ·rintro w' ⟨s0, s1, s2, s3, s4, s5, s6, s7, s8, s9, s10, s11, s12, s13, s14, s15⟩; go_simp; with_reducible rfl
                rotate_left; ·simp only [Act.put, zq0, zq1, zq2, i64_w, i32_w]; rfl
                refine pa HT_ 22 45 (zb 31 8388607) ?_
                refine pa HT_ 23 46 (zb 31 16777215) ?_
                refine pb HT_ 24 47 (zb 31 33554431) ?_
                refine pb HT_ 25 48 (zb 31 67108863) ?_
                refine pb HT_ 26 49 (zb 31 134217727) ?_
                refine pb HT_ 27 50 (zb 31 268435455) ?_
                refine pb HT_ 28 51 (zb 31 536870911) ?_
                refine pa HT_ 29 52 (zb 31 1073741823) ?_
                refine pa HT_ 30 53 (zb 31 2147483647) ?_
                refine done_ (done_of HT_.out (by kernel_rfl)) ?_
                try go_wp2
                go_meet
                case rel => exact ⟨_, (false), (by first | rfl | (simp; done) | (simp [*]; done)), H', ⟨by have := HJ1.out; have := HK2.out; first | omega | exact Nat.le_refl _⟩, ⟨by refine bp ?_; exact BK676.out⟩, ⟨by refine bp ?_; exact BK679.out⟩, ⟨by exact b2 HB GE676 GE679⟩⟩
               ·rw [if_neg c24] at H
                have c24b0 : (((rd_T32 l0_1 x18_2).f1) == 0) = false := beq_eq_false_iff_ne.mpr c24
                have c24b1 : (((rd_T32 l0_1 x18_2).f1) != 0) = true := bne_iff_ne.mpr c24
                have H' := zq9 H
                clear H
                try go_wp2
                have n0_ : Aside0 ((((((((w14.setCell ⟨gb679, 0, none⟩ (.string ((rd_T32 l0_1 x18_2).f0))).setCell ⟨gb679, 1, none⟩ (.int .i64 ((rd_T32 l0_1 x18_2).f1))).setCell ⟨gb679, 2, none⟩ (.int .i64 ((rd_T32 l0_1 x18_2).f2))).setCell ⟨gb679, 3, none⟩ (.string ((rd_T32 l0_1 x18_2).f3))).setCell ⟨gb679, 4, none⟩ (.slice A678_4 ((rd_T32 l0_1 x18_2).f4).length c678_4)).setCell ⟨gb679, 5, none⟩ (.slice A678_5 ((rd_T32 l0_1 x18_2).f5).length c678_5)).setCell ⟨gb679, 6, none⟩ (.slice A678_6 ((rd_T32 l0_1 x18_2).f6).length c678_6)).heap[gb676]? = some (.cells #[.int .i64 a0_0, .slice (some ad678) l0_1.length c0_1] 46 (0, 0))) := ⟨by refine bp ?_; refine blk_far ?_ NB676_679.out _; refine bp ?_; refine blk_far ?_ NB676_679.out _; refine bp ?_; refine blk_far ?_ NB676_679.out _; refine bp ?_; refine blk_far ?_ NB676_679.out _; refine bp ?_; refine blk_far ?_ NB676_679.out _; refine bp ?_; refine blk_far ?_ NB676_679.out _; refine bp ?_; refine blk_far ?_ NB676_679.out _; refine bp ?_; exact BK676.out⟩
                have n1_ : Aside0 ((((((((w14.setCell ⟨gb679, 0, none⟩ (.string ((rd_T32 l0_1 x18_2).f0))).setCell ⟨gb679, 1, none⟩ (.int .i64 ((rd_T32 l0_1 x18_2).f1))).setCell ⟨gb679, 2, none⟩ (.int .i64 ((rd_T32 l0_1 x18_2).f2))).setCell ⟨gb679, 3, none⟩ (.string ((rd_T32 l0_1 x18_2).f3))).setCell ⟨gb679, 4, none⟩ (.slice A678_4 ((rd_T32 l0_1 x18_2).f4).length c678_4)).setCell ⟨gb679, 5, none⟩ (.slice A678_5 ((rd_T32 l0_1 x18_2).f5).length c678_5)).setCell ⟨gb679, 6, none⟩ (.slice A678_6 ((rd_T32 l0_1 x18_2).f6).length c678_6)).heap[gb679]? = some (.cells #[.string ((rd_T32 l0_1 x18_2).f0), .int .i64 ((rd_T32 l0_1 x18_2).f1), .int .i64 ((rd_T32 l0_1 x18_2).f2), .string ((rd_T32 l0_1 x18_2).f3), .slice A678_4 ((rd_T32 l0_1 x18_2).f4).length c678_4, .slice A678_5 ((rd_T32 l0_1 x18_2).f5).length c678_5, .slice A678_6 ((rd_T32 l0_1 x18_2).f6).length c678_6] 32 (0, 0))) := ⟨by refine bp ?_; refine blk_put (cs := #[.string ((rd_T32 l0_1 x18_2).f0), .int .i64 ((rd_T32 l0_1 x18_2).f1), .int .i64 ((rd_T32 l0_1 x18_2).f2), .string ((rd_T32 l0_1 x18_2).f3), .slice A678_4 ((rd_T32 l0_1 x18_2).f4).length c678_4, .slice A678_5 ((rd_T32 l0_1 x18_2).f5).length c678_5, .slice none 0 0]) ?_ 6 _ rfl; refine bp ?_; refine blk_put (cs := #[.string ((rd_T32 l0_1 x18_2).f0), .int .i64 ((rd_T32 l0_1 x18_2).f1), .int .i64 ((rd_T32 l0_1 x18_2).f2), .string ((rd_T32 l0_1 x18_2).f3), .slice A678_4 ((rd_T32 l0_1 x18_2).f4).length c678_4, .slice none 0 0, .slice none 0 0]) ?_ 5 _ rfl; refine bp ?_; refine blk_put (cs := #[.string ((rd_T32 l0_1 x18_2).f0), .int .i64 ((rd_T32 l0_1 x18_2).f1), .int .i64 ((rd_T32 l0_1 x18_2).f2), .string ((rd_T32 l0_1 x18_2).f3), .slice none 0 0, .slice none 0 0, .slice none 0 0]) ?_ 4 _ rfl; refine bp ?_; refine blk_put (cs := #[.string ((rd_T32 l0_1 x18_2).f0), .int .i64 ((rd_T32 l0_1 x18_2).f1), .int .i64 ((rd_T32 l0_1 x18_2).f2), .string (⟨#[]⟩ : ByteArray), .slice none 0 0, .slice none 0 0, .slice none 0 0]) ?_ 3 _ rfl; refine bp ?_; refine blk_put (cs := #[.string ((rd_T32 l0_1 x18_2).f0), .int .i64 ((rd_T32 l0_1 x18_2).f1), .int .i64 0, .string (⟨#[]⟩ : ByteArray), .slice none 0 0, .slice none 0 0, .slice none 0 0]) ?_ 2 _ rfl; refine bp ?_; refine blk_put (cs := #[.string ((rd_T32 l0_1 x18_2).f0), .int .i64 0, .int .i64 0, .string (⟨#[]⟩ : ByteArray), .slice none 0 0, .slice none 0 0, .slice none 0 0]) ?_ 1 _ rfl; refine bp ?_; refine blk_put (cs := #[.string (⟨#[]⟩ : ByteArray), .int .i64 0, .int .i64 0, .string (⟨#[]⟩ : ByteArray), .slice none 0 0, .slice none 0 0, .slice none 0 0]) ?_ 0 _ rfl; refine bp ?_; exact BK679.out⟩
                have n2_ : Aside0 (Below w.heap.size w (((((((w14.setCell ⟨gb679, 0, none⟩ (.string ((rd_T32 l0_1 x18_2).f0))).setCell ⟨gb679, 1, none⟩ (.int .i64 ((rd_T32 l0_1 x18_2).f1))).setCell ⟨gb679, 2, none⟩ (.int .i64 ((rd_T32 l0_1 x18_2).f2))).setCell ⟨gb679, 3, none⟩ (.string ((rd_T32 l0_1 x18_2).f3))).setCell ⟨gb679, 4, none⟩ (.slice A678_4 ((rd_T32 l0_1 x18_2).f4).length c678_4)).setCell ⟨gb679, 5, none⟩ (.slice A678_5 ((rd_T32 l0_1 x18_2).f5).length c678_5)).setCell ⟨gb679, 6, none⟩ (.slice A678_6 ((rd_T32 l0_1 x18_2).f6).length c678_6))) := ⟨by exact b2 HB GE676 GE679⟩
                (try clear BK676)
                (try clear BK679)
                (try clear HB)
                generalize (((((((w14.setCell ⟨gb679, 0, none⟩ (.string ((rd_T32 l0_1 x18_2).f0))).setCell ⟨gb679, 1, none⟩ (.int .i64 ((rd_T32 l0_1 x18_2).f1))).setCell ⟨gb679, 2, none⟩ (.int .i64 ((rd_T32 l0_1 x18_2).f2))).setCell ⟨gb679, 3, none⟩ (.string ((rd_T32 l0_1 x18_2).f3))).setCell ⟨gb679, 4, none⟩ (.slice A678_4 ((rd_T32 l0_1 x18_2).f4).length c678_4)).setCell ⟨gb679, 5, none⟩ (.slice A678_5 ((rd_T32 l0_1 x18_2).f5).length c678_5)).setCell ⟨gb679, 6, none⟩ (.slice A678_6 ((rd_T32 l0_1 x18_2).f6).length c678_6)) = w28 at n0_ n1_ n2_ ⊢
                have BK676 := n0_
                have BK679 := n1_
                have HB := n2_
                clear n0_ n1_ n2_
                have n0_ := zq9 (blk_drew BK676.out)
                have n1_ := zq9 (blk_drew BK679.out)
                have n2_ := zq9 (zq4 HB.out)
                clear BK676
                clear BK679
                clear HB
                have BK676 := n0_
                have BK679 := n1_
                have HB := n2_
                clear n0_ n1_ n2_
                have p681 : 0 ≤ ((ji20) : Int) := of_decide_eq_true ‹_›
                have q681 : (ji20) < (l0_1.length : Int) := of_decide_eq_true ‹_›
                obtain ⟨ad681, A681_4, c681_4, A681_5, c681_5, A681_6, c681_6, e681, hx681_0, hx681_1, hx681_2, hx681_3, hx681_4, hx681_5, hx681_6, hl681_4, hi681_4, hl681_5, hi681_5, hl681_6, hi681_6⟩ := at_T32 HR0_1.out (ji20) p681 q681
                have hw681_6 := hx681_6
                have hw681_5 := hx681_5
                have hw681_4 := hx681_4
                have hw681_3 := hx681_3
                have hw681_2 := hx681_2
                have hw681_1 := hx681_1
                have hw681_0 := hx681_0
                obtain rfl : ad678 = ad681 := (by injection e681)
                replace hx681_0 := (HB.out.cell (zq8 w _ hx681_0)).trans hx681_0
                replace hx681_1 := (HB.out.cell (zq8 w _ hx681_1)).trans hx681_1
                replace hx681_2 := (HB.out.cell (zq8 w _ hx681_2)).trans hx681_2
                replace hx681_3 := (HB.out.cell (zq8 w _ hx681_3)).trans hx681_3
                replace hx681_4 := (HB.out.cell (zq8 w _ hx681_4)).trans hx681_4
                replace hx681_5 := (HB.out.cell (zq8 w _ hx681_5)).trans hx681_5
                replace hx681_6 := (HB.out.cell (zq8 w _ hx681_6)).trans hx681_6
                have HR681_4 := zq9 hi681_4
                have HC681_4 := zq9 hl681_4
                clear hi681_4 hl681_4
                have HR681_5 := zq9 hi681_5
                have HC681_5 := zq9 hl681_5
                clear hi681_5 hl681_5
                have HR681_6 := zq9 hi681_6
                have HC681_6 := zq9 hl681_6
                clear hi681_6 hl681_6
                replace p681 := eq_true p681
                replace q681 := eq_true q681
                refine start_ (n := 31) (S := fun w' => w'.cell? ⟨gb679, 0, none⟩ = some (.string ((rd_T32 l0_1 x18_2).f0)) ∧ w'.cell? ⟨gb679, 1, none⟩ = some (.int .i64 ((rd_T32 l0_1 x18_2).f1)) ∧ w'.cell? ⟨gb679, 2, none⟩ = some (.int .i64 ((rd_T32 l0_1 x18_2).f2)) ∧ w'.cell? ⟨gb679, 3, none⟩ = some (.string ((rd_T32 l0_1 x18_2).f3)) ∧ w'.cell? ⟨gb679, 4, none⟩ = some (.slice A678_4 ((rd_T32 l0_1 x18_2).f4).length c678_4) ∧ w'.cell? ⟨gb679, 5, none⟩ = some (.slice A678_5 ((rd_T32 l0_1 x18_2).f5).length c678_5) ∧ w'.cell? ⟨gb679, 6, none⟩ = some (.slice A678_6 ((rd_T32 l0_1 x18_2).f6).length c678_6) ∧ w'.cell? ⟨gb676, 0, none⟩ = some (.int .i64 a0_0) ∧ w'.cell? ⟨gb676, 1, none⟩ = some (.slice (some ad678) l0_1.length c0_1) ∧ w'.cell? (ad678.add (((ji20)).toNat * 7)) = some (.string ((rd_T32 l0_1 (ji20)).f0)) ∧ w'.cell? ⟨(ad678.add (((ji20)).toNat * 7)).block, (ad678.add (((ji20)).toNat * 7)).off + 1, none⟩ = some (.int .i64 ((rd_T32 l0_1 (ji20)).f1)) ∧ w'.cell? ⟨(ad678.add (((ji20)).toNat * 7)).block, (ad678.add (((ji20)).toNat * 7)).off + 2, none⟩ = some (.int .i64 ((rd_T32 l0_1 (ji20)).f2)) ∧ w'.cell? ⟨(ad678.add (((ji20)).toNat * 7)).block, (ad678.add (((ji20)).toNat * 7)).off + 3, none⟩ = some (.string ((rd_T32 l0_1 (ji20)).f3)) ∧ w'.cell? ⟨(ad678.add (((ji20)).toNat * 7)).block, (ad678.add (((ji20)).toNat * 7)).off + 4, none⟩ = some (.slice A681_4 ((rd_T32 l0_1 (ji20)).f4).length c681_4) ∧ w'.cell? ⟨(ad678.add (((ji20)).toNat * 7)).block, (ad678.add (((ji20)).toNat * 7)).off + 5, none⟩ = some (.slice A681_5 ((rd_T32 l0_1 (ji20)).f5).length c681_5) ∧ w'.cell? ⟨(ad678.add (((ji20)).toNat * 7)).block, (ad678.add (((ji20)).toNat * 7)).off + 6, none⟩ = some (.slice A681_6 ((rd_T32 l0_1 (ji20)).f6).length c681_6)) (ds := []) #[false, false, false, false, false, false, false, false, false, false, false, false, false, false, false, false, false, false, false, false, false, false, false, false, false, false, false, false, false, false, false] (by kernel_rfl) rfl rfl ⟨bc BK679 0, bc BK679 1, bc BK679 2, bc BK679 3, bc BK679 4, bc BK679 5, bc BK679 6, bc BK676 0, bc BK676 1, ((HB.out.cell (zq8 w _ hw681_0)).trans hw681_0), ((HB.out.cell (zq8 w _ hw681_1)).trans hw681_1), ((HB.out.cell (zq8 w _ hw681_2)).trans hw681_2), ((HB.out.cell (zq8 w _ hw681_3)).trans hw681_3), ((HB.out.cell (zq8 w _ hw681_4)).trans hw681_4), ((HB.out.cell (zq8 w _ hw681_5)).trans hw681_5), ((HB.out.cell (zq8 w _ hw681_6)).trans hw681_6)⟩ (fun hHeld => ?_); refine with_tabW impl_BaseOk.tab6 impl_BaseOk.bits6 (fun HT_ HW_ => ?_)
                generalize w28.drew = w29 at BK676 BK679 HB HR681_4 HR681_5 HR681_6 hx681_0 hx681_1 hx681_2 hx681_3 hx681_4 hx681_5 hx681_6 hHeld ⊢
                refine take_ (i := 0) (N := some 23) (v := ?_) (a' := ?_) (zb 31 1) rfl rfl (take_ofW HT_.out HW_.out (by kernel_rfl)) (fun _ _ _ h => h) (Or.inl ⟨by rfl, ?_⟩) hHeld ?_ ?_
                rotate_left; ·rintro w' ⟨s0, s1, s2, s3, s4, s5, s6, s7, s8, s9, s10, s11, s12, s13, s14, s15⟩; go_simp; with_reducible rfl
                rotate_left; ·simp only [Act.put, zq0, zq1, zq2, i64_w, i32_w]; rfl
                refine one_ (i := 1) (N := some 24) (zb 31 3) rfl rfl (one_of HT_.out (by kernel_rfl)) (by decide) (fun K hK => ?_)
                refine gs Try.func13 #[.agg #[.string ((rd_T32 l0_1 x18_2).f0), .int .i64 ((rd_T32 l0_1 x18_2).f1), .int .i64 ((rd_T32 l0_1 x18_2).f2), .string ((rd_T32 l0_1 x18_2).f3), .slice A678_4 ((rd_T32 l0_1 x18_2).f4).length c678_4, .slice A678_5 ((rd_T32 l0_1 x18_2).f5).length c678_5, .slice A678_6 ((rd_T32 l0_1 x18_2).f6).length c678_6]] ?_
                with_reducible refine (impl_EntryOk.calls k2 ((rd_T32 l0_1 x18_2).f0) ((rd_T32 l0_1 x18_2).f1) ((rd_T32 l0_1 x18_2).f2) ((rd_T32 l0_1 x18_2).f3) _ _ ((rd_T32 l0_1 x18_2).f4) _ _ ((rd_T32 l0_1 x18_2).f5) _ _ ((rd_T32 l0_1 x18_2).f6) true _ ?side1 ?side2 ?side3 ?side4 ?side5 ?side6 A17.out).mono ?_
                (case side1 => exact kc HR678_4 HB)
                (case side2 => exact HC678_4.out)
                (case side3 => exact kc HR678_5 HB)
                (case side4 => exact HC678_5.out)
                (case side5 => exact kc HR678_6 HB)
                (case side6 => exact HC678_6.out)
                rintro e w30 ⟨rfl, hb⟩
                refine ⟨_, rfl, ?_⟩
                have n0_ := zq9 (zq30 (g := gb676) (o := .cells #[.int .i64 a0_0, .slice (some ad678) l0_1.length c0_1] 46 (0, 0)) (by exact bk BK676) hb)
                have n1_ := zq9 (zq30 (g := gb679) (o := .cells #[.string ((rd_T32 l0_1 x18_2).f0), .int .i64 ((rd_T32 l0_1 x18_2).f1), .int .i64 ((rd_T32 l0_1 x18_2).f2), .string ((rd_T32 l0_1 x18_2).f3), .slice A678_4 ((rd_T32 l0_1 x18_2).f4).length c678_4, .slice A678_5 ((rd_T32 l0_1 x18_2).f5).length c678_5, .slice A678_6 ((rd_T32 l0_1 x18_2).f6).length c678_6] 32 (0, 0)) (by exact bk BK679) hb)
                have n2_ := zq9 (zq27 (by exact b2 HB GE676 GE679) hb)
                clear BK676
                clear BK679
                clear HB
                have BK676 := n0_
                have BK679 := n1_
                have HB := n2_
                clear n0_ n1_ n2_
                (try clear hb)
                (try clear hb2)
                (try clear hk)
                (try clear hi)
                refine hK.out _ _ ⟨bc BK679 0, bc BK679 1, bc BK679 2, bc BK679 3, bc BK679 4, bc BK679 5, bc BK679 6, bc BK676 0, bc BK676 1, ((HB.out.cell (zq8 w _ hw681_0)).trans hw681_0), ((HB.out.cell (zq8 w _ hw681_1)).trans hw681_1), ((HB.out.cell (zq8 w _ hw681_2)).trans hw681_2), ((HB.out.cell (zq8 w _ hw681_3)).trans hw681_3), ((HB.out.cell (zq8 w _ hw681_4)).trans hw681_4), ((HB.out.cell (zq8 w _ hw681_5)).trans hw681_5), ((HB.out.cell (zq8 w _ hw681_6)).trans hw681_6)⟩ (fun hHeld => ?_)
                clear hK K
                refine norm_ (a' := ?_) ?_ ?_
                rotate_left; ·show Act.put _ (some 24) _ = _; simp only [Act.put, zq0, zq1, zq2, i64_w, i32_w]; rfl
                refine pa HT_ 2 25 (zb 31 7) ?_
                refine pa HT_ 3 26 (zb 31 15) ?_
                refine pa HT_ 4 27 (zb 31 31) ?_
                refine pa HT_ 5 28 (zb 31 63) ?_
                refine pa HT_ 6 29 (zb 31 127) ?_
                refine pa HT_ 7 30 (zb 31 255) ?_
                refine pa HT_ 9 32 (zb 31 767) ?_
                refine pa HT_ 10 33 (zb 31 1791) ?_
                refine pa HT_ 14 37 (zb 31 18175) ?_
                refine take_ (i := 8) (N := some 31) (v := ?_) (a' := ?_) (zb 31 18431) rfl rfl (take_ofW HT_.out HW_.out (by kernel_rfl)) (fun _ _ _ h => h) (Or.inl ⟨by rfl, ?_⟩) hHeld ?_ ?_
                rotate_left; ·rintro w' ⟨s0, s1, s2, s3, s4, s5, s6, s7, s8, s9, s10, s11, s12, s13, s14, s15⟩; go_simp; with_reducible rfl
                rotate_left; ·simp only [Act.put, zq0, zq1, zq2, i64_w, i32_w]; rfl
                refine pa HT_ 11 34 (zb 31 20479) ?_
                refine pa HT_ 12 35 (zb 31 24575) ?_
                refine take_ (i := 13) (N := some 36) (v := ?_) (a' := ?_) (zb 31 32767) rfl rfl (take_ofW HT_.out HW_.out (by kernel_rfl)) (fun _ _ _ h => h) (Or.inl ⟨by rfl, ?_⟩) hHeld ?_ ?_
                rotate_left; ·rintro w' ⟨s0, s1, s2, s3, s4, s5, s6, s7, s8, s9, s10, s11, s12, s13, s14, s15⟩; go_simp; with_reducible rfl
                rotate_left; ·simp only [Act.put, zq0, zq1, zq2, i64_w, i32_w]; rfl
                refine take_ (i := 15) (N := some 38) (v := ?_) (a' := ?_) (zb 31 65535) rfl rfl (take_ofW HT_.out HW_.out (by kernel_rfl)) (fun _ _ _ h => h) (Or.inl ⟨by rfl, ?_⟩) hHeld ?_ ?_
                rotate_left; ·rintro w' ⟨s0, s1, s2, s3, s4, s5, s6, s7, s8, s9, s10, s11, s12, s13, s14, s15⟩; go_simp; with_reducible rfl
                rotate_left; ·simp only [Act.put, zq0, zq1, zq2, i64_w, i32_w]; rfl
                refine pa HT_ 16 39 (zb 31 131071) ?_
                refine pa HT_ 17 40 (zb 31 262143) ?_
                refine pa HT_ 18 41 (zb 31 524287) ?_
                refine pa HT_ 19 42 (zb 31 1048575) ?_
                refine pa HT_ 20 43 (zb 31 2097151) ?_
                refine take_ (i := 21) (N := some 44) (v := ?_) (a' := ?_) (zb 31 4194303) rfl rfl (take_ofW HT_.out HW_.out (by kernel_rfl)) (fun _ _ _ h => h) (Or.inl ⟨by rfl, ?_⟩) hHeld ?_ ?_
                rotate_left; ·rintro w' ⟨s0, s1, s2, s3, s4, s5, s6, s7, s8, s9, s10, s11, s12, s13, s14, s15⟩; go_simp; with_reducible rfl
                rotate_left; ·simp only [Act.put, zq0, zq1, zq2, i64_w, i32_w]; rfl
                refine pa HT_ 22 45 (zb 31 8388607) ?_
                refine pa HT_ 23 46 (zb 31 16777215) ?_
                refine pa HT_ 24 47 (zb 31 33554431) ?_
                refine pa HT_ 26 49 (zb 31 100663295) ?_
                refine take_ (i := 25) (N := some 48) (v := ?_) (a' := ?_) (zb 31 134217727) rfl rfl (take_ofW HT_.out HW_.out (by kernel_rfl)) (fun _ _ _ h => h) (Or.inl ⟨by rfl, ?_⟩) hHeld ?_ ?_
                rotate_left; ·rintro w' ⟨s0, s1, s2, s3, s4, s5, s6, s7, s8, s9, s10, s11, s12, s13, s14, s15⟩; go_simp; with_reducible rfl
                rotate_left; ·simp only [Act.put, zq0, zq1, zq2, i64_w, i32_w]; rfl
                refine take_ (i := 27) (N := some 50) (v := ?_) (a' := ?_) (zb 31 268435455) rfl rfl (take_ofW HT_.out HW_.out (by kernel_rfl)) (fun _ _ _ h => h) (Or.inl ⟨by rfl, ?_⟩) hHeld ?_ ?_
                rotate_left; ·rintro w' ⟨s0, s1, s2, s3, s4, s5, s6, s7, s8, s9, s10, s11, s12, s13, s14, s15⟩; go_simp; with_reducible rfl
                rotate_left; ·simp only [Act.put, zq0, zq1, zq2, i64_w, i32_w]; rfl
                refine pa HT_ 28 51 (zb 31 536870911) ?_
                refine pa HT_ 29 52 (zb 31 1073741823) ?_
                refine pa HT_ 30 53 (zb 31 2147483647) ?_
                refine done_ (done_of HT_.out (by kernel_rfl)) ?_
                try go_wp2
                go_meet
                case rel => exact ⟨_, (decide (((rd_T32 l0_1 x18_2).f1) ≤ a0_0)), (by first | rfl | (simp; done) | (simp [*]; done)), H', ⟨by have := HJ1.out; have := HK2.out; first | omega | exact Nat.le_refl _⟩, ⟨by refine bp ?_; exact BK676.out⟩, ⟨by refine bp ?_; exact BK679.out⟩, ⟨by exact b2 HB GE676 GE679⟩⟩
              ·rw [if_neg c23] at H
               have c23b0 : (Op.bytesLess (((rd_T32 l0_1 (ji20)).f0).toList) (((rd_T32 l0_1 x18_2).f0).toList)) = false := by simpa using c23
               clear c23
               have H' := zq9 H
               clear H
               try go_wp2
               have n0_ : Aside0 ((((((((w14.setCell ⟨gb679, 0, none⟩ (.string ((rd_T32 l0_1 x18_2).f0))).setCell ⟨gb679, 1, none⟩ (.int .i64 ((rd_T32 l0_1 x18_2).f1))).setCell ⟨gb679, 2, none⟩ (.int .i64 ((rd_T32 l0_1 x18_2).f2))).setCell ⟨gb679, 3, none⟩ (.string ((rd_T32 l0_1 x18_2).f3))).setCell ⟨gb679, 4, none⟩ (.slice A678_4 ((rd_T32 l0_1 x18_2).f4).length c678_4)).setCell ⟨gb679, 5, none⟩ (.slice A678_5 ((rd_T32 l0_1 x18_2).f5).length c678_5)).setCell ⟨gb679, 6, none⟩ (.slice A678_6 ((rd_T32 l0_1 x18_2).f6).length c678_6)).heap[gb676]? = some (.cells #[.int .i64 a0_0, .slice (some ad678) l0_1.length c0_1] 46 (0, 0))) := ⟨by refine bp ?_; refine blk_far ?_ NB676_679.out _; refine bp ?_; refine blk_far ?_ NB676_679.out _; refine bp ?_; refine blk_far ?_ NB676_679.out _; refine bp ?_; refine blk_far ?_ NB676_679.out _; refine bp ?_; refine blk_far ?_ NB676_679.out _; refine bp ?_; refine blk_far ?_ NB676_679.out _; refine bp ?_; refine blk_far ?_ NB676_679.out _; refine bp ?_; exact BK676.out⟩
               have n1_ : Aside0 ((((((((w14.setCell ⟨gb679, 0, none⟩ (.string ((rd_T32 l0_1 x18_2).f0))).setCell ⟨gb679, 1, none⟩ (.int .i64 ((rd_T32 l0_1 x18_2).f1))).setCell ⟨gb679, 2, none⟩ (.int .i64 ((rd_T32 l0_1 x18_2).f2))).setCell ⟨gb679, 3, none⟩ (.string ((rd_T32 l0_1 x18_2).f3))).setCell ⟨gb679, 4, none⟩ (.slice A678_4 ((rd_T32 l0_1 x18_2).f4).length c678_4)).setCell ⟨gb679, 5, none⟩ (.slice A678_5 ((rd_T32 l0_1 x18_2).f5).length c678_5)).setCell ⟨gb679, 6, none⟩ (.slice A678_6 ((rd_T32 l0_1 x18_2).f6).length c678_6)).heap[gb679]? = some (.cells #[.string ((rd_T32 l0_1 x18_2).f0), .int .i64 ((rd_T32 l0_1 x18_2).f1), .int .i64 ((rd_T32 l0_1 x18_2).f2), .string ((rd_T32 l0_1 x18_2).f3), .slice A678_4 ((rd_T32 l0_1 x18_2).f4).length c678_4, .slice A678_5 ((rd_T32 l0_1 x18_2).f5).length c678_5, .slice A678_6 ((rd_T32 l0_1 x18_2).f6).length c678_6] 32 (0, 0))) := ⟨by refine bp ?_; refine blk_put (cs := #[.string ((rd_T32 l0_1 x18_2).f0), .int .i64 ((rd_T32 l0_1 x18_2).f1), .int .i64 ((rd_T32 l0_1 x18_2).f2), .string ((rd_T32 l0_1 x18_2).f3), .slice A678_4 ((rd_T32 l0_1 x18_2).f4).length c678_4, .slice A678_5 ((rd_T32 l0_1 x18_2).f5).length c678_5, .slice none 0 0]) ?_ 6 _ rfl; refine bp ?_; refine blk_put (cs := #[.string ((rd_T32 l0_1 x18_2).f0), .int .i64 ((rd_T32 l0_1 x18_2).f1), .int .i64 ((rd_T32 l0_1 x18_2).f2), .string ((rd_T32 l0_1 x18_2).f3), .slice A678_4 ((rd_T32 l0_1 x18_2).f4).length c678_4, .slice none 0 0, .slice none 0 0]) ?_ 5 _ rfl; refine bp ?_; refine blk_put (cs := #[.string ((rd_T32 l0_1 x18_2).f0), .int .i64 ((rd_T32 l0_1 x18_2).f1), .int .i64 ((rd_T32 l0_1 x18_2).f2), .string ((rd_T32 l0_1 x18_2).f3), .slice none 0 0, .slice none 0 0, .slice none 0 0]) ?_ 4 _ rfl; refine bp ?_; refine blk_put (cs := #[.string ((rd_T32 l0_1 x18_2).f0), .int .i64 ((rd_T32 l0_1 x18_2).f1), .int .i64 ((rd_T32 l0_1 x18_2).f2), .string (⟨#[]⟩ : ByteArray), .slice none 0 0, .slice none 0 0, .slice none 0 0]) ?_ 3 _ rfl; refine bp ?_; refine blk_put (cs := #[.string ((rd_T32 l0_1 x18_2).f0), .int .i64 ((rd_T32 l0_1 x18_2).f1), .int .i64 0, .string (⟨#[]⟩ : ByteArray), .slice none 0 0, .slice none 0 0, .slice none 0 0]) ?_ 2 _ rfl; refine bp ?_; refine blk_put (cs := #[.string ((rd_T32 l0_1 x18_2).f0), .int .i64 0, .int .i64 0, .string (⟨#[]⟩ : ByteArray), .slice none 0 0, .slice none 0 0, .slice none 0 0]) ?_ 1 _ rfl; refine bp ?_; refine blk_put (cs := #[.string (⟨#[]⟩ : ByteArray), .int .i64 0, .int .i64 0, .string (⟨#[]⟩ : ByteArray), .slice none 0 0, .slice none 0 0, .slice none 0 0]) ?_ 0 _ rfl; refine bp ?_; exact BK679.out⟩
               have n2_ : Aside0 (Below w.heap.size w (((((((w14.setCell ⟨gb679, 0, none⟩ (.string ((rd_T32 l0_1 x18_2).f0))).setCell ⟨gb679, 1, none⟩ (.int .i64 ((rd_T32 l0_1 x18_2).f1))).setCell ⟨gb679, 2, none⟩ (.int .i64 ((rd_T32 l0_1 x18_2).f2))).setCell ⟨gb679, 3, none⟩ (.string ((rd_T32 l0_1 x18_2).f3))).setCell ⟨gb679, 4, none⟩ (.slice A678_4 ((rd_T32 l0_1 x18_2).f4).length c678_4)).setCell ⟨gb679, 5, none⟩ (.slice A678_5 ((rd_T32 l0_1 x18_2).f5).length c678_5)).setCell ⟨gb679, 6, none⟩ (.slice A678_6 ((rd_T32 l0_1 x18_2).f6).length c678_6))) := ⟨by exact b2 HB GE676 GE679⟩
               (try clear BK676)
               (try clear BK679)
               (try clear HB)
               generalize (((((((w14.setCell ⟨gb679, 0, none⟩ (.string ((rd_T32 l0_1 x18_2).f0))).setCell ⟨gb679, 1, none⟩ (.int .i64 ((rd_T32 l0_1 x18_2).f1))).setCell ⟨gb679, 2, none⟩ (.int .i64 ((rd_T32 l0_1 x18_2).f2))).setCell ⟨gb679, 3, none⟩ (.string ((rd_T32 l0_1 x18_2).f3))).setCell ⟨gb679, 4, none⟩ (.slice A678_4 ((rd_T32 l0_1 x18_2).f4).length c678_4)).setCell ⟨gb679, 5, none⟩ (.slice A678_5 ((rd_T32 l0_1 x18_2).f5).length c678_5)).setCell ⟨gb679, 6, none⟩ (.slice A678_6 ((rd_T32 l0_1 x18_2).f6).length c678_6)) = w31 at n0_ n1_ n2_ ⊢
               have BK676 := n0_
               have BK679 := n1_
               have HB := n2_
               clear n0_ n1_ n2_
               have n0_ := zq9 (blk_drew BK676.out)
               have n1_ := zq9 (blk_drew BK679.out)
               have n2_ := zq9 (zq4 HB.out)
               clear BK676
               clear BK679
               clear HB
               have BK676 := n0_
               have BK679 := n1_
               have HB := n2_
               clear n0_ n1_ n2_
               have p681 : 0 ≤ ((ji20) : Int) := of_decide_eq_true ‹_›
               have q681 : (ji20) < (l0_1.length : Int) := of_decide_eq_true ‹_›
               obtain ⟨ad681, A681_4, c681_4, A681_5, c681_5, A681_6, c681_6, e681, hx681_0, hx681_1, hx681_2, hx681_3, hx681_4, hx681_5, hx681_6, hl681_4, hi681_4, hl681_5, hi681_5, hl681_6, hi681_6⟩ := at_T32 HR0_1.out (ji20) p681 q681
               have hw681_6 := hx681_6
               have hw681_5 := hx681_5
               have hw681_4 := hx681_4
               have hw681_3 := hx681_3
               have hw681_2 := hx681_2
               have hw681_1 := hx681_1
               have hw681_0 := hx681_0
               obtain rfl : ad678 = ad681 := (by injection e681)
               replace hx681_0 := (HB.out.cell (zq8 w _ hx681_0)).trans hx681_0
               replace hx681_1 := (HB.out.cell (zq8 w _ hx681_1)).trans hx681_1
               replace hx681_2 := (HB.out.cell (zq8 w _ hx681_2)).trans hx681_2
               replace hx681_3 := (HB.out.cell (zq8 w _ hx681_3)).trans hx681_3
               replace hx681_4 := (HB.out.cell (zq8 w _ hx681_4)).trans hx681_4
               replace hx681_5 := (HB.out.cell (zq8 w _ hx681_5)).trans hx681_5
               replace hx681_6 := (HB.out.cell (zq8 w _ hx681_6)).trans hx681_6
               have HR681_4 := zq9 hi681_4
               have HC681_4 := zq9 hl681_4
               clear hi681_4 hl681_4
               have HR681_5 := zq9 hi681_5
               have HC681_5 := zq9 hl681_5
               clear hi681_5 hl681_5
               have HR681_6 := zq9 hi681_6
               have HC681_6 := zq9 hl681_6
               clear hi681_6 hl681_6
               replace p681 := eq_true p681
               replace q681 := eq_true q681
               refine start_ (n := 31) (S := fun w' => w'.cell? ⟨gb679, 0, none⟩ = some (.string ((rd_T32 l0_1 x18_2).f0)) ∧ w'.cell? ⟨gb679, 1, none⟩ = some (.int .i64 ((rd_T32 l0_1 x18_2).f1)) ∧ w'.cell? ⟨gb679, 2, none⟩ = some (.int .i64 ((rd_T32 l0_1 x18_2).f2)) ∧ w'.cell? ⟨gb679, 3, none⟩ = some (.string ((rd_T32 l0_1 x18_2).f3)) ∧ w'.cell? ⟨gb679, 4, none⟩ = some (.slice A678_4 ((rd_T32 l0_1 x18_2).f4).length c678_4) ∧ w'.cell? ⟨gb679, 5, none⟩ = some (.slice A678_5 ((rd_T32 l0_1 x18_2).f5).length c678_5) ∧ w'.cell? ⟨gb679, 6, none⟩ = some (.slice A678_6 ((rd_T32 l0_1 x18_2).f6).length c678_6) ∧ w'.cell? ⟨gb676, 0, none⟩ = some (.int .i64 a0_0) ∧ w'.cell? ⟨gb676, 1, none⟩ = some (.slice (some ad678) l0_1.length c0_1) ∧ w'.cell? (ad678.add (((ji20)).toNat * 7)) = some (.string ((rd_T32 l0_1 (ji20)).f0)) ∧ w'.cell? ⟨(ad678.add (((ji20)).toNat * 7)).block, (ad678.add (((ji20)).toNat * 7)).off + 1, none⟩ = some (.int .i64 ((rd_T32 l0_1 (ji20)).f1)) ∧ w'.cell? ⟨(ad678.add (((ji20)).toNat * 7)).block, (ad678.add (((ji20)).toNat * 7)).off + 2, none⟩ = some (.int .i64 ((rd_T32 l0_1 (ji20)).f2)) ∧ w'.cell? ⟨(ad678.add (((ji20)).toNat * 7)).block, (ad678.add (((ji20)).toNat * 7)).off + 3, none⟩ = some (.string ((rd_T32 l0_1 (ji20)).f3)) ∧ w'.cell? ⟨(ad678.add (((ji20)).toNat * 7)).block, (ad678.add (((ji20)).toNat * 7)).off + 4, none⟩ = some (.slice A681_4 ((rd_T32 l0_1 (ji20)).f4).length c681_4) ∧ w'.cell? ⟨(ad678.add (((ji20)).toNat * 7)).block, (ad678.add (((ji20)).toNat * 7)).off + 5, none⟩ = some (.slice A681_5 ((rd_T32 l0_1 (ji20)).f5).length c681_5) ∧ w'.cell? ⟨(ad678.add (((ji20)).toNat * 7)).block, (ad678.add (((ji20)).toNat * 7)).off + 6, none⟩ = some (.slice A681_6 ((rd_T32 l0_1 (ji20)).f6).length c681_6)) (ds := []) #[false, false, false, false, false, false, false, false, false, false, false, false, false, false, false, false, false, false, false, false, false, false, false, false, false, false, false, false, false, false, false] (by kernel_rfl) rfl rfl ⟨bc BK679 0, bc BK679 1, bc BK679 2, bc BK679 3, bc BK679 4, bc BK679 5, bc BK679 6, bc BK676 0, bc BK676 1, ((HB.out.cell (zq8 w _ hw681_0)).trans hw681_0), ((HB.out.cell (zq8 w _ hw681_1)).trans hw681_1), ((HB.out.cell (zq8 w _ hw681_2)).trans hw681_2), ((HB.out.cell (zq8 w _ hw681_3)).trans hw681_3), ((HB.out.cell (zq8 w _ hw681_4)).trans hw681_4), ((HB.out.cell (zq8 w _ hw681_5)).trans hw681_5), ((HB.out.cell (zq8 w _ hw681_6)).trans hw681_6)⟩ (fun hHeld => ?_); refine with_tabW impl_BaseOk.tab6 impl_BaseOk.bits6 (fun HT_ HW_ => ?_)
               generalize w31.drew = w32 at BK676 BK679 HB HR681_4 HR681_5 HR681_6 hx681_0 hx681_1 hx681_2 hx681_3 hx681_4 hx681_5 hx681_6 hHeld ⊢
               refine take_ (i := 0) (N := some 23) (v := ?_) (a' := ?_) (zb 31 1) rfl rfl (take_ofW HT_.out HW_.out (by kernel_rfl)) (fun _ _ _ h => h) (Or.inl ⟨by rfl, ?_⟩) hHeld ?_ ?_
               rotate_left; ·rintro w' ⟨s0, s1, s2, s3, s4, s5, s6, s7, s8, s9, s10, s11, s12, s13, s14, s15⟩; go_simp; with_reducible rfl
               rotate_left; ·simp only [Act.put, zq0, zq1, zq2, i64_w, i32_w]; rfl
               refine one_ (i := 1) (N := some 24) (zb 31 3) rfl rfl (one_of HT_.out (by kernel_rfl)) (by decide) (fun K hK => ?_)
               refine gs Try.func13 #[.agg #[.string ((rd_T32 l0_1 x18_2).f0), .int .i64 ((rd_T32 l0_1 x18_2).f1), .int .i64 ((rd_T32 l0_1 x18_2).f2), .string ((rd_T32 l0_1 x18_2).f3), .slice A678_4 ((rd_T32 l0_1 x18_2).f4).length c678_4, .slice A678_5 ((rd_T32 l0_1 x18_2).f5).length c678_5, .slice A678_6 ((rd_T32 l0_1 x18_2).f6).length c678_6]] ?_
               with_reducible refine (impl_EntryOk.calls k2 ((rd_T32 l0_1 x18_2).f0) ((rd_T32 l0_1 x18_2).f1) ((rd_T32 l0_1 x18_2).f2) ((rd_T32 l0_1 x18_2).f3) _ _ ((rd_T32 l0_1 x18_2).f4) _ _ ((rd_T32 l0_1 x18_2).f5) _ _ ((rd_T32 l0_1 x18_2).f6) true _ ?side1 ?side2 ?side3 ?side4 ?side5 ?side6 A17.out).mono ?_
               (case side1 => exact kc HR678_4 HB)
               (case side2 => exact HC678_4.out)
               (case side3 => exact kc HR678_5 HB)
               (case side4 => exact HC678_5.out)
               (case side5 => exact kc HR678_6 HB)
               (case side6 => exact HC678_6.out)
               rintro e w33 ⟨rfl, hb⟩
               refine ⟨_, rfl, ?_⟩
               have n0_ := zq9 (zq30 (g := gb676) (o := .cells #[.int .i64 a0_0, .slice (some ad678) l0_1.length c0_1] 46 (0, 0)) (by exact bk BK676) hb)
               have n1_ := zq9 (zq30 (g := gb679) (o := .cells #[.string ((rd_T32 l0_1 x18_2).f0), .int .i64 ((rd_T32 l0_1 x18_2).f1), .int .i64 ((rd_T32 l0_1 x18_2).f2), .string ((rd_T32 l0_1 x18_2).f3), .slice A678_4 ((rd_T32 l0_1 x18_2).f4).length c678_4, .slice A678_5 ((rd_T32 l0_1 x18_2).f5).length c678_5, .slice A678_6 ((rd_T32 l0_1 x18_2).f6).length c678_6] 32 (0, 0)) (by exact bk BK679) hb)
               have n2_ := zq9 (zq27 (by exact b2 HB GE676 GE679) hb)
               clear BK676
               clear BK679
               clear HB
               have BK676 := n0_
               have BK679 := n1_
               have HB := n2_
               clear n0_ n1_ n2_
               (try clear hb)
               (try clear hb2)
               (try clear hk)
               (try clear hi)
               refine hK.out _ _ ⟨bc BK679 0, bc BK679 1, bc BK679 2, bc BK679 3, bc BK679 4, bc BK679 5, bc BK679 6, bc BK676 0, bc BK676 1, ((HB.out.cell (zq8 w _ hw681_0)).trans hw681_0), ((HB.out.cell (zq8 w _ hw681_1)).trans hw681_1), ((HB.out.cell (zq8 w _ hw681_2)).trans hw681_2), ((HB.out.cell (zq8 w _ hw681_3)).trans hw681_3), ((HB.out.cell (zq8 w _ hw681_4)).trans hw681_4), ((HB.out.cell (zq8 w _ hw681_5)).trans hw681_5), ((HB.out.cell (zq8 w _ hw681_6)).trans hw681_6)⟩ (fun hHeld => ?_)
               clear hK K
               refine norm_ (a' := ?_) ?_ ?_
               rotate_left; ·show Act.put _ (some 24) _ = _; simp only [Act.put, zq0, zq1, zq2, i64_w, i32_w]; rfl
               refine pa HT_ 2 25 (zb 31 7) ?_
               refine pa HT_ 3 26 (zb 31 15) ?_
               refine pa HT_ 4 27 (zb 31 31) ?_
               refine pa HT_ 5 28 (zb 31 63) ?_
               refine pa HT_ 6 29 (zb 31 127) ?_
               refine pa HT_ 7 30 (zb 31 255) ?_
               refine pa HT_ 9 32 (zb 31 767) ?_
               refine pa HT_ 10 33 (zb 31 1791) ?_
               refine pa HT_ 14 37 (zb 31 18175) ?_
               refine take_ (i := 8) (N := some 31) (v := ?_) (a' := ?_) (zb 31 18431) rfl rfl (take_ofW HT_.out HW_.out (by kernel_rfl)) (fun _ _ _ h => h) (Or.inl ⟨by rfl, ?_⟩) hHeld ?_ ?_
               rotate_left; ·rintro w' ⟨s0, s1, s2, s3, s4, s5, s6, s7, s8, s9, s10, s11, s12, s13, s14, s15⟩; go_simp; with_reducible rfl
               rotate_left; ·simp only [Act.put, zq0, zq1, zq2, i64_w, i32_w]; rfl
               refine pa HT_ 11 34 (zb 31 20479) ?_
               refine pa HT_ 12 35 (zb 31 24575) ?_
               refine take_ (i := 13) (N := some 36) (v := ?_) (a' := ?_) (zb 31 32767) rfl rfl (take_ofW HT_.out HW_.out (by kernel_rfl)) (fun _ _ _ h => h) (Or.inl ⟨by rfl, ?_⟩) hHeld ?_ ?_
               rotate_left; ·rintro w' ⟨s0, s1, s2, s3, s4, s5, s6, s7, s8, s9, s10, s11, s12, s13, s14, s15⟩; go_simp; with_reducible rfl
               rotate_left; ·simp only [Act.put, zq0, zq1, zq2, i64_w, i32_w]; rfl
               refine take_ (i := 15) (N := some 38) (v := ?_) (a' := ?_) (zb 31 65535) rfl rfl (take_ofW HT_.out HW_.out (by kernel_rfl)) (fun _ _ _ h => h) (Or.inl ⟨by rfl, ?_⟩) hHeld ?_ ?_
               rotate_left; ·rintro w' ⟨s0, s1, s2, s3, s4, s5, s6, s7, s8, s9, s10, s11, s12, s13, s14, s15⟩; go_simp; with_reducible rfl
               rotate_left; ·simp only [Act.put, zq0, zq1, zq2, i64_w, i32_w]; rfl
               refine pa HT_ 16 39 (zb 31 131071) ?_
               refine pa HT_ 17 40 (zb 31 262143) ?_
               refine pa HT_ 18 41 (zb 31 524287) ?_
               refine pa HT_ 19 42 (zb 31 1048575) ?_
               refine pb HT_ 20 43 (zb 31 2097151) ?_
               refine pb HT_ 21 44 (zb 31 4194303) ?_
               refine pb HT_ 22 45 (zb 31 8388607) ?_
               refine pb HT_ 23 46 (zb 31 16777215) ?_
               refine pb HT_ 24 47 (zb 31 33554431) ?_
               refine pb HT_ 25 48 (zb 31 67108863) ?_
               refine pb HT_ 26 49 (zb 31 134217727) ?_
               refine pb HT_ 27 50 (zb 31 268435455) ?_
               refine pb HT_ 28 51 (zb 31 536870911) ?_
               refine pb HT_ 29 52 (zb 31 1073741823) ?_
               refine pa HT_ 30 53 (zb 31 2147483647) ?_
               refine done_ (done_of HT_.out (by kernel_rfl)) ?_
               try go_wp2
               go_meet
               case rel => exact ⟨_, (true), (by first | rfl | (simp; done) | (simp [*]; done)), H', ⟨by have := HJ1.out; have := HK2.out; first | omega | exact Nat.le_refl _⟩, ⟨by refine bp ?_; exact BK676.out⟩, ⟨by refine bp ?_; exact BK679.out⟩, ⟨by exact b2 HB GE676 GE679⟩⟩
             ·rw [if_neg c22] at H
              exact absurd H (by simp)
            ·rw [if_neg c21] at H
             exact absurd H (by simp)
           ·rw [if_neg c19] at H
            have c19b0 : decide (0 < x18_2) = false := decide_eq_false c19
            clear c19
            (first | rw [c19b0] | (simp only [i64_w, i32_w]; rw [c19b0]) | skip)
            by_cases c34 : ((rd_T32 l0_1 x18_2).f1) = 0
            ·rw [if_pos c34] at H
             have c34b0 : (((rd_T32 l0_1 x18_2).f1) == 0) = true := beq_iff_eq.mpr c34
             have c34b1 : (((rd_T32 l0_1 x18_2).f1) != 0) = false := bne_eq_false_iff_eq.mpr c34
             clear c34
             have H' := zq9 H
             clear H
             try go_wp2
             have n0_ : Aside0 ((((((((w14.setCell ⟨gb679, 0, none⟩ (.string ((rd_T32 l0_1 x18_2).f0))).setCell ⟨gb679, 1, none⟩ (.int .i64 ((rd_T32 l0_1 x18_2).f1))).setCell ⟨gb679, 2, none⟩ (.int .i64 ((rd_T32 l0_1 x18_2).f2))).setCell ⟨gb679, 3, none⟩ (.string ((rd_T32 l0_1 x18_2).f3))).setCell ⟨gb679, 4, none⟩ (.slice A678_4 ((rd_T32 l0_1 x18_2).f4).length c678_4)).setCell ⟨gb679, 5, none⟩ (.slice A678_5 ((rd_T32 l0_1 x18_2).f5).length c678_5)).setCell ⟨gb679, 6, none⟩ (.slice A678_6 ((rd_T32 l0_1 x18_2).f6).length c678_6)).heap[gb676]? = some (.cells #[.int .i64 a0_0, .slice (some ad678) l0_1.length c0_1] 46 (0, 0))) := ⟨by refine bp ?_; refine blk_far ?_ NB676_679.out _; refine bp ?_; refine blk_far ?_ NB676_679.out _; refine bp ?_; refine blk_far ?_ NB676_679.out _; refine bp ?_; refine blk_far ?_ NB676_679.out _; refine bp ?_; refine blk_far ?_ NB676_679.out _; refine bp ?_; refine blk_far ?_ NB676_679.out _; refine bp ?_; refine blk_far ?_ NB676_679.out _; refine bp ?_; exact BK676.out⟩
             have n1_ : Aside0 ((((((((w14.setCell ⟨gb679, 0, none⟩ (.string ((rd_T32 l0_1 x18_2).f0))).setCell ⟨gb679, 1, none⟩ (.int .i64 ((rd_T32 l0_1 x18_2).f1))).setCell ⟨gb679, 2, none⟩ (.int .i64 ((rd_T32 l0_1 x18_2).f2))).setCell ⟨gb679, 3, none⟩ (.string ((rd_T32 l0_1 x18_2).f3))).setCell ⟨gb679, 4, none⟩ (.slice A678_4 ((rd_T32 l0_1 x18_2).f4).length c678_4)).setCell ⟨gb679, 5, none⟩ (.slice A678_5 ((rd_T32 l0_1 x18_2).f5).length c678_5)).setCell ⟨gb679, 6, none⟩ (.slice A678_6 ((rd_T32 l0_1 x18_2).f6).length c678_6)).heap[gb679]? = some (.cells #[.string ((rd_T32 l0_1 x18_2).f0), .int .i64 ((rd_T32 l0_1 x18_2).f1), .int .i64 ((rd_T32 l0_1 x18_2).f2), .string ((rd_T32 l0_1 x18_2).f3), .slice A678_4 ((rd_T32 l0_1 x18_2).f4).length c678_4, .slice A678_5 ((rd_T32 l0_1 x18_2).f5).length c678_5, .slice A678_6 ((rd_T32 l0_1 x18_2).f6).length c678_6] 32 (0, 0))) := ⟨by refine bp ?_; refine blk_put (cs := #[.string ((rd_T32 l0_1 x18_2).f0), .int .i64 ((rd_T32 l0_1 x18_2).f1), .int .i64 ((rd_T32 l0_1 x18_2).f2), .string ((rd_T32 l0_1 x18_2).f3), .slice A678_4 ((rd_T32 l0_1 x18_2).f4).length c678_4, .slice A678_5 ((rd_T32 l0_1 x18_2).f5).length c678_5, .slice none 0 0]) ?_ 6 _ rfl; refine bp ?_; refine blk_put (cs := #[.string ((rd_T32 l0_1 x18_2).f0), .int .i64 ((rd_T32 l0_1 x18_2).f1), .int .i64 ((rd_T32 l0_1 x18_2).f2), .string ((rd_T32 l0_1 x18_2).f3), .slice A678_4 ((rd_T32 l0_1 x18_2).f4).length c678_4, .slice none 0 0, .slice none 0 0]) ?_ 5 _ rfl; refine bp ?_; refine blk_put (cs := #[.string ((rd_T32 l0_1 x18_2).f0), .int .i64 ((rd_T32 l0_1 x18_2).f1), .int .i64 ((rd_T32 l0_1 x18_2).f2), .string ((rd_T32 l0_1 x18_2).f3), .slice none 0 0, .slice none 0 0, .slice none 0 0]) ?_ 4 _ rfl; refine bp ?_; refine blk_put (cs := #[.string ((rd_T32 l0_1 x18_2).f0), .int .i64 ((rd_T32 l0_1 x18_2).f1), .int .i64 ((rd_T32 l0_1 x18_2).f2), .string (⟨#[]⟩ : ByteArray), .slice none 0 0, .slice none 0 0, .slice none 0 0]) ?_ 3 _ rfl; refine bp ?_; refine blk_put (cs := #[.string ((rd_T32 l0_1 x18_2).f0), .int .i64 ((rd_T32 l0_1 x18_2).f1), .int .i64 0, .string (⟨#[]⟩ : ByteArray), .slice none 0 0, .slice none 0 0, .slice none 0 0]) ?_ 2 _ rfl; refine bp ?_; refine blk_put (cs := #[.string ((rd_T32 l0_1 x18_2).f0), .int .i64 0, .int .i64 0, .string (⟨#[]⟩ : ByteArray), .slice none 0 0, .slice none 0 0, .slice none 0 0]) ?_ 1 _ rfl; refine bp ?_; refine blk_put (cs := #[.string (⟨#[]⟩ : ByteArray), .int .i64 0, .int .i64 0, .string (⟨#[]⟩ : ByteArray), .slice none 0 0, .slice none 0 0, .slice none 0 0]) ?_ 0 _ rfl; refine bp ?_; exact BK679.out⟩
             have n2_ : Aside0 (Below w.heap.size w (((((((w14.setCell ⟨gb679, 0, none⟩ (.string ((rd_T32 l0_1 x18_2).f0))).setCell ⟨gb679, 1, none⟩ (.int .i64 ((rd_T32 l0_1 x18_2).f1))).setCell ⟨gb679, 2, none⟩ (.int .i64 ((rd_T32 l0_1 x18_2).f2))).setCell ⟨gb679, 3, none⟩ (.string ((rd_T32 l0_1 x18_2).f3))).setCell ⟨gb679, 4, none⟩ (.slice A678_4 ((rd_T32 l0_1 x18_2).f4).length c678_4)).setCell ⟨gb679, 5, none⟩ (.slice A678_5 ((rd_T32 l0_1 x18_2).f5).length c678_5)).setCell ⟨gb679, 6, none⟩ (.slice A678_6 ((rd_T32 l0_1 x18_2).f6).length c678_6))) := ⟨by exact b2 HB GE676 GE679⟩
             (try clear BK676)
             (try clear BK679)
             (try clear HB)
             generalize (((((((w14.setCell ⟨gb679, 0, none⟩ (.string ((rd_T32 l0_1 x18_2).f0))).setCell ⟨gb679, 1, none⟩ (.int .i64 ((rd_T32 l0_1 x18_2).f1))).setCell ⟨gb679, 2, none⟩ (.int .i64 ((rd_T32 l0_1 x18_2).f2))).setCell ⟨gb679, 3, none⟩ (.string ((rd_T32 l0_1 x18_2).f3))).setCell ⟨gb679, 4, none⟩ (.slice A678_4 ((rd_T32 l0_1 x18_2).f4).length c678_4)).setCell ⟨gb679, 5, none⟩ (.slice A678_5 ((rd_T32 l0_1 x18_2).f5).length c678_5)).setCell ⟨gb679, 6, none⟩ (.slice A678_6 ((rd_T32 l0_1 x18_2).f6).length c678_6)) = w35 at n0_ n1_ n2_ ⊢
             have BK676 := n0_
             have BK679 := n1_
             have HB := n2_
             clear n0_ n1_ n2_
             have n0_ := zq9 (blk_drew BK676.out)
             have n1_ := zq9 (blk_drew BK679.out)
             have n2_ := zq9 (zq4 HB.out)
             clear BK676
             clear BK679
             clear HB
             have BK676 := n0_
             have BK679 := n1_
             have HB := n2_
             clear n0_ n1_ n2_
             refine start_ (n := 31) (S := fun w' => w'.cell? ⟨gb679, 0, none⟩ = some (.string ((rd_T32 l0_1 x18_2).f0)) ∧ w'.cell? ⟨gb679, 1, none⟩ = some (.int .i64 ((rd_T32 l0_1 x18_2).f1)) ∧ w'.cell? ⟨gb679, 2, none⟩ = some (.int .i64 ((rd_T32 l0_1 x18_2).f2)) ∧ w'.cell? ⟨gb679, 3, none⟩ = some (.string ((rd_T32 l0_1 x18_2).f3)) ∧ w'.cell? ⟨gb679, 4, none⟩ = some (.slice A678_4 ((rd_T32 l0_1 x18_2).f4).length c678_4) ∧ w'.cell? ⟨gb679, 5, none⟩ = some (.slice A678_5 ((rd_T32 l0_1 x18_2).f5).length c678_5) ∧ w'.cell? ⟨gb679, 6, none⟩ = some (.slice A678_6 ((rd_T32 l0_1 x18_2).f6).length c678_6)) (ds := []) #[false, false, false, false, false, false, false, false, false, false, false, false, false, false, false, false, false, false, false, false, false, false, false, false, false, false, false, false, false, false, false] (by kernel_rfl) rfl rfl ⟨bc BK679 0, bc BK679 1, bc BK679 2, bc BK679 3, bc BK679 4, bc BK679 5, bc BK679 6⟩ (fun hHeld => ?_); refine with_tabW impl_BaseOk.tab6 impl_BaseOk.bits6 (fun HT_ HW_ => ?_)
             generalize w35.drew = w36 at BK676 BK679 HB hHeld ⊢
             refine take_ (i := 0) (N := some 23) (v := ?_) (a' := ?_) (zb 31 1) rfl rfl (take_ofW HT_.out HW_.out (by kernel_rfl)) (fun _ _ _ h => h) (Or.inl ⟨by rfl, ?_⟩) hHeld ?_ ?_
             rotate_left; ·rintro w' ⟨s0, s1, s2, s3, s4, s5, s6⟩; go_simp; with_reducible rfl
             rotate_left; ·simp only [Act.put, zq0, zq1, zq2, i64_w, i32_w]; rfl
             refine one_ (i := 1) (N := some 24) (zb 31 3) rfl rfl (one_of HT_.out (by kernel_rfl)) (by decide) (fun K hK => ?_)
             refine gs Try.func13 #[.agg #[.string ((rd_T32 l0_1 x18_2).f0), .int .i64 ((rd_T32 l0_1 x18_2).f1), .int .i64 ((rd_T32 l0_1 x18_2).f2), .string ((rd_T32 l0_1 x18_2).f3), .slice A678_4 ((rd_T32 l0_1 x18_2).f4).length c678_4, .slice A678_5 ((rd_T32 l0_1 x18_2).f5).length c678_5, .slice A678_6 ((rd_T32 l0_1 x18_2).f6).length c678_6]] ?_
             with_reducible refine (impl_EntryOk.calls k2 ((rd_T32 l0_1 x18_2).f0) ((rd_T32 l0_1 x18_2).f1) ((rd_T32 l0_1 x18_2).f2) ((rd_T32 l0_1 x18_2).f3) _ _ ((rd_T32 l0_1 x18_2).f4) _ _ ((rd_T32 l0_1 x18_2).f5) _ _ ((rd_T32 l0_1 x18_2).f6) true _ ?side1 ?side2 ?side3 ?side4 ?side5 ?side6 A17.out).mono ?_
             (case side1 => exact kc HR678_4 HB)
             (case side2 => exact HC678_4.out)
             (case side3 => exact kc HR678_5 HB)
             (case side4 => exact HC678_5.out)
             (case side5 => exact kc HR678_6 HB)
             (case side6 => exact HC678_6.out)
             rintro e w37 ⟨rfl, hb⟩
             refine ⟨_, rfl, ?_⟩
             have n0_ := zq9 (zq30 (g := gb676) (o := .cells #[.int .i64 a0_0, .slice (some ad678) l0_1.length c0_1] 46 (0, 0)) (by exact bk BK676) hb)
             have n1_ := zq9 (zq30 (g := gb679) (o := .cells #[.string ((rd_T32 l0_1 x18_2).f0), .int .i64 ((rd_T32 l0_1 x18_2).f1), .int .i64 ((rd_T32 l0_1 x18_2).f2), .string ((rd_T32 l0_1 x18_2).f3), .slice A678_4 ((rd_T32 l0_1 x18_2).f4).length c678_4, .slice A678_5 ((rd_T32 l0_1 x18_2).f5).length c678_5, .slice A678_6 ((rd_T32 l0_1 x18_2).f6).length c678_6] 32 (0, 0)) (by exact bk BK679) hb)
             have n2_ := zq9 (zq27 (by exact b2 HB GE676 GE679) hb)
             clear BK676
             clear BK679
             clear HB
             have BK676 := n0_
             have BK679 := n1_
             have HB := n2_
             clear n0_ n1_ n2_
             (try clear hb)
             (try clear hb2)
             (try clear hk)
             (try clear hi)
             refine hK.out _ _ ⟨bc BK679 0, bc BK679 1, bc BK679 2, bc BK679 3, bc BK679 4, bc BK679 5, bc BK679 6⟩ (fun hHeld => ?_)
             clear hK K
             refine norm_ (a' := ?_) ?_ ?_
             rotate_left; ·show Act.put _ (some 24) _ = _; simp only [Act.put, zq0, zq1, zq2, i64_w, i32_w]; rfl
             refine pa HT_ 2 25 (zb 31 7) ?_
             refine pa HT_ 3 26 (zb 31 15) ?_
             refine pa HT_ 4 27 (zb 31 31) ?_
             refine pa HT_ 5 28 (zb 31 63) ?_
             refine pa HT_ 6 29 (zb 31 127) ?_
             refine pb HT_ 7 30 (zb 31 255) ?_
             refine pb HT_ 8 31 (zb 31 511) ?_
             refine pb HT_ 9 32 (zb 31 1023) ?_
             refine pb HT_ 10 33 (zb 31 2047) ?_
             refine pb HT_ 11 34 (zb 31 4095) ?_
             refine pb HT_ 12 35 (zb 31 8191) ?_
             refine pb HT_ 13 36 (zb 31 16383) ?_
             refine pb HT_ 14 37 (zb 31 32767) ?_
             refine pb HT_ 15 38 (zb 31 65535) ?_
             refine pb HT_ 16 39 (zb 31 131071) ?_
             refine pa HT_ 17 40 (zb 31 262143) ?_
             refine pa HT_ 18 41 (zb 31 524287) ?_
             refine pa HT_ 19 42 (zb 31 1048575) ?_
             refine pa HT_ 20 43 (zb 31 2097151) ?_
             refine take_ (i := 21) (N := some 44) (v := ?_) (a' := ?_) (zb 31 4194303) rfl rfl (take_ofW HT_.out HW_.out (by kernel_rfl)) (fun _ _ _ h => h) (Or.inl ⟨by rfl, ?_⟩) hHeld ?_ ?_
             rotate_left; ·rintro w' ⟨s0, s1, s2, s3, s4, s5, s6⟩; go_simp; with_reducible rfl
             rotate_left; ·simp only [Act.put, zq0, zq1, zq2, i64_w, i32_w]; rfl
             refine pa HT_ 22 45 (zb 31 8388607) ?_
             refine pa HT_ 23 46 (zb 31 16777215) ?_
             refine pb HT_ 24 47 (zb 31 33554431) ?_
             refine pb HT_ 25 48 (zb 31 67108863) ?_
             refine pb HT_ 26 49 (zb 31 134217727) ?_
             refine pb HT_ 27 50 (zb 31 268435455) ?_
             refine pb HT_ 28 51 (zb 31 536870911) ?_
             refine pa HT_ 29 52 (zb 31 1073741823) ?_
             refine pa HT_ 30 53 (zb 31 2147483647) ?_
             refine done_ (done_of HT_.out (by kernel_rfl)) ?_
             try go_wp2
             go_meet
             case rel => exact ⟨_, (false), (by first | rfl | (simp; done) | (simp [*]; done)), H', ⟨by have := HJ1.out; have := HK2.out; first | omega | exact Nat.le_refl _⟩, ⟨by refine bp ?_; exact BK676.out⟩, ⟨by refine bp ?_; exact BK679.out⟩, ⟨by exact b2 HB GE676 GE679⟩⟩
            ·rw [if_neg c34] at H
             have c34b0 : (((rd_T32 l0_1 x18_2).f1) == 0) = false := beq_eq_false_iff_ne.mpr c34
             have c34b1 : (((rd_T32 l0_1 x18_2).f1) != 0) = true := bne_iff_ne.mpr c34
             have H' := zq9 H
             clear H
             try go_wp2
             have n0_ : Aside0 ((((((((w14.setCell ⟨gb679, 0, none⟩ (.string ((rd_T32 l0_1 x18_2).f0))).setCell ⟨gb679, 1, none⟩ (.int .i64 ((rd_T32 l0_1 x18_2).f1))).setCell ⟨gb679, 2, none⟩ (.int .i64 ((rd_T32 l0_1 x18_2).f2))).setCell ⟨gb679, 3, none⟩ (.string ((rd_T32 l0_1 x18_2).f3))).setCell ⟨gb679, 4, none⟩ (.slice A678_4 ((rd_T32 l0_1 x18_2).f4).length c678_4)).setCell ⟨gb679, 5, none⟩ (.slice A678_5 ((rd_T32 l0_1 x18_2).f5).length c678_5)).setCell ⟨gb679, 6, none⟩ (.slice A678_6 ((rd_T32 l0_1 x18_2).f6).length c678_6)).heap[gb676]? = some (.cells #[.int .i64 a0_0, .slice (some ad678) l0_1.length c0_1] 46 (0, 0))) := ⟨by refine bp ?_; refine blk_far ?_ NB676_679.out _; refine bp ?_; refine blk_far ?_ NB676_679.out _; refine bp ?_; refine blk_far ?_ NB676_679.out _; refine bp ?_; refine blk_far ?_ NB676_679.out _; refine bp ?_; refine blk_far ?_ NB676_679.out _; refine bp ?_; refine blk_far ?_ NB676_679.out _; refine bp ?_; refine blk_far ?_ NB676_679.out _; refine bp ?_; exact BK676.out⟩
             have n1_ : Aside0 ((((((((w14.setCell ⟨gb679, 0, none⟩ (.string ((rd_T32 l0_1 x18_2).f0))).setCell ⟨gb679, 1, none⟩ (.int .i64 ((rd_T32 l0_1 x18_2).f1))).setCell ⟨gb679, 2, none⟩ (.int .i64 ((rd_T32 l0_1 x18_2).f2))).setCell ⟨gb679, 3, none⟩ (.string ((rd_T32 l0_1 x18_2).f3))).setCell ⟨gb679, 4, none⟩ (.slice A678_4 ((rd_T32 l0_1 x18_2).f4).length c678_4)).setCell ⟨gb679, 5, none⟩ (.slice A678_5 ((rd_T32 l0_1 x18_2).f5).length c678_5)).setCell ⟨gb679, 6, none⟩ (.slice A678_6 ((rd_T32 l0_1 x18_2).f6).length c678_6)).heap[gb679]? = some (.cells #[.string ((rd_T32 l0_1 x18_2).f0), .int .i64 ((rd_T32 l0_1 x18_2).f1), .int .i64 ((rd_T32 l0_1 x18_2).f2), .string ((rd_T32 l0_1 x18_2).f3), .slice A678_4 ((rd_T32 l0_1 x18_2).f4).length c678_4, .slice A678_5 ((rd_T32 l0_1 x18_2).f5).length c678_5, .slice A678_6 ((rd_T32 l0_1 x18_2).f6).length c678_6] 32 (0, 0))) := ⟨by refine bp ?_; refine blk_put (cs := #[.string ((rd_T32 l0_1 x18_2).f0), .int .i64 ((rd_T32 l0_1 x18_2).f1), .int .i64 ((rd_T32 l0_1 x18_2).f2), .string ((rd_T32 l0_1 x18_2).f3), .slice A678_4 ((rd_T32 l0_1 x18_2).f4).length c678_4, .slice A678_5 ((rd_T32 l0_1 x18_2).f5).length c678_5, .slice none 0 0]) ?_ 6 _ rfl; refine bp ?_; refine blk_put (cs := #[.string ((rd_T32 l0_1 x18_2).f0), .int .i64 ((rd_T32 l0_1 x18_2).f1), .int .i64 ((rd_T32 l0_1 x18_2).f2), .string ((rd_T32 l0_1 x18_2).f3), .slice A678_4 ((rd_T32 l0_1 x18_2).f4).length c678_4, .slice none 0 0, .slice none 0 0]) ?_ 5 _ rfl; refine bp ?_; refine blk_put (cs := #[.string ((rd_T32 l0_1 x18_2).f0), .int .i64 ((rd_T32 l0_1 x18_2).f1), .int .i64 ((rd_T32 l0_1 x18_2).f2), .string ((rd_T32 l0_1 x18_2).f3), .slice none 0 0, .slice none 0 0, .slice none 0 0]) ?_ 4 _ rfl; refine bp ?_; refine blk_put (cs := #[.string ((rd_T32 l0_1 x18_2).f0), .int .i64 ((rd_T32 l0_1 x18_2).f1), .int .i64 ((rd_T32 l0_1 x18_2).f2), .string (⟨#[]⟩ : ByteArray), .slice none 0 0, .slice none 0 0, .slice none 0 0]) ?_ 3 _ rfl; refine bp ?_; refine blk_put (cs := #[.string ((rd_T32 l0_1 x18_2).f0), .int .i64 ((rd_T32 l0_1 x18_2).f1), .int .i64 0, .string (⟨#[]⟩ : ByteArray), .slice none 0 0, .slice none 0 0, .slice none 0 0]) ?_ 2 _ rfl; refine bp ?_; refine blk_put (cs := #[.string ((rd_T32 l0_1 x18_2).f0), .int .i64 0, .int .i64 0, .string (⟨#[]⟩ : ByteArray), .slice none 0 0, .slice none 0 0, .slice none 0 0]) ?_ 1 _ rfl; refine bp ?_; refine blk_put (cs := #[.string (⟨#[]⟩ : ByteArray), .int .i64 0, .int .i64 0, .string (⟨#[]⟩ : ByteArray), .slice none 0 0, .slice none 0 0, .slice none 0 0]) ?_ 0 _ rfl; refine bp ?_; exact BK679.out⟩
             have n2_ : Aside0 (Below w.heap.size w (((((((w14.setCell ⟨gb679, 0, none⟩ (.string ((rd_T32 l0_1 x18_2).f0))).setCell ⟨gb679, 1, none⟩ (.int .i64 ((rd_T32 l0_1 x18_2).f1))).setCell ⟨gb679, 2, none⟩ (.int .i64 ((rd_T32 l0_1 x18_2).f2))).setCell ⟨gb679, 3, none⟩ (.string ((rd_T32 l0_1 x18_2).f3))).setCell ⟨gb679, 4, none⟩ (.slice A678_4 ((rd_T32 l0_1 x18_2).f4).length c678_4)).setCell ⟨gb679, 5, none⟩ (.slice A678_5 ((rd_T32 l0_1 x18_2).f5).length c678_5)).setCell ⟨gb679, 6, none⟩ (.slice A678_6 ((rd_T32 l0_1 x18_2).f6).length c678_6))) := ⟨by exact b2 HB GE676 GE679⟩
             (try clear BK676)
             (try clear BK679)
             (try clear HB)
             generalize (((((((w14.setCell ⟨gb679, 0, none⟩ (.string ((rd_T32 l0_1 x18_2).f0))).setCell ⟨gb679, 1, none⟩ (.int .i64 ((rd_T32 l0_1 x18_2).f1))).setCell ⟨gb679, 2, none⟩ (.int .i64 ((rd_T32 l0_1 x18_2).f2))).setCell ⟨gb679, 3, none⟩ (.string ((rd_T32 l0_1 x18_2).f3))).setCell ⟨gb679, 4, none⟩ (.slice A678_4 ((rd_T32 l0_1 x18_2).f4).length c678_4)).setCell ⟨gb679, 5, none⟩ (.slice A678_5 ((rd_T32 l0_1 x18_2).f5).length c678_5)).setCell ⟨gb679, 6, none⟩ (.slice A678_6 ((rd_T32 l0_1 x18_2).f6).length c678_6)) = w38 at n0_ n1_ n2_ ⊢
             have BK676 := n0_
             have BK679 := n1_
             have HB := n2_
             clear n0_ n1_ n2_
             have n0_ := zq9 (blk_drew BK676.out)
             have n1_ := zq9 (blk_drew BK679.out)
             have n2_ := zq9 (zq4 HB.out)
             clear BK676
             clear BK679
             clear HB
             have BK676 := n0_
             have BK679 := n1_
             have HB := n2_
             clear n0_ n1_ n2_
             refine start_ (n := 31) (S := fun w' => w'.cell? ⟨gb679, 0, none⟩ = some (.string ((rd_T32 l0_1 x18_2).f0)) ∧ w'.cell? ⟨gb679, 1, none⟩ = some (.int .i64 ((rd_T32 l0_1 x18_2).f1)) ∧ w'.cell? ⟨gb679, 2, none⟩ = some (.int .i64 ((rd_T32 l0_1 x18_2).f2)) ∧ w'.cell? ⟨gb679, 3, none⟩ = some (.string ((rd_T32 l0_1 x18_2).f3)) ∧ w'.cell? ⟨gb679, 4, none⟩ = some (.slice A678_4 ((rd_T32 l0_1 x18_2).f4).length c678_4) ∧ w'.cell? ⟨gb679, 5, none⟩ = some (.slice A678_5 ((rd_T32 l0_1 x18_2).f5).length c678_5) ∧ w'.cell? ⟨gb679, 6, none⟩ = some (.slice A678_6 ((rd_T32 l0_1 x18_2).f6).length c678_6) ∧ w'.cell? ⟨gb676, 0, none⟩ = some (.int .i64 a0_0) ∧ w'.cell? ⟨gb676, 1, none⟩ = some (.slice (some ad678) l0_1.length c0_1)) (ds := []) #[false, false, false, false, false, false, false, false, false, false, false, false, false, false, false, false, false, false, false, false, false, false, false, false, false, false, false, false, false, false, false] (by kernel_rfl) rfl rfl ⟨bc BK679 0, bc BK679 1, bc BK679 2, bc BK679 3, bc BK679 4, bc BK679 5, bc BK679 6, bc BK676 0, bc BK676 1⟩ (fun hHeld => ?_); refine with_tabW impl_BaseOk.tab6 impl_BaseOk.bits6 (fun HT_ HW_ => ?_)
             generalize w38.drew = w39 at BK676 BK679 HB hHeld ⊢
             refine take_ (i := 0) (N := some 23) (v := ?_) (a' := ?_) (zb 31 1) rfl rfl (take_ofW HT_.out HW_.out (by kernel_rfl)) (fun _ _ _ h => h) (Or.inl ⟨by rfl, ?_⟩) hHeld ?_ ?_
             rotate_left; ·rintro w' ⟨s0, s1, s2, s3, s4, s5, s6, s7, s8⟩; go_simp; with_reducible rfl
             rotate_left; ·simp only [Act.put, zq0, zq1, zq2, i64_w, i32_w]; rfl
             refine one_ (i := 1) (N := some 24) (zb 31 3) rfl rfl (one_of HT_.out (by kernel_rfl)) (by decide) (fun K hK => ?_)
             refine gs Try.func13 #[.agg #[.string ((rd_T32 l0_1 x18_2).f0), .int .i64 ((rd_T32 l0_1 x18_2).f1), .int .i64 ((rd_T32 l0_1 x18_2).f2), .string ((rd_T32 l0_1 x18_2).f3), .slice A678_4 ((rd_T32 l0_1 x18_2).f4).length c678_4, .slice A678_5 ((rd_T32 l0_1 x18_2).f5).length c678_5, .slice A678_6 ((rd_T32 l0_1 x18_2).f6).length c678_6]] ?_
             with_reducible refine (impl_EntryOk.calls k2 ((rd_T32 l0_1 x18_2).f0) ((rd_T32 l0_1 x18_2).f1) ((rd_T32 l0_1 x18_2).f2) ((rd_T32 l0_1 x18_2).f3) _ _ ((rd_T32 l0_1 x18_2).f4) _ _ ((rd_T32 l0_1 x18_2).f5) _ _ ((rd_T32 l0_1 x18_2).f6) true _ ?side1 ?side2 ?side3 ?side4 ?side5 ?side6 A17.out).mono ?_
             (case side1 => exact kc HR678_4 HB)
             (case side2 => exact HC678_4.out)
             (case side3 => exact kc HR678_5 HB)
             (case side4 => exact HC678_5.out)
             (case side5 => exact kc HR678_6 HB)
             (case side6 => exact HC678_6.out)
             rintro e w40 ⟨rfl, hb⟩
             refine ⟨_, rfl, ?_⟩
             have n0_ := zq9 (zq30 (g := gb676) (o := .cells #[.int .i64 a0_0, .slice (some ad678) l0_1.length c0_1] 46 (0, 0)) (by exact bk BK676) hb)
             have n1_ := zq9 (zq30 (g := gb679) (o := .cells #[.string ((rd_T32 l0_1 x18_2).f0), .int .i64 ((rd_T32 l0_1 x18_2).f1), .int .i64 ((rd_T32 l0_1 x18_2).f2), .string ((rd_T32 l0_1 x18_2).f3), .slice A678_4 ((rd_T32 l0_1 x18_2).f4).length c678_4, .slice A678_5 ((rd_T32 l0_1 x18_2).f5).length c678_5, .slice A678_6 ((rd_T32 l0_1 x18_2).f6).length c678_6] 32 (0, 0)) (by exact bk BK679) hb)
             have n2_ := zq9 (zq27 (by exact b2 HB GE676 GE679) hb)
             clear BK676
             clear BK679
             clear HB
             have BK676 := n0_
             have BK679 := n1_
             have HB := n2_
             clear n0_ n1_ n2_
             (try clear hb)
             (try clear hb2)
             (try clear hk)
             (try clear hi)
             refine hK.out _ _ ⟨bc BK679 0, bc BK679 1, bc BK679 2, bc BK679 3, bc BK679 4, bc BK679 5, bc BK679 6, bc BK676 0, bc BK676 1⟩ (fun hHeld => ?_)
             clear hK K
             refine norm_ (a' := ?_) ?_ ?_
             rotate_left; ·show Act.put _ (some 24) _ = _; simp only [Act.put, zq0, zq1, zq2, i64_w, i32_w]; rfl
             refine pa HT_ 2 25 (zb 31 7) ?_
             refine pa HT_ 3 26 (zb 31 15) ?_
             refine pa HT_ 4 27 (zb 31 31) ?_
             refine pa HT_ 5 28 (zb 31 63) ?_
             refine pa HT_ 6 29 (zb 31 127) ?_
             refine pb HT_ 7 30 (zb 31 255) ?_
             refine pb HT_ 8 31 (zb 31 511) ?_
             refine pb HT_ 9 32 (zb 31 1023) ?_
             refine pb HT_ 10 33 (zb 31 2047) ?_
             refine pb HT_ 11 34 (zb 31 4095) ?_
             refine pb HT_ 12 35 (zb 31 8191) ?_
             refine pb HT_ 13 36 (zb 31 16383) ?_
             refine pb HT_ 14 37 (zb 31 32767) ?_
             refine pb HT_ 15 38 (zb 31 65535) ?_
             refine pb HT_ 16 39 (zb 31 131071) ?_
             refine pa HT_ 17 40 (zb 31 262143) ?_
             refine pa HT_ 18 41 (zb 31 524287) ?_
             refine pa HT_ 19 42 (zb 31 1048575) ?_
             refine pa HT_ 20 43 (zb 31 2097151) ?_
             refine take_ (i := 21) (N := some 44) (v := ?_) (a' := ?_) (zb 31 4194303) rfl rfl (take_ofW HT_.out HW_.out (by kernel_rfl)) (fun _ _ _ h => h) (Or.inl ⟨by rfl, ?_⟩) hHeld ?_ ?_
             rotate_left; ·rintro w' ⟨s0, s1, s2, s3, s4, s5, s6, s7, s8⟩; go_simp; with_reducible rfl
             rotate_left; ·simp only [Act.put, zq0, zq1, zq2, i64_w, i32_w]; rfl
             refine pa HT_ 22 45 (zb 31 8388607) ?_
             refine pa HT_ 23 46 (zb 31 16777215) ?_
             refine pa HT_ 24 47 (zb 31 33554431) ?_
             refine pa HT_ 26 49 (zb 31 100663295) ?_
             refine take_ (i := 25) (N := some 48) (v := ?_) (a' := ?_) (zb 31 134217727) rfl rfl (take_ofW HT_.out HW_.out (by kernel_rfl)) (fun _ _ _ h => h) (Or.inl ⟨by rfl, ?_⟩) hHeld ?_ ?_
             rotate_left; ·rintro w' ⟨s0, s1, s2, s3, s4, s5, s6, s7, s8⟩; go_simp; with_reducible rfl
             rotate_left; ·simp only [Act.put, zq0, zq1, zq2, i64_w, i32_w]; rfl
             refine take_ (i := 27) (N := some 50) (v := ?_) (a' := ?_) (zb 31 268435455) rfl rfl (take_ofW HT_.out HW_.out (by kernel_rfl)) (fun _ _ _ h => h) (Or.inl ⟨by rfl, ?_⟩) hHeld ?_ ?_
             rotate_left; ·rintro w' ⟨s0, s1, s2, s3, s4, s5, s6, s7, s8⟩; go_simp; with_reducible rfl
             rotate_left; ·simp only [Act.put, zq0, zq1, zq2, i64_w, i32_w]; rfl
             refine pa HT_ 28 51 (zb 31 536870911) ?_
             refine pa HT_ 29 52 (zb 31 1073741823) ?_
             refine pa HT_ 30 53 (zb 31 2147483647) ?_
             refine done_ (done_of HT_.out (by kernel_rfl)) ?_
             try go_wp2
             go_meet
             case rel => exact ⟨_, (decide (((rd_T32 l0_1 x18_2).f1) ≤ a0_0)), (by first | rfl | (simp; done) | (simp [*]; done)), H', ⟨by have := HJ1.out; have := HK2.out; first | omega | exact Nat.le_refl _⟩, ⟨by refine bp ?_; exact BK676.out⟩, ⟨by refine bp ?_; exact BK679.out⟩, ⟨by exact b2 HB GE676 GE679⟩⟩
          ·replace c18 := Bool.eq_false_iff.mpr c18
           subst c18
           have H1 : (impl_BaseOk.j2 k2 l0_1 (l0_1.length : Int) x18_2 true a0_0 l0_1) = some r := by rw [if_neg (show ¬ (false = true) by decide)] at H; exact H
           clear H
           have H := H1
           clear H1
           have H' := zq9 H
           clear H
           try go_wp2
           have n0_ : Aside0 ((((((((w14.setCell ⟨gb679, 0, none⟩ (.string ((rd_T32 l0_1 x18_2).f0))).setCell ⟨gb679, 1, none⟩ (.int .i64 ((rd_T32 l0_1 x18_2).f1))).setCell ⟨gb679, 2, none⟩ (.int .i64 ((rd_T32 l0_1 x18_2).f2))).setCell ⟨gb679, 3, none⟩ (.string ((rd_T32 l0_1 x18_2).f3))).setCell ⟨gb679, 4, none⟩ (.slice A678_4 ((rd_T32 l0_1 x18_2).f4).length c678_4)).setCell ⟨gb679, 5, none⟩ (.slice A678_5 ((rd_T32 l0_1 x18_2).f5).length c678_5)).setCell ⟨gb679, 6, none⟩ (.slice A678_6 ((rd_T32 l0_1 x18_2).f6).length c678_6)).heap[gb676]? = some (.cells #[.int .i64 a0_0, .slice (some ad678) l0_1.length c0_1] 46 (0, 0))) := ⟨by refine bp ?_; refine blk_far ?_ NB676_679.out _; refine bp ?_; refine blk_far ?_ NB676_679.out _; refine bp ?_; refine blk_far ?_ NB676_679.out _; refine bp ?_; refine blk_far ?_ NB676_679.out _; refine bp ?_; refine blk_far ?_ NB676_679.out _; refine bp ?_; refine blk_far ?_ NB676_679.out _; refine bp ?_; refine blk_far ?_ NB676_679.out _; refine bp ?_; exact BK676.out⟩
           have n1_ : Aside0 ((((((((w14.setCell ⟨gb679, 0, none⟩ (.string ((rd_T32 l0_1 x18_2).f0))).setCell ⟨gb679, 1, none⟩ (.int .i64 ((rd_T32 l0_1 x18_2).f1))).setCell ⟨gb679, 2, none⟩ (.int .i64 ((rd_T32 l0_1 x18_2).f2))).setCell ⟨gb679, 3, none⟩ (.string ((rd_T32 l0_1 x18_2).f3))).setCell ⟨gb679, 4, none⟩ (.slice A678_4 ((rd_T32 l0_1 x18_2).f4).length c678_4)).setCell ⟨gb679, 5, none⟩ (.slice A678_5 ((rd_T32 l0_1 x18_2).f5).length c678_5)).setCell ⟨gb679, 6, none⟩ (.slice A678_6 ((rd_T32 l0_1 x18_2).f6).length c678_6)).heap[gb679]? = some (.cells #[.string ((rd_T32 l0_1 x18_2).f0), .int .i64 ((rd_T32 l0_1 x18_2).f1), .int .i64 ((rd_T32 l0_1 x18_2).f2), .string ((rd_T32 l0_1 x18_2).f3), .slice A678_4 ((rd_T32 l0_1 x18_2).f4).length c678_4, .slice A678_5 ((rd_T32 l0_1 x18_2).f5).length c678_5, .slice A678_6 ((rd_T32 l0_1 x18_2).f6).length c678_6] 32 (0, 0))) := ⟨by refine bp ?_; refine blk_put (cs := #[.string ((rd_T32 l0_1 x18_2).f0), .int .i64 ((rd_T32 l0_1 x18_2).f1), .int .i64 ((rd_T32 l0_1 x18_2).f2), .string ((rd_T32 l0_1 x18_2).f3), .slice A678_4 ((rd_T32 l0_1 x18_2).f4).length c678_4, .slice A678_5 ((rd_T32 l0_1 x18_2).f5).length c678_5, .slice none 0 0]) ?_ 6 _ rfl; refine bp ?_; refine blk_put (cs := #[.string ((rd_T32 l0_1 x18_2).f0), .int .i64 ((rd_T32 l0_1 x18_2).f1), .int .i64 ((rd_T32 l0_1 x18_2).f2), .string ((rd_T32 l0_1 x18_2).f3), .slice A678_4 ((rd_T32 l0_1 x18_2).f4).length c678_4, .slice none 0 0, .slice none 0 0]) ?_ 5 _ rfl; refine bp ?_; refine blk_put (cs := #[.string ((rd_T32 l0_1 x18_2).f0), .int .i64 ((rd_T32 l0_1 x18_2).f1), .int .i64 ((rd_T32 l0_1 x18_2).f2), .string ((rd_T32 l0_1 x18_2).f3), .slice none 0 0, .slice none 0 0, .slice none 0 0]) ?_ 4 _ rfl; refine bp ?_; refine blk_put (cs := #[.string ((rd_T32 l0_1 x18_2).f0), .int .i64 ((rd_T32 l0_1 x18_2).f1), .int .i64 ((rd_T32 l0_1 x18_2).f2), .string (⟨#[]⟩ : ByteArray), .slice none 0 0, .slice none 0 0, .slice none 0 0]) ?_ 3 _ rfl; refine bp ?_; refine blk_put (cs := #[.string ((rd_T32 l0_1 x18_2).f0), .int .i64 ((rd_T32 l0_1 x18_2).f1), .int .i64 0, .string (⟨#[]⟩ : ByteArray), .slice none 0 0, .slice none 0 0, .slice none 0 0]) ?_ 2 _ rfl; refine bp ?_; refine blk_put (cs := #[.string ((rd_T32 l0_1 x18_2).f0), .int .i64 0, .int .i64 0, .string (⟨#[]⟩ : ByteArray), .slice none 0 0, .slice none 0 0, .slice none 0 0]) ?_ 1 _ rfl; refine bp ?_; refine blk_put (cs := #[.string (⟨#[]⟩ : ByteArray), .int .i64 0, .int .i64 0, .string (⟨#[]⟩ : ByteArray), .slice none 0 0, .slice none 0 0, .slice none 0 0]) ?_ 0 _ rfl; refine bp ?_; exact BK679.out⟩
           have n2_ : Aside0 (Below w.heap.size w (((((((w14.setCell ⟨gb679, 0, none⟩ (.string ((rd_T32 l0_1 x18_2).f0))).setCell ⟨gb679, 1, none⟩ (.int .i64 ((rd_T32 l0_1 x18_2).f1))).setCell ⟨gb679, 2, none⟩ (.int .i64 ((rd_T32 l0_1 x18_2).f2))).setCell ⟨gb679, 3, none⟩ (.string ((rd_T32 l0_1 x18_2).f3))).setCell ⟨gb679, 4, none⟩ (.slice A678_4 ((rd_T32 l0_1 x18_2).f4).length c678_4)).setCell ⟨gb679, 5, none⟩ (.slice A678_5 ((rd_T32 l0_1 x18_2).f5).length c678_5)).setCell ⟨gb679, 6, none⟩ (.slice A678_6 ((rd_T32 l0_1 x18_2).f6).length c678_6))) := ⟨by exact b2 HB GE676 GE679⟩
           (try clear BK676)
           (try clear BK679)
           (try clear HB)
           generalize (((((((w14.setCell ⟨gb679, 0, none⟩ (.string ((rd_T32 l0_1 x18_2).f0))).setCell ⟨gb679, 1, none⟩ (.int .i64 ((rd_T32 l0_1 x18_2).f1))).setCell ⟨gb679, 2, none⟩ (.int .i64 ((rd_T32 l0_1 x18_2).f2))).setCell ⟨gb679, 3, none⟩ (.string ((rd_T32 l0_1 x18_2).f3))).setCell ⟨gb679, 4, none⟩ (.slice A678_4 ((rd_T32 l0_1 x18_2).f4).length c678_4)).setCell ⟨gb679, 5, none⟩ (.slice A678_5 ((rd_T32 l0_1 x18_2).f5).length c678_5)).setCell ⟨gb679, 6, none⟩ (.slice A678_6 ((rd_T32 l0_1 x18_2).f6).length c678_6)) = w41 at n0_ n1_ n2_ ⊢
           have BK676 := n0_
           have BK679 := n1_
           have HB := n2_
           clear n0_ n1_ n2_
           have n0_ := zq9 (blk_drew BK676.out)
           have n1_ := zq9 (blk_drew BK679.out)
           have n2_ := zq9 (zq4 HB.out)
           clear BK676
           clear BK679
           clear HB
           have BK676 := n0_
           have BK679 := n1_
           have HB := n2_
           clear n0_ n1_ n2_
           refine start_ (n := 31) (S := fun w' => w'.cell? ⟨gb679, 0, none⟩ = some (.string ((rd_T32 l0_1 x18_2).f0)) ∧ w'.cell? ⟨gb679, 1, none⟩ = some (.int .i64 ((rd_T32 l0_1 x18_2).f1)) ∧ w'.cell? ⟨gb679, 2, none⟩ = some (.int .i64 ((rd_T32 l0_1 x18_2).f2)) ∧ w'.cell? ⟨gb679, 3, none⟩ = some (.string ((rd_T32 l0_1 x18_2).f3)) ∧ w'.cell? ⟨gb679, 4, none⟩ = some (.slice A678_4 ((rd_T32 l0_1 x18_2).f4).length c678_4) ∧ w'.cell? ⟨gb679, 5, none⟩ = some (.slice A678_5 ((rd_T32 l0_1 x18_2).f5).length c678_5) ∧ w'.cell? ⟨gb679, 6, none⟩ = some (.slice A678_6 ((rd_T32 l0_1 x18_2).f6).length c678_6)) (ds := []) #[false, false, false, false, false, false, false, false, false, false, false, false, false, false, false, false, false, false, false, false, false, false, false, false, false, false, false, false, false, false, false] (by kernel_rfl) rfl rfl ⟨bc BK679 0, bc BK679 1, bc BK679 2, bc BK679 3, bc BK679 4, bc BK679 5, bc BK679 6⟩ (fun hHeld => ?_); refine with_tabW impl_BaseOk.tab6 impl_BaseOk.bits6 (fun HT_ HW_ => ?_)
           generalize w41.drew = w42 at BK676 BK679 HB hHeld ⊢
           refine take_ (i := 0) (N := some 23) (v := ?_) (a' := ?_) (zb 31 1) rfl rfl (take_ofW HT_.out HW_.out (by kernel_rfl)) (fun _ _ _ h => h) (Or.inl ⟨by rfl, ?_⟩) hHeld ?_ ?_
           rotate_left; ·rintro w' ⟨s0, s1, s2, s3, s4, s5, s6⟩; go_simp; with_reducible rfl
           rotate_left; ·simp only [Act.put, zq0, zq1, zq2, i64_w, i32_w]; rfl
           refine one_ (i := 1) (N := some 24) (zb 31 3) rfl rfl (one_of HT_.out (by kernel_rfl)) (by decide) (fun K hK => ?_)
           refine gs Try.func13 #[.agg #[.string ((rd_T32 l0_1 x18_2).f0), .int .i64 ((rd_T32 l0_1 x18_2).f1), .int .i64 ((rd_T32 l0_1 x18_2).f2), .string ((rd_T32 l0_1 x18_2).f3), .slice A678_4 ((rd_T32 l0_1 x18_2).f4).length c678_4, .slice A678_5 ((rd_T32 l0_1 x18_2).f5).length c678_5, .slice A678_6 ((rd_T32 l0_1 x18_2).f6).length c678_6]] ?_
           with_reducible refine (impl_EntryOk.calls k2 ((rd_T32 l0_1 x18_2).f0) ((rd_T32 l0_1 x18_2).f1) ((rd_T32 l0_1 x18_2).f2) ((rd_T32 l0_1 x18_2).f3) _ _ ((rd_T32 l0_1 x18_2).f4) _ _ ((rd_T32 l0_1 x18_2).f5) _ _ ((rd_T32 l0_1 x18_2).f6) false _ ?side1 ?side2 ?side3 ?side4 ?side5 ?side6 A17.out).mono ?_
           (case side1 => exact kc HR678_4 HB)
           (case side2 => exact HC678_4.out)
           (case side3 => exact kc HR678_5 HB)
           (case side4 => exact HC678_5.out)
           (case side5 => exact kc HR678_6 HB)
           (case side6 => exact HC678_6.out)
           rintro e w43 ⟨rfl, hb⟩
           refine ⟨_, rfl, ?_⟩
           have n0_ := zq9 (zq30 (g := gb676) (o := .cells #[.int .i64 a0_0, .slice (some ad678) l0_1.length c0_1] 46 (0, 0)) (by exact bk BK676) hb)
           have n1_ := zq9 (zq30 (g := gb679) (o := .cells #[.string ((rd_T32 l0_1 x18_2).f0), .int .i64 ((rd_T32 l0_1 x18_2).f1), .int .i64 ((rd_T32 l0_1 x18_2).f2), .string ((rd_T32 l0_1 x18_2).f3), .slice A678_4 ((rd_T32 l0_1 x18_2).f4).length c678_4, .slice A678_5 ((rd_T32 l0_1 x18_2).f5).length c678_5, .slice A678_6 ((rd_T32 l0_1 x18_2).f6).length c678_6] 32 (0, 0)) (by exact bk BK679) hb)
           have n2_ := zq9 (zq27 (by exact b2 HB GE676 GE679) hb)
           clear BK676
           clear BK679
           clear HB
           have BK676 := n0_
           have BK679 := n1_
           have HB := n2_
           clear n0_ n1_ n2_
           (try clear hb)
           (try clear hb2)
           (try clear hk)
           (try clear hi)
           refine hK.out _ _ ⟨bc BK679 0, bc BK679 1, bc BK679 2, bc BK679 3, bc BK679 4, bc BK679 5, bc BK679 6⟩ (fun hHeld => ?_)
           clear hK K
           refine norm_ (a' := ?_) ?_ ?_
           rotate_left; ·show Act.put _ (some 24) _ = _; simp only [Act.put, zq0, zq1, zq2, i64_w, i32_w]; rfl
           refine pa HT_ 2 25 (zb 31 7) ?_
           refine pa HT_ 3 26 (zb 31 15) ?_
           refine pb HT_ 4 27 (zb 31 31) ?_
           refine pb HT_ 5 28 (zb 31 63) ?_
           refine pb HT_ 6 29 (zb 31 127) ?_
           refine pb HT_ 7 30 (zb 31 255) ?_
           refine pb HT_ 8 31 (zb 31 511) ?_
           refine pb HT_ 9 32 (zb 31 1023) ?_
           refine pb HT_ 10 33 (zb 31 2047) ?_
           refine pb HT_ 11 34 (zb 31 4095) ?_
           refine pb HT_ 12 35 (zb 31 8191) ?_
           refine pb HT_ 13 36 (zb 31 16383) ?_
           refine pb HT_ 14 37 (zb 31 32767) ?_
           refine pb HT_ 15 38 (zb 31 65535) ?_
           refine pb HT_ 16 39 (zb 31 131071) ?_
           refine pb HT_ 17 40 (zb 31 262143) ?_
           refine pa HT_ 18 41 (zb 31 524287) ?_
           refine pa HT_ 19 42 (zb 31 1048575) ?_
           refine pb HT_ 20 43 (zb 31 2097151) ?_
           refine pb HT_ 21 44 (zb 31 4194303) ?_
           refine pb HT_ 22 45 (zb 31 8388607) ?_
           refine pb HT_ 23 46 (zb 31 16777215) ?_
           refine pb HT_ 24 47 (zb 31 33554431) ?_
           refine pb HT_ 25 48 (zb 31 67108863) ?_
           refine pb HT_ 26 49 (zb 31 134217727) ?_
           refine pb HT_ 27 50 (zb 31 268435455) ?_
           refine pb HT_ 28 51 (zb 31 536870911) ?_
           refine pb HT_ 29 52 (zb 31 1073741823) ?_
           refine pa HT_ 30 53 (zb 31 2147483647) ?_
           refine done_ (done_of HT_.out (by kernel_rfl)) ?_
           try go_wp2
           go_meet
           case rel => exact ⟨_, (true), (by first | rfl | (simp; done) | (simp [*]; done)), H', ⟨by have := HJ1.out; have := HK2.out; first | omega | exact Nat.le_refl _⟩, ⟨by refine bp ?_; exact BK676.out⟩, ⟨by refine bp ?_; exact BK679.out⟩, ⟨by exact b2 HB GE676 GE679⟩⟩
         case rest =>
          clear HC13
          try clear c1
          try clear p2
          try clear c3
          try clear c6
          try clear c13
          try clear c18
          try clear c34
          try clear c34b0
          try clear c34b1
          obtain ⟨kq, x53_12, rfl, HA, HJ12, BK676, BK679, HB⟩ := hcut
          cases kq with
          | zero => exact absurd HA.out (by simp [impl_BaseOk.j2])
          | succ kj12 =>
           have H := HA.out
           clear HA
           simp only [impl_BaseOk.j2] at H
           by_cases c44 : x53_12 = true
           ·subst c44
            have H1 : (some false) = some r := by rw [if_pos rfl] at H; exact H
            clear H
            have H := H1
            clear H1
            obtain rfl := Option.some.inj H
            go_wp2
            go_ret
            exact fz (by exact b2 HB GE676 GE679)
           ·replace c44 := Bool.eq_false_iff.mpr c44
            subst c44
            have H1 : (impl_BaseOk.l0 kj12 l0_1 (l0_1.length : Int) (wrap64 (x18_2 + 1)) a0_0 l0_1) = some r := by rw [if_neg (show ¬ (false = true) by decide)] at H; exact H
            clear H
            have H := H1
            clear H1
            have H' := zq9 H
            clear H
            go_wp2
            go_roundg kj12
            case measure => have := HJ1.out; have := HK2.out; have := HJ12.out; omega
            case rel => exact ⟨(wrap64 (x18_2 + 1)), (by first | rfl | (simp; done) | (simp [*]; done)), H', ⟨by have := HJ1.out; have := HK2.out; have := HJ12.out; omega⟩, ⟨by refine bp ?_; exact BK676.out⟩, ⟨by exact b2 HB GE676 GE679⟩⟩
        ·rw [if_neg c12] at H
         exact absurd H (by simp)
       ·rw [if_neg c11] at H
        exact absurd H (by simp)
      ·rw [if_neg c10] at H
       have c10b0 : decide (x18_2 < (l0_1.length : Int)) = false := decide_eq_false c10
       clear c10
       obtain rfl := Option.some.inj H
       go_wp2
       go_ret
       exact fz (by exact b1 HB GE676)
set_option maxHeartbeats 8000000 in
set_option maxRecDepth 100000 in
theorem laws_eqStringS.calls (k : Nat) (A0 : Option Addr) (c0 : Nat) (l0 : List ByteArray) (A1 : Option Addr) (c1 : Nat) (l1 : List ByteArray) (r : Bool) (w : World) (hr0 : Kd.C Kd.string w A0 l0.length l0) (hc0 : l0.length ≤ c0) (hr1 : Kd.C Kd.string w A1 l1.length l1) (hc1 : l1.length ≤ c1) (h : laws_eqStringS.f k l0 l1 = some r) :
  Calls Try.prog 23 #[.slice A0 l0.length c0, .slice A1 l1.length c1] w fun e w' => e = .returned (.bool r) ∧ Drawn0 w w' := by
 have HR0 := zq9 hr0
 have HC0 := zq9 hc0
 clear hr0 hc0
 have HR1 := zq9 hr1
 have HC1 := zq9 hc1
 clear hr1 hc1
 have H : (if (l0.length : Int) = (l1.length : Int) then (laws_eqStringS.l0 k l0 l1 0) else (some false)) = some r := h
 clear h
 go_enter Try.func23, Try.ntmps23
 by_cases c3 : (l0.length : Int) = (l1.length : Int)
 ·rw [if_pos c3] at H
  have c3b0 : ((l0.length : Int) == (l1.length : Int)) = true := beq_iff_eq.mpr c3
  have c3b1 : ((l0.length : Int) != (l1.length : Int)) = false := bne_eq_false_iff_eq.mpr c3
  have c3b2 : (l0.length == l1.length) = true := by first | simpa using c3 | (simp at c3 ⊢; omega)
  clear c3
  have H' := zq9 H
  clear H
  go_wp2
  repeat (go_quiet (fail); try go_wp2)
  go_loopg [5] k (fun kq v5 w' => ∃ (x5_1 : Int), v5 = .int .i64 x5_1 ∧ Aside0 (laws_eqStringS.l0 kq l0 l1 x5_1 = some r) ∧ Aside0 (kq ≤ k) ∧ Drawn0 w w')
  case atStart => exact ⟨(0), (by first | rfl | (simp; done) | (simp [*]; done)), H', ⟨Nat.le_refl _⟩, by repeat (first | exact Drawn0.refl _ | apply Drawn0.step)⟩
  case round =>
   clear H'
   try clear c1
   try clear c2
   try clear p2
   try clear c3
   try clear c3b0
   try clear c3b1
   try clear c3b2
   obtain ⟨x5_1, rfl, HA, HK1, ⟨m1, rfl⟩⟩ := hrel
   cases gk with
   | zero => exact absurd HA.out (by simp [laws_eqStringS.l0])
   | succ k1 =>
    have H := HA.out
    clear HA
    simp only [laws_eqStringS.l0] at H
    by_cases c4 : x5_1 < (l0.length : Int)
    ·rw [if_pos c4] at H
     have c4b0 : decide (x5_1 < (l0.length : Int)) = true := decide_eq_true c4
     clear c4
     by_cases c5 : 0 ≤ x5_1
     ·rw [if_pos c5] at H
      have c5b0 : decide (0 ≤ x5_1) = true := decide_eq_true c5
      clear c5
      by_cases c6 : x5_1 < (l1.length : Int)
      ·rw [if_pos c6] at H
       have c6b0 : decide (x5_1 < (l1.length : Int)) = true := decide_eq_true c6
       clear c6
       have p212 : 0 ≤ (x5_1 : Int) := of_decide_eq_true ‹_›
       have q212 : x5_1 < (l0.length : Int) := of_decide_eq_true ‹_›
       obtain ⟨ad212, e212, hx212_0⟩ := Kd.at_string HR0.out x5_1 p212 q212
       cases e212
       replace p212 := eq_true p212
       replace q212 := eq_true q212
       have p213 : 0 ≤ (x5_1 : Int) := of_decide_eq_true ‹_›
       have q213 : x5_1 < (l1.length : Int) := of_decide_eq_true ‹_›
       obtain ⟨ad213, e213, hx213_0⟩ := Kd.at_string HR1.out x5_1 p213 q213
       cases e213
       replace p213 := eq_true p213
       replace q213 := eq_true q213
       go_wp2
       by_cases c7 : (rdOf ByteArray.empty l0 x5_1).toList = (rdOf ByteArray.empty l1 x5_1).toList
       ·rw [if_pos c7] at H
        have c7b0 : ((rdOf ByteArray.empty l0 x5_1).toList == (rdOf ByteArray.empty l1 x5_1).toList) = true := beq_iff_eq.mpr c7
        have c7b1 : ((rdOf ByteArray.empty l0 x5_1).toList != (rdOf ByteArray.empty l1 x5_1).toList) = false := bne_eq_false_iff_eq.mpr c7
        clear c7
        have H' := zq9 H
        clear H
        repeat (go_quiet (fail); try go_wp2)
        go_roundg k1
        case measure => have := HK1.out; omega
        case rel => exact ⟨(wrap64 (x5_1 + 1)), (by first | rfl | (simp; done) | (simp [*]; done)), H', ⟨by have := HK1.out; omega⟩, by repeat (first | exact Drawn0.refl _ | apply Drawn0.step)⟩
       ·rw [if_neg c7] at H
        have c7b0 : ((rdOf ByteArray.empty l0 x5_1).toList == (rdOf ByteArray.empty l1 x5_1).toList) = false := beq_eq_false_iff_ne.mpr c7
        have c7b1 : ((rdOf ByteArray.empty l0 x5_1).toList != (rdOf ByteArray.empty l1 x5_1).toList) = true := bne_iff_ne.mpr c7
        obtain rfl := Option.some.inj H
        repeat (go_quiet (fail); try go_wp2)
        go_ret
        exact ⟨by first | rfl | (simp; done) | (simp [*]; done), by repeat (first | exact Drawn0.refl _ | apply Drawn0.step)⟩
      ·rw [if_neg c6] at H
       exact absurd H (by simp)
     ·rw [if_neg c5] at H
      exact absurd H (by simp)
    ·rw [if_neg c4] at H
     have c4b0 : decide (x5_1 < (l0.length : Int)) = false := decide_eq_false c4
     clear c4
     obtain rfl := Option.some.inj H
     go_wp2
     repeat (go_quiet (fail); try go_wp2)
     go_ret
     exact ⟨by first | rfl | (simp; done) | (simp [*]; done), by repeat (first | exact Drawn0.refl _ | apply Drawn0.step)⟩
 ·rw [if_neg c3] at H
  have c3b0 : ((l0.length : Int) == (l1.length : Int)) = false := beq_eq_false_iff_ne.mpr c3
  have c3b1 : ((l0.length : Int) != (l1.length : Int)) = true := bne_iff_ne.mpr c3
  have c3b2 : (l0.length == l1.length) = false := by first | simpa using c3 | (simp at c3 ⊢; omega)
  obtain rfl := Option.some.inj H
  go_wp2
  repeat (go_quiet (fail); try go_wp2)
  go_ret
  exact ⟨by first | rfl | (simp; done) | (simp [*]; done), by repeat (first | exact Drawn0.refl _ | apply Drawn0.step)⟩
set_option maxHeartbeats 8000000 in
set_option maxRecDepth 100000 in
theorem laws_eqScore.calls (a0_0 : ByteArray) (a0_1 : Int) (a1_0 : ByteArray) (a1_1 : Int) (r : Bool) (w : World) (h : laws_eqScore.f a0_0 a0_1 a1_0 a1_1 = some r) :
    Calls Try.prog 88 #[.agg #[.string a0_0, .int .i64 a0_1], .agg #[.string a1_0, .int .i64 a1_1]] w fun e w' => e = .returned (.bool r) ∧ Below w.heap.size w w' := by
  have hu99 := Try.underlying99
  have HB := zq9 (Below.refl w.heap.size w)
  have H : (if a0_0.toList = a1_0.toList then (if a0_1 = a1_1 then (some true) else (some false)) else (some false)) = some r := h
  clear h
  go_enter Try.func88, Try.ntmps88
  by_cases c3 : a0_0.toList = a1_0.toList
  · rw [if_pos c3] at H
    have c3b0 : (a0_0.toList == a1_0.toList) = true := beq_iff_eq.mpr c3
    have c3b1 : (a0_0.toList != a1_0.toList) = false := bne_eq_false_iff_eq.mpr c3
    clear c3
    by_cases c4 : a0_1 = a1_1
    · rw [if_pos c4] at H
      have c4b0 : (a0_1 == a1_1) = true := beq_iff_eq.mpr c4
      have c4b1 : (a0_1 != a1_1) = false := bne_eq_false_iff_eq.mpr c4
      clear c4
      obtain rfl := Option.some.inj H
      go_wp2_with (first | ((with_reducible refine zq25 (N := 2) rfl ?_); refine bx 2 #[.string a0_0, .int .i64 a0_1] 99 ?_; intro gb214 hg w5 hbox hb; have n0_ := zq9 (zq27 (by exact bl HB) hb); have n1_ := zq9 (hbox); have n2_ := zq9 ((by rw [hg]; exact (zq29 (by exact bl HB)) : w.heap.size ≤ gb214)); have n3_ := n2_; clear HB; have HB := n0_; have BK214 := n1_; have GW214 := n2_; have GE214 := n3_; clear n0_ n1_ n2_ n3_; clear hb hbox hg) | ((with_reducible refine zq25 (N := 3) rfl ?_); refine bx 3 #[.string a1_0, .int .i64 a1_1] 99 ?_; intro gb215 hg w6 hbox hb; have n0_ := zq9 (zq30 (g := gb214) (o := .cells #[.string a0_0, .int .i64 a0_1] 99 (0, 0)) (by exact bk BK214) hb); have n1_ := zq9 (zq27 (by exact b1 HB GE214) hb); have n2_ := zq9 (hbox); have n3_ := zq9 ((by rw [hg]; exact (zq29 (by exact b1 HB GE214)) : w.heap.size ≤ gb215)); have n4_ := n3_; have n5_ := zq9 ((by rw [hg]; exact Nat.ne_of_lt (blk_lt (g := gb214) (o := .cells #[.string a0_0, .int .i64 a0_1] 99 (0, 0)) (by exact bk BK214)) : gb214 ≠ gb215)); have n6_ := zq9 ((by rw [hg]; exact Nat.ne_of_gt (blk_lt (g := gb214) (o := .cells #[.string a0_0, .int .i64 a0_1] 99 (0, 0)) (by exact bk BK214)) : gb215 ≠ gb214)); clear BK214; clear HB; have BK214 := n0_; have HB := n1_; have BK215 := n2_; have GW215 := n3_; have GE215 := n4_; have NB214_215 := n5_; have NB215_214 := n6_; clear n0_ n1_ n2_ n3_ n4_ n5_ n6_; clear hb hbox hg; have hnb7 := NB214_215.out; have hnc7 := NB215_214.out; have hcz8_0 : w6.cell? ⟨gb214, 0, none⟩ = some (.string a0_0) := bc BK214 0; have hcz8_1 : w6.cell? ⟨gb214, 1, none⟩ = some (.int .i64 a0_1) := bc BK214 1; have hfz8_0 := zq6 BK214.out 0; have hfz8_1 := zq6 BK214.out 1; have hcz9_0 : w6.cell? ⟨gb215, 0, none⟩ = some (.string a1_0) := bc BK215 0; have hcz9_1 : w6.cell? ⟨gb215, 1, none⟩ = some (.int .i64 a1_1) := bc BK215 1; have hfz9_0 := zq6 BK215.out 0; have hfz9_1 := zq6 BK215.out 1))
      go_ret
      exact fz (by exact b2 HB GE214 GE215)
    · rw [if_neg c4] at H
      have c4b0 : (a0_1 == a1_1) = false := beq_eq_false_iff_ne.mpr c4
      have c4b1 : (a0_1 != a1_1) = true := bne_iff_ne.mpr c4
      obtain rfl := Option.some.inj H
      go_wp2_with (first | ((with_reducible refine zq25 (N := 2) rfl ?_); refine bx 2 #[.string a0_0, .int .i64 a0_1] 99 ?_; intro gb214 hg w5 hbox hb; have n0_ := zq9 (zq27 (by exact bl HB) hb); have n1_ := zq9 (hbox); have n2_ := zq9 ((by rw [hg]; exact (zq29 (by exact bl HB)) : w.heap.size ≤ gb214)); have n3_ := n2_; clear HB; have HB := n0_; have BK214 := n1_; have GW214 := n2_; have GE214 := n3_; clear n0_ n1_ n2_ n3_; clear hb hbox hg) | ((with_reducible refine zq25 (N := 3) rfl ?_); refine bx 3 #[.string a1_0, .int .i64 a1_1] 99 ?_; intro gb215 hg w6 hbox hb; have n0_ := zq9 (zq30 (g := gb214) (o := .cells #[.string a0_0, .int .i64 a0_1] 99 (0, 0)) (by exact bk BK214) hb); have n1_ := zq9 (zq27 (by exact b1 HB GE214) hb); have n2_ := zq9 (hbox); have n3_ := zq9 ((by rw [hg]; exact (zq29 (by exact b1 HB GE214)) : w.heap.size ≤ gb215)); have n4_ := n3_; have n5_ := zq9 ((by rw [hg]; exact Nat.ne_of_lt (blk_lt (g := gb214) (o := .cells #[.string a0_0, .int .i64 a0_1] 99 (0, 0)) (by exact bk BK214)) : gb214 ≠ gb215)); have n6_ := zq9 ((by rw [hg]; exact Nat.ne_of_gt (blk_lt (g := gb214) (o := .cells #[.string a0_0, .int .i64 a0_1] 99 (0, 0)) (by exact bk BK214)) : gb215 ≠ gb214)); clear BK214; clear HB; have BK214 := n0_; have HB := n1_; have BK215 := n2_; have GW215 := n3_; have GE215 := n4_; have NB214_215 := n5_; have NB215_214 := n6_; clear n0_ n1_ n2_ n3_ n4_ n5_ n6_; clear hb hbox hg; have hnb7 := NB214_215.out; have hnc7 := NB215_214.out; have hcz8_0 : w6.cell? ⟨gb214, 0, none⟩ = some (.string a0_0) := bc BK214 0; have hcz8_1 : w6.cell? ⟨gb214, 1, none⟩ = some (.int .i64 a0_1) := bc BK214 1; have hfz8_0 := zq6 BK214.out 0; have hfz8_1 := zq6 BK214.out 1; have hcz9_0 : w6.cell? ⟨gb215, 0, none⟩ = some (.string a1_0) := bc BK215 0; have hcz9_1 : w6.cell? ⟨gb215, 1, none⟩ = some (.int .i64 a1_1) := bc BK215 1; have hfz9_0 := zq6 BK215.out 0; have hfz9_1 := zq6 BK215.out 1))
      go_ret
      exact fz (by exact b2 HB GE214 GE215)
  · rw [if_neg c3] at H
    have c3b0 : (a0_0.toList == a1_0.toList) = false := beq_eq_false_iff_ne.mpr c3
    have c3b1 : (a0_0.toList != a1_0.toList) = true := bne_iff_ne.mpr c3
    obtain rfl := Option.some.inj H
    go_wp2_with (first | ((with_reducible refine zq25 (N := 2) rfl ?_); refine bx 2 #[.string a0_0, .int .i64 a0_1] 99 ?_; intro gb214 hg w15 hbox hb; have n0_ := zq9 (zq27 (by exact bl HB) hb); have n1_ := zq9 (hbox); have n2_ := zq9 ((by rw [hg]; exact (zq29 (by exact bl HB)) : w.heap.size ≤ gb214)); have n3_ := n2_; clear HB; have HB := n0_; have BK214 := n1_; have GW214 := n2_; have GE214 := n3_; clear n0_ n1_ n2_ n3_; clear hb hbox hg) | ((with_reducible refine zq25 (N := 3) rfl ?_); refine bx 3 #[.string a1_0, .int .i64 a1_1] 99 ?_; intro gb215 hg w16 hbox hb; have n0_ := zq9 (zq30 (g := gb214) (o := .cells #[.string a0_0, .int .i64 a0_1] 99 (0, 0)) (by exact bk BK214) hb); have n1_ := zq9 (zq27 (by exact b1 HB GE214) hb); have n2_ := zq9 (hbox); have n3_ := zq9 ((by rw [hg]; exact (zq29 (by exact b1 HB GE214)) : w.heap.size ≤ gb215)); have n4_ := n3_; have n5_ := zq9 ((by rw [hg]; exact Nat.ne_of_lt (blk_lt (g := gb214) (o := .cells #[.string a0_0, .int .i64 a0_1] 99 (0, 0)) (by exact bk BK214)) : gb214 ≠ gb215)); have n6_ := zq9 ((by rw [hg]; exact Nat.ne_of_gt (blk_lt (g := gb214) (o := .cells #[.string a0_0, .int .i64 a0_1] 99 (0, 0)) (by exact bk BK214)) : gb215 ≠ gb214)); clear BK214; clear HB; have BK214 := n0_; have HB := n1_; have BK215 := n2_; have GW215 := n3_; have GE215 := n4_; have NB214_215 := n5_; have NB215_214 := n6_; clear n0_ n1_ n2_ n3_ n4_ n5_ n6_; clear hb hbox hg; have hnb17 := NB214_215.out; have hnc17 := NB215_214.out; have hcz18_0 : w16.cell? ⟨gb214, 0, none⟩ = some (.string a0_0) := bc BK214 0; have hcz18_1 : w16.cell? ⟨gb214, 1, none⟩ = some (.int .i64 a0_1) := bc BK214 1; have hfz18_0 := zq6 BK214.out 0; have hfz18_1 := zq6 BK214.out 1; have hcz19_0 : w16.cell? ⟨gb215, 0, none⟩ = some (.string a1_0) := bc BK215 0; have hcz19_1 : w16.cell? ⟨gb215, 1, none⟩ = some (.int .i64 a1_1) := bc BK215 1; have hfz19_0 := zq6 BK215.out 0; have hfz19_1 := zq6 BK215.out 1))
    go_ret
    exact fz (by exact b2 HB GE214 GE215)
def laws_eqScoreS.T6 : Bool × List (List Nat × List Nat) := (true, [([], []), ([], []), ([0, 1], [0, 1]), ([2], [2]), ([], []), ([], []), ([4, 5], [4, 5]), ([6], [6]), ([3, 7], [3, 7]), ([8], [8])])
def laws_eqScoreS.B6 : List Nat := [0, 0, 3, 7, 0, 0, 48, 112, 255, 511]
theorem laws_eqScoreS.tab6 : rtab .any (opsOf Try.f54 6) = laws_eqScoreS.T6 := by kernel_rfl
theorem laws_eqScoreS.bits6 : waitsOk laws_eqScoreS.T6.2 laws_eqScoreS.B6 = true := by kernel_rfl
set_option maxHeartbeats 8000000 in
set_option maxRecDepth 100000 in
theorem laws_eqScoreS.calls (k : Nat) (A0 : Option Addr) (c0 : Nat) (l0 : List (S99)) (A1 : Option Addr) (c1 : Nat) (l1 : List (S99)) (r : Bool) (w : World) (hr0 : Kd.C k99 w A0 l0.length l0) (hc0 : l0.length ≤ c0) (hr1 : Kd.C k99 w A1 l1.length l1) (hc1 : l1.length ≤ c1) (h : laws_eqScoreS.f k l0 l1 = some r) :
  Calls Try.prog 54 #[.slice A0 l0.length c0, .slice A1 l1.length c1] w fun e w' => e = .returned (.bool r) ∧ Below w.heap.size w w' := by
 have hu99 := Try.underlying99
 have HR0 := zq9 hr0
 have HC0 := zq9 hc0
 clear hr0 hc0
 have HR1 := zq9 hr1
 have HC1 := zq9 hc1
 clear hr1 hc1
 have HB := zq9 (Below.refl w.heap.size w)
 have H : (if (l0.length : Int) = (l1.length : Int) then (laws_eqScoreS.l0 k l0 l1 0) else (some false)) = some r := h
 clear h
 go_enter Try.func54, Try.ntmps54
 by_cases c3 : (l0.length : Int) = (l1.length : Int)
 ·rw [if_pos c3] at H
  have c3b0 : ((l0.length : Int) == (l1.length : Int)) = true := beq_iff_eq.mpr c3
  have c3b1 : ((l0.length : Int) != (l1.length : Int)) = false := bne_eq_false_iff_eq.mpr c3
  have c3b2 : (l0.length == l1.length) = true := by first | simpa using c3 | (simp at c3 ⊢; omega)
  clear c3
  have H' := zq9 H
  clear H
  go_wp2
  go_loopg [5] k (fun kq v5 w' => ∃ (x5_1 : Int), v5 = .int .i64 x5_1 ∧ Aside0 (laws_eqScoreS.l0 kq l0 l1 x5_1 = some r) ∧ Aside0 (kq ≤ k) ∧ Aside0 (Below w.heap.size w w'))
  case atStart => exact ⟨(0), (by first | rfl | (simp; done) | (simp [*]; done)), H', ⟨Nat.le_refl _⟩, ⟨by exact bl HB⟩⟩
  case round =>
   clear H'
   try clear c1
   try clear p2
   try clear c3
   try clear c3b0
   try clear c3b1
   try clear c3b2
   obtain ⟨x5_1, rfl, HA, HK1, HB⟩ := hrel
   cases gk with
   | zero => exact absurd HA.out (by simp [laws_eqScoreS.l0])
   | succ k1 =>
    have H := HA.out
    clear HA
    simp only [laws_eqScoreS.l0] at H
    by_cases c4 : x5_1 < (l0.length : Int)
    ·rw [if_pos c4] at H
     have c4b0 : decide (x5_1 < (l0.length : Int)) = true := decide_eq_true c4
     clear c4
     by_cases c5 : 0 ≤ x5_1
     ·rw [if_pos c5] at H
      have c5b0 : decide (0 ≤ x5_1) = true := decide_eq_true c5
      clear c5
      by_cases c6 : x5_1 < (l1.length : Int)
      ·rw [if_pos c6] at H
       have c6b0 : decide (x5_1 < (l1.length : Int)) = true := decide_eq_true c6
       clear c6
       replace H := Option.bind_eq_some_iff.mp H
       obtain ⟨t218, A70, H⟩ := H
       try dsimp only at H
       have A7 := zq9 A70
       clear A70
       try go_wp2
       have n0_ := zq9 (zq4 HB.out)
       clear HB
       have HB := n0_
       clear n0_
       have p216 : 0 ≤ (x5_1 : Int) := of_decide_eq_true ‹_›
       have q216 : x5_1 < (l0.length : Int) := of_decide_eq_true ‹_›
       obtain ⟨ad216, e216, hx216_0, hx216_1⟩ := at_T99 HR0.out x5_1 p216 q216
       have hw216_1 := hx216_1
       have hw216_0 := hx216_0
       cases e216
       replace hx216_0 := (HB.out.cell (zq8 w _ hx216_0)).trans hx216_0
       replace hx216_1 := (HB.out.cell (zq8 w _ hx216_1)).trans hx216_1
       replace p216 := eq_true p216
       replace q216 := eq_true q216
       have p217 : 0 ≤ (x5_1 : Int) := of_decide_eq_true ‹_›
       have q217 : x5_1 < (l1.length : Int) := of_decide_eq_true ‹_›
       obtain ⟨ad217, e217, hx217_0, hx217_1⟩ := at_T99 HR1.out x5_1 p217 q217
       have hw217_1 := hx217_1
       have hw217_0 := hx217_0
       cases e217
       replace hx217_0 := (HB.out.cell (zq8 w _ hx217_0)).trans hx217_0
       replace hx217_1 := (HB.out.cell (zq8 w _ hx217_1)).trans hx217_1
       replace p217 := eq_true p217
       replace q217 := eq_true q217
       refine start_ (n := 10) (S := fun w' => w'.cell? (ad216.add ((x5_1).toNat * 2)) = some (.string ((rd_T99 l0 x5_1).f0)) ∧ w'.cell? ⟨(ad216.add ((x5_1).toNat * 2)).block, (ad216.add ((x5_1).toNat * 2)).off + 1, none⟩ = some (.int .i64 ((rd_T99 l0 x5_1).f1)) ∧ w'.cell? (ad217.add ((x5_1).toNat * 2)) = some (.string ((rd_T99 l1 x5_1).f0)) ∧ w'.cell? ⟨(ad217.add ((x5_1).toNat * 2)).block, (ad217.add ((x5_1).toNat * 2)).off + 1, none⟩ = some (.int .i64 ((rd_T99 l1 x5_1).f1))) (ds := []) #[false, false, false, false, false, false, false, false, false, false] (by kernel_rfl) rfl rfl ⟨((HB.out.cell (zq8 w _ hw216_0)).trans hw216_0), ((HB.out.cell (zq8 w _ hw216_1)).trans hw216_1), ((HB.out.cell (zq8 w _ hw217_0)).trans hw217_0), ((HB.out.cell (zq8 w _ hw217_1)).trans hw217_1)⟩ (fun hHeld => ?_); refine with_tabW laws_eqScoreS.tab6 laws_eqScoreS.bits6 (fun HT_ HW_ => ?_)
       generalize wr.drew = w9 at HB hx216_0 hx216_1 hx217_0 hx217_1 hHeld ⊢
       refine pa HT_ 0 17 (zb 10 1) ?_
       refine pa HT_ 1 18 (zb 10 3) ?_
       refine pa HT_ 2 19 (zb 10 7) ?_
       refine pa HT_ 4 21 (zb 10 23) ?_
       refine pa HT_ 5 22 (zb 10 55) ?_
       refine pa HT_ 6 23 (zb 10 119) ?_
       refine take_ (i := 3) (N := some 20) (v := ?_) (a' := ?_) (zb 10 127) rfl rfl (take_ofW HT_.out HW_.out (by kernel_rfl)) (fun _ _ _ h => h) (Or.inl ⟨by rfl, ?_⟩) hHeld ?_ ?_
       rotate_left; ·rintro w' ⟨s0, s1, s2, s3⟩; go_simp; with_reducible rfl
       rotate_left; ·simp only [Act.put, zq0, zq1, zq2, i64_w, i32_w]; rfl
       refine take_ (i := 7) (N := some 24) (v := ?_) (a' := ?_) (zb 10 255) rfl rfl (take_ofW HT_.out HW_.out (by kernel_rfl)) (fun _ _ _ h => h) (Or.inl ⟨by rfl, ?_⟩) hHeld ?_ ?_
       rotate_left; ·rintro w' ⟨s0, s1, s2, s3⟩; go_simp; with_reducible rfl
       rotate_left; ·simp only [Act.put, zq0, zq1, zq2, i64_w, i32_w]; rfl
       refine one_ (i := 8) (N := some 25) (zb 10 511) rfl rfl (one_of HT_.out (by kernel_rfl)) (by decide) (fun K hK => ?_)
       refine gs Try.func88 #[.agg #[.string ((rd_T99 l0 x5_1).f0), .int .i64 ((rd_T99 l0 x5_1).f1)], .agg #[.string ((rd_T99 l1 x5_1).f0), .int .i64 ((rd_T99 l1 x5_1).f1)]] ?_
       with_reducible refine (laws_eqScore.calls ((rd_T99 l0 x5_1).f0) ((rd_T99 l0 x5_1).f1) ((rd_T99 l1 x5_1).f0) ((rd_T99 l1 x5_1).f1) t218 _ A7.out).mono ?_
       rintro e w10 ⟨rfl, hb⟩
       refine ⟨_, rfl, ?_⟩
       have n0_ := zq9 (zq27 (by exact bl HB) hb)
       clear HB
       have HB := n0_
       clear n0_
       (try clear hb)
       (try clear hb2)
       (try clear hk)
       (try clear hi)
       refine hK.out _ _ ⟨((HB.out.cell (zq8 w _ hw216_0)).trans hw216_0), ((HB.out.cell (zq8 w _ hw216_1)).trans hw216_1), ((HB.out.cell (zq8 w _ hw217_0)).trans hw217_0), ((HB.out.cell (zq8 w _ hw217_1)).trans hw217_1)⟩ (fun hHeld => ?_)
       clear hK K
       refine norm_ (a' := ?_) ?_ ?_
       rotate_left; ·show Act.put _ (some 25) _ = _; simp only [Act.put, zq0, zq1, zq2, i64_w, i32_w]; rfl
       refine pa HT_ 9 26 (zb 10 1023) ?_
       refine done_ (done_of HT_.out (by kernel_rfl)) ?_
       by_cases c8 : t218 = true
       ·subst c8
        have H1 : (laws_eqScoreS.l0 k1 l0 l1 (wrap64 (x5_1 + 1))) = some r := by rw [if_pos rfl] at H; exact H
        clear H
        have H := H1
        clear H1
        have H' := zq9 H
        clear H
        try go_wp2
        go_roundg k1
        case measure => have := HK1.out; omega
        case rel => exact ⟨(wrap64 (x5_1 + 1)), (by first | rfl | (simp; done) | (simp [*]; done)), H', ⟨by have := HK1.out; omega⟩, ⟨by exact bl HB⟩⟩
       ·replace c8 := Bool.eq_false_iff.mpr c8
        subst c8
        have H1 : (some false) = some r := by rw [if_neg (show ¬ (false = true) by decide)] at H; exact H
        clear H
        have H := H1
        clear H1
        obtain rfl := Option.some.inj H
        try go_wp2
        go_ret
        exact fz (by exact bl HB)
      ·rw [if_neg c6] at H
       exact absurd H (by simp)
     ·rw [if_neg c5] at H
      exact absurd H (by simp)
    ·rw [if_neg c4] at H
     have c4b0 : decide (x5_1 < (l0.length : Int)) = false := decide_eq_false c4
     clear c4
     obtain rfl := Option.some.inj H
     go_wp2
     go_ret
     exact fz (by exact bl HB)
 ·rw [if_neg c3] at H
  have c3b0 : ((l0.length : Int) == (l1.length : Int)) = false := beq_eq_false_iff_ne.mpr c3
  have c3b1 : ((l0.length : Int) != (l1.length : Int)) = true := bne_iff_ne.mpr c3
  have c3b2 : (l0.length == l1.length) = false := by first | simpa using c3 | (simp at c3 ⊢; omega)
  obtain rfl := Option.some.inj H
  go_wp2
  go_ret
  exact fz (by exact bl HB)
set_option maxHeartbeats 8000000 in
set_option maxRecDepth 100000 in
theorem laws_eqPair.calls (a0_0 : ByteArray) (a0_1 : ByteArray) (a1_0 : ByteArray) (a1_1 : ByteArray) (r : Bool) (w : World) (h : laws_eqPair.f a0_0 a0_1 a1_0 a1_1 = some r) :
    Calls Try.prog 89 #[.agg #[.string a0_0, .string a0_1], .agg #[.string a1_0, .string a1_1]] w fun e w' => e = .returned (.bool r) ∧ Below w.heap.size w w' := by
  have hu101 := Try.underlying101
  have HB := zq9 (Below.refl w.heap.size w)
  have H : (if a0_0.toList = a1_0.toList then (if a0_1.toList = a1_1.toList then (some true) else (some false)) else (some false)) = some r := h
  clear h
  go_enter Try.func89, Try.ntmps89
  by_cases c3 : a0_0.toList = a1_0.toList
  · rw [if_pos c3] at H
    have c3b0 : (a0_0.toList == a1_0.toList) = true := beq_iff_eq.mpr c3
    have c3b1 : (a0_0.toList != a1_0.toList) = false := bne_eq_false_iff_eq.mpr c3
    clear c3
    by_cases c4 : a0_1.toList = a1_1.toList
    · rw [if_pos c4] at H
      have c4b0 : (a0_1.toList == a1_1.toList) = true := beq_iff_eq.mpr c4
      have c4b1 : (a0_1.toList != a1_1.toList) = false := bne_eq_false_iff_eq.mpr c4
      clear c4
      obtain rfl := Option.some.inj H
      go_wp2_with (first | ((with_reducible refine zq25 (N := 2) rfl ?_); refine bx 2 #[.string a0_0, .string a0_1] 101 ?_; intro gb219 hg w5 hbox hb; have n0_ := zq9 (zq27 (by exact bl HB) hb); have n1_ := zq9 (hbox); have n2_ := zq9 ((by rw [hg]; exact (zq29 (by exact bl HB)) : w.heap.size ≤ gb219)); have n3_ := n2_; clear HB; have HB := n0_; have BK219 := n1_; have GW219 := n2_; have GE219 := n3_; clear n0_ n1_ n2_ n3_; clear hb hbox hg) | ((with_reducible refine zq25 (N := 3) rfl ?_); refine bx 3 #[.string a1_0, .string a1_1] 101 ?_; intro gb220 hg w6 hbox hb; have n0_ := zq9 (zq30 (g := gb219) (o := .cells #[.string a0_0, .string a0_1] 101 (0, 0)) (by exact bk BK219) hb); have n1_ := zq9 (zq27 (by exact b1 HB GE219) hb); have n2_ := zq9 (hbox); have n3_ := zq9 ((by rw [hg]; exact (zq29 (by exact b1 HB GE219)) : w.heap.size ≤ gb220)); have n4_ := n3_; have n5_ := zq9 ((by rw [hg]; exact Nat.ne_of_lt (blk_lt (g := gb219) (o := .cells #[.string a0_0, .string a0_1] 101 (0, 0)) (by exact bk BK219)) : gb219 ≠ gb220)); have n6_ := zq9 ((by rw [hg]; exact Nat.ne_of_gt (blk_lt (g := gb219) (o := .cells #[.string a0_0, .string a0_1] 101 (0, 0)) (by exact bk BK219)) : gb220 ≠ gb219)); clear BK219; clear HB; have BK219 := n0_; have HB := n1_; have BK220 := n2_; have GW220 := n3_; have GE220 := n4_; have NB219_220 := n5_; have NB220_219 := n6_; clear n0_ n1_ n2_ n3_ n4_ n5_ n6_; clear hb hbox hg; have hnb7 := NB219_220.out; have hnc7 := NB220_219.out; have hcz8_0 : w6.cell? ⟨gb219, 0, none⟩ = some (.string a0_0) := bc BK219 0; have hcz8_1 : w6.cell? ⟨gb219, 1, none⟩ = some (.string a0_1) := bc BK219 1; have hfz8_0 := zq6 BK219.out 0; have hfz8_1 := zq6 BK219.out 1; have hcz9_0 : w6.cell? ⟨gb220, 0, none⟩ = some (.string a1_0) := bc BK220 0; have hcz9_1 : w6.cell? ⟨gb220, 1, none⟩ = some (.string a1_1) := bc BK220 1; have hfz9_0 := zq6 BK220.out 0; have hfz9_1 := zq6 BK220.out 1))
      go_ret
      exact fz (by exact b2 HB GE219 GE220)
    · rw [if_neg c4] at H
      have c4b0 : (a0_1.toList == a1_1.toList) = false := beq_eq_false_iff_ne.mpr c4
      have c4b1 : (a0_1.toList != a1_1.toList) = true := bne_iff_ne.mpr c4
      obtain rfl := Option.some.inj H
      go_wp2_with (first | ((with_reducible refine zq25 (N := 2) rfl ?_); refine bx 2 #[.string a0_0, .string a0_1] 101 ?_; intro gb219 hg w5 hbox hb; have n0_ := zq9 (zq27 (by exact bl HB) hb); have n1_ := zq9 (hbox); have n2_ := zq9 ((by rw [hg]; exact (zq29 (by exact bl HB)) : w.heap.size ≤ gb219)); have n3_ := n2_; clear HB; have HB := n0_; have BK219 := n1_; have GW219 := n2_; have GE219 := n3_; clear n0_ n1_ n2_ n3_; clear hb hbox hg) | ((with_reducible refine zq25 (N := 3) rfl ?_); refine bx 3 #[.string a1_0, .string a1_1] 101 ?_; intro gb220 hg w6 hbox hb; have n0_ := zq9 (zq30 (g := gb219) (o := .cells #[.string a0_0, .string a0_1] 101 (0, 0)) (by exact bk BK219) hb); have n1_ := zq9 (zq27 (by exact b1 HB GE219) hb); have n2_ := zq9 (hbox); have n3_ := zq9 ((by rw [hg]; exact (zq29 (by exact b1 HB GE219)) : w.heap.size ≤ gb220)); have n4_ := n3_; have n5_ := zq9 ((by rw [hg]; exact Nat.ne_of_lt (blk_lt (g := gb219) (o := .cells #[.string a0_0, .string a0_1] 101 (0, 0)) (by exact bk BK219)) : gb219 ≠ gb220)); have n6_ := zq9 ((by rw [hg]; exact Nat.ne_of_gt (blk_lt (g := gb219) (o := .cells #[.string a0_0, .string a0_1] 101 (0, 0)) (by exact bk BK219)) : gb220 ≠ gb219)); clear BK219; clear HB; have BK219 := n0_; have HB := n1_; have BK220 := n2_; have GW220 := n3_; have GE220 := n4_; have NB219_220 := n5_; have NB220_219 := n6_; clear n0_ n1_ n2_ n3_ n4_ n5_ n6_; clear hb hbox hg; have hnb7 := NB219_220.out; have hnc7 := NB220_219.out; have hcz8_0 : w6.cell? ⟨gb219, 0, none⟩ = some (.string a0_0) := bc BK219 0; have hcz8_1 : w6.cell? ⟨gb219, 1, none⟩ = some (.string a0_1) := bc BK219 1; have hfz8_0 := zq6 BK219.out 0; have hfz8_1 := zq6 BK219.out 1; have hcz9_0 : w6.cell? ⟨gb220, 0, none⟩ = some (.string a1_0) := bc BK220 0; have hcz9_1 : w6.cell? ⟨gb220, 1, none⟩ = some (.string a1_1) := bc BK220 1; have hfz9_0 := zq6 BK220.out 0; have hfz9_1 := zq6 BK220.out 1))
      go_ret
      exact fz (by exact b2 HB GE219 GE220)
  · rw [if_neg c3] at H
    have c3b0 : (a0_0.toList == a1_0.toList) = false := beq_eq_false_iff_ne.mpr c3
    have c3b1 : (a0_0.toList != a1_0.toList) = true := bne_iff_ne.mpr c3
    obtain rfl := Option.some.inj H
    go_wp2_with (first | ((with_reducible refine zq25 (N := 2) rfl ?_); refine bx 2 #[.string a0_0, .string a0_1] 101 ?_; intro gb219 hg w15 hbox hb; have n0_ := zq9 (zq27 (by exact bl HB) hb); have n1_ := zq9 (hbox); have n2_ := zq9 ((by rw [hg]; exact (zq29 (by exact bl HB)) : w.heap.size ≤ gb219)); have n3_ := n2_; clear HB; have HB := n0_; have BK219 := n1_; have GW219 := n2_; have GE219 := n3_; clear n0_ n1_ n2_ n3_; clear hb hbox hg) | ((with_reducible refine zq25 (N := 3) rfl ?_); refine bx 3 #[.string a1_0, .string a1_1] 101 ?_; intro gb220 hg w16 hbox hb; have n0_ := zq9 (zq30 (g := gb219) (o := .cells #[.string a0_0, .string a0_1] 101 (0, 0)) (by exact bk BK219) hb); have n1_ := zq9 (zq27 (by exact b1 HB GE219) hb); have n2_ := zq9 (hbox); have n3_ := zq9 ((by rw [hg]; exact (zq29 (by exact b1 HB GE219)) : w.heap.size ≤ gb220)); have n4_ := n3_; have n5_ := zq9 ((by rw [hg]; exact Nat.ne_of_lt (blk_lt (g := gb219) (o := .cells #[.string a0_0, .string a0_1] 101 (0, 0)) (by exact bk BK219)) : gb219 ≠ gb220)); have n6_ := zq9 ((by rw [hg]; exact Nat.ne_of_gt (blk_lt (g := gb219) (o := .cells #[.string a0_0, .string a0_1] 101 (0, 0)) (by exact bk BK219)) : gb220 ≠ gb219)); clear BK219; clear HB; have BK219 := n0_; have HB := n1_; have BK220 := n2_; have GW220 := n3_; have GE220 := n4_; have NB219_220 := n5_; have NB220_219 := n6_; clear n0_ n1_ n2_ n3_ n4_ n5_ n6_; clear hb hbox hg; have hnb17 := NB219_220.out; have hnc17 := NB220_219.out; have hcz18_0 : w16.cell? ⟨gb219, 0, none⟩ = some (.string a0_0) := bc BK219 0; have hcz18_1 : w16.cell? ⟨gb219, 1, none⟩ = some (.string a0_1) := bc BK219 1; have hfz18_0 := zq6 BK219.out 0; have hfz18_1 := zq6 BK219.out 1; have hcz19_0 : w16.cell? ⟨gb220, 0, none⟩ = some (.string a1_0) := bc BK220 0; have hcz19_1 : w16.cell? ⟨gb220, 1, none⟩ = some (.string a1_1) := bc BK220 1; have hfz19_0 := zq6 BK220.out 0; have hfz19_1 := zq6 BK220.out 1))
    go_ret
    exact fz (by exact b2 HB GE219 GE220)
def laws_eqPairS.T6 : Bool × List (List Nat × List Nat) := (true, [([], []), ([], []), ([0, 1], [0, 1]), ([2], [2]), ([], []), ([], []), ([4, 5], [4, 5]), ([6], [6]), ([3, 7], [3, 7]), ([8], [8])])
def laws_eqPairS.B6 : List Nat := [0, 0, 3, 7, 0, 0, 48, 112, 255, 511]
theorem laws_eqPairS.tab6 : rtab .any (opsOf Try.f55 6) = laws_eqPairS.T6 := by kernel_rfl
theorem laws_eqPairS.bits6 : waitsOk laws_eqPairS.T6.2 laws_eqPairS.B6 = true := by kernel_rfl
set_option maxHeartbeats 8000000 in
set_option maxRecDepth 100000 in
theorem laws_eqPairS.calls (k : Nat) (A0 : Option Addr) (c0 : Nat) (l0 : List (S101)) (A1 : Option Addr) (c1 : Nat) (l1 : List (S101)) (r : Bool) (w : World) (hr0 : Kd.C k101 w A0 l0.length l0) (hc0 : l0.length ≤ c0) (hr1 : Kd.C k101 w A1 l1.length l1) (hc1 : l1.length ≤ c1) (h : laws_eqPairS.f k l0 l1 = some r) :
  Calls Try.prog 55 #[.slice A0 l0.length c0, .slice A1 l1.length c1] w fun e w' => e = .returned (.bool r) ∧ Below w.heap.size w w' := by
 have hu101 := Try.underlying101
 have HR0 := zq9 hr0
 have HC0 := zq9 hc0
 clear hr0 hc0
 have HR1 := zq9 hr1
 have HC1 := zq9 hc1
 clear hr1 hc1
 have HB := zq9 (Below.refl w.heap.size w)
 have H : (if (l0.length : Int) = (l1.length : Int) then (laws_eqPairS.l0 k l0 l1 0) else (some false)) = some r := h
 clear h
 go_enter Try.func55, Try.ntmps55
 by_cases c3 : (l0.length : Int) = (l1.length : Int)
 ·rw [if_pos c3] at H
  have c3b0 : ((l0.length : Int) == (l1.length : Int)) = true := beq_iff_eq.mpr c3
  have c3b1 : ((l0.length : Int) != (l1.length : Int)) = false := bne_eq_false_iff_eq.mpr c3
  have c3b2 : (l0.length == l1.length) = true := by first | simpa using c3 | (simp at c3 ⊢; omega)
  clear c3
  have H' := zq9 H
  clear H
  go_wp2
  go_loopg [5] k (fun kq v5 w' => ∃ (x5_1 : Int), v5 = .int .i64 x5_1 ∧ Aside0 (laws_eqPairS.l0 kq l0 l1 x5_1 = some r) ∧ Aside0 (kq ≤ k) ∧ Aside0 (Below w.heap.size w w'))
  case atStart => exact ⟨(0), (by first | rfl | (simp; done) | (simp [*]; done)), H', ⟨Nat.le_refl _⟩, ⟨by exact bl HB⟩⟩
  case round =>
   clear H'
   try clear c1
   try clear p2
   try clear c3
   try clear c3b0
   try clear c3b1
   try clear c3b2
   obtain ⟨x5_1, rfl, HA, HK1, HB⟩ := hrel
   cases gk with
   | zero => exact absurd HA.out (by simp [laws_eqPairS.l0])
   | succ k1 =>
    have H := HA.out
    clear HA
    simp only [laws_eqPairS.l0] at H
    by_cases c4 : x5_1 < (l0.length : Int)
    ·rw [if_pos c4] at H
     have c4b0 : decide (x5_1 < (l0.length : Int)) = true := decide_eq_true c4
     clear c4
     by_cases c5 : 0 ≤ x5_1
     ·rw [if_pos c5] at H
      have c5b0 : decide (0 ≤ x5_1) = true := decide_eq_true c5
      clear c5
      by_cases c6 : x5_1 < (l1.length : Int)
      ·rw [if_pos c6] at H
       have c6b0 : decide (x5_1 < (l1.length : Int)) = true := decide_eq_true c6
       clear c6
       replace H := Option.bind_eq_some_iff.mp H
       obtain ⟨t223, A70, H⟩ := H
       try dsimp only at H
       have A7 := zq9 A70
       clear A70
       try go_wp2
       have n0_ := zq9 (zq4 HB.out)
       clear HB
       have HB := n0_
       clear n0_
       have p221 : 0 ≤ (x5_1 : Int) := of_decide_eq_true ‹_›
       have q221 : x5_1 < (l0.length : Int) := of_decide_eq_true ‹_›
       obtain ⟨ad221, e221, hx221_0, hx221_1⟩ := at_T101 HR0.out x5_1 p221 q221
       have hw221_1 := hx221_1
       have hw221_0 := hx221_0
       cases e221
       replace hx221_0 := (HB.out.cell (zq8 w _ hx221_0)).trans hx221_0
       replace hx221_1 := (HB.out.cell (zq8 w _ hx221_1)).trans hx221_1
       replace p221 := eq_true p221
       replace q221 := eq_true q221
       have p222 : 0 ≤ (x5_1 : Int) := of_decide_eq_true ‹_›
       have q222 : x5_1 < (l1.length : Int) := of_decide_eq_true ‹_›
       obtain ⟨ad222, e222, hx222_0, hx222_1⟩ := at_T101 HR1.out x5_1 p222 q222
       have hw222_1 := hx222_1
       have hw222_0 := hx222_0
       cases e222
       replace hx222_0 := (HB.out.cell (zq8 w _ hx222_0)).trans hx222_0
       replace hx222_1 := (HB.out.cell (zq8 w _ hx222_1)).trans hx222_1
       replace p222 := eq_true p222
       replace q222 := eq_true q222
       refine start_ (n := 10) (S := fun w' => w'.cell? (ad221.add ((x5_1).toNat * 2)) = some (.string ((rd_T101 l0 x5_1).f0)) ∧ w'.cell? ⟨(ad221.add ((x5_1).toNat * 2)).block, (ad221.add ((x5_1).toNat * 2)).off + 1, none⟩ = some (.string ((rd_T101 l0 x5_1).f1)) ∧ w'.cell? (ad222.add ((x5_1).toNat * 2)) = some (.string ((rd_T101 l1 x5_1).f0)) ∧ w'.cell? ⟨(ad222.add ((x5_1).toNat * 2)).block, (ad222.add ((x5_1).toNat * 2)).off + 1, none⟩ = some (.string ((rd_T101 l1 x5_1).f1))) (ds := []) #[false, false, false, false, false, false, false, false, false, false] (by kernel_rfl) rfl rfl ⟨((HB.out.cell (zq8 w _ hw221_0)).trans hw221_0), ((HB.out.cell (zq8 w _ hw221_1)).trans hw221_1), ((HB.out.cell (zq8 w _ hw222_0)).trans hw222_0), ((HB.out.cell (zq8 w _ hw222_1)).trans hw222_1)⟩ (fun hHeld => ?_); refine with_tabW laws_eqPairS.tab6 laws_eqPairS.bits6 (fun HT_ HW_ => ?_)
       generalize wr.drew = w9 at HB hx221_0 hx221_1 hx222_0 hx222_1 hHeld ⊢
       refine pa HT_ 0 17 (zb 10 1) ?_
       refine pa HT_ 1 18 (zb 10 3) ?_
       refine pa HT_ 2 19 (zb 10 7) ?_
       refine pa HT_ 4 21 (zb 10 23) ?_
       refine pa HT_ 5 22 (zb 10 55) ?_
       refine pa HT_ 6 23 (zb 10 119) ?_
       refine take_ (i := 3) (N := some 20) (v := ?_) (a' := ?_) (zb 10 127) rfl rfl (take_ofW HT_.out HW_.out (by kernel_rfl)) (fun _ _ _ h => h) (Or.inl ⟨by rfl, ?_⟩) hHeld ?_ ?_
       rotate_left; ·rintro w' ⟨s0, s1, s2, s3⟩; go_simp; with_reducible rfl
       rotate_left; ·simp only [Act.put, zq0, zq1, zq2, i64_w, i32_w]; rfl
       refine take_ (i := 7) (N := some 24) (v := ?_) (a' := ?_) (zb 10 255) rfl rfl (take_ofW HT_.out HW_.out (by kernel_rfl)) (fun _ _ _ h => h) (Or.inl ⟨by rfl, ?_⟩) hHeld ?_ ?_
       rotate_left; ·rintro w' ⟨s0, s1, s2, s3⟩; go_simp; with_reducible rfl
       rotate_left; ·simp only [Act.put, zq0, zq1, zq2, i64_w, i32_w]; rfl
       refine one_ (i := 8) (N := some 25) (zb 10 511) rfl rfl (one_of HT_.out (by kernel_rfl)) (by decide) (fun K hK => ?_)
       refine gs Try.func89 #[.agg #[.string ((rd_T101 l0 x5_1).f0), .string ((rd_T101 l0 x5_1).f1)], .agg #[.string ((rd_T101 l1 x5_1).f0), .string ((rd_T101 l1 x5_1).f1)]] ?_
       with_reducible refine (laws_eqPair.calls ((rd_T101 l0 x5_1).f0) ((rd_T101 l0 x5_1).f1) ((rd_T101 l1 x5_1).f0) ((rd_T101 l1 x5_1).f1) t223 _ A7.out).mono ?_
       rintro e w10 ⟨rfl, hb⟩
       refine ⟨_, rfl, ?_⟩
       have n0_ := zq9 (zq27 (by exact bl HB) hb)
       clear HB
       have HB := n0_
       clear n0_
       (try clear hb)
       (try clear hb2)
       (try clear hk)
       (try clear hi)
       refine hK.out _ _ ⟨((HB.out.cell (zq8 w _ hw221_0)).trans hw221_0), ((HB.out.cell (zq8 w _ hw221_1)).trans hw221_1), ((HB.out.cell (zq8 w _ hw222_0)).trans hw222_0), ((HB.out.cell (zq8 w _ hw222_1)).trans hw222_1)⟩ (fun hHeld => ?_)
       clear hK K
       refine norm_ (a' := ?_) ?_ ?_
       rotate_left; ·show Act.put _ (some 25) _ = _; simp only [Act.put, zq0, zq1, zq2, i64_w, i32_w]; rfl
       refine pa HT_ 9 26 (zb 10 1023) ?_
       refine done_ (done_of HT_.out (by kernel_rfl)) ?_
       by_cases c8 : t223 = true
       ·subst c8
        have H1 : (laws_eqPairS.l0 k1 l0 l1 (wrap64 (x5_1 + 1))) = some r := by rw [if_pos rfl] at H; exact H
        clear H
        have H := H1
        clear H1
        have H' := zq9 H
        clear H
        try go_wp2
        go_roundg k1
        case measure => have := HK1.out; omega
        case rel => exact ⟨(wrap64 (x5_1 + 1)), (by first | rfl | (simp; done) | (simp [*]; done)), H', ⟨by have := HK1.out; omega⟩, ⟨by exact bl HB⟩⟩
       ·replace c8 := Bool.eq_false_iff.mpr c8
        subst c8
        have H1 : (some false) = some r := by rw [if_neg (show ¬ (false = true) by decide)] at H; exact H
        clear H
        have H := H1
        clear H1
        obtain rfl := Option.some.inj H
        try go_wp2
        go_ret
        exact fz (by exact bl HB)
      ·rw [if_neg c6] at H
       exact absurd H (by simp)
     ·rw [if_neg c5] at H
      exact absurd H (by simp)
    ·rw [if_neg c4] at H
     have c4b0 : decide (x5_1 < (l0.length : Int)) = false := decide_eq_false c4
     clear c4
     obtain rfl := Option.some.inj H
     go_wp2
     go_ret
     exact fz (by exact bl HB)
 ·rw [if_neg c3] at H
  have c3b0 : ((l0.length : Int) == (l1.length : Int)) = false := beq_eq_false_iff_ne.mpr c3
  have c3b1 : ((l0.length : Int) != (l1.length : Int)) = true := bne_iff_ne.mpr c3
  have c3b2 : (l0.length == l1.length) = false := by first | simpa using c3 | (simp at c3 ⊢; omega)
  obtain rfl := Option.some.inj H
  go_wp2
  go_ret
  exact fz (by exact bl HB)
end Go.Proofs.Ytnkgmcgbbldkgaa.P
