import Derived.Test.YtnkgmcgbbldkgaaPrFnExactBaseDrop4
/- Texts of this claim, one behind the other: words on worlds and rows, printed functions and their walks, plain lemmas. -/
namespace Go.Proofs.Ytnkgmcgbbldkgaa.P
open Go.RowKit Go.Proofs.YtnkgmcgbbldkgaaW.PrintWords Go.Proofs.YtnkgmcgbbldkgaaW.PrintLast Go.Proofs.YtnkgmcgbbldkgaaW.PrintMore
attribute [local go_sem] max2_int min2_int max_two min_two max_three min_three max_four min_four   -- for this text's walks alone
set_option linter.unusedVariables false
set_option linter.unusedSimpArgs false
set_option maxHeartbeats 8000000 in
set_option maxRecDepth 100000 in
theorem impl_position.calls (a0 : Int) (r : Bool) (w : World) (h : impl_position.f a0 = some r) :
    Calls Try.prog 85 #[.int .i64 a0] w fun e w' => e = .returned (.bool r) ∧ Drawn0 w w' := by
  have H : ((impl_within.f a0 (-1000000000) 1000000000).bind fun t181 => (some t181)) = some r := h
  clear h; replace H := Option.bind_eq_some_iff.mp H; obtain ⟨t181, A20, H⟩ := H
  try dsimp only at H
  have A2 := zq9 A20; clear A20; obtain rfl := Option.some.inj H
  go_enter Try.func85, Try.ntmps85
  go_wp2_with (first | ((with_reducible refine zq24 (f := 49) rfl ?_); refine gl (some 4) Try.func49 #[.int .i64 a0, .int .i64 (-1000000000), .int .i64 1000000000] ?_; (with_reducible refine (impl_within.calls a0 (-1000000000) 1000000000 t181 _ A2.out).mono ?_); rintro e w' ⟨rfl, ⟨nd, rfl⟩⟩; refine ⟨_, rfl, ?_⟩))
  go_ret
  exact ⟨by first | rfl | (simp; done) | (simp [*]; done), by repeat (first | exact Drawn0.refl _ | apply Drawn0.step)⟩
set_option maxHeartbeats 8000000 in
set_option maxRecDepth 100000 in
theorem cmp_Or_int.calls (k : Nat) (A0 : Option Addr) (c0 : Nat) (l0 : List Int) (r : Int) (w : World) (hr0 : Kd.C (Kd.int .i64) w A0 l0.length l0) (hc0 : l0.length ≤ c0) (h : cmp_Or_int.f k l0 = some r) :
  Calls Try.prog 104 #[.slice A0 l0.length c0] w fun e w' => e = .returned (.int .i64 r) ∧ Drawn0 w w' := by
 have HR0 := zq9 hr0; have HC0 := zq9 hc0; clear hr0 hc0
 have H : (cmp_Or_int.l0 k 0 l0 (l0.length : Int) 0) = some r := h
 clear h; have H' := zq9 H; clear H
 go_enter Try.func104, Try.ntmps104
 go_wp2
 go_loopg [8] k (fun kq v8 w' => ∃ (x8_1 : Int), v8 = .int .i64 x8_1 ∧ Aside0 (cmp_Or_int.l0 kq 0 l0 (l0.length : Int) x8_1 = some r) ∧ Aside0 (kq ≤ k) ∧ Drawn0 w w')
 case atStart => exact ⟨(0), (by first | rfl | (simp; done) | (simp [*]; done)), H', ⟨Nat.le_refl _⟩, by repeat (first | exact Drawn0.refl _ | apply Drawn0.step)⟩
 case round =>
  clear H'
  try clear c1
  obtain ⟨x8_1, rfl, HA, HK1, ⟨m1, rfl⟩⟩ := hrel
  cases gk with
  | zero => exact absurd HA.out (by simp [cmp_Or_int.l0])
  | succ k1 =>
   have H := HA.out; clear HA
   simp only [cmp_Or_int.l0] at H
   by_cases c2 : x8_1 < (l0.length : Int)
   ·rw [if_pos c2] at H; have c2b0 : decide (x8_1 < (l0.length : Int)) = true := decide_eq_true c2; clear c2
    by_cases c3 : 0 ≤ x8_1
    ·rw [if_pos c3] at H; have c3b0 : decide (0 ≤ x8_1) = true := decide_eq_true c3; clear c3
     by_cases c4 : x8_1 < (l0.length : Int)
     ·rw [if_pos c4] at H; have c4b0 : decide (x8_1 < (l0.length : Int)) = true := decide_eq_true c4; clear c4
      by_cases c5 : (rd l0 x8_1) = 0
      ·rw [if_pos c5] at H
       have c5b0 : ((rd l0 x8_1) == 0) = true := beq_iff_eq.mpr c5
       have c5b1 : ((rd l0 x8_1) != 0) = false := bne_eq_false_iff_eq.mpr c5
       clear c5; have H' := zq9 H; clear H
       have p182 : 0 ≤ (x8_1 : Int) := of_decide_eq_true ‹_›
       have q182 : x8_1 < (l0.length : Int) := of_decide_eq_true ‹_›
       obtain ⟨ad182, e182, hx182_0⟩ := Kd.at_int HR0.out x8_1 p182 q182
       cases e182; replace p182 := eq_true p182; replace q182 := eq_true q182
       go_wp2
       go_roundg k1
       case measure => have := HK1.out; omega
       case rel => exact ⟨(wrap64 (x8_1 + 1)), (by first | rfl | (simp; done) | (simp [*]; done)), H', ⟨by have := HK1.out; omega⟩, by repeat (first | exact Drawn0.refl _ | apply Drawn0.step)⟩
      ·rw [if_neg c5] at H
       have c5b0 : ((rd l0 x8_1) == 0) = false := beq_eq_false_iff_ne.mpr c5
       have c5b1 : ((rd l0 x8_1) != 0) = true := bne_iff_ne.mpr c5
       obtain rfl := Option.some.inj H
       have p182 : 0 ≤ (x8_1 : Int) := of_decide_eq_true ‹_›
       have q182 : x8_1 < (l0.length : Int) := of_decide_eq_true ‹_›
       obtain ⟨ad182, e182, hx182_0⟩ := Kd.at_int HR0.out x8_1 p182 q182
       cases e182; replace p182 := eq_true p182; replace q182 := eq_true q182
       go_wp2
       go_ret
       exact ⟨by first | rfl | (simp; done) | (simp [*]; done), by repeat (first | exact Drawn0.refl _ | apply Drawn0.step)⟩
     ·rw [if_neg c4] at H
      exact absurd H (by simp)
    ·rw [if_neg c3] at H
     exact absurd H (by simp)
   ·rw [if_neg c2] at H; have c2b0 : decide (x8_1 < (l0.length : Int)) = false := decide_eq_false c2; clear c2; obtain rfl := Option.some.inj H
    go_wp2
    go_ret
    exact ⟨by first | rfl | (simp; done) | (simp [*]; done), by repeat (first | exact Drawn0.refl _ | apply Drawn0.step)⟩
set_option maxHeartbeats 8000000 in
set_option maxRecDepth 100000 in
theorem cmp_isNaN_int.calls (a0 : Int) (r : Bool) (w : World) (h : cmp_isNaN_int.f a0 = some r) :
    Calls Try.prog 117 #[.int .i64 a0] w fun e w' => e = .returned (.bool r) ∧ Drawn0 w w' := by
  have H : (some (a0 != a0)) = some r := h
  clear h; obtain rfl := Option.some.inj H
  go_enter Try.func117, Try.ntmps117
  go_wp2
  go_ret
  exact ⟨by first | rfl | (simp; done) | (simp [*]; done), by repeat (first | exact Drawn0.refl _ | apply Drawn0.step)⟩
set_option maxHeartbeats 8000000 in
set_option maxRecDepth 100000 in
theorem cmp_Compare_int.calls (a0 : Int) (a1 : Int) (r : Int) (w : World) (h : cmp_Compare_int.f a0 a1 = some r) :
    Calls Try.prog 105 #[.int .i64 a0, .int .i64 a1] w fun e w' => e = .returned (.int .i64 r) ∧ Drawn0 w w' := by
  have H : ((cmp_isNaN_int.f a0).bind fun t183 => ((cmp_isNaN_int.f a1).bind fun t184 => (if t183 = true then (if t184 = true then (some 0) else (some (-1))) else (if t184 = true then (some 1) else (if a0 < a1 then (some (-1)) else (if a0 > a1 then (some 1) else (some 0))))))) = some r := h
  clear h; replace H := Option.bind_eq_some_iff.mp H; obtain ⟨t183, A30, H⟩ := H
  try dsimp only at H
  have A3 := zq9 A30; clear A30; replace H := Option.bind_eq_some_iff.mp H; obtain ⟨t184, A40, H⟩ := H
  try dsimp only at H
  have A4 := zq9 A40; clear A40
  go_enter Try.func105, Try.ntmps105
  refine (Classical.em (t183 = true)).elim (fun c5 => ?p0) (fun c5 => ?n0)
  case' p0 =>
    subst c5
    have H1 : (if t184 = true then (some 0) else (some (-1))) = some r := by rw [if_pos rfl] at H; exact H
    clear H; have H := H1; clear H1
    refine (Classical.em (t184 = true)).elim (fun c6 => ?p1) (fun c6 => ?n1)
    case' p1 =>
      subst c6
      have H1 : (some 0) = some r := by rw [if_pos rfl] at H; exact H
      clear H; have H := H1; clear H1; obtain rfl := Option.some.inj H
    case' n1 =>
      replace c6 := Bool.eq_false_iff.mpr c6
      subst c6
      have H1 : (some (-1)) = some r := by rw [if_neg (show ¬ (false = true) by decide)] at H; exact H
      clear H; have H := H1; clear H1; obtain rfl := Option.some.inj H
  case' n0 =>
    replace c5 := Bool.eq_false_iff.mpr c5
    subst c5
    have H1 : (if t184 = true then (some 1) else (if a0 < a1 then (some (-1)) else (if a0 > a1 then (some 1) else (some 0)))) = some r := by rw [if_neg (show ¬ (false = true) by decide)] at H; exact H
    clear H; have H := H1; clear H1
    refine (Classical.em (t184 = true)).elim (fun c7 => ?p2) (fun c7 => ?n2)
    case' p2 =>
      subst c7
      have H1 : (some 1) = some r := by rw [if_pos rfl] at H; exact H
      clear H; have H := H1; clear H1; obtain rfl := Option.some.inj H
    case' n2 =>
      replace c7 := Bool.eq_false_iff.mpr c7
      subst c7
      have H1 : (if a0 < a1 then (some (-1)) else (if a0 > a1 then (some 1) else (some 0))) = some r := by rw [if_neg (show ¬ (false = true) by decide)] at H; exact H
      clear H; have H := H1; clear H1
      refine (Classical.em (a0 < a1)).elim (fun c8 => ?p3) (fun c8 => ?n3)
      case' p3 =>
        rw [if_pos c8] at H; have c8b0 : decide (a0 < a1) = true := decide_eq_true c8; clear c8; obtain rfl := Option.some.inj H
      case' n3 =>
        rw [if_neg c8] at H; have c8b0 : decide (a0 < a1) = false := decide_eq_false c8; clear c8
        refine (Classical.em (a0 > a1)).elim (fun c9 => ?p4) (fun c9 => ?n4)
        case' p4 =>
          rw [if_pos c9] at H; have c9b0 : decide (a1 < a0) = true := decide_eq_true c9; clear c9; obtain rfl := Option.some.inj H
        case' n4 =>
          rw [if_neg c9] at H; have c9b0 : decide (a1 < a0) = false := decide_eq_false c9; clear c9; obtain rfl := Option.some.inj H
  case p1 | n1 | p2 | p3 | p4 | n4 =>
    try go_wp2_with (first | ((with_reducible refine zq24 (f := 117) rfl ?_); refine gl (some 8) Try.func117 #[.int .i64 a0] ?_; (with_reducible refine (cmp_isNaN_int.calls a0 false _ A3.out).mono ?_); rintro e w' ⟨rfl, ⟨nd, rfl⟩⟩; refine ⟨_, rfl, ?_⟩) | ((with_reducible refine zq24 (f := 117) rfl ?_); refine gl (some 8) Try.func117 #[.int .i64 a0] ?_; (with_reducible refine (cmp_isNaN_int.calls a0 true _ A3.out).mono ?_); rintro e w' ⟨rfl, ⟨nd, rfl⟩⟩; refine ⟨_, rfl, ?_⟩) | ((with_reducible refine zq24 (f := 117) rfl ?_); refine gl (some 10) Try.func117 #[.int .i64 a1] ?_; (with_reducible refine (cmp_isNaN_int.calls a1 false _ A4.out).mono ?_); rintro e w' ⟨rfl, ⟨nd, rfl⟩⟩; refine ⟨_, rfl, ?_⟩) | ((with_reducible refine zq24 (f := 117) rfl ?_); refine gl (some 10) Try.func117 #[.int .i64 a1] ?_; (with_reducible refine (cmp_isNaN_int.calls a1 true _ A4.out).mono ?_); rintro e w' ⟨rfl, ⟨nd, rfl⟩⟩; refine ⟨_, rfl, ?_⟩))
    go_ret
    exact ⟨by first | rfl | (simp; done) | (simp [*]; done), by repeat (first | exact Drawn0.refl _ | apply Drawn0.step)⟩
set_option maxHeartbeats 8000000 in
set_option maxRecDepth 100000 in
theorem cmp_isNaN_string.calls (a0 : ByteArray) (r : Bool) (w : World) (h : cmp_isNaN_string.f a0 = some r) :
    Calls Try.prog 118 #[.string a0] w fun e w' => e = .returned (.bool r) ∧ Drawn0 w w' := by
  have H : (some (a0.toList != a0.toList)) = some r := h
  clear h; obtain rfl := Option.some.inj H
  go_enter Try.func118, Try.ntmps118
  go_wp2
  go_ret
  exact ⟨by first | rfl | (simp; done) | (simp [*]; done), by repeat (first | exact Drawn0.refl _ | apply Drawn0.step)⟩
set_option maxHeartbeats 8000000 in
set_option maxRecDepth 100000 in
theorem cmp_Compare_string.calls (a0 : ByteArray) (a1 : ByteArray) (r : Int) (w : World) (h : cmp_Compare_string.f a0 a1 = some r) :
    Calls Try.prog 106 #[.string a0, .string a1] w fun e w' => e = .returned (.int .i64 r) ∧ Drawn0 w w' := by
  have H : ((cmp_isNaN_string.f a0).bind fun t185 => ((cmp_isNaN_string.f a1).bind fun t186 => (if t185 = true then (if t186 = true then (some 0) else (some (-1))) else (if t186 = true then (some 1) else (if (Op.bytesLess a0.toList a1.toList) = true then (some (-1)) else (if (Op.bytesLess a1.toList a0.toList) = true then (some 1) else (some 0))))))) = some r := h
  clear h; replace H := Option.bind_eq_some_iff.mp H; obtain ⟨t185, A30, H⟩ := H
  try dsimp only at H
  have A3 := zq9 A30; clear A30; replace H := Option.bind_eq_some_iff.mp H; obtain ⟨t186, A40, H⟩ := H
  try dsimp only at H
  have A4 := zq9 A40; clear A40
  go_enter Try.func106, Try.ntmps106
  refine (Classical.em (t185 = true)).elim (fun c5 => ?p0) (fun c5 => ?n0)
  case' p0 =>
    subst c5
    have H1 : (if t186 = true then (some 0) else (some (-1))) = some r := by rw [if_pos rfl] at H; exact H
    clear H; have H := H1; clear H1
    refine (Classical.em (t186 = true)).elim (fun c6 => ?p1) (fun c6 => ?n1)
    case' p1 =>
      subst c6
      have H1 : (some 0) = some r := by rw [if_pos rfl] at H; exact H
      clear H; have H := H1; clear H1; obtain rfl := Option.some.inj H
    case' n1 =>
      replace c6 := Bool.eq_false_iff.mpr c6
      subst c6
      have H1 : (some (-1)) = some r := by rw [if_neg (show ¬ (false = true) by decide)] at H; exact H
      clear H; have H := H1; clear H1; obtain rfl := Option.some.inj H
  case' n0 =>
    replace c5 := Bool.eq_false_iff.mpr c5
    subst c5
    have H1 : (if t186 = true then (some 1) else (if (Op.bytesLess a0.toList a1.toList) = true then (some (-1)) else (if (Op.bytesLess a1.toList a0.toList) = true then (some 1) else (some 0)))) = some r := by rw [if_neg (show ¬ (false = true) by decide)] at H; exact H
    clear H; have H := H1; clear H1
    refine (Classical.em (t186 = true)).elim (fun c7 => ?p2) (fun c7 => ?n2)
    case' p2 =>
      subst c7
      have H1 : (some 1) = some r := by rw [if_pos rfl] at H; exact H
      clear H; have H := H1; clear H1; obtain rfl := Option.some.inj H
    case' n2 =>
      replace c7 := Bool.eq_false_iff.mpr c7
      subst c7
      have H1 : (if (Op.bytesLess a0.toList a1.toList) = true then (some (-1)) else (if (Op.bytesLess a1.toList a0.toList) = true then (some 1) else (some 0))) = some r := by rw [if_neg (show ¬ (false = true) by decide)] at H; exact H
      clear H; have H := H1; clear H1
      refine (Classical.em ((Op.bytesLess a0.toList a1.toList) = true)).elim (fun c8 => ?p3) (fun c8 => ?n3)
      case' p3 =>
        rw [if_pos c8] at H
        have c8b0 : (Op.bytesLess a0.toList a1.toList) = true := c8
        have c8q : (a1.toList == a0.toList) = false := X.bl_ne c8b0
        clear c8; obtain rfl := Option.some.inj H
      case' n3 =>
        rw [if_neg c8] at H
        have c8b0 : (Op.bytesLess a0.toList a1.toList) = false := by simpa using c8
        try have c8q : (a1.toList == a0.toList) = true := X.bl_eq (by assumption) c8b0
        clear c8
        refine (Classical.em ((Op.bytesLess a1.toList a0.toList) = true)).elim (fun c9 => ?p4) (fun c9 => ?n4)
        case' p4 =>
          rw [if_pos c9] at H
          have c9b0 : (Op.bytesLess a1.toList a0.toList) = true := c9
          have c9q : (a0.toList == a1.toList) = false := X.bl_ne c9b0
          clear c9; obtain rfl := Option.some.inj H
        case' n4 =>
          rw [if_neg c9] at H
          have c9b0 : (Op.bytesLess a1.toList a0.toList) = false := by simpa using c9
          try have c9q : (a0.toList == a1.toList) = true := X.bl_eq (by assumption) c9b0
          clear c9; obtain rfl := Option.some.inj H
  case p1 | n1 | p2 | p3 | p4 | n4 =>
    try go_wp2_with (first | ((with_reducible refine zq24 (f := 118) rfl ?_); refine gl (some 8) Try.func118 #[.string a0] ?_; (with_reducible refine (cmp_isNaN_string.calls a0 false _ A3.out).mono ?_); rintro e w' ⟨rfl, ⟨nd, rfl⟩⟩; refine ⟨_, rfl, ?_⟩) | ((with_reducible refine zq24 (f := 118) rfl ?_); refine gl (some 8) Try.func118 #[.string a0] ?_; (with_reducible refine (cmp_isNaN_string.calls a0 true _ A3.out).mono ?_); rintro e w' ⟨rfl, ⟨nd, rfl⟩⟩; refine ⟨_, rfl, ?_⟩) | ((with_reducible refine zq24 (f := 118) rfl ?_); refine gl (some 10) Try.func118 #[.string a1] ?_; (with_reducible refine (cmp_isNaN_string.calls a1 false _ A4.out).mono ?_); rintro e w' ⟨rfl, ⟨nd, rfl⟩⟩; refine ⟨_, rfl, ?_⟩) | ((with_reducible refine zq24 (f := 118) rfl ?_); refine gl (some 10) Try.func118 #[.string a1] ?_; (with_reducible refine (cmp_isNaN_string.calls a1 true _ A4.out).mono ?_); rintro e w' ⟨rfl, ⟨nd, rfl⟩⟩; refine ⟨_, rfl, ?_⟩))
    go_ret
    exact ⟨by first | rfl | (simp; done) | (simp [*]; done), by repeat (first | exact Drawn0.refl _ | apply Drawn0.step)⟩
def impl_scoreOrder.T1 : Bool × List (List Nat × List Nat) := (true, [([], []), ([0], [0]), ([], []), ([2], [2]), ([1, 3], [1, 3]), ([], []), ([5], [5]), ([], []), ([7], [7]), ([6, 8, 4], [6, 8]), ([4, 9], [4, 9]), ([10, 9], [10]), ([11, 11, 0, 1, 2, 3, 4, 5, 6, 7, 8, 9, 10, 11], [11])])
def impl_scoreOrder.B1 : List Nat := [0, 1, 0, 4, 15, 0, 32, 0, 128, 511, 1023, 2047, 4095]
theorem impl_scoreOrder.tab1 : rtab .any (opsOf Try.f86 1) = impl_scoreOrder.T1 := by kernel_rfl
theorem impl_scoreOrder.bits1 : waitsOk impl_scoreOrder.T1.2 impl_scoreOrder.B1 = true := by kernel_rfl
set_option maxHeartbeats 8000000 in
set_option maxRecDepth 100000 in
theorem impl_scoreOrder.calls (k : Nat) (a0_0 : ByteArray) (a0_1 : Int) (a1_0 : ByteArray) (a1_1 : Int) (r : Int) (w : World) (h : impl_scoreOrder.f k a0_0 a0_1 a1_0 a1_1 = some r) :
    Calls Try.prog 86 #[.agg #[.string a0_0, .int .i64 a0_1], .agg #[.string a1_0, .int .i64 a1_1]] w fun e w' => e = .returned (.int .i64 r) ∧ Below w.heap.size w w' := by
  have hu99 := Try.underlying99
  have HB := zq9 (Below.refl w.heap.size w)
  have H : ((cmp_Compare_int.f a0_1 a1_1).bind fun t189 => ((cmp_Compare_string.f a0_0 a1_0).bind fun t190 => ((cmp_Or_int.f k (([t189, t190] : List Int))).bind fun t194 => (some t194)))) = some r := h
  clear h; replace H := Option.bind_eq_some_iff.mp H; obtain ⟨t189, A30, H⟩ := H
  try dsimp only at H
  have A3 := zq9 A30; clear A30; replace H := Option.bind_eq_some_iff.mp H; obtain ⟨t190, A40, H⟩ := H
  try dsimp only at H
  have A4 := zq9 A40; clear A40
  obtain ⟨y191, hy191⟩ : ∃ y_ : List Int, y_ = (([t189, t190] : List Int)) := ⟨_, rfl⟩
  replace H : ((cmp_Or_int.f k y191).bind fun t194 => (some t194)) = some r := by first | (rw [hy191]; with_reducible exact H) | (have H2_ := (Option.bind_some _ _).symm.trans H; rw [hy191]; with_reducible exact H2_) | (have H2_ := (Option.bind_some _ _).symm.trans H; with_reducible exact H2_) | with_reducible exact H | (rw [hy191]; exact H) | exact H
  have Ny191 := zq9 hy191; clear hy191; replace H := Option.bind_eq_some_iff.mp H; obtain ⟨t194, A50, H⟩ := H
  try dsimp only at H
  have A5 := zq9 A50; clear A50; obtain rfl := Option.some.inj H
  go_enter Try.func86, Try.ntmps86
  try go_wp2_with (first | ((with_reducible refine zq25 (N := 2) rfl ?_); refine bx 2 #[.string a0_0, .int .i64 a0_1] 99 ?_; intro gb187 hg w6 hbox hb; have n0_ := zq9 (zq27 (by exact bl HB) hb); have n1_ := zq9 (hbox); have n2_ := zq9 ((by rw [hg]; exact (zq29 (by exact bl HB)) : w.heap.size ≤ gb187)); have n3_ := n2_; clear HB; have HB := n0_; have BK187 := n1_; have GW187 := n2_; have GE187 := n3_; clear n0_ n1_ n2_ n3_; clear hb hbox hg) | ((with_reducible refine zq25 (N := 3) rfl ?_); refine bx 3 #[.string a1_0, .int .i64 a1_1] 99 ?_; intro gb188 hg w7 hbox hb; have n0_ := zq9 (zq30 (g := gb187) (o := .cells #[.string a0_0, .int .i64 a0_1] 99 (0, 0)) (by exact bk BK187) hb); have n1_ := zq9 (zq27 (by exact b1 HB GE187) hb); have n2_ := zq9 (hbox); have n3_ := zq9 ((by rw [hg]; exact (zq29 (by exact b1 HB GE187)) : w.heap.size ≤ gb188)); have n4_ := n3_; have n5_ := zq9 ((by rw [hg]; exact Nat.ne_of_lt (blk_lt (g := gb187) (o := .cells #[.string a0_0, .int .i64 a0_1] 99 (0, 0)) (by exact bk BK187)) : gb187 ≠ gb188)); have n6_ := zq9 ((by rw [hg]; exact Nat.ne_of_gt (blk_lt (g := gb187) (o := .cells #[.string a0_0, .int .i64 a0_1] 99 (0, 0)) (by exact bk BK187)) : gb188 ≠ gb187)); clear BK187; clear HB; have BK187 := n0_; have HB := n1_; have BK188 := n2_; have GW188 := n3_; have GE188 := n4_; have NB187_188 := n5_; have NB188_187 := n6_; clear n0_ n1_ n2_ n3_ n4_ n5_ n6_; clear hb hbox hg))
  have n0_ := zq9 (blk_drew BK187.out)
  have n1_ := zq9 (blk_drew BK188.out)
  have n2_ := zq9 (zq4 HB.out)
  clear BK187; clear BK188; clear HB; have BK187 := n0_; have BK188 := n1_; have HB := n2_; clear n0_ n1_ n2_
  refine start_ (n := 13) (S := fun w' => w'.cell? ⟨gb187, 0, none⟩ = some (.string a0_0) ∧ w'.cell? ⟨gb187, 1, none⟩ = some (.int .i64 a0_1) ∧ w'.cell? ⟨gb188, 0, none⟩ = some (.string a1_0) ∧ w'.cell? ⟨gb188, 1, none⟩ = some (.int .i64 a1_1)) (ds := []) #[false, false, false, false, false, false, false, false, false, false, false, false, false] (by kernel_rfl) rfl rfl ⟨bc BK187 0, bc BK187 1, bc BK188 0, bc BK188 1⟩ (fun hHeld => ?_); refine with_tabW impl_scoreOrder.tab1 impl_scoreOrder.bits1 (fun HT_ HW_ => ?_)
  generalize w7.drew = w8 at BK187 BK188 HB hHeld ⊢
  refine pa HT_ 0 5 (zb 13 1) ?_; refine pa HT_ 2 7 (zb 13 5) ?_; refine pa HT_ 5 10 (zb 13 37) ?_; refine pa HT_ 7 12 (zb 13 165) ?_
  refine take_ (i := 1) (N := some 6) (v := ?_) (a' := ?_) (zb 13 167) rfl rfl (take_ofW HT_.out HW_.out (by kernel_rfl)) (fun _ _ _ h => h) (Or.inl ⟨by rfl, ?_⟩) hHeld ?_ ?_
  rotate_left; · rintro w' ⟨s0, s1, s2, s3⟩; go_simp; with_reducible rfl
  rotate_left; · simp only [Act.put, zq0, zq1, zq2, i64_w, i32_w]; rfl
  refine take_ (i := 3) (N := some 8) (v := ?_) (a' := ?_) (zb 13 175) rfl rfl (take_ofW HT_.out HW_.out (by kernel_rfl)) (fun _ _ _ h => h) (Or.inl ⟨by rfl, ?_⟩) hHeld ?_ ?_
  rotate_left; · rintro w' ⟨s0, s1, s2, s3⟩; go_simp; with_reducible rfl
  rotate_left; · simp only [Act.put, zq0, zq1, zq2, i64_w, i32_w]; rfl
  refine take_ (i := 6) (N := some 11) (v := ?_) (a' := ?_) (zb 13 239) rfl rfl (take_ofW HT_.out HW_.out (by kernel_rfl)) (fun _ _ _ h => h) (Or.inl ⟨by rfl, ?_⟩) hHeld ?_ ?_
  rotate_left; · rintro w' ⟨s0, s1, s2, s3⟩; go_simp; with_reducible rfl
  rotate_left; · simp only [Act.put, zq0, zq1, zq2, i64_w, i32_w]; rfl
  refine take_ (i := 8) (N := some 13) (v := ?_) (a' := ?_) (zb 13 495) rfl rfl (take_ofW HT_.out HW_.out (by kernel_rfl)) (fun _ _ _ h => h) (Or.inl ⟨by rfl, ?_⟩) hHeld ?_ ?_
  rotate_left; · rintro w' ⟨s0, s1, s2, s3⟩; go_simp; with_reducible rfl
  rotate_left; · simp only [Act.put, zq0, zq1, zq2, i64_w, i32_w]; rfl
  refine one_ (i := 4) (N := some 9) (zb 13 511) rfl rfl (one_of HT_.out (by kernel_rfl)) (by decide) (fun K hK => ?_)
  refine gs Try.func105 #[.int .i64 a0_1, .int .i64 a1_1] ?_
  with_reducible refine (cmp_Compare_int.calls a0_1 a1_1 t189 _ A3.out).mono ?_
  rintro e w' ⟨rfl, ⟨nd, rfl⟩⟩
  refine ⟨_, rfl, ?_⟩
  refine hK.out _ _ ⟨bc BK187 0, bc BK187 1, bc BK188 0, bc BK188 1⟩ (fun hHeld => ?_)
  clear hK K
  refine norm_ (a' := ?_) ?_ ?_
  rotate_left; · show Act.put _ (some 9) _ = _; simp only [Act.put, zq0, zq1, zq2, i64_w, i32_w]; rfl
  refine one_ (i := 9) (N := some 14) (zb 13 1023) rfl rfl (one_of HT_.out (by kernel_rfl)) (by decide) (fun K hK => ?_)
  refine gs Try.func106 #[.string a0_0, .string a1_0] ?_
  with_reducible refine (cmp_Compare_string.calls a0_0 a1_0 t190 _ A4.out).mono ?_
  rintro e w' ⟨rfl, ⟨nd, rfl⟩⟩
  refine ⟨_, rfl, ?_⟩
  refine hK.out _ _ ⟨bc BK187 0, bc BK187 1, bc BK188 0, bc BK188 1⟩ (fun hHeld => ?_)
  clear hK K
  refine norm_ (a' := ?_) ?_ ?_
  rotate_left; · show Act.put _ (some 14) _ = _; simp only [Act.put, zq0, zq1, zq2, i64_w, i32_w]; rfl
  refine one_ (i := 10) (N := some 15) (zb 13 2047) rfl rfl (one_of HT_.out (by kernel_rfl)) (by decide) (fun K hK => ?_)
  refine Kd.R_lit_step (Kd.int .i64) _ 3 ?hg (N := 15) ?hd (xs := ([t189, t190] : List Int)) (inner := [.int .i64 t189, .int .i64 t190]) (ok := fun _ => True) (okp := fun _ => True) ?hr ?hp (fun _ hk => hk) trivial (Below.refl _ _) (Nat.le_refl _) (by simp) ?_; (case hd => rfl); (case hg => rfl); (case hr => first | (go_simp; done) | (go_simp; rfl)); (case hp => exact (Reps.one (show Kd.M (Kd.int .i64) _ _ _ t189 [.int .i64 t189] from rfl) (Reps.one (show Kd.M (Kd.int .i64) _ _ _ t190 [.int .i64 t190] from rfl) (Reps.none _ _))))
  intro v192 w9 ho10 hb hg_ hnew_
  clear hg_ hnew_
  (first | rw [← Ny191.out] at ho10 | (simp only [Int.reduceToNat] at ho10; rw [← Ny191.out] at ho10))
  have n0_ := zq9 (Kd.R_lower ho10 (zq29 (by exact b2 HB GE187 GE188)))
  have n1_ := zq9 (zq30 (g := gb187) (o := .cells #[.string a0_0, .int .i64 a0_1] 99 (0, 0)) (by exact bk BK187) hb)
  have n2_ := zq9 (zq30 (g := gb188) (o := .cells #[.string a1_0, .int .i64 a1_1] 99 (0, 0)) (by exact bk BK188) hb)
  have n3_ := zq9 (zq27 (by exact b2 HB GE187 GE188) hb)
  clear BK187; clear BK188; clear HB; have HO193 := n0_; have BK187 := n1_; have BK188 := n2_; have HB := n3_; clear n0_ n1_ n2_ n3_; clear hb ho10
  obtain ⟨Ao11, co11, eo11⟩ := Kd.R_slice HO193.out
  (first | subst eo11 | (injection eo11 with f1_ f2_ f3_; have f4_ := f1_.symm; have f5_ := f3_.symm; clear f1_ f2_ f3_; subst f4_; subst f5_))
  refine hK.out _ _ ⟨bc BK187 0, bc BK187 1, bc BK188 0, bc BK188 1⟩ (fun hHeld => ?_)
  clear hK K
  refine norm_ (a' := ?_) ?_ ?_
  rotate_left; · show Act.put _ (some 15) _ = _; simp only [Act.put, zq0, zq1, zq2, i64_w, i32_w]; rfl
  refine one_ (i := 11) (N := some 16) (zb 13 4095) rfl rfl (one_of HT_.out (by kernel_rfl)) (by decide) (fun K hK => ?_)
  refine gs Try.func104 #[.slice Ao11 y191.length co11] ?_
  with_reducible refine (cmp_Or_int.calls k _ _ y191 t194 _ ?side1 ?side2 A5.out).mono ?_
  (case side1 => repeat (first | exact (Kd.R_reads' HO193.out).2.2 | (with_reducible refine zq18 ?_ _) | (with_reducible refine zq19 ?_ _) | (with_reducible refine zq20 ?_)))
  (case side2 => exact (Kd.R_reads' HO193.out).2.1)
  rintro e w' ⟨rfl, ⟨nd, rfl⟩⟩
  refine ⟨_, rfl, ?_⟩
  refine hK.out _ _ ⟨bc BK187 0, bc BK187 1, bc BK188 0, bc BK188 1⟩ (fun hHeld => ?_)
  clear hK K
  refine norm_ (a' := ?_) ?_ ?_
  rotate_left; · show Act.put _ (some 16) _ = _; simp only [Act.put, zq0, zq1, zq2, i64_w, i32_w]; rfl
  refine pa HT_ 12 4 (zb 13 8191) ?_
  refine done_ (done_of HT_.out (by kernel_rfl)) ?_
  try go_wp2
  go_ret
  exact fz (by exact b2 HB GE187 GE188)
set_option maxHeartbeats 400000 in
theorem impl_scoreAt.calls_lit (x0 : ByteArray) (x1 : Int) (t : ByteArray) (B : Nat) (w : World) (hB : w.cell? ⟨B, 0, none⟩ = some (.string t)) :
    Calls Try.prog 108 #[.agg #[.string x0, .int .i64 x1], .pointer (some ⟨B, 0, none⟩)] w fun e w' => e = .returned (.bool (x0.toList == t.toList)) ∧ Below w.heap.size w w' := by
  have hlt := zq8 w ⟨B, 0, none⟩ hB
  go_enter Try.func108, Try.ntmps108
  go_wp2
  go_ret
  exact ⟨rfl, (Below.refl _ _).alloc (Nat.le_refl _) _⟩
theorem impl_scoreAt.hit (t : ByteArray) (l : List S99) (i : Nat) (h : i < l.length) (he : (l[i].f0.toList == t.toList) = true) : impl_scoreAt.from t (l.drop i) i = i := by
  rw [List.drop_eq_getElem_cons h, impl_scoreAt.from, if_pos (by simpa using he)]
theorem impl_scoreAt.step (t : ByteArray) (l : List S99) (i : Nat) (h : i < l.length) (he : (l[i].f0.toList == t.toList) = false) : impl_scoreAt.from t (l.drop i) i = impl_scoreAt.from t (l.drop (i + 1)) (i + 1) := by
  rw [List.drop_eq_getElem_cons h, impl_scoreAt.from, if_neg (by simpa using he)]
set_option maxHeartbeats 2000000 in
theorem impl_scoreAt.finds (A0 : Option Addr) (c0 : Nat) (l0 : List S99) (t : ByteArray) (B : Nat) (w : World) (hr0 : Kd.C k99 w A0 l0.length l0) (hB : w.cell? ⟨B, 0, none⟩ = some (.string t)) :
    Calls Try.prog 107 #[.slice A0 l0.length c0, .func (.func 108) #[] #[.pointer (some ⟨B, 0, none⟩)]] w fun e w' => e = .returned (.int .i64 (impl_scoreAt.from t l0 0)) ∧ Below w.heap.size w w' := by
  have hlt := zq8 w ⟨B, 0, none⟩ hB
  have hbig : l0.length ≤ 9223372036854775807 := hr0.2.1
  have HR0 := zq9 hr0; clear hr0
  go_enter Try.func107, Try.ntmps107
  go_wp2
  go_loopg [5, 8] l0.length (fun gg _ s8 wr => ∃ kk : Nat, kk ≤ l0.length ∧ l0.length - kk ≤ gg ∧ s8 = .int .i64 kk ∧ Aside0 (Below w.heap.size w wr) ∧ Aside0 (impl_scoreAt.from t (l0.drop kk) kk = impl_scoreAt.from t l0 0))
  case atStart => exact ⟨0, Nat.zero_le _, by omega, rfl, ⟨Below.refl _ w⟩, ⟨rfl⟩⟩
  case round =>
    obtain ⟨kk, hkk, hg, rfl, BW, A⟩ := hrel
    by_cases hlt2 : kk < l0.length
    · have hltz : (kk : Int) < (l0.length : Int) := by omega
      have hel : rd_T99 l0 (kk : Int) = l0[kk] := by simp [rd_T99, List.getD_eq_getElem?_getD, hlt2]
      obtain ⟨ad, e0, hx0, hx1⟩ := at_T99 (zq31 HR0.out BW.out) (kk : Int) (by omega) (by omega)
      cases e0
      simp only [Int.toNat_natCast] at hx0 hx1
      have hcall := impl_scoreAt.calls_lit (rd_T99 l0 kk).f0 (rd_T99 l0 kk).f1 t B wr ((BW.out.cell (p := ⟨B, 0, none⟩) hlt).trans hB)
      cases hq : ((rd_T99 l0 (kk : Int)).f0.toList == t.toList) with
      | true =>
        rw [hq] at hcall
        have HIT := zq9 (impl_scoreAt.hit t l0 kk hlt2 (by rw [← hel]; exact hq))
        clear hq hel
        go_wp2_with (refine hcall.mono ?_; rintro e w' ⟨rfl, hb'⟩)
        go_ret
        exact ⟨congrArg (fun z => Ending.returned (.int .i64 z)) (HIT.out.symm.trans A.out), BW.out.trans (hb'.mono BW.out.size)⟩
      | false =>
        rw [hq] at hcall
        have MISS := zq9 (impl_scoreAt.step t l0 kk hlt2 (by rw [← hel]; exact hq))
        clear hq hel
        go_wp2_with (refine hcall.mono ?_; rintro e w' ⟨rfl, hb'⟩)
        go_roundg (l0.length - (kk + 1))
        case measure => omega
        case rel => exact ⟨kk + 1, by omega, by omega, by go_num, ⟨BW.out.trans (hb'.mono BW.out.size)⟩, ⟨by rw [← MISS.out]; exact A.out⟩⟩
    · have hltz : ¬ (kk : Int) < (l0.length : Int) := by omega
      obtain rfl : kk = l0.length := by omega
      go_wp2
      go_ret
      have e1 := A.out
      rw [List.drop_of_length_le (Nat.le_refl _)] at e1
      exact ⟨congrArg (fun z => Ending.returned (.int .i64 z)) e1, BW.out⟩
set_option maxHeartbeats 2000000 in
theorem impl_scoreAt.calls (A0 : Option Addr) (c0 : Nat) (l0 : List S99) (a1 : ByteArray) (r : Int) (w : World) (hr0 : Kd.C k99 w A0 l0.length l0) (hc0 : l0.length ≤ c0) (h : impl_scoreAt.f l0 a1 = some r) :
    Calls Try.prog 87 #[.slice A0 l0.length c0, .string a1] w fun e w' => e = .returned (.int .i64 r) ∧ Below w.heap.size w w' := by
  obtain rfl := Option.some.inj h
  have hr1 : Kd.C k99 (w.alloc (.cells #[.string a1] 9)) A0 l0.length l0 := zq31 hr0 ((Below.refl _ _).alloc (Nat.le_refl _) _)
  have HF := fun hB => impl_scoreAt.finds A0 c0 l0 a1 w.heap.size (w.alloc (.cells #[.string a1] 9)) hr1 hB
  go_enter Try.func87, Try.ntmps87
  go_wp2_with fail
  refine (HF (by simp)).mono ?_
  rintro e w' ⟨rfl, hb⟩
  go_wp2
  go_ret
  exact ⟨rfl, ((Below.refl _ _).alloc (Nat.le_refl _) _).trans (hb.mono (by simp))⟩
def impl_ScoresOk.T4 : Bool × List (List Nat × List Nat) := (true, [([], []), ([0], [0]), ([1], [1]), ([2], [2]), ([3], [3]), ([4], [4]), ([5, 4], [4, 5]), ([6, 4, 4], [4, 6]), ([7, 4], [4, 7]), ([4, 8], [4, 8]), ([9, 7], [9]), ([10], [10]), ([11, 10], [10, 11]), ([12, 10, 10], [10, 12]), ([13], [13]), ([13], [13]), ([15, 13], [13, 15]), ([14, 16, 13], [13, 14, 16]), ([17, 13], [13, 17]), ([13], [13]), ([18, 19, 13, 13], [13, 18, 19]), ([20, 13], [13, 20]), ([13, 21, 10], [10, 13, 21]), ([10, 22], [10, 22]), ([23, 20], [23]), ([24], [24]), ([24], [24]), ([26, 24], [24, 26]), ([25, 27, 24, 24], [24, 25, 27]), ([24], [24]), ([28, 29, 24], [24, 28, 29]), ([24, 30], [24, 30])])
def impl_ScoresOk.B4 : List Nat := [0, 1, 3, 7, 15, 31, 63, 127, 255, 511, 1023, 2047, 4095, 8191, 16383, 16383, 49151, 131071, 262143, 16383, 1048575, 2097151, 4194303, 8388607, 16777215, 33554431, 33554431, 100663295, 268435455, 33554431, 1073741823, 2147483647]
theorem impl_ScoresOk.tab4 : rtab .any (opsOf Try.f52 4) = impl_ScoresOk.T4 := by kernel_rfl
theorem impl_ScoresOk.bits4 : waitsOk impl_ScoresOk.T4.2 impl_ScoresOk.B4 = true := by kernel_rfl
set_option maxHeartbeats 8000000 in
set_option maxRecDepth 100000 in
theorem impl_ScoresOk.calls (k : Nat) (A0 : Option Addr) (c0 : Nat) (l0 : List (S99)) (r : Bool) (w : World) (hr0 : Kd.C k99 w A0 l0.length l0) (hc0 : l0.length ≤ c0) (h : impl_ScoresOk.f k l0 = some r) :
  Calls Try.prog 52 #[.slice A0 l0.length c0] w fun e w' => e = .returned (.bool r) ∧ Below w.heap.size w w' := by
 have hu99 := Try.underlying99; have HR0 := zq9 hr0; have HC0 := zq9 hc0; clear hr0 hc0
 have HB := zq9 (Below.refl w.heap.size w)
 have H : (impl_ScoresOk.l0 k l0 l0 (l0.length : Int) 0) = some r := h
 clear h; have H' := zq9 H; clear H
 go_enter Try.func52, Try.ntmps52
 go_wp2
 go_loopg [7] k (fun kq v7 w' => ∃ (x7_1 : Int), v7 = .int .i64 x7_1 ∧ Aside0 (impl_ScoresOk.l0 kq l0 l0 (l0.length : Int) x7_1 = some r) ∧ Aside0 (kq ≤ k) ∧ Aside0 (Below w.heap.size w w'))
 case atStart => exact ⟨(0), (by first | rfl | (simp; done) | (simp [*]; done)), H', ⟨Nat.le_refl _⟩, ⟨by exact bl HB⟩⟩
 case round =>
  clear H'
  obtain ⟨x7_1, rfl, HA, HK1, HB⟩ := hrel
  cases gk with
  | zero => exact absurd HA.out (by simp [impl_ScoresOk.l0])
  | succ k1 =>
   have H := HA.out; clear HA
   simp only [impl_ScoresOk.l0] at H
   refine (Classical.em (x7_1 < (l0.length : Int))).elim (fun c2 => ?p0) (fun c2 => ?n0)
   case' p0 =>
    rw [if_pos c2] at H; have c2b0 : decide (x7_1 < (l0.length : Int)) = true := decide_eq_true c2; clear c2
    refine (Classical.em (0 ≤ x7_1)).elim (fun c3 => ?p1) (fun c3 => ?n1)
    case' p1 =>
     rw [if_pos c3] at H; have c3b0 : decide (0 ≤ x7_1) = true := decide_eq_true c3; clear c3
     refine (Classical.em (x7_1 < (l0.length : Int))).elim (fun c4 => ?p2) (fun c4 => ?n2)
     case' p2 =>
      rw [if_pos c4] at H; have c4b0 : decide (x7_1 < (l0.length : Int)) = true := decide_eq_true c4; clear c4
      have p195 : 0 ≤ (x7_1 : Int) := of_decide_eq_true ‹_›
      have q195 : x7_1 < (l0.length : Int) := of_decide_eq_true ‹_›
      obtain ⟨ad195, e195, hx195_0, hx195_1⟩ := at_T99 HR0.out x7_1 p195 q195
      cases e195; replace hx195_0 := hcl HB hx195_0; replace hx195_1 := hcl HB hx195_1; replace p195 := eq_true p195; replace q195 := eq_true q195
      try go_wp2_with (first | ((with_reducible refine zq25 (N := 4) rfl ?_); refine bx 4 #[.string (⟨#[]⟩ : ByteArray), .int .i64 0] 99 ?_; intro gb196 hg w6 hbox hb; have n0_ := zq9 (zq27 (by exact bl HB) hb); have n1_ := zq9 (hbox); have n2_ := zq9 ((by rw [hg]; exact (zq29 (by exact bl HB)) : w.heap.size ≤ gb196)); have n3_ := n2_; clear HB; have HB := n0_; have BK196 := n1_; have GW196 := n2_; have GE196 := n3_; clear n0_ n1_ n2_ n3_; clear hb hbox hg; have hcz7_0 : w6.cell? ⟨gb196, 0, none⟩ = some (.string (⟨#[]⟩ : ByteArray)) := bc BK196 0; have hcz7_1 : w6.cell? ⟨gb196, 1, none⟩ = some (.int .i64 0) := bc BK196 1; have hfz7_0 := zq6 BK196.out 0; have hfz7_1 := zq6 BK196.out 1))
      have n0_ : Aside0 (((w6.setCell ⟨gb196, 0, none⟩ (.string ((rd_T99 l0 x7_1).f0))).setCell ⟨gb196, 1, none⟩ (.int .i64 ((rd_T99 l0 x7_1).f1))).heap[gb196]? = some (.cells #[.string ((rd_T99 l0 x7_1).f0), .int .i64 ((rd_T99 l0 x7_1).f1)] 99 (0, 0))) := ⟨(blk_set (blk_set BK196.out 0 _) 1 _)⟩
      have n1_ : Aside0 (Below w.heap.size w ((w6.setCell ⟨gb196, 0, none⟩ (.string ((rd_T99 l0 x7_1).f0))).setCell ⟨gb196, 1, none⟩ (.int .i64 ((rd_T99 l0 x7_1).f1)))) := ⟨by exact b1 HB GE196⟩
      (try clear BK196)
      (try clear HB)
      generalize ((w6.setCell ⟨gb196, 0, none⟩ (.string ((rd_T99 l0 x7_1).f0))).setCell ⟨gb196, 1, none⟩ (.int .i64 ((rd_T99 l0 x7_1).f1))) = w8 at n0_ n1_ ⊢
      have BK196 := n0_; have HB := n1_; clear n0_ n1_
      have n0_ := zq9 (blk_drew BK196.out)
      have n1_ := zq9 (zq4 HB.out)
      clear BK196; clear HB; have BK196 := n0_; have HB := n1_; clear n0_ n1_
      refine (Classical.em ((((rd_T99 l0 x7_1).f0).size : Int) > 40)).elim (fun c5 => ?p3) (fun c5 => ?n3)
      case p3 =>
       rw [if_pos c5] at H; have c5b0 : decide (40 < (((rd_T99 l0 x7_1).f0).size : Int)) = true := decide_eq_true c5
       have c5b1 : decide (40 < ((rd_T99 l0 x7_1).f0).size) = true := decide_eq_true (by omega)
       clear c5; obtain rfl := Option.some.inj H
       refine start_ (n := 32) (S := fun w' => w'.cell? ⟨gb196, 0, none⟩ = some (.string ((rd_T99 l0 x7_1).f0)) ∧ w'.cell? ⟨gb196, 1, none⟩ = some (.int .i64 ((rd_T99 l0 x7_1).f1))) (ds := []) #[false, false, false, false, false, false, false, false, false, false, false, false, false, false, false, false, false, false, false, false, false, false, false, false, false, false, false, false, false, false, false, false] (by kernel_rfl) rfl rfl ⟨bc BK196 0, bc BK196 1⟩ (fun hHeld => ?_); refine with_tabW impl_ScoresOk.tab4 impl_ScoresOk.bits4 (fun HT_ HW_ => ?_)
       generalize w8.drew = w9 at BK196 HB hHeld ⊢
       refine pa HT_ 0 12 (zb 32 1) ?_
       refine take_ (i := 1) (N := some 13) (v := ?_) (a' := ?_) (zb 32 3) rfl rfl (take_ofW HT_.out HW_.out (by kernel_rfl)) (fun _ _ _ h => h) (Or.inl ⟨by rfl, ?_⟩) hHeld ?_ ?_
       rotate_left; ·rintro w' ⟨s0, s1⟩; go_simp; with_reducible rfl
       rotate_left; ·simp only [Act.put, zq0, zq1, zq2, i64_w, i32_w]; rfl
       refine pa HT_ 2 14 (zb 32 7) ?_; refine pa HT_ 3 15 (zb 32 15) ?_; refine pa HT_ 4 16 (zb 32 31) ?_; refine pb HT_ 5 17 (zb 32 63) ?_; refine pb HT_ 6 18 (zb 32 127) ?_; refine pb HT_ 7 19 (zb 32 255) ?_; refine pb HT_ 8 20 (zb 32 511) ?_; refine pa HT_ 9 21 (zb 32 1023) ?_; refine pa HT_ 10 22 (zb 32 2047) ?_; refine pb HT_ 11 23 (zb 32 4095) ?_; refine pb HT_ 12 24 (zb 32 8191) ?_; refine pb HT_ 13 25 (zb 32 16383) ?_
       refine pb HT_ 14 26 (zb 32 32767) ?_; refine pb HT_ 15 27 (zb 32 65535) ?_; refine pb HT_ 16 28 (zb 32 131071) ?_; refine pb HT_ 17 29 (zb 32 262143) ?_; refine pb HT_ 18 30 (zb 32 524287) ?_; refine pb HT_ 19 31 (zb 32 1048575) ?_; refine pb HT_ 20 32 (zb 32 2097151) ?_; refine pb HT_ 21 33 (zb 32 4194303) ?_; refine pb HT_ 22 34 (zb 32 8388607) ?_; refine pa HT_ 23 35 (zb 32 16777215) ?_; refine pa HT_ 24 36 (zb 32 33554431) ?_
       refine pb HT_ 25 37 (zb 32 67108863) ?_; refine pb HT_ 26 38 (zb 32 134217727) ?_; refine pb HT_ 27 39 (zb 32 268435455) ?_; refine pb HT_ 28 40 (zb 32 536870911) ?_; refine pb HT_ 29 41 (zb 32 1073741823) ?_; refine pb HT_ 30 42 (zb 32 2147483647) ?_; refine pa HT_ 31 43 (zb 32 4294967295) ?_
       refine done_ (done_of HT_.out (by kernel_rfl)) ?_
       try go_wp2
       go_ret
       exact fz (by exact b1 HB GE196)
      case' n3 =>
       rw [if_neg c5] at H; have c5b0 : decide (40 < (((rd_T99 l0 x7_1).f0).size : Int)) = false := decide_eq_false c5
       have c5b1 : decide (40 < ((rd_T99 l0 x7_1).f0).size) = false := decide_eq_false (by omega)
       clear c5; replace H := Option.bind_eq_some_iff.mp H; obtain ⟨t197, A100, H⟩ := H
       try dsimp only at H
       have A10 := zq9 A100; clear A100
       refine (Classical.em (t197 = true)).elim (fun c11 => ?p4) (fun c11 => ?n4)
       case' p4 =>
        subst c11
        have H1 : (if x7_1 > 0 then (if 0 ≤ (wrap64 (x7_1 - 1)) then (if (wrap64 (x7_1 - 1)) < (l0.length : Int) then ((impl_scoreOrder.f k1 ((rd_T99 l0 (wrap64 (x7_1 - 1))).f0) ((rd_T99 l0 (wrap64 (x7_1 - 1))).f1) ((rd_T99 l0 x7_1).f0) ((rd_T99 l0 x7_1).f1)).bind fun t199 => (if t199 ≥ 0 then (some false) else ((impl_scoreAt.f l0 ((rd_T99 l0 x7_1).f0)).bind fun t200 => (if t200 = x7_1 then (impl_ScoresOk.l0 k1 l0 l0 (l0.length : Int) (wrap64 (x7_1 + 1))) else (some false))))) else (none)) else (none)) else ((impl_scoreAt.f l0 ((rd_T99 l0 x7_1).f0)).bind fun t201 => (if t201 = x7_1 then (impl_ScoresOk.l0 k1 l0 l0 (l0.length : Int) (wrap64 (x7_1 + 1))) else (some false)))) = some r := by rw [if_pos rfl] at H; exact H
        clear H; have H := H1; clear H1
        refine (Classical.em (x7_1 > 0)).elim (fun c12 => ?p5) (fun c12 => ?n5)
        case' p5 =>
         rw [if_pos c12] at H; have c12b0 : decide (0 < x7_1) = true := decide_eq_true c12; clear c12
         obtain ⟨ji13, hji13⟩ : ∃ j_ : Int, (wrap64 (x7_1 - 1)) = j_ := ⟨_, rfl⟩
         replace H : (if 0 ≤ (ji13) then (if (ji13) < (l0.length : Int) then ((impl_scoreOrder.f k1 ((rd_T99 l0 (ji13)).f0) ((rd_T99 l0 (ji13)).f1) ((rd_T99 l0 x7_1).f0) ((rd_T99 l0 x7_1).f1)).bind fun t199 => (if t199 ≥ 0 then (some false) else ((impl_scoreAt.f l0 ((rd_T99 l0 x7_1).f0)).bind fun t200 => (if t200 = x7_1 then (impl_ScoresOk.l0 k1 l0 l0 (l0.length : Int) (wrap64 (x7_1 + 1))) else (some false))))) else (none)) else (none)) = some r := by first | (rw [hji13] at H; exact H) | (simp only [hji13] at H ⊢; exact H)
         (try rw [hji13] at A10)
         have hji13w : (IntKind.i64.wrap (x7_1 - 1)) = ji13 := (i64_w _).trans hji13
         refine (Classical.em (0 ≤ (ji13))).elim (fun c14 => ?p6) (fun c14 => ?n6)
         case' p6 =>
          rw [if_pos c14] at H; have c14b0 : decide (0 ≤ (ji13)) = true := decide_eq_true c14; clear c14
          refine (Classical.em ((ji13) < (l0.length : Int))).elim (fun c15 => ?p7) (fun c15 => ?n7)
          case' p7 =>
           rw [if_pos c15] at H; have c15b0 : decide ((ji13) < (l0.length : Int)) = true := decide_eq_true c15; clear c15; replace H := Option.bind_eq_some_iff.mp H; obtain ⟨t199, A160, H⟩ := H
           try dsimp only at H
           have A16 := zq9 A160; clear A160
           have p198 : 0 ≤ ((ji13) : Int) := of_decide_eq_true ‹_›
           have q198 : (ji13) < (l0.length : Int) := of_decide_eq_true ‹_›
           obtain ⟨ad198, e198, hx198_0, hx198_1⟩ := at_T99 HR0.out (ji13) p198 q198
           have hw198_1 := hx198_1; have hw198_0 := hx198_0
           obtain rfl : ad195 = ad198 := (by injection e198)
           replace hx198_0 := hcl HB hx198_0; replace hx198_1 := hcl HB hx198_1; replace p198 := eq_true p198; replace q198 := eq_true q198
           refine start_ (n := 32) (S := fun w' => w'.cell? ⟨gb196, 0, none⟩ = some (.string ((rd_T99 l0 x7_1).f0)) ∧ w'.cell? ⟨gb196, 1, none⟩ = some (.int .i64 ((rd_T99 l0 x7_1).f1)) ∧ w'.cell? (ad195.add (((ji13)).toNat * 2)) = some (.string ((rd_T99 l0 (ji13)).f0)) ∧ w'.cell? ⟨(ad195.add (((ji13)).toNat * 2)).block, (ad195.add (((ji13)).toNat * 2)).off + 1, none⟩ = some (.int .i64 ((rd_T99 l0 (ji13)).f1))) (ds := []) #[false, false, false, false, false, false, false, false, false, false, false, false, false, false, false, false, false, false, false, false, false, false, false, false, false, false, false, false, false, false, false, false] (by kernel_rfl) rfl rfl ⟨bc BK196 0, bc BK196 1, (hcm HB hw198_0), (hcm HB hw198_1)⟩ (fun hHeld => ?_); refine with_tabW impl_ScoresOk.tab4 impl_ScoresOk.bits4 (fun HT_ HW_ => ?_)
           generalize w8.drew = w21 at BK196 HB hx198_0 hx198_1 hHeld ⊢
           refine pa HT_ 0 12 (zb 32 1) ?_
           refine take_ (i := 1) (N := some 13) (v := ?_) (a' := ?_) (zb 32 3) rfl rfl (take_ofW HT_.out HW_.out (by kernel_rfl)) (fun _ _ _ h => h) (Or.inl ⟨by rfl, ?_⟩) hHeld ?_ ?_
           rotate_left; ·rintro w' ⟨s0, s1, s2, s3⟩; go_simp; with_reducible rfl
           rotate_left; ·simp only [Act.put, zq0, zq1, zq2, i64_w, i32_w]; rfl
           refine pa HT_ 2 14 (zb 32 7) ?_; refine pa HT_ 3 15 (zb 32 15) ?_; refine pa HT_ 4 16 (zb 32 31) ?_; refine pa HT_ 5 17 (zb 32 63) ?_
           refine take_ (i := 6) (N := some 18) (v := ?_) (a' := ?_) (zb 32 127) rfl rfl (take_ofW HT_.out HW_.out (by kernel_rfl)) (fun _ _ _ h => h) (Or.inl ⟨by rfl, ?_⟩) hHeld ?_ ?_
           rotate_left; ·rintro w' ⟨s0, s1, s2, s3⟩; go_simp; with_reducible rfl
           rotate_left; ·simp only [Act.put, zq0, zq1, zq2, i64_w, i32_w]; rfl
           refine one_ (i := 7) (N := some 19) (zb 32 255) rfl rfl (one_of HT_.out (by kernel_rfl)) (by decide) (fun K hK => ?_)
           refine gs Try.func85 #[.int .i64 ((rd_T99 l0 x7_1).f1)] ?_
           with_reducible refine (impl_position.calls ((rd_T99 l0 x7_1).f1) true _ A10.out).mono ?_
           rintro e w' ⟨rfl, ⟨nd, rfl⟩⟩
           refine ⟨_, rfl, ?_⟩
           refine hK.out _ _ ⟨bc BK196 0, bc BK196 1, (hcm HB hw198_0), (hcm HB hw198_1)⟩ (fun hHeld => ?_)
           clear hK K
           refine norm_ (a' := ?_) ?_ ?_
           rotate_left; ·show Act.put _ (some 19) _ = _; simp only [Act.put, zq0, zq1, zq2, i64_w, i32_w]; rfl
           refine pa HT_ 8 20 (zb 32 511) ?_; refine pa HT_ 9 21 (zb 32 1023) ?_; refine pa HT_ 10 22 (zb 32 2047) ?_; refine pa HT_ 11 23 (zb 32 4095) ?_; refine pa HT_ 12 24 (zb 32 8191) ?_; refine pa HT_ 13 25 (zb 32 16383) ?_; refine pa HT_ 14 26 (zb 32 32767) ?_; refine pa HT_ 15 27 (zb 32 65535) ?_; refine pa HT_ 16 28 (zb 32 131071) ?_; refine pa HT_ 17 29 (zb 32 262143) ?_
           refine take_ (i := 18) (N := some 30) (v := ?_) (a' := ?_) (zb 32 524287) rfl rfl (take_ofW HT_.out HW_.out (by kernel_rfl)) (fun _ _ _ h => h) (Or.inl ⟨by rfl, ?_⟩) hHeld ?_ ?_
           rotate_left; ·rintro w' ⟨s0, s1, s2, s3⟩; go_simp; with_reducible rfl
           rotate_left; ·simp only [Act.put, zq0, zq1, zq2, i64_w, i32_w]; rfl
           refine take_ (i := 19) (N := some 31) (v := ?_) (a' := ?_) (zb 32 1048575) rfl rfl (take_ofW HT_.out HW_.out (by kernel_rfl)) (fun _ _ _ h => h) (Or.inl ⟨by rfl, ?_⟩) hHeld ?_ ?_
           rotate_left; ·rintro w' ⟨s0, s1, s2, s3⟩; go_simp; with_reducible rfl
           rotate_left; ·simp only [Act.put, zq0, zq1, zq2, i64_w, i32_w]; rfl
           refine one_ (i := 20) (N := some 32) (zb 32 2097151) rfl rfl (one_of HT_.out (by kernel_rfl)) (by decide) (fun K hK => ?_)
           refine goes_ Try.func86 (by kernel_rfl) rfl #[.agg #[.string ((rd_T99 l0 (ji13)).f0), .int .i64 ((rd_T99 l0 (ji13)).f1)], .agg #[.string ((rd_T99 l0 x7_1).f0), .int .i64 ((rd_T99 l0 x7_1).f1)]] (by rfl) rfl rfl (by (try simp only [List.map_toArray, List.map_cons, List.map_nil]); first | done | (simp only [hji13]; rfl) | rfl | (simp only [zq33, zq34]; rfl)) ?_
           with_reducible refine (impl_scoreOrder.calls k1 ((rd_T99 l0 (ji13)).f0) ((rd_T99 l0 (ji13)).f1) ((rd_T99 l0 x7_1).f0) ((rd_T99 l0 x7_1).f1) t199 _ A16.out).mono ?_
           rintro e w22 ⟨rfl, hb⟩
           refine ⟨_, rfl, ?_⟩
           have n0_ := zq9 (zq30 (g := gb196) (o := .cells #[.string ((rd_T99 l0 x7_1).f0), .int .i64 ((rd_T99 l0 x7_1).f1)] 99 (0, 0)) (by exact bk BK196) hb)
           have n1_ := zq9 (zq27 (by exact b1 HB GE196) hb)
           clear BK196; clear HB; have BK196 := n0_; have HB := n1_; clear n0_ n1_
           (try clear hb)
           (try clear hb2)
           (try clear hk)
           (try clear hi)
           refine hK.out _ _ ⟨bc BK196 0, bc BK196 1, (hcm HB hw198_0), (hcm HB hw198_1)⟩ (fun hHeld => ?_)
           clear hK K
           refine norm_ (a' := ?_) ?_ ?_
           rotate_left; ·show Act.put _ (some 32) _ = _; simp only [Act.put, zq0, zq1, zq2, i64_w, i32_w]; rfl
           refine pa HT_ 21 33 (zb 32 4194303) ?_; refine pa HT_ 22 34 (zb 32 8388607) ?_; refine pa HT_ 23 35 (zb 32 16777215) ?_; refine pa HT_ 24 36 (zb 32 33554431) ?_
           refine (Classical.em (t199 ≥ 0)).elim (fun c17 => ?p8) (fun c17 => ?n8)
           case p8 =>
            rw [if_pos c17] at H; have c17b0 : decide (0 ≤ t199) = true := decide_eq_true c17; clear c17; obtain rfl := Option.some.inj H
            (try rw [c17b0])
            refine pb HT_ 25 37 (zb 32 67108863) ?_; refine pb HT_ 26 38 (zb 32 134217727) ?_; refine pb HT_ 27 39 (zb 32 268435455) ?_; refine pb HT_ 28 40 (zb 32 536870911) ?_; refine pb HT_ 29 41 (zb 32 1073741823) ?_; refine pb HT_ 30 42 (zb 32 2147483647) ?_; refine pa HT_ 31 43 (zb 32 4294967295) ?_
            refine done_ (done_of HT_.out (by kernel_rfl)) ?_
            try go_wp2
            go_ret
            exact ⟨by first | rfl | (simp [errW_none, errW_some] <;> rfl) | (simp only [← hji13]; first | rfl | (simp [errW_none, errW_some] <;> rfl)) | (simp [*, errW_none, errW_some] <;> rfl), by exact b1 HB GE196⟩
           case' n8 =>
            rw [if_neg c17] at H; have c17b0 : decide (0 ≤ t199) = false := decide_eq_false c17; clear c17; replace H := Option.bind_eq_some_iff.mp H; obtain ⟨t200, A230, H⟩ := H
            try dsimp only at H
            have A23 := zq9 A230; clear A230
            (try rw [c17b0])
            refine pa HT_ 25 37 (zb 32 67108863) ?_; refine pa HT_ 26 38 (zb 32 134217727) ?_; refine pa HT_ 29 41 (zb 32 671088639) ?_
            refine take_ (i := 27) (N := some 39) (v := ?_) (a' := ?_) (zb 32 805306367) rfl rfl (take_ofW HT_.out HW_.out (by kernel_rfl)) (fun _ _ _ h => h) (Or.inl ⟨by rfl, ?_⟩) hHeld ?_ ?_
            rotate_left; ·rintro w' ⟨s0, s1, s2, s3⟩; go_simp; with_reducible rfl
            rotate_left; ·simp only [Act.put, zq0, zq1, zq2, i64_w, i32_w]; rfl
            refine one_ (i := 28) (N := some 40) (zb 32 1073741823) rfl rfl (one_of HT_.out (by kernel_rfl)) (by decide) (fun K hK => ?_)
            refine gs Try.func87 #[.slice (some ad195) l0.length c0, .string ((rd_T99 l0 x7_1).f0)] ?_
            with_reducible refine (impl_scoreAt.calls _ _ l0 ((rd_T99 l0 x7_1).f0) t200 _ ?side1 ?side2 A23.out).mono ?_
            (case side1 => exact kc HR0 HB)
            (case side2 => exact HC0.out)
            rintro e w30 ⟨rfl, hb⟩
            refine ⟨_, rfl, ?_⟩
            have n0_ := zq9 (zq30 (g := gb196) (o := .cells #[.string ((rd_T99 l0 x7_1).f0), .int .i64 ((rd_T99 l0 x7_1).f1)] 99 (0, 0)) (by exact bk BK196) hb)
            have n1_ := zq9 (zq27 (by exact b1 HB GE196) hb)
            clear BK196; clear HB; have BK196 := n0_; have HB := n1_; clear n0_ n1_
            (try clear hb)
            (try clear hb2)
            (try clear hk)
            (try clear hi)
            refine hK.out _ _ ⟨bc BK196 0, bc BK196 1, (hcm HB hw198_0), (hcm HB hw198_1)⟩ (fun hHeld => ?_)
            clear hK K
            refine norm_ (a' := ?_) ?_ ?_
            rotate_left; ·show Act.put _ (some 40) _ = _; simp only [Act.put, zq0, zq1, zq2, i64_w, i32_w]; rfl
            refine pa HT_ 30 42 (zb 32 2147483647) ?_; refine pa HT_ 31 43 (zb 32 4294967295) ?_
            refine done_ (done_of HT_.out (by kernel_rfl)) ?_
            refine (Classical.em (t200 = x7_1)).elim (fun c24 => ?p9) (fun c24 => ?n9)
            case' p9 =>
             rw [if_pos c24] at H
             have c24b0 : (t200 == x7_1) = true := beq_iff_eq.mpr c24
             have c24b1 : (t200 != x7_1) = false := bne_eq_false_iff_eq.mpr c24
             clear c24; have H' := zq9 H; clear H
             (try rw [c24b0]); (try rw [c24b1])
            case n9 =>
             rw [if_neg c24] at H
             have c24b0 : (t200 == x7_1) = false := beq_eq_false_iff_ne.mpr c24
             have c24b1 : (t200 != x7_1) = true := bne_iff_ne.mpr c24
             obtain rfl := Option.some.inj H
             (try rw [c24b0]); (try rw [c24b1])
             try go_wp2
             go_ret
             exact ⟨by first | rfl | (simp [errW_none, errW_some] <;> rfl) | (simp only [← hji13]; first | rfl | (simp [errW_none, errW_some] <;> rfl)) | (simp [*, errW_none, errW_some] <;> rfl), by exact b1 HB GE196⟩
          case n7 =>
           rw [if_neg c15] at H
           exact absurd H (by simp)
         case n6 =>
          rw [if_neg c14] at H
          exact absurd H (by simp)
        case' n5 =>
         rw [if_neg c12] at H; have c12b0 : decide (0 < x7_1) = false := decide_eq_false c12; clear c12; replace H := Option.bind_eq_some_iff.mp H; obtain ⟨t201, A370, H⟩ := H
         try dsimp only at H
         have A37 := zq9 A370; clear A370
         refine start_ (n := 32) (S := fun w' => w'.cell? ⟨gb196, 0, none⟩ = some (.string ((rd_T99 l0 x7_1).f0)) ∧ w'.cell? ⟨gb196, 1, none⟩ = some (.int .i64 ((rd_T99 l0 x7_1).f1))) (ds := []) #[false, false, false, false, false, false, false, false, false, false, false, false, false, false, false, false, false, false, false, false, false, false, false, false, false, false, false, false, false, false, false, false] (by kernel_rfl) rfl rfl ⟨bc BK196 0, bc BK196 1⟩ (fun hHeld => ?_); refine with_tabW impl_ScoresOk.tab4 impl_ScoresOk.bits4 (fun HT_ HW_ => ?_)
         generalize w8.drew = w42 at BK196 HB hHeld ⊢
         refine pa HT_ 0 12 (zb 32 1) ?_
         refine take_ (i := 1) (N := some 13) (v := ?_) (a' := ?_) (zb 32 3) rfl rfl (take_ofW HT_.out HW_.out (by kernel_rfl)) (fun _ _ _ h => h) (Or.inl ⟨by rfl, ?_⟩) hHeld ?_ ?_
         rotate_left; ·rintro w' ⟨s0, s1⟩; go_simp; with_reducible rfl
         rotate_left; ·simp only [Act.put, zq0, zq1, zq2, i64_w, i32_w]; rfl
         refine pa HT_ 2 14 (zb 32 7) ?_; refine pa HT_ 3 15 (zb 32 15) ?_; refine pa HT_ 4 16 (zb 32 31) ?_; refine pa HT_ 5 17 (zb 32 63) ?_
         refine take_ (i := 6) (N := some 18) (v := ?_) (a' := ?_) (zb 32 127) rfl rfl (take_ofW HT_.out HW_.out (by kernel_rfl)) (fun _ _ _ h => h) (Or.inl ⟨by rfl, ?_⟩) hHeld ?_ ?_
         rotate_left; ·rintro w' ⟨s0, s1⟩; go_simp; with_reducible rfl
         rotate_left; ·simp only [Act.put, zq0, zq1, zq2, i64_w, i32_w]; rfl
         refine one_ (i := 7) (N := some 19) (zb 32 255) rfl rfl (one_of HT_.out (by kernel_rfl)) (by decide) (fun K hK => ?_)
         refine gs Try.func85 #[.int .i64 ((rd_T99 l0 x7_1).f1)] ?_
         with_reducible refine (impl_position.calls ((rd_T99 l0 x7_1).f1) true _ A10.out).mono ?_
         rintro e w' ⟨rfl, ⟨nd, rfl⟩⟩
         refine ⟨_, rfl, ?_⟩
         refine hK.out _ _ ⟨bc BK196 0, bc BK196 1⟩ (fun hHeld => ?_)
         clear hK K
         refine norm_ (a' := ?_) ?_ ?_
         rotate_left; ·show Act.put _ (some 19) _ = _; simp only [Act.put, zq0, zq1, zq2, i64_w, i32_w]; rfl
         refine pa HT_ 8 20 (zb 32 511) ?_; refine pa HT_ 9 21 (zb 32 1023) ?_; refine pa HT_ 10 22 (zb 32 2047) ?_; refine pa HT_ 11 23 (zb 32 4095) ?_; refine pa HT_ 12 24 (zb 32 8191) ?_; refine pa HT_ 13 25 (zb 32 16383) ?_; refine pb HT_ 14 26 (zb 32 32767) ?_; refine pb HT_ 15 27 (zb 32 65535) ?_; refine pb HT_ 16 28 (zb 32 131071) ?_; refine pb HT_ 17 29 (zb 32 262143) ?_; refine pb HT_ 18 30 (zb 32 524287) ?_
         refine pb HT_ 19 31 (zb 32 1048575) ?_; refine pb HT_ 20 32 (zb 32 2097151) ?_; refine pb HT_ 21 33 (zb 32 4194303) ?_; refine pa HT_ 22 34 (zb 32 8388607) ?_; refine pa HT_ 23 35 (zb 32 16777215) ?_; refine pa HT_ 24 36 (zb 32 33554431) ?_; refine pa HT_ 25 37 (zb 32 67108863) ?_; refine pa HT_ 26 38 (zb 32 134217727) ?_; refine pa HT_ 29 41 (zb 32 671088639) ?_
         refine take_ (i := 27) (N := some 39) (v := ?_) (a' := ?_) (zb 32 805306367) rfl rfl (take_ofW HT_.out HW_.out (by kernel_rfl)) (fun _ _ _ h => h) (Or.inl ⟨by rfl, ?_⟩) hHeld ?_ ?_
         rotate_left; ·rintro w' ⟨s0, s1⟩; go_simp; with_reducible rfl
         rotate_left; ·simp only [Act.put, zq0, zq1, zq2, i64_w, i32_w]; rfl
         refine one_ (i := 28) (N := some 40) (zb 32 1073741823) rfl rfl (one_of HT_.out (by kernel_rfl)) (by decide) (fun K hK => ?_)
         refine gs Try.func87 #[.slice (some ad195) l0.length c0, .string ((rd_T99 l0 x7_1).f0)] ?_
         with_reducible refine (impl_scoreAt.calls _ _ l0 ((rd_T99 l0 x7_1).f0) t201 _ ?side1 ?side2 A37.out).mono ?_
         (case side1 => repeat (first | exact (zq31 HR0.out (by exact b1 HB GE196)) | (with_reducible refine zq18 ?_ _) | (with_reducible refine zq19 ?_ _) | (with_reducible refine zq20 ?_)))
         (case side2 => exact HC0.out)
         rintro e w43 ⟨rfl, hb⟩
         refine ⟨_, rfl, ?_⟩
         have n0_ := zq9 (zq30 (g := gb196) (o := .cells #[.string ((rd_T99 l0 x7_1).f0), .int .i64 ((rd_T99 l0 x7_1).f1)] 99 (0, 0)) (by exact bk BK196) hb)
         have n1_ := zq9 (zq27 (by exact b1 HB GE196) hb)
         clear BK196; clear HB; have BK196 := n0_; have HB := n1_; clear n0_ n1_
         (try clear hb)
         (try clear hb2)
         (try clear hk)
         (try clear hi)
         refine hK.out _ _ ⟨bc BK196 0, bc BK196 1⟩ (fun hHeld => ?_)
         clear hK K
         refine norm_ (a' := ?_) ?_ ?_
         rotate_left; ·show Act.put _ (some 40) _ = _; simp only [Act.put, zq0, zq1, zq2, i64_w, i32_w]; rfl
         refine pa HT_ 30 42 (zb 32 2147483647) ?_; refine pa HT_ 31 43 (zb 32 4294967295) ?_
         refine done_ (done_of HT_.out (by kernel_rfl)) ?_
         refine (Classical.em (t201 = x7_1)).elim (fun c38 => ?p10) (fun c38 => ?n10)
         case' p10 =>
          rw [if_pos c38] at H
          have c38b0 : (t201 == x7_1) = true := beq_iff_eq.mpr c38
          have c38b1 : (t201 != x7_1) = false := bne_eq_false_iff_eq.mpr c38
          clear c38; have H' := zq9 H; clear H
          (try rw [c38b0]); (try rw [c38b1])
         case n10 =>
          rw [if_neg c38] at H
          have c38b0 : (t201 == x7_1) = false := beq_eq_false_iff_ne.mpr c38
          have c38b1 : (t201 != x7_1) = true := bne_iff_ne.mpr c38
          obtain rfl := Option.some.inj H
          (try rw [c38b0]); (try rw [c38b1])
          try go_wp2
          go_ret
          exact fz (by exact b1 HB GE196)
       case n4 =>
        replace c11 := Bool.eq_false_iff.mpr c11
        subst c11
        have H1 : (some false) = some r := by rw [if_neg (show ¬ (false = true) by decide)] at H; exact H
        clear H; have H := H1; clear H1; obtain rfl := Option.some.inj H
        refine start_ (n := 32) (S := fun w' => w'.cell? ⟨gb196, 0, none⟩ = some (.string ((rd_T99 l0 x7_1).f0)) ∧ w'.cell? ⟨gb196, 1, none⟩ = some (.int .i64 ((rd_T99 l0 x7_1).f1))) (ds := []) #[false, false, false, false, false, false, false, false, false, false, false, false, false, false, false, false, false, false, false, false, false, false, false, false, false, false, false, false, false, false, false, false] (by kernel_rfl) rfl rfl ⟨bc BK196 0, bc BK196 1⟩ (fun hHeld => ?_); refine with_tabW impl_ScoresOk.tab4 impl_ScoresOk.bits4 (fun HT_ HW_ => ?_)
        generalize w8.drew = w52 at BK196 HB hHeld ⊢
        refine pa HT_ 0 12 (zb 32 1) ?_
        refine take_ (i := 1) (N := some 13) (v := ?_) (a' := ?_) (zb 32 3) rfl rfl (take_ofW HT_.out HW_.out (by kernel_rfl)) (fun _ _ _ h => h) (Or.inl ⟨by rfl, ?_⟩) hHeld ?_ ?_
        rotate_left; ·rintro w' ⟨s0, s1⟩; go_simp; with_reducible rfl
        rotate_left; ·simp only [Act.put, zq0, zq1, zq2, i64_w, i32_w]; rfl
        refine pa HT_ 2 14 (zb 32 7) ?_; refine pa HT_ 3 15 (zb 32 15) ?_; refine pa HT_ 4 16 (zb 32 31) ?_; refine pa HT_ 5 17 (zb 32 63) ?_
        refine take_ (i := 6) (N := some 18) (v := ?_) (a' := ?_) (zb 32 127) rfl rfl (take_ofW HT_.out HW_.out (by kernel_rfl)) (fun _ _ _ h => h) (Or.inl ⟨by rfl, ?_⟩) hHeld ?_ ?_
        rotate_left; ·rintro w' ⟨s0, s1⟩; go_simp; with_reducible rfl
        rotate_left; ·simp only [Act.put, zq0, zq1, zq2, i64_w, i32_w]; rfl
        refine one_ (i := 7) (N := some 19) (zb 32 255) rfl rfl (one_of HT_.out (by kernel_rfl)) (by decide) (fun K hK => ?_)
        refine gs Try.func85 #[.int .i64 ((rd_T99 l0 x7_1).f1)] ?_
        with_reducible refine (impl_position.calls ((rd_T99 l0 x7_1).f1) false _ A10.out).mono ?_
        rintro e w' ⟨rfl, ⟨nd, rfl⟩⟩
        refine ⟨_, rfl, ?_⟩
        refine hK.out _ _ ⟨bc BK196 0, bc BK196 1⟩ (fun hHeld => ?_)
        clear hK K
        refine norm_ (a' := ?_) ?_ ?_
        rotate_left; ·show Act.put _ (some 19) _ = _; simp only [Act.put, zq0, zq1, zq2, i64_w, i32_w]; rfl
        refine pa HT_ 8 20 (zb 32 511) ?_; refine pa HT_ 9 21 (zb 32 1023) ?_; refine pa HT_ 10 22 (zb 32 2047) ?_; refine pb HT_ 11 23 (zb 32 4095) ?_; refine pb HT_ 12 24 (zb 32 8191) ?_; refine pb HT_ 13 25 (zb 32 16383) ?_; refine pb HT_ 14 26 (zb 32 32767) ?_; refine pb HT_ 15 27 (zb 32 65535) ?_; refine pb HT_ 16 28 (zb 32 131071) ?_; refine pb HT_ 17 29 (zb 32 262143) ?_; refine pb HT_ 18 30 (zb 32 524287) ?_
        refine pb HT_ 19 31 (zb 32 1048575) ?_; refine pb HT_ 20 32 (zb 32 2097151) ?_; refine pb HT_ 21 33 (zb 32 4194303) ?_; refine pb HT_ 22 34 (zb 32 8388607) ?_; refine pa HT_ 23 35 (zb 32 16777215) ?_; refine pa HT_ 24 36 (zb 32 33554431) ?_; refine pb HT_ 25 37 (zb 32 67108863) ?_; refine pb HT_ 26 38 (zb 32 134217727) ?_; refine pb HT_ 27 39 (zb 32 268435455) ?_; refine pb HT_ 28 40 (zb 32 536870911) ?_
        refine pb HT_ 29 41 (zb 32 1073741823) ?_; refine pb HT_ 30 42 (zb 32 2147483647) ?_; refine pa HT_ 31 43 (zb 32 4294967295) ?_
        refine done_ (done_of HT_.out (by kernel_rfl)) ?_
        try go_wp2
        go_ret
        exact fz (by exact b1 HB GE196)
     case n2 =>
      rw [if_neg c4] at H
      exact absurd H (by simp)
    case n1 =>
     rw [if_neg c3] at H
     exact absurd H (by simp)
   case n0 =>
    rw [if_neg c2] at H; have c2b0 : decide (x7_1 < (l0.length : Int)) = false := decide_eq_false c2; clear c2; obtain rfl := Option.some.inj H
    go_wp2
    go_ret
    exact fz (by exact bl HB)
   case p5 | n5 =>
    try go_wp2
    go_roundg k1
    case measure => have := HK1.out; omega
    case rel => exact ⟨(wrap64 (x7_1 + 1)), (by first | rfl | (simp; done) | (simp [*]; done)), H', ⟨by have := HK1.out; omega⟩, ⟨by exact b1 HB GE196⟩⟩
set_option maxHeartbeats 8000000 in
set_option maxRecDepth 100000 in
theorem impl_FieldsOk.calls (k : Nat) (A0 : Option Addr) (c0 : Nat) (l0 : List (S101)) (r : Bool) (w : World) (hr0 : Kd.C k101 w A0 l0.length l0) (hc0 : l0.length ≤ c0) (h : impl_FieldsOk.f k l0 = some r) :
  Calls Try.prog 53 #[.slice A0 l0.length c0] w fun e w' => e = .returned (.bool r) ∧ Below w.heap.size w w' := by
 have hu101 := Try.underlying101; have HR0 := zq9 hr0; have HC0 := zq9 hc0; clear hr0 hc0
 have HB := zq9 (Below.refl w.heap.size w)
 have H : (impl_FieldsOk.l0 k l0 l0 (l0.length : Int) 0) = some r := h
 clear h; have H' := zq9 H; clear H
 go_enter Try.func53, Try.ntmps53
 go_wp2
 repeat (go_quiet (fail); try go_wp2)
 go_loopg [7] k (fun kq v7 w' => ∃ (x7_1 : Int), v7 = .int .i64 x7_1 ∧ Aside0 (impl_FieldsOk.l0 kq l0 l0 (l0.length : Int) x7_1 = some r) ∧ Aside0 (kq ≤ k) ∧ Aside0 (Below w.heap.size w w'))
 case atStart => exact ⟨(0), (by first | rfl | (simp; done) | (simp [*]; done)), H', ⟨Nat.le_refl _⟩, ⟨by exact bl HB⟩⟩
 case round =>
  clear H'
  obtain ⟨x7_1, rfl, HA, HK1, HB⟩ := hrel
  cases gk with
  | zero => exact absurd HA.out (by simp [impl_FieldsOk.l0])
  | succ k1 =>
   have H := HA.out; clear HA
   simp only [impl_FieldsOk.l0] at H
   refine (Classical.em (x7_1 < (l0.length : Int))).elim (fun c2 => ?p0) (fun c2 => ?n0)
   case' p0 =>
    rw [if_pos c2] at H; have c2b0 : decide (x7_1 < (l0.length : Int)) = true := decide_eq_true c2; clear c2
    refine (Classical.em (0 ≤ x7_1)).elim (fun c3 => ?p1) (fun c3 => ?n1)
    case' p1 =>
     rw [if_pos c3] at H; have c3b0 : decide (0 ≤ x7_1) = true := decide_eq_true c3; clear c3
     refine (Classical.em (x7_1 < (l0.length : Int))).elim (fun c4 => ?p2) (fun c4 => ?n2)
     case' p2 =>
      rw [if_pos c4] at H; have c4b0 : decide (x7_1 < (l0.length : Int)) = true := decide_eq_true c4; clear c4
      refine (Classical.em ((((rd_T101 l0 x7_1).f0).size : Int) > 40)).elim (fun c5 => ?p3) (fun c5 => ?n3)
      case' p3 =>
       rw [if_pos c5] at H; have c5b0 : decide (40 < (((rd_T101 l0 x7_1).f0).size : Int)) = true := decide_eq_true c5
       have c5b1 : decide (40 < ((rd_T101 l0 x7_1).f0).size) = true := decide_eq_true (by omega)
       clear c5; obtain rfl := Option.some.inj H
      case' n3 =>
       rw [if_neg c5] at H; have c5b0 : decide (40 < (((rd_T101 l0 x7_1).f0).size : Int)) = false := decide_eq_false c5
       have c5b1 : decide (40 < ((rd_T101 l0 x7_1).f0).size) = false := decide_eq_false (by omega)
       clear c5
       refine (Classical.em ((((rd_T101 l0 x7_1).f1).size : Int) > 40)).elim (fun c8 => ?p4) (fun c8 => ?n4)
       case' p4 =>
        rw [if_pos c8] at H; have c8b0 : decide (40 < (((rd_T101 l0 x7_1).f1).size : Int)) = true := decide_eq_true c8
        have c8b1 : decide (40 < ((rd_T101 l0 x7_1).f1).size) = true := decide_eq_true (by omega)
        clear c8; obtain rfl := Option.some.inj H
       case n4 =>
        rw [if_neg c8] at H; have c8b0 : decide (40 < (((rd_T101 l0 x7_1).f1).size : Int)) = false := decide_eq_false c8
        have c8b1 : decide (40 < ((rd_T101 l0 x7_1).f1).size) = false := decide_eq_false (by omega)
        clear c8
        by_cases c11 : x7_1 > 0
        ·rw [if_pos c11] at H; have c11b0 : decide (0 < x7_1) = true := decide_eq_true c11; clear c11
         obtain ⟨ji12, hji12⟩ : ∃ j_ : Int, (wrap64 (x7_1 - 1)) = j_ := ⟨_, rfl⟩
         replace H : (if 0 ≤ (ji12) then (if (ji12) < (l0.length : Int) then (if ((Op.bytesLess (((rd_T101 l0 (ji12)).f0).toList) (((rd_T101 l0 x7_1).f0).toList)) = true) then (impl_FieldsOk.l0 k1 l0 l0 (l0.length : Int) (wrap64 (x7_1 + 1))) else (some false)) else (none)) else (none)) = some r := by first | (rw [hji12] at H; exact H) | (simp only [hji12] at H ⊢; exact H)
         have hji12w : (IntKind.i64.wrap (x7_1 - 1)) = ji12 := (i64_w _).trans hji12
         by_cases c13 : 0 ≤ (ji12)
         ·rw [if_pos c13] at H; have c13b0 : decide (0 ≤ (ji12)) = true := decide_eq_true c13; clear c13
          by_cases c14 : (ji12) < (l0.length : Int)
          ·rw [if_pos c14] at H; have c14b0 : decide ((ji12) < (l0.length : Int)) = true := decide_eq_true c14; clear c14
           by_cases c15 : ((Op.bytesLess (((rd_T101 l0 (ji12)).f0).toList) (((rd_T101 l0 x7_1).f0).toList)) = true)
           ·rw [if_pos c15] at H
            have c15b0 : (Op.bytesLess (((rd_T101 l0 (ji12)).f0).toList) (((rd_T101 l0 x7_1).f0).toList)) = true := c15
            clear c15; have H' := zq9 H; clear H
            have p202 : 0 ≤ (x7_1 : Int) := of_decide_eq_true ‹_›
            have q202 : x7_1 < (l0.length : Int) := of_decide_eq_true ‹_›
            obtain ⟨ad202, e202, hx202_0, hx202_1⟩ := at_T101 HR0.out x7_1 p202 q202
            cases e202; replace hx202_0 := hcl HB hx202_0; replace hx202_1 := hcl HB hx202_1; replace p202 := eq_true p202; replace q202 := eq_true q202
            go_wp2_with (first | ((with_reducible refine zq25 (N := 4) rfl ?_); (try (refine gate_guard (by rfl) ?_; dsimp only)); refine bx 4 #[.string (⟨#[]⟩ : ByteArray), .string (⟨#[]⟩ : ByteArray)] 101 ?_; intro gb203 hg w16 hbox hb; have n0_ := zq9 (zq27 (by exact bl HB) hb); have n1_ := zq9 (hbox); have n2_ := zq9 ((by rw [hg]; exact (zq29 (by exact bl HB)) : w.heap.size ≤ gb203)); have n3_ := n2_; clear HB; have HB := n0_; have BK203 := n1_; have GW203 := n2_; have GE203 := n3_; clear n0_ n1_ n2_ n3_; clear hb hbox hg; have hcz17_0 : w16.cell? ⟨gb203, 0, none⟩ = some (.string (⟨#[]⟩ : ByteArray)) := bc BK203 0; have hcz17_1 : w16.cell? ⟨gb203, 1, none⟩ = some (.string (⟨#[]⟩ : ByteArray)) := bc BK203 1; have hfz17_0 := zq6 BK203.out 0; have hfz17_1 := zq6 BK203.out 1; have p204 : 0 ≤ ((ji12) : Int) := of_decide_eq_true ‹_›; have q204 : (ji12) < (l0.length : Int) := of_decide_eq_true ‹_›; obtain ⟨ad204, e204, hx204_0, hx204_1⟩ := at_T101 HR0.out (ji12) p204 q204; obtain rfl : ad202 = ad204 := (by injection e204); have hn204_0 : ad202.block ≠ gb203 := Nat.ne_of_lt (Nat.lt_of_lt_of_le (by have := zq8 _ _ hx204_0; first | rwa [add_block] at this | exact this) GW203.out); have hn204_1 : ad202.block ≠ gb203 := Nat.ne_of_lt (Nat.lt_of_lt_of_le (by have := zq8 _ _ hx204_0; first | rwa [add_block] at this | exact this) GW203.out); replace hx204_0 := hcl HB hx204_0; replace hx204_1 := hcl HB hx204_1; replace hx204_0 := (cell_far (p := ⟨gb203, 0, none⟩) (by first | (rw [add_block]; exact hn204_0) | (show (Addr.add _ _).block ≠ _; rw [add_block]; exact hn204_0) | exact hn204_0) (.string ((rd_T101 l0 x7_1).f0))).trans hx204_0; replace hx204_1 := (cell_far (p := ⟨gb203, 0, none⟩) (by first | (rw [add_block]; exact hn204_0) | (show (Addr.add _ _).block ≠ _; rw [add_block]; exact hn204_0) | exact hn204_0) (.string ((rd_T101 l0 x7_1).f0))).trans hx204_1; replace hx204_0 := (cell_far (p := ⟨gb203, 1, none⟩) (by first | (rw [add_block]; exact hn204_1) | (show (Addr.add _ _).block ≠ _; rw [add_block]; exact hn204_1) | exact hn204_1) (.string ((rd_T101 l0 x7_1).f1))).trans hx204_0; replace hx204_1 := (cell_far (p := ⟨gb203, 1, none⟩) (by first | (rw [add_block]; exact hn204_1) | (show (Addr.add _ _).block ≠ _; rw [add_block]; exact hn204_1) | exact hn204_1) (.string ((rd_T101 l0 x7_1).f1))).trans hx204_1; (try have hy204_0 := fun (n_ : Nat) => (show ((((w16.drewN n_).setCell ⟨gb203, 0, none⟩ (.string ((rd_T101 l0 x7_1).f0))).setCell ⟨gb203, 1, none⟩ (.string ((rd_T101 l0 x7_1).f1)))).cell? _ = some _ from hx204_0)); (try have hy204_1 := fun (n_ : Nat) => (show ((((w16.drewN n_).setCell ⟨gb203, 0, none⟩ (.string ((rd_T101 l0 x7_1).f0))).setCell ⟨gb203, 1, none⟩ (.string ((rd_T101 l0 x7_1).f1)))).cell? _ = some _ from hx204_1)); clear hn204_0; clear hn204_1; replace p204 := eq_true p204; replace q204 := eq_true q204))
            repeat (go_quiet (first | ((with_reducible refine zq25 (N := 4) rfl ?_); (try (refine gate_guard (by rfl) ?_; dsimp only)); refine bx 4 #[.string (⟨#[]⟩ : ByteArray), .string (⟨#[]⟩ : ByteArray)] 101 ?_; intro gb203 hg w16 hbox hb; have n0_ := zq9 (zq27 (by exact bl HB) hb); have n1_ := zq9 (hbox); have n2_ := zq9 ((by rw [hg]; exact (zq29 (by exact bl HB)) : w.heap.size ≤ gb203)); have n3_ := n2_; clear HB; have HB := n0_; have BK203 := n1_; have GW203 := n2_; have GE203 := n3_; clear n0_ n1_ n2_ n3_; clear hb hbox hg; have hcz17_0 : w16.cell? ⟨gb203, 0, none⟩ = some (.string (⟨#[]⟩ : ByteArray)) := bc BK203 0; have hcz17_1 : w16.cell? ⟨gb203, 1, none⟩ = some (.string (⟨#[]⟩ : ByteArray)) := bc BK203 1; have hfz17_0 := zq6 BK203.out 0; have hfz17_1 := zq6 BK203.out 1; have p204 : 0 ≤ ((ji12) : Int) := of_decide_eq_true ‹_›; have q204 : (ji12) < (l0.length : Int) := of_decide_eq_true ‹_›; obtain ⟨ad204, e204, hx204_0, hx204_1⟩ := at_T101 HR0.out (ji12) p204 q204; obtain rfl : ad202 = ad204 := (by injection e204); have hn204_0 : ad202.block ≠ gb203 := Nat.ne_of_lt (Nat.lt_of_lt_of_le (by have := zq8 _ _ hx204_0; first | rwa [add_block] at this | exact this) GW203.out); have hn204_1 : ad202.block ≠ gb203 := Nat.ne_of_lt (Nat.lt_of_lt_of_le (by have := zq8 _ _ hx204_0; first | rwa [add_block] at this | exact this) GW203.out); replace hx204_0 := hcl HB hx204_0; replace hx204_1 := hcl HB hx204_1; replace hx204_0 := (cell_far (p := ⟨gb203, 0, none⟩) (by first | (rw [add_block]; exact hn204_0) | (show (Addr.add _ _).block ≠ _; rw [add_block]; exact hn204_0) | exact hn204_0) (.string ((rd_T101 l0 x7_1).f0))).trans hx204_0; replace hx204_1 := (cell_far (p := ⟨gb203, 0, none⟩) (by first | (rw [add_block]; exact hn204_0) | (show (Addr.add _ _).block ≠ _; rw [add_block]; exact hn204_0) | exact hn204_0) (.string ((rd_T101 l0 x7_1).f0))).trans hx204_1; replace hx204_0 := (cell_far (p := ⟨gb203, 1, none⟩) (by first | (rw [add_block]; exact hn204_1) | (show (Addr.add _ _).block ≠ _; rw [add_block]; exact hn204_1) | exact hn204_1) (.string ((rd_T101 l0 x7_1).f1))).trans hx204_0; replace hx204_1 := (cell_far (p := ⟨gb203, 1, none⟩) (by first | (rw [add_block]; exact hn204_1) | (show (Addr.add _ _).block ≠ _; rw [add_block]; exact hn204_1) | exact hn204_1) (.string ((rd_T101 l0 x7_1).f1))).trans hx204_1; (try have hy204_0 := fun (n_ : Nat) => (show ((((w16.drewN n_).setCell ⟨gb203, 0, none⟩ (.string ((rd_T101 l0 x7_1).f0))).setCell ⟨gb203, 1, none⟩ (.string ((rd_T101 l0 x7_1).f1)))).cell? _ = some _ from hx204_0)); (try have hy204_1 := fun (n_ : Nat) => (show ((((w16.drewN n_).setCell ⟨gb203, 0, none⟩ (.string ((rd_T101 l0 x7_1).f0))).setCell ⟨gb203, 1, none⟩ (.string ((rd_T101 l0 x7_1).f1)))).cell? _ = some _ from hx204_1)); clear hn204_0; clear hn204_1; replace p204 := eq_true p204; replace q204 := eq_true q204)); try go_wp2_with (first | ((with_reducible refine zq25 (N := 4) rfl ?_); (try (refine gate_guard (by rfl) ?_; dsimp only)); refine bx 4 #[.string (⟨#[]⟩ : ByteArray), .string (⟨#[]⟩ : ByteArray)] 101 ?_; intro gb203 hg w16 hbox hb; have n0_ := zq9 (zq27 (by exact bl HB) hb); have n1_ := zq9 (hbox); have n2_ := zq9 ((by rw [hg]; exact (zq29 (by exact bl HB)) : w.heap.size ≤ gb203)); have n3_ := n2_; clear HB; have HB := n0_; have BK203 := n1_; have GW203 := n2_; have GE203 := n3_; clear n0_ n1_ n2_ n3_; clear hb hbox hg; have hcz17_0 : w16.cell? ⟨gb203, 0, none⟩ = some (.string (⟨#[]⟩ : ByteArray)) := bc BK203 0; have hcz17_1 : w16.cell? ⟨gb203, 1, none⟩ = some (.string (⟨#[]⟩ : ByteArray)) := bc BK203 1; have hfz17_0 := zq6 BK203.out 0; have hfz17_1 := zq6 BK203.out 1; have p204 : 0 ≤ ((ji12) : Int) := of_decide_eq_true ‹_›; have q204 : (ji12) < (l0.length : Int) := of_decide_eq_true ‹_›; obtain ⟨ad204, e204, hx204_0, hx204_1⟩ := at_T101 HR0.out (ji12) p204 q204; obtain rfl : ad202 = ad204 := (by injection e204); have hn204_0 : ad202.block ≠ gb203 := Nat.ne_of_lt (Nat.lt_of_lt_of_le (by have := zq8 _ _ hx204_0; first | rwa [add_block] at this | exact this) GW203.out); have hn204_1 : ad202.block ≠ gb203 := Nat.ne_of_lt (Nat.lt_of_lt_of_le (by have := zq8 _ _ hx204_0; first | rwa [add_block] at this | exact this) GW203.out); replace hx204_0 := hcl HB hx204_0; replace hx204_1 := hcl HB hx204_1; replace hx204_0 := (cell_far (p := ⟨gb203, 0, none⟩) (by first | (rw [add_block]; exact hn204_0) | (show (Addr.add _ _).block ≠ _; rw [add_block]; exact hn204_0) | exact hn204_0) (.string ((rd_T101 l0 x7_1).f0))).trans hx204_0; replace hx204_1 := (cell_far (p := ⟨gb203, 0, none⟩) (by first | (rw [add_block]; exact hn204_0) | (show (Addr.add _ _).block ≠ _; rw [add_block]; exact hn204_0) | exact hn204_0) (.string ((rd_T101 l0 x7_1).f0))).trans hx204_1; replace hx204_0 := (cell_far (p := ⟨gb203, 1, none⟩) (by first | (rw [add_block]; exact hn204_1) | (show (Addr.add _ _).block ≠ _; rw [add_block]; exact hn204_1) | exact hn204_1) (.string ((rd_T101 l0 x7_1).f1))).trans hx204_0; replace hx204_1 := (cell_far (p := ⟨gb203, 1, none⟩) (by first | (rw [add_block]; exact hn204_1) | (show (Addr.add _ _).block ≠ _; rw [add_block]; exact hn204_1) | exact hn204_1) (.string ((rd_T101 l0 x7_1).f1))).trans hx204_1; (try have hy204_0 := fun (n_ : Nat) => (show ((((w16.drewN n_).setCell ⟨gb203, 0, none⟩ (.string ((rd_T101 l0 x7_1).f0))).setCell ⟨gb203, 1, none⟩ (.string ((rd_T101 l0 x7_1).f1)))).cell? _ = some _ from hx204_0)); (try have hy204_1 := fun (n_ : Nat) => (show ((((w16.drewN n_).setCell ⟨gb203, 0, none⟩ (.string ((rd_T101 l0 x7_1).f0))).setCell ⟨gb203, 1, none⟩ (.string ((rd_T101 l0 x7_1).f1)))).cell? _ = some _ from hx204_1)); clear hn204_0; clear hn204_1; replace p204 := eq_true p204; replace q204 := eq_true q204)))
            go_roundg k1
            case measure => have := HK1.out; omega
            case rel => exact ⟨(wrap64 (x7_1 + 1)), (by first | rfl | (simp; done) | (simp [*]; done)), H', ⟨by have := HK1.out; omega⟩, ⟨by exact b1 HB GE203⟩⟩
           ·rw [if_neg c15] at H
            have c15b0 : (Op.bytesLess (((rd_T101 l0 (ji12)).f0).toList) (((rd_T101 l0 x7_1).f0).toList)) = false := by simpa using c15
            clear c15; obtain rfl := Option.some.inj H
            have p202 : 0 ≤ (x7_1 : Int) := of_decide_eq_true ‹_›
            have q202 : x7_1 < (l0.length : Int) := of_decide_eq_true ‹_›
            obtain ⟨ad202, e202, hx202_0, hx202_1⟩ := at_T101 HR0.out x7_1 p202 q202
            cases e202; replace hx202_0 := hcl HB hx202_0; replace hx202_1 := hcl HB hx202_1; replace p202 := eq_true p202; replace q202 := eq_true q202
            go_wp2_with (first | ((with_reducible refine zq25 (N := 4) rfl ?_); (try (refine gate_guard (by rfl) ?_; dsimp only)); refine bx 4 #[.string (⟨#[]⟩ : ByteArray), .string (⟨#[]⟩ : ByteArray)] 101 ?_; intro gb203 hg w18 hbox hb; have n0_ := zq9 (zq27 (by exact bl HB) hb); have n1_ := zq9 (hbox); have n2_ := zq9 ((by rw [hg]; exact (zq29 (by exact bl HB)) : w.heap.size ≤ gb203)); have n3_ := n2_; clear HB; have HB := n0_; have BK203 := n1_; have GW203 := n2_; have GE203 := n3_; clear n0_ n1_ n2_ n3_; clear hb hbox hg; have hcz19_0 : w18.cell? ⟨gb203, 0, none⟩ = some (.string (⟨#[]⟩ : ByteArray)) := bc BK203 0; have hcz19_1 : w18.cell? ⟨gb203, 1, none⟩ = some (.string (⟨#[]⟩ : ByteArray)) := bc BK203 1; have hfz19_0 := zq6 BK203.out 0; have hfz19_1 := zq6 BK203.out 1; have p204 : 0 ≤ ((ji12) : Int) := of_decide_eq_true ‹_›; have q204 : (ji12) < (l0.length : Int) := of_decide_eq_true ‹_›; obtain ⟨ad204, e204, hx204_0, hx204_1⟩ := at_T101 HR0.out (ji12) p204 q204; obtain rfl : ad202 = ad204 := (by injection e204); have hn204_0 : ad202.block ≠ gb203 := Nat.ne_of_lt (Nat.lt_of_lt_of_le (by have := zq8 _ _ hx204_0; first | rwa [add_block] at this | exact this) GW203.out); have hn204_1 : ad202.block ≠ gb203 := Nat.ne_of_lt (Nat.lt_of_lt_of_le (by have := zq8 _ _ hx204_0; first | rwa [add_block] at this | exact this) GW203.out); replace hx204_0 := hcl HB hx204_0; replace hx204_1 := hcl HB hx204_1; replace hx204_0 := (cell_far (p := ⟨gb203, 0, none⟩) (by first | (rw [add_block]; exact hn204_0) | (show (Addr.add _ _).block ≠ _; rw [add_block]; exact hn204_0) | exact hn204_0) (.string ((rd_T101 l0 x7_1).f0))).trans hx204_0; replace hx204_1 := (cell_far (p := ⟨gb203, 0, none⟩) (by first | (rw [add_block]; exact hn204_0) | (show (Addr.add _ _).block ≠ _; rw [add_block]; exact hn204_0) | exact hn204_0) (.string ((rd_T101 l0 x7_1).f0))).trans hx204_1; replace hx204_0 := (cell_far (p := ⟨gb203, 1, none⟩) (by first | (rw [add_block]; exact hn204_1) | (show (Addr.add _ _).block ≠ _; rw [add_block]; exact hn204_1) | exact hn204_1) (.string ((rd_T101 l0 x7_1).f1))).trans hx204_0; replace hx204_1 := (cell_far (p := ⟨gb203, 1, none⟩) (by first | (rw [add_block]; exact hn204_1) | (show (Addr.add _ _).block ≠ _; rw [add_block]; exact hn204_1) | exact hn204_1) (.string ((rd_T101 l0 x7_1).f1))).trans hx204_1; (try have hy204_0 := fun (n_ : Nat) => (show ((((w18.drewN n_).setCell ⟨gb203, 0, none⟩ (.string ((rd_T101 l0 x7_1).f0))).setCell ⟨gb203, 1, none⟩ (.string ((rd_T101 l0 x7_1).f1)))).cell? _ = some _ from hx204_0)); (try have hy204_1 := fun (n_ : Nat) => (show ((((w18.drewN n_).setCell ⟨gb203, 0, none⟩ (.string ((rd_T101 l0 x7_1).f0))).setCell ⟨gb203, 1, none⟩ (.string ((rd_T101 l0 x7_1).f1)))).cell? _ = some _ from hx204_1)); clear hn204_0; clear hn204_1; replace p204 := eq_true p204; replace q204 := eq_true q204))
            repeat (go_quiet (first | ((with_reducible refine zq25 (N := 4) rfl ?_); (try (refine gate_guard (by rfl) ?_; dsimp only)); refine bx 4 #[.string (⟨#[]⟩ : ByteArray), .string (⟨#[]⟩ : ByteArray)] 101 ?_; intro gb203 hg w18 hbox hb; have n0_ := zq9 (zq27 (by exact bl HB) hb); have n1_ := zq9 (hbox); have n2_ := zq9 ((by rw [hg]; exact (zq29 (by exact bl HB)) : w.heap.size ≤ gb203)); have n3_ := n2_; clear HB; have HB := n0_; have BK203 := n1_; have GW203 := n2_; have GE203 := n3_; clear n0_ n1_ n2_ n3_; clear hb hbox hg; have hcz19_0 : w18.cell? ⟨gb203, 0, none⟩ = some (.string (⟨#[]⟩ : ByteArray)) := bc BK203 0; have hcz19_1 : w18.cell? ⟨gb203, 1, none⟩ = some (.string (⟨#[]⟩ : ByteArray)) := bc BK203 1; have hfz19_0 := zq6 BK203.out 0; have hfz19_1 := zq6 BK203.out 1; have p204 : 0 ≤ ((ji12) : Int) := of_decide_eq_true ‹_›; have q204 : (ji12) < (l0.length : Int) := of_decide_eq_true ‹_›; obtain ⟨ad204, e204, hx204_0, hx204_1⟩ := at_T101 HR0.out (ji12) p204 q204; obtain rfl : ad202 = ad204 := (by injection e204); have hn204_0 : ad202.block ≠ gb203 := Nat.ne_of_lt (Nat.lt_of_lt_of_le (by have := zq8 _ _ hx204_0; first | rwa [add_block] at this | exact this) GW203.out); have hn204_1 : ad202.block ≠ gb203 := Nat.ne_of_lt (Nat.lt_of_lt_of_le (by have := zq8 _ _ hx204_0; first | rwa [add_block] at this | exact this) GW203.out); replace hx204_0 := hcl HB hx204_0; replace hx204_1 := hcl HB hx204_1; replace hx204_0 := (cell_far (p := ⟨gb203, 0, none⟩) (by first | (rw [add_block]; exact hn204_0) | (show (Addr.add _ _).block ≠ _; rw [add_block]; exact hn204_0) | exact hn204_0) (.string ((rd_T101 l0 x7_1).f0))).trans hx204_0; replace hx204_1 := (cell_far (p := ⟨gb203, 0, none⟩) (by first | (rw [add_block]; exact hn204_0) | (show (Addr.add _ _).block ≠ _; rw [add_block]; exact hn204_0) | exact hn204_0) (.string ((rd_T101 l0 x7_1).f0))).trans hx204_1; replace hx204_0 := (cell_far (p := ⟨gb203, 1, none⟩) (by first | (rw [add_block]; exact hn204_1) | (show (Addr.add _ _).block ≠ _; rw [add_block]; exact hn204_1) | exact hn204_1) (.string ((rd_T101 l0 x7_1).f1))).trans hx204_0; replace hx204_1 := (cell_far (p := ⟨gb203, 1, none⟩) (by first | (rw [add_block]; exact hn204_1) | (show (Addr.add _ _).block ≠ _; rw [add_block]; exact hn204_1) | exact hn204_1) (.string ((rd_T101 l0 x7_1).f1))).trans hx204_1; (try have hy204_0 := fun (n_ : Nat) => (show ((((w18.drewN n_).setCell ⟨gb203, 0, none⟩ (.string ((rd_T101 l0 x7_1).f0))).setCell ⟨gb203, 1, none⟩ (.string ((rd_T101 l0 x7_1).f1)))).cell? _ = some _ from hx204_0)); (try have hy204_1 := fun (n_ : Nat) => (show ((((w18.drewN n_).setCell ⟨gb203, 0, none⟩ (.string ((rd_T101 l0 x7_1).f0))).setCell ⟨gb203, 1, none⟩ (.string ((rd_T101 l0 x7_1).f1)))).cell? _ = some _ from hx204_1)); clear hn204_0; clear hn204_1; replace p204 := eq_true p204; replace q204 := eq_true q204)); try go_wp2_with (first | ((with_reducible refine zq25 (N := 4) rfl ?_); (try (refine gate_guard (by rfl) ?_; dsimp only)); refine bx 4 #[.string (⟨#[]⟩ : ByteArray), .string (⟨#[]⟩ : ByteArray)] 101 ?_; intro gb203 hg w18 hbox hb; have n0_ := zq9 (zq27 (by exact bl HB) hb); have n1_ := zq9 (hbox); have n2_ := zq9 ((by rw [hg]; exact (zq29 (by exact bl HB)) : w.heap.size ≤ gb203)); have n3_ := n2_; clear HB; have HB := n0_; have BK203 := n1_; have GW203 := n2_; have GE203 := n3_; clear n0_ n1_ n2_ n3_; clear hb hbox hg; have hcz19_0 : w18.cell? ⟨gb203, 0, none⟩ = some (.string (⟨#[]⟩ : ByteArray)) := bc BK203 0; have hcz19_1 : w18.cell? ⟨gb203, 1, none⟩ = some (.string (⟨#[]⟩ : ByteArray)) := bc BK203 1; have hfz19_0 := zq6 BK203.out 0; have hfz19_1 := zq6 BK203.out 1; have p204 : 0 ≤ ((ji12) : Int) := of_decide_eq_true ‹_›; have q204 : (ji12) < (l0.length : Int) := of_decide_eq_true ‹_›; obtain ⟨ad204, e204, hx204_0, hx204_1⟩ := at_T101 HR0.out (ji12) p204 q204; obtain rfl : ad202 = ad204 := (by injection e204); have hn204_0 : ad202.block ≠ gb203 := Nat.ne_of_lt (Nat.lt_of_lt_of_le (by have := zq8 _ _ hx204_0; first | rwa [add_block] at this | exact this) GW203.out); have hn204_1 : ad202.block ≠ gb203 := Nat.ne_of_lt (Nat.lt_of_lt_of_le (by have := zq8 _ _ hx204_0; first | rwa [add_block] at this | exact this) GW203.out); replace hx204_0 := hcl HB hx204_0; replace hx204_1 := hcl HB hx204_1; replace hx204_0 := (cell_far (p := ⟨gb203, 0, none⟩) (by first | (rw [add_block]; exact hn204_0) | (show (Addr.add _ _).block ≠ _; rw [add_block]; exact hn204_0) | exact hn204_0) (.string ((rd_T101 l0 x7_1).f0))).trans hx204_0; replace hx204_1 := (cell_far (p := ⟨gb203, 0, none⟩) (by first | (rw [add_block]; exact hn204_0) | (show (Addr.add _ _).block ≠ _; rw [add_block]; exact hn204_0) | exact hn204_0) (.string ((rd_T101 l0 x7_1).f0))).trans hx204_1; replace hx204_0 := (cell_far (p := ⟨gb203, 1, none⟩) (by first | (rw [add_block]; exact hn204_1) | (show (Addr.add _ _).block ≠ _; rw [add_block]; exact hn204_1) | exact hn204_1) (.string ((rd_T101 l0 x7_1).f1))).trans hx204_0; replace hx204_1 := (cell_far (p := ⟨gb203, 1, none⟩) (by first | (rw [add_block]; exact hn204_1) | (show (Addr.add _ _).block ≠ _; rw [add_block]; exact hn204_1) | exact hn204_1) (.string ((rd_T101 l0 x7_1).f1))).trans hx204_1; (try have hy204_0 := fun (n_ : Nat) => (show ((((w18.drewN n_).setCell ⟨gb203, 0, none⟩ (.string ((rd_T101 l0 x7_1).f0))).setCell ⟨gb203, 1, none⟩ (.string ((rd_T101 l0 x7_1).f1)))).cell? _ = some _ from hx204_0)); (try have hy204_1 := fun (n_ : Nat) => (show ((((w18.drewN n_).setCell ⟨gb203, 0, none⟩ (.string ((rd_T101 l0 x7_1).f0))).setCell ⟨gb203, 1, none⟩ (.string ((rd_T101 l0 x7_1).f1)))).cell? _ = some _ from hx204_1)); clear hn204_0; clear hn204_1; replace p204 := eq_true p204; replace q204 := eq_true q204)))
            go_ret
            exact ⟨by first | rfl | (simp [errW_none, errW_some] <;> rfl) | (simp only [← hji12]; first | rfl | (simp [errW_none, errW_some] <;> rfl)) | (simp [*, errW_none, errW_some] <;> rfl), by exact b1 HB GE203⟩
          ·rw [if_neg c14] at H
           exact absurd H (by simp)
         ·rw [if_neg c13] at H
          exact absurd H (by simp)
        ·rw [if_neg c11] at H; have c11b0 : decide (0 < x7_1) = false := decide_eq_false c11; clear c11; have H' := zq9 H; clear H
         have p202 : 0 ≤ (x7_1 : Int) := of_decide_eq_true ‹_›
         have q202 : x7_1 < (l0.length : Int) := of_decide_eq_true ‹_›
         obtain ⟨ad202, e202, hx202_0, hx202_1⟩ := at_T101 HR0.out x7_1 p202 q202
         cases e202; replace hx202_0 := hcl HB hx202_0; replace hx202_1 := hcl HB hx202_1; replace p202 := eq_true p202; replace q202 := eq_true q202
         go_wp2_with (first | ((with_reducible refine zq25 (N := 4) rfl ?_); (try (refine gate_guard (by rfl) ?_; dsimp only)); refine bx 4 #[.string (⟨#[]⟩ : ByteArray), .string (⟨#[]⟩ : ByteArray)] 101 ?_; intro gb203 hg w20 hbox hb; have n0_ := zq9 (zq27 (by exact bl HB) hb); have n1_ := zq9 (hbox); have n2_ := zq9 ((by rw [hg]; exact (zq29 (by exact bl HB)) : w.heap.size ≤ gb203)); have n3_ := n2_; clear HB; have HB := n0_; have BK203 := n1_; have GW203 := n2_; have GE203 := n3_; clear n0_ n1_ n2_ n3_; clear hb hbox hg; have hcz21_0 : w20.cell? ⟨gb203, 0, none⟩ = some (.string (⟨#[]⟩ : ByteArray)) := bc BK203 0; have hcz21_1 : w20.cell? ⟨gb203, 1, none⟩ = some (.string (⟨#[]⟩ : ByteArray)) := bc BK203 1; have hfz21_0 := zq6 BK203.out 0; have hfz21_1 := zq6 BK203.out 1))
         repeat (go_quiet (first | ((with_reducible refine zq25 (N := 4) rfl ?_); (try (refine gate_guard (by rfl) ?_; dsimp only)); refine bx 4 #[.string (⟨#[]⟩ : ByteArray), .string (⟨#[]⟩ : ByteArray)] 101 ?_; intro gb203 hg w20 hbox hb; have n0_ := zq9 (zq27 (by exact bl HB) hb); have n1_ := zq9 (hbox); have n2_ := zq9 ((by rw [hg]; exact (zq29 (by exact bl HB)) : w.heap.size ≤ gb203)); have n3_ := n2_; clear HB; have HB := n0_; have BK203 := n1_; have GW203 := n2_; have GE203 := n3_; clear n0_ n1_ n2_ n3_; clear hb hbox hg; have hcz21_0 : w20.cell? ⟨gb203, 0, none⟩ = some (.string (⟨#[]⟩ : ByteArray)) := bc BK203 0; have hcz21_1 : w20.cell? ⟨gb203, 1, none⟩ = some (.string (⟨#[]⟩ : ByteArray)) := bc BK203 1; have hfz21_0 := zq6 BK203.out 0; have hfz21_1 := zq6 BK203.out 1)); try go_wp2_with (first | ((with_reducible refine zq25 (N := 4) rfl ?_); (try (refine gate_guard (by rfl) ?_; dsimp only)); refine bx 4 #[.string (⟨#[]⟩ : ByteArray), .string (⟨#[]⟩ : ByteArray)] 101 ?_; intro gb203 hg w20 hbox hb; have n0_ := zq9 (zq27 (by exact bl HB) hb); have n1_ := zq9 (hbox); have n2_ := zq9 ((by rw [hg]; exact (zq29 (by exact bl HB)) : w.heap.size ≤ gb203)); have n3_ := n2_; clear HB; have HB := n0_; have BK203 := n1_; have GW203 := n2_; have GE203 := n3_; clear n0_ n1_ n2_ n3_; clear hb hbox hg; have hcz21_0 : w20.cell? ⟨gb203, 0, none⟩ = some (.string (⟨#[]⟩ : ByteArray)) := bc BK203 0; have hcz21_1 : w20.cell? ⟨gb203, 1, none⟩ = some (.string (⟨#[]⟩ : ByteArray)) := bc BK203 1; have hfz21_0 := zq6 BK203.out 0; have hfz21_1 := zq6 BK203.out 1)))
         go_roundg k1
         case measure => have := HK1.out; omega
         case rel => exact ⟨(wrap64 (x7_1 + 1)), (by first | rfl | (simp; done) | (simp [*]; done)), H', ⟨by have := HK1.out; omega⟩, ⟨by exact b1 HB GE203⟩⟩
     case n2 =>
      rw [if_neg c4] at H
      exact absurd H (by simp)
    case n1 =>
     rw [if_neg c3] at H
     exact absurd H (by simp)
   case n0 =>
    rw [if_neg c2] at H; have c2b0 : decide (x7_1 < (l0.length : Int)) = false := decide_eq_false c2; clear c2; obtain rfl := Option.some.inj H
    go_wp2
    repeat (go_quiet (fail); try go_wp2)
    go_ret
    exact fz (by exact bl HB)
   case p3 | n3 =>
    have p202 : 0 ≤ (x7_1 : Int) := of_decide_eq_true ‹_›
    have q202 : x7_1 < (l0.length : Int) := of_decide_eq_true ‹_›
    obtain ⟨ad202, e202, hx202_0, hx202_1⟩ := at_T101 HR0.out x7_1 p202 q202
    cases e202; replace hx202_0 := hcl HB hx202_0; replace hx202_1 := hcl HB hx202_1; replace p202 := eq_true p202; replace q202 := eq_true q202
    try go_wp2_with (first | ((with_reducible refine zq25 (N := 4) rfl ?_); (try (refine gate_guard (by rfl) ?_; dsimp only)); refine bx 4 #[.string (⟨#[]⟩ : ByteArray), .string (⟨#[]⟩ : ByteArray)] 101 ?_; intro gb203 hg w6 hbox hb; have n0_ := zq9 (zq27 (by exact bl HB) hb); have n1_ := zq9 (hbox); have n2_ := zq9 ((by rw [hg]; exact (zq29 (by exact bl HB)) : w.heap.size ≤ gb203)); have n3_ := n2_; clear HB; have HB := n0_; have BK203 := n1_; have GW203 := n2_; have GE203 := n3_; clear n0_ n1_ n2_ n3_; clear hb hbox hg; have hcz7_0 : w6.cell? ⟨gb203, 0, none⟩ = some (.string (⟨#[]⟩ : ByteArray)) := bc BK203 0; have hcz7_1 : w6.cell? ⟨gb203, 1, none⟩ = some (.string (⟨#[]⟩ : ByteArray)) := bc BK203 1; have hfz7_0 := zq6 BK203.out 0; have hfz7_1 := zq6 BK203.out 1))
    repeat (go_quiet (first | ((with_reducible refine zq25 (N := 4) rfl ?_); (try (refine gate_guard (by rfl) ?_; dsimp only)); refine bx 4 #[.string (⟨#[]⟩ : ByteArray), .string (⟨#[]⟩ : ByteArray)] 101 ?_; intro gb203 hg w6 hbox hb; have n0_ := zq9 (zq27 (by exact bl HB) hb); have n1_ := zq9 (hbox); have n2_ := zq9 ((by rw [hg]; exact (zq29 (by exact bl HB)) : w.heap.size ≤ gb203)); have n3_ := n2_; clear HB; have HB := n0_; have BK203 := n1_; have GW203 := n2_; have GE203 := n3_; clear n0_ n1_ n2_ n3_; clear hb hbox hg; have hcz7_0 : w6.cell? ⟨gb203, 0, none⟩ = some (.string (⟨#[]⟩ : ByteArray)) := bc BK203 0; have hcz7_1 : w6.cell? ⟨gb203, 1, none⟩ = some (.string (⟨#[]⟩ : ByteArray)) := bc BK203 1; have hfz7_0 := zq6 BK203.out 0; have hfz7_1 := zq6 BK203.out 1)); try go_wp2_with (first | ((with_reducible refine zq25 (N := 4) rfl ?_); (try (refine gate_guard (by rfl) ?_; dsimp only)); refine bx 4 #[.string (⟨#[]⟩ : ByteArray), .string (⟨#[]⟩ : ByteArray)] 101 ?_; intro gb203 hg w6 hbox hb; have n0_ := zq9 (zq27 (by exact bl HB) hb); have n1_ := zq9 (hbox); have n2_ := zq9 ((by rw [hg]; exact (zq29 (by exact bl HB)) : w.heap.size ≤ gb203)); have n3_ := n2_; clear HB; have HB := n0_; have BK203 := n1_; have GW203 := n2_; have GE203 := n3_; clear n0_ n1_ n2_ n3_; clear hb hbox hg; have hcz7_0 : w6.cell? ⟨gb203, 0, none⟩ = some (.string (⟨#[]⟩ : ByteArray)) := bc BK203 0; have hcz7_1 : w6.cell? ⟨gb203, 1, none⟩ = some (.string (⟨#[]⟩ : ByteArray)) := bc BK203 1; have hfz7_0 := zq6 BK203.out 0; have hfz7_1 := zq6 BK203.out 1)))
    go_ret
    exact fz (by exact b1 HB GE203)
set_option maxHeartbeats 8000000 in
set_option maxRecDepth 100000 in
theorem impl_EntryOk.calls (k : Nat) (a0_0 : ByteArray) (a0_1 : Int) (a0_2 : Int) (a0_3 : ByteArray) (A0_4 : Option Addr) (c0_4 : Nat) (l0_4 : List ByteArray) (A0_5 : Option Addr) (c0_5 : Nat) (l0_5 : List (S99)) (A0_6 : Option Addr) (c0_6 : Nat) (l0_6 : List (S101)) (r : Bool) (w : World) (hr0_4 : Kd.C Kd.string w A0_4 l0_4.length l0_4) (hc0_4 : l0_4.length ≤ c0_4) (hr0_5 : Kd.C k99 w A0_5 l0_5.length l0_5) (hc0_5 : l0_5.length ≤ c0_5) (hr0_6 : Kd.C k101 w A0_6 l0_6.length l0_6) (hc0_6 : l0_6.length ≤ c0_6) (h : impl_EntryOk.f k a0_0 a0_1 a0_2 a0_3 l0_4 l0_5 l0_6 = some r) :
  Calls Try.prog 13 #[.agg #[.string a0_0, .int .i64 a0_1, .int .i64 a0_2, .string a0_3, .slice A0_4 l0_4.length c0_4, .slice A0_5 l0_5.length c0_5, .slice A0_6 l0_6.length c0_6]] w fun e w' => e = .returned (.bool r) ∧ Below w.heap.size w w' := by
 have hu32 := Try.underlying32; have HR0_4 := zq9 hr0_4; have HC0_4 := zq9 hc0_4; clear hr0_4 hc0_4; have HR0_5 := zq9 hr0_5; have HC0_5 := zq9 hc0_5; clear hr0_5 hc0_5; have HR0_6 := zq9 hr0_6; have HC0_6 := zq9 hc0_6; clear hr0_6 hc0_6
 have HB := zq9 (Below.refl w.heap.size w)
 have H : ((impl_keyOk.f a0_0).bind fun t206 => (if t206 = true then ((impl_within.f a0_1 0 2000000).bind fun t207 => (impl_EntryOk.j0 k (!t207) a0_0 a0_1 a0_2 a0_3 l0_4 l0_5 l0_6)) else (impl_EntryOk.j0 k true a0_0 a0_1 a0_2 a0_3 l0_4 l0_5 l0_6))) = some r := h
 clear h; have HC2 := zq9 H; clear H
 go_enter Try.func13, Try.ntmps13
 go_upto_region 1 with (first | ((with_reducible refine zq25 (N := 1) rfl ?_); refine bx 1 #[.string a0_0, .int .i64 a0_1, .int .i64 a0_2, .string a0_3, .slice A0_4 l0_4.length c0_4, .slice A0_5 l0_5.length c0_5, .slice A0_6 l0_6.length c0_6] 32 ?_; intro gb205 hg w3 hbox hb; have n0_ := zq9 (zq27 (by exact bl HB) hb); have n1_ := zq9 (hbox); have n2_ := zq9 ((by rw [hg]; exact (zq29 (by exact bl HB)) : w.heap.size ≤ gb205)); have n3_ := n2_; clear HB; have HB := n0_; have BK205 := n1_; have GW205 := n2_; have GE205 := n3_; clear n0_ n1_ n2_ n3_; clear hb hbox hg))
 repeat (go_quiet (first | ((with_reducible refine zq25 (N := 1) rfl ?_); refine bx 1 #[.string a0_0, .int .i64 a0_1, .int .i64 a0_2, .string a0_3, .slice A0_4 l0_4.length c0_4, .slice A0_5 l0_5.length c0_5, .slice A0_6 l0_6.length c0_6] 32 ?_; intro gb205 hg w3 hbox hb; have n0_ := zq9 (zq27 (by exact bl HB) hb); have n1_ := zq9 (hbox); have n2_ := zq9 ((by rw [hg]; exact (zq29 (by exact bl HB)) : w.heap.size ≤ gb205)); have n3_ := n2_; clear HB; have HB := n0_; have BK205 := n1_; have GW205 := n2_; have GE205 := n3_; clear n0_ n1_ n2_ n3_; clear hb hbox hg)); go_upto_region 1 with (first | ((with_reducible refine zq25 (N := 1) rfl ?_); refine bx 1 #[.string a0_0, .int .i64 a0_1, .int .i64 a0_2, .string a0_3, .slice A0_4 l0_4.length c0_4, .slice A0_5 l0_5.length c0_5, .slice A0_6 l0_6.length c0_6] 32 ?_; intro gb205 hg w3 hbox hb; have n0_ := zq9 (zq27 (by exact bl HB) hb); have n1_ := zq9 (hbox); have n2_ := zq9 ((by rw [hg]; exact (zq29 (by exact bl HB)) : w.heap.size ≤ gb205)); have n3_ := n2_; clear HB; have HB := n0_; have BK205 := n1_; have GW205 := n2_; have GE205 := n3_; clear n0_ n1_ n2_ n3_; clear hb hbox hg)))
 (try simp only [Act.put, zq0, zq1, zq2])
 go_cut [16] (fun v16 wc => ∃ (kq : Nat) (x16_1 : Bool), v16 = .bool x16_1 ∧ Aside0 (impl_EntryOk.j0 kq x16_1 a0_0 a0_1 a0_2 a0_3 l0_4 l0_5 l0_6 = some r) ∧ Aside0 (kq ≤ k) ∧ Aside0 (wc.heap[gb205]? = some (.cells #[.string a0_0, .int .i64 a0_1, .int .i64 a0_2, .string a0_3, (.slice A0_4 l0_4.length c0_4), (.slice A0_5 l0_5.length c0_5), (.slice A0_6 l0_6.length c0_6)] 32 (0, 0))) ∧ Aside0 (Below w.heap.size w wc))
 case first =>
  have H := HC2.out; clear HC2; replace H := Option.bind_eq_some_iff.mp H; obtain ⟨t206, A40, H⟩ := H
  try dsimp only at H
  have A4 := zq9 A40; clear A40
  have hcz7_0 : w3.cell? ⟨gb205, 0, none⟩ = some (.string a0_0) := bc BK205 0
  have hcz7_1 : w3.cell? ⟨gb205, 1, none⟩ = some (.int .i64 a0_1) := bc BK205 1
  have hcz7_2 : w3.cell? ⟨gb205, 2, none⟩ = some (.int .i64 a0_2) := bc BK205 2
  have hcz7_3 : w3.cell? ⟨gb205, 3, none⟩ = some (.string a0_3) := bc BK205 3
  have hcz7_4 : w3.cell? ⟨gb205, 4, none⟩ = some (.slice A0_4 l0_4.length c0_4) := bc BK205 4
  have hcz7_5 : w3.cell? ⟨gb205, 5, none⟩ = some (.slice A0_5 l0_5.length c0_5) := bc BK205 5
  have hcz7_6 : w3.cell? ⟨gb205, 6, none⟩ = some (.slice A0_6 l0_6.length c0_6) := bc BK205 6
  have hfz7_0 := zq6 BK205.out 0
  have hfz7_1 := zq6 BK205.out 1
  have hfz7_2 := zq6 BK205.out 2
  have hfz7_3 := zq6 BK205.out 3
  have hfz7_4 := zq6 BK205.out 4
  have hfz7_5 := zq6 BK205.out 5
  have hfz7_6 := zq6 BK205.out 6
  by_cases c5 : t206 = true
  ·subst c5
   have H1 : ((impl_within.f a0_1 0 2000000).bind fun t207 => (impl_EntryOk.j0 k (!t207) a0_0 a0_1 a0_2 a0_3 l0_4 l0_5 l0_6)) = some r := by rw [if_pos rfl] at H; exact H
   clear H; have H := H1; clear H1; replace H := Option.bind_eq_some_iff.mp H; obtain ⟨t207, A60, H⟩ := H
   try dsimp only at H
   have A6 := zq9 A60; clear A60; have H' := zq9 H; clear H
   go_wp2_with (first | (go_at_call 48; (with_reducible refine (impl_keyOk.calls a0_0 true _ A4.out).mono ?_); rintro e w' ⟨rfl, ⟨nd, rfl⟩⟩; (try first | exact ⟨rfl, _, zq32 _ _ _⟩ | exact ⟨rfl, _, Eq.trans (zq32 _ _ _) (congrArg (World.drewN _) (Nat.add_assoc _ _ _))⟩)) | (go_at_call 49; (with_reducible refine (impl_within.calls a0_1 0 2000000 t207 _ A6.out).mono ?_); rintro e w' ⟨rfl, ⟨nd, rfl⟩⟩; (try first | exact ⟨rfl, _, zq32 _ _ _⟩ | exact ⟨rfl, _, Eq.trans (zq32 _ _ _) (congrArg (World.drewN _) (Nat.add_assoc _ _ _))⟩)))
   repeat (go_quiet (first | (go_at_call 48; (with_reducible refine (impl_keyOk.calls a0_0 true _ A4.out).mono ?_); rintro e w' ⟨rfl, ⟨nd, rfl⟩⟩; (try first | exact ⟨rfl, _, zq32 _ _ _⟩ | exact ⟨rfl, _, Eq.trans (zq32 _ _ _) (congrArg (World.drewN _) (Nat.add_assoc _ _ _))⟩)) | (go_at_call 49; (with_reducible refine (impl_within.calls a0_1 0 2000000 t207 _ A6.out).mono ?_); rintro e w' ⟨rfl, ⟨nd, rfl⟩⟩; (try first | exact ⟨rfl, _, zq32 _ _ _⟩ | exact ⟨rfl, _, Eq.trans (zq32 _ _ _) (congrArg (World.drewN _) (Nat.add_assoc _ _ _))⟩))); try go_wp2_with (first | (go_at_call 48; (with_reducible refine (impl_keyOk.calls a0_0 true _ A4.out).mono ?_); rintro e w' ⟨rfl, ⟨nd, rfl⟩⟩; (try first | exact ⟨rfl, _, zq32 _ _ _⟩ | exact ⟨rfl, _, Eq.trans (zq32 _ _ _) (congrArg (World.drewN _) (Nat.add_assoc _ _ _))⟩)) | (go_at_call 49; (with_reducible refine (impl_within.calls a0_1 0 2000000 t207 _ A6.out).mono ?_); rintro e w' ⟨rfl, ⟨nd, rfl⟩⟩; (try first | exact ⟨rfl, _, zq32 _ _ _⟩ | exact ⟨rfl, _, Eq.trans (zq32 _ _ _) (congrArg (World.drewN _) (Nat.add_assoc _ _ _))⟩))))
   go_meet
   case rel => exact ⟨_, (!t207), (by first | rfl | (simp; done) | (simp [*]; done)), H', ⟨by first | omega | exact Nat.le_refl _⟩, ⟨by refine bp ?_; exact BK205.out⟩, ⟨by exact b1 HB GE205⟩⟩
  ·replace c5 := Bool.eq_false_iff.mpr c5
   subst c5
   have H1 : (impl_EntryOk.j0 k true a0_0 a0_1 a0_2 a0_3 l0_4 l0_5 l0_6) = some r := by rw [if_neg (show ¬ (false = true) by decide)] at H; exact H
   clear H; have H := H1; clear H1; have H' := zq9 H; clear H
   go_wp2_with (first | (go_at_call 48; (with_reducible refine (impl_keyOk.calls a0_0 false _ A4.out).mono ?_); rintro e w' ⟨rfl, ⟨nd, rfl⟩⟩; (try first | exact ⟨rfl, _, zq32 _ _ _⟩ | exact ⟨rfl, _, Eq.trans (zq32 _ _ _) (congrArg (World.drewN _) (Nat.add_assoc _ _ _))⟩)))
   repeat (go_quiet (first | (go_at_call 48; (with_reducible refine (impl_keyOk.calls a0_0 false _ A4.out).mono ?_); rintro e w' ⟨rfl, ⟨nd, rfl⟩⟩; (try first | exact ⟨rfl, _, zq32 _ _ _⟩ | exact ⟨rfl, _, Eq.trans (zq32 _ _ _) (congrArg (World.drewN _) (Nat.add_assoc _ _ _))⟩))); try go_wp2_with (first | (go_at_call 48; (with_reducible refine (impl_keyOk.calls a0_0 false _ A4.out).mono ?_); rintro e w' ⟨rfl, ⟨nd, rfl⟩⟩; (try first | exact ⟨rfl, _, zq32 _ _ _⟩ | exact ⟨rfl, _, Eq.trans (zq32 _ _ _) (congrArg (World.drewN _) (Nat.add_assoc _ _ _))⟩))))
   go_meet
   case rel => exact ⟨_, (true), (by first | rfl | (simp; done) | (simp [*]; done)), H', ⟨by first | omega | exact Nat.le_refl _⟩, ⟨by refine bp ?_; exact BK205.out⟩, ⟨by exact b1 HB GE205⟩⟩
 case rest =>
  clear HC2
  try clear c1
  try clear p2
  try clear c5
  try clear hcz7_0
  try clear hcz7_1
  try clear hcz7_2
  try clear hcz7_3
  try clear hcz7_4
  try clear hcz7_5
  try clear hcz7_6
  try clear hcz8_0
  try clear hcz8_1
  try clear hcz8_2
  try clear hcz8_3
  try clear hcz8_4
  try clear hcz8_5
  try clear hcz8_6
  try clear hfz7_0
  try clear hfz7_1
  try clear hfz7_2
  try clear hfz7_3
  try clear hfz7_4
  try clear hfz7_5
  try clear hfz7_6
  try clear hfz8_0
  try clear hfz8_1
  try clear hfz8_2
  try clear hfz8_3
  try clear hfz8_4
  try clear hfz8_5
  try clear hfz8_6
  obtain ⟨kq, x16_1, rfl, HA, HJ1, BK205, HB⟩ := hcut
  cases kq with
  | zero => exact absurd HA.out (by simp [impl_EntryOk.j0])
  | succ kj1 =>
   have H := HA.out; clear HA
   simp only [impl_EntryOk.j0] at H
   refine (Classical.em (x16_1 = true)).elim (fun c9 => ?p1) (fun c9 => ?n1)
   case p1 =>
    subst c9
    have H1 : (some false) = some r := by rw [if_pos rfl] at H; exact H
    clear H; have H := H1; clear H1; obtain rfl := Option.some.inj H
    go_wp2
    repeat (go_quiet (fail); try go_wp2)
    go_ret
    exact fz (by exact b1 HB GE205)
   case' n1 =>
    replace c9 := Bool.eq_false_iff.mpr c9
    subst c9
    have H1 : (if a0_2 = 1 then (if (a0_3.size : Int) ≤ 40 then (if ((l0_4.length : Int) > 0) then (some false) else (if ((l0_5.length : Int) > 0) then (some false) else (some (!(decide ((l0_6.length : Int) > 0)))))) else (some false)) else (if a0_2 = 2 then (if (l0_4.length : Int) > 0 then ((impl_listOk.f kj1 l0_4).bind fun t208 => (if t208 = true then (if (¬ a0_3.toList = ([] : List UInt8)) then (some false) else (if ((l0_5.length : Int) > 0) then (some false) else (some (!(decide ((l0_6.length : Int) > 0)))))) else (some false))) else (some false)) else (if a0_2 = 3 then (if (l0_4.length : Int) > 0 then ((impl_SetOk.f kj1 l0_4).bind fun t209 => (if t209 = true then (if (¬ a0_3.toList = ([] : List UInt8)) then (some false) else (if ((l0_5.length : Int) > 0) then (some false) else (some (!(decide ((l0_6.length : Int) > 0)))))) else (some false))) else (some false)) else (if a0_2 = 4 then (if (l0_5.length : Int) > 0 then ((impl_ScoresOk.f kj1 l0_5).bind fun t210 => (if t210 = true then (if (¬ a0_3.toList = ([] : List UInt8)) then (some false) else (if ((l0_4.length : Int) > 0) then (some false) else (some (!(decide ((l0_6.length : Int) > 0)))))) else (some false))) else (some false)) else (if a0_2 = 5 then (if (l0_6.length : Int) > 0 then ((impl_FieldsOk.f kj1 l0_6).bind fun t211 => (if t211 = true then (if (¬ a0_3.toList = ([] : List UInt8)) then (some false) else (if ((l0_4.length : Int) > 0) then (some false) else (some (!(decide ((l0_5.length : Int) > 0)))))) else (some false))) else (some false)) else (some false)))))) = some r := by rw [if_neg (show ¬ (false = true) by decide)] at H; exact H
    clear H; have H := H1; clear H1
    have hcz13_0 : wc.cell? ⟨gb205, 0, none⟩ = some (.string a0_0) := bc BK205 0
    have hcz13_1 : wc.cell? ⟨gb205, 1, none⟩ = some (.int .i64 a0_1) := bc BK205 1
    have hcz13_2 : wc.cell? ⟨gb205, 2, none⟩ = some (.int .i64 a0_2) := bc BK205 2
    have hcz13_3 : wc.cell? ⟨gb205, 3, none⟩ = some (.string a0_3) := bc BK205 3
    have hcz13_4 : wc.cell? ⟨gb205, 4, none⟩ = some (.slice A0_4 l0_4.length c0_4) := bc BK205 4
    have hcz13_5 : wc.cell? ⟨gb205, 5, none⟩ = some (.slice A0_5 l0_5.length c0_5) := bc BK205 5
    have hcz13_6 : wc.cell? ⟨gb205, 6, none⟩ = some (.slice A0_6 l0_6.length c0_6) := bc BK205 6
    have hfz13_0 := zq6 BK205.out 0
    have hfz13_1 := zq6 BK205.out 1
    have hfz13_2 := zq6 BK205.out 2
    have hfz13_3 := zq6 BK205.out 3
    have hfz13_4 := zq6 BK205.out 4
    have hfz13_5 := zq6 BK205.out 5
    have hfz13_6 := zq6 BK205.out 6
    refine (Classical.em (a0_2 = 1)).elim (fun c10 => ?p2) (fun c10 => ?n2)
    case p2 =>
     rw [if_pos c10] at H
     have c10b0 : (a0_2 == 1) = true := beq_iff_eq.mpr c10
     have c10b1 : (a0_2 != 1) = false := bne_eq_false_iff_eq.mpr c10
     clear c10
     go_wp2
     by_cases c11 : (a0_3.size : Int) ≤ 40
     ·rw [if_pos c11] at H; have c11b0 : decide ((a0_3.size : Int) ≤ 40) = true := decide_eq_true c11
      have c11b1 : decide (a0_3.size ≤ 40) = true := decide_eq_true (by omega)
      clear c11
      by_cases c12 : ((l0_4.length : Int) > 0)
      ·rw [if_pos c12] at H; have c12b0 : decide (0 < (l0_4.length : Int)) = true := decide_eq_true c12
       have c12b1 : decide (0 < l0_4.length) = true := decide_eq_true (by omega)
       clear c12; obtain rfl := Option.some.inj H
       repeat (go_quiet (fail); try go_wp2)
       go_ret
       exact fz (by exact b1 HB GE205)
      ·rw [if_neg c12] at H; have c12b0 : decide (0 < (l0_4.length : Int)) = false := decide_eq_false c12
       have c12b1 : decide (0 < l0_4.length) = false := decide_eq_false (by omega)
       clear c12
       by_cases c14 : ((l0_5.length : Int) > 0)
       ·rw [if_pos c14] at H; have c14b0 : decide (0 < (l0_5.length : Int)) = true := decide_eq_true c14
        have c14b1 : decide (0 < l0_5.length) = true := decide_eq_true (by omega)
        clear c14; obtain rfl := Option.some.inj H
        repeat (go_quiet (fail); try go_wp2)
        go_ret
        exact fz (by exact b1 HB GE205)
       ·rw [if_neg c14] at H; have c14b0 : decide (0 < (l0_5.length : Int)) = false := decide_eq_false c14
        have c14b1 : decide (0 < l0_5.length) = false := decide_eq_false (by omega)
        clear c14; obtain rfl := Option.some.inj H
        repeat (go_quiet (fail); try go_wp2)
        go_ret
        exact fz (by exact b1 HB GE205)
     ·rw [if_neg c11] at H; have c11b0 : decide ((a0_3.size : Int) ≤ 40) = false := decide_eq_false c11
      have c11b1 : decide (a0_3.size ≤ 40) = false := decide_eq_false (by omega)
      clear c11; obtain rfl := Option.some.inj H
      repeat (go_quiet (fail); try go_wp2)
      go_ret
      exact fz (by exact b1 HB GE205)
    case' n2 =>
     rw [if_neg c10] at H
     have c10b0 : (a0_2 == 1) = false := beq_eq_false_iff_ne.mpr c10
     have c10b1 : (a0_2 != 1) = true := bne_iff_ne.mpr c10
     refine (Classical.em (a0_2 = 2)).elim (fun c18 => ?p6) (fun c18 => ?n6)
     case' p6 =>
      rw [if_pos c18] at H
      have c18b0 : (a0_2 == 2) = true := beq_iff_eq.mpr c18
      have c18b1 : (a0_2 != 2) = false := bne_eq_false_iff_eq.mpr c18
      clear c18
      refine (Classical.em ((l0_4.length : Int) > 0)).elim (fun c19 => ?p7) (fun c19 => ?n7)
      case' p7 =>
       rw [if_pos c19] at H; have c19b0 : decide (0 < (l0_4.length : Int)) = true := decide_eq_true c19
       have c19b1 : decide (0 < l0_4.length) = true := decide_eq_true (by omega)
       clear c19; replace H := Option.bind_eq_some_iff.mp H; obtain ⟨t208, A200, H⟩ := H
       try dsimp only at H
       have A20 := zq9 A200; clear A200
       go_wp2_with (first | (go_at_call 50; (with_reducible refine (impl_listOk.calls kj1 _ _ l0_4 t208 _ ?side1 ?side2 A20.out).mono ?_); (case side1 => exact kc HR0_4 HB); (case side2 => exact HC0_4.out); rintro e w' ⟨rfl, ⟨nd, rfl⟩⟩; (try first | exact ⟨rfl, _, zq32 _ _ _⟩ | exact ⟨rfl, _, Eq.trans (zq32 _ _ _) (congrArg (World.drewN _) (Nat.add_assoc _ _ _))⟩)))
       refine (Classical.em (t208 = true)).elim (fun c21 => ?p8) (fun c21 => ?n8)
       case' p8 =>
        subst c21
        have H1 : (if (¬ a0_3.toList = ([] : List UInt8)) then (some false) else (if ((l0_5.length : Int) > 0) then (some false) else (some (!(decide ((l0_6.length : Int) > 0)))))) = some r := by rw [if_pos rfl] at H; exact H
        clear H; have H := H1; clear H1
        refine (Classical.em ((¬ a0_3.toList = ([] : List UInt8)))).elim (fun c22 => ?p9) (fun c22 => ?n9)
        case' p9 =>
         rw [if_pos c22] at H
         have c22b0 : (a0_3.toList == ([] : List UInt8)) = false := beq_eq_false_iff_ne.mpr c22
         have c22b1 : (a0_3.toList != ([] : List UInt8)) = true := bne_iff_ne.mpr c22
         clear c22; obtain rfl := Option.some.inj H
        case' n9 =>
         rw [if_neg c22] at H
         have c22b0 : (a0_3.toList == ([] : List UInt8)) = true := beq_iff_eq.mpr (Decidable.not_not.mp c22)
         have c22b1 : (a0_3.toList != ([] : List UInt8)) = false := bne_eq_false_iff_eq.mpr (Decidable.not_not.mp c22)
         refine (Classical.em (((l0_5.length : Int) > 0))).elim (fun c24 => ?p10) (fun c24 => ?n10)
         case' p10 =>
          rw [if_pos c24] at H; have c24b0 : decide (0 < (l0_5.length : Int)) = true := decide_eq_true c24
          have c24b1 : decide (0 < l0_5.length) = true := decide_eq_true (by omega)
          clear c24; obtain rfl := Option.some.inj H
         case' n10 =>
          rw [if_neg c24] at H; have c24b0 : decide (0 < (l0_5.length : Int)) = false := decide_eq_false c24
          have c24b1 : decide (0 < l0_5.length) = false := decide_eq_false (by omega)
          clear c24; obtain rfl := Option.some.inj H
       case n8 =>
        replace c21 := Bool.eq_false_iff.mpr c21
        subst c21
        have H1 : (some false) = some r := by rw [if_neg (show ¬ (false = true) by decide)] at H; exact H
        clear H; have H := H1; clear H1; obtain rfl := Option.some.inj H
        repeat (go_quiet (first | (go_at_call 50; (with_reducible refine (impl_listOk.calls kj1 _ _ l0_4 false _ ?side1 ?side2 A20.out).mono ?_); (case side1 => exact kc HR0_4 HB); (case side2 => exact HC0_4.out); rintro e w' ⟨rfl, ⟨nd, rfl⟩⟩; (try first | exact ⟨rfl, _, zq32 _ _ _⟩ | exact ⟨rfl, _, Eq.trans (zq32 _ _ _) (congrArg (World.drewN _) (Nat.add_assoc _ _ _))⟩))); try go_wp2_with (first | (go_at_call 50; (with_reducible refine (impl_listOk.calls kj1 _ _ l0_4 false _ ?side1 ?side2 A20.out).mono ?_); (case side1 => exact kc HR0_4 HB); (case side2 => exact HC0_4.out); rintro e w' ⟨rfl, ⟨nd, rfl⟩⟩; (try first | exact ⟨rfl, _, zq32 _ _ _⟩ | exact ⟨rfl, _, Eq.trans (zq32 _ _ _) (congrArg (World.drewN _) (Nat.add_assoc _ _ _))⟩))))
        go_ret
        exact fz (by exact b1 HB GE205)
      case n7 =>
       rw [if_neg c19] at H; have c19b0 : decide (0 < (l0_4.length : Int)) = false := decide_eq_false c19
       have c19b1 : decide (0 < l0_4.length) = false := decide_eq_false (by omega)
       clear c19; obtain rfl := Option.some.inj H
       go_wp2
       repeat (go_quiet (fail); try go_wp2)
       go_ret
       exact fz (by exact b1 HB GE205)
     case' n6 =>
      rw [if_neg c18] at H
      have c18b0 : (a0_2 == 2) = false := beq_eq_false_iff_ne.mpr c18
      have c18b1 : (a0_2 != 2) = true := bne_iff_ne.mpr c18
      refine (Classical.em (a0_2 = 3)).elim (fun c29 => ?p11) (fun c29 => ?n11)
      case' p11 =>
       rw [if_pos c29] at H
       have c29b0 : (a0_2 == 3) = true := beq_iff_eq.mpr c29
       have c29b1 : (a0_2 != 3) = false := bne_eq_false_iff_eq.mpr c29
       clear c29
       refine (Classical.em ((l0_4.length : Int) > 0)).elim (fun c30 => ?p12) (fun c30 => ?n12)
       case' p12 =>
        rw [if_pos c30] at H; have c30b0 : decide (0 < (l0_4.length : Int)) = true := decide_eq_true c30
        have c30b1 : decide (0 < l0_4.length) = true := decide_eq_true (by omega)
        clear c30; replace H := Option.bind_eq_some_iff.mp H; obtain ⟨t209, A310, H⟩ := H
        try dsimp only at H
        have A31 := zq9 A310; clear A310
        go_wp2_with (first | (go_at_call 51; (with_reducible refine (impl_SetOk.calls kj1 _ _ l0_4 t209 _ ?side1 ?side2 A31.out).mono ?_); (case side1 => exact kc HR0_4 HB); (case side2 => exact HC0_4.out); rintro e w' ⟨rfl, ⟨nd, rfl⟩⟩; (try first | exact ⟨rfl, _, zq32 _ _ _⟩ | exact ⟨rfl, _, Eq.trans (zq32 _ _ _) (congrArg (World.drewN _) (Nat.add_assoc _ _ _))⟩)))
        refine (Classical.em (t209 = true)).elim (fun c32 => ?p13) (fun c32 => ?n13)
        case' p13 =>
         subst c32
         have H1 : (if (¬ a0_3.toList = ([] : List UInt8)) then (some false) else (if ((l0_5.length : Int) > 0) then (some false) else (some (!(decide ((l0_6.length : Int) > 0)))))) = some r := by rw [if_pos rfl] at H; exact H
         clear H; have H := H1; clear H1
         refine (Classical.em ((¬ a0_3.toList = ([] : List UInt8)))).elim (fun c33 => ?p14) (fun c33 => ?n14)
         case' p14 =>
          rw [if_pos c33] at H
          have c33b0 : (a0_3.toList == ([] : List UInt8)) = false := beq_eq_false_iff_ne.mpr c33
          have c33b1 : (a0_3.toList != ([] : List UInt8)) = true := bne_iff_ne.mpr c33
          clear c33; obtain rfl := Option.some.inj H
         case' n14 =>
          rw [if_neg c33] at H
          have c33b0 : (a0_3.toList == ([] : List UInt8)) = true := beq_iff_eq.mpr (Decidable.not_not.mp c33)
          have c33b1 : (a0_3.toList != ([] : List UInt8)) = false := bne_eq_false_iff_eq.mpr (Decidable.not_not.mp c33)
          refine (Classical.em (((l0_5.length : Int) > 0))).elim (fun c35 => ?p15) (fun c35 => ?n15)
          case' p15 =>
           rw [if_pos c35] at H; have c35b0 : decide (0 < (l0_5.length : Int)) = true := decide_eq_true c35
           have c35b1 : decide (0 < l0_5.length) = true := decide_eq_true (by omega)
           clear c35; obtain rfl := Option.some.inj H
          case' n15 =>
           rw [if_neg c35] at H; have c35b0 : decide (0 < (l0_5.length : Int)) = false := decide_eq_false c35
           have c35b1 : decide (0 < l0_5.length) = false := decide_eq_false (by omega)
           clear c35; obtain rfl := Option.some.inj H
        case n13 =>
         replace c32 := Bool.eq_false_iff.mpr c32
         subst c32
         have H1 : (some false) = some r := by rw [if_neg (show ¬ (false = true) by decide)] at H; exact H
         clear H; have H := H1; clear H1; obtain rfl := Option.some.inj H
         repeat (go_quiet (first | (go_at_call 51; (with_reducible refine (impl_SetOk.calls kj1 _ _ l0_4 false _ ?side1 ?side2 A31.out).mono ?_); (case side1 => exact kc HR0_4 HB); (case side2 => exact HC0_4.out); rintro e w' ⟨rfl, ⟨nd, rfl⟩⟩; (try first | exact ⟨rfl, _, zq32 _ _ _⟩ | exact ⟨rfl, _, Eq.trans (zq32 _ _ _) (congrArg (World.drewN _) (Nat.add_assoc _ _ _))⟩))); try go_wp2_with (first | (go_at_call 51; (with_reducible refine (impl_SetOk.calls kj1 _ _ l0_4 false _ ?side1 ?side2 A31.out).mono ?_); (case side1 => exact kc HR0_4 HB); (case side2 => exact HC0_4.out); rintro e w' ⟨rfl, ⟨nd, rfl⟩⟩; (try first | exact ⟨rfl, _, zq32 _ _ _⟩ | exact ⟨rfl, _, Eq.trans (zq32 _ _ _) (congrArg (World.drewN _) (Nat.add_assoc _ _ _))⟩))))
         go_ret
         exact fz (by exact b1 HB GE205)
       case n12 =>
        rw [if_neg c30] at H; have c30b0 : decide (0 < (l0_4.length : Int)) = false := decide_eq_false c30
        have c30b1 : decide (0 < l0_4.length) = false := decide_eq_false (by omega)
        clear c30; obtain rfl := Option.some.inj H
        go_wp2
        repeat (go_quiet (fail); try go_wp2)
        go_ret
        exact fz (by exact b1 HB GE205)
      case' n11 =>
       rw [if_neg c29] at H
       have c29b0 : (a0_2 == 3) = false := beq_eq_false_iff_ne.mpr c29
       have c29b1 : (a0_2 != 3) = true := bne_iff_ne.mpr c29
       refine (Classical.em (a0_2 = 4)).elim (fun c40 => ?p16) (fun c40 => ?n16)
       case' p16 =>
        rw [if_pos c40] at H
        have c40b0 : (a0_2 == 4) = true := beq_iff_eq.mpr c40
        have c40b1 : (a0_2 != 4) = false := bne_eq_false_iff_eq.mpr c40
        clear c40
        refine (Classical.em ((l0_5.length : Int) > 0)).elim (fun c41 => ?p17) (fun c41 => ?n17)
        case' p17 =>
         rw [if_pos c41] at H; have c41b0 : decide (0 < (l0_5.length : Int)) = true := decide_eq_true c41
         have c41b1 : decide (0 < l0_5.length) = true := decide_eq_true (by omega)
         clear c41; replace H := Option.bind_eq_some_iff.mp H; obtain ⟨t210, A420, H⟩ := H
         try dsimp only at H
         have A42 := zq9 A420; clear A420
         go_wp2_with (first | (go_at_call 52; (with_reducible refine (impl_ScoresOk.calls kj1 _ _ l0_5 t210 _ ?side1 ?side2 A42.out).mono ?_); (case side1 => exact kc HR0_5 HB); (case side2 => exact HC0_5.out); rintro e w46 ⟨rfl, hb⟩; have n0_ := zq9 (zq30 (g := gb205) (o := .cells #[.string a0_0, .int .i64 a0_1, .int .i64 a0_2, .string a0_3, .slice A0_4 l0_4.length c0_4, .slice A0_5 l0_5.length c0_5, .slice A0_6 l0_6.length c0_6] 32 (0, 0)) (by exact bk BK205) hb); have n1_ := zq9 (zq27 (by exact b1 HB GE205) hb); clear BK205; clear HB; have BK205 := n0_; have HB := n1_; clear n0_ n1_; (try clear hb); (try clear hb2); (try clear hk); (try clear hi)))
         refine (Classical.em (t210 = true)).elim (fun c43 => ?p18) (fun c43 => ?n18)
         case' p18 =>
          subst c43
          have H1 : (if (¬ a0_3.toList = ([] : List UInt8)) then (some false) else (if ((l0_4.length : Int) > 0) then (some false) else (some (!(decide ((l0_6.length : Int) > 0)))))) = some r := by rw [if_pos rfl] at H; exact H
          clear H; have H := H1; clear H1
          refine (Classical.em ((¬ a0_3.toList = ([] : List UInt8)))).elim (fun c44 => ?p19) (fun c44 => ?n19)
          case' p19 =>
           rw [if_pos c44] at H
           have c44b0 : (a0_3.toList == ([] : List UInt8)) = false := beq_eq_false_iff_ne.mpr c44
           have c44b1 : (a0_3.toList != ([] : List UInt8)) = true := bne_iff_ne.mpr c44
           clear c44; obtain rfl := Option.some.inj H
          case' n19 =>
           rw [if_neg c44] at H
           have c44b0 : (a0_3.toList == ([] : List UInt8)) = true := beq_iff_eq.mpr (Decidable.not_not.mp c44)
           have c44b1 : (a0_3.toList != ([] : List UInt8)) = false := bne_eq_false_iff_eq.mpr (Decidable.not_not.mp c44)
           refine (Classical.em (((l0_4.length : Int) > 0))).elim (fun c47 => ?p20) (fun c47 => ?n20)
           case' p20 =>
            rw [if_pos c47] at H; have c47b0 : decide (0 < (l0_4.length : Int)) = true := decide_eq_true c47
            have c47b1 : decide (0 < l0_4.length) = true := decide_eq_true (by omega)
            clear c47; obtain rfl := Option.some.inj H
           case' n20 =>
            rw [if_neg c47] at H; have c47b0 : decide (0 < (l0_4.length : Int)) = false := decide_eq_false c47
            have c47b1 : decide (0 < l0_4.length) = false := decide_eq_false (by omega)
            clear c47; obtain rfl := Option.some.inj H
         case n18 =>
          replace c43 := Bool.eq_false_iff.mpr c43
          subst c43
          have H1 : (some false) = some r := by rw [if_neg (show ¬ (false = true) by decide)] at H; exact H
          clear H; have H := H1; clear H1; obtain rfl := Option.some.inj H
          repeat (go_quiet (first | (go_at_call 52; (with_reducible refine (impl_ScoresOk.calls kj1 _ _ l0_5 false _ ?side1 ?side2 A42.out).mono ?_); (case side1 => exact kc HR0_5 HB); (case side2 => exact HC0_5.out); rintro e w46 ⟨rfl, hb⟩; have n0_ := zq9 (zq30 (g := gb205) (o := .cells #[.string a0_0, .int .i64 a0_1, .int .i64 a0_2, .string a0_3, .slice A0_4 l0_4.length c0_4, .slice A0_5 l0_5.length c0_5, .slice A0_6 l0_6.length c0_6] 32 (0, 0)) (by exact bk BK205) hb); have n1_ := zq9 (zq27 (by exact b1 HB GE205) hb); clear BK205; clear HB; have BK205 := n0_; have HB := n1_; clear n0_ n1_; (try clear hb); (try clear hb2); (try clear hk); (try clear hi))); try go_wp2_with (first | (go_at_call 52; (with_reducible refine (impl_ScoresOk.calls kj1 _ _ l0_5 false _ ?side1 ?side2 A42.out).mono ?_); (case side1 => exact kc HR0_5 HB); (case side2 => exact HC0_5.out); rintro e w46 ⟨rfl, hb⟩; have n0_ := zq9 (zq30 (g := gb205) (o := .cells #[.string a0_0, .int .i64 a0_1, .int .i64 a0_2, .string a0_3, .slice A0_4 l0_4.length c0_4, .slice A0_5 l0_5.length c0_5, .slice A0_6 l0_6.length c0_6] 32 (0, 0)) (by exact bk BK205) hb); have n1_ := zq9 (zq27 (by exact b1 HB GE205) hb); clear BK205; clear HB; have BK205 := n0_; have HB := n1_; clear n0_ n1_; (try clear hb); (try clear hb2); (try clear hk); (try clear hi))))
          go_ret
          exact fz (by exact b1 HB GE205)
        case n17 =>
         rw [if_neg c41] at H; have c41b0 : decide (0 < (l0_5.length : Int)) = false := decide_eq_false c41
         have c41b1 : decide (0 < l0_5.length) = false := decide_eq_false (by omega)
         clear c41; obtain rfl := Option.some.inj H
         go_wp2
         repeat (go_quiet (fail); try go_wp2)
         go_ret
         exact fz (by exact b1 HB GE205)
       case' n16 =>
        rw [if_neg c40] at H
        have c40b0 : (a0_2 == 4) = false := beq_eq_false_iff_ne.mpr c40
        have c40b1 : (a0_2 != 4) = true := bne_iff_ne.mpr c40
        refine (Classical.em (a0_2 = 5)).elim (fun c55 => ?p21) (fun c55 => ?n21)
        case' p21 =>
         rw [if_pos c55] at H
         have c55b0 : (a0_2 == 5) = true := beq_iff_eq.mpr c55
         have c55b1 : (a0_2 != 5) = false := bne_eq_false_iff_eq.mpr c55
         clear c55
         refine (Classical.em ((l0_6.length : Int) > 0)).elim (fun c56 => ?p22) (fun c56 => ?n22)
         case' p22 =>
          rw [if_pos c56] at H; have c56b0 : decide (0 < (l0_6.length : Int)) = true := decide_eq_true c56
          have c56b1 : decide (0 < l0_6.length) = true := decide_eq_true (by omega)
          clear c56; replace H := Option.bind_eq_some_iff.mp H; obtain ⟨t211, A570, H⟩ := H
          try dsimp only at H
          have A57 := zq9 A570; clear A570
          go_wp2_with (first | (go_at_call 53; (with_reducible refine (impl_FieldsOk.calls kj1 _ _ l0_6 t211 _ ?side1 ?side2 A57.out).mono ?_); (case side1 => exact kc HR0_6 HB); (case side2 => exact HC0_6.out); rintro e w61 ⟨rfl, hb⟩; have n0_ := zq9 (zq30 (g := gb205) (o := .cells #[.string a0_0, .int .i64 a0_1, .int .i64 a0_2, .string a0_3, .slice A0_4 l0_4.length c0_4, .slice A0_5 l0_5.length c0_5, .slice A0_6 l0_6.length c0_6] 32 (0, 0)) (by exact bk BK205) hb); have n1_ := zq9 (zq27 (by exact b1 HB GE205) hb); clear BK205; clear HB; have BK205 := n0_; have HB := n1_; clear n0_ n1_; (try clear hb); (try clear hb2); (try clear hk); (try clear hi)))
          refine (Classical.em (t211 = true)).elim (fun c58 => ?p23) (fun c58 => ?n23)
          case' p23 =>
           subst c58
           have H1 : (if (¬ a0_3.toList = ([] : List UInt8)) then (some false) else (if ((l0_4.length : Int) > 0) then (some false) else (some (!(decide ((l0_5.length : Int) > 0)))))) = some r := by rw [if_pos rfl] at H; exact H
           clear H; have H := H1; clear H1
           refine (Classical.em ((¬ a0_3.toList = ([] : List UInt8)))).elim (fun c59 => ?p24) (fun c59 => ?n24)
           case' p24 =>
            rw [if_pos c59] at H
            have c59b0 : (a0_3.toList == ([] : List UInt8)) = false := beq_eq_false_iff_ne.mpr c59
            have c59b1 : (a0_3.toList != ([] : List UInt8)) = true := bne_iff_ne.mpr c59
            clear c59; obtain rfl := Option.some.inj H
           case' n24 =>
            rw [if_neg c59] at H
            have c59b0 : (a0_3.toList == ([] : List UInt8)) = true := beq_iff_eq.mpr (Decidable.not_not.mp c59)
            have c59b1 : (a0_3.toList != ([] : List UInt8)) = false := bne_eq_false_iff_eq.mpr (Decidable.not_not.mp c59)
            refine (Classical.em (((l0_4.length : Int) > 0))).elim (fun c62 => ?p25) (fun c62 => ?n25)
            case' p25 =>
             rw [if_pos c62] at H; have c62b0 : decide (0 < (l0_4.length : Int)) = true := decide_eq_true c62
             have c62b1 : decide (0 < l0_4.length) = true := decide_eq_true (by omega)
             clear c62; obtain rfl := Option.some.inj H
            case' n25 =>
             rw [if_neg c62] at H; have c62b0 : decide (0 < (l0_4.length : Int)) = false := decide_eq_false c62
             have c62b1 : decide (0 < l0_4.length) = false := decide_eq_false (by omega)
             clear c62; obtain rfl := Option.some.inj H
          case n23 =>
           replace c58 := Bool.eq_false_iff.mpr c58
           subst c58
           have H1 : (some false) = some r := by rw [if_neg (show ¬ (false = true) by decide)] at H; exact H
           clear H; have H := H1; clear H1; obtain rfl := Option.some.inj H
           repeat (go_quiet (first | (go_at_call 53; (with_reducible refine (impl_FieldsOk.calls kj1 _ _ l0_6 false _ ?side1 ?side2 A57.out).mono ?_); (case side1 => exact kc HR0_6 HB); (case side2 => exact HC0_6.out); rintro e w61 ⟨rfl, hb⟩; have n0_ := zq9 (zq30 (g := gb205) (o := .cells #[.string a0_0, .int .i64 a0_1, .int .i64 a0_2, .string a0_3, .slice A0_4 l0_4.length c0_4, .slice A0_5 l0_5.length c0_5, .slice A0_6 l0_6.length c0_6] 32 (0, 0)) (by exact bk BK205) hb); have n1_ := zq9 (zq27 (by exact b1 HB GE205) hb); clear BK205; clear HB; have BK205 := n0_; have HB := n1_; clear n0_ n1_; (try clear hb); (try clear hb2); (try clear hk); (try clear hi))); try go_wp2_with (first | (go_at_call 53; (with_reducible refine (impl_FieldsOk.calls kj1 _ _ l0_6 false _ ?side1 ?side2 A57.out).mono ?_); (case side1 => exact kc HR0_6 HB); (case side2 => exact HC0_6.out); rintro e w61 ⟨rfl, hb⟩; have n0_ := zq9 (zq30 (g := gb205) (o := .cells #[.string a0_0, .int .i64 a0_1, .int .i64 a0_2, .string a0_3, .slice A0_4 l0_4.length c0_4, .slice A0_5 l0_5.length c0_5, .slice A0_6 l0_6.length c0_6] 32 (0, 0)) (by exact bk BK205) hb); have n1_ := zq9 (zq27 (by exact b1 HB GE205) hb); clear BK205; clear HB; have BK205 := n0_; have HB := n1_; clear n0_ n1_; (try clear hb); (try clear hb2); (try clear hk); (try clear hi))))
           go_ret
           exact fz (by exact b1 HB GE205)
         case n22 =>
          rw [if_neg c56] at H; have c56b0 : decide (0 < (l0_6.length : Int)) = false := decide_eq_false c56
          have c56b1 : decide (0 < l0_6.length) = false := decide_eq_false (by omega)
          clear c56; obtain rfl := Option.some.inj H
          go_wp2
          repeat (go_quiet (fail); try go_wp2)
          go_ret
          exact fz (by exact b1 HB GE205)
        case n21 =>
         rw [if_neg c55] at H
         have c55b0 : (a0_2 == 5) = false := beq_eq_false_iff_ne.mpr c55
         have c55b1 : (a0_2 != 5) = true := bne_iff_ne.mpr c55
         obtain rfl := Option.some.inj H
         go_wp2
         repeat (go_quiet (fail); try go_wp2)
         go_ret
         exact fz (by exact b1 HB GE205)
   case p9 | p10 | n10 =>
    repeat (go_quiet (first | (go_at_call 50; (with_reducible refine (impl_listOk.calls kj1 _ _ l0_4 true _ ?side1 ?side2 A20.out).mono ?_); (case side1 => exact kc HR0_4 HB); (case side2 => exact HC0_4.out); rintro e w' ⟨rfl, ⟨nd, rfl⟩⟩; (try first | exact ⟨rfl, _, zq32 _ _ _⟩ | exact ⟨rfl, _, Eq.trans (zq32 _ _ _) (congrArg (World.drewN _) (Nat.add_assoc _ _ _))⟩))); try go_wp2_with (first | (go_at_call 50; (with_reducible refine (impl_listOk.calls kj1 _ _ l0_4 true _ ?side1 ?side2 A20.out).mono ?_); (case side1 => exact kc HR0_4 HB); (case side2 => exact HC0_4.out); rintro e w' ⟨rfl, ⟨nd, rfl⟩⟩; (try first | exact ⟨rfl, _, zq32 _ _ _⟩ | exact ⟨rfl, _, Eq.trans (zq32 _ _ _) (congrArg (World.drewN _) (Nat.add_assoc _ _ _))⟩))))
    go_ret
    exact fz (by exact b1 HB GE205)
   case p14 | p15 | n15 =>
    repeat (go_quiet (first | (go_at_call 51; (with_reducible refine (impl_SetOk.calls kj1 _ _ l0_4 true _ ?side1 ?side2 A31.out).mono ?_); (case side1 => exact kc HR0_4 HB); (case side2 => exact HC0_4.out); rintro e w' ⟨rfl, ⟨nd, rfl⟩⟩; (try first | exact ⟨rfl, _, zq32 _ _ _⟩ | exact ⟨rfl, _, Eq.trans (zq32 _ _ _) (congrArg (World.drewN _) (Nat.add_assoc _ _ _))⟩))); try go_wp2_with (first | (go_at_call 51; (with_reducible refine (impl_SetOk.calls kj1 _ _ l0_4 true _ ?side1 ?side2 A31.out).mono ?_); (case side1 => exact kc HR0_4 HB); (case side2 => exact HC0_4.out); rintro e w' ⟨rfl, ⟨nd, rfl⟩⟩; (try first | exact ⟨rfl, _, zq32 _ _ _⟩ | exact ⟨rfl, _, Eq.trans (zq32 _ _ _) (congrArg (World.drewN _) (Nat.add_assoc _ _ _))⟩))))
    go_ret
    exact fz (by exact b1 HB GE205)
   case p19 | p20 | n20 =>
    repeat (go_quiet (first | (go_at_call 52; (with_reducible refine (impl_ScoresOk.calls kj1 _ _ l0_5 true _ ?side1 ?side2 A42.out).mono ?_); (case side1 => exact kc HR0_5 HB); (case side2 => exact HC0_5.out); rintro e w46 ⟨rfl, hb⟩; have n0_ := zq9 (zq30 (g := gb205) (o := .cells #[.string a0_0, .int .i64 a0_1, .int .i64 a0_2, .string a0_3, .slice A0_4 l0_4.length c0_4, .slice A0_5 l0_5.length c0_5, .slice A0_6 l0_6.length c0_6] 32 (0, 0)) (by exact bk BK205) hb); have n1_ := zq9 (zq27 (by exact b1 HB GE205) hb); clear BK205; clear HB; have BK205 := n0_; have HB := n1_; clear n0_ n1_; (try clear hb); (try clear hb2); (try clear hk); (try clear hi))); try go_wp2_with (first | (go_at_call 52; (with_reducible refine (impl_ScoresOk.calls kj1 _ _ l0_5 true _ ?side1 ?side2 A42.out).mono ?_); (case side1 => exact kc HR0_5 HB); (case side2 => exact HC0_5.out); rintro e w46 ⟨rfl, hb⟩; have n0_ := zq9 (zq30 (g := gb205) (o := .cells #[.string a0_0, .int .i64 a0_1, .int .i64 a0_2, .string a0_3, .slice A0_4 l0_4.length c0_4, .slice A0_5 l0_5.length c0_5, .slice A0_6 l0_6.length c0_6] 32 (0, 0)) (by exact bk BK205) hb); have n1_ := zq9 (zq27 (by exact b1 HB GE205) hb); clear BK205; clear HB; have BK205 := n0_; have HB := n1_; clear n0_ n1_; (try clear hb); (try clear hb2); (try clear hk); (try clear hi))))
    go_ret
    exact fz (by exact b1 HB GE205)
   case p24 | p25 | n25 =>
    repeat (go_quiet (first | (go_at_call 53; (with_reducible refine (impl_FieldsOk.calls kj1 _ _ l0_6 true _ ?side1 ?side2 A57.out).mono ?_); (case side1 => exact kc HR0_6 HB); (case side2 => exact HC0_6.out); rintro e w61 ⟨rfl, hb⟩; have n0_ := zq9 (zq30 (g := gb205) (o := .cells #[.string a0_0, .int .i64 a0_1, .int .i64 a0_2, .string a0_3, .slice A0_4 l0_4.length c0_4, .slice A0_5 l0_5.length c0_5, .slice A0_6 l0_6.length c0_6] 32 (0, 0)) (by exact bk BK205) hb); have n1_ := zq9 (zq27 (by exact b1 HB GE205) hb); clear BK205; clear HB; have BK205 := n0_; have HB := n1_; clear n0_ n1_; (try clear hb); (try clear hb2); (try clear hk); (try clear hi))); try go_wp2_with (first | (go_at_call 53; (with_reducible refine (impl_FieldsOk.calls kj1 _ _ l0_6 true _ ?side1 ?side2 A57.out).mono ?_); (case side1 => exact kc HR0_6 HB); (case side2 => exact HC0_6.out); rintro e w61 ⟨rfl, hb⟩; have n0_ := zq9 (zq30 (g := gb205) (o := .cells #[.string a0_0, .int .i64 a0_1, .int .i64 a0_2, .string a0_3, .slice A0_4 l0_4.length c0_4, .slice A0_5 l0_5.length c0_5, .slice A0_6 l0_6.length c0_6] 32 (0, 0)) (by exact bk BK205) hb); have n1_ := zq9 (zq27 (by exact b1 HB GE205) hb); clear BK205; clear HB; have BK205 := n0_; have HB := n1_; clear n0_ n1_; (try clear hb); (try clear hb2); (try clear hk); (try clear hi))))
    go_ret
    exact fz (by exact b1 HB GE205)
def impl_BaseOk.T6 : Bool × List (List Nat × List Nat) := (true, [([], []), ([0], [0]), ([1], [1]), ([2, 1], [2]), ([3], [3]), ([4, 3], [3, 4]), ([5, 3, 3], [3, 5]), ([6], [6]), ([7, 6], [6, 7]), ([6], [6]), ([9, 6], [6, 9]), ([8, 10, 6], [6, 8, 10]), ([11, 6], [6, 11]), ([12, 6], [6, 12]), ([6], [6]), ([14, 6], [6, 14]), ([13, 15, 6], [6, 13, 15]), ([6, 16, 3], [3, 6, 16]), ([3, 17], [3, 17]), ([18, 6], [18]), ([19], [19]), ([20, 19], [19, 20]), ([21, 19], [19, 21]), ([22, 19, 19], [19, 22]), ([23], [23]), ([24, 23], [23, 24]), ([23], [23]), ([26, 23], [23, 26]), ([25, 27, 23], [23, 25, 27]), ([23, 28, 19], [19, 23, 28]), ([19, 29], [19, 29])])
def impl_BaseOk.B6 : List Nat := [0, 1, 3, 7, 15, 31, 63, 127, 255, 127, 639, 2047, 4095, 8191, 127, 16511, 65535, 131071, 262143, 524287, 1048575, 2097151, 4194303, 8388607, 16777215, 33554431, 16777215, 83886079, 268435455, 536870911, 1073741823]
theorem impl_BaseOk.tab6 : rtab .any (opsOf Try.f19 6) = impl_BaseOk.T6 := by kernel_rfl
theorem impl_BaseOk.bits6 : waitsOk impl_BaseOk.T6.2 impl_BaseOk.B6 = true := by kernel_rfl
set_option maxHeartbeats 8000000 in
set_option maxRecDepth 100000 in
theorem impl_BaseOk.calls (k : Nat) (a0_0 : Int) (A0_1 : Option Addr) (c0_1 : Nat) (l0_1 : List (S32)) (r : Bool) (w : World) (hr0_1 : Kd.C k32 w A0_1 l0_1.length l0_1) (hc0_1 : l0_1.length ≤ c0_1) (h : impl_BaseOk.f k a0_0 l0_1 = some r) :
  Calls Try.prog 19 #[.agg #[.int .i64 a0_0, .slice A0_1 l0_1.length c0_1]] w fun e w' => e = .returned (.bool r) ∧ Below w.heap.size w w' := by
 have hu46 := Try.underlying46; have hu32 := Try.underlying32; have HR0_1 := zq9 hr0_1; have HC0_1 := zq9 hc0_1; clear hr0_1 hc0_1
 have HB := zq9 (Below.refl w.heap.size w)
 have H : ((impl_within.f a0_0 0 1000000).bind fun t677 => (if t677 = true then (impl_BaseOk.j0 k (decide ((l0_1.length : Int) > 12)) a0_0 l0_1) else (impl_BaseOk.j0 k true a0_0 l0_1))) = some r := h
 clear h; have HC2 := zq9 H; clear H
 go_enter Try.func19, Try.ntmps19
 go_upto_region 1 with (first | ((with_reducible refine zq25 (N := 1) rfl ?_); (try (refine gate_guard (by rfl) ?_; dsimp only)); refine bx 1 #[.int .i64 a0_0, .slice A0_1 l0_1.length c0_1] 46 ?_; intro gb676 hg w3 hbox hb; have n0_ := zq9 (zq27 (by exact bl HB) hb); have n1_ := zq9 (hbox); have n2_ := zq9 ((by rw [hg]; exact (zq29 (by exact bl HB)) : w.heap.size ≤ gb676)); have n3_ := n2_; clear HB; have HB := n0_; have BK676 := n1_; have GW676 := n2_; have GE676 := n3_; clear n0_ n1_ n2_ n3_; clear hb hbox hg))
 (try simp only [Act.put, zq0, zq1, zq2])
 go_cut [14] (fun v14 wc => ∃ (kq : Nat) (x14_1 : Bool), v14 = .bool x14_1 ∧ Aside0 (impl_BaseOk.j0 kq x14_1 a0_0 l0_1 = some r) ∧ Aside0 (kq ≤ k) ∧ Aside0 (wc.heap[gb676]? = some (.cells #[.int .i64 a0_0, (.slice A0_1 l0_1.length c0_1)] 46 (0, 0))) ∧ Aside0 (Below w.heap.size w wc))
 case first =>
  have H := HC2.out; clear HC2; replace H := Option.bind_eq_some_iff.mp H; obtain ⟨t677, A40, H⟩ := H
  try dsimp only at H
  have A4 := zq9 A40; clear A40
  have hcz6_0 : w3.cell? ⟨gb676, 0, none⟩ = some (.int .i64 a0_0) := bc BK676 0
  have hcz6_1 : w3.cell? ⟨gb676, 1, none⟩ = some (.slice A0_1 l0_1.length c0_1) := bc BK676 1
  have hfz6_0 := zq6 BK676.out 0
  have hfz6_1 := zq6 BK676.out 1
  by_cases c5 : t677 = true
  ·subst c5
   have H1 : (impl_BaseOk.j0 k (decide ((l0_1.length : Int) > 12)) a0_0 l0_1) = some r := by rw [if_pos rfl] at H; exact H
   clear H; have H := H1; clear H1; have H' := zq9 H; clear H
   go_wp2_with (first | ((with_reducible refine zq24 (f := 49) rfl ?_); refine gl (some 7) Try.func49 #[.int .i64 a0_0, .int .i64 0, .int .i64 1000000] ?_; (with_reducible refine (impl_within.calls a0_0 0 1000000 true _ A4.out).mono ?_); rintro e w' ⟨rfl, ⟨nd, rfl⟩⟩; refine ⟨_, rfl, ?_⟩))
   go_meet
   case rel => exact ⟨_, (decide ((l0_1.length : Int) > 12)), (by first | rfl | (simp; done) | (simp [*]; done)), H', ⟨by first | omega | exact Nat.le_refl _⟩, ⟨by refine bp ?_; exact BK676.out⟩, ⟨by exact b1 HB GE676⟩⟩
  ·replace c5 := Bool.eq_false_iff.mpr c5
   subst c5
   have H1 : (impl_BaseOk.j0 k true a0_0 l0_1) = some r := by rw [if_neg (show ¬ (false = true) by decide)] at H; exact H
   clear H; have H := H1; clear H1; have H' := zq9 H; clear H
   go_wp2_with (first | ((with_reducible refine zq24 (f := 49) rfl ?_); refine gl (some 7) Try.func49 #[.int .i64 a0_0, .int .i64 0, .int .i64 1000000] ?_; (with_reducible refine (impl_within.calls a0_0 0 1000000 false _ A4.out).mono ?_); rintro e w' ⟨rfl, ⟨nd, rfl⟩⟩; refine ⟨_, rfl, ?_⟩))
   go_meet
   case rel => exact ⟨_, (true), (by first | rfl | (simp; done) | (simp [*]; done)), H', ⟨by first | omega | exact Nat.le_refl _⟩, ⟨by refine bp ?_; exact BK676.out⟩, ⟨by exact b1 HB GE676⟩⟩
 case rest =>
  clear HC2
  try clear c1
  try clear p2
  try clear c4
  try clear c5
  try clear hcz6_0
  try clear hcz6_1
  try clear hcz7_0
  try clear hcz7_1
  try clear hfz6_0
  try clear hfz6_1
  try clear hfz7_0
  try clear hfz7_1
  obtain ⟨kq, x14_1, rfl, HA, HJ1, BK676, HB⟩ := hcut
  cases kq with
  | zero => exact absurd HA.out (by simp [impl_BaseOk.j0])
  | succ kj1 =>
   have H := HA.out; clear HA
   simp only [impl_BaseOk.j0] at H
   by_cases c8 : x14_1 = true
   ·subst c8
    have H1 : (some false) = some r := by rw [if_pos rfl] at H; exact H
    clear H; have H := H1; clear H1; obtain rfl := Option.some.inj H
    go_wp2
    go_ret
    exact fz (by exact b1 HB GE676)
   ·replace c8 := Bool.eq_false_iff.mpr c8
    subst c8
    have H1 : (impl_BaseOk.l0 kj1 l0_1 (l0_1.length : Int) 0 a0_0 l0_1) = some r := by rw [if_neg (show ¬ (false = true) by decide)] at H; exact H
    clear H; have H := H1; clear H1; have H' := zq9 H; clear H
    have hcz9_0 : wc.cell? ⟨gb676, 0, none⟩ = some (.int .i64 a0_0) := bc BK676 0
    have hcz9_1 : wc.cell? ⟨gb676, 1, none⟩ = some (.slice A0_1 l0_1.length c0_1) := bc BK676 1
    have hfz9_0 := zq6 BK676.out 0
    have hfz9_1 := zq6 BK676.out 1
    go_wp2
    go_loopg [18] kj1 (fun kq v18 w' => ∃ (x18_2 : Int), v18 = .int .i64 x18_2 ∧ Aside0 (impl_BaseOk.l0 kq l0_1 (l0_1.length : Int) x18_2 a0_0 l0_1 = some r) ∧ Aside0 (kq ≤ kj1) ∧ Aside0 (w'.heap[gb676]? = some (.cells #[.int .i64 a0_0, (.slice A0_1 l0_1.length c0_1)] 46 (0, 0))) ∧ Aside0 (Below w.heap.size w w'))
    case atStart => exact ⟨(0), (by first | rfl | (simp; done) | (simp [*]; done)), H', ⟨Nat.le_refl _⟩, ⟨by refine bp ?_; exact BK676.out⟩, ⟨by exact b1 HB GE676⟩⟩
    case round =>
     clear H'
     try clear c1
     try clear p2
     try clear c4
     try clear c5
     try clear c8
     try clear hcz6_0
     try clear hcz6_1
     try clear hcz7_0
     try clear hcz7_1
     try clear hcz9_0
     try clear hcz9_1
     try clear hfz6_0
     try clear hfz6_1
     try clear hfz7_0
     try clear hfz7_1
     try clear hfz9_0
     try clear hfz9_1
     try clear p2
     obtain ⟨x18_2, rfl, HA, HK2, BK676, HB⟩ := hrel
     cases gk with
     | zero => exact absurd HA.out (by simp [impl_BaseOk.l0])
     | succ k2 =>
      have H := HA.out; clear HA
      simp only [impl_BaseOk.l0] at H
      by_cases c10 : x18_2 < (l0_1.length : Int)
      ·rw [if_pos c10] at H; have c10b0 : decide (x18_2 < (l0_1.length : Int)) = true := decide_eq_true c10; clear c10
       by_cases c11 : 0 ≤ x18_2
       ·rw [if_pos c11] at H; have c11b0 : decide (0 ≤ x18_2) = true := decide_eq_true c11; clear c11
        by_cases c12 : x18_2 < (l0_1.length : Int)
        ·rw [if_pos c12] at H; have c12b0 : decide (x18_2 < (l0_1.length : Int)) = true := decide_eq_true c12; clear c12; have HC13 := zq9 H; clear H
         have p678 : 0 ≤ (x18_2 : Int) := of_decide_eq_true ‹_›
         have q678 : x18_2 < (l0_1.length : Int) := of_decide_eq_true ‹_›
         obtain ⟨ad678, A678_4, c678_4, A678_5, c678_5, A678_6, c678_6, e678, hx678_0, hx678_1, hx678_2, hx678_3, hx678_4, hx678_5, hx678_6, hl678_4, hi678_4, hl678_5, hi678_5, hl678_6, hi678_6⟩ := at_T32 HR0_1.out x18_2 p678 q678
         cases e678; replace hx678_0 := hcl HB hx678_0; replace hx678_1 := hcl HB hx678_1; replace hx678_2 := hcl HB hx678_2; replace hx678_3 := hcl HB hx678_3; replace hx678_4 := hcl HB hx678_4; replace hx678_5 := hcl HB hx678_5; replace hx678_6 := hcl HB hx678_6; have HR678_4 := zq9 hi678_4; have HC678_4 := zq9 hl678_4; clear hi678_4 hl678_4; have HR678_5 := zq9 hi678_5; have HC678_5 := zq9 hl678_5
         clear hi678_5 hl678_5; have HR678_6 := zq9 hi678_6; have HC678_6 := zq9 hl678_6; clear hi678_6 hl678_6; replace p678 := eq_true p678; replace q678 := eq_true q678
         go_upto_region 6 with (first | ((with_reducible refine zq25 (N := 4) rfl ?_); (try (refine gate_guard (by rfl) ?_; dsimp only)); refine bx 4 #[.string (⟨#[]⟩ : ByteArray), .int .i64 0, .int .i64 0, .string (⟨#[]⟩ : ByteArray), .slice none 0 0, .slice none 0 0, .slice none 0 0] 32 ?_; intro gb679 hg w14 hbox hb; have n0_ := zq9 (zq30 (g := gb676) (o := .cells #[.int .i64 a0_0, .slice (some ad678) l0_1.length c0_1] 46 (0, 0)) (by exact bk BK676) hb); have n1_ := zq9 (zq27 (by exact b1 HB GE676) hb); have n2_ := zq9 (hbox); have n3_ := zq9 ((by rw [hg]; exact (zq29 (by exact b1 HB GE676)) : w.heap.size ≤ gb679)); have n4_ := n3_; have n5_ := zq9 ((by rw [hg]; exact Nat.ne_of_lt (blk_lt (g := gb676) (o := .cells #[.int .i64 a0_0, .slice (some ad678) l0_1.length c0_1] 46 (0, 0)) (by exact bk BK676)) : gb676 ≠ gb679)); have n6_ := zq9 ((by rw [hg]; exact Nat.ne_of_gt (blk_lt (g := gb676) (o := .cells #[.int .i64 a0_0, .slice (some ad678) l0_1.length c0_1] 46 (0, 0)) (by exact bk BK676)) : gb679 ≠ gb676)); clear BK676; clear HB; have BK676 := n0_; have HB := n1_; have BK679 := n2_; have GW679 := n3_; have GE679 := n4_; have NB676_679 := n5_; have NB679_676 := n6_; clear n0_ n1_ n2_ n3_ n4_ n5_ n6_; clear hb hbox hg; have hnb15 := NB679_676.out; have hnc15 := NB676_679.out; have hcz16_0 : w14.cell? ⟨gb679, 0, none⟩ = some (.string (⟨#[]⟩ : ByteArray)) := bc BK679 0; have hcz16_1 : w14.cell? ⟨gb679, 1, none⟩ = some (.int .i64 0) := bc BK679 1; have hcz16_2 : w14.cell? ⟨gb679, 2, none⟩ = some (.int .i64 0) := bc BK679 2; have hcz16_3 : w14.cell? ⟨gb679, 3, none⟩ = some (.string (⟨#[]⟩ : ByteArray)) := bc BK679 3; have hcz16_4 : w14.cell? ⟨gb679, 4, none⟩ = some (.slice none 0 0) := bc BK679 4; have hcz16_5 : w14.cell? ⟨gb679, 5, none⟩ = some (.slice none 0 0) := bc BK679 5; have hcz16_6 : w14.cell? ⟨gb679, 6, none⟩ = some (.slice none 0 0) := bc BK679 6; have hfz16_0 := zq6 BK679.out 0; have hfz16_1 := zq6 BK679.out 1; have hfz16_2 := zq6 BK679.out 2; have hfz16_3 := zq6 BK679.out 3; have hfz16_4 := zq6 BK679.out 4; have hfz16_5 := zq6 BK679.out 5; have hfz16_6 := zq6 BK679.out 6))
         (try simp only [Act.put, zq0, zq1, zq2])
         go_cut [53] (fun v53 wc => ∃ (kq : Nat) (x53_12 : Bool), v53 = .bool x53_12 ∧ Aside0 (impl_BaseOk.j2 kq l0_1 (l0_1.length : Int) x18_2 x53_12 a0_0 l0_1 = some r) ∧ Aside0 (kq ≤ k2) ∧ Aside0 (wc.heap[gb676]? = some (.cells #[.int .i64 a0_0, (.slice (some ad678) l0_1.length c0_1)] 46 (0, 0))) ∧ Aside0 (wc.heap[gb679]? = some (.cells #[.string ((rd_T32 l0_1 x18_2).f0), .int .i64 ((rd_T32 l0_1 x18_2).f1), .int .i64 ((rd_T32 l0_1 x18_2).f2), .string ((rd_T32 l0_1 x18_2).f3), (.slice A678_4 ((rd_T32 l0_1 x18_2).f4).length c678_4), (.slice A678_5 ((rd_T32 l0_1 x18_2).f5).length c678_5), (.slice A678_6 ((rd_T32 l0_1 x18_2).f6).length c678_6)] 32 (0, 0))) ∧ Aside0 (Below w.heap.size w wc))
         case first =>
          have H := HC13.out; clear HC13; replace H := Option.bind_eq_some_iff.mp H; obtain ⟨t680, A170, H⟩ := H
          try dsimp only at H
          have A17 := zq9 A170; clear A170
          by_cases c18 : t680 = true
          ·subst c18
           have H1 : (if x18_2 > 0 then (if 0 ≤ (wrap64 (x18_2 - 1)) then (if (wrap64 (x18_2 - 1)) < (l0_1.length : Int) then (if ((Op.bytesLess (((rd_T32 l0_1 (wrap64 (x18_2 - 1))).f0).toList) (((rd_T32 l0_1 x18_2).f0).toList)) = true) then (if ((rd_T32 l0_1 x18_2).f1) = 0 then (impl_BaseOk.j2 k2 l0_1 (l0_1.length : Int) x18_2 false a0_0 l0_1) else (impl_BaseOk.j2 k2 l0_1 (l0_1.length : Int) x18_2 (decide (((rd_T32 l0_1 x18_2).f1) ≤ a0_0)) a0_0 l0_1)) else (impl_BaseOk.j2 k2 l0_1 (l0_1.length : Int) x18_2 true a0_0 l0_1)) else (none)) else (none)) else (if ((rd_T32 l0_1 x18_2).f1) = 0 then (impl_BaseOk.j2 k2 l0_1 (l0_1.length : Int) x18_2 false a0_0 l0_1) else (impl_BaseOk.j2 k2 l0_1 (l0_1.length : Int) x18_2 (decide (((rd_T32 l0_1 x18_2).f1) ≤ a0_0)) a0_0 l0_1))) = some r := by rw [if_pos rfl] at H; exact H
           clear H; have H := H1; clear H1
           by_cases c19 : x18_2 > 0
           ·rw [if_pos c19] at H; have c19b0 : decide (0 < x18_2) = true := decide_eq_true c19; clear c19
            (first | rw [c19b0] | (simp only [i64_w, i32_w]; rw [c19b0]) | skip)
            obtain ⟨ji20, hji20⟩ : ∃ j_ : Int, (wrap64 (x18_2 - 1)) = j_ := ⟨_, rfl⟩
            replace H : (if 0 ≤ (ji20) then (if (ji20) < (l0_1.length : Int) then (if ((Op.bytesLess (((rd_T32 l0_1 (ji20)).f0).toList) (((rd_T32 l0_1 x18_2).f0).toList)) = true) then (if ((rd_T32 l0_1 x18_2).f1) = 0 then (impl_BaseOk.j2 k2 l0_1 (l0_1.length : Int) x18_2 false a0_0 l0_1) else (impl_BaseOk.j2 k2 l0_1 (l0_1.length : Int) x18_2 (decide (((rd_T32 l0_1 x18_2).f1) ≤ a0_0)) a0_0 l0_1)) else (impl_BaseOk.j2 k2 l0_1 (l0_1.length : Int) x18_2 true a0_0 l0_1)) else (none)) else (none)) = some r := by first | (rw [hji20] at H; exact H) | (simp only [hji20] at H ⊢; exact H)
            (try rw [hji20] at A17)
            have hji20w : (IntKind.i64.wrap (x18_2 - 1)) = ji20 := (i64_w _).trans hji20
            by_cases c21 : 0 ≤ (ji20)
            ·rw [if_pos c21] at H; have c21b0 : decide (0 ≤ (ji20)) = true := decide_eq_true c21; clear c21
             by_cases c22 : (ji20) < (l0_1.length : Int)
             ·rw [if_pos c22] at H; have c22b0 : decide ((ji20) < (l0_1.length : Int)) = true := decide_eq_true c22; clear c22
              try go_wp2
              have n0_ : Aside0 ((((((((w14.setCell ⟨gb679, 0, none⟩ (.string ((rd_T32 l0_1 x18_2).f0))).setCell ⟨gb679, 1, none⟩ (.int .i64 ((rd_T32 l0_1 x18_2).f1))).setCell ⟨gb679, 2, none⟩ (.int .i64 ((rd_T32 l0_1 x18_2).f2))).setCell ⟨gb679, 3, none⟩ (.string ((rd_T32 l0_1 x18_2).f3))).setCell ⟨gb679, 4, none⟩ (.slice A678_4 ((rd_T32 l0_1 x18_2).f4).length c678_4)).setCell ⟨gb679, 5, none⟩ (.slice A678_5 ((rd_T32 l0_1 x18_2).f5).length c678_5)).setCell ⟨gb679, 6, none⟩ (.slice A678_6 ((rd_T32 l0_1 x18_2).f6).length c678_6)).heap[gb676]? = some (.cells #[.int .i64 a0_0, .slice (some ad678) l0_1.length c0_1] 46 (0, 0))) := ⟨by refine bp ?_; refine blk_far ?_ NB676_679.out _; refine bp ?_; refine blk_far ?_ NB676_679.out _; refine bp ?_; refine blk_far ?_ NB676_679.out _; refine bp ?_; refine blk_far ?_ NB676_679.out _; refine bp ?_; refine blk_far ?_ NB676_679.out _; refine bp ?_; refine blk_far ?_ NB676_679.out _; refine bp ?_; refine blk_far ?_ NB676_679.out _; refine bp ?_; exact BK676.out⟩
              have n1_ : Aside0 ((((((((w14.setCell ⟨gb679, 0, none⟩ (.string ((rd_T32 l0_1 x18_2).f0))).setCell ⟨gb679, 1, none⟩ (.int .i64 ((rd_T32 l0_1 x18_2).f1))).setCell ⟨gb679, 2, none⟩ (.int .i64 ((rd_T32 l0_1 x18_2).f2))).setCell ⟨gb679, 3, none⟩ (.string ((rd_T32 l0_1 x18_2).f3))).setCell ⟨gb679, 4, none⟩ (.slice A678_4 ((rd_T32 l0_1 x18_2).f4).length c678_4)).setCell ⟨gb679, 5, none⟩ (.slice A678_5 ((rd_T32 l0_1 x18_2).f5).length c678_5)).setCell ⟨gb679, 6, none⟩ (.slice A678_6 ((rd_T32 l0_1 x18_2).f6).length c678_6)).heap[gb679]? = some (.cells #[.string ((rd_T32 l0_1 x18_2).f0), .int .i64 ((rd_T32 l0_1 x18_2).f1), .int .i64 ((rd_T32 l0_1 x18_2).f2), .string ((rd_T32 l0_1 x18_2).f3), .slice A678_4 ((rd_T32 l0_1 x18_2).f4).length c678_4, .slice A678_5 ((rd_T32 l0_1 x18_2).f5).length c678_5, .slice A678_6 ((rd_T32 l0_1 x18_2).f6).length c678_6] 32 (0, 0))) := ⟨(blk_set (blk_set (blk_set (blk_set (blk_set (blk_set (blk_set BK679.out 0 _) 1 _) 2 _) 3 _) 4 _) 5 _) 6 _)⟩
              have n2_ : Aside0 (Below w.heap.size w (((((((w14.setCell ⟨gb679, 0, none⟩ (.string ((rd_T32 l0_1 x18_2).f0))).setCell ⟨gb679, 1, none⟩ (.int .i64 ((rd_T32 l0_1 x18_2).f1))).setCell ⟨gb679, 2, none⟩ (.int .i64 ((rd_T32 l0_1 x18_2).f2))).setCell ⟨gb679, 3, none⟩ (.string ((rd_T32 l0_1 x18_2).f3))).setCell ⟨gb679, 4, none⟩ (.slice A678_4 ((rd_T32 l0_1 x18_2).f4).length c678_4)).setCell ⟨gb679, 5, none⟩ (.slice A678_5 ((rd_T32 l0_1 x18_2).f5).length c678_5)).setCell ⟨gb679, 6, none⟩ (.slice A678_6 ((rd_T32 l0_1 x18_2).f6).length c678_6))) := ⟨by exact b2 HB GE676 GE679⟩
              (try clear BK676)
              (try clear BK679)
              (try clear HB)
              generalize (((((((w14.setCell ⟨gb679, 0, none⟩ (.string ((rd_T32 l0_1 x18_2).f0))).setCell ⟨gb679, 1, none⟩ (.int .i64 ((rd_T32 l0_1 x18_2).f1))).setCell ⟨gb679, 2, none⟩ (.int .i64 ((rd_T32 l0_1 x18_2).f2))).setCell ⟨gb679, 3, none⟩ (.string ((rd_T32 l0_1 x18_2).f3))).setCell ⟨gb679, 4, none⟩ (.slice A678_4 ((rd_T32 l0_1 x18_2).f4).length c678_4)).setCell ⟨gb679, 5, none⟩ (.slice A678_5 ((rd_T32 l0_1 x18_2).f5).length c678_5)).setCell ⟨gb679, 6, none⟩ (.slice A678_6 ((rd_T32 l0_1 x18_2).f6).length c678_6)) = w25 at n0_ n1_ n2_ ⊢
              have BK676 := n0_; have BK679 := n1_; have HB := n2_; clear n0_ n1_ n2_
              have n0_ := zq9 (blk_drew BK676.out)
              have n1_ := zq9 (blk_drew BK679.out)
              have n2_ := zq9 (zq4 HB.out)
              clear BK676; clear BK679; clear HB; have BK676 := n0_; have BK679 := n1_; have HB := n2_; clear n0_ n1_ n2_
              have p681 : 0 ≤ ((ji20) : Int) := of_decide_eq_true ‹_›
              have q681 : (ji20) < (l0_1.length : Int) := of_decide_eq_true ‹_›
              obtain ⟨ad681, A681_4, c681_4, A681_5, c681_5, A681_6, c681_6, e681, hx681_0, hx681_1, hx681_2, hx681_3, hx681_4, hx681_5, hx681_6, hl681_4, hi681_4, hl681_5, hi681_5, hl681_6, hi681_6⟩ := at_T32 HR0_1.out (ji20) p681 q681
              have hw681_6 := hx681_6; have hw681_5 := hx681_5; have hw681_4 := hx681_4; have hw681_3 := hx681_3; have hw681_2 := hx681_2; have hw681_1 := hx681_1; have hw681_0 := hx681_0
              obtain rfl : ad678 = ad681 := (by injection e681)
              replace hx681_0 := hcl HB hx681_0; replace hx681_1 := hcl HB hx681_1; replace hx681_2 := hcl HB hx681_2; replace hx681_3 := hcl HB hx681_3; replace hx681_4 := hcl HB hx681_4; replace hx681_5 := hcl HB hx681_5; replace hx681_6 := hcl HB hx681_6; have HR681_4 := zq9 hi681_4; have HC681_4 := zq9 hl681_4; clear hi681_4 hl681_4; have HR681_5 := zq9 hi681_5; have HC681_5 := zq9 hl681_5; clear hi681_5 hl681_5
              have HR681_6 := zq9 hi681_6; have HC681_6 := zq9 hl681_6; clear hi681_6 hl681_6; replace p681 := eq_true p681; replace q681 := eq_true q681
              refine start_ (n := 31) (S := fun w' => w'.cell? ⟨gb679, 0, none⟩ = some (.string ((rd_T32 l0_1 x18_2).f0)) ∧ w'.cell? ⟨gb679, 1, none⟩ = some (.int .i64 ((rd_T32 l0_1 x18_2).f1)) ∧ w'.cell? ⟨gb679, 2, none⟩ = some (.int .i64 ((rd_T32 l0_1 x18_2).f2)) ∧ w'.cell? ⟨gb679, 3, none⟩ = some (.string ((rd_T32 l0_1 x18_2).f3)) ∧ w'.cell? ⟨gb679, 4, none⟩ = some (.slice A678_4 ((rd_T32 l0_1 x18_2).f4).length c678_4) ∧ w'.cell? ⟨gb679, 5, none⟩ = some (.slice A678_5 ((rd_T32 l0_1 x18_2).f5).length c678_5) ∧ w'.cell? ⟨gb679, 6, none⟩ = some (.slice A678_6 ((rd_T32 l0_1 x18_2).f6).length c678_6) ∧ w'.cell? ⟨gb676, 0, none⟩ = some (.int .i64 a0_0) ∧ w'.cell? ⟨gb676, 1, none⟩ = some (.slice (some ad678) l0_1.length c0_1) ∧ w'.cell? (ad678.add (((ji20)).toNat * 7)) = some (.string ((rd_T32 l0_1 (ji20)).f0)) ∧ w'.cell? ⟨(ad678.add (((ji20)).toNat * 7)).block, (ad678.add (((ji20)).toNat * 7)).off + 1, none⟩ = some (.int .i64 ((rd_T32 l0_1 (ji20)).f1)) ∧ w'.cell? ⟨(ad678.add (((ji20)).toNat * 7)).block, (ad678.add (((ji20)).toNat * 7)).off + 2, none⟩ = some (.int .i64 ((rd_T32 l0_1 (ji20)).f2)) ∧ w'.cell? ⟨(ad678.add (((ji20)).toNat * 7)).block, (ad678.add (((ji20)).toNat * 7)).off + 3, none⟩ = some (.string ((rd_T32 l0_1 (ji20)).f3)) ∧ w'.cell? ⟨(ad678.add (((ji20)).toNat * 7)).block, (ad678.add (((ji20)).toNat * 7)).off + 4, none⟩ = some (.slice A681_4 ((rd_T32 l0_1 (ji20)).f4).length c681_4) ∧ w'.cell? ⟨(ad678.add (((ji20)).toNat * 7)).block, (ad678.add (((ji20)).toNat * 7)).off + 5, none⟩ = some (.slice A681_5 ((rd_T32 l0_1 (ji20)).f5).length c681_5) ∧ w'.cell? ⟨(ad678.add (((ji20)).toNat * 7)).block, (ad678.add (((ji20)).toNat * 7)).off + 6, none⟩ = some (.slice A681_6 ((rd_T32 l0_1 (ji20)).f6).length c681_6)) (ds := []) #[false, false, false, false, false, false, false, false, false, false, false, false, false, false, false, false, false, false, false, false, false, false, false, false, false, false, false, false, false, false, false] (by kernel_rfl) rfl rfl ⟨bc BK679 0, bc BK679 1, bc BK679 2, bc BK679 3, bc BK679 4, bc BK679 5, bc BK679 6, bc BK676 0, bc BK676 1, (hcm HB hw681_0), (hcm HB hw681_1), (hcm HB hw681_2), (hcm HB hw681_3), (hcm HB hw681_4), (hcm HB hw681_5), (hcm HB hw681_6)⟩ (fun hHeld => ?_); refine with_tabW impl_BaseOk.tab6 impl_BaseOk.bits6 (fun HT_ HW_ => ?_)
              generalize w25.drew = w26 at BK676 BK679 HB HR681_4 HR681_5 HR681_6 hx681_0 hx681_1 hx681_2 hx681_3 hx681_4 hx681_5 hx681_6 hHeld ⊢
              refine take_ (i := 0) (N := some 23) (v := ?_) (a' := ?_) (zb 31 1) rfl rfl (take_ofW HT_.out HW_.out (by kernel_rfl)) (fun _ _ _ h => h) (Or.inl ⟨by rfl, ?_⟩) hHeld ?_ ?_
              rotate_left; ·rintro w' ⟨s0, s1, s2, s3, s4, s5, s6, s7, s8, s9, s10, s11, s12, s13, s14, s15⟩; go_simp; with_reducible rfl
              rotate_left; ·simp only [Act.put, zq0, zq1, zq2, i64_w, i32_w]; rfl
              refine one_ (i := 1) (N := some 24) (zb 31 3) rfl rfl (one_of HT_.out (by kernel_rfl)) (by decide) (fun K hK => ?_)
              refine gs Try.func13 #[.agg #[.string ((rd_T32 l0_1 x18_2).f0), .int .i64 ((rd_T32 l0_1 x18_2).f1), .int .i64 ((rd_T32 l0_1 x18_2).f2), .string ((rd_T32 l0_1 x18_2).f3), .slice A678_4 ((rd_T32 l0_1 x18_2).f4).length c678_4, .slice A678_5 ((rd_T32 l0_1 x18_2).f5).length c678_5, .slice A678_6 ((rd_T32 l0_1 x18_2).f6).length c678_6]] ?_
              with_reducible refine (impl_EntryOk.calls k2 ((rd_T32 l0_1 x18_2).f0) ((rd_T32 l0_1 x18_2).f1) ((rd_T32 l0_1 x18_2).f2) ((rd_T32 l0_1 x18_2).f3) _ _ ((rd_T32 l0_1 x18_2).f4) _ _ ((rd_T32 l0_1 x18_2).f5) _ _ ((rd_T32 l0_1 x18_2).f6) true _ ?side1 ?side2 ?side3 ?side4 ?side5 ?side6 A17.out).mono ?_
              (case side1 => exact kc HR678_4 HB)
              (case side2 => exact HC678_4.out)
              (case side3 => exact kc HR678_5 HB)
              (case side4 => exact HC678_5.out)
              (case side5 => exact kc HR678_6 HB)
              (case side6 => exact HC678_6.out)
              rintro e w27 ⟨rfl, hb⟩
              refine ⟨_, rfl, ?_⟩
              have n0_ := zq9 (zq30 (g := gb676) (o := .cells #[.int .i64 a0_0, .slice (some ad678) l0_1.length c0_1] 46 (0, 0)) (by exact bk BK676) hb)
              have n1_ := zq9 (zq30 (g := gb679) (o := .cells #[.string ((rd_T32 l0_1 x18_2).f0), .int .i64 ((rd_T32 l0_1 x18_2).f1), .int .i64 ((rd_T32 l0_1 x18_2).f2), .string ((rd_T32 l0_1 x18_2).f3), .slice A678_4 ((rd_T32 l0_1 x18_2).f4).length c678_4, .slice A678_5 ((rd_T32 l0_1 x18_2).f5).length c678_5, .slice A678_6 ((rd_T32 l0_1 x18_2).f6).length c678_6] 32 (0, 0)) (by exact bk BK679) hb)
              have n2_ := zq9 (zq27 (by exact b2 HB GE676 GE679) hb)
              clear BK676; clear BK679; clear HB; have BK676 := n0_; have BK679 := n1_; have HB := n2_; clear n0_ n1_ n2_
              (try clear hb)
              (try clear hb2)
              (try clear hk)
              (try clear hi)
              refine hK.out _ _ ⟨bc BK679 0, bc BK679 1, bc BK679 2, bc BK679 3, bc BK679 4, bc BK679 5, bc BK679 6, bc BK676 0, bc BK676 1, (hcm HB hw681_0), (hcm HB hw681_1), (hcm HB hw681_2), (hcm HB hw681_3), (hcm HB hw681_4), (hcm HB hw681_5), (hcm HB hw681_6)⟩ (fun hHeld => ?_)
              clear hK K
              refine norm_ (a' := ?_) ?_ ?_
              rotate_left; ·show Act.put _ (some 24) _ = _; simp only [Act.put, zq0, zq1, zq2, i64_w, i32_w]; rfl
              refine pa HT_ 2 25 (zb 31 7) ?_; refine pa HT_ 3 26 (zb 31 15) ?_; refine pa HT_ 4 27 (zb 31 31) ?_; refine pa HT_ 5 28 (zb 31 63) ?_; refine pa HT_ 6 29 (zb 31 127) ?_; refine pa HT_ 7 30 (zb 31 255) ?_; refine pa HT_ 9 32 (zb 31 767) ?_; refine pa HT_ 10 33 (zb 31 1791) ?_; refine pa HT_ 14 37 (zb 31 18175) ?_
              refine take_ (i := 8) (N := some 31) (v := ?_) (a' := ?_) (zb 31 18431) rfl rfl (take_ofW HT_.out HW_.out (by kernel_rfl)) (fun _ _ _ h => h) (Or.inl ⟨by rfl, ?_⟩) hHeld ?_ ?_
              rotate_left; ·rintro w' ⟨s0, s1, s2, s3, s4, s5, s6, s7, s8, s9, s10, s11, s12, s13, s14, s15⟩; go_simp; with_reducible rfl
              rotate_left; ·simp only [Act.put, zq0, zq1, zq2, i64_w, i32_w]; rfl
              refine pa HT_ 11 34 (zb 31 20479) ?_; refine pa HT_ 12 35 (zb 31 24575) ?_
              refine take_ (i := 13) (N := some 36) (v := ?_) (a' := ?_) (zb 31 32767) rfl rfl (take_ofW HT_.out HW_.out (by kernel_rfl)) (fun _ _ _ h => h) (Or.inl ⟨by rfl, ?_⟩) hHeld ?_ ?_
              rotate_left; ·rintro w' ⟨s0, s1, s2, s3, s4, s5, s6, s7, s8, s9, s10, s11, s12, s13, s14, s15⟩; go_simp; with_reducible rfl
              rotate_left; ·simp only [Act.put, zq0, zq1, zq2, i64_w, i32_w]; rfl
              refine take_ (i := 15) (N := some 38) (v := ?_) (a' := ?_) (zb 31 65535) rfl rfl (take_ofW HT_.out HW_.out (by kernel_rfl)) (fun _ _ _ h => h) (Or.inl ⟨by rfl, ?_⟩) hHeld ?_ ?_
              rotate_left; ·rintro w' ⟨s0, s1, s2, s3, s4, s5, s6, s7, s8, s9, s10, s11, s12, s13, s14, s15⟩; go_simp; with_reducible rfl
              rotate_left; ·simp only [Act.put, zq0, zq1, zq2, i64_w, i32_w]; rfl
              refine pa HT_ 16 39 (zb 31 131071) ?_; refine pa HT_ 17 40 (zb 31 262143) ?_; refine pa HT_ 18 41 (zb 31 524287) ?_; refine pa HT_ 19 42 (zb 31 1048575) ?_
              by_cases c23 : ((Op.bytesLess (((rd_T32 l0_1 (ji20)).f0).toList) (((rd_T32 l0_1 x18_2).f0).toList)) = true)
              ·rw [if_pos c23] at H
               have c23b0 : (Op.bytesLess (((rd_T32 l0_1 (ji20)).f0).toList) (((rd_T32 l0_1 x18_2).f0).toList)) = true := c23
               clear c23
               (try rw [c23b0])
               refine pa HT_ 20 43 (zb 31 2097151) ?_
               refine take_ (i := 21) (N := some 44) (v := ?_) (a' := ?_) (zb 31 4194303) rfl rfl (take_ofW HT_.out HW_.out (by kernel_rfl)) (fun _ _ _ h => h) (Or.inl ⟨by rfl, ?_⟩) hHeld ?_ ?_
               rotate_left; ·rintro w' ⟨s0, s1, s2, s3, s4, s5, s6, s7, s8, s9, s10, s11, s12, s13, s14, s15⟩; go_simp; with_reducible rfl
               rotate_left; ·simp only [Act.put, zq0, zq1, zq2, i64_w, i32_w]; rfl
               refine pa HT_ 22 45 (zb 31 8388607) ?_; refine pa HT_ 23 46 (zb 31 16777215) ?_
               by_cases c24 : ((rd_T32 l0_1 x18_2).f1) = 0
               ·rw [if_pos c24] at H
                have c24b0 : (((rd_T32 l0_1 x18_2).f1) == 0) = true := beq_iff_eq.mpr c24
                have c24b1 : (((rd_T32 l0_1 x18_2).f1) != 0) = false := bne_eq_false_iff_eq.mpr c24
                clear c24; have H' := zq9 H; clear H
                (try rw [c24b0]); (try rw [c24b1])
                refine pb HT_ 24 47 (zb 31 33554431) ?_; refine pb HT_ 25 48 (zb 31 67108863) ?_; refine pb HT_ 26 49 (zb 31 134217727) ?_; refine pb HT_ 27 50 (zb 31 268435455) ?_; refine pb HT_ 28 51 (zb 31 536870911) ?_; refine pa HT_ 29 52 (zb 31 1073741823) ?_; refine pa HT_ 30 53 (zb 31 2147483647) ?_
                refine done_ (done_of HT_.out (by kernel_rfl)) ?_
                try go_wp2
                go_meet
                case rel => exact ⟨_, (false), (by first | rfl | (simp; done) | (simp [*]; done)), H', ⟨by have := HJ1.out; have := HK2.out; first | omega | exact Nat.le_refl _⟩, ⟨by refine bp ?_; exact BK676.out⟩, ⟨by refine bp ?_; exact BK679.out⟩, ⟨by exact b2 HB GE676 GE679⟩⟩
               ·rw [if_neg c24] at H
                have c24b0 : (((rd_T32 l0_1 x18_2).f1) == 0) = false := beq_eq_false_iff_ne.mpr c24
                have c24b1 : (((rd_T32 l0_1 x18_2).f1) != 0) = true := bne_iff_ne.mpr c24
                have H' := zq9 H; clear H
                (try rw [c24b0]); (try rw [c24b1])
                refine pa HT_ 24 47 (zb 31 33554431) ?_; refine pa HT_ 26 49 (zb 31 100663295) ?_
                refine take_ (i := 25) (N := some 48) (v := ?_) (a' := ?_) (zb 31 134217727) rfl rfl (take_ofW HT_.out HW_.out (by kernel_rfl)) (fun _ _ _ h => h) (Or.inl ⟨by rfl, ?_⟩) hHeld ?_ ?_
                rotate_left; ·rintro w' ⟨s0, s1, s2, s3, s4, s5, s6, s7, s8, s9, s10, s11, s12, s13, s14, s15⟩; go_simp; with_reducible rfl
                rotate_left; ·simp only [Act.put, zq0, zq1, zq2, i64_w, i32_w]; rfl
                refine take_ (i := 27) (N := some 50) (v := ?_) (a' := ?_) (zb 31 268435455) rfl rfl (take_ofW HT_.out HW_.out (by kernel_rfl)) (fun _ _ _ h => h) (Or.inl ⟨by rfl, ?_⟩) hHeld ?_ ?_
                rotate_left; ·rintro w' ⟨s0, s1, s2, s3, s4, s5, s6, s7, s8, s9, s10, s11, s12, s13, s14, s15⟩; go_simp; with_reducible rfl
                rotate_left; ·simp only [Act.put, zq0, zq1, zq2, i64_w, i32_w]; rfl
                refine pa HT_ 28 51 (zb 31 536870911) ?_; refine pa HT_ 29 52 (zb 31 1073741823) ?_; refine pa HT_ 30 53 (zb 31 2147483647) ?_
                refine done_ (done_of HT_.out (by kernel_rfl)) ?_
                try go_wp2
                go_meet
                case rel => exact ⟨_, (decide (((rd_T32 l0_1 x18_2).f1) ≤ a0_0)), (by first | rfl | (simp; done) | (simp [*]; done)), H', ⟨by have := HJ1.out; have := HK2.out; first | omega | exact Nat.le_refl _⟩, ⟨by refine bp ?_; exact BK676.out⟩, ⟨by refine bp ?_; exact BK679.out⟩, ⟨by exact b2 HB GE676 GE679⟩⟩
              ·rw [if_neg c23] at H
               have c23b0 : (Op.bytesLess (((rd_T32 l0_1 (ji20)).f0).toList) (((rd_T32 l0_1 x18_2).f0).toList)) = false := by simpa using c23
               clear c23; have H' := zq9 H; clear H
               (try rw [c23b0])
               refine pb HT_ 20 43 (zb 31 2097151) ?_; refine pb HT_ 21 44 (zb 31 4194303) ?_; refine pb HT_ 22 45 (zb 31 8388607) ?_; refine pb HT_ 23 46 (zb 31 16777215) ?_; refine pb HT_ 24 47 (zb 31 33554431) ?_; refine pb HT_ 25 48 (zb 31 67108863) ?_; refine pb HT_ 26 49 (zb 31 134217727) ?_; refine pb HT_ 27 50 (zb 31 268435455) ?_; refine pb HT_ 28 51 (zb 31 536870911) ?_; refine pb HT_ 29 52 (zb 31 1073741823) ?_
               refine pa HT_ 30 53 (zb 31 2147483647) ?_
               refine done_ (done_of HT_.out (by kernel_rfl)) ?_
               try go_wp2
               go_meet
               case rel => exact ⟨_, (true), (by first | rfl | (simp; done) | (simp [*]; done)), H', ⟨by have := HJ1.out; have := HK2.out; first | omega | exact Nat.le_refl _⟩, ⟨by refine bp ?_; exact BK676.out⟩, ⟨by refine bp ?_; exact BK679.out⟩, ⟨by exact b2 HB GE676 GE679⟩⟩
             ·rw [if_neg c22] at H
              exact absurd H (by simp)
            ·rw [if_neg c21] at H
             exact absurd H (by simp)
           ·rw [if_neg c19] at H; have c19b0 : decide (0 < x18_2) = false := decide_eq_false c19; clear c19
            (first | rw [c19b0] | (simp only [i64_w, i32_w]; rw [c19b0]) | skip)
            try go_wp2
            have n0_ : Aside0 ((((((((w14.setCell ⟨gb679, 0, none⟩ (.string ((rd_T32 l0_1 x18_2).f0))).setCell ⟨gb679, 1, none⟩ (.int .i64 ((rd_T32 l0_1 x18_2).f1))).setCell ⟨gb679, 2, none⟩ (.int .i64 ((rd_T32 l0_1 x18_2).f2))).setCell ⟨gb679, 3, none⟩ (.string ((rd_T32 l0_1 x18_2).f3))).setCell ⟨gb679, 4, none⟩ (.slice A678_4 ((rd_T32 l0_1 x18_2).f4).length c678_4)).setCell ⟨gb679, 5, none⟩ (.slice A678_5 ((rd_T32 l0_1 x18_2).f5).length c678_5)).setCell ⟨gb679, 6, none⟩ (.slice A678_6 ((rd_T32 l0_1 x18_2).f6).length c678_6)).heap[gb676]? = some (.cells #[.int .i64 a0_0, .slice (some ad678) l0_1.length c0_1] 46 (0, 0))) := ⟨by refine bp ?_; refine blk_far ?_ NB676_679.out _; refine bp ?_; refine blk_far ?_ NB676_679.out _; refine bp ?_; refine blk_far ?_ NB676_679.out _; refine bp ?_; refine blk_far ?_ NB676_679.out _; refine bp ?_; refine blk_far ?_ NB676_679.out _; refine bp ?_; refine blk_far ?_ NB676_679.out _; refine bp ?_; refine blk_far ?_ NB676_679.out _; refine bp ?_; exact BK676.out⟩
            have n1_ : Aside0 ((((((((w14.setCell ⟨gb679, 0, none⟩ (.string ((rd_T32 l0_1 x18_2).f0))).setCell ⟨gb679, 1, none⟩ (.int .i64 ((rd_T32 l0_1 x18_2).f1))).setCell ⟨gb679, 2, none⟩ (.int .i64 ((rd_T32 l0_1 x18_2).f2))).setCell ⟨gb679, 3, none⟩ (.string ((rd_T32 l0_1 x18_2).f3))).setCell ⟨gb679, 4, none⟩ (.slice A678_4 ((rd_T32 l0_1 x18_2).f4).length c678_4)).setCell ⟨gb679, 5, none⟩ (.slice A678_5 ((rd_T32 l0_1 x18_2).f5).length c678_5)).setCell ⟨gb679, 6, none⟩ (.slice A678_6 ((rd_T32 l0_1 x18_2).f6).length c678_6)).heap[gb679]? = some (.cells #[.string ((rd_T32 l0_1 x18_2).f0), .int .i64 ((rd_T32 l0_1 x18_2).f1), .int .i64 ((rd_T32 l0_1 x18_2).f2), .string ((rd_T32 l0_1 x18_2).f3), .slice A678_4 ((rd_T32 l0_1 x18_2).f4).length c678_4, .slice A678_5 ((rd_T32 l0_1 x18_2).f5).length c678_5, .slice A678_6 ((rd_T32 l0_1 x18_2).f6).length c678_6] 32 (0, 0))) := ⟨(blk_set (blk_set (blk_set (blk_set (blk_set (blk_set (blk_set BK679.out 0 _) 1 _) 2 _) 3 _) 4 _) 5 _) 6 _)⟩
            have n2_ : Aside0 (Below w.heap.size w (((((((w14.setCell ⟨gb679, 0, none⟩ (.string ((rd_T32 l0_1 x18_2).f0))).setCell ⟨gb679, 1, none⟩ (.int .i64 ((rd_T32 l0_1 x18_2).f1))).setCell ⟨gb679, 2, none⟩ (.int .i64 ((rd_T32 l0_1 x18_2).f2))).setCell ⟨gb679, 3, none⟩ (.string ((rd_T32 l0_1 x18_2).f3))).setCell ⟨gb679, 4, none⟩ (.slice A678_4 ((rd_T32 l0_1 x18_2).f4).length c678_4)).setCell ⟨gb679, 5, none⟩ (.slice A678_5 ((rd_T32 l0_1 x18_2).f5).length c678_5)).setCell ⟨gb679, 6, none⟩ (.slice A678_6 ((rd_T32 l0_1 x18_2).f6).length c678_6))) := ⟨by exact b2 HB GE676 GE679⟩
            (try clear BK676)
            (try clear BK679)
            (try clear HB)
            generalize (((((((w14.setCell ⟨gb679, 0, none⟩ (.string ((rd_T32 l0_1 x18_2).f0))).setCell ⟨gb679, 1, none⟩ (.int .i64 ((rd_T32 l0_1 x18_2).f1))).setCell ⟨gb679, 2, none⟩ (.int .i64 ((rd_T32 l0_1 x18_2).f2))).setCell ⟨gb679, 3, none⟩ (.string ((rd_T32 l0_1 x18_2).f3))).setCell ⟨gb679, 4, none⟩ (.slice A678_4 ((rd_T32 l0_1 x18_2).f4).length c678_4)).setCell ⟨gb679, 5, none⟩ (.slice A678_5 ((rd_T32 l0_1 x18_2).f5).length c678_5)).setCell ⟨gb679, 6, none⟩ (.slice A678_6 ((rd_T32 l0_1 x18_2).f6).length c678_6)) = w35 at n0_ n1_ n2_ ⊢
            have BK676 := n0_; have BK679 := n1_; have HB := n2_; clear n0_ n1_ n2_
            have n0_ := zq9 (blk_drew BK676.out)
            have n1_ := zq9 (blk_drew BK679.out)
            have n2_ := zq9 (zq4 HB.out)
            clear BK676; clear BK679; clear HB; have BK676 := n0_; have BK679 := n1_; have HB := n2_; clear n0_ n1_ n2_
            by_cases c34 : ((rd_T32 l0_1 x18_2).f1) = 0
            ·rw [if_pos c34] at H
             have c34b0 : (((rd_T32 l0_1 x18_2).f1) == 0) = true := beq_iff_eq.mpr c34
             have c34b1 : (((rd_T32 l0_1 x18_2).f1) != 0) = false := bne_eq_false_iff_eq.mpr c34
             clear c34; have H' := zq9 H; clear H
             refine start_ (n := 31) (S := fun w' => w'.cell? ⟨gb679, 0, none⟩ = some (.string ((rd_T32 l0_1 x18_2).f0)) ∧ w'.cell? ⟨gb679, 1, none⟩ = some (.int .i64 ((rd_T32 l0_1 x18_2).f1)) ∧ w'.cell? ⟨gb679, 2, none⟩ = some (.int .i64 ((rd_T32 l0_1 x18_2).f2)) ∧ w'.cell? ⟨gb679, 3, none⟩ = some (.string ((rd_T32 l0_1 x18_2).f3)) ∧ w'.cell? ⟨gb679, 4, none⟩ = some (.slice A678_4 ((rd_T32 l0_1 x18_2).f4).length c678_4) ∧ w'.cell? ⟨gb679, 5, none⟩ = some (.slice A678_5 ((rd_T32 l0_1 x18_2).f5).length c678_5) ∧ w'.cell? ⟨gb679, 6, none⟩ = some (.slice A678_6 ((rd_T32 l0_1 x18_2).f6).length c678_6)) (ds := []) #[false, false, false, false, false, false, false, false, false, false, false, false, false, false, false, false, false, false, false, false, false, false, false, false, false, false, false, false, false, false, false] (by kernel_rfl) rfl rfl ⟨bc BK679 0, bc BK679 1, bc BK679 2, bc BK679 3, bc BK679 4, bc BK679 5, bc BK679 6⟩ (fun hHeld => ?_); refine with_tabW impl_BaseOk.tab6 impl_BaseOk.bits6 (fun HT_ HW_ => ?_)
             generalize w35.drew = w36 at BK676 BK679 HB hHeld ⊢
             refine take_ (i := 0) (N := some 23) (v := ?_) (a' := ?_) (zb 31 1) rfl rfl (take_ofW HT_.out HW_.out (by kernel_rfl)) (fun _ _ _ h => h) (Or.inl ⟨by rfl, ?_⟩) hHeld ?_ ?_
             rotate_left; ·rintro w' ⟨s0, s1, s2, s3, s4, s5, s6⟩; go_simp; with_reducible rfl
             rotate_left; ·simp only [Act.put, zq0, zq1, zq2, i64_w, i32_w]; rfl
             refine one_ (i := 1) (N := some 24) (zb 31 3) rfl rfl (one_of HT_.out (by kernel_rfl)) (by decide) (fun K hK => ?_)
             refine gs Try.func13 #[.agg #[.string ((rd_T32 l0_1 x18_2).f0), .int .i64 ((rd_T32 l0_1 x18_2).f1), .int .i64 ((rd_T32 l0_1 x18_2).f2), .string ((rd_T32 l0_1 x18_2).f3), .slice A678_4 ((rd_T32 l0_1 x18_2).f4).length c678_4, .slice A678_5 ((rd_T32 l0_1 x18_2).f5).length c678_5, .slice A678_6 ((rd_T32 l0_1 x18_2).f6).length c678_6]] ?_
             with_reducible refine (impl_EntryOk.calls k2 ((rd_T32 l0_1 x18_2).f0) ((rd_T32 l0_1 x18_2).f1) ((rd_T32 l0_1 x18_2).f2) ((rd_T32 l0_1 x18_2).f3) _ _ ((rd_T32 l0_1 x18_2).f4) _ _ ((rd_T32 l0_1 x18_2).f5) _ _ ((rd_T32 l0_1 x18_2).f6) true _ ?side1 ?side2 ?side3 ?side4 ?side5 ?side6 A17.out).mono ?_
             (case side1 => exact kc HR678_4 HB)
             (case side2 => exact HC678_4.out)
             (case side3 => exact kc HR678_5 HB)
             (case side4 => exact HC678_5.out)
             (case side5 => exact kc HR678_6 HB)
             (case side6 => exact HC678_6.out)
             rintro e w37 ⟨rfl, hb⟩
             refine ⟨_, rfl, ?_⟩
             have n0_ := zq9 (zq30 (g := gb676) (o := .cells #[.int .i64 a0_0, .slice (some ad678) l0_1.length c0_1] 46 (0, 0)) (by exact bk BK676) hb)
             have n1_ := zq9 (zq30 (g := gb679) (o := .cells #[.string ((rd_T32 l0_1 x18_2).f0), .int .i64 ((rd_T32 l0_1 x18_2).f1), .int .i64 ((rd_T32 l0_1 x18_2).f2), .string ((rd_T32 l0_1 x18_2).f3), .slice A678_4 ((rd_T32 l0_1 x18_2).f4).length c678_4, .slice A678_5 ((rd_T32 l0_1 x18_2).f5).length c678_5, .slice A678_6 ((rd_T32 l0_1 x18_2).f6).length c678_6] 32 (0, 0)) (by exact bk BK679) hb)
             have n2_ := zq9 (zq27 (by exact b2 HB GE676 GE679) hb)
             clear BK676; clear BK679; clear HB; have BK676 := n0_; have BK679 := n1_; have HB := n2_; clear n0_ n1_ n2_
             (try clear hb)
             (try clear hb2)
             (try clear hk)
             (try clear hi)
             refine hK.out _ _ ⟨bc BK679 0, bc BK679 1, bc BK679 2, bc BK679 3, bc BK679 4, bc BK679 5, bc BK679 6⟩ (fun hHeld => ?_)
             clear hK K
             refine norm_ (a' := ?_) ?_ ?_
             rotate_left; ·show Act.put _ (some 24) _ = _; simp only [Act.put, zq0, zq1, zq2, i64_w, i32_w]; rfl
             refine pa HT_ 2 25 (zb 31 7) ?_; refine pa HT_ 3 26 (zb 31 15) ?_; refine pa HT_ 4 27 (zb 31 31) ?_; refine pa HT_ 5 28 (zb 31 63) ?_; refine pa HT_ 6 29 (zb 31 127) ?_; refine pb HT_ 7 30 (zb 31 255) ?_; refine pb HT_ 8 31 (zb 31 511) ?_; refine pb HT_ 9 32 (zb 31 1023) ?_; refine pb HT_ 10 33 (zb 31 2047) ?_; refine pb HT_ 11 34 (zb 31 4095) ?_; refine pb HT_ 12 35 (zb 31 8191) ?_; refine pb HT_ 13 36 (zb 31 16383) ?_
             refine pb HT_ 14 37 (zb 31 32767) ?_; refine pb HT_ 15 38 (zb 31 65535) ?_; refine pb HT_ 16 39 (zb 31 131071) ?_; refine pa HT_ 17 40 (zb 31 262143) ?_; refine pa HT_ 18 41 (zb 31 524287) ?_; refine pa HT_ 19 42 (zb 31 1048575) ?_; refine pa HT_ 20 43 (zb 31 2097151) ?_
             refine take_ (i := 21) (N := some 44) (v := ?_) (a' := ?_) (zb 31 4194303) rfl rfl (take_ofW HT_.out HW_.out (by kernel_rfl)) (fun _ _ _ h => h) (Or.inl ⟨by rfl, ?_⟩) hHeld ?_ ?_
             rotate_left; ·rintro w' ⟨s0, s1, s2, s3, s4, s5, s6⟩; go_simp; with_reducible rfl
             rotate_left; ·simp only [Act.put, zq0, zq1, zq2, i64_w, i32_w]; rfl
             refine pa HT_ 22 45 (zb 31 8388607) ?_; refine pa HT_ 23 46 (zb 31 16777215) ?_; refine pb HT_ 24 47 (zb 31 33554431) ?_; refine pb HT_ 25 48 (zb 31 67108863) ?_; refine pb HT_ 26 49 (zb 31 134217727) ?_; refine pb HT_ 27 50 (zb 31 268435455) ?_; refine pb HT_ 28 51 (zb 31 536870911) ?_; refine pa HT_ 29 52 (zb 31 1073741823) ?_; refine pa HT_ 30 53 (zb 31 2147483647) ?_
             refine done_ (done_of HT_.out (by kernel_rfl)) ?_
             try go_wp2
             go_meet
             case rel => exact ⟨_, (false), (by first | rfl | (simp; done) | (simp [*]; done)), H', ⟨by have := HJ1.out; have := HK2.out; first | omega | exact Nat.le_refl _⟩, ⟨by refine bp ?_; exact BK676.out⟩, ⟨by refine bp ?_; exact BK679.out⟩, ⟨by exact b2 HB GE676 GE679⟩⟩
            ·rw [if_neg c34] at H
             have c34b0 : (((rd_T32 l0_1 x18_2).f1) == 0) = false := beq_eq_false_iff_ne.mpr c34
             have c34b1 : (((rd_T32 l0_1 x18_2).f1) != 0) = true := bne_iff_ne.mpr c34
             have H' := zq9 H; clear H
             refine start_ (n := 31) (S := fun w' => w'.cell? ⟨gb679, 0, none⟩ = some (.string ((rd_T32 l0_1 x18_2).f0)) ∧ w'.cell? ⟨gb679, 1, none⟩ = some (.int .i64 ((rd_T32 l0_1 x18_2).f1)) ∧ w'.cell? ⟨gb679, 2, none⟩ = some (.int .i64 ((rd_T32 l0_1 x18_2).f2)) ∧ w'.cell? ⟨gb679, 3, none⟩ = some (.string ((rd_T32 l0_1 x18_2).f3)) ∧ w'.cell? ⟨gb679, 4, none⟩ = some (.slice A678_4 ((rd_T32 l0_1 x18_2).f4).length c678_4) ∧ w'.cell? ⟨gb679, 5, none⟩ = some (.slice A678_5 ((rd_T32 l0_1 x18_2).f5).length c678_5) ∧ w'.cell? ⟨gb679, 6, none⟩ = some (.slice A678_6 ((rd_T32 l0_1 x18_2).f6).length c678_6) ∧ w'.cell? ⟨gb676, 0, none⟩ = some (.int .i64 a0_0) ∧ w'.cell? ⟨gb676, 1, none⟩ = some (.slice (some ad678) l0_1.length c0_1)) (ds := []) #[false, false, false, false, false, false, false, false, false, false, false, false, false, false, false, false, false, false, false, false, false, false, false, false, false, false, false, false, false, false, false] (by kernel_rfl) rfl rfl ⟨bc BK679 0, bc BK679 1, bc BK679 2, bc BK679 3, bc BK679 4, bc BK679 5, bc BK679 6, bc BK676 0, bc BK676 1⟩ (fun hHeld => ?_); refine with_tabW impl_BaseOk.tab6 impl_BaseOk.bits6 (fun HT_ HW_ => ?_)
             generalize w35.drew = w39 at BK676 BK679 HB hHeld ⊢
             refine take_ (i := 0) (N := some 23) (v := ?_) (a' := ?_) (zb 31 1) rfl rfl (take_ofW HT_.out HW_.out (by kernel_rfl)) (fun _ _ _ h => h) (Or.inl ⟨by rfl, ?_⟩) hHeld ?_ ?_
             rotate_left; ·rintro w' ⟨s0, s1, s2, s3, s4, s5, s6, s7, s8⟩; go_simp; with_reducible rfl
             rotate_left; ·simp only [Act.put, zq0, zq1, zq2, i64_w, i32_w]; rfl
             refine one_ (i := 1) (N := some 24) (zb 31 3) rfl rfl (one_of HT_.out (by kernel_rfl)) (by decide) (fun K hK => ?_)
             refine gs Try.func13 #[.agg #[.string ((rd_T32 l0_1 x18_2).f0), .int .i64 ((rd_T32 l0_1 x18_2).f1), .int .i64 ((rd_T32 l0_1 x18_2).f2), .string ((rd_T32 l0_1 x18_2).f3), .slice A678_4 ((rd_T32 l0_1 x18_2).f4).length c678_4, .slice A678_5 ((rd_T32 l0_1 x18_2).f5).length c678_5, .slice A678_6 ((rd_T32 l0_1 x18_2).f6).length c678_6]] ?_
             with_reducible refine (impl_EntryOk.calls k2 ((rd_T32 l0_1 x18_2).f0) ((rd_T32 l0_1 x18_2).f1) ((rd_T32 l0_1 x18_2).f2) ((rd_T32 l0_1 x18_2).f3) _ _ ((rd_T32 l0_1 x18_2).f4) _ _ ((rd_T32 l0_1 x18_2).f5) _ _ ((rd_T32 l0_1 x18_2).f6) true _ ?side1 ?side2 ?side3 ?side4 ?side5 ?side6 A17.out).mono ?_
             (case side1 => exact kc HR678_4 HB)
             (case side2 => exact HC678_4.out)
             (case side3 => exact kc HR678_5 HB)
             (case side4 => exact HC678_5.out)
             (case side5 => exact kc HR678_6 HB)
             (case side6 => exact HC678_6.out)
             rintro e w40 ⟨rfl, hb⟩
             refine ⟨_, rfl, ?_⟩
             have n0_ := zq9 (zq30 (g := gb676) (o := .cells #[.int .i64 a0_0, .slice (some ad678) l0_1.length c0_1] 46 (0, 0)) (by exact bk BK676) hb)
             have n1_ := zq9 (zq30 (g := gb679) (o := .cells #[.string ((rd_T32 l0_1 x18_2).f0), .int .i64 ((rd_T32 l0_1 x18_2).f1), .int .i64 ((rd_T32 l0_1 x18_2).f2), .string ((rd_T32 l0_1 x18_2).f3), .slice A678_4 ((rd_T32 l0_1 x18_2).f4).length c678_4, .slice A678_5 ((rd_T32 l0_1 x18_2).f5).length c678_5, .slice A678_6 ((rd_T32 l0_1 x18_2).f6).length c678_6] 32 (0, 0)) (by exact bk BK679) hb)
             have n2_ := zq9 (zq27 (by exact b2 HB GE676 GE679) hb)
             clear BK676; clear BK679; clear HB; have BK676 := n0_; have BK679 := n1_; have HB := n2_; clear n0_ n1_ n2_
             (try clear hb)
             (try clear hb2)
             (try clear hk)
             (try clear hi)
             refine hK.out _ _ ⟨bc BK679 0, bc BK679 1, bc BK679 2, bc BK679 3, bc BK679 4, bc BK679 5, bc BK679 6, bc BK676 0, bc BK676 1⟩ (fun hHeld => ?_)
             clear hK K
             refine norm_ (a' := ?_) ?_ ?_
             rotate_left; ·show Act.put _ (some 24) _ = _; simp only [Act.put, zq0, zq1, zq2, i64_w, i32_w]; rfl
             refine pa HT_ 2 25 (zb 31 7) ?_; refine pa HT_ 3 26 (zb 31 15) ?_; refine pa HT_ 4 27 (zb 31 31) ?_; refine pa HT_ 5 28 (zb 31 63) ?_; refine pa HT_ 6 29 (zb 31 127) ?_; refine pb HT_ 7 30 (zb 31 255) ?_; refine pb HT_ 8 31 (zb 31 511) ?_; refine pb HT_ 9 32 (zb 31 1023) ?_; refine pb HT_ 10 33 (zb 31 2047) ?_; refine pb HT_ 11 34 (zb 31 4095) ?_; refine pb HT_ 12 35 (zb 31 8191) ?_; refine pb HT_ 13 36 (zb 31 16383) ?_
             refine pb HT_ 14 37 (zb 31 32767) ?_; refine pb HT_ 15 38 (zb 31 65535) ?_; refine pb HT_ 16 39 (zb 31 131071) ?_; refine pa HT_ 17 40 (zb 31 262143) ?_; refine pa HT_ 18 41 (zb 31 524287) ?_; refine pa HT_ 19 42 (zb 31 1048575) ?_; refine pa HT_ 20 43 (zb 31 2097151) ?_
             refine take_ (i := 21) (N := some 44) (v := ?_) (a' := ?_) (zb 31 4194303) rfl rfl (take_ofW HT_.out HW_.out (by kernel_rfl)) (fun _ _ _ h => h) (Or.inl ⟨by rfl, ?_⟩) hHeld ?_ ?_
             rotate_left; ·rintro w' ⟨s0, s1, s2, s3, s4, s5, s6, s7, s8⟩; go_simp; with_reducible rfl
             rotate_left; ·simp only [Act.put, zq0, zq1, zq2, i64_w, i32_w]; rfl
             refine pa HT_ 22 45 (zb 31 8388607) ?_; refine pa HT_ 23 46 (zb 31 16777215) ?_; refine pa HT_ 24 47 (zb 31 33554431) ?_; refine pa HT_ 26 49 (zb 31 100663295) ?_
             refine take_ (i := 25) (N := some 48) (v := ?_) (a' := ?_) (zb 31 134217727) rfl rfl (take_ofW HT_.out HW_.out (by kernel_rfl)) (fun _ _ _ h => h) (Or.inl ⟨by rfl, ?_⟩) hHeld ?_ ?_
             rotate_left; ·rintro w' ⟨s0, s1, s2, s3, s4, s5, s6, s7, s8⟩; go_simp; with_reducible rfl
             rotate_left; ·simp only [Act.put, zq0, zq1, zq2, i64_w, i32_w]; rfl
             refine take_ (i := 27) (N := some 50) (v := ?_) (a' := ?_) (zb 31 268435455) rfl rfl (take_ofW HT_.out HW_.out (by kernel_rfl)) (fun _ _ _ h => h) (Or.inl ⟨by rfl, ?_⟩) hHeld ?_ ?_
             rotate_left; ·rintro w' ⟨s0, s1, s2, s3, s4, s5, s6, s7, s8⟩; go_simp; with_reducible rfl
             rotate_left; ·simp only [Act.put, zq0, zq1, zq2, i64_w, i32_w]; rfl
             refine pa HT_ 28 51 (zb 31 536870911) ?_; refine pa HT_ 29 52 (zb 31 1073741823) ?_; refine pa HT_ 30 53 (zb 31 2147483647) ?_
             refine done_ (done_of HT_.out (by kernel_rfl)) ?_
             try go_wp2
             go_meet
             case rel => exact ⟨_, (decide (((rd_T32 l0_1 x18_2).f1) ≤ a0_0)), (by first | rfl | (simp; done) | (simp [*]; done)), H', ⟨by have := HJ1.out; have := HK2.out; first | omega | exact Nat.le_refl _⟩, ⟨by refine bp ?_; exact BK676.out⟩, ⟨by refine bp ?_; exact BK679.out⟩, ⟨by exact b2 HB GE676 GE679⟩⟩
          ·replace c18 := Bool.eq_false_iff.mpr c18
           subst c18
           have H1 : (impl_BaseOk.j2 k2 l0_1 (l0_1.length : Int) x18_2 true a0_0 l0_1) = some r := by rw [if_neg (show ¬ (false = true) by decide)] at H; exact H
           clear H; have H := H1; clear H1; have H' := zq9 H; clear H
           try go_wp2
           have n0_ : Aside0 ((((((((w14.setCell ⟨gb679, 0, none⟩ (.string ((rd_T32 l0_1 x18_2).f0))).setCell ⟨gb679, 1, none⟩ (.int .i64 ((rd_T32 l0_1 x18_2).f1))).setCell ⟨gb679, 2, none⟩ (.int .i64 ((rd_T32 l0_1 x18_2).f2))).setCell ⟨gb679, 3, none⟩ (.string ((rd_T32 l0_1 x18_2).f3))).setCell ⟨gb679, 4, none⟩ (.slice A678_4 ((rd_T32 l0_1 x18_2).f4).length c678_4)).setCell ⟨gb679, 5, none⟩ (.slice A678_5 ((rd_T32 l0_1 x18_2).f5).length c678_5)).setCell ⟨gb679, 6, none⟩ (.slice A678_6 ((rd_T32 l0_1 x18_2).f6).length c678_6)).heap[gb676]? = some (.cells #[.int .i64 a0_0, .slice (some ad678) l0_1.length c0_1] 46 (0, 0))) := ⟨by refine bp ?_; refine blk_far ?_ NB676_679.out _; refine bp ?_; refine blk_far ?_ NB676_679.out _; refine bp ?_; refine blk_far ?_ NB676_679.out _; refine bp ?_; refine blk_far ?_ NB676_679.out _; refine bp ?_; refine blk_far ?_ NB676_679.out _; refine bp ?_; refine blk_far ?_ NB676_679.out _; refine bp ?_; refine blk_far ?_ NB676_679.out _; refine bp ?_; exact BK676.out⟩
           have n1_ : Aside0 ((((((((w14.setCell ⟨gb679, 0, none⟩ (.string ((rd_T32 l0_1 x18_2).f0))).setCell ⟨gb679, 1, none⟩ (.int .i64 ((rd_T32 l0_1 x18_2).f1))).setCell ⟨gb679, 2, none⟩ (.int .i64 ((rd_T32 l0_1 x18_2).f2))).setCell ⟨gb679, 3, none⟩ (.string ((rd_T32 l0_1 x18_2).f3))).setCell ⟨gb679, 4, none⟩ (.slice A678_4 ((rd_T32 l0_1 x18_2).f4).length c678_4)).setCell ⟨gb679, 5, none⟩ (.slice A678_5 ((rd_T32 l0_1 x18_2).f5).length c678_5)).setCell ⟨gb679, 6, none⟩ (.slice A678_6 ((rd_T32 l0_1 x18_2).f6).length c678_6)).heap[gb679]? = some (.cells #[.string ((rd_T32 l0_1 x18_2).f0), .int .i64 ((rd_T32 l0_1 x18_2).f1), .int .i64 ((rd_T32 l0_1 x18_2).f2), .string ((rd_T32 l0_1 x18_2).f3), .slice A678_4 ((rd_T32 l0_1 x18_2).f4).length c678_4, .slice A678_5 ((rd_T32 l0_1 x18_2).f5).length c678_5, .slice A678_6 ((rd_T32 l0_1 x18_2).f6).length c678_6] 32 (0, 0))) := ⟨(blk_set (blk_set (blk_set (blk_set (blk_set (blk_set (blk_set BK679.out 0 _) 1 _) 2 _) 3 _) 4 _) 5 _) 6 _)⟩
           have n2_ : Aside0 (Below w.heap.size w (((((((w14.setCell ⟨gb679, 0, none⟩ (.string ((rd_T32 l0_1 x18_2).f0))).setCell ⟨gb679, 1, none⟩ (.int .i64 ((rd_T32 l0_1 x18_2).f1))).setCell ⟨gb679, 2, none⟩ (.int .i64 ((rd_T32 l0_1 x18_2).f2))).setCell ⟨gb679, 3, none⟩ (.string ((rd_T32 l0_1 x18_2).f3))).setCell ⟨gb679, 4, none⟩ (.slice A678_4 ((rd_T32 l0_1 x18_2).f4).length c678_4)).setCell ⟨gb679, 5, none⟩ (.slice A678_5 ((rd_T32 l0_1 x18_2).f5).length c678_5)).setCell ⟨gb679, 6, none⟩ (.slice A678_6 ((rd_T32 l0_1 x18_2).f6).length c678_6))) := ⟨by exact b2 HB GE676 GE679⟩
           (try clear BK676)
           (try clear BK679)
           (try clear HB)
           generalize (((((((w14.setCell ⟨gb679, 0, none⟩ (.string ((rd_T32 l0_1 x18_2).f0))).setCell ⟨gb679, 1, none⟩ (.int .i64 ((rd_T32 l0_1 x18_2).f1))).setCell ⟨gb679, 2, none⟩ (.int .i64 ((rd_T32 l0_1 x18_2).f2))).setCell ⟨gb679, 3, none⟩ (.string ((rd_T32 l0_1 x18_2).f3))).setCell ⟨gb679, 4, none⟩ (.slice A678_4 ((rd_T32 l0_1 x18_2).f4).length c678_4)).setCell ⟨gb679, 5, none⟩ (.slice A678_5 ((rd_T32 l0_1 x18_2).f5).length c678_5)).setCell ⟨gb679, 6, none⟩ (.slice A678_6 ((rd_T32 l0_1 x18_2).f6).length c678_6)) = w41 at n0_ n1_ n2_ ⊢
           have BK676 := n0_; have BK679 := n1_; have HB := n2_; clear n0_ n1_ n2_
           have n0_ := zq9 (blk_drew BK676.out)
           have n1_ := zq9 (blk_drew BK679.out)
           have n2_ := zq9 (zq4 HB.out)
           clear BK676; clear BK679; clear HB; have BK676 := n0_; have BK679 := n1_; have HB := n2_; clear n0_ n1_ n2_
           refine start_ (n := 31) (S := fun w' => w'.cell? ⟨gb679, 0, none⟩ = some (.string ((rd_T32 l0_1 x18_2).f0)) ∧ w'.cell? ⟨gb679, 1, none⟩ = some (.int .i64 ((rd_T32 l0_1 x18_2).f1)) ∧ w'.cell? ⟨gb679, 2, none⟩ = some (.int .i64 ((rd_T32 l0_1 x18_2).f2)) ∧ w'.cell? ⟨gb679, 3, none⟩ = some (.string ((rd_T32 l0_1 x18_2).f3)) ∧ w'.cell? ⟨gb679, 4, none⟩ = some (.slice A678_4 ((rd_T32 l0_1 x18_2).f4).length c678_4) ∧ w'.cell? ⟨gb679, 5, none⟩ = some (.slice A678_5 ((rd_T32 l0_1 x18_2).f5).length c678_5) ∧ w'.cell? ⟨gb679, 6, none⟩ = some (.slice A678_6 ((rd_T32 l0_1 x18_2).f6).length c678_6)) (ds := []) #[false, false, false, false, false, false, false, false, false, false, false, false, false, false, false, false, false, false, false, false, false, false, false, false, false, false, false, false, false, false, false] (by kernel_rfl) rfl rfl ⟨bc BK679 0, bc BK679 1, bc BK679 2, bc BK679 3, bc BK679 4, bc BK679 5, bc BK679 6⟩ (fun hHeld => ?_); refine with_tabW impl_BaseOk.tab6 impl_BaseOk.bits6 (fun HT_ HW_ => ?_)
           generalize w41.drew = w42 at BK676 BK679 HB hHeld ⊢
           refine take_ (i := 0) (N := some 23) (v := ?_) (a' := ?_) (zb 31 1) rfl rfl (take_ofW HT_.out HW_.out (by kernel_rfl)) (fun _ _ _ h => h) (Or.inl ⟨by rfl, ?_⟩) hHeld ?_ ?_
           rotate_left; ·rintro w' ⟨s0, s1, s2, s3, s4, s5, s6⟩; go_simp; with_reducible rfl
           rotate_left; ·simp only [Act.put, zq0, zq1, zq2, i64_w, i32_w]; rfl
           refine one_ (i := 1) (N := some 24) (zb 31 3) rfl rfl (one_of HT_.out (by kernel_rfl)) (by decide) (fun K hK => ?_)
           refine gs Try.func13 #[.agg #[.string ((rd_T32 l0_1 x18_2).f0), .int .i64 ((rd_T32 l0_1 x18_2).f1), .int .i64 ((rd_T32 l0_1 x18_2).f2), .string ((rd_T32 l0_1 x18_2).f3), .slice A678_4 ((rd_T32 l0_1 x18_2).f4).length c678_4, .slice A678_5 ((rd_T32 l0_1 x18_2).f5).length c678_5, .slice A678_6 ((rd_T32 l0_1 x18_2).f6).length c678_6]] ?_
           with_reducible refine (impl_EntryOk.calls k2 ((rd_T32 l0_1 x18_2).f0) ((rd_T32 l0_1 x18_2).f1) ((rd_T32 l0_1 x18_2).f2) ((rd_T32 l0_1 x18_2).f3) _ _ ((rd_T32 l0_1 x18_2).f4) _ _ ((rd_T32 l0_1 x18_2).f5) _ _ ((rd_T32 l0_1 x18_2).f6) false _ ?side1 ?side2 ?side3 ?side4 ?side5 ?side6 A17.out).mono ?_
           (case side1 => exact kc HR678_4 HB)
           (case side2 => exact HC678_4.out)
           (case side3 => exact kc HR678_5 HB)
           (case side4 => exact HC678_5.out)
           (case side5 => exact kc HR678_6 HB)
           (case side6 => exact HC678_6.out)
           rintro e w43 ⟨rfl, hb⟩
           refine ⟨_, rfl, ?_⟩
           have n0_ := zq9 (zq30 (g := gb676) (o := .cells #[.int .i64 a0_0, .slice (some ad678) l0_1.length c0_1] 46 (0, 0)) (by exact bk BK676) hb)
           have n1_ := zq9 (zq30 (g := gb679) (o := .cells #[.string ((rd_T32 l0_1 x18_2).f0), .int .i64 ((rd_T32 l0_1 x18_2).f1), .int .i64 ((rd_T32 l0_1 x18_2).f2), .string ((rd_T32 l0_1 x18_2).f3), .slice A678_4 ((rd_T32 l0_1 x18_2).f4).length c678_4, .slice A678_5 ((rd_T32 l0_1 x18_2).f5).length c678_5, .slice A678_6 ((rd_T32 l0_1 x18_2).f6).length c678_6] 32 (0, 0)) (by exact bk BK679) hb)
           have n2_ := zq9 (zq27 (by exact b2 HB GE676 GE679) hb)
           clear BK676; clear BK679; clear HB; have BK676 := n0_; have BK679 := n1_; have HB := n2_; clear n0_ n1_ n2_
           (try clear hb)
           (try clear hb2)
           (try clear hk)
           (try clear hi)
           refine hK.out _ _ ⟨bc BK679 0, bc BK679 1, bc BK679 2, bc BK679 3, bc BK679 4, bc BK679 5, bc BK679 6⟩ (fun hHeld => ?_)
           clear hK K
           refine norm_ (a' := ?_) ?_ ?_
           rotate_left; ·show Act.put _ (some 24) _ = _; simp only [Act.put, zq0, zq1, zq2, i64_w, i32_w]; rfl
           refine pa HT_ 2 25 (zb 31 7) ?_; refine pa HT_ 3 26 (zb 31 15) ?_; refine pb HT_ 4 27 (zb 31 31) ?_; refine pb HT_ 5 28 (zb 31 63) ?_; refine pb HT_ 6 29 (zb 31 127) ?_; refine pb HT_ 7 30 (zb 31 255) ?_; refine pb HT_ 8 31 (zb 31 511) ?_; refine pb HT_ 9 32 (zb 31 1023) ?_; refine pb HT_ 10 33 (zb 31 2047) ?_; refine pb HT_ 11 34 (zb 31 4095) ?_; refine pb HT_ 12 35 (zb 31 8191) ?_; refine pb HT_ 13 36 (zb 31 16383) ?_
           refine pb HT_ 14 37 (zb 31 32767) ?_; refine pb HT_ 15 38 (zb 31 65535) ?_; refine pb HT_ 16 39 (zb 31 131071) ?_; refine pb HT_ 17 40 (zb 31 262143) ?_; refine pa HT_ 18 41 (zb 31 524287) ?_; refine pa HT_ 19 42 (zb 31 1048575) ?_; refine pb HT_ 20 43 (zb 31 2097151) ?_; refine pb HT_ 21 44 (zb 31 4194303) ?_; refine pb HT_ 22 45 (zb 31 8388607) ?_; refine pb HT_ 23 46 (zb 31 16777215) ?_
           refine pb HT_ 24 47 (zb 31 33554431) ?_; refine pb HT_ 25 48 (zb 31 67108863) ?_; refine pb HT_ 26 49 (zb 31 134217727) ?_; refine pb HT_ 27 50 (zb 31 268435455) ?_; refine pb HT_ 28 51 (zb 31 536870911) ?_; refine pb HT_ 29 52 (zb 31 1073741823) ?_; refine pa HT_ 30 53 (zb 31 2147483647) ?_
           refine done_ (done_of HT_.out (by kernel_rfl)) ?_
           try go_wp2
           go_meet
           case rel => exact ⟨_, (true), (by first | rfl | (simp; done) | (simp [*]; done)), H', ⟨by have := HJ1.out; have := HK2.out; first | omega | exact Nat.le_refl _⟩, ⟨by refine bp ?_; exact BK676.out⟩, ⟨by refine bp ?_; exact BK679.out⟩, ⟨by exact b2 HB GE676 GE679⟩⟩
         case rest =>
          clear HC13
          try clear c1
          try clear p2
          try clear c3
          try clear c6
          try clear c13
          try clear c18
          try clear c34
          try clear c34b0
          try clear c34b1
          obtain ⟨kq, x53_12, rfl, HA, HJ12, BK676, BK679, HB⟩ := hcut
          cases kq with
          | zero => exact absurd HA.out (by simp [impl_BaseOk.j2])
          | succ kj12 =>
           have H := HA.out; clear HA
           simp only [impl_BaseOk.j2] at H
           by_cases c44 : x53_12 = true
           ·subst c44
            have H1 : (some false) = some r := by rw [if_pos rfl] at H; exact H
            clear H; have H := H1; clear H1; obtain rfl := Option.some.inj H
            go_wp2
            go_ret
            exact fz (by exact b2 HB GE676 GE679)
           ·replace c44 := Bool.eq_false_iff.mpr c44
            subst c44
            have H1 : (impl_BaseOk.l0 kj12 l0_1 (l0_1.length : Int) (wrap64 (x18_2 + 1)) a0_0 l0_1) = some r := by rw [if_neg (show ¬ (false = true) by decide)] at H; exact H
            clear H; have H := H1; clear H1; have H' := zq9 H; clear H
            go_wp2
            go_roundg kj12
            case measure => have := HJ1.out; have := HK2.out; have := HJ12.out; omega
            case rel => exact ⟨(wrap64 (x18_2 + 1)), (by first | rfl | (simp; done) | (simp [*]; done)), H', ⟨by have := HJ1.out; have := HK2.out; have := HJ12.out; omega⟩, ⟨by refine bp ?_; exact BK676.out⟩, ⟨by exact b2 HB GE676 GE679⟩⟩
        ·rw [if_neg c12] at H
         exact absurd H (by simp)
       ·rw [if_neg c11] at H
        exact absurd H (by simp)
      ·rw [if_neg c10] at H; have c10b0 : decide (x18_2 < (l0_1.length : Int)) = false := decide_eq_false c10; clear c10; obtain rfl := Option.some.inj H
       go_wp2
       go_ret
       exact fz (by exact b1 HB GE676)
set_option maxHeartbeats 400000 in
theorem impl_Base_at.calls_lit (x0 : ByteArray) (x1 x2 : Int) (x3 : ByteArray) (A4 : Option Addr) (n4 c4 : Nat) (A5 : Option Addr) (n5 c5 : Nat) (A6 : Option Addr) (n6 c6 : Nat) (t : ByteArray) (B : Nat) (w : World) (hB : w.cell? ⟨B, 0, none⟩ = some (.string t)) :
    Calls Try.prog 100 #[.agg #[.string x0, .int .i64 x1, .int .i64 x2, .string x3, .slice A4 n4 c4, .slice A5 n5 c5, .slice A6 n6 c6], .pointer (some ⟨B, 0, none⟩)] w fun e w' => e = .returned (.bool (x0.toList == t.toList)) ∧ Below w.heap.size w w' := by
  have hlt := zq8 w ⟨B, 0, none⟩ hB
  go_enter Try.func100, Try.ntmps100
  go_wp2
  go_ret
  exact ⟨rfl, (Below.refl _ _).alloc (Nat.le_refl _) _⟩
theorem impl_Base_at.hit (t : ByteArray) (l : List S32) (i : Nat) (h : i < l.length) (he : (l[i].f0.toList == t.toList) = true) : impl_Base_at.from t (l.drop i) i = i := by
  rw [List.drop_eq_getElem_cons h, impl_Base_at.from, if_pos (by simpa using he)]
theorem impl_Base_at.step (t : ByteArray) (l : List S32) (i : Nat) (h : i < l.length) (he : (l[i].f0.toList == t.toList) = false) : impl_Base_at.from t (l.drop i) i = impl_Base_at.from t (l.drop (i + 1)) (i + 1) := by
  rw [List.drop_eq_getElem_cons h, impl_Base_at.from, if_neg (by simpa using he)]
set_option maxHeartbeats 4000000 in
set_option maxRecDepth 100000 in
theorem impl_Base_at.finds (A0 : Option Addr) (c0 : Nat) (l0 : List S32) (t : ByteArray) (B : Nat) (w : World) (hr0 : Kd.C k32 w A0 l0.length l0) (hB : w.cell? ⟨B, 0, none⟩ = some (.string t)) :
    Calls Try.prog 99 #[.slice A0 l0.length c0, .func (.func 100) #[] #[.pointer (some ⟨B, 0, none⟩)]] w fun e w' => e = .returned (.int .i64 (impl_Base_at.from t l0 0)) ∧ Below w.heap.size w w' := by
  have hlt := zq8 w ⟨B, 0, none⟩ hB
  have hbig : l0.length ≤ 9223372036854775807 := hr0.2.1
  have HR0 := zq9 hr0; clear hr0
  go_enter Try.func99, Try.ntmps99
  go_wp2
  go_loopg [5, 8] l0.length (fun gg _ s8 wr => ∃ kk : Nat, kk ≤ l0.length ∧ l0.length - kk ≤ gg ∧ s8 = .int .i64 kk ∧ Aside0 (Below w.heap.size w wr) ∧ Aside0 (impl_Base_at.from t (l0.drop kk) kk = impl_Base_at.from t l0 0))
  case atStart => exact ⟨0, Nat.zero_le _, by omega, rfl, ⟨Below.refl _ w⟩, ⟨rfl⟩⟩
  case round =>
    obtain ⟨kk, hkk, hg, rfl, BW, A⟩ := hrel
    by_cases hlt2 : kk < l0.length
    · have hltz : (kk : Int) < (l0.length : Int) := by omega
      have hel : rd_T32 l0 (kk : Int) = l0[kk] := by simp [rd_T32, List.getD_eq_getElem?_getD, hlt2]
      obtain ⟨ad, A4, c4, A5, c5, A6, c6, e0, hx0, hx1, hx2, hx3, hx4, hx5, hx6, _, _, _, _, _, _⟩ := at_T32 (zq31 HR0.out BW.out) (kk : Int) (by omega) (by omega)
      cases e0
      simp only [Int.toNat_natCast] at hx0 hx1 hx2 hx3 hx4 hx5 hx6
      have hcall := impl_Base_at.calls_lit (rd_T32 l0 kk).f0 (rd_T32 l0 kk).f1 (rd_T32 l0 kk).f2 (rd_T32 l0 kk).f3 A4 (rd_T32 l0 kk).f4.length c4 A5 (rd_T32 l0 kk).f5.length c5 A6 (rd_T32 l0 kk).f6.length c6 t B wr ((BW.out.cell (p := ⟨B, 0, none⟩) hlt).trans hB)
      cases hq : ((rd_T32 l0 (kk : Int)).f0.toList == t.toList) with
      | true =>
        rw [hq] at hcall
        have HIT := zq9 (impl_Base_at.hit t l0 kk hlt2 (by rw [← hel]; exact hq))
        clear hq hel
        go_wp2_with (refine hcall.mono ?_; rintro e w' ⟨rfl, hb'⟩)
        go_ret
        exact ⟨congrArg (fun z => Ending.returned (.int .i64 z)) (HIT.out.symm.trans A.out), BW.out.trans (hb'.mono BW.out.size)⟩
      | false =>
        rw [hq] at hcall
        have MISS := zq9 (impl_Base_at.step t l0 kk hlt2 (by rw [← hel]; exact hq))
        clear hq hel
        go_wp2_with (refine hcall.mono ?_; rintro e w' ⟨rfl, hb'⟩)
        go_roundg (l0.length - (kk + 1))
        case measure => omega
        case rel => exact ⟨kk + 1, by omega, by omega, by go_num, ⟨BW.out.trans (hb'.mono BW.out.size)⟩, ⟨by rw [← MISS.out]; exact A.out⟩⟩
    · have hltz : ¬ (kk : Int) < (l0.length : Int) := by omega
      obtain rfl : kk = l0.length := by omega
      go_wp2
      go_ret
      have e1 := A.out
      rw [List.drop_of_length_le (Nat.le_refl _)] at e1
      exact ⟨congrArg (fun z => Ending.returned (.int .i64 z)) e1, BW.out⟩
set_option maxHeartbeats 4000000 in
theorem impl_Base_at.calls (a0_0 : Int) (A0 : Option Addr) (c0 : Nat) (l0 : List S32) (a1 : ByteArray) (r : Int) (w : World) (hr0 : Kd.C k32 w A0 l0.length l0) (hc0 : l0.length ≤ c0) (h : impl_Base_at.f a0_0 l0 a1 = some r) :
    Calls Try.prog 67 #[.agg #[.int .i64 a0_0, .slice A0 l0.length c0], .string a1] w fun e w' => e = .returned (.int .i64 r) ∧ Below w.heap.size w w' := by
  obtain rfl := Option.some.inj h
  have hu := Try.underlying46
  have HF := fun w1 g (hb : Below w.heap.size w w1) => impl_Base_at.finds A0 c0 l0 a1 g w1 (zq31 hr0 hb)
  clear hr0
  go_enter Try.func67, Try.ntmps67
  go_wp2_with fail
  refine (HF _ _ (((Below.refl w.heap.size w).alloc (Nat.le_refl _) _).alloc (by simp) _) (by simp)).mono ?_
  rintro e w' ⟨rfl, hb⟩
  go_wp2
  go_ret
  exact ⟨rfl, (((Below.refl _ _).alloc (Nat.le_refl _) _).alloc (by simp) _).trans (hb.mono (by simp; omega))⟩
set_option maxHeartbeats 8000000 in
set_option maxRecDepth 100000 in
theorem impl_copied.calls (A0 : Option Addr) (c0 : Nat) (l0 : List ByteArray) (r : List ByteArray) (w : World) (hr0 : Kd.C Kd.string w A0 l0.length l0) (hc0 : l0.length ≤ c0) (h : impl_copied.f l0 = some r) :
    Calls Try.prog 101 #[.slice A0 l0.length c0] w fun e w' => ∃ v0_ : Value, e = .returned (v0_) ∧ Kd.R Kd.string 9 w' w.heap.size (fun _ => True) v0_ r ∧ Below w.heap.size w w' := by
  have HR0 := zq9 hr0; have HC0 := zq9 hc0; clear hr0 hc0
  have HB := zq9 (Below.refl w.heap.size w)
  have H : ((some (([] : List ByteArray) : List ByteArray)).bind fun y825 => (if y825.length + l0.length < 8796093022208 then (some (y825 ++ l0)) else (none))) = some r := h
  clear h
  obtain ⟨y825, hy825⟩ : ∃ y_ : List ByteArray, y_ = (([] : List ByteArray)) := ⟨_, rfl⟩
  replace H : (if y825.length + l0.length < 8796093022208 then (some (y825 ++ l0)) else (none)) = some r := by first | (rw [hy825]; with_reducible exact H) | (have H2_ := (Option.bind_some _ _).symm.trans H; rw [hy825]; with_reducible exact H2_) | (have H2_ := (Option.bind_some _ _).symm.trans H; with_reducible exact H2_) | with_reducible exact H | (rw [hy825]; exact H) | exact H
  have Ny825 := zq9 hy825; clear hy825
  by_cases c2 : y825.length + l0.length < 8796093022208
  · rw [if_pos c2] at H; have LMc2 := zq9 c2; clear c2
    obtain ⟨y828, hy828⟩ : ∃ y_ : List ByteArray, y_ = (y825 ++ l0) := ⟨_, rfl⟩
    replace H : (some y828) = some r := by first | (rw [hy828]; with_reducible exact H) | (have H2_ := (Option.bind_some _ _).symm.trans H; rw [hy828]; with_reducible exact H2_) | (have H2_ := (Option.bind_some _ _).symm.trans H; with_reducible exact H2_) | with_reducible exact H | (rw [hy828]; exact H) | exact H
    have Ny828 := zq9 hy828; clear hy828; obtain rfl := Option.some.inj H
    go_enter Try.func101, Try.ntmps101
    go_wp2_with (first | ((with_reducible refine zq25 (N := 3) rfl ?_); refine Kd.R_lit Kd.string _ 9 ?hg (N := 3) ?hd (xs := ([] : List ByteArray)) (inner := []) (ok := fun _ => True) (okp := fun _ => True) ?hr ?hp (fun _ hk => hk) trivial (Below.refl _ _) (Nat.le_refl _) (by simp) ?_; (case hd => rfl); (case hg => rfl); (case hr => first | (go_simp; done) | (go_simp; rfl)); (case hp => exact (Reps.none _ _)); intro v826 w3 ho4 hb hg_ hnew_; clear hg_ hnew_; (first | rw [← Ny825.out] at ho4 | (simp only [Int.reduceToNat] at ho4; rw [← Ny825.out] at ho4)); have n0_ := zq9 (Kd.R_lower ho4 (zq29 (by exact bl HB))); have n1_ := zq9 (zq27 (by exact bl HB) hb); clear HB; have HO827 := n0_; have HB := n1_; clear n0_ n1_; clear hb ho4) | ((with_reducible refine gate_builtin (b := .append) (xs := #[.tmp 3, .tmp 4]) rfl ?_); at_builtin; refine Kd.R_append_rows Kd.string (w0 := w) w.heap.size rfl (.tmp 3) (.tmp 4) 22 9 (.string ⟨#[]⟩) 16 rfl Try.underlying22 info9 rfl (by decide) (by omega) v826 y825 l0 _ _ _ (fun _ => True) (fun _ => False) rfl rfl ?aO ?aR (fun _ _ h => h) (fun _ h => h.elim) ?aF ?aB ?aS ?aL ?_; (case aR => exact kc HR0 HB); (case aB => exact (by exact bl HB)); (case aF => exact (fun _ _ => trivial)); (case aO => exact (by exact rz HO827)); (case aS => exact (zq29 (by exact bl HB))); (case aL => have := LMc2.out; omega); intro v829 w5 ho hb hg hat; rw [← Ny828.out] at ho; have n0_ := zq9 (hb); have n1_ := zq9 (ho); clear HB; clear HO827; have HB := n0_; have HO830 := n1_; clear n0_ n1_; clear ho hb hg hat))
    go_ret
    exact ⟨_, by first | rfl | (simp [errW_none, errW_some] <;> rfl) | (simp [*, errW_none, errW_some] <;> rfl), by (with_reducible repeat (first | apply zq10 | apply zq11 | apply zq12)); exact HO830.out, by exact bl HB⟩
  · rw [if_neg c2] at H
    exact absurd H (by simp)
set_option maxHeartbeats 8000000 in
set_option maxRecDepth 100000 in
theorem impl_copiedScores.calls (A0 : Option Addr) (c0 : Nat) (l0 : List (S99)) (r : List (S99)) (w : World) (hr0 : Kd.C k99 w A0 l0.length l0) (hc0 : l0.length ≤ c0) (h : impl_copiedScores.f l0 = some r) :
    Calls Try.prog 102 #[.slice A0 l0.length c0] w fun e w' => ∃ v0_ : Value, e = .returned (v0_) ∧ Kd.R k99 99 w' w.heap.size (fun _ => True) v0_ r ∧ Below w.heap.size w w' := by
  have HR0 := zq9 hr0; have HC0 := zq9 hc0; clear hr0 hc0
  have HB := zq9 (Below.refl w.heap.size w)
  have H : ((some (([] : List (S99)) : List (S99))).bind fun y831 => (if y831.length + l0.length < 5864062014805 then (some (y831 ++ l0)) else (none))) = some r := h
  clear h
  obtain ⟨y831, hy831⟩ : ∃ y_ : List (S99), y_ = (([] : List (S99))) := ⟨_, rfl⟩
  replace H : (if y831.length + l0.length < 5864062014805 then (some (y831 ++ l0)) else (none)) = some r := by first | (rw [hy831]; with_reducible exact H) | (have H2_ := (Option.bind_some _ _).symm.trans H; rw [hy831]; with_reducible exact H2_) | (have H2_ := (Option.bind_some _ _).symm.trans H; with_reducible exact H2_) | with_reducible exact H | (rw [hy831]; exact H) | exact H
  have Ny831 := zq9 hy831; clear hy831
  by_cases c2 : y831.length + l0.length < 5864062014805
  · rw [if_pos c2] at H; have LMc2 := zq9 c2; clear c2
    obtain ⟨y834, hy834⟩ : ∃ y_ : List (S99), y_ = (y831 ++ l0) := ⟨_, rfl⟩
    replace H : (some y834) = some r := by first | (rw [hy834]; with_reducible exact H) | (have H2_ := (Option.bind_some _ _).symm.trans H; rw [hy834]; with_reducible exact H2_) | (have H2_ := (Option.bind_some _ _).symm.trans H; with_reducible exact H2_) | with_reducible exact H | (rw [hy834]; exact H) | exact H
    have Ny834 := zq9 hy834; clear hy834; obtain rfl := Option.some.inj H
    go_enter Try.func102, Try.ntmps102
    go_wp2_with (first | ((with_reducible refine zq25 (N := 3) rfl ?_); refine Kd.R_lit k99 _ 99 ?hg (N := 3) ?hd (xs := ([] : List (S99))) (inner := []) (ok := fun _ => True) (okp := fun _ => True) ?hr ?hp (fun _ hk => hk) trivial (Below.refl _ _) (Nat.le_refl _) (by simp) ?_; (case hd => rfl); (case hg => rfl); (case hr => first | (go_simp; done) | (go_simp; rfl)); (case hp => exact (Reps.none _ _)); intro v832 w3 ho4 hb hg_ hnew_; clear hg_ hnew_; (first | rw [← Ny831.out] at ho4 | (simp only [Int.reduceToNat] at ho4; rw [← Ny831.out] at ho4)); have n0_ := zq9 (Kd.R_lower ho4 (zq29 (by exact bl HB))); have n1_ := zq9 (zq27 (by exact bl HB) hb); clear HB; have HO833 := n0_; have HB := n1_; clear n0_ n1_; clear hb ho4) | ((with_reducible refine gate_builtin (b := .append) (xs := #[.tmp 3, .tmp 4]) rfl ?_); at_builtin; refine Kd.R_append_rows k99 (w0 := w) w.heap.size rfl (.tmp 3) (.tmp 4) 29 99 (.agg #[(.string ⟨#[]⟩), (.int .i64 0)]) 24 rfl Try.underlying29 info99 rfl (by decide) (by omega) v832 y831 l0 _ _ _ (fun _ => True) (fun _ => False) rfl rfl ?aO ?aR (fun _ _ h => h) (fun _ h => h.elim) ?aF ?aB ?aS ?aL ?_; (case aR => exact kc HR0 HB); (case aB => exact (by exact bl HB)); (case aF => exact (fun _ _ => trivial)); (case aO => exact (by exact rz HO833)); (case aS => exact (zq29 (by exact bl HB))); (case aL => have := LMc2.out; omega); intro v835 w5 ho hb hg hat; rw [← Ny834.out] at ho; have n0_ := zq9 (hb); have n1_ := zq9 (ho); clear HB; clear HO833; have HB := n0_; have HO836 := n1_; clear n0_ n1_; clear ho hb hg hat))
    go_ret
    exact ⟨_, by first | rfl | (simp [errW_none, errW_some] <;> rfl) | (simp [*, errW_none, errW_some] <;> rfl), by (with_reducible repeat (first | apply zq10 | apply zq11 | apply zq12)); exact HO836.out, by exact bl HB⟩
  · rw [if_neg c2] at H
    exact absurd H (by simp)
set_option maxHeartbeats 8000000 in
set_option maxRecDepth 100000 in
theorem impl_copiedPairs.calls (A0 : Option Addr) (c0 : Nat) (l0 : List (S101)) (r : List (S101)) (w : World) (hr0 : Kd.C k101 w A0 l0.length l0) (hc0 : l0.length ≤ c0) (h : impl_copiedPairs.f l0 = some r) :
    Calls Try.prog 103 #[.slice A0 l0.length c0] w fun e w' => ∃ v0_ : Value, e = .returned (v0_) ∧ Kd.R k101 101 w' w.heap.size (fun _ => True) v0_ r ∧ Below w.heap.size w w' := by
  have HR0 := zq9 hr0; have HC0 := zq9 hc0; clear hr0 hc0
  have HB := zq9 (Below.refl w.heap.size w)
  have H : ((some (([] : List (S101)) : List (S101))).bind fun y837 => (if y837.length + l0.length < 4398046511104 then (some (y837 ++ l0)) else (none))) = some r := h
  clear h
  obtain ⟨y837, hy837⟩ : ∃ y_ : List (S101), y_ = (([] : List (S101))) := ⟨_, rfl⟩
  replace H : (if y837.length + l0.length < 4398046511104 then (some (y837 ++ l0)) else (none)) = some r := by first | (rw [hy837]; with_reducible exact H) | (have H2_ := (Option.bind_some _ _).symm.trans H; rw [hy837]; with_reducible exact H2_) | (have H2_ := (Option.bind_some _ _).symm.trans H; with_reducible exact H2_) | with_reducible exact H | (rw [hy837]; exact H) | exact H
  have Ny837 := zq9 hy837; clear hy837
  by_cases c2 : y837.length + l0.length < 4398046511104
  · rw [if_pos c2] at H; have LMc2 := zq9 c2; clear c2
    obtain ⟨y840, hy840⟩ : ∃ y_ : List (S101), y_ = (y837 ++ l0) := ⟨_, rfl⟩
    replace H : (some y840) = some r := by first | (rw [hy840]; with_reducible exact H) | (have H2_ := (Option.bind_some _ _).symm.trans H; rw [hy840]; with_reducible exact H2_) | (have H2_ := (Option.bind_some _ _).symm.trans H; with_reducible exact H2_) | with_reducible exact H | (rw [hy840]; exact H) | exact H
    have Ny840 := zq9 hy840; clear hy840; obtain rfl := Option.some.inj H
    go_enter Try.func103, Try.ntmps103
    go_wp2_with (first | ((with_reducible refine zq25 (N := 3) rfl ?_); refine Kd.R_lit k101 _ 101 ?hg (N := 3) ?hd (xs := ([] : List (S101))) (inner := []) (ok := fun _ => True) (okp := fun _ => True) ?hr ?hp (fun _ hk => hk) trivial (Below.refl _ _) (Nat.le_refl _) (by simp) ?_; (case hd => rfl); (case hg => rfl); (case hr => first | (go_simp; done) | (go_simp; rfl)); (case hp => exact (Reps.none _ _)); intro v838 w3 ho4 hb hg_ hnew_; clear hg_ hnew_; (first | rw [← Ny837.out] at ho4 | (simp only [Int.reduceToNat] at ho4; rw [← Ny837.out] at ho4)); have n0_ := zq9 (Kd.R_lower ho4 (zq29 (by exact bl HB))); have n1_ := zq9 (zq27 (by exact bl HB) hb); clear HB; have HO839 := n0_; have HB := n1_; clear n0_ n1_; clear hb ho4) | ((with_reducible refine gate_builtin (b := .append) (xs := #[.tmp 3, .tmp 4]) rfl ?_); at_builtin; refine Kd.R_append_rows k101 (w0 := w) w.heap.size rfl (.tmp 3) (.tmp 4) 30 101 (.agg #[(.string ⟨#[]⟩), (.string ⟨#[]⟩)]) 32 rfl Try.underlying30 info101 rfl (by decide) (by omega) v838 y837 l0 _ _ _ (fun _ => True) (fun _ => False) rfl rfl ?aO ?aR (fun _ _ h => h) (fun _ h => h.elim) ?aF ?aB ?aS ?aL ?_; (case aR => exact kc HR0 HB); (case aB => exact (by exact bl HB)); (case aF => exact (fun _ _ => trivial)); (case aO => exact (by exact rz HO839)); (case aS => exact (zq29 (by exact bl HB))); (case aL => have := LMc2.out; omega); intro v841 w5 ho hb hg hat; rw [← Ny840.out] at ho; have n0_ := zq9 (hb); have n1_ := zq9 (ho); clear HB; clear HO839; have HB := n0_; have HO842 := n1_; clear n0_ n1_; clear ho hb hg hat))
    go_ret
    exact ⟨_, by first | rfl | (simp [errW_none, errW_some] <;> rfl) | (simp [*, errW_none, errW_some] <;> rfl), by (with_reducible repeat (first | apply zq10 | apply zq11 | apply zq12)); exact HO842.out, by exact bl HB⟩
  · rw [if_neg c2] at H
    exact absurd H (by simp)
set_option maxHeartbeats 8000000 in
set_option maxRecDepth 100000 in
theorem impl_cloneEntry.calls (a0_0 : ByteArray) (a0_1 : Int) (a0_2 : Int) (a0_3 : ByteArray) (A0_4 : Option Addr) (c0_4 : Nat) (l0_4 : List ByteArray) (A0_5 : Option Addr) (c0_5 : Nat) (l0_5 : List (S99)) (A0_6 : Option Addr) (c0_6 : Nat) (l0_6 : List (S101)) (r1 : ByteArray) (r2 : Int) (r3 : Int) (r4 : ByteArray) (r5 : List ByteArray) (r6 : List (S99)) (r7 : List (S101)) (w : World) (hr0_4 : Kd.C Kd.string w A0_4 l0_4.length l0_4) (hc0_4 : l0_4.length ≤ c0_4) (hr0_5 : Kd.C k99 w A0_5 l0_5.length l0_5) (hc0_5 : l0_5.length ≤ c0_5) (hr0_6 : Kd.C k101 w A0_6 l0_6.length l0_6) (hc0_6 : l0_6.length ≤ c0_6) (h : impl_cloneEntry.f a0_0 a0_1 a0_2 a0_3 l0_4 l0_5 l0_6 = some (r1, r2, r3, r4, r5, r6, r7)) :
    Calls Try.prog 68 #[.agg #[.string a0_0, .int .i64 a0_1, .int .i64 a0_2, .string a0_3, .slice A0_4 l0_4.length c0_4, .slice A0_5 l0_5.length c0_5, .slice A0_6 l0_6.length c0_6]] w fun e w' => ∃ v4_ v5_ v6_ : Value, e = .returned (.agg #[.string r1, .int .i64 r2, .int .i64 r3, .string r4, v4_, v5_, v6_]) ∧ Kd.R Kd.string 9 w' w.heap.size (fun _ => True) v4_ r5 ∧ Kd.R k99 99 w' w.heap.size (fun _ => True) v5_ r6 ∧ Kd.R k101 101 w' w.heap.size (fun _ => True) v6_ r7 ∧ Below w.heap.size w w' := by
  have hu32 := Try.underlying32; have HR0_4 := zq9 hr0_4; have HC0_4 := zq9 hc0_4; clear hr0_4 hc0_4; have HR0_5 := zq9 hr0_5; have HC0_5 := zq9 hc0_5; clear hr0_5 hc0_5; have HR0_6 := zq9 hr0_6; have HC0_6 := zq9 hc0_6; clear hr0_6 hc0_6
  have HB := zq9 (Below.refl w.heap.size w)
  have H : ((impl_copied.f l0_4).bind fun t845 => ((impl_copiedScores.f l0_5).bind fun t848 => ((impl_copiedPairs.f l0_6).bind fun t851 => (some (a0_0, a0_1, a0_2, a0_3, t845, t848, t851))))) = some (r1, r2, r3, r4, r5, r6, r7) := h
  clear h; replace H := Option.bind_eq_some_iff.mp H; obtain ⟨t845, A20, H⟩ := H
  try dsimp only at H
  have A2 := zq9 A20; clear A20; replace H := Option.bind_eq_some_iff.mp H; obtain ⟨t848, A30, H⟩ := H
  try dsimp only at H
  have A3 := zq9 A30; clear A30; replace H := Option.bind_eq_some_iff.mp H; obtain ⟨t851, A40, H⟩ := H
  try dsimp only at H
  have A4 := zq9 A40; clear A40
  simp only [Option.some.injEq, Prod.mk.injEq] at H
  obtain ⟨rfl, rfl, rfl, rfl, rfl, rfl, rfl⟩ := H
  go_enter Try.func68, Try.ntmps68
  go_wp2_with (first | ((with_reducible refine zq25 (N := 1) rfl ?_); refine bx 1 #[.string a0_0, .int .i64 a0_1, .int .i64 a0_2, .string a0_3, .slice A0_4 l0_4.length c0_4, .slice A0_5 l0_5.length c0_5, .slice A0_6 l0_6.length c0_6] 32 ?_; intro gb843 hg w5 hbox hb; have n0_ := zq9 (zq27 (by exact bl HB) hb); have n1_ := zq9 (hbox); have n2_ := zq9 ((by rw [hg]; exact (zq29 (by exact bl HB)) : w.heap.size ≤ gb843)); have n3_ := n2_; clear HB; have HB := n0_; have BK843 := n1_; have GW843 := n2_; have GE843 := n3_; clear n0_ n1_ n2_ n3_; clear hb hbox hg) | ((with_reducible refine zq25 (N := 2) rfl ?_); refine bx 2 #[.string (⟨#[]⟩ : ByteArray), .int .i64 0, .int .i64 0, .string (⟨#[]⟩ : ByteArray), .slice none 0 0, .slice none 0 0, .slice none 0 0] 32 ?_; intro gb844 hg w6 hbox hb; have n0_ := zq9 (zq30 (g := gb843) (o := .cells #[.string a0_0, .int .i64 a0_1, .int .i64 a0_2, .string a0_3, .slice A0_4 l0_4.length c0_4, .slice A0_5 l0_5.length c0_5, .slice A0_6 l0_6.length c0_6] 32 (0, 0)) (by exact bk BK843) hb); have n1_ := zq9 (zq27 (by exact b1 HB GE843) hb); have n2_ := zq9 (hbox); have n3_ := zq9 ((by rw [hg]; exact (zq29 (by exact b1 HB GE843)) : w.heap.size ≤ gb844)); have n4_ := n3_; have n5_ := zq9 ((by rw [hg]; exact Nat.ne_of_lt (blk_lt (g := gb843) (o := .cells #[.string a0_0, .int .i64 a0_1, .int .i64 a0_2, .string a0_3, .slice A0_4 l0_4.length c0_4, .slice A0_5 l0_5.length c0_5, .slice A0_6 l0_6.length c0_6] 32 (0, 0)) (by exact bk BK843)) : gb843 ≠ gb844)); have n6_ := zq9 ((by rw [hg]; exact Nat.ne_of_gt (blk_lt (g := gb843) (o := .cells #[.string a0_0, .int .i64 a0_1, .int .i64 a0_2, .string a0_3, .slice A0_4 l0_4.length c0_4, .slice A0_5 l0_5.length c0_5, .slice A0_6 l0_6.length c0_6] 32 (0, 0)) (by exact bk BK843)) : gb844 ≠ gb843)); clear BK843; clear HB; have BK843 := n0_; have HB := n1_; have BK844 := n2_; have GW844 := n3_; have GE844 := n4_; have NB843_844 := n5_; have NB844_843 := n6_; clear n0_ n1_ n2_ n3_ n4_ n5_ n6_; clear hb hbox hg; have hnb7 := NB843_844.out; have hnc7 := NB844_843.out; have hcz8_0 : w6.cell? ⟨gb843, 0, none⟩ = some (.string a0_0) := bc BK843 0; have hcz8_1 : w6.cell? ⟨gb843, 1, none⟩ = some (.int .i64 a0_1) := bc BK843 1; have hcz8_2 : w6.cell? ⟨gb843, 2, none⟩ = some (.int .i64 a0_2) := bc BK843 2; have hcz8_3 : w6.cell? ⟨gb843, 3, none⟩ = some (.string a0_3) := bc BK843 3; have hcz8_4 : w6.cell? ⟨gb843, 4, none⟩ = some (.slice A0_4 l0_4.length c0_4) := bc BK843 4; have hcz8_5 : w6.cell? ⟨gb843, 5, none⟩ = some (.slice A0_5 l0_5.length c0_5) := bc BK843 5; have hcz8_6 : w6.cell? ⟨gb843, 6, none⟩ = some (.slice A0_6 l0_6.length c0_6) := bc BK843 6; have hfz8_0 := zq6 BK843.out 0; have hfz8_1 := zq6 BK843.out 1; have hfz8_2 := zq6 BK843.out 2; have hfz8_3 := zq6 BK843.out 3; have hfz8_4 := zq6 BK843.out 4; have hfz8_5 := zq6 BK843.out 5; have hfz8_6 := zq6 BK843.out 6) | ((with_reducible refine zq24 (f := 101) rfl ?_); refine gl (some 5) Try.func101 #[.slice A0_4 l0_4.length c0_4] ?_; (with_reducible refine (impl_copied.calls _ _ l0_4 t845 _ ?side1 ?side2 A2.out).mono ?_); (case side1 => exact kc HR0_4 HB); (case side2 => exact HC0_4.out); rintro e w9 ⟨v846, rfl, ho0, hb⟩; refine ⟨_, rfl, ?_⟩; have n0_ := zq9 (Kd.R_lower ho0 (zq29 (by exact b2 HB GE843 GE844))); have n1_ := zq9 (zq30 (g := gb843) (o := .cells #[.string a0_0, .int .i64 a0_1, .int .i64 a0_2, .string a0_3, .slice A0_4 l0_4.length c0_4, .slice A0_5 l0_5.length c0_5, .slice A0_6 l0_6.length c0_6] 32 (0, 0)) (by exact bk BK843) hb); have n2_ := zq9 (zq30 (g := gb844) (o := .cells #[.string (⟨#[]⟩ : ByteArray), .int .i64 0, .int .i64 0, .string (⟨#[]⟩ : ByteArray), .slice none 0 0, .slice none 0 0, .slice none 0 0] 32 (0, 0)) (by exact bk BK844) hb); have n3_ := zq9 (zq27 (by exact b2 HB GE843 GE844) hb); clear BK843; clear BK844; clear HB; have HO847 := n0_; have BK843 := n1_; have BK844 := n2_; have HB := n3_; clear n0_ n1_ n2_ n3_; (try clear hb); (try clear hb2); (try clear hk); (try clear hi); (try clear ho0); obtain ⟨Ao10, co10, eo10⟩ := Kd.R_slice HO847.out; subst eo10; have hcz11_0 : w9.cell? ⟨gb843, 0, none⟩ = some (.string a0_0) := bc BK843 0; have hcz11_1 : w9.cell? ⟨gb843, 1, none⟩ = some (.int .i64 a0_1) := bc BK843 1; have hcz11_2 : w9.cell? ⟨gb843, 2, none⟩ = some (.int .i64 a0_2) := bc BK843 2; have hcz11_3 : w9.cell? ⟨gb843, 3, none⟩ = some (.string a0_3) := bc BK843 3; have hcz11_4 : w9.cell? ⟨gb843, 4, none⟩ = some (.slice A0_4 l0_4.length c0_4) := bc BK843 4; have hcz11_5 : w9.cell? ⟨gb843, 5, none⟩ = some (.slice A0_5 l0_5.length c0_5) := bc BK843 5; have hcz11_6 : w9.cell? ⟨gb843, 6, none⟩ = some (.slice A0_6 l0_6.length c0_6) := bc BK843 6; have hfz11_0 := zq6 BK843.out 0; have hfz11_1 := zq6 BK843.out 1; have hfz11_2 := zq6 BK843.out 2; have hfz11_3 := zq6 BK843.out 3; have hfz11_4 := zq6 BK843.out 4; have hfz11_5 := zq6 BK843.out 5; have hfz11_6 := zq6 BK843.out 6) | ((with_reducible refine zq24 (f := 102) rfl ?_); refine gl (some 9) Try.func102 #[.slice A0_5 l0_5.length c0_5] ?_; (with_reducible refine (impl_copiedScores.calls _ _ l0_5 t848 _ ?side1 ?side2 A3.out).mono ?_); (case side1 => exact zq31 HR0_5.out (by exact b2 HB GE843 GE844)); (case side2 => exact HC0_5.out); rintro e w12 ⟨v849, rfl, ho0, hb⟩; refine ⟨_, rfl, ?_⟩; have n0_ := zq9 (Kd.R_below (by (with_reducible repeat (first | apply zq10 | apply zq11 | apply zq12)); exact (Kd.R_mono (Kd.R_far (p := ⟨gb843, 4, none⟩) (Kd.R_types HO847.out BK843.out (by decide)) (fun _ hk => hk.2) (.slice Ao10 t845.length co10)) (fun _ h_ => h_.1))) hb); have n1_ := zq9 (Kd.R_lower ho0 (zq29 (by exact b2 HB GE843 GE844))); have n2_ := zq9 (zq30 (g := gb843) (o := .cells #[.string a0_0, .int .i64 a0_1, .int .i64 a0_2, .string a0_3, .slice Ao10 t845.length co10, .slice A0_5 l0_5.length c0_5, .slice A0_6 l0_6.length c0_6] 32 (0, 0)) (by refine bp ?_; refine blk_put (cs := #[.string a0_0, .int .i64 a0_1, .int .i64 a0_2, .string a0_3, .slice A0_4 l0_4.length c0_4, .slice A0_5 l0_5.length c0_5, .slice A0_6 l0_6.length c0_6]) ?_ 4 _ rfl; refine bp ?_; exact BK843.out) hb); have n3_ := zq9 (zq30 (g := gb844) (o := .cells #[.string (⟨#[]⟩ : ByteArray), .int .i64 0, .int .i64 0, .string (⟨#[]⟩ : ByteArray), .slice none 0 0, .slice none 0 0, .slice none 0 0] 32 (0, 0)) (by refine bp ?_; refine blk_far ?_ NB844_843.out _; refine bp ?_; exact BK844.out) hb); have n4_ := zq9 (zq27 (by exact b2 HB GE843 GE844) hb); clear HO847; clear BK843; clear BK844; clear HB; have HO847 := n0_; have HO850 := n1_; have BK843 := n2_; have BK844 := n3_; have HB := n4_; clear n0_ n1_ n2_ n3_ n4_; (try clear hb); (try clear hb2); (try clear hk); (try clear hi); (try clear ho0); obtain ⟨Ao13, co13, eo13⟩ := Kd.R_slice HO850.out; subst eo13; have hcz14_0 : w12.cell? ⟨gb843, 0, none⟩ = some (.string a0_0) := bc BK843 0; have hcz14_1 : w12.cell? ⟨gb843, 1, none⟩ = some (.int .i64 a0_1) := bc BK843 1; have hcz14_2 : w12.cell? ⟨gb843, 2, none⟩ = some (.int .i64 a0_2) := bc BK843 2; have hcz14_3 : w12.cell? ⟨gb843, 3, none⟩ = some (.string a0_3) := bc BK843 3; have hcz14_4 : w12.cell? ⟨gb843, 4, none⟩ = some (.slice Ao10 t845.length co10) := bc BK843 4; have hcz14_5 : w12.cell? ⟨gb843, 5, none⟩ = some (.slice A0_5 l0_5.length c0_5) := bc BK843 5; have hcz14_6 : w12.cell? ⟨gb843, 6, none⟩ = some (.slice A0_6 l0_6.length c0_6) := bc BK843 6; have hfz14_0 := zq6 BK843.out 0; have hfz14_1 := zq6 BK843.out 1; have hfz14_2 := zq6 BK843.out 2; have hfz14_3 := zq6 BK843.out 3; have hfz14_4 := zq6 BK843.out 4; have hfz14_5 := zq6 BK843.out 5; have hfz14_6 := zq6 BK843.out 6) | ((with_reducible refine zq24 (f := 103) rfl ?_); refine gl (some 13) Try.func103 #[.slice A0_6 l0_6.length c0_6] ?_; (with_reducible refine (impl_copiedPairs.calls _ _ l0_6 t851 _ ?side1 ?side2 A4.out).mono ?_); (case side1 => exact zq31 HR0_6.out (by exact b2 HB GE843 GE844)); (case side2 => exact HC0_6.out); rintro e w15 ⟨v852, rfl, ho0, hb⟩; refine ⟨_, rfl, ?_⟩; have n0_ := zq9 (Kd.R_below (by (with_reducible repeat (first | apply zq10 | apply zq11 | apply zq12)); exact (Kd.R_mono (Kd.R_far (p := ⟨gb843, 5, none⟩) (Kd.R_types HO847.out BK843.out (by decide)) (fun _ hk => hk.2) (.slice Ao13 t848.length co13)) (fun _ h_ => h_.1))) hb); have n1_ := zq9 (Kd.R_below (by (with_reducible repeat (first | apply zq10 | apply zq11 | apply zq12)); exact (Kd.R_mono (Kd.R_far (p := ⟨gb843, 5, none⟩) (Kd.R_types HO850.out BK843.out (by decide)) (fun _ hk => hk.2) (.slice Ao13 t848.length co13)) (fun _ h_ => h_.1))) hb); have n2_ := zq9 (Kd.R_lower ho0 (zq29 (by exact b2 HB GE843 GE844))); have n3_ := zq9 (zq30 (g := gb843) (o := .cells #[.string a0_0, .int .i64 a0_1, .int .i64 a0_2, .string a0_3, .slice Ao10 t845.length co10, .slice Ao13 t848.length co13, .slice A0_6 l0_6.length c0_6] 32 (0, 0)) (by refine bp ?_; refine blk_put (cs := #[.string a0_0, .int .i64 a0_1, .int .i64 a0_2, .string a0_3, .slice Ao10 t845.length co10, .slice A0_5 l0_5.length c0_5, .slice A0_6 l0_6.length c0_6]) ?_ 5 _ rfl; refine bp ?_; exact BK843.out) hb); have n4_ := zq9 (zq30 (g := gb844) (o := .cells #[.string (⟨#[]⟩ : ByteArray), .int .i64 0, .int .i64 0, .string (⟨#[]⟩ : ByteArray), .slice none 0 0, .slice none 0 0, .slice none 0 0] 32 (0, 0)) (by refine bp ?_; refine blk_far ?_ NB844_843.out _; refine bp ?_; exact BK844.out) hb); have n5_ := zq9 (zq27 (by exact b2 HB GE843 GE844) hb); clear HO847; clear HO850; clear BK843; clear BK844; clear HB; have HO847 := n0_; have HO850 := n1_; have HO853 := n2_; have BK843 := n3_; have BK844 := n4_; have HB := n5_; clear n0_ n1_ n2_ n3_ n4_ n5_; (try clear hb); (try clear hb2); (try clear hk); (try clear hi); (try clear ho0); obtain ⟨Ao16, co16, eo16⟩ := Kd.R_slice HO853.out; subst eo16; have hcz17_0 : w15.cell? ⟨gb843, 0, none⟩ = some (.string a0_0) := bc BK843 0; have hcz17_1 : w15.cell? ⟨gb843, 1, none⟩ = some (.int .i64 a0_1) := bc BK843 1; have hcz17_2 : w15.cell? ⟨gb843, 2, none⟩ = some (.int .i64 a0_2) := bc BK843 2; have hcz17_3 : w15.cell? ⟨gb843, 3, none⟩ = some (.string a0_3) := bc BK843 3; have hcz17_4 : w15.cell? ⟨gb843, 4, none⟩ = some (.slice Ao10 t845.length co10) := bc BK843 4; have hcz17_5 : w15.cell? ⟨gb843, 5, none⟩ = some (.slice Ao13 t848.length co13) := bc BK843 5; have hcz17_6 : w15.cell? ⟨gb843, 6, none⟩ = some (.slice A0_6 l0_6.length c0_6) := bc BK843 6; have hfz17_0 := zq6 BK843.out 0; have hfz17_1 := zq6 BK843.out 1; have hfz17_2 := zq6 BK843.out 2; have hfz17_3 := zq6 BK843.out 3; have hfz17_4 := zq6 BK843.out 4; have hfz17_5 := zq6 BK843.out 5; have hfz17_6 := zq6 BK843.out 6; have hcz18_0 : w15.cell? ⟨gb844, 0, none⟩ = some (.string (⟨#[]⟩ : ByteArray)) := bc BK844 0; have hcz18_1 : w15.cell? ⟨gb844, 1, none⟩ = some (.int .i64 0) := bc BK844 1; have hcz18_2 : w15.cell? ⟨gb844, 2, none⟩ = some (.int .i64 0) := bc BK844 2; have hcz18_3 : w15.cell? ⟨gb844, 3, none⟩ = some (.string (⟨#[]⟩ : ByteArray)) := bc BK844 3; have hcz18_4 : w15.cell? ⟨gb844, 4, none⟩ = some (.slice none 0 0) := bc BK844 4; have hcz18_5 : w15.cell? ⟨gb844, 5, none⟩ = some (.slice none 0 0) := bc BK844 5; have hcz18_6 : w15.cell? ⟨gb844, 6, none⟩ = some (.slice none 0 0) := bc BK844 6; have hfz18_0 := zq6 BK844.out 0; have hfz18_1 := zq6 BK844.out 1; have hfz18_2 := zq6 BK844.out 2; have hfz18_3 := zq6 BK844.out 3; have hfz18_4 := zq6 BK844.out 4; have hfz18_5 := zq6 BK844.out 5; have hfz18_6 := zq6 BK844.out 6))
  refine bodyPost_ret (results_cell_row rfl _ _ gb844 32 #[.string a0_0, .int .i64 a0_1, .int .i64 a0_2, .string a0_3, .slice Ao10 t845.length co10, .slice Ao13 t848.length co13, .slice Ao16 t851.length co16] (0, 0) _ rfl (by refine bp ?_; refine blk_put (cs := #[.string a0_0, .int .i64 a0_1, .int .i64 a0_2, .string a0_3, .slice Ao10 t845.length co10, .slice Ao13 t848.length co13, .slice none 0 0]) ?_ 6 _ rfl; refine bp ?_; refine blk_put (cs := #[.string a0_0, .int .i64 a0_1, .int .i64 a0_2, .string a0_3, .slice Ao10 t845.length co10, .slice none 0 0, .slice none 0 0]) ?_ 5 _ rfl; refine bp ?_; refine blk_put (cs := #[.string a0_0, .int .i64 a0_1, .int .i64 a0_2, .string a0_3, .slice none 0 0, .slice none 0 0, .slice none 0 0]) ?_ 4 _ rfl; refine bp ?_; refine blk_put (cs := #[.string a0_0, .int .i64 a0_1, .int .i64 a0_2, .string (⟨#[]⟩ : ByteArray), .slice none 0 0, .slice none 0 0, .slice none 0 0]) ?_ 3 _ rfl; refine bp ?_; refine blk_put (cs := #[.string a0_0, .int .i64 a0_1, .int .i64 0, .string (⟨#[]⟩ : ByteArray), .slice none 0 0, .slice none 0 0, .slice none 0 0]) ?_ 2 _ rfl; refine bp ?_; refine blk_put (cs := #[.string a0_0, .int .i64 0, .int .i64 0, .string (⟨#[]⟩ : ByteArray), .slice none 0 0, .slice none 0 0, .slice none 0 0]) ?_ 1 _ rfl; refine bp ?_; refine blk_put (cs := #[.string (⟨#[]⟩ : ByteArray), .int .i64 0, .int .i64 0, .string (⟨#[]⟩ : ByteArray), .slice none 0 0, .slice none 0 0, .slice none 0 0]) ?_ 0 _ rfl; refine bp ?_; refine blk_far ?_ NB844_843.out _; refine bp ?_; exact BK844.out) Try.underlying32 rfl (by kernel_rfl)) rfl ?_
  exact ⟨_, _, _, by first | rfl | (simp [errW_none, errW_some] <;> rfl) | (simp [*, errW_none, errW_some] <;> rfl), by (with_reducible repeat (first | apply zq10 | apply zq11 | apply zq12)); exact Kd.R_mono (Kd.R_far (p := ⟨gb844, 6, none⟩) (Kd.R_far (p := ⟨gb844, 5, none⟩) (Kd.R_far (p := ⟨gb844, 4, none⟩) (Kd.R_far (p := ⟨gb844, 3, none⟩) (Kd.R_far (p := ⟨gb844, 2, none⟩) (Kd.R_far (p := ⟨gb844, 1, none⟩) (Kd.R_far (p := ⟨gb844, 0, none⟩) (Kd.R_far (p := ⟨gb843, 6, none⟩) (Kd.R_types (Kd.R_types HO847.out BK843.out (by decide)) BK844.out (by decide)) (fun _ hk => hk.1.2) (.slice Ao16 t851.length co16)) (fun _ hk => hk.2) (.string a0_0)) (fun _ hk => hk.2) (.int .i64 a0_1)) (fun _ hk => hk.2) (.int .i64 a0_2)) (fun _ hk => hk.2) (.string a0_3)) (fun _ hk => hk.2) (.slice Ao10 t845.length co10)) (fun _ hk => hk.2) (.slice Ao13 t848.length co13)) (fun _ hk => hk.2) (.slice Ao16 t851.length co16)) (fun _ hk => trivial), by (with_reducible repeat (first | apply zq10 | apply zq11 | apply zq12)); exact Kd.R_mono (Kd.R_far (p := ⟨gb844, 6, none⟩) (Kd.R_far (p := ⟨gb844, 5, none⟩) (Kd.R_far (p := ⟨gb844, 4, none⟩) (Kd.R_far (p := ⟨gb844, 3, none⟩) (Kd.R_far (p := ⟨gb844, 2, none⟩) (Kd.R_far (p := ⟨gb844, 1, none⟩) (Kd.R_far (p := ⟨gb844, 0, none⟩) (Kd.R_far (p := ⟨gb843, 6, none⟩) (Kd.R_types (Kd.R_types HO850.out BK843.out (by decide)) BK844.out (by decide)) (fun _ hk => hk.1.2) (.slice Ao16 t851.length co16)) (fun _ hk => hk.2) (.string a0_0)) (fun _ hk => hk.2) (.int .i64 a0_1)) (fun _ hk => hk.2) (.int .i64 a0_2)) (fun _ hk => hk.2) (.string a0_3)) (fun _ hk => hk.2) (.slice Ao10 t845.length co10)) (fun _ hk => hk.2) (.slice Ao13 t848.length co13)) (fun _ hk => hk.2) (.slice Ao16 t851.length co16)) (fun _ hk => trivial), by (with_reducible repeat (first | apply zq10 | apply zq11 | apply zq12)); exact Kd.R_mono (Kd.R_far (p := ⟨gb844, 6, none⟩) (Kd.R_far (p := ⟨gb844, 5, none⟩) (Kd.R_far (p := ⟨gb844, 4, none⟩) (Kd.R_far (p := ⟨gb844, 3, none⟩) (Kd.R_far (p := ⟨gb844, 2, none⟩) (Kd.R_far (p := ⟨gb844, 1, none⟩) (Kd.R_far (p := ⟨gb844, 0, none⟩) (Kd.R_far (p := ⟨gb843, 6, none⟩) (Kd.R_types (Kd.R_types HO853.out BK843.out (by decide)) BK844.out (by decide)) (fun _ hk => hk.1.2) (.slice Ao16 t851.length co16)) (fun _ hk => hk.2) (.string a0_0)) (fun _ hk => hk.2) (.int .i64 a0_1)) (fun _ hk => hk.2) (.int .i64 a0_2)) (fun _ hk => hk.2) (.string a0_3)) (fun _ hk => hk.2) (.slice Ao10 t845.length co10)) (fun _ hk => hk.2) (.slice Ao13 t848.length co13)) (fun _ hk => hk.2) (.slice Ao16 t851.length co16)) (fun _ hk => trivial), by exact b2 HB GE843 GE844⟩
def impl_cloneBase.T5 : Bool × List (List Nat × List Nat) := (true, [([], []), ([0], [0]), ([], []), ([2], [2]), ([3], [3]), ([1, 4, 3], [1, 4]), ([0, 1, 2, 3, 4, 5], []), ([6, 5, 5, 0, 1, 2, 3, 4, 5], [5, 6])])
def impl_cloneBase.B5 : List Nat := [0, 1, 0, 4, 12, 31, 63, 127]
theorem impl_cloneBase.tab5 : rtab .any (opsOf Try.f75 5) = impl_cloneBase.T5 := by kernel_rfl
theorem impl_cloneBase.bits5 : waitsOk impl_cloneBase.T5.2 impl_cloneBase.B5 = true := by kernel_rfl
set_option maxHeartbeats 8000000 in
set_option maxRecDepth 100000 in
theorem impl_cloneBase.calls (k : Nat) (a0_0 : Int) (A0_1 : Option Addr) (c0_1 : Nat) (l0_1 : List (S32)) (r1 : Int) (r2 : List (S32)) (w : World) (hr0_1 : Kd.C k32 w A0_1 l0_1.length l0_1) (hc0_1 : l0_1.length ≤ c0_1) (h : impl_cloneBase.f k a0_0 l0_1 = some (r1, r2)) :
  Calls Try.prog 75 #[.agg #[.int .i64 a0_0, .slice A0_1 l0_1.length c0_1]] w fun e w' => ∃ v1_ : Value, e = .returned (.agg #[.int .i64 r1, v1_]) ∧ Kd.S k32 32 w' w.heap.size (fun _ => True) v1_ r2 ∧ Below w.heap.size w w' := by
 have hu46 := Try.underlying46; have hu32 := Try.underlying32; have HR0_1 := zq9 hr0_1; have HC0_1 := zq9 hc0_1; clear hr0_1 hc0_1
 have HB := zq9 (Below.refl w.heap.size w)
 have H : (impl_cloneBase.l0 k l0_1 (l0_1.length : Int) 0 a0_0 (([] : List (S32)))) = some (r1, r2) := h
 clear h
 obtain ⟨y951, hy951⟩ : ∃ y_ : List (S32), y_ = (([] : List (S32))) := ⟨_, rfl⟩
 replace H : (impl_cloneBase.l0 k l0_1 (l0_1.length : Int) 0 a0_0 y951) = some (r1, r2) := by first | (rw [hy951]; with_reducible exact H) | (have H2_ := (Option.bind_some _ _).symm.trans H; rw [hy951]; with_reducible exact H2_) | (have H2_ := (Option.bind_some _ _).symm.trans H; with_reducible exact H2_) | with_reducible exact H | (rw [hy951]; exact H) | exact H
 have Ny951 := zq9 hy951; clear hy951; have H' := zq9 H; clear H
 go_enter Try.func75, Try.ntmps75
 go_wp2_with (first | ((with_reducible refine zq25 (N := 1) rfl ?_); refine bx 1 #[.int .i64 a0_0, .slice A0_1 l0_1.length c0_1] 46 ?_; intro gb949 hg w2 hbox hb; have n0_ := zq9 (zq27 (by exact bl HB) hb); have n1_ := zq9 (hbox); have n2_ := zq9 ((by rw [hg]; exact (zq29 (by exact bl HB)) : w.heap.size ≤ gb949)); have n3_ := n2_; clear HB; have HB := n0_; have BK949 := n1_; have GW949 := n2_; have GE949 := n3_; clear n0_ n1_ n2_ n3_; clear hb hbox hg) | ((with_reducible refine zq25 (N := 2) rfl ?_); refine bx 2 #[.int .i64 0, .slice none 0 0] 46 ?_; intro gb950 hg w3 hbox hb; have n0_ := zq9 (zq30 (g := gb949) (o := .cells #[.int .i64 a0_0, .slice A0_1 l0_1.length c0_1] 46 (0, 0)) (by exact bk BK949) hb); have n1_ := zq9 (zq27 (by exact b1 HB GE949) hb); have n2_ := zq9 (hbox); have n3_ := zq9 ((by rw [hg]; exact (zq29 (by exact b1 HB GE949)) : w.heap.size ≤ gb950)); have n4_ := n3_; have n5_ := zq9 ((by rw [hg]; exact Nat.ne_of_lt (blk_lt (g := gb949) (o := .cells #[.int .i64 a0_0, .slice A0_1 l0_1.length c0_1] 46 (0, 0)) (by exact bk BK949)) : gb949 ≠ gb950)); have n6_ := zq9 ((by rw [hg]; exact Nat.ne_of_gt (blk_lt (g := gb949) (o := .cells #[.int .i64 a0_0, .slice A0_1 l0_1.length c0_1] 46 (0, 0)) (by exact bk BK949)) : gb950 ≠ gb949)); clear BK949; clear HB; have BK949 := n0_; have HB := n1_; have BK950 := n2_; have GW950 := n3_; have GE950 := n4_; have NB949_950 := n5_; have NB950_949 := n6_; clear n0_ n1_ n2_ n3_ n4_ n5_ n6_; clear hb hbox hg; have hnb4 := NB949_950.out; have hnc4 := NB950_949.out; have hcz5_0 : w3.cell? ⟨gb949, 0, none⟩ = some (.int .i64 a0_0) := bc BK949 0; have hcz5_1 : w3.cell? ⟨gb949, 1, none⟩ = some (.slice A0_1 l0_1.length c0_1) := bc BK949 1; have hfz5_0 := zq6 BK949.out 0; have hfz5_1 := zq6 BK949.out 1) | ((with_reducible refine zq25 (N := 8) rfl ?_); refine Kd.S_lit k32 _ 32 ?hg (N := 8) ?hd (xs := ([] : List (S32))) (inner := []) (ok := fun _ => True) (okp := fun _ => True) ?hr ?hp (fun _ hk => hk) trivial (Below.refl _ _) (Nat.le_refl _) (by simp) ?_; (case hd => rfl); (case hg => rfl); (case hr => first | (go_simp; done) | (go_simp; rfl)); (case hp => exact (Reps.none _ _)); intro v952 w6 ho7 hb hg_ hnew_; clear hg_ hnew_; (first | rw [← Ny951.out] at ho7 | (simp only [Int.reduceToNat] at ho7; rw [← Ny951.out] at ho7)); have n0_ := zq9 (Kd.S_lower ho7 (zq29 (by exact b2 HB GE949 GE950))); have n1_ := zq9 (zq30 (g := gb949) (o := .cells #[.int .i64 a0_0, .slice A0_1 l0_1.length c0_1] 46 (0, 0)) (by exact bk BK949) hb); have n2_ := zq9 (zq30 (g := gb950) (o := .cells #[.int .i64 0, .slice none 0 0] 46 (0, 0)) (by exact bk BK950) hb); have n3_ := zq9 (zq27 (by exact b2 HB GE949 GE950) hb); clear BK949; clear BK950; clear HB; have HO953 := n0_; have BK949 := n1_; have BK950 := n2_; have HB := n3_; clear n0_ n1_ n2_ n3_; clear hb ho7; obtain ⟨Ao8, co8, eo8⟩ := Kd.S_slice HO953.out; subst eo8) | ((with_reducible refine zq25 (N := 3) rfl ?_); refine bx 3 #[.int .i64 0, .slice none 0 0] 46 ?_; intro gb954 hg w9 hbox hb; have n0_ := zq9 (Kd.S_below (by (with_reducible repeat (first | apply Kd.S_alloc | apply Kd.S_drewN | apply Kd.S_drew)); exact HO953.out) hb); have n1_ := zq9 (zq30 (g := gb949) (o := .cells #[.int .i64 a0_0, .slice A0_1 l0_1.length c0_1] 46 (0, 0)) (by exact bk BK949) hb); have n2_ := zq9 (zq30 (g := gb950) (o := .cells #[.int .i64 0, .slice none 0 0] 46 (0, 0)) (by exact bk BK950) hb); have n3_ := zq9 (zq27 (by exact b2 HB GE949 GE950) hb); have n4_ := zq9 (hbox); have n5_ := zq9 ((by rw [hg]; exact (zq29 (by exact b2 HB GE949 GE950)) : w.heap.size ≤ gb954)); have n6_ := n5_; have n7_ := zq9 ((by rw [hg]; exact Nat.ne_of_lt (blk_lt (g := gb949) (o := .cells #[.int .i64 a0_0, .slice A0_1 l0_1.length c0_1] 46 (0, 0)) (by exact bk BK949)) : gb949 ≠ gb954)); have n8_ := zq9 ((by rw [hg]; exact Nat.ne_of_gt (blk_lt (g := gb949) (o := .cells #[.int .i64 a0_0, .slice A0_1 l0_1.length c0_1] 46 (0, 0)) (by exact bk BK949)) : gb954 ≠ gb949)); have n9_ := zq9 ((by rw [hg]; exact Nat.ne_of_lt (blk_lt (g := gb950) (o := .cells #[.int .i64 0, .slice none 0 0] 46 (0, 0)) (by exact bk BK950)) : gb950 ≠ gb954)); have n10_ := zq9 ((by rw [hg]; exact Nat.ne_of_gt (blk_lt (g := gb950) (o := .cells #[.int .i64 0, .slice none 0 0] 46 (0, 0)) (by exact bk BK950)) : gb954 ≠ gb950)); clear HO953; clear BK949; clear BK950; clear HB; have HO953 := n0_; have BK949 := n1_; have BK950 := n2_; have HB := n3_; have BK954 := n4_; have GW954 := n5_; have GE954 := n6_; have NB949_954 := n7_; have NB954_949 := n8_; have NB950_954 := n9_; have NB954_950 := n10_; clear n0_ n1_ n2_ n3_ n4_ n5_ n6_ n7_ n8_ n9_ n10_; clear hb hbox hg; have hnb10 := NB954_949.out; have hnc10 := NB949_954.out; have hnb11 := NB954_950.out; have hnc11 := NB950_954.out; have hcz12_0 : w9.cell? ⟨gb954, 0, none⟩ = some (.int .i64 0) := bc BK954 0; have hcz12_1 : w9.cell? ⟨gb954, 1, none⟩ = some (.slice none 0 0) := bc BK954 1; have hfz12_0 := zq6 BK954.out 0; have hfz12_1 := zq6 BK954.out 1; have hcz13_0 : w9.cell? ⟨gb949, 0, none⟩ = some (.int .i64 a0_0) := bc BK949 0; have hcz13_1 : w9.cell? ⟨gb949, 1, none⟩ = some (.slice A0_1 l0_1.length c0_1) := bc BK949 1; have hfz13_0 := zq6 BK949.out 0; have hfz13_1 := zq6 BK949.out 1))
 go_loopg [13] k (fun kq v13 w' => ∃ (x13_1 : Int) (x955001_1 : List (S32)) (u955001 : Value), v13 = .int .i64 x13_1 ∧ Aside0 (impl_cloneBase.l0 kq l0_1 (l0_1.length : Int) x13_1 a0_0 x955001_1 = some (r1, r2)) ∧ Aside0 (kq ≤ k) ∧ Aside0 (Kd.S k32 32 w' w.heap.size (fun _ => True) u955001 x955001_1) ∧ Aside0 (w'.heap[gb949]? = some (.cells #[.int .i64 a0_0, (.slice A0_1 l0_1.length c0_1)] 46 (0, 0))) ∧ Aside0 (w'.heap[gb950]? = some (.cells #[.int .i64 0, (.slice none 0 0)] 46 (0, 0))) ∧ Aside0 (w'.heap[gb954]? = some (.cells #[.int .i64 a0_0, u955001] 46 (0, 0))) ∧ Aside0 (Below w.heap.size w w'))
 case atStart => exact ⟨(0), (y951), (.slice Ao8 y951.length co8), (by first | rfl | (simp; done) | (simp [*]; done)), H', ⟨Nat.le_refl _⟩, ⟨by (with_reducible repeat (first | apply Kd.S_alloc | apply Kd.S_drewN | apply Kd.S_drew)); exact Kd.S_mono (Kd.S_far (p := ⟨gb954, 1, none⟩) (Kd.S_far (p := ⟨gb954, 0, none⟩) (Kd.S_types HO953.out BK954.out (by decide)) (fun _ hk => hk.2) (.int .i64 a0_0)) (fun _ hk => hk.2) (.slice Ao8 y951.length co8)) (fun _ hk => trivial)⟩, ⟨by refine bp ?_; refine blk_far ?_ NB949_954.out _; refine bp ?_; refine blk_far ?_ NB949_954.out _; refine bp ?_; exact BK949.out⟩, ⟨by refine bp ?_; refine blk_far ?_ NB950_954.out _; refine bp ?_; refine blk_far ?_ NB950_954.out _; refine bp ?_; exact BK950.out⟩, ⟨(blk_set (blk_set BK954.out 0 _) 1 _)⟩, ⟨by exact b3 HB GE949 GE950 GE954⟩⟩
 case round =>
  clear H'
  try clear c1
  try clear p2
  try clear c4
  try clear c7
  try clear c10
  try clear c11
  try clear hcz12_0
  try clear hcz12_1
  try clear hcz13_0
  try clear hcz13_1
  try clear hcz5_0
  try clear hcz5_1
  try clear hfz12_0
  try clear hfz12_1
  try clear hfz13_0
  try clear hfz13_1
  try clear hfz5_0
  try clear hfz5_1
  obtain ⟨x13_1, x955001_1, u955001, rfl, HA, HK1, HO_955001, BK949, BK950, BK954, HB⟩ := hrel
  cases gk with
  | zero => exact absurd HA.out (by simp [impl_cloneBase.l0])
  | succ k1 =>
   have H := HA.out; clear HA
   simp only [impl_cloneBase.l0] at H
   by_cases c14 : x13_1 < (l0_1.length : Int)
   ·rw [if_pos c14] at H; have c14b0 : decide (x13_1 < (l0_1.length : Int)) = true := decide_eq_true c14; clear c14
    by_cases c15 : 0 ≤ x13_1
    ·rw [if_pos c15] at H; have c15b0 : decide (0 ≤ x13_1) = true := decide_eq_true c15; clear c15
     by_cases c16 : x13_1 < (l0_1.length : Int)
     ·rw [if_pos c16] at H; have c16b0 : decide (x13_1 < (l0_1.length : Int)) = true := decide_eq_true c16; clear c16; replace H := Option.bind_eq_some_iff.mp H
      obtain ⟨⟨t957, t958, t959, t960, t961, t964, t967⟩, A170, H⟩ := H
      try dsimp only at H
      have A17 := zq9 A170; clear A170
      by_cases c18 : x955001_1.length < 1172812402961
      ·rw [if_pos c18] at H; have LMc18 := zq9 c18; clear c18
       obtain ⟨y970, hy970⟩ : ∃ y_ : List (S32), y_ = (x955001_1 ++ [(⟨t957, t958, t959, t960, t961, t964, t967⟩ : S32)]) := ⟨_, rfl⟩
       replace H : (impl_cloneBase.l0 k1 l0_1 (l0_1.length : Int) (wrap64 (x13_1 + 1)) a0_0 y970) = some (r1, r2) := by first | (rw [hy970]; with_reducible exact H) | (have H2_ := (Option.bind_some _ _).symm.trans H; rw [hy970]; with_reducible exact H2_) | (have H2_ := (Option.bind_some _ _).symm.trans H; with_reducible exact H2_) | with_reducible exact H | (rw [hy970]; exact H) | exact H
       have Ny970 := zq9 hy970; clear hy970; have H' := zq9 H; clear H
       have p955 : 0 ≤ (x13_1 : Int) := of_decide_eq_true ‹_›
       have q955 : x13_1 < (l0_1.length : Int) := of_decide_eq_true ‹_›
       obtain ⟨ad955, A955_4, c955_4, A955_5, c955_5, A955_6, c955_6, e955, hx955_0, hx955_1, hx955_2, hx955_3, hx955_4, hx955_5, hx955_6, hl955_4, hi955_4, hl955_5, hi955_5, hl955_6, hi955_6⟩ := at_T32 HR0_1.out x13_1 p955 q955
       cases e955; replace hx955_0 := hcl HB hx955_0; replace hx955_1 := hcl HB hx955_1; replace hx955_2 := hcl HB hx955_2; replace hx955_3 := hcl HB hx955_3; replace hx955_4 := hcl HB hx955_4; replace hx955_5 := hcl HB hx955_5; replace hx955_6 := hcl HB hx955_6; have HR955_4 := zq9 hi955_4; have HC955_4 := zq9 hl955_4; clear hi955_4 hl955_4; have HR955_5 := zq9 hi955_5; have HC955_5 := zq9 hl955_5
       clear hi955_5 hl955_5; have HR955_6 := zq9 hi955_6; have HC955_6 := zq9 hl955_6; clear hi955_6 hl955_6; replace p955 := eq_true p955; replace q955 := eq_true q955
       try go_wp2_with (first | ((with_reducible refine zq25 (N := 5) rfl ?_); refine bx 5 #[.string (⟨#[]⟩ : ByteArray), .int .i64 0, .int .i64 0, .string (⟨#[]⟩ : ByteArray), .slice none 0 0, .slice none 0 0, .slice none 0 0] 32 ?_; intro gb956 hg w19 hbox hb; have n0_ := zq9 (Kd.S_below (Kd.S_elderB (by (with_reducible repeat (first | apply Kd.S_alloc | apply Kd.S_drewN | apply Kd.S_drew)); exact HO_955001.out) gb956 (Nat.le_of_eq hg.symm)) hb); have n1_ := zq9 (zq30 (g := gb949) (o := .cells #[.int .i64 a0_0, .slice (some ad955) l0_1.length c0_1] 46 (0, 0)) (by exact bk BK949) hb); have n2_ := zq9 (zq30 (g := gb950) (o := .cells #[.int .i64 0, .slice none 0 0] 46 (0, 0)) (by exact bk BK950) hb); have n3_ := zq9 (zq30 (g := gb954) (o := .cells #[.int .i64 a0_0, u955001] 46 (0, 0)) (by exact bk BK954) hb); have n4_ := zq9 (zq27 (by exact b3 HB GE949 GE950 GE954) hb); have n5_ := zq9 (hbox); have n6_ := zq9 ((by rw [hg]; exact (zq29 (by exact b3 HB GE949 GE950 GE954)) : w.heap.size ≤ gb956)); have n7_ := n6_; have n8_ := zq9 ((by rw [hg]; exact Nat.ne_of_lt (blk_lt (g := gb949) (o := .cells #[.int .i64 a0_0, .slice (some ad955) l0_1.length c0_1] 46 (0, 0)) (by exact bk BK949)) : gb949 ≠ gb956)); have n9_ := zq9 ((by rw [hg]; exact Nat.ne_of_gt (blk_lt (g := gb949) (o := .cells #[.int .i64 a0_0, .slice (some ad955) l0_1.length c0_1] 46 (0, 0)) (by exact bk BK949)) : gb956 ≠ gb949)); have n10_ := zq9 ((by rw [hg]; exact Nat.ne_of_lt (blk_lt (g := gb950) (o := .cells #[.int .i64 0, .slice none 0 0] 46 (0, 0)) (by exact bk BK950)) : gb950 ≠ gb956)); have n11_ := zq9 ((by rw [hg]; exact Nat.ne_of_gt (blk_lt (g := gb950) (o := .cells #[.int .i64 0, .slice none 0 0] 46 (0, 0)) (by exact bk BK950)) : gb956 ≠ gb950)); have n12_ := zq9 ((by rw [hg]; exact Nat.ne_of_lt (blk_lt (g := gb954) (o := .cells #[.int .i64 a0_0, u955001] 46 (0, 0)) (by exact bk BK954)) : gb954 ≠ gb956)); have n13_ := zq9 ((by rw [hg]; exact Nat.ne_of_gt (blk_lt (g := gb954) (o := .cells #[.int .i64 a0_0, u955001] 46 (0, 0)) (by exact bk BK954)) : gb956 ≠ gb954)); clear HO_955001; clear BK949; clear BK950; clear BK954; clear HB; have HO_955001 := n0_; have BK949 := n1_; have BK950 := n2_; have BK954 := n3_; have HB := n4_; have BK956 := n5_; have GW956 := n6_; have GE956 := n7_; have NB949_956 := n8_; have NB956_949 := n9_; have NB950_956 := n10_; have NB956_950 := n11_; have NB954_956 := n12_; have NB956_954 := n13_; clear n0_ n1_ n2_ n3_ n4_ n5_ n6_ n7_ n8_ n9_ n10_ n11_ n12_ n13_; clear hb hbox hg; have hnb20 := NB956_949.out; have hnc20 := NB949_956.out; have hnb21 := NB956_950.out; have hnc21 := NB950_956.out; have hnb22 := NB956_954.out; have hnc22 := NB954_956.out; have hcz23_0 : w19.cell? ⟨gb956, 0, none⟩ = some (.string (⟨#[]⟩ : ByteArray)) := bc BK956 0; have hcz23_1 : w19.cell? ⟨gb956, 1, none⟩ = some (.int .i64 0) := bc BK956 1; have hcz23_2 : w19.cell? ⟨gb956, 2, none⟩ = some (.int .i64 0) := bc BK956 2; have hcz23_3 : w19.cell? ⟨gb956, 3, none⟩ = some (.string (⟨#[]⟩ : ByteArray)) := bc BK956 3; have hcz23_4 : w19.cell? ⟨gb956, 4, none⟩ = some (.slice none 0 0) := bc BK956 4; have hcz23_5 : w19.cell? ⟨gb956, 5, none⟩ = some (.slice none 0 0) := bc BK956 5; have hcz23_6 : w19.cell? ⟨gb956, 6, none⟩ = some (.slice none 0 0) := bc BK956 6; have hfz23_0 := zq6 BK956.out 0; have hfz23_1 := zq6 BK956.out 1; have hfz23_2 := zq6 BK956.out 2; have hfz23_3 := zq6 BK956.out 3; have hfz23_4 := zq6 BK956.out 4; have hfz23_5 := zq6 BK956.out 5; have hfz23_6 := zq6 BK956.out 6))
       have n0_ : Aside0 (Kd.S k32 32 (((((((w19.setCell ⟨gb956, 0, none⟩ (.string ((rd_T32 l0_1 x13_1).f0))).setCell ⟨gb956, 1, none⟩ (.int .i64 ((rd_T32 l0_1 x13_1).f1))).setCell ⟨gb956, 2, none⟩ (.int .i64 ((rd_T32 l0_1 x13_1).f2))).setCell ⟨gb956, 3, none⟩ (.string ((rd_T32 l0_1 x13_1).f3))).setCell ⟨gb956, 4, none⟩ (.slice A955_4 ((rd_T32 l0_1 x13_1).f4).length c955_4)).setCell ⟨gb956, 5, none⟩ (.slice A955_5 ((rd_T32 l0_1 x13_1).f5).length c955_5)).setCell ⟨gb956, 6, none⟩ (.slice A955_6 ((rd_T32 l0_1 x13_1).f6).length c955_6)) w.heap.size (fun k_ => k_ ≠ gb956) u955001 x955001_1) := ⟨by (with_reducible repeat (first | apply Kd.S_alloc | apply Kd.S_drewN | apply Kd.S_drew)); exact Kd.S_mono (Kd.S_far (p := ⟨gb956, 6, none⟩) (Kd.S_far (p := ⟨gb956, 5, none⟩) (Kd.S_far (p := ⟨gb956, 4, none⟩) (Kd.S_far (p := ⟨gb956, 3, none⟩) (Kd.S_far (p := ⟨gb956, 2, none⟩) (Kd.S_far (p := ⟨gb956, 1, none⟩) (Kd.S_far (p := ⟨gb956, 0, none⟩) (Kd.S_mono HO_955001.out (fun k_ hk => (⟨hk, by first | exact hk.2 | exact hk | exact hk.1⟩ : _ ∧ k_ ≠ gb956))) (fun _ hk => hk.2) (.string ((rd_T32 l0_1 x13_1).f0))) (fun _ hk => hk.2) (.int .i64 ((rd_T32 l0_1 x13_1).f1))) (fun _ hk => hk.2) (.int .i64 ((rd_T32 l0_1 x13_1).f2))) (fun _ hk => hk.2) (.string ((rd_T32 l0_1 x13_1).f3))) (fun _ hk => hk.2) (.slice A955_4 ((rd_T32 l0_1 x13_1).f4).length c955_4)) (fun _ hk => hk.2) (.slice A955_5 ((rd_T32 l0_1 x13_1).f5).length c955_5)) (fun _ hk => hk.2) (.slice A955_6 ((rd_T32 l0_1 x13_1).f6).length c955_6)) (fun _ hk => hk.1.2)⟩
       have n1_ : Aside0 ((((((((w19.setCell ⟨gb956, 0, none⟩ (.string ((rd_T32 l0_1 x13_1).f0))).setCell ⟨gb956, 1, none⟩ (.int .i64 ((rd_T32 l0_1 x13_1).f1))).setCell ⟨gb956, 2, none⟩ (.int .i64 ((rd_T32 l0_1 x13_1).f2))).setCell ⟨gb956, 3, none⟩ (.string ((rd_T32 l0_1 x13_1).f3))).setCell ⟨gb956, 4, none⟩ (.slice A955_4 ((rd_T32 l0_1 x13_1).f4).length c955_4)).setCell ⟨gb956, 5, none⟩ (.slice A955_5 ((rd_T32 l0_1 x13_1).f5).length c955_5)).setCell ⟨gb956, 6, none⟩ (.slice A955_6 ((rd_T32 l0_1 x13_1).f6).length c955_6)).heap[gb949]? = some (.cells #[.int .i64 a0_0, .slice (some ad955) l0_1.length c0_1] 46 (0, 0))) := ⟨by refine bp ?_; refine blk_far ?_ NB949_956.out _; refine bp ?_; refine blk_far ?_ NB949_956.out _; refine bp ?_; refine blk_far ?_ NB949_956.out _; refine bp ?_; refine blk_far ?_ NB949_956.out _; refine bp ?_; refine blk_far ?_ NB949_956.out _; refine bp ?_; refine blk_far ?_ NB949_956.out _; refine bp ?_; refine blk_far ?_ NB949_956.out _; refine bp ?_; exact BK949.out⟩
       have n2_ : Aside0 ((((((((w19.setCell ⟨gb956, 0, none⟩ (.string ((rd_T32 l0_1 x13_1).f0))).setCell ⟨gb956, 1, none⟩ (.int .i64 ((rd_T32 l0_1 x13_1).f1))).setCell ⟨gb956, 2, none⟩ (.int .i64 ((rd_T32 l0_1 x13_1).f2))).setCell ⟨gb956, 3, none⟩ (.string ((rd_T32 l0_1 x13_1).f3))).setCell ⟨gb956, 4, none⟩ (.slice A955_4 ((rd_T32 l0_1 x13_1).f4).length c955_4)).setCell ⟨gb956, 5, none⟩ (.slice A955_5 ((rd_T32 l0_1 x13_1).f5).length c955_5)).setCell ⟨gb956, 6, none⟩ (.slice A955_6 ((rd_T32 l0_1 x13_1).f6).length c955_6)).heap[gb950]? = some (.cells #[.int .i64 0, .slice none 0 0] 46 (0, 0))) := ⟨by refine bp ?_; refine blk_far ?_ NB950_956.out _; refine bp ?_; refine blk_far ?_ NB950_956.out _; refine bp ?_; refine blk_far ?_ NB950_956.out _; refine bp ?_; refine blk_far ?_ NB950_956.out _; refine bp ?_; refine blk_far ?_ NB950_956.out _; refine bp ?_; refine blk_far ?_ NB950_956.out _; refine bp ?_; refine blk_far ?_ NB950_956.out _; refine bp ?_; exact BK950.out⟩
       have n3_ : Aside0 ((((((((w19.setCell ⟨gb956, 0, none⟩ (.string ((rd_T32 l0_1 x13_1).f0))).setCell ⟨gb956, 1, none⟩ (.int .i64 ((rd_T32 l0_1 x13_1).f1))).setCell ⟨gb956, 2, none⟩ (.int .i64 ((rd_T32 l0_1 x13_1).f2))).setCell ⟨gb956, 3, none⟩ (.string ((rd_T32 l0_1 x13_1).f3))).setCell ⟨gb956, 4, none⟩ (.slice A955_4 ((rd_T32 l0_1 x13_1).f4).length c955_4)).setCell ⟨gb956, 5, none⟩ (.slice A955_5 ((rd_T32 l0_1 x13_1).f5).length c955_5)).setCell ⟨gb956, 6, none⟩ (.slice A955_6 ((rd_T32 l0_1 x13_1).f6).length c955_6)).heap[gb954]? = some (.cells #[.int .i64 a0_0, u955001] 46 (0, 0))) := ⟨by refine bp ?_; refine blk_far ?_ NB954_956.out _; refine bp ?_; refine blk_far ?_ NB954_956.out _; refine bp ?_; refine blk_far ?_ NB954_956.out _; refine bp ?_; refine blk_far ?_ NB954_956.out _; refine bp ?_; refine blk_far ?_ NB954_956.out _; refine bp ?_; refine blk_far ?_ NB954_956.out _; refine bp ?_; refine blk_far ?_ NB954_956.out _; refine bp ?_; exact BK954.out⟩
       have n4_ : Aside0 ((((((((w19.setCell ⟨gb956, 0, none⟩ (.string ((rd_T32 l0_1 x13_1).f0))).setCell ⟨gb956, 1, none⟩ (.int .i64 ((rd_T32 l0_1 x13_1).f1))).setCell ⟨gb956, 2, none⟩ (.int .i64 ((rd_T32 l0_1 x13_1).f2))).setCell ⟨gb956, 3, none⟩ (.string ((rd_T32 l0_1 x13_1).f3))).setCell ⟨gb956, 4, none⟩ (.slice A955_4 ((rd_T32 l0_1 x13_1).f4).length c955_4)).setCell ⟨gb956, 5, none⟩ (.slice A955_5 ((rd_T32 l0_1 x13_1).f5).length c955_5)).setCell ⟨gb956, 6, none⟩ (.slice A955_6 ((rd_T32 l0_1 x13_1).f6).length c955_6)).heap[gb956]? = some (.cells #[.string ((rd_T32 l0_1 x13_1).f0), .int .i64 ((rd_T32 l0_1 x13_1).f1), .int .i64 ((rd_T32 l0_1 x13_1).f2), .string ((rd_T32 l0_1 x13_1).f3), .slice A955_4 ((rd_T32 l0_1 x13_1).f4).length c955_4, .slice A955_5 ((rd_T32 l0_1 x13_1).f5).length c955_5, .slice A955_6 ((rd_T32 l0_1 x13_1).f6).length c955_6] 32 (0, 0))) := ⟨(blk_set (blk_set (blk_set (blk_set (blk_set (blk_set (blk_set BK956.out 0 _) 1 _) 2 _) 3 _) 4 _) 5 _) 6 _)⟩
       have n5_ : Aside0 (Below w.heap.size w (((((((w19.setCell ⟨gb956, 0, none⟩ (.string ((rd_T32 l0_1 x13_1).f0))).setCell ⟨gb956, 1, none⟩ (.int .i64 ((rd_T32 l0_1 x13_1).f1))).setCell ⟨gb956, 2, none⟩ (.int .i64 ((rd_T32 l0_1 x13_1).f2))).setCell ⟨gb956, 3, none⟩ (.string ((rd_T32 l0_1 x13_1).f3))).setCell ⟨gb956, 4, none⟩ (.slice A955_4 ((rd_T32 l0_1 x13_1).f4).length c955_4)).setCell ⟨gb956, 5, none⟩ (.slice A955_5 ((rd_T32 l0_1 x13_1).f5).length c955_5)).setCell ⟨gb956, 6, none⟩ (.slice A955_6 ((rd_T32 l0_1 x13_1).f6).length c955_6))) := ⟨by exact b4 HB GE949 GE950 GE954 GE956⟩
       (try clear HO_955001)
       (try clear BK949)
       (try clear BK950)
       (try clear BK954)
       (try clear BK956)
       (try clear HB)
       generalize (((((((w19.setCell ⟨gb956, 0, none⟩ (.string ((rd_T32 l0_1 x13_1).f0))).setCell ⟨gb956, 1, none⟩ (.int .i64 ((rd_T32 l0_1 x13_1).f1))).setCell ⟨gb956, 2, none⟩ (.int .i64 ((rd_T32 l0_1 x13_1).f2))).setCell ⟨gb956, 3, none⟩ (.string ((rd_T32 l0_1 x13_1).f3))).setCell ⟨gb956, 4, none⟩ (.slice A955_4 ((rd_T32 l0_1 x13_1).f4).length c955_4)).setCell ⟨gb956, 5, none⟩ (.slice A955_5 ((rd_T32 l0_1 x13_1).f5).length c955_5)).setCell ⟨gb956, 6, none⟩ (.slice A955_6 ((rd_T32 l0_1 x13_1).f6).length c955_6)) = w24 at n0_ n1_ n2_ n3_ n4_ n5_ ⊢
       have HO_955001 := n0_; have BK949 := n1_; have BK950 := n2_; have BK954 := n3_; have BK956 := n4_; have HB := n5_; clear n0_ n1_ n2_ n3_ n4_ n5_
       have n0_ := zq9 (Kd.S_drew HO_955001.out)
       have n1_ := zq9 (blk_drew BK949.out)
       have n2_ := zq9 (blk_drew BK950.out)
       have n3_ := zq9 (blk_drew BK954.out)
       have n4_ := zq9 (blk_drew BK956.out)
       have n5_ := zq9 (zq4 HB.out)
       clear HO_955001; clear BK949; clear BK950; clear BK954; clear BK956; clear HB; have HO_955001 := n0_; have BK949 := n1_; have BK950 := n2_; have BK954 := n3_; have BK956 := n4_; have HB := n5_; clear n0_ n1_ n2_ n3_ n4_ n5_
       refine start_ (n := 8) (S := fun w' => w'.cell? ⟨gb954, 0, none⟩ = some (.int .i64 a0_0) ∧ w'.cell? ⟨gb954, 1, none⟩ = some (u955001) ∧ w'.cell? ⟨gb956, 0, none⟩ = some (.string ((rd_T32 l0_1 x13_1).f0)) ∧ w'.cell? ⟨gb956, 1, none⟩ = some (.int .i64 ((rd_T32 l0_1 x13_1).f1)) ∧ w'.cell? ⟨gb956, 2, none⟩ = some (.int .i64 ((rd_T32 l0_1 x13_1).f2)) ∧ w'.cell? ⟨gb956, 3, none⟩ = some (.string ((rd_T32 l0_1 x13_1).f3)) ∧ w'.cell? ⟨gb956, 4, none⟩ = some (.slice A955_4 ((rd_T32 l0_1 x13_1).f4).length c955_4) ∧ w'.cell? ⟨gb956, 5, none⟩ = some (.slice A955_5 ((rd_T32 l0_1 x13_1).f5).length c955_5) ∧ w'.cell? ⟨gb956, 6, none⟩ = some (.slice A955_6 ((rd_T32 l0_1 x13_1).f6).length c955_6)) (ds := [7]) #[false, false, false, false, false, false, false, false] (by kernel_rfl) rfl rfl ⟨bc BK954 0, bc BK954 1, bc BK956 0, bc BK956 1, bc BK956 2, bc BK956 3, bc BK956 4, bc BK956 5, bc BK956 6⟩ (fun hHeld => ?_); refine with_tabW impl_cloneBase.tab5 impl_cloneBase.bits5 (fun HT_ HW_ => ?_)
       generalize w24.drew = w25 at HO_955001 BK949 BK950 BK954 BK956 HB hHeld ⊢
       refine pa HT_ 0 17 (zb 8 1) ?_
       refine take_ (i := 1) (N := some 18) (v := ?_) (a' := ?_) (zb 8 3) rfl rfl (take_ofW HT_.out HW_.out (by kernel_rfl)) (fun _ _ _ h => h) (Or.inl ⟨by rfl, ?_⟩) hHeld ?_ ?_
       rotate_left; ·rintro w' ⟨s0, s1, s2, s3, s4, s5, s6, s7, s8⟩; go_simp; with_reducible rfl
       rotate_left; ·simp only [Act.put, zq0, zq1, zq2, i64_w, i32_w]; rfl
       refine take_ (i := 2) (N := some 19) (v := ?_) (a' := ?_) (zb 8 7) rfl rfl (take_ofW HT_.out HW_.out (by kernel_rfl)) (fun _ _ _ h => h) (Or.inl ⟨by rfl, ?_⟩) hHeld ?_ ?_
       rotate_left; ·rintro w' ⟨s0, s1, s2, s3, s4, s5, s6, s7, s8⟩; go_simp; with_reducible rfl
       rotate_left; ·simp only [Act.put, zq0, zq1, zq2, i64_w, i32_w]; rfl
       refine one_ (i := 3) (N := some 20) (zb 8 15) rfl rfl (one_of HT_.out (by kernel_rfl)) (by decide) (fun K hK => ?_)
       refine gs Try.func68 #[.agg #[.string ((rd_T32 l0_1 x13_1).f0), .int .i64 ((rd_T32 l0_1 x13_1).f1), .int .i64 ((rd_T32 l0_1 x13_1).f2), .string ((rd_T32 l0_1 x13_1).f3), .slice A955_4 ((rd_T32 l0_1 x13_1).f4).length c955_4, .slice A955_5 ((rd_T32 l0_1 x13_1).f5).length c955_5, .slice A955_6 ((rd_T32 l0_1 x13_1).f6).length c955_6]] ?_
       with_reducible refine (impl_cloneEntry.calls ((rd_T32 l0_1 x13_1).f0) ((rd_T32 l0_1 x13_1).f1) ((rd_T32 l0_1 x13_1).f2) ((rd_T32 l0_1 x13_1).f3) _ _ ((rd_T32 l0_1 x13_1).f4) _ _ ((rd_T32 l0_1 x13_1).f5) _ _ ((rd_T32 l0_1 x13_1).f6) t957 t958 t959 t960 t961 t964 t967 _ ?side1 ?side2 ?side3 ?side4 ?side5 ?side6 A17.out).mono ?_
       (case side1 => exact kc HR955_4 HB)
       (case side2 => exact HC955_4.out)
       (case side3 => exact kc HR955_5 HB)
       (case side4 => exact HC955_5.out)
       (case side5 => exact kc HR955_6 HB)
       (case side6 => exact HC955_6.out)
       rintro e w26 ⟨v962, v965, v968, rfl, ho0, ho1, ho2, hb⟩
       refine ⟨_, rfl, ?_⟩
       have n0_ := zq9 (Kd.S_mono (Kd.S_told (Kd.S_told (Kd.S_told (Kd.S_old (by (with_reducible repeat (first | apply Kd.S_alloc | apply Kd.S_drewN | apply Kd.S_drew)); exact HO_955001.out) hb) (Kd.R_base ho0)) (Kd.R_base ho1)) (Kd.R_base ho2)) (fun _ h_ => h_.1))
       have n1_ := zq9 (Kd.R_lower ho0 (zq29 (by exact b4 HB GE949 GE950 GE954 GE956)))
       have n2_ := zq9 (Kd.R_lower ho1 (zq29 (by exact b4 HB GE949 GE950 GE954 GE956)))
       have n3_ := zq9 (Kd.R_lower ho2 (zq29 (by exact b4 HB GE949 GE950 GE954 GE956)))
       have n4_ := zq9 (zq30 (g := gb949) (o := .cells #[.int .i64 a0_0, .slice (some ad955) l0_1.length c0_1] 46 (0, 0)) (by exact bk BK949) hb)
       have n5_ := zq9 (zq30 (g := gb950) (o := .cells #[.int .i64 0, .slice none 0 0] 46 (0, 0)) (by exact bk BK950) hb)
       have n6_ := zq9 (zq30 (g := gb954) (o := .cells #[.int .i64 a0_0, u955001] 46 (0, 0)) (by exact bk BK954) hb)
       have n7_ := zq9 (zq30 (g := gb956) (o := .cells #[.string ((rd_T32 l0_1 x13_1).f0), .int .i64 ((rd_T32 l0_1 x13_1).f1), .int .i64 ((rd_T32 l0_1 x13_1).f2), .string ((rd_T32 l0_1 x13_1).f3), .slice A955_4 ((rd_T32 l0_1 x13_1).f4).length c955_4, .slice A955_5 ((rd_T32 l0_1 x13_1).f5).length c955_5, .slice A955_6 ((rd_T32 l0_1 x13_1).f6).length c955_6] 32 (0, 0)) (by exact bk BK956) hb)
       have n8_ := zq9 (zq27 (by exact b4 HB GE949 GE950 GE954 GE956) hb)
       clear HO_955001; clear BK949; clear BK950; clear BK954; clear BK956; clear HB; have HO_955001 := n0_; have HO963 := n1_; have HO966 := n2_; have HO969 := n3_; have BK949 := n4_; have BK950 := n5_; have BK954 := n6_; have BK956 := n7_; have HB := n8_; clear n0_ n1_ n2_ n3_ n4_ n5_ n6_ n7_ n8_
       (try clear hb)
       (try clear hb2)
       (try clear hk)
       (try clear hi)
       (try clear ho0)
       (try clear ho1)
       (try clear ho2)
       obtain ⟨Ao28, co28, eo28⟩ := Kd.R_slice HO963.out
       (first | subst eo28 | (injection eo28 with f1_ f2_ f3_; have f4_ := f1_.symm; have f5_ := f3_.symm; clear f1_ f2_ f3_; subst f4_; subst f5_))
       obtain ⟨Ao29, co29, eo29⟩ := Kd.R_slice HO966.out
       (first | subst eo29 | (injection eo29 with f1_ f2_ f3_; have f4_ := f1_.symm; have f5_ := f3_.symm; clear f1_ f2_ f3_; subst f4_; subst f5_))
       obtain ⟨Ao30, co30, eo30⟩ := Kd.R_slice HO969.out
       (first | subst eo30 | (injection eo30 with f1_ f2_ f3_; have f4_ := f1_.symm; have f5_ := f3_.symm; clear f1_ f2_ f3_; subst f4_; subst f5_))
       refine hK.out _ _ ⟨bc BK954 0, bc BK954 1, bc BK956 0, bc BK956 1, bc BK956 2, bc BK956 3, bc BK956 4, bc BK956 5, bc BK956 6⟩ (fun hHeld => ?_)
       clear hK K
       refine norm_ (a' := ?_) ?_ ?_
       rotate_left; ·show Act.put _ (some 20) _ = _; simp only [Act.put, zq0, zq1, zq2, i64_w, i32_w]; rfl
       refine one_ (i := 4) (N := some 21) (zb 8 31) rfl rfl (one_of HT_.out (by kernel_rfl)) (by decide) (fun K hK => ?_)
       refine value_ (w1 := ?_) (v := ?_) (by rfl) rfl ?_ ?_
       rotate_left 2
       ·go_simp
        constructor
        ·rfl
        ·rfl
       refine hK.out _ _ ⟨(zq7 (blk_alloc BK954.out _) 0).trans rfl, (zq7 (blk_alloc BK954.out _) 1).trans rfl, (zq7 (blk_alloc BK956.out _) 0).trans rfl, (zq7 (blk_alloc BK956.out _) 1).trans rfl, (zq7 (blk_alloc BK956.out _) 2).trans rfl, (zq7 (blk_alloc BK956.out _) 3).trans rfl, (zq7 (blk_alloc BK956.out _) 4).trans rfl, (zq7 (blk_alloc BK956.out _) 5).trans rfl, (zq7 (blk_alloc BK956.out _) 6).trans rfl⟩ (fun hHeld => ?_)
       clear hK K
       refine norm_ (a' := ?_) ?_ ?_
       rotate_left; ·show Act.put _ (some 21) _ = _; simp only [Act.put, zq0, zq1, zq2, i64_w, i32_w]; rfl
       refine one_ (i := 5) (N := some 22) (zb 8 63) rfl rfl (one_of HT_.out (by kernel_rfl)) (by decide) (fun K hK => ?_)
       refine Kd.S_append_step k32 (w0 := w) w.heap.size (by rfl) (.tmp 18) (.tmp 21) 44 32 (.agg #[(.string ⟨#[]⟩), (.int .i64 0), (.int .i64 0), (.string ⟨#[]⟩), (.slice none 0 0), (.slice none 0 0), (.slice none 0 0)]) 120 rfl Try.underlying44 info32 rfl (by decide) (by omega) u955001 x955001_1 (⟨t957, t958, t959, t960, t961, t964, t967⟩ : S32) [.string t957, .int .i64 t958, .int .i64 t959, .string t960, .slice Ao28 t961.length co28, .slice Ao29 t964.length co29, .slice Ao30 t967.length co30] (fun k_ => k_ ≠ gb956) (fun k_ => some k_ = (.slice Ao28 t961.length co28 : Value).ownBlock ∨ some k_ = (.slice Ao29 t964.length co29 : Value).ownBlock ∨ some k_ = (.slice Ao30 t967.length co30 : Value).ownBlock) rfl rfl ?aP (fun k_ hk_ => hk_.elim (fun h_ => ((Kd.R_mono (ok' := fun k_ => ((fun k_ => k_ ≠ gb956)) k_ ∧ some k_ ≠ (u955001 : Value).ownBlock) (Kd.R_types (Kd.R_apart' (HO963.out) (Kd.S_typed HO_955001.out) (by decide)) BK956.out (by decide)) (fun k_ hk => ⟨hk.2, hk.1.2⟩))).1 k_ h_.symm) (fun h_ => h_.elim (fun h_ => ((Kd.R_mono (ok' := fun k_ => ((fun k_ => k_ ≠ gb956)) k_ ∧ some k_ ≠ (u955001 : Value).ownBlock) (Kd.R_types (Kd.R_apart' (HO966.out) (Kd.S_typed HO_955001.out) (by decide)) BK956.out (by decide)) (fun k_ hk => ⟨hk.2, hk.1.2⟩))).1 k_ h_.symm) (fun h_ => ((Kd.R_mono (ok' := fun k_ => ((fun k_ => k_ ≠ gb956)) k_ ∧ some k_ ≠ (u955001 : Value).ownBlock) (Kd.R_types (Kd.R_apart' (HO969.out) (Kd.S_typed HO_955001.out) (by decide)) BK956.out (by decide)) (fun k_ hk => ⟨hk.2, hk.1.2⟩))).1 k_ h_.symm))) ?aF ?aO ?aB ?aS ?aL ?_
       (case aP => exact k32_mkM _ _ _ (⟨t957, t958, t959, t960, t961, t964, t967⟩ : S32) (Kd.R_mono (Kd.R_tight rfl (Kd.R_mono (ok' := fun k_ => ((fun k_ => k_ ≠ gb956)) k_ ∧ some k_ ≠ (u955001 : Value).ownBlock) (Kd.R_types (Kd.R_apart' (HO963.out) (Kd.S_typed HO_955001.out) (by decide)) BK956.out (by decide)) (fun k_ hk => ⟨hk.2, hk.1.2⟩))) (fun _ h_ => Or.inl h_)) (Kd.R_mono (Kd.R_tight rfl (Kd.R_mono (ok' := fun k_ => ((fun k_ => k_ ≠ gb956)) k_ ∧ some k_ ≠ (u955001 : Value).ownBlock) (Kd.R_types (Kd.R_apart' (HO966.out) (Kd.S_typed HO_955001.out) (by decide)) BK956.out (by decide)) (fun k_ hk => ⟨hk.2, hk.1.2⟩))) (fun _ h_ => Or.inr (Or.inl h_))) (Kd.R_mono (Kd.R_tight rfl (Kd.R_mono (ok' := fun k_ => ((fun k_ => k_ ≠ gb956)) k_ ∧ some k_ ≠ (u955001 : Value).ownBlock) (Kd.R_types (Kd.R_apart' (HO969.out) (Kd.S_typed HO_955001.out) (by decide)) BK956.out (by decide)) (fun k_ hk => ⟨hk.2, hk.1.2⟩))) (fun _ h_ => Or.inr (Or.inr (h_)))))
       (case aB => exact (by exact b4 HB GE949 GE950 GE954 GE956))
       (case aF => exact (fun k_ hk => Kd.freshB (g := gb956) (o := .cells #[.string ((rd_T32 l0_1 x13_1).f0), .int .i64 ((rd_T32 l0_1 x13_1).f1), .int .i64 ((rd_T32 l0_1 x13_1).f2), .string ((rd_T32 l0_1 x13_1).f3), .slice A955_4 ((rd_T32 l0_1 x13_1).f4).length c955_4, .slice A955_5 ((rd_T32 l0_1 x13_1).f5).length c955_5, .slice A955_6 ((rd_T32 l0_1 x13_1).f6).length c955_6] 32 (0, 0)) (by exact bk BK956) k_ hk))
       (case aO => exact (by (with_reducible repeat (first | apply Kd.S_alloc | apply Kd.S_drewN | apply Kd.S_drew)); exact Kd.S_mono HO_955001.out (fun k_ hk => ⟨hk.1.1.1, fun e_ => e_.elim (fun h_ => hk.1.1.2 h_) (fun h_ => h_.elim (fun h_ => hk.1.2 h_) (fun h_ => hk.2 h_))⟩)))
       (case aS => exact (zq29 (by exact b4 HB GE949 GE950 GE954 GE956)))
       (case aL => have := LMc18.out; omega)
       intro v971 w27 ho hb hg hat
       rw [← Ny970.out] at ho
       have n0_ := zq9 (blk_grown (g := gb949) (o := .cells #[.int .i64 a0_0, .slice (some ad955) l0_1.length c0_1] 46 (0, 0)) (by exact bk BK949) hg (Kd.S_ne HO_955001.out BK949.out (by decide)))
       have n1_ := zq9 (blk_grown (g := gb950) (o := .cells #[.int .i64 0, .slice none 0 0] 46 (0, 0)) (by exact bk BK950) hg (Kd.S_ne HO_955001.out BK950.out (by decide)))
       have n2_ := zq9 (blk_grown (g := gb954) (o := .cells #[.int .i64 a0_0, u955001] 46 (0, 0)) (by exact bk BK954) hg (Kd.S_ne HO_955001.out BK954.out (by decide)))
       have n3_ := zq9 (blk_grown (g := gb956) (o := .cells #[.string ((rd_T32 l0_1 x13_1).f0), .int .i64 ((rd_T32 l0_1 x13_1).f1), .int .i64 ((rd_T32 l0_1 x13_1).f2), .string ((rd_T32 l0_1 x13_1).f3), .slice A955_4 ((rd_T32 l0_1 x13_1).f4).length c955_4, .slice A955_5 ((rd_T32 l0_1 x13_1).f5).length c955_5, .slice A955_6 ((rd_T32 l0_1 x13_1).f6).length c955_6] 32 (0, 0)) (by exact bk BK956) hg (Kd.S_away HO_955001.out (fun _ hk => hk.1.1.1)))
       have n4_ := zq9 (hb)
       have n5_ := zq9 (ho)
       clear BK949; clear BK950; clear BK954; clear BK956; clear HB; clear HO_955001; clear HO963; clear HO966; clear HO969; have BK949 := n0_; have BK950 := n1_; have BK954 := n2_; have BK956 := n3_; have HB := n4_; have HO972 := n5_; clear n0_ n1_ n2_ n3_ n4_ n5_; clear ho hb hg hat
       obtain ⟨Ao31, co31, eo31⟩ := Kd.S_slice HO972.out
       (first | subst eo31 | (injection eo31 with f1_ f2_ f3_; have f4_ := f1_.symm; have f5_ := f3_.symm; clear f1_ f2_ f3_; subst f4_; subst f5_))
       refine hK.out _ _ ⟨bc BK954 0, bc BK954 1, bc BK956 0, bc BK956 1, bc BK956 2, bc BK956 3, bc BK956 4, bc BK956 5, bc BK956 6⟩ (fun hHeld => ?_)
       clear hK K
       refine norm_ (a' := ?_) ?_ ?_
       rotate_left; ·show Act.put _ (some 22) _ = _; simp only [Act.put, zq0, zq1, zq2, i64_w, i32_w]; rfl
       refine pa HT_ 6 23 (zb 8 127) ?_
       refine last_ (i := 7) (N := none) #[true, true, true, true, true, true, true, true] rfl rfl (one_of HT_.out (by kernel_rfl)) (by decide) (fun K hK => ?_)
       have hs32 : w27.cell? ⟨gb954, 1, none⟩ = some (u955001) := bc BK954 1
       have hfs32 := zq6 BK954.out 1
       have hns32_0 := NB949_954.out; have hns32_1 := NB950_954.out; have hns32_3 := NB956_954.out; have hms32_0 := NB954_949.out; have hms32_1 := NB954_950.out; have hms32_3 := NB954_956.out
       refine skip_ (w1 := ?_) (by rfl) rfl ?_ ?_
       rotate_left; ·go_simp; rfl
       refine hK.out _ _ ?_
       clear hK K
       refine done_ (done_of HT_.out (by kernel_rfl)) ?_
       try go_wp2
       go_roundg k1
       case measure => have := HK1.out; omega
       case rel => exact ⟨(wrap64 (x13_1 + 1)), (y970), (.slice Ao31 y970.length co31), (by first | rfl | (simp; done) | (simp [*]; done)), H', ⟨by have := HK1.out; omega⟩, ⟨by (with_reducible repeat (first | apply Kd.S_alloc | apply Kd.S_drewN | apply Kd.S_drew)); exact Kd.S_mono (Kd.S_far (p := ⟨gb954, 1, none⟩) (Kd.S_types HO972.out BK954.out (by decide)) (fun _ hk => hk.2) (.slice Ao31 y970.length co31)) (fun _ hk => trivial)⟩, ⟨by refine bp ?_; refine blk_far ?_ NB949_954.out _; refine bp ?_; exact BK949.out⟩, ⟨by refine bp ?_; refine blk_far ?_ NB950_954.out _; refine bp ?_; exact BK950.out⟩, ⟨(blk_set BK954.out 1 _)⟩, ⟨by exact b4 HB GE949 GE950 GE954 GE956⟩⟩
      ·rw [if_neg c18] at H
       exact absurd H (by simp)
     ·rw [if_neg c16] at H
      exact absurd H (by simp)
    ·rw [if_neg c15] at H
     exact absurd H (by simp)
   ·rw [if_neg c14] at H; have c14b0 : decide (x13_1 < (l0_1.length : Int)) = false := decide_eq_false c14; clear c14
    simp only [Option.some.injEq, Prod.mk.injEq] at H
    obtain ⟨rfl, rfl⟩ := H
    have hnb33 := NB954_949.out; have hnc33 := NB949_954.out; have hnb34 := NB954_950.out; have hnc34 := NB950_954.out
    have hcz35_0 : wr.cell? ⟨gb954, 0, none⟩ = some (.int .i64 a0_0) := bc BK954 0
    have hcz35_1 : wr.cell? ⟨gb954, 1, none⟩ = some (u955001) := bc BK954 1
    have hfz35_0 := zq6 BK954.out 0
    have hfz35_1 := zq6 BK954.out 1
    have hnb36 := NB950_949.out; have hnc36 := NB949_950.out
    have hcz37_0 : wr.cell? ⟨gb950, 0, none⟩ = some (.int .i64 0) := bc BK950 0
    have hcz37_1 : wr.cell? ⟨gb950, 1, none⟩ = some (.slice none 0 0) := bc BK950 1
    have hfz37_0 := zq6 BK950.out 0
    have hfz37_1 := zq6 BK950.out 1
    obtain ⟨Ao38, co38, eo38⟩ := Kd.S_slice HO_955001.out
    subst eo38
    go_wp2
    refine bodyPost_ret (results_cell_row rfl _ _ gb950 46 #[.int .i64 a0_0, .slice Ao38 x955001_1.length co38] (0, 0) _ rfl (by refine bp ?_; refine blk_put (cs := #[.int .i64 a0_0, .slice none 0 0]) ?_ 1 _ rfl; refine bp ?_; refine blk_put (cs := #[.int .i64 0, .slice none 0 0]) ?_ 0 _ rfl; refine bp ?_; exact BK950.out) Try.underlying46 rfl (by kernel_rfl)) rfl ?_
    exact ⟨_, by first | rfl | (simp [errW_none, errW_some] <;> rfl) | (simp [*, errW_none, errW_some] <;> rfl), by (with_reducible repeat (first | apply Kd.S_alloc | apply Kd.S_drewN | apply Kd.S_drew)); exact Kd.S_mono (Kd.S_far (p := ⟨gb950, 1, none⟩) (Kd.S_far (p := ⟨gb950, 0, none⟩) (Kd.S_types HO_955001.out BK950.out (by decide)) (fun _ hk => hk.2) (.int .i64 a0_0)) (fun _ hk => hk.2) (.slice Ao38 x955001_1.length co38)) (fun _ hk => trivial), by exact b3 HB GE949 GE950 GE954⟩
set_option maxHeartbeats 4000000 in
set_option maxRecDepth 100000 in
theorem slices_Delete_impl_Entry_impl_Entry.calls (P0_ : Nat → Prop) (u9000_ : Value) (l0 : List S32) (a1 a2 : Int) (r : List S32) (w0 w : World) (hB : Below w0.heap.size w0 w) (ho0 : Kd.S k32 32 w w0.heap.size P0_ u9000_ l0) (h : slices_Delete_impl_Entry_impl_Entry.f l0 a1 a2 = some r) :
    Calls Try.prog 78 #[u9000_, .int .i64 a1, .int .i64 a2] w fun e w' => ∃ v0_ : Value, e = .returned (v0_) ∧ Kd.S k32 32 w' w0.heap.size P0_ v0_ r ∧ Below w0.heap.size w0 w' ∧ Kept w w' (fun k_ => P0_ k_) := by
  obtain ⟨ft, ho0⟩ := ho0
  unfold slices_Delete_impl_Entry_impl_Entry.f at h
  split at h
  case isFalse => cases h
  case isTrue hc =>
  obtain ⟨h0, h1, rfl⟩ := hc
  obtain rfl := Option.some.inj h
  clear h
  obtain ⟨i, rfl⟩ := Int.eq_ofNat_of_zero_le h0
  have hzl : l0.zipIdx.length = l0.length := List.length_zipIdx
  obtain ⟨g, c, rfl, hg, hlt, cells, hcell⟩ := Kd.R_form ho0 (by omega)
  rw [hzl] at ho0 ⊢
  have HZ := zq9 hzl; clear hzl
  have hnc := (Kd.R_reads' ho0).2.1
  have hcm : c ≤ 9223372036854775807 := by
    obtain ⟨_, inner, hown, _⟩ := ho0
    rcases hown.2 with ⟨hv', _⟩ | ⟨g', cap', cur, hv', _, _, _, hcm, _, _⟩
    · cases hv'
    · injection hv' with _ _ hc'
      rw [hc']; exact hcm
  have hPg : P0_ g := ho0.1 g (by simp [Value.ownBlock])
  have HO := zq9 ho0; have HB := zq9 hB; clear ho0 hB hcell h0
  have hi : i < l0.length := by omega
  have hic : i ≤ c := by omega
  have hjc : i + 1 ≤ c := by omega
  have hj : i + 1 ≤ l0.length := by omega
  clear h1
  have hz1 : (0 : Int) ≤ (i : Int) + 1 := by omega
  have hz2 : (i : Int) + 1 ≤ (l0.length : Int) := by omega
  obtain ⟨A, hA⟩ : ∃ A : Addr, (if c = i + 1 then some (⟨g, 0, none⟩ : Addr) else some ⟨g, (i + 1) * 7, none⟩) = some A := by split <;> exact ⟨_, rfl⟩
  have HA := zq9 (show some A = if c = i + 1 then some (⟨g, 0, none⟩ : Addr) else (some (⟨g, 0, none⟩ : Addr)).map (·.add ((i + 1) * k32.sz)) by
    rw [← hA, Option.map_some, add_plain]
    rfl)
  go_enter Try.func78, Try.ntmps78
  go_wp2_with fail
  go_region_law (refine Kd.R_delete_step (Kd.tag ft k32) (w0 := w0) w0.heap.size (by simp [Region.wanted]) (.tmp 22) (.tmp 25) 44 32 rfl Try.underlying44 slices_Delete_impl_Entry_impl_Entry.calls_size (g := g) (n := l0.length) (c := c) (k := i) (m := l0.length - (i + 1)) (c2 := c - (i + 1)) (by simp [Act.eval, Act.put]) (by simp [Act.eval, Act.put]) HA.out rfl (zq12 HO.out) hi (zq4 HB.out) (by simp; omega) ?_; intro w1 ho hb hgr)
  have hm1 : l0.length - (l0.length - 1) = 1 := by omega
  obtain ⟨w2, hrun, ho2, hg2⟩ := X.clear_tail (Kd.tag ft k32) (t := 44) Try.underlying44 slices_Delete_impl_Entry_impl_Entry.calls_zero rfl (show 0 < k32.sz by decide) (by simp [Value.cells]; decide) (m := l0.length - (l0.length - 1)) (c2 := c - (l0.length - 1)) ho (by omega) (by omega) 0
  have hcl : (Builtin.clear_ #[44] 0 #[.slice (some ⟨g, (l0.length - 1) * 7, none⟩) (l0.length - (l0.length - 1)) (c - (l0.length - 1))]).run Try.prog w1 = .ok (.tuple #[]) w2 := hrun
  clear hrun hm1; have HO2 := zq9 ho2
  have HB2 := zq9 (hb.grown hg2 hb.size (fun k hk => by injection hk with hk; subst hk; exact hg))
  have HG1 := zq9 hgr; have HG2 := zq9 hg2; clear ho ho2 hb hgr hg2
  have hd1 : ¬ c = l0.length - 1 := by omega
  have hd2 : l0.length - 1 ≤ l0.length := by omega
  have hd3 : ((l0.length - 1 : Nat) : Int) ≤ (l0.length : Int) := by omega
  have hd4 : (0 : Int) ≤ ((l0.length - 1 : Nat) : Int) := by omega
  have hd5 : (l0.length : Int) ≤ (c : Int) := by omega
  have HK := zq9 (Kept.of_grown HG2.out (Kept.of_grown HG1.out (Kept.drew (Kept.refl w (fun k_ => P0_ k_))) (fun k e => by injection e with e; subst e; exact .inl hPg)) (fun k e => by injection e with e; subst e; exact .inl hPg))
  go_wp2
  all_goals
    go_ret
    exact ⟨_, rfl, Kd.S_erase HO2.out, HB2.out, HK.out⟩
end Go.Proofs.Ytnkgmcgbbldkgaa.P
