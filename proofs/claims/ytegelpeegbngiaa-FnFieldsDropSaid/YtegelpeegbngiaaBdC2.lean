import Derived.Test.YtegelpeegbngiaaBdC1
import Derived.ProofKit
import Derived.SizedLaws
/- Texts of this claim, one behind the other: printed functions and their walks, plain lemmas. -/
-- Written by wip/px.py of this session, over the kit's print.py. Not trusted: Lean checks it.
namespace Go.Proofs.Ytegelpeegbngiaa.P
open Go.RowKit Go.Proofs.YtegelpeegbngiaaW.PrintWords Go.Proofs.YtegelpeegbngiaaW.PrintLast Go.Proofs.YtegelpeegbngiaaW.PrintMore
attribute [local go_sem] max2_int min2_int max_two min_two max_three min_three max_four min_four   -- for this text's walks alone
set_option linter.unusedVariables false
set_option linter.unusedSimpArgs false

/-! ### spec_l3At: the walk -/
set_option maxHeartbeats 8000000 in
set_option maxRecDepth 100000 in
theorem spec_l3At.calls (k : Nat) (A0 : Option Addr) (c0 : Nat) (l0 : List (S38)) (a1 : ByteArray) (r1 : Int) (r2 : Bool) (w : World) (hr0 : Kd.C k38 w A0 l0.length l0) (hc0 : l0.length ≤ c0) (h : spec_l3At.f k l0 a1 = some (r1, r2)) :
    Calls Try.prog 54 #[.slice A0 l0.length c0, .string a1] w fun e w' => e = .returned (.tuple #[.int .i64 r1, .bool r2]) ∧ Drawn0 w w' := by
  have HR0 := Aside0.mk hr0
  have HC0 := Aside0.mk hc0
  clear hr0 hc0
  have H : (spec_l3At.l0 k l0 a1 0) = some (r1, r2) := h
  clear h
  have H' := Aside0.mk H
  clear H
  go_enter Try.func54, Try.ntmps54
  go_wp2
  repeat (go_quiet (fail); try go_wp2)
  go_loopg [6] k (fun kq v6 w' => ∃ (x6_1 : Int), v6 = .int .i64 x6_1 ∧ Aside0 (spec_l3At.l0 kq l0 a1 x6_1 = some (r1, r2)) ∧ Aside0 (kq ≤ k) ∧ Drawn0 w w')
  case atStart => exact ⟨(0), (by first | rfl | (simp; done) | (simp [*]; done)), H', ⟨Nat.le_refl _⟩, by repeat (first | exact Drawn0.refl _ | apply Drawn0.step)⟩
  case round =>
    clear H'
    try clear p2
    obtain ⟨x6_1, rfl, HA, HK1, ⟨m1, rfl⟩⟩ := hrel
    cases gk with
    | zero => exact absurd HA.out (by simp [spec_l3At.l0])
    | succ k1 =>
      have H := HA.out
      clear HA
      simp only [spec_l3At.l0] at H
      by_cases c3 : x6_1 < (l0.length : Int)
      · rw [if_pos c3] at H
        have c3b0 : decide (x6_1 < (l0.length : Int)) = true := decide_eq_true c3
        clear c3
        by_cases c4 : 0 ≤ x6_1
        · rw [if_pos c4] at H
          have c4b0 : decide (0 ≤ x6_1) = true := decide_eq_true c4
          clear c4
          by_cases c5 : (Op.bytesLess (((rd_T38 l0 x6_1).f0).toList) a1.toList) = true
          · rw [if_pos c5] at H
            have c5b0 : (Op.bytesLess (((rd_T38 l0 x6_1).f0).toList) a1.toList) = true := c5
            clear c5
            have H' := Aside0.mk H
            clear H
            have p480 : 0 ≤ (x6_1 : Int) := of_decide_eq_true (by first | (with_reducible assumption) | assumption)
            have q480 : x6_1 < (l0.length : Int) := of_decide_eq_true (by first | (with_reducible assumption) | assumption)
            obtain ⟨ad480, e480, hx480_0, hx480_1⟩ := at_T38 HR0.out x6_1 p480 q480
            cases e480
            replace p480 := eq_true p480
            replace q480 := eq_true q480
            go_wp2
            repeat (go_quiet (fail); try go_wp2)
            go_roundg k1
            case measure => have := HK1.out; omega
            case rel => exact ⟨(wrap64 (x6_1 + 1)), (by first | rfl | (simp; done) | (simp [*]; done)), H', ⟨by have := HK1.out; omega⟩, by repeat (first | exact Drawn0.refl _ | apply Drawn0.step)⟩
          · rw [if_neg c5] at H
            have c5b0 : (Op.bytesLess (((rd_T38 l0 x6_1).f0).toList) a1.toList) = false := by simpa using c5
            clear c5
            simp only [Option.some.injEq, Prod.mk.injEq] at H
            obtain ⟨rfl, rfl⟩ := H
            have p480 : 0 ≤ (x6_1 : Int) := of_decide_eq_true (by first | (with_reducible assumption) | assumption)
            have q480 : x6_1 < (l0.length : Int) := of_decide_eq_true (by first | (with_reducible assumption) | assumption)
            obtain ⟨ad480, e480, hx480_0, hx480_1⟩ := at_T38 HR0.out x6_1 p480 q480
            cases e480
            replace p480 := eq_true p480
            replace q480 := eq_true q480
            have p481 : 0 ≤ (x6_1 : Int) := of_decide_eq_true (by first | (with_reducible assumption) | assumption)
            have q481 : x6_1 < (l0.length : Int) := of_decide_eq_true (by first | (with_reducible assumption) | assumption)
            obtain ⟨ad481, e481, hx481_0, hx481_1⟩ := at_T38 HR0.out x6_1 p481 q481
            obtain rfl : ad480 = ad481 := (by injection e481)
            replace p481 := eq_true p481
            replace q481 := eq_true q481
            go_wp2
            repeat (go_quiet (fail); try go_wp2)
            go_ret2
            exact ⟨by first | rfl | (simp; done) | (simp [*]; done), by repeat (first | exact Drawn0.refl _ | apply Drawn0.step)⟩
        · rw [if_neg c4] at H
          exact absurd H (by simp)
      · rw [if_neg c3] at H
        have c3b0 : decide (x6_1 < (l0.length : Int)) = false := decide_eq_false c3
        clear c3
        simp only [Option.some.injEq, Prod.mk.injEq] at H
        obtain ⟨rfl, rfl⟩ := H
        go_wp2
        repeat (go_quiet (fail); try go_wp2)
        go_ret2
        exact ⟨by first | rfl | (simp; done) | (simp [*]; done), by repeat (first | exact Drawn0.refl _ | apply Drawn0.step)⟩

end Go.Proofs.Ytegelpeegbngiaa.P
-- Written by wip/px.py of this session, over the kit's print.py. Not trusted: Lean checks it.
namespace Go.Proofs.Ytegelpeegbngiaa.P
open Go.RowKit Go.Proofs.YtegelpeegbngiaaW.PrintWords Go.Proofs.YtegelpeegbngiaaW.PrintLast Go.Proofs.YtegelpeegbngiaaW.PrintMore
attribute [local go_sem] max2_int min2_int max_two min_two max_three min_three max_four min_four   -- for this text's walks alone
set_option linter.unusedVariables false
set_option linter.unusedSimpArgs false

/-! ### spec_FieldsPut: the walk -/
def spec_FieldsPut.T7 : Bool × List (List Nat × List Nat) := (true, [([], []), ([], []), ([], []), ([1, 2], [1, 2]), ([0, 3], [0, 3]), ([], []), ([5], [5]), ([4, 6, 4], [4, 6]), ([], []), ([], []), ([8, 9], [8, 9]), ([7, 10, 7], [7, 10]), ([11, 11, 0, 1, 2, 3, 4, 5, 6, 7, 8, 9, 10, 11], [11])])
def spec_FieldsPut.B7 : List Nat := [0, 0, 0, 6, 15, 0, 32, 127, 0, 0, 768, 2047, 4095]
theorem spec_FieldsPut.tab7 : rtab .any (opsOf Try.f21 7) = spec_FieldsPut.T7 := by kernel_rfl
theorem spec_FieldsPut.bits7 : waitsOk spec_FieldsPut.T7.2 spec_FieldsPut.B7 = true := by kernel_rfl
set_option maxHeartbeats 8000000 in
set_option maxRecDepth 100000 in
theorem spec_FieldsPut.calls (k : Nat) (A0 : Option Addr) (c0 : Nat) (l0 : List (S38)) (a1_0 : ByteArray) (a1_1 : ByteArray) (r1 : List (S38)) (r2 : Bool) (r3 : Bool) (w : World) (hr0 : Kd.C k38 w A0 l0.length l0) (hc0 : l0.length ≤ c0) (h : spec_FieldsPut.f k l0 a1_0 a1_1 = some (r1, r2, r3)) :
    Calls Try.prog 21 #[.slice A0 l0.length c0, .agg #[.string a1_0, .string a1_1]] w fun e w' => ∃ v0_ : Value, e = .returned (.tuple #[v0_, .bool r2, .bool r3]) ∧ Kd.R k38 38 w' w.heap.size (fun _ => True) v0_ r1 ∧ Below w.heap.size w w' := by
  have hu38 := Try.underlying38
  have HR0 := Aside0.mk hr0
  have HC0 := Aside0.mk hc0
  clear hr0 hc0
  have HB := Aside0.mk (Below.refl w.heap.size w)
  have H : ((spec_FieldsOk.f k l0).bind fun t483 => (if t483 = true then ((spec_l3At.f k l0 a1_0).bind fun bt487 => ((some (([] : List (S38)) : List (S38))).bind fun y489 => (if y489.length + l0.length < 4398046511104 then ((some (y489 ++ l0 : List (S38))).bind fun y492 => (if bt487.2 = true then (if 0 ≤ bt487.1 then (if bt487.1 < (y492.length : Int) then (spec_FieldsPut.j0 k l0 bt487.2 (y492.set (bt487.1 : Int).toNat (⟨a1_0, a1_1⟩ : S38))) else (none)) else (none)) else ((some (([] : List (S38)) : List (S38))).bind fun y496 => (if 0 ≤ bt487.1 then (if bt487.1 ≤ (l0.length : Int) then ((some (l0.take (bt487.1 : Int).toNat : List (S38))).bind fun y499 => (if y496.length + y499.length < 4398046511104 then ((some (y496 ++ y499 : List (S38))).bind fun y503 => ((some (([(⟨a1_0, a1_1⟩ : S38)] : List (S38)) : List (S38))).bind fun y506 => (if y503.length + y506.length < 4398046511104 then ((some (y503 ++ y506 : List (S38))).bind fun y509 => ((some (l0.drop (bt487.1 : Int).toNat : List (S38))).bind fun y512 => (if y509.length + y512.length < 4398046511104 then (spec_FieldsPut.j0 k l0 bt487.2 (y509 ++ y512)) else (none)))) else (none)))) else (none))) else (none)) else (none))))) else (none)))) else (some ((([] : List (S38))), false, false)))) = some (r1, r2, r3) := h
  clear h
  replace H := Option.bind_eq_some_iff.mp H
  obtain ⟨t483, A30, H⟩ := H
  replace H : (if t483 = true then ((spec_l3At.f k l0 a1_0).bind fun bt487 => ((some (([] : List (S38)) : List (S38))).bind fun y489 => (if y489.length + l0.length < 4398046511104 then ((some (y489 ++ l0 : List (S38))).bind fun y492 => (if bt487.2 = true then (if 0 ≤ bt487.1 then (if bt487.1 < (y492.length : Int) then (spec_FieldsPut.j0 k l0 bt487.2 (y492.set (bt487.1 : Int).toNat (⟨a1_0, a1_1⟩ : S38))) else (none)) else (none)) else ((some (([] : List (S38)) : List (S38))).bind fun y496 => (if 0 ≤ bt487.1 then (if bt487.1 ≤ (l0.length : Int) then ((some (l0.take (bt487.1 : Int).toNat : List (S38))).bind fun y499 => (if y496.length + y499.length < 4398046511104 then ((some (y496 ++ y499 : List (S38))).bind fun y503 => ((some (([(⟨a1_0, a1_1⟩ : S38)] : List (S38)) : List (S38))).bind fun y506 => (if y503.length + y506.length < 4398046511104 then ((some (y503 ++ y506 : List (S38))).bind fun y509 => ((some (l0.drop (bt487.1 : Int).toNat : List (S38))).bind fun y512 => (if y509.length + y512.length < 4398046511104 then (spec_FieldsPut.j0 k l0 bt487.2 (y509 ++ y512)) else (none)))) else (none)))) else (none))) else (none)) else (none))))) else (none)))) else (some ((([] : List (S38))), false, false))) = some (r1, r2, r3) := H
  have A3 := Aside0.mk A30
  clear A30
  by_cases c4 : t483 = true
  · subst c4
    have H1 : ((spec_l3At.f k l0 a1_0).bind fun bt487 => ((some (([] : List (S38)) : List (S38))).bind fun y489 => (if y489.length + l0.length < 4398046511104 then ((some (y489 ++ l0 : List (S38))).bind fun y492 => (if bt487.2 = true then (if 0 ≤ bt487.1 then (if bt487.1 < (y492.length : Int) then (spec_FieldsPut.j0 k l0 bt487.2 (y492.set (bt487.1 : Int).toNat (⟨a1_0, a1_1⟩ : S38))) else (none)) else (none)) else ((some (([] : List (S38)) : List (S38))).bind fun y496 => (if 0 ≤ bt487.1 then (if bt487.1 ≤ (l0.length : Int) then ((some (l0.take (bt487.1 : Int).toNat : List (S38))).bind fun y499 => (if y496.length + y499.length < 4398046511104 then ((some (y496 ++ y499 : List (S38))).bind fun y503 => ((some (([(⟨a1_0, a1_1⟩ : S38)] : List (S38)) : List (S38))).bind fun y506 => (if y503.length + y506.length < 4398046511104 then ((some (y503 ++ y506 : List (S38))).bind fun y509 => ((some (l0.drop (bt487.1 : Int).toNat : List (S38))).bind fun y512 => (if y509.length + y512.length < 4398046511104 then (spec_FieldsPut.j0 k l0 bt487.2 (y509 ++ y512)) else (none)))) else (none)))) else (none))) else (none)) else (none))))) else (none)))) = some (r1, r2, r3) := by rw [if_pos rfl] at H; exact H
    clear H
    have H := H1
    clear H1
    replace H := Option.bind_eq_some_iff.mp H
    obtain ⟨⟨t487, t488⟩, A50, H⟩ := H
    replace H : ((some (([] : List (S38)) : List (S38))).bind fun y489 => (if y489.length + l0.length < 4398046511104 then ((some (y489 ++ l0 : List (S38))).bind fun y492 => (if t488 = true then (if 0 ≤ t487 then (if t487 < (y492.length : Int) then (spec_FieldsPut.j0 k l0 t488 (y492.set (t487 : Int).toNat (⟨a1_0, a1_1⟩ : S38))) else (none)) else (none)) else ((some (([] : List (S38)) : List (S38))).bind fun y496 => (if 0 ≤ t487 then (if t487 ≤ (l0.length : Int) then ((some (l0.take (t487 : Int).toNat : List (S38))).bind fun y499 => (if y496.length + y499.length < 4398046511104 then ((some (y496 ++ y499 : List (S38))).bind fun y503 => ((some (([(⟨a1_0, a1_1⟩ : S38)] : List (S38)) : List (S38))).bind fun y506 => (if y503.length + y506.length < 4398046511104 then ((some (y503 ++ y506 : List (S38))).bind fun y509 => ((some (l0.drop (t487 : Int).toNat : List (S38))).bind fun y512 => (if y509.length + y512.length < 4398046511104 then (spec_FieldsPut.j0 k l0 t488 (y509 ++ y512)) else (none)))) else (none)))) else (none))) else (none)) else (none))))) else (none))) = some (r1, r2, r3) := H
    have A5 := Aside0.mk A50
    clear A50
    obtain ⟨y489, hy489⟩ : ∃ y_ : List (S38), y_ = (([] : List (S38))) := ⟨_, rfl⟩
    replace H : (if y489.length + l0.length < 4398046511104 then ((some (y489 ++ l0 : List (S38))).bind fun y492 => (if t488 = true then (if 0 ≤ t487 then (if t487 < (y492.length : Int) then (spec_FieldsPut.j0 k l0 t488 (y492.set (t487 : Int).toNat (⟨a1_0, a1_1⟩ : S38))) else (none)) else (none)) else ((some (([] : List (S38)) : List (S38))).bind fun y496 => (if 0 ≤ t487 then (if t487 ≤ (l0.length : Int) then ((some (l0.take (t487 : Int).toNat : List (S38))).bind fun y499 => (if y496.length + y499.length < 4398046511104 then ((some (y496 ++ y499 : List (S38))).bind fun y503 => ((some (([(⟨a1_0, a1_1⟩ : S38)] : List (S38)) : List (S38))).bind fun y506 => (if y503.length + y506.length < 4398046511104 then ((some (y503 ++ y506 : List (S38))).bind fun y509 => ((some (l0.drop (t487 : Int).toNat : List (S38))).bind fun y512 => (if y509.length + y512.length < 4398046511104 then (spec_FieldsPut.j0 k l0 t488 (y509 ++ y512)) else (none)))) else (none)))) else (none))) else (none)) else (none))))) else (none)) = some (r1, r2, r3) := by first | (rw [hy489]; with_reducible exact H) | (have H2_ := (Option.bind_some _ _).symm.trans H; rw [hy489]; with_reducible exact H2_) | (have H2_ := (Option.bind_some _ _).symm.trans H; with_reducible exact H2_) | with_reducible exact H | (rw [hy489]; exact H) | exact H
    have Ny489 := Aside0.mk hy489
    clear hy489
    by_cases c6 : y489.length + l0.length < 4398046511104
    · rw [if_pos c6] at H
      have LMc6 := Aside0.mk c6
      clear c6
      obtain ⟨y492, hy492⟩ : ∃ y_ : List (S38), y_ = (y489 ++ l0) := ⟨_, rfl⟩
      replace H : (if t488 = true then (if 0 ≤ t487 then (if t487 < (y492.length : Int) then (spec_FieldsPut.j0 k l0 t488 (y492.set (t487 : Int).toNat (⟨a1_0, a1_1⟩ : S38))) else (none)) else (none)) else ((some (([] : List (S38)) : List (S38))).bind fun y496 => (if 0 ≤ t487 then (if t487 ≤ (l0.length : Int) then ((some (l0.take (t487 : Int).toNat : List (S38))).bind fun y499 => (if y496.length + y499.length < 4398046511104 then ((some (y496 ++ y499 : List (S38))).bind fun y503 => ((some (([(⟨a1_0, a1_1⟩ : S38)] : List (S38)) : List (S38))).bind fun y506 => (if y503.length + y506.length < 4398046511104 then ((some (y503 ++ y506 : List (S38))).bind fun y509 => ((some (l0.drop (t487 : Int).toNat : List (S38))).bind fun y512 => (if y509.length + y512.length < 4398046511104 then (spec_FieldsPut.j0 k l0 t488 (y509 ++ y512)) else (none)))) else (none)))) else (none))) else (none)) else (none)))) = some (r1, r2, r3) := by first | (rw [hy492]; with_reducible exact H) | (have H2_ := (Option.bind_some _ _).symm.trans H; rw [hy492]; with_reducible exact H2_) | (have H2_ := (Option.bind_some _ _).symm.trans H; with_reducible exact H2_) | with_reducible exact H | (rw [hy492]; exact H) | exact H
      have Ny492 := Aside0.mk hy492
      clear hy492
      have HC7 := Aside0.mk H
      clear H
      go_enter Try.func21, Try.ntmps21
      go_upto_if 24 with (first | ((with_reducible refine gate_dst (N := 3) rfl ?_); refine box_event ?hg (N := 3) ?hd (cs := #[.string a1_0, .string a1_1]) (t := 38) ?hr ?_; (case hd => rfl); (case hg => rfl); (case hr => first | (go_simp; done) | (go_simp; rfl)); intro gb482 hg w8 hbox hb; have n0_ := Aside0.mk (below_step (by repeat (first | (with_reducible first | exact HB.out | apply below_alloc | apply pw_below_drewN | apply below_drew1) | exact HB.out | exact Below.refl _ _)) hb); have n1_ := Aside0.mk (hbox); have n2_ := Aside0.mk ((by rw [hg]; exact (below_size (by repeat (first | (with_reducible first | exact HB.out | apply below_alloc | apply pw_below_drewN | apply below_drew1) | exact HB.out | exact Below.refl _ _))) : w.heap.size ≤ gb482)); have n3_ := Aside0.mk ((by rw [hg]; exact (below_size (by repeat (first | (with_reducible first | exact HB.out | apply below_alloc | apply pw_below_drewN | apply below_drew1) | exact HB.out | exact Below.refl _ _))) : w.heap.size ≤ gb482)); clear HB; have HB := n0_; have BK482 := n1_; have GW482 := n2_; have GE482 := n3_; clear n0_ n1_ n2_ n3_; clear hb hbox hg) | ((with_reducible refine gate_callee (f := 31) rfl ?_); refine goesL_ (some 11) rfl rfl Try.func31 (by kernel_rfl) rfl #[.slice A0 l0.length c0] rfl (by (try simp only [List.map_toArray, List.map_cons, List.map_nil]); first | done | rfl | (simp only [List.length_drop, List.length_take]; rfl)) ?_; (with_reducible refine (spec_FieldsOk.calls k _ _ l0 true _ ?side1 ?side2 A3.out).mono ?_); (case side1 => repeat (first | exact (Kd.C_below HR0.out HB.out) | (with_reducible refine Kd.C_alloc ?_ _) | (with_reducible refine Kd.C_drewN ?_ _) | (with_reducible refine Kd.C_drew ?_))); (case side2 => exact HC0.out); rintro e w' ⟨rfl, ⟨nd, rfl⟩⟩; refine ⟨_, rfl, ?_⟩; have hcz9_0 : w8.cell? ⟨gb482, 0, none⟩ = some (.string a1_0) := (blk_cell BK482.out 0).trans rfl; have hcz9_1 : w8.cell? ⟨gb482, 1, none⟩ = some (.string a1_1) := (blk_cell BK482.out 1).trans rfl; have hfz9_0 := blk_frozen BK482.out 0; have hfz9_1 := blk_frozen BK482.out 1) | ((with_reducible refine gate_callee (f := 54) rfl ?_); refine goesL_ (some 18) rfl rfl Try.func54 (by kernel_rfl) rfl #[.slice A0 l0.length c0, .string a1_0] rfl (by (try simp only [List.map_toArray, List.map_cons, List.map_nil]); first | done | rfl | (simp only [List.length_drop, List.length_take]; rfl)) ?_; (with_reducible refine (spec_l3At.calls k _ _ l0 a1_0 t487 t488 _ ?side1 ?side2 A5.out).mono ?_); (case side1 => repeat (first | exact (Kd.C_below HR0.out (by repeat (first | (with_reducible first | exact HB.out | apply below_alloc | apply pw_below_drewN | apply below_drew1 | refine below_set ?_ GE482.out) | exact HB.out))) | (with_reducible refine Kd.C_alloc ?_ _) | (with_reducible refine Kd.C_drewN ?_ _) | (with_reducible refine Kd.C_drew ?_))); (case side2 => exact HC0.out); rintro e w' ⟨rfl, ⟨nd, rfl⟩⟩; refine ⟨_, rfl, ?_⟩) | ((with_reducible refine gate_dst (N := 21) rfl ?_); refine Kd.R_lit k38 _ 38 ?hg (N := 21) ?hd (xs := ([] : List (S38))) (inner := []) (ok := fun _ => True) (okp := fun _ => True) ?hr ?hp (fun _ hk => hk) trivial (Below.refl _ _) (Nat.le_refl _) (by simp) ?_; (case hd => rfl); (case hg => rfl); (case hr => first | (go_simp; done) | (go_simp; rfl)); (case hp => exact (Reps.none _ _)); intro v490 w10 ho11 hb hg_ hnew_; clear hg_ hnew_; (first | rw [← Ny489.out] at ho11 | (simp only [Int.reduceToNat] at ho11; rw [← Ny489.out] at ho11)); have n0_ := Aside0.mk (Kd.R_lower (Kd.R_newB ho11 (g := gb482) (o := .cells #[.string a1_0, .string a1_1] 38 (0, 0)) (by (with_reducible repeat (first | refine blk_drewN ?_ _ | refine blk_drew ?_ | refine blk_alloc ?_ _)); exact BK482.out)) (below_size (by repeat (first | (with_reducible first | exact HB.out | apply below_alloc | apply pw_below_drewN | apply below_drew1 | refine below_set ?_ GE482.out) | exact HB.out)))); have n1_ := Aside0.mk (blk_below (g := gb482) (o := .cells #[.string a1_0, .string a1_1] 38 (0, 0)) (by (with_reducible repeat (first | refine blk_drewN ?_ _ | refine blk_drew ?_ | refine blk_alloc ?_ _)); exact BK482.out) hb); have n2_ := Aside0.mk (below_step (by repeat (first | (with_reducible first | exact HB.out | apply below_alloc | apply pw_below_drewN | apply below_drew1 | refine below_set ?_ GE482.out) | exact HB.out)) hb); clear BK482; clear HB; have HO491 := n0_; have BK482 := n1_; have HB := n2_; clear n0_ n1_ n2_; clear hb ho11) | ((with_reducible refine gate_builtin (b := .append) (xs := #[.tmp 21, .tmp 22]) rfl ?_); at_builtin; refine Kd.R_append_rows k38 (w0 := w) w.heap.size rfl (.tmp 21) (.tmp 22) 34 38 (.agg #[(.string ⟨#[]⟩), (.string ⟨#[]⟩)]) 32 rfl Try.underlying34 info38 rfl (by decide) (by omega) v490 y489 l0 _ _ _ (fun k_ => k_ ≠ gb482) (fun _ => False) rfl rfl ?aO ?aR (fun _ _ h => h) (fun _ h => h.elim) ?aF ?aB ?aS ?aL ?_; (case aR => repeat (first | exact (Kd.C_below HR0.out HB.out) | (with_reducible refine Kd.C_alloc ?_ _) | (with_reducible refine Kd.C_drewN ?_ _) | (with_reducible refine Kd.C_drew ?_))); (case aB => exact (by repeat (first | (with_reducible first | exact HB.out | apply below_alloc | apply pw_below_drewN | apply below_drew1 | refine below_set ?_ GE482.out) | exact HB.out))); (case aF => exact (fun k_ hk => Kd.freshB (g := gb482) (o := .cells #[.string a1_0, .string a1_1] 38 (0, 0)) (by (with_reducible repeat (first | refine blk_drewN ?_ _ | refine blk_drew ?_ | refine blk_alloc ?_ _)); exact BK482.out) k_ hk)); (case aO => exact (by (with_reducible repeat (first | apply Kd.R_alloc | apply Kd.R_drewN | apply Kd.R_drew)); exact Kd.R_mono HO491.out (fun _ hk => hk.2))); (case aS => exact (below_size (by repeat (first | (with_reducible first | exact HB.out | apply below_alloc | apply pw_below_drewN | apply below_drew1 | refine below_set ?_ GE482.out) | exact HB.out)))); (case aL => have := LMc6.out; omega); intro v493 w12 ho hb hg hat; rw [← Ny492.out] at ho; have n0_ := Aside0.mk (blk_grown (g := gb482) (o := .cells #[.string a1_0, .string a1_1] 38 (0, 0)) (by (with_reducible repeat (first | refine blk_drewN ?_ _ | refine blk_drew ?_ | refine blk_alloc ?_ _)); exact BK482.out) hg (Kd.R_away HO491.out (fun _ hk => hk.2))); have n1_ := Aside0.mk (hb); have n2_ := Aside0.mk (ho); clear BK482; clear HB; clear HO491; have BK482 := n0_; have HB := n1_; have HO494 := n2_; clear n0_ n1_ n2_; clear ho hb hg hat))
      (try simp only [Act.put, List.setIfInBounds_toArray, List.set_cons_zero, List.set_cons_succ])
      go_cut [9] (fun v9 wc => ∃ (kq : Nat) (x9_6 : List (S38)) (x483000_6 : ByteArray) (x483001_6 : ByteArray), Aside0 (spec_FieldsPut.j0 kq l0 t488 x9_6 = some (r1, r2, r3)) ∧ Aside0 (kq ≤ k) ∧ Aside0 (Kd.R k38 38 wc w.heap.size (fun k_ => k_ ≠ gb482) v9 x9_6) ∧ Aside0 (wc.heap[gb482]? = some (.cells #[.string x483000_6, .string x483001_6] 38 (0, 0))) ∧ Aside0 (Below w.heap.size w wc))
      case first =>
        have H := HC7.out
        clear HC7
        by_cases c13 : t488 = true
        · subst c13
          have H1 : (if 0 ≤ t487 then (if t487 < (y492.length : Int) then (spec_FieldsPut.j0 k l0 true (y492.set (t487 : Int).toNat (⟨a1_0, a1_1⟩ : S38))) else (none)) else (none)) = some (r1, r2, r3) := by rw [if_pos rfl] at H; exact H
          clear H
          have H := H1
          clear H1
          by_cases c14 : 0 ≤ t487
          · rw [if_pos c14] at H
            have c14b0 : decide (0 ≤ t487) = true := decide_eq_true c14
            clear c14
            (first | rw [c14b0] | (simp only [i64_w, i32_w]; rw [c14b0]) | skip)
            by_cases c15 : t487 < (y492.length : Int)
            · rw [if_pos c15] at H
              have c15b0 : decide (t487 < (y492.length : Int)) = true := decide_eq_true c15
              clear c15
              obtain ⟨y495, hy495⟩ : ∃ y_ : List (S38), y_ = (y492.set (t487 : Int).toNat (⟨a1_0, a1_1⟩ : S38)) := ⟨_, rfl⟩
              replace H : (spec_FieldsPut.j0 k l0 true y495) = some (r1, r2, r3) := by first | (rw [hy495]; with_reducible exact H) | (have H2_ := (Option.bind_some _ _).symm.trans H; rw [hy495]; with_reducible exact H2_) | (have H2_ := (Option.bind_some _ _).symm.trans H; with_reducible exact H2_) | with_reducible exact H | (rw [hy495]; exact H) | exact H
              have Ny495 := Aside0.mk hy495
              clear hy495
              have H' := Aside0.mk H
              clear H
              have hcz17_0 : w12.cell? ⟨gb482, 0, none⟩ = some (.string a1_0) := (blk_cell BK482.out 0).trans rfl
              have hcz17_1 : w12.cell? ⟨gb482, 1, none⟩ = some (.string a1_1) := (blk_cell BK482.out 1).trans rfl
              have hfz17_0 := blk_frozen BK482.out 0
              have hfz17_1 := blk_frozen BK482.out 1
              have p16 : 0 ≤ (t487 : Int) := of_decide_eq_true (by first | (with_reducible assumption) | assumption)
              have q16 : (t487 : Int) < ((y492.length : Int) : Int) := of_decide_eq_true (by first | (with_reducible assumption) | assumption)
              obtain ⟨go16, co16, eo16, gb16, gl16, cl16, HG16⟩ := Kd.R_form HO494.out (by omega)
              (first | cases eo16 | (injection eo16 with ea_ en_ ec_; (first | subst ea_ | (injection ea_ with ea_; subst ea_)); subst ec_; clear en_))
              have GB16 := Aside0.mk gb16
              have GG16 := Aside0.mk HG16
              clear gb16 gl16 HG16
              obtain ⟨ce16, hcl16, hM16, hcc16, hfr16⟩ := Kd.R_elem HO494.out z38 (t487 : Int) p16 q16
              obtain rfl := k38_openM hM16
              have hx16_0 : w12.cell? ⟨go16, (t487 : Int).toNat * 2, none⟩ = some (.string ((rd_T38 y492 t487).f0)) := hcc16 0 _ rfl
              have hx16_1 : w12.cell? ⟨go16, (t487 : Int).toNat * 2 + 1, none⟩ = some (.string ((rd_T38 y492 t487).f1)) := hcc16 1 _ rfl
              have hf16_0 : w12.frozen? ⟨go16, (t487 : Int).toNat * 2, none⟩ = false := hfr16 0
              have hf16_1 : w12.frozen? ⟨go16, (t487 : Int).toNat * 2 + 1, none⟩ = false := hfr16 1
              clear hcl16 hcc16 hfr16 hM16
              replace p16 := eq_true p16
              replace q16 := eq_true q16
              have HX18 := Aside0.mk (show Kd.R k38 38 w12 w.heap.size (fun k_ => k_ ≠ gb482) (.slice (some ⟨go16, 0, none⟩) y492.length co16) y492 from (by (with_reducible repeat (first | apply Kd.R_alloc | apply Kd.R_drewN | apply Kd.R_drew)); exact HO494.out))
              obtain ⟨ce18, hcl18, hM18, hcc18, hfr18⟩ := Kd.R_elem HX18.out z38 (t487 : Int) (of_decide_eq_true (by first | (with_reducible assumption) | assumption)) (by have h_ : (t487 : Int) < ((y492.length : Int) : Int) := of_decide_eq_true (by first | (with_reducible assumption) | assumption); first | exact h_ | (have e_ := (Kd.R_reads' HO494.out).1; omega) | simpa using h_)
              obtain rfl := k38_openM hM18
              have HP18 := Kd.R_seg HX18.out (t487 : Int) (of_decide_eq_true (by first | (with_reducible assumption) | assumption)) (by have h_ : (t487 : Int) < ((y492.length : Int) : Int) := of_decide_eq_true (by first | (with_reducible assumption) | assumption); first | exact h_ | (have e_ := (Kd.R_reads' HO494.out).1; omega) | simpa using h_) (seg := [.string a1_0, .string a1_1]) (j := 0) hcl18 hcc18 (show 2 ≤ 2 from by decide) (x' := (⟨a1_0, a1_1⟩ : S38)) (k38_mkM _ _ _ (⟨a1_0, a1_1⟩ : S38) ) (fun _ hk => hk)
              have hx18_0 := hcc18 0 _ rfl
              (try simp only [show (k38).sz = 2 from rfl, Nat.mul_one, Nat.add_zero] at hx18_0)
              have hf18_0 := hfr18 0
              (try simp only [show (k38).sz = 2 from rfl, Nat.mul_one, Nat.add_zero] at hf18_0)
              have hx18_1 := hcc18 1 _ rfl
              (try simp only [show (k38).sz = 2 from rfl, Nat.mul_one, Nat.add_zero] at hx18_1)
              have hf18_1 := hfr18 1
              (try simp only [show (k38).sz = 2 from rfl, Nat.mul_one, Nat.add_zero] at hf18_1)
              clear hcl18 hcc18 hfr18 hM18
              go_wp2_with (first | ((with_reducible refine gate_store (t := 38) (p := 28) rfl ?_); refine store_event (t := 38) (p := 28) (v := ?vo_w19) (w1 := ((w12.setCell ⟨go16, (t487 : Int).toNat * 2, none⟩ (.string a1_0)).setCell ⟨go16, (t487 : Int).toNat * 2 + 1, none⟩ (.string a1_1))) ?hg ?ho ?hn ?hr ?_; (case ho => rfl); (case hg => rfl); (case hn => rfl); (case hr => first | (go_simp; done) | (go_simp; rfl)); intro w19 hw; have hg : w12.grownBy w19 (some go16) := (by rw [hw]; exact HP18.2); have hp_ : Kd.R k38 38 w19 w.heap.size (fun k_ => k_ ≠ gb482) (.slice (some ⟨go16, 0, none⟩) y492.length co16) y495 := (by rw [hw, Ny495.out]; exact HP18.1); clear HP18; have n0_ := Aside0.mk (blk_grown (g := gb482) (o := .cells #[.string a1_0, .string a1_1] 38 (0, 0)) (by (with_reducible repeat (first | refine blk_drewN ?_ _ | refine blk_drew ?_ | refine blk_alloc ?_ _)); exact BK482.out) hg (Kd.R_away HO494.out (fun _ hk => hk))); have n1_ := Aside0.mk (hp_); have n2_ := Aside0.mk ((by rw [hw]; exact below_set (below_set (HB.out) GB16.out) GB16.out : Below w.heap.size w w19)); clear BK482; clear HO494; clear HB; have BK482 := n0_; have HO494 := n1_; have HB := n2_; clear n0_ n1_ n2_; clear hg hw hp_))
              go_meet
              case rel => exact ⟨_, (y495), (a1_0), (a1_1), H', ⟨by first | omega | exact Nat.le_refl _⟩, ⟨by (with_reducible repeat (first | apply Kd.R_alloc | apply Kd.R_drewN | apply Kd.R_drew)); exact HO494.out⟩, ⟨by (with_reducible repeat (first | refine blk_drewN ?_ _ | refine blk_drew ?_ | refine blk_alloc ?_ _)); exact BK482.out⟩, ⟨by repeat (first | (with_reducible first | exact HB.out | apply below_alloc | apply pw_below_drewN | apply below_drew1 | refine below_set ?_ GE482.out) | exact HB.out)⟩⟩
            · rw [if_neg c15] at H
              exact absurd H (by simp)
          · rw [if_neg c14] at H
            exact absurd H (by simp)
        · replace c13 := Bool.eq_false_iff.mpr c13
          subst c13
          have H1 : ((some (([] : List (S38)) : List (S38))).bind fun y496 => (if 0 ≤ t487 then (if t487 ≤ (l0.length : Int) then ((some (l0.take (t487 : Int).toNat : List (S38))).bind fun y499 => (if y496.length + y499.length < 4398046511104 then ((some (y496 ++ y499 : List (S38))).bind fun y503 => ((some (([(⟨a1_0, a1_1⟩ : S38)] : List (S38)) : List (S38))).bind fun y506 => (if y503.length + y506.length < 4398046511104 then ((some (y503 ++ y506 : List (S38))).bind fun y509 => ((some (l0.drop (t487 : Int).toNat : List (S38))).bind fun y512 => (if y509.length + y512.length < 4398046511104 then (spec_FieldsPut.j0 k l0 false (y509 ++ y512)) else (none)))) else (none)))) else (none))) else (none)) else (none))) = some (r1, r2, r3) := by rw [if_neg (show ¬ (false = true) by decide)] at H; exact H
          clear H
          have H := H1
          clear H1
          obtain ⟨y496, hy496⟩ : ∃ y_ : List (S38), y_ = (([] : List (S38))) := ⟨_, rfl⟩
          replace H : (if 0 ≤ t487 then (if t487 ≤ (l0.length : Int) then ((some (l0.take (t487 : Int).toNat : List (S38))).bind fun y499 => (if y496.length + y499.length < 4398046511104 then ((some (y496 ++ y499 : List (S38))).bind fun y503 => ((some (([(⟨a1_0, a1_1⟩ : S38)] : List (S38)) : List (S38))).bind fun y506 => (if y503.length + y506.length < 4398046511104 then ((some (y503 ++ y506 : List (S38))).bind fun y509 => ((some (l0.drop (t487 : Int).toNat : List (S38))).bind fun y512 => (if y509.length + y512.length < 4398046511104 then (spec_FieldsPut.j0 k l0 false (y509 ++ y512)) else (none)))) else (none)))) else (none))) else (none)) else (none)) = some (r1, r2, r3) := by first | (rw [hy496]; with_reducible exact H) | (have H2_ := (Option.bind_some _ _).symm.trans H; rw [hy496]; with_reducible exact H2_) | (have H2_ := (Option.bind_some _ _).symm.trans H; with_reducible exact H2_) | with_reducible exact H | (rw [hy496]; exact H) | exact H
          have Ny496 := Aside0.mk hy496
          clear hy496
          by_cases c20 : 0 ≤ t487
          · rw [if_pos c20] at H
            have c20b0 := eq_true c20
            have c20b1 : decide (0 ≤ t487) = true := decide_eq_true c20
            clear c20
            by_cases c21 : t487 ≤ (l0.length : Int)
            · rw [if_pos c21] at H
              have c21b0 := eq_true c21
              have c21b1 : decide (t487 ≤ (l0.length : Int)) = true := decide_eq_true c21
              clear c21
              obtain ⟨y499, hy499⟩ : ∃ y_ : List (S38), y_ = (l0.take (t487 : Int).toNat) := ⟨_, rfl⟩
              replace H : (if y496.length + y499.length < 4398046511104 then ((some (y496 ++ y499 : List (S38))).bind fun y503 => ((some (([(⟨a1_0, a1_1⟩ : S38)] : List (S38)) : List (S38))).bind fun y506 => (if y503.length + y506.length < 4398046511104 then ((some (y503 ++ y506 : List (S38))).bind fun y509 => ((some (l0.drop (t487 : Int).toNat : List (S38))).bind fun y512 => (if y509.length + y512.length < 4398046511104 then (spec_FieldsPut.j0 k l0 false (y509 ++ y512)) else (none)))) else (none)))) else (none)) = some (r1, r2, r3) := by first | (rw [hy499]; with_reducible exact H) | (have H2_ := (Option.bind_some _ _).symm.trans H; rw [hy499]; with_reducible exact H2_) | (have H2_ := (Option.bind_some _ _).symm.trans H; with_reducible exact H2_) | with_reducible exact H | (rw [hy499]; exact H) | exact H
              have Ny499 := Aside0.mk hy499
              clear hy499
              by_cases c22 : y496.length + y499.length < 4398046511104
              · rw [if_pos c22] at H
                have LMc22 := Aside0.mk c22
                clear c22
                obtain ⟨y503, hy503⟩ : ∃ y_ : List (S38), y_ = (y496 ++ y499) := ⟨_, rfl⟩
                replace H : ((some (([(⟨a1_0, a1_1⟩ : S38)] : List (S38)) : List (S38))).bind fun y506 => (if y503.length + y506.length < 4398046511104 then ((some (y503 ++ y506 : List (S38))).bind fun y509 => ((some (l0.drop (t487 : Int).toNat : List (S38))).bind fun y512 => (if y509.length + y512.length < 4398046511104 then (spec_FieldsPut.j0 k l0 false (y509 ++ y512)) else (none)))) else (none))) = some (r1, r2, r3) := by first | (rw [hy503]; with_reducible exact H) | (have H2_ := (Option.bind_some _ _).symm.trans H; rw [hy503]; with_reducible exact H2_) | (have H2_ := (Option.bind_some _ _).symm.trans H; with_reducible exact H2_) | with_reducible exact H | (rw [hy503]; exact H) | exact H
                have Ny503 := Aside0.mk hy503
                clear hy503
                obtain ⟨y506, hy506⟩ : ∃ y_ : List (S38), y_ = (([(⟨a1_0, a1_1⟩ : S38)] : List (S38))) := ⟨_, rfl⟩
                replace H : (if y503.length + y506.length < 4398046511104 then ((some (y503 ++ y506 : List (S38))).bind fun y509 => ((some (l0.drop (t487 : Int).toNat : List (S38))).bind fun y512 => (if y509.length + y512.length < 4398046511104 then (spec_FieldsPut.j0 k l0 false (y509 ++ y512)) else (none)))) else (none)) = some (r1, r2, r3) := by first | (rw [hy506]; with_reducible exact H) | (have H2_ := (Option.bind_some _ _).symm.trans H; rw [hy506]; with_reducible exact H2_) | (have H2_ := (Option.bind_some _ _).symm.trans H; with_reducible exact H2_) | with_reducible exact H | (rw [hy506]; exact H) | exact H
                have Ny506 := Aside0.mk hy506
                clear hy506
                by_cases c23 : y503.length + y506.length < 4398046511104
                · rw [if_pos c23] at H
                  have LMc23 := Aside0.mk c23
                  clear c23
                  obtain ⟨y509, hy509⟩ : ∃ y_ : List (S38), y_ = (y503 ++ y506) := ⟨_, rfl⟩
                  replace H : ((some (l0.drop (t487 : Int).toNat : List (S38))).bind fun y512 => (if y509.length + y512.length < 4398046511104 then (spec_FieldsPut.j0 k l0 false (y509 ++ y512)) else (none))) = some (r1, r2, r3) := by first | (rw [hy509]; with_reducible exact H) | (have H2_ := (Option.bind_some _ _).symm.trans H; rw [hy509]; with_reducible exact H2_) | (have H2_ := (Option.bind_some _ _).symm.trans H; with_reducible exact H2_) | with_reducible exact H | (rw [hy509]; exact H) | exact H
                  have Ny509 := Aside0.mk hy509
                  clear hy509
                  have c24b0 := eq_true (of_decide_eq_true (by first | (with_reducible assumption) | assumption) : 0 ≤ t487)
                  have c25b0 := eq_true (of_decide_eq_true (by first | (with_reducible assumption) | assumption) : t487 ≤ (l0.length : Int))
                  obtain ⟨y512, hy512⟩ : ∃ y_ : List (S38), y_ = (l0.drop (t487 : Int).toNat) := ⟨_, rfl⟩
                  replace H : (if y509.length + y512.length < 4398046511104 then (spec_FieldsPut.j0 k l0 false (y509 ++ y512)) else (none)) = some (r1, r2, r3) := by first | (rw [hy512]; with_reducible exact H) | (have H2_ := (Option.bind_some _ _).symm.trans H; rw [hy512]; with_reducible exact H2_) | (have H2_ := (Option.bind_some _ _).symm.trans H; with_reducible exact H2_) | with_reducible exact H | (rw [hy512]; exact H) | exact H
                  have Ny512 := Aside0.mk hy512
                  clear hy512
                  by_cases c26 : y509.length + y512.length < 4398046511104
                  · rw [if_pos c26] at H
                    have LMc26 := Aside0.mk c26
                    clear c26
                    obtain ⟨y516, hy516⟩ : ∃ y_ : List (S38), y_ = (y509 ++ y512) := ⟨_, rfl⟩
                    replace H : (spec_FieldsPut.j0 k l0 false y516) = some (r1, r2, r3) := by first | (rw [hy516]; with_reducible exact H) | (have H2_ := (Option.bind_some _ _).symm.trans H; rw [hy516]; with_reducible exact H2_) | (have H2_ := (Option.bind_some _ _).symm.trans H; with_reducible exact H2_) | with_reducible exact H | (rw [hy516]; exact H) | exact H
                    have Ny516 := Aside0.mk hy516
                    clear hy516
                    have H' := Aside0.mk H
                    clear H
                    try go_wp2
                    have n0_ := Aside0.mk (Kd.R_drew HO494.out)
                    have n1_ := Aside0.mk (blk_drew BK482.out)
                    have n2_ := Aside0.mk (below_drew1 HB.out)
                    clear HO494
                    clear BK482
                    clear HB
                    have HO494 := n0_
                    have BK482 := n1_
                    have HB := n2_
                    clear n0_ n1_ n2_
                    have q28 : (t487 : Int) ≤ ((l0.length : Int) : Int) := of_decide_eq_true (by first | (with_reducible assumption) | assumption)
                    obtain ⟨i028, hi028, _, hsz28, _⟩ := info_parts info38
                    have hroom28 : l0.length ≤ c0 := HC0.out
                    have hC28 : Kd.C k38 _ A0 l0.length l0 := HR0.out
                    have hcut28 := cut_to (P := Try.prog) 34 38 .i64 Try.underlying34 hi028 A0 l0.length c0 t487 (of_decide_eq_true (by first | (with_reducible assumption) | assumption)) q28 hroom28
                    have hr28 := Kd.C_take (m := (t487 : Int).toNat) hC28 (by omega)
                    have hy28 : y499.length = (t487 : Int).toNat := (by rw [Ny499.out, List.length_take]; omega)
                    rw [← Ny499.out] at hr28
                    rw [← hy28] at hcut28
                    have HR502 := Aside0.mk hr28
                    have HC502 := Aside0.mk (show y499.length ≤ c0 from by omega)
                    clear hr28 hC28 hroom28 hi028 hsz28
                    have KY28 := Aside0.mk hy28
                    clear hy28
                    replace q28 := eq_true q28
                    have q29 : (t487 : Int) ≤ ((l0.length : Int) : Int) := of_decide_eq_true (by first | (with_reducible assumption) | assumption)
                    obtain ⟨i029, hi029, _, hsz29, _⟩ := info_parts info38
                    have hroom29 : l0.length ≤ c0 := HC0.out
                    have hC29 : Kd.C k38 _ A0 l0.length l0 := HR0.out
                    have q029 : (0 : Int) ≤ (t487 : Int) := of_decide_eq_true (by first | (with_reducible assumption) | assumption)
                    have hcut29 := cut_from (P := Try.prog) 34 38 .i64 Try.underlying34 hi029 2 hsz29 A0 l0.length c0 t487 q029 q29
                    have hr29 := Kd.C_drop (m := (t487 : Int).toNat) (c := c0) hC29 (by omega) hroom29
                    obtain ⟨A29, hA29⟩ : ∃ A1, A1 = (if c0 = (t487 : Int).toNat then A0 else (A0 : Option Addr).map (·.add ((t487 : Int).toNat * 2))) := ⟨_, rfl⟩
                    obtain ⟨c29, hc29⟩ : ∃ c1, c1 = c0 - (t487 : Int).toNat := ⟨_, rfl⟩
                    have hy29 : y512.length = l0.length - (t487 : Int).toNat := (by rw [Ny512.out, List.length_drop] <;> omega)
                    rw [show (l0).drop (t487 : Int).toNat = y512 from Ny512.out.symm] at hr29
                    replace hr29 : Kd.C k38 _ A29 y512.length y512 := (by rw [hA29]; exact hr29)
                    rw [← hy29, ← hA29, ← hc29] at hcut29
                    have HR515 := Aside0.mk hr29
                    have HC515 := Aside0.mk (show y512.length ≤ c29 from by rw [hy29, hc29]; exact Nat.sub_le_sub_right hroom29 _)
                    clear hr29 hC29 hroom29 hi029 hsz29 hc29
                    have KY29 := Aside0.mk hy29
                    have KA29 := Aside0.mk hA29
                    clear hy29 hA29
                    replace q29 := eq_true q29
                    refine start_ (n := 13) (S := fun w' => w'.cell? ⟨gb482, 0, none⟩ = some (.string a1_0) ∧ w'.cell? ⟨gb482, 1, none⟩ = some (.string a1_1)) (ds := []) #[false, false, false, false, false, false, false, false, false, false, false, false, false] (by kernel_rfl) rfl rfl ⟨(blk_cell BK482.out 0).trans rfl, (blk_cell BK482.out 1).trans rfl⟩ (fun hHeld => ?_); refine with_tabW spec_FieldsPut.tab7 spec_FieldsPut.bits7 (fun HT_ HW_ => ?_)
                    generalize w12.drew = w27 at HO494 BK482 HB HR502 HR515 hHeld ⊢
                    refine pure_ (i := 1) (N := some 30) (v := ?_) (a' := ?_) #[false, true, false, false, false, false, false, false, false, false, false, false, false] rfl rfl (any_of HT_.out (by kernel_rfl)) (fun _ _ _ h => h) (Or.inl ⟨by rfl, ?_⟩) ?_ ?_
                    rotate_left
                    · intro w'
                      go_simp
                      with_reducible rfl
                    rotate_left
                    · simp only [Act.put, List.setIfInBounds_toArray, List.set_cons_zero, List.set_cons_succ, i64_w, i32_w]
                      rfl
                    refine pure_ (i := 2) (N := some 31) (v := ?_) (a' := ?_) #[false, true, true, false, false, false, false, false, false, false, false, false, false] rfl rfl (any_of HT_.out (by kernel_rfl)) (fun _ _ _ h => h) (Or.inl ⟨by rfl, ?_⟩) ?_ ?_
                    rotate_left
                    · intro w'
                      go_simp
                      with_reducible rfl
                    rotate_left
                    · simp only [Act.put, List.setIfInBounds_toArray, List.set_cons_zero, List.set_cons_succ, i64_w, i32_w]
                      rfl
                    refine pure_ (i := 3) (N := some 32) (v := ?_) (a' := ?_) #[false, true, true, true, false, false, false, false, false, false, false, false, false] rfl rfl (any_of HT_.out (by kernel_rfl)) (fun _ _ _ h => h) (Or.inl ⟨by rfl, ?_⟩) ?_ ?_
                    rotate_left
                    · intro w'
                      go_simp
                      with_reducible rfl
                    rotate_left
                    · simp only [Act.put, List.setIfInBounds_toArray, List.set_cons_zero, List.set_cons_succ, i64_w, i32_w]
                      rfl
                    refine pure_ (i := 8) (N := some 37) (v := ?_) (a' := ?_) #[false, true, true, true, false, false, false, false, true, false, false, false, false] rfl rfl (any_of HT_.out (by kernel_rfl)) (fun _ _ _ h => h) (Or.inl ⟨by rfl, ?_⟩) ?_ ?_
                    rotate_left
                    · intro w'
                      go_simp
                      with_reducible rfl
                    rotate_left
                    · simp only [Act.put, List.setIfInBounds_toArray, List.set_cons_zero, List.set_cons_succ, i64_w, i32_w]
                      rfl
                    refine pure_ (i := 9) (N := some 38) (v := ?_) (a' := ?_) #[false, true, true, true, false, false, false, false, true, true, false, false, false] rfl rfl (any_of HT_.out (by kernel_rfl)) (fun _ _ _ h => h) (Or.inl ⟨by rfl, ?_⟩) ?_ ?_
                    rotate_left
                    · intro w'
                      go_simp
                      with_reducible rfl
                    rotate_left
                    · simp only [Act.put, List.setIfInBounds_toArray, List.set_cons_zero, List.set_cons_succ, i64_w, i32_w]
                      rfl
                    refine pure_ (i := 10) (N := some 39) (v := ?_) (a' := ?_) #[false, true, true, true, false, false, false, false, true, true, true, false, false] rfl rfl (any_of HT_.out (by kernel_rfl)) (fun _ _ _ h => h) (Or.inl ⟨by rfl, ?_⟩) ?_ ?_
                    rotate_left
                    · intro w'
                      go_simp
                      with_reducible rfl
                    rotate_left
                    · simp only [Act.put, List.setIfInBounds_toArray, List.set_cons_zero, List.set_cons_succ, i64_w, i32_w]
                      rfl
                    refine take_ (i := 5) (N := some 34) (v := ?_) (a' := ?_) #[false, true, true, true, false, true, false, false, true, true, true, false, false] rfl rfl (take_ofW HT_.out HW_.out (by kernel_rfl)) (fun _ _ _ h => h) (Or.inl ⟨by rfl, ?_⟩) hHeld ?_ ?_
                    rotate_left
                    · rintro w' ⟨s0, s1⟩
                      go_simp
                      with_reducible rfl
                    rotate_left
                    · simp only [Act.put, List.setIfInBounds_toArray, List.set_cons_zero, List.set_cons_succ, i64_w, i32_w]
                      rfl
                    refine join_ (σ := Value × Value × Value) 3 #[true, true, true, true, true, true, true, false, true, true, true, false, false] (fun s_ => [(29, s_.1), (33, s_.2.1), (35, s_.2.2)]) (fun s_ w' => (w'.cell? ⟨gb482, 0, none⟩ = some (.string a1_0) ∧ w'.cell? ⟨gb482, 1, none⟩ = some (.string a1_1)) ∧ (Kd.R k38 38 w' w.heap.size (fun k_ => some k_ ≠ (s_.2.1 : Value).ownBlock ∧ some k_ ≠ (s_.2.2 : Value).ownBlock ∧ k_ ≠ gb482) v493 y492) ∧ (Kd.R k38 38 w' w.heap.size (fun k_ => some k_ ≠ (v493 : Value).ownBlock ∧ some k_ ≠ (s_.2.2 : Value).ownBlock ∧ k_ ≠ gb482) s_.2.1 y503) ∧ (Kd.R k38 38 w' w.heap.size (fun k_ => some k_ ≠ (v493 : Value).ownBlock ∧ some k_ ≠ (s_.2.1 : Value).ownBlock ∧ k_ ≠ gb482) s_.2.2 y506) ∧ (w'.heap[gb482]? = some (.cells #[.string a1_0, .string a1_1] 38 (0, 0))) ∧ (Below w.heap.size w w')) ?_ ?_
                    rotate_left
                    · intro hCont
                      refine two_ (i := 0) (j := 6) (Ni := some 29) (Nj := some 35) #[true, true, true, true, false, true, false, false, true, true, true, false, false] #[false, true, true, true, false, true, true, false, true, true, true, false, false] rfl rfl rfl rfl (two_of HT_.out (by kernel_rfl)) (by decide) (by decide) (fun K hK => ?_) (fun K hK => ?_)
                      · skip
                        refine Kd.R_lit_step k38 _ 38 ?hg (N := 29) ?hd (xs := ([] : List (S38))) (inner := []) (ok := fun _ => True) (okp := fun _ => True) ?hr ?hp (fun _ hk => hk) trivial (Below.refl _ _) (Nat.le_refl _) (by simp) ?_; (case hd => rfl); (case hg => rfl); (case hr => first | (go_simp; done) | (go_simp; rfl)); (case hp => exact (Reps.none _ _))
                        intro v497 w30 ho31 hb hg_ hnew_
                        clear hg_ hnew_
                        (first | rw [← Ny496.out] at ho31 | (simp only [Int.reduceToNat] at ho31; rw [← Ny496.out] at ho31))
                        have n0_ := Aside0.mk (Kd.R_elder' (by (with_reducible repeat (first | apply Kd.R_alloc | apply Kd.R_drewN | apply Kd.R_drew)); exact HO494.out) (Kd.R_base ho31) hb)
                        have n1_ := Aside0.mk (Kd.R_lower (Kd.R_newB (Kd.R_new' ho31 (Kd.R_lt (by (with_reducible repeat (first | apply Kd.R_alloc | apply Kd.R_drewN | apply Kd.R_drew)); exact HO494.out))) (g := gb482) (o := .cells #[.string a1_0, .string a1_1] 38 (0, 0)) (by (with_reducible repeat (first | refine blk_drewN ?_ _ | refine blk_drew ?_ | refine blk_alloc ?_ _)); exact BK482.out)) (below_size (by repeat (first | (with_reducible first | exact HB.out | apply below_alloc | apply pw_below_drewN | apply below_drew1 | refine below_set ?_ GE482.out) | exact HB.out))))
                        have n2_ := Aside0.mk (blk_below (g := gb482) (o := .cells #[.string a1_0, .string a1_1] 38 (0, 0)) (by (with_reducible repeat (first | refine blk_drewN ?_ _ | refine blk_drew ?_ | refine blk_alloc ?_ _)); exact BK482.out) hb)
                        have n3_ := Aside0.mk (below_step (by repeat (first | (with_reducible first | exact HB.out | apply below_alloc | apply pw_below_drewN | apply below_drew1 | refine below_set ?_ GE482.out) | exact HB.out)) hb)
                        clear HO494
                        clear BK482
                        clear HB
                        have HO494 := n0_
                        have HO498 := n1_
                        have BK482 := n2_
                        have HB := n3_
                        clear n0_ n1_ n2_ n3_
                        clear hb ho31
                        refine hK.out _ _ ⟨(blk_cell BK482.out 0).trans rfl, (blk_cell BK482.out 1).trans rfl⟩ (fun hHeld => ?_)
                        clear hK K
                        refine norm_ (a' := ?_) ?_ ?_
                        rotate_left
                        · show Act.put _ (some 29) _ = _
                          simp only [Act.put, List.setIfInBounds_toArray, List.set_cons_zero, List.set_cons_succ, i64_w, i32_w]
                          rfl
                        refine two_ (i := 4) (j := 6) (Ni := some 33) (Nj := some 35) #[true, true, true, true, true, true, false, false, true, true, true, false, false] #[true, true, true, true, false, true, true, false, true, true, true, false, false] rfl rfl rfl rfl (two_of HT_.out (by kernel_rfl)) (by decide) (by decide) (fun K hK => ?_) (fun K hK => ?_)
                        · skip
                          refine Kd.R_append_rows_step k38 (w0 := w) w.heap.size (by rfl) (.tmp 29) (.tmp 32) 34 38 (.agg #[(.string ⟨#[]⟩), (.string ⟨#[]⟩)]) 32 rfl Try.underlying34 info38 rfl (by decide) (by omega) v497 y496 y499 _ _ _ (fun k_ => some k_ ≠ (v493 : Value).ownBlock ∧ k_ ≠ gb482) (fun _ => False) rfl rfl ?aO ?aR (fun _ _ h => h) (fun _ h => h.elim) ?aF ?aB ?aS ?aL ?_
                          (case aR => repeat (first | exact (Kd.C_below HR502.out HB.out) | (with_reducible refine Kd.C_alloc ?_ _) | (with_reducible refine Kd.C_drewN ?_ _) | (with_reducible refine Kd.C_drew ?_)))
                          (case aB => exact (by repeat (first | (with_reducible first | exact HB.out | apply below_alloc | apply pw_below_drewN | apply below_drew1 | refine below_set ?_ GE482.out) | exact HB.out)))
                          (case aF => exact (fun k_ hk => ⟨Kd.fresh' (Kd.R_lt (by (with_reducible repeat (first | apply Kd.R_alloc | apply Kd.R_drewN | apply Kd.R_drew)); exact HO494.out)) k_ hk, Kd.freshB (g := gb482) (o := .cells #[.string a1_0, .string a1_1] 38 (0, 0)) (by (with_reducible repeat (first | refine blk_drewN ?_ _ | refine blk_drew ?_ | refine blk_alloc ?_ _)); exact BK482.out) k_ hk⟩))
                          (case aO => exact (by (with_reducible repeat (first | apply Kd.R_alloc | apply Kd.R_drewN | apply Kd.R_drew)); exact Kd.R_mono HO498.out (fun _ hk => ⟨hk.1.2, hk.2⟩)))
                          (case aS => exact (below_size (by repeat (first | (with_reducible first | exact HB.out | apply below_alloc | apply pw_below_drewN | apply below_drew1 | refine below_set ?_ GE482.out) | exact HB.out))))
                          (case aL => have := LMc22.out; omega)
                          intro v504 w32 ho hb hg hat
                          rw [← Ny503.out] at ho
                          have n0_ := Aside0.mk (blk_grown (g := gb482) (o := .cells #[.string a1_0, .string a1_1] 38 (0, 0)) (by (with_reducible repeat (first | refine blk_drewN ?_ _ | refine blk_drew ?_ | refine blk_alloc ?_ _)); exact BK482.out) hg (Kd.R_away HO498.out (fun _ hk => hk.2)))
                          have n1_ := Aside0.mk (Kd.R_after (ok := (fun k_ => k_ ≠ gb482)) (by (with_reducible repeat (first | apply Kd.R_alloc | apply Kd.R_drewN | apply Kd.R_drew)); exact HO494.out) hg hat)
                          have n2_ := Aside0.mk (hb)
                          have n3_ := Aside0.mk (ho)
                          clear BK482
                          clear HO494
                          clear HB
                          clear HO498
                          have BK482 := n0_
                          have HO494 := n1_
                          have HB := n2_
                          have HO505 := n3_
                          clear n0_ n1_ n2_ n3_
                          clear ho hb hg hat
                          refine hK.out _ _ ⟨(blk_cell BK482.out 0).trans rfl, (blk_cell BK482.out 1).trans rfl⟩ (fun hHeld => ?_)
                          clear hK K
                          refine norm_ (a' := ?_) ?_ ?_
                          rotate_left
                          · show Act.put _ (some 33) _ = _
                            simp only [Act.put, List.setIfInBounds_toArray, List.set_cons_zero, List.set_cons_succ, i64_w, i32_w]
                            rfl
                          refine one_ (i := 6) (N := some 35) #[true, true, true, true, true, true, true, false, true, true, true, false, false] rfl rfl (one_of HT_.out (by kernel_rfl)) (by decide) (fun K hK => ?_)
                          refine Kd.R_lit_step k38 _ 38 ?hg (N := 35) ?hd (xs := ([(⟨a1_0, a1_1⟩ : S38)] : List (S38))) (inner := [.string a1_0, .string a1_1]) (ok := fun _ => True) (okp := fun _ => True) ?hr ?hp (fun _ hk => hk) trivial (Below.refl _ _) (Nat.le_refl _) (by simp) ?_; (case hd => rfl); (case hg => rfl); (case hr => first | (go_simp; done) | (go_simp; rfl)); (case hp => exact (Reps.c2 (show Kd.M k38 _ _ _ (⟨a1_0, a1_1⟩ : S38) [.string a1_0, .string a1_1] from (k38_mkM _ _ _ (⟨a1_0, a1_1⟩ : S38) )) (Reps.none _ _)))
                          intro v507 w33 ho34 hb hg_ hnew_
                          clear hg_ hnew_
                          (first | rw [← Ny506.out] at ho34 | (simp only [Int.reduceToNat] at ho34; rw [← Ny506.out] at ho34))
                          have n0_ := Aside0.mk (Kd.R_elder' (by (with_reducible repeat (first | apply Kd.R_alloc | apply Kd.R_drewN | apply Kd.R_drew)); exact HO494.out) (Kd.R_base ho34) hb)
                          have n1_ := Aside0.mk (Kd.R_elder' (by (with_reducible repeat (first | apply Kd.R_alloc | apply Kd.R_drewN | apply Kd.R_drew)); exact HO505.out) (Kd.R_base ho34) hb)
                          have n2_ := Aside0.mk (Kd.R_lower (Kd.R_newB (Kd.R_new' (Kd.R_new' ho34 (Kd.R_lt (by (with_reducible repeat (first | apply Kd.R_alloc | apply Kd.R_drewN | apply Kd.R_drew)); exact HO494.out))) (Kd.R_lt (by (with_reducible repeat (first | apply Kd.R_alloc | apply Kd.R_drewN | apply Kd.R_drew)); exact HO505.out))) (g := gb482) (o := .cells #[.string a1_0, .string a1_1] 38 (0, 0)) (by (with_reducible repeat (first | refine blk_drewN ?_ _ | refine blk_drew ?_ | refine blk_alloc ?_ _)); exact BK482.out)) (below_size (by repeat (first | (with_reducible first | exact HB.out | apply below_alloc | apply pw_below_drewN | apply below_drew1 | refine below_set ?_ GE482.out) | exact HB.out))))
                          have n3_ := Aside0.mk (blk_below (g := gb482) (o := .cells #[.string a1_0, .string a1_1] 38 (0, 0)) (by (with_reducible repeat (first | refine blk_drewN ?_ _ | refine blk_drew ?_ | refine blk_alloc ?_ _)); exact BK482.out) hb)
                          have n4_ := Aside0.mk (below_step (by repeat (first | (with_reducible first | exact HB.out | apply below_alloc | apply pw_below_drewN | apply below_drew1 | refine below_set ?_ GE482.out) | exact HB.out)) hb)
                          clear HO494
                          clear HO505
                          clear BK482
                          clear HB
                          have HO494 := n0_
                          have HO505 := n1_
                          have HO508 := n2_
                          have BK482 := n3_
                          have HB := n4_
                          clear n0_ n1_ n2_ n3_ n4_
                          clear hb ho34
                          refine hK.out _ _ ⟨(blk_cell BK482.out 0).trans rfl, (blk_cell BK482.out 1).trans rfl⟩ (fun hHeld => ?_)
                          clear hK K
                          refine norm_ (a' := ?_) ?_ ?_
                          rotate_left
                          · show Act.put _ (some 35) _ = _
                            simp only [Act.put, List.setIfInBounds_toArray, List.set_cons_zero, List.set_cons_succ, i64_w, i32_w]
                            rfl
                          exact norm_ (by simp only [putAll, Act.put, List.setIfInBounds_toArray, List.set_cons_zero, List.set_cons_succ]) (hCont (v497, v504, v507) _ ⟨hHeld, (by (with_reducible repeat (first | apply Kd.R_alloc | apply Kd.R_drewN | apply Kd.R_drew)); exact Kd.R_mono HO494.out (fun _ hk => ⟨hk.1.2, ⟨hk.2, hk.1.1⟩⟩)), (by (with_reducible repeat (first | apply Kd.R_alloc | apply Kd.R_drewN | apply Kd.R_drew)); exact Kd.R_mono HO505.out (fun _ hk => ⟨hk.1.1, ⟨hk.2, hk.1.2⟩⟩)), (by (with_reducible repeat (first | apply Kd.R_alloc | apply Kd.R_drewN | apply Kd.R_drew)); exact Kd.R_mono HO508.out (fun _ hk => ⟨hk.1.1.2, ⟨hk.1.2, hk.2⟩⟩)), (by (with_reducible repeat (first | refine blk_drewN ?_ _ | refine blk_drew ?_ | refine blk_alloc ?_ _)); exact BK482.out), (by repeat (first | (with_reducible first | exact HB.out | apply below_alloc | apply pw_below_drewN | apply below_drew1 | refine below_set ?_ GE482.out) | exact HB.out))⟩)
                        · skip
                          refine Kd.R_lit_step k38 _ 38 ?hg (N := 35) ?hd (xs := ([(⟨a1_0, a1_1⟩ : S38)] : List (S38))) (inner := [.string a1_0, .string a1_1]) (ok := fun _ => True) (okp := fun _ => True) ?hr ?hp (fun _ hk => hk) trivial (Below.refl _ _) (Nat.le_refl _) (by simp) ?_; (case hd => rfl); (case hg => rfl); (case hr => first | (go_simp; done) | (go_simp; rfl)); (case hp => exact (Reps.c2 (show Kd.M k38 _ _ _ (⟨a1_0, a1_1⟩ : S38) [.string a1_0, .string a1_1] from (k38_mkM _ _ _ (⟨a1_0, a1_1⟩ : S38) )) (Reps.none _ _)))
                          intro v507 w32 ho33 hb hg_ hnew_
                          clear hg_ hnew_
                          (first | rw [← Ny506.out] at ho33 | (simp only [Int.reduceToNat] at ho33; rw [← Ny506.out] at ho33))
                          have n0_ := Aside0.mk (Kd.R_elder' (by (with_reducible repeat (first | apply Kd.R_alloc | apply Kd.R_drewN | apply Kd.R_drew)); exact HO494.out) (Kd.R_base ho33) hb)
                          have n1_ := Aside0.mk (Kd.R_elder' (by (with_reducible repeat (first | apply Kd.R_alloc | apply Kd.R_drewN | apply Kd.R_drew)); exact HO498.out) (Kd.R_base ho33) hb)
                          have n2_ := Aside0.mk (Kd.R_lower (Kd.R_newB (Kd.R_new' (Kd.R_new' ho33 (Kd.R_lt (by (with_reducible repeat (first | apply Kd.R_alloc | apply Kd.R_drewN | apply Kd.R_drew)); exact HO494.out))) (Kd.R_lt (by (with_reducible repeat (first | apply Kd.R_alloc | apply Kd.R_drewN | apply Kd.R_drew)); exact HO498.out))) (g := gb482) (o := .cells #[.string a1_0, .string a1_1] 38 (0, 0)) (by (with_reducible repeat (first | refine blk_drewN ?_ _ | refine blk_drew ?_ | refine blk_alloc ?_ _)); exact BK482.out)) (below_size (by repeat (first | (with_reducible first | exact HB.out | apply below_alloc | apply pw_below_drewN | apply below_drew1 | refine below_set ?_ GE482.out) | exact HB.out))))
                          have n3_ := Aside0.mk (blk_below (g := gb482) (o := .cells #[.string a1_0, .string a1_1] 38 (0, 0)) (by (with_reducible repeat (first | refine blk_drewN ?_ _ | refine blk_drew ?_ | refine blk_alloc ?_ _)); exact BK482.out) hb)
                          have n4_ := Aside0.mk (below_step (by repeat (first | (with_reducible first | exact HB.out | apply below_alloc | apply pw_below_drewN | apply below_drew1 | refine below_set ?_ GE482.out) | exact HB.out)) hb)
                          clear HO494
                          clear HO498
                          clear BK482
                          clear HB
                          have HO494 := n0_
                          have HO498 := n1_
                          have HO508 := n2_
                          have BK482 := n3_
                          have HB := n4_
                          clear n0_ n1_ n2_ n3_ n4_
                          clear hb ho33
                          refine hK.out _ _ ⟨(blk_cell BK482.out 0).trans rfl, (blk_cell BK482.out 1).trans rfl⟩ (fun hHeld => ?_)
                          clear hK K
                          refine norm_ (a' := ?_) ?_ ?_
                          rotate_left
                          · show Act.put _ (some 35) _ = _
                            simp only [Act.put, List.setIfInBounds_toArray, List.set_cons_zero, List.set_cons_succ, i64_w, i32_w]
                            rfl
                          refine one_ (i := 4) (N := some 33) #[true, true, true, true, true, true, true, false, true, true, true, false, false] rfl rfl (one_of HT_.out (by kernel_rfl)) (by decide) (fun K hK => ?_)
                          refine Kd.R_append_rows_step k38 (w0 := w) w.heap.size (by rfl) (.tmp 29) (.tmp 32) 34 38 (.agg #[(.string ⟨#[]⟩), (.string ⟨#[]⟩)]) 32 rfl Try.underlying34 info38 rfl (by decide) (by omega) v497 y496 y499 _ _ _ (fun k_ => some k_ ≠ (v493 : Value).ownBlock ∧ some k_ ≠ (v507 : Value).ownBlock ∧ k_ ≠ gb482) (fun _ => False) rfl rfl ?aO ?aR (fun _ _ h => h) (fun _ h => h.elim) ?aF ?aB ?aS ?aL ?_
                          (case aR => repeat (first | exact (Kd.C_below HR502.out HB.out) | (with_reducible refine Kd.C_alloc ?_ _) | (with_reducible refine Kd.C_drewN ?_ _) | (with_reducible refine Kd.C_drew ?_)))
                          (case aB => exact (by repeat (first | (with_reducible first | exact HB.out | apply below_alloc | apply pw_below_drewN | apply below_drew1 | refine below_set ?_ GE482.out) | exact HB.out)))
                          (case aF => exact (fun k_ hk => ⟨Kd.fresh' (Kd.R_lt (by (with_reducible repeat (first | apply Kd.R_alloc | apply Kd.R_drewN | apply Kd.R_drew)); exact HO494.out)) k_ hk, Kd.fresh' (Kd.R_lt (by (with_reducible repeat (first | apply Kd.R_alloc | apply Kd.R_drewN | apply Kd.R_drew)); exact HO508.out)) k_ hk, Kd.freshB (g := gb482) (o := .cells #[.string a1_0, .string a1_1] 38 (0, 0)) (by (with_reducible repeat (first | refine blk_drewN ?_ _ | refine blk_drew ?_ | refine blk_alloc ?_ _)); exact BK482.out) k_ hk⟩))
                          (case aO => exact (by (with_reducible repeat (first | apply Kd.R_alloc | apply Kd.R_drewN | apply Kd.R_drew)); exact Kd.R_mono HO498.out (fun _ hk => ⟨hk.1.1.2, ⟨hk.2, hk.1.2⟩⟩)))
                          (case aS => exact (below_size (by repeat (first | (with_reducible first | exact HB.out | apply below_alloc | apply pw_below_drewN | apply below_drew1 | refine below_set ?_ GE482.out) | exact HB.out))))
                          (case aL => have := LMc22.out; omega)
                          intro v504 w34 ho hb hg hat
                          rw [← Ny503.out] at ho
                          have n0_ := Aside0.mk (blk_grown (g := gb482) (o := .cells #[.string a1_0, .string a1_1] 38 (0, 0)) (by (with_reducible repeat (first | refine blk_drewN ?_ _ | refine blk_drew ?_ | refine blk_alloc ?_ _)); exact BK482.out) hg (Kd.R_away HO498.out (fun _ hk => hk.1.2)))
                          have n1_ := Aside0.mk (Kd.R_after (ok := (fun k_ => some k_ ≠ (v507 : Value).ownBlock ∧ k_ ≠ gb482)) (by (with_reducible repeat (first | apply Kd.R_alloc | apply Kd.R_drewN | apply Kd.R_drew)); exact Kd.R_mono HO494.out (fun _ hk => ⟨⟨hk.2, hk.1.1⟩, hk.1.2⟩)) hg hat)
                          have n2_ := Aside0.mk (Kd.R_after (ok := (fun k_ => some k_ ≠ (v493 : Value).ownBlock ∧ k_ ≠ gb482)) (by (with_reducible repeat (first | apply Kd.R_alloc | apply Kd.R_drewN | apply Kd.R_drew)); exact Kd.R_mono HO508.out (fun _ hk => ⟨⟨hk.1.1.2, hk.2⟩, hk.1.2⟩)) hg hat)
                          have n3_ := Aside0.mk (hb)
                          have n4_ := Aside0.mk (ho)
                          clear BK482
                          clear HO494
                          clear HO508
                          clear HB
                          clear HO498
                          have BK482 := n0_
                          have HO494 := n1_
                          have HO508 := n2_
                          have HB := n3_
                          have HO505 := n4_
                          clear n0_ n1_ n2_ n3_ n4_
                          clear ho hb hg hat
                          refine hK.out _ _ ⟨(blk_cell BK482.out 0).trans rfl, (blk_cell BK482.out 1).trans rfl⟩ (fun hHeld => ?_)
                          clear hK K
                          refine norm_ (a' := ?_) ?_ ?_
                          rotate_left
                          · show Act.put _ (some 33) _ = _
                            simp only [Act.put, List.setIfInBounds_toArray, List.set_cons_zero, List.set_cons_succ, i64_w, i32_w]
                            rfl
                          exact norm_ (by simp only [putAll, Act.put, List.setIfInBounds_toArray, List.set_cons_zero, List.set_cons_succ]) (hCont (v497, v504, v507) _ ⟨hHeld, (by (with_reducible repeat (first | apply Kd.R_alloc | apply Kd.R_drewN | apply Kd.R_drew)); exact Kd.R_mono HO494.out (fun _ hk => ⟨hk.2, ⟨hk.1.1, hk.1.2⟩⟩)), (by (with_reducible repeat (first | apply Kd.R_alloc | apply Kd.R_drewN | apply Kd.R_drew)); exact HO505.out), (by (with_reducible repeat (first | apply Kd.R_alloc | apply Kd.R_drewN | apply Kd.R_drew)); exact Kd.R_mono HO508.out (fun _ hk => ⟨hk.1.1, ⟨hk.2, hk.1.2⟩⟩)), (by (with_reducible repeat (first | refine blk_drewN ?_ _ | refine blk_drew ?_ | refine blk_alloc ?_ _)); exact BK482.out), (by repeat (first | (with_reducible first | exact HB.out | apply below_alloc | apply pw_below_drewN | apply below_drew1 | refine below_set ?_ GE482.out) | exact HB.out))⟩)
                      · skip
                        refine Kd.R_lit_step k38 _ 38 ?hg (N := 35) ?hd (xs := ([(⟨a1_0, a1_1⟩ : S38)] : List (S38))) (inner := [.string a1_0, .string a1_1]) (ok := fun _ => True) (okp := fun _ => True) ?hr ?hp (fun _ hk => hk) trivial (Below.refl _ _) (Nat.le_refl _) (by simp) ?_; (case hd => rfl); (case hg => rfl); (case hr => first | (go_simp; done) | (go_simp; rfl)); (case hp => exact (Reps.c2 (show Kd.M k38 _ _ _ (⟨a1_0, a1_1⟩ : S38) [.string a1_0, .string a1_1] from (k38_mkM _ _ _ (⟨a1_0, a1_1⟩ : S38) )) (Reps.none _ _)))
                        intro v507 w30 ho31 hb hg_ hnew_
                        clear hg_ hnew_
                        (first | rw [← Ny506.out] at ho31 | (simp only [Int.reduceToNat] at ho31; rw [← Ny506.out] at ho31))
                        have n0_ := Aside0.mk (Kd.R_elder' (by (with_reducible repeat (first | apply Kd.R_alloc | apply Kd.R_drewN | apply Kd.R_drew)); exact HO494.out) (Kd.R_base ho31) hb)
                        have n1_ := Aside0.mk (Kd.R_lower (Kd.R_newB (Kd.R_new' ho31 (Kd.R_lt (by (with_reducible repeat (first | apply Kd.R_alloc | apply Kd.R_drewN | apply Kd.R_drew)); exact HO494.out))) (g := gb482) (o := .cells #[.string a1_0, .string a1_1] 38 (0, 0)) (by (with_reducible repeat (first | refine blk_drewN ?_ _ | refine blk_drew ?_ | refine blk_alloc ?_ _)); exact BK482.out)) (below_size (by repeat (first | (with_reducible first | exact HB.out | apply below_alloc | apply pw_below_drewN | apply below_drew1 | refine below_set ?_ GE482.out) | exact HB.out))))
                        have n2_ := Aside0.mk (blk_below (g := gb482) (o := .cells #[.string a1_0, .string a1_1] 38 (0, 0)) (by (with_reducible repeat (first | refine blk_drewN ?_ _ | refine blk_drew ?_ | refine blk_alloc ?_ _)); exact BK482.out) hb)
                        have n3_ := Aside0.mk (below_step (by repeat (first | (with_reducible first | exact HB.out | apply below_alloc | apply pw_below_drewN | apply below_drew1 | refine below_set ?_ GE482.out) | exact HB.out)) hb)
                        clear HO494
                        clear BK482
                        clear HB
                        have HO494 := n0_
                        have HO508 := n1_
                        have BK482 := n2_
                        have HB := n3_
                        clear n0_ n1_ n2_ n3_
                        clear hb ho31
                        refine hK.out _ _ ⟨(blk_cell BK482.out 0).trans rfl, (blk_cell BK482.out 1).trans rfl⟩ (fun hHeld => ?_)
                        clear hK K
                        refine norm_ (a' := ?_) ?_ ?_
                        rotate_left
                        · show Act.put _ (some 35) _ = _
                          simp only [Act.put, List.setIfInBounds_toArray, List.set_cons_zero, List.set_cons_succ, i64_w, i32_w]
                          rfl
                        refine one_ (i := 0) (N := some 29) #[true, true, true, true, false, true, true, false, true, true, true, false, false] rfl rfl (one_of HT_.out (by kernel_rfl)) (by decide) (fun K hK => ?_)
                        refine Kd.R_lit_step k38 _ 38 ?hg (N := 29) ?hd (xs := ([] : List (S38))) (inner := []) (ok := fun _ => True) (okp := fun _ => True) ?hr ?hp (fun _ hk => hk) trivial (Below.refl _ _) (Nat.le_refl _) (by simp) ?_; (case hd => rfl); (case hg => rfl); (case hr => first | (go_simp; done) | (go_simp; rfl)); (case hp => exact (Reps.none _ _))
                        intro v497 w32 ho33 hb hg_ hnew_
                        clear hg_ hnew_
                        (first | rw [← Ny496.out] at ho33 | (simp only [Int.reduceToNat] at ho33; rw [← Ny496.out] at ho33))
                        have n0_ := Aside0.mk (Kd.R_elder' (by (with_reducible repeat (first | apply Kd.R_alloc | apply Kd.R_drewN | apply Kd.R_drew)); exact HO494.out) (Kd.R_base ho33) hb)
                        have n1_ := Aside0.mk (Kd.R_elder' (by (with_reducible repeat (first | apply Kd.R_alloc | apply Kd.R_drewN | apply Kd.R_drew)); exact HO508.out) (Kd.R_base ho33) hb)
                        have n2_ := Aside0.mk (Kd.R_lower (Kd.R_newB (Kd.R_new' (Kd.R_new' ho33 (Kd.R_lt (by (with_reducible repeat (first | apply Kd.R_alloc | apply Kd.R_drewN | apply Kd.R_drew)); exact HO494.out))) (Kd.R_lt (by (with_reducible repeat (first | apply Kd.R_alloc | apply Kd.R_drewN | apply Kd.R_drew)); exact HO508.out))) (g := gb482) (o := .cells #[.string a1_0, .string a1_1] 38 (0, 0)) (by (with_reducible repeat (first | refine blk_drewN ?_ _ | refine blk_drew ?_ | refine blk_alloc ?_ _)); exact BK482.out)) (below_size (by repeat (first | (with_reducible first | exact HB.out | apply below_alloc | apply pw_below_drewN | apply below_drew1 | refine below_set ?_ GE482.out) | exact HB.out))))
                        have n3_ := Aside0.mk (blk_below (g := gb482) (o := .cells #[.string a1_0, .string a1_1] 38 (0, 0)) (by (with_reducible repeat (first | refine blk_drewN ?_ _ | refine blk_drew ?_ | refine blk_alloc ?_ _)); exact BK482.out) hb)
                        have n4_ := Aside0.mk (below_step (by repeat (first | (with_reducible first | exact HB.out | apply below_alloc | apply pw_below_drewN | apply below_drew1 | refine below_set ?_ GE482.out) | exact HB.out)) hb)
                        clear HO494
                        clear HO508
                        clear BK482
                        clear HB
                        have HO494 := n0_
                        have HO508 := n1_
                        have HO498 := n2_
                        have BK482 := n3_
                        have HB := n4_
                        clear n0_ n1_ n2_ n3_ n4_
                        clear hb ho33
                        refine hK.out _ _ ⟨(blk_cell BK482.out 0).trans rfl, (blk_cell BK482.out 1).trans rfl⟩ (fun hHeld => ?_)
                        clear hK K
                        refine norm_ (a' := ?_) ?_ ?_
                        rotate_left
                        · show Act.put _ (some 29) _ = _
                          simp only [Act.put, List.setIfInBounds_toArray, List.set_cons_zero, List.set_cons_succ, i64_w, i32_w]
                          rfl
                        refine one_ (i := 4) (N := some 33) #[true, true, true, true, true, true, true, false, true, true, true, false, false] rfl rfl (one_of HT_.out (by kernel_rfl)) (by decide) (fun K hK => ?_)
                        refine Kd.R_append_rows_step k38 (w0 := w) w.heap.size (by rfl) (.tmp 29) (.tmp 32) 34 38 (.agg #[(.string ⟨#[]⟩), (.string ⟨#[]⟩)]) 32 rfl Try.underlying34 info38 rfl (by decide) (by omega) v497 y496 y499 _ _ _ (fun k_ => some k_ ≠ (v493 : Value).ownBlock ∧ some k_ ≠ (v507 : Value).ownBlock ∧ k_ ≠ gb482) (fun _ => False) rfl rfl ?aO ?aR (fun _ _ h => h) (fun _ h => h.elim) ?aF ?aB ?aS ?aL ?_
                        (case aR => repeat (first | exact (Kd.C_below HR502.out HB.out) | (with_reducible refine Kd.C_alloc ?_ _) | (with_reducible refine Kd.C_drewN ?_ _) | (with_reducible refine Kd.C_drew ?_)))
                        (case aB => exact (by repeat (first | (with_reducible first | exact HB.out | apply below_alloc | apply pw_below_drewN | apply below_drew1 | refine below_set ?_ GE482.out) | exact HB.out)))
                        (case aF => exact (fun k_ hk => ⟨Kd.fresh' (Kd.R_lt (by (with_reducible repeat (first | apply Kd.R_alloc | apply Kd.R_drewN | apply Kd.R_drew)); exact HO494.out)) k_ hk, Kd.fresh' (Kd.R_lt (by (with_reducible repeat (first | apply Kd.R_alloc | apply Kd.R_drewN | apply Kd.R_drew)); exact HO508.out)) k_ hk, Kd.freshB (g := gb482) (o := .cells #[.string a1_0, .string a1_1] 38 (0, 0)) (by (with_reducible repeat (first | refine blk_drewN ?_ _ | refine blk_drew ?_ | refine blk_alloc ?_ _)); exact BK482.out) k_ hk⟩))
                        (case aO => exact (by (with_reducible repeat (first | apply Kd.R_alloc | apply Kd.R_drewN | apply Kd.R_drew)); exact Kd.R_mono HO498.out (fun _ hk => ⟨hk.1.1.2, ⟨hk.1.2, hk.2⟩⟩)))
                        (case aS => exact (below_size (by repeat (first | (with_reducible first | exact HB.out | apply below_alloc | apply pw_below_drewN | apply below_drew1 | refine below_set ?_ GE482.out) | exact HB.out))))
                        (case aL => have := LMc22.out; omega)
                        intro v504 w34 ho hb hg hat
                        rw [← Ny503.out] at ho
                        have n0_ := Aside0.mk (blk_grown (g := gb482) (o := .cells #[.string a1_0, .string a1_1] 38 (0, 0)) (by (with_reducible repeat (first | refine blk_drewN ?_ _ | refine blk_drew ?_ | refine blk_alloc ?_ _)); exact BK482.out) hg (Kd.R_away HO498.out (fun _ hk => hk.2)))
                        have n1_ := Aside0.mk (Kd.R_after (ok := (fun k_ => some k_ ≠ (v507 : Value).ownBlock ∧ k_ ≠ gb482)) (by (with_reducible repeat (first | apply Kd.R_alloc | apply Kd.R_drewN | apply Kd.R_drew)); exact Kd.R_mono HO494.out (fun _ hk => ⟨⟨hk.1.2, hk.1.1⟩, hk.2⟩)) hg hat)
                        have n2_ := Aside0.mk (Kd.R_after (ok := (fun k_ => some k_ ≠ (v493 : Value).ownBlock ∧ k_ ≠ gb482)) (by (with_reducible repeat (first | apply Kd.R_alloc | apply Kd.R_drewN | apply Kd.R_drew)); exact Kd.R_mono HO508.out (fun _ hk => ⟨⟨hk.1.1.2, hk.1.2⟩, hk.2⟩)) hg hat)
                        have n3_ := Aside0.mk (hb)
                        have n4_ := Aside0.mk (ho)
                        clear BK482
                        clear HO494
                        clear HO508
                        clear HB
                        clear HO498
                        have BK482 := n0_
                        have HO494 := n1_
                        have HO508 := n2_
                        have HB := n3_
                        have HO505 := n4_
                        clear n0_ n1_ n2_ n3_ n4_
                        clear ho hb hg hat
                        refine hK.out _ _ ⟨(blk_cell BK482.out 0).trans rfl, (blk_cell BK482.out 1).trans rfl⟩ (fun hHeld => ?_)
                        clear hK K
                        refine norm_ (a' := ?_) ?_ ?_
                        rotate_left
                        · show Act.put _ (some 33) _ = _
                          simp only [Act.put, List.setIfInBounds_toArray, List.set_cons_zero, List.set_cons_succ, i64_w, i32_w]
                          rfl
                        exact norm_ (by simp only [putAll, Act.put, List.setIfInBounds_toArray, List.set_cons_zero, List.set_cons_succ]) (hCont (v497, v504, v507) _ ⟨hHeld, (by (with_reducible repeat (first | apply Kd.R_alloc | apply Kd.R_drewN | apply Kd.R_drew)); exact Kd.R_mono HO494.out (fun _ hk => ⟨hk.2, ⟨hk.1.1, hk.1.2⟩⟩)), (by (with_reducible repeat (first | apply Kd.R_alloc | apply Kd.R_drewN | apply Kd.R_drew)); exact HO505.out), (by (with_reducible repeat (first | apply Kd.R_alloc | apply Kd.R_drewN | apply Kd.R_drew)); exact Kd.R_mono HO508.out (fun _ hk => ⟨hk.1.1, ⟨hk.2, hk.1.2⟩⟩)), (by (with_reducible repeat (first | refine blk_drewN ?_ _ | refine blk_drew ?_ | refine blk_alloc ?_ _)); exact BK482.out), (by repeat (first | (with_reducible first | exact HB.out | apply below_alloc | apply pw_below_drewN | apply below_drew1 | refine below_set ?_ GE482.out) | exact HB.out))⟩)
                    rintro ⟨v497, v504, v507⟩ w35 ⟨hS_, h0_, h1_, h2_, h3_, h4_⟩
                    have n0_ : Aside0 (Kd.R k38 38 w35 w.heap.size (fun k_ => some k_ ≠ (v504 : Value).ownBlock ∧ some k_ ≠ (v507 : Value).ownBlock ∧ k_ ≠ gb482) v493 y492) := ⟨h0_⟩
                    have n1_ : Aside0 (Kd.R k38 38 w35 w.heap.size (fun k_ => some k_ ≠ (v493 : Value).ownBlock ∧ some k_ ≠ (v507 : Value).ownBlock ∧ k_ ≠ gb482) v504 y503) := ⟨h1_⟩
                    have n2_ : Aside0 (Kd.R k38 38 w35 w.heap.size (fun k_ => some k_ ≠ (v493 : Value).ownBlock ∧ some k_ ≠ (v504 : Value).ownBlock ∧ k_ ≠ gb482) v507 y506) := ⟨h2_⟩
                    have n3_ : Aside0 (w35.heap[gb482]? = some (.cells #[.string a1_0, .string a1_1] 38 (0, 0))) := ⟨h3_⟩
                    have n4_ : Aside0 (Below w.heap.size w w35) := ⟨h4_⟩
                    clear HO494
                    clear BK482
                    clear HB
                    clear h0_ h1_ h2_ h3_ h4_
                    have HO494 := n0_
                    have HO505 := n1_
                    have HO508 := n2_
                    have BK482 := n3_
                    have HB := n4_
                    clear n0_ n1_ n2_ n3_ n4_
                    have hHeld : w35.cell? ⟨gb482, 0, none⟩ = some (.string a1_0) ∧ w35.cell? ⟨gb482, 1, none⟩ = some (.string a1_1) := hS_
                    obtain ⟨Ao37, co37, eo37⟩ := Kd.R_slice HO508.out
                    (first | subst eo37 | (injection eo37 with f1_ f2_ f3_; have f4_ := f1_.symm; have f5_ := f3_.symm; clear f1_ f2_ f3_; subst f4_; subst f5_))
                    refine norm_ (a' := ?_) ?_ ?_
                    rotate_left
                    · simp only [putAll, Act.put, List.setIfInBounds_toArray, List.set_cons_zero, List.set_cons_succ]
                      rfl
                    refine one_ (i := 7) (N := some 36) #[true, true, true, true, true, true, true, true, true, true, true, false, false] rfl rfl (one_of HT_.out (by kernel_rfl)) (by decide) (fun K hK => ?_)
                    refine Kd.R_append_rows_step k38 (w0 := w) w.heap.size (by rfl) (.tmp 33) (.tmp 35) 34 38 (.agg #[(.string ⟨#[]⟩), (.string ⟨#[]⟩)]) 32 rfl Try.underlying34 info38 rfl (by decide) (by omega) v504 y503 y506 _ _ _ (fun k_ => some k_ ≠ (v493 : Value).ownBlock ∧ some k_ ≠ (.slice Ao37 y506.length co37 : Value).ownBlock ∧ k_ ≠ gb482) (fun _ => False) rfl rfl ?aO ?aR (fun _ _ h => h) (fun _ h => h.elim) ?aF ?aB ?aS ?aL ?_
                    (case aR => repeat (first | exact (Kd.R_reads' HO508.out).2.2 | (with_reducible refine Kd.C_alloc ?_ _) | (with_reducible refine Kd.C_drewN ?_ _) | (with_reducible refine Kd.C_drew ?_)))
                    (case aB => exact (by repeat (first | (with_reducible first | exact HB.out | apply below_alloc | apply pw_below_drewN | apply below_drew1 | refine below_set ?_ GE482.out) | exact HB.out)))
                    (case aF => exact (fun k_ hk => ⟨Kd.fresh' (Kd.R_lt (by (with_reducible repeat (first | apply Kd.R_alloc | apply Kd.R_drewN | apply Kd.R_drew)); exact HO494.out)) k_ hk, Kd.fresh' (Kd.R_lt (by (with_reducible repeat (first | apply Kd.R_alloc | apply Kd.R_drewN | apply Kd.R_drew)); exact HO508.out)) k_ hk, Kd.freshB (g := gb482) (o := .cells #[.string a1_0, .string a1_1] 38 (0, 0)) (by (with_reducible repeat (first | refine blk_drewN ?_ _ | refine blk_drew ?_ | refine blk_alloc ?_ _)); exact BK482.out) k_ hk⟩))
                    (case aO => exact (by (with_reducible repeat (first | apply Kd.R_alloc | apply Kd.R_drewN | apply Kd.R_drew)); exact HO505.out))
                    (case aS => exact (below_size (by repeat (first | (with_reducible first | exact HB.out | apply below_alloc | apply pw_below_drewN | apply below_drew1 | refine below_set ?_ GE482.out) | exact HB.out))))
                    (case aL => have := LMc23.out; omega)
                    intro v510 w36 ho hb hg hat
                    rw [← Ny509.out] at ho
                    have n0_ := Aside0.mk (blk_grown (g := gb482) (o := .cells #[.string a1_0, .string a1_1] 38 (0, 0)) (by (with_reducible repeat (first | refine blk_drewN ?_ _ | refine blk_drew ?_ | refine blk_alloc ?_ _)); exact BK482.out) hg (Kd.R_away HO505.out (fun _ hk => hk.2.2)))
                    have n1_ := Aside0.mk (Kd.R_after (ok := (fun k_ => some k_ ≠ (.slice Ao37 y506.length co37 : Value).ownBlock ∧ k_ ≠ gb482)) (by (with_reducible repeat (first | apply Kd.R_alloc | apply Kd.R_drewN | apply Kd.R_drew)); exact Kd.R_mono HO494.out (fun _ hk => ⟨⟨hk.2.1, hk.2.2⟩, hk.1⟩)) hg hat)
                    have n2_ := Aside0.mk (Kd.R_after (ok := (fun k_ => some k_ ≠ (v493 : Value).ownBlock ∧ k_ ≠ gb482)) (by (with_reducible repeat (first | apply Kd.R_alloc | apply Kd.R_drewN | apply Kd.R_drew)); exact Kd.R_mono HO508.out (fun _ hk => ⟨⟨hk.1, hk.2.2⟩, hk.2.1⟩)) hg hat)
                    have n3_ := Aside0.mk (hb)
                    have n4_ := Aside0.mk (ho)
                    clear BK482
                    clear HO494
                    clear HO508
                    clear HB
                    clear HO505
                    have BK482 := n0_
                    have HO494 := n1_
                    have HO508 := n2_
                    have HB := n3_
                    have HO511 := n4_
                    clear n0_ n1_ n2_ n3_ n4_
                    clear ho hb hg hat
                    refine hK.out _ _ ⟨(blk_cell BK482.out 0).trans rfl, (blk_cell BK482.out 1).trans rfl⟩ (fun hHeld => ?_)
                    clear hK K
                    refine norm_ (a' := ?_) ?_ ?_
                    rotate_left
                    · show Act.put _ (some 36) _ = _
                      simp only [Act.put, List.setIfInBounds_toArray, List.set_cons_zero, List.set_cons_succ, i64_w, i32_w]
                      rfl
                    refine one_ (i := 11) (N := some 40) #[true, true, true, true, true, true, true, true, true, true, true, true, false] rfl rfl (one_of HT_.out (by kernel_rfl)) (by decide) (fun K hK => ?_)
                    refine Kd.R_append_rows_step k38 (w0 := w) w.heap.size (by rfl) (.tmp 36) (.tmp 39) 34 38 (.agg #[(.string ⟨#[]⟩), (.string ⟨#[]⟩)]) 32 rfl Try.underlying34 info38 rfl (by decide) (by omega) v510 y509 y512 _ _ _ (fun k_ => some k_ ≠ (v493 : Value).ownBlock ∧ some k_ ≠ (.slice Ao37 y506.length co37 : Value).ownBlock ∧ k_ ≠ gb482) (fun _ => False) rfl rfl ?aO ?aR (fun _ _ h => h) (fun _ h => h.elim) ?aF ?aB ?aS ?aL ?_
                    (case aR => repeat (first | exact (Kd.C_below HR515.out HB.out) | (with_reducible refine Kd.C_alloc ?_ _) | (with_reducible refine Kd.C_drewN ?_ _) | (with_reducible refine Kd.C_drew ?_)))
                    (case aB => exact (by repeat (first | (with_reducible first | exact HB.out | apply below_alloc | apply pw_below_drewN | apply below_drew1 | refine below_set ?_ GE482.out) | exact HB.out)))
                    (case aF => exact (fun k_ hk => ⟨Kd.fresh' (Kd.R_lt (by (with_reducible repeat (first | apply Kd.R_alloc | apply Kd.R_drewN | apply Kd.R_drew)); exact HO494.out)) k_ hk, Kd.fresh' (Kd.R_lt (by (with_reducible repeat (first | apply Kd.R_alloc | apply Kd.R_drewN | apply Kd.R_drew)); exact HO508.out)) k_ hk, Kd.freshB (g := gb482) (o := .cells #[.string a1_0, .string a1_1] 38 (0, 0)) (by (with_reducible repeat (first | refine blk_drewN ?_ _ | refine blk_drew ?_ | refine blk_alloc ?_ _)); exact BK482.out) k_ hk⟩))
                    (case aO => exact (by (with_reducible repeat (first | apply Kd.R_alloc | apply Kd.R_drewN | apply Kd.R_drew)); exact HO511.out))
                    (case aS => exact (below_size (by repeat (first | (with_reducible first | exact HB.out | apply below_alloc | apply pw_below_drewN | apply below_drew1 | refine below_set ?_ GE482.out) | exact HB.out))))
                    (case aL => have := LMc26.out; omega)
                    intro v517 w38 ho hb hg hat
                    rw [← Ny516.out] at ho
                    have n0_ := Aside0.mk (blk_grown (g := gb482) (o := .cells #[.string a1_0, .string a1_1] 38 (0, 0)) (by (with_reducible repeat (first | refine blk_drewN ?_ _ | refine blk_drew ?_ | refine blk_alloc ?_ _)); exact BK482.out) hg (Kd.R_away HO511.out (fun _ hk => hk.2.2)))
                    have n1_ := Aside0.mk (Kd.R_after (ok := (fun k_ => some k_ ≠ (.slice Ao37 y506.length co37 : Value).ownBlock ∧ k_ ≠ gb482)) (by (with_reducible repeat (first | apply Kd.R_alloc | apply Kd.R_drewN | apply Kd.R_drew)); exact HO494.out) hg hat)
                    have n2_ := Aside0.mk (Kd.R_after (ok := (fun k_ => some k_ ≠ (v493 : Value).ownBlock ∧ k_ ≠ gb482)) (by (with_reducible repeat (first | apply Kd.R_alloc | apply Kd.R_drewN | apply Kd.R_drew)); exact HO508.out) hg hat)
                    have n3_ := Aside0.mk (hb)
                    have n4_ := Aside0.mk (ho)
                    clear BK482
                    clear HO494
                    clear HO508
                    clear HB
                    clear HO511
                    have BK482 := n0_
                    have HO494 := n1_
                    have HO508 := n2_
                    have HB := n3_
                    have HO518 := n4_
                    clear n0_ n1_ n2_ n3_ n4_
                    clear ho hb hg hat
                    refine hK.out _ _ ⟨(blk_cell BK482.out 0).trans rfl, (blk_cell BK482.out 1).trans rfl⟩ (fun hHeld => ?_)
                    clear hK K
                    refine norm_ (a' := ?_) ?_ ?_
                    rotate_left
                    · show Act.put _ (some 40) _ = _
                      simp only [Act.put, List.setIfInBounds_toArray, List.set_cons_zero, List.set_cons_succ, i64_w, i32_w]
                      rfl
                    refine pure_ (i := 12) (N := some 9) (v := ?_) (a' := ?_) #[true, true, true, true, true, true, true, true, true, true, true, true, true] rfl rfl (any_of HT_.out (by kernel_rfl)) (fun _ _ _ h => h) (Or.inl ⟨by rfl, ?_⟩) ?_ ?_
                    rotate_left
                    · intro w'
                      go_simp
                      with_reducible rfl
                    rotate_left
                    · simp only [Act.put, List.setIfInBounds_toArray, List.set_cons_zero, List.set_cons_succ, i64_w, i32_w]
                      rfl
                    refine done_ (done_of HT_.out (by kernel_rfl)) ?_
                    try go_wp2
                    go_meet
                    case rel => exact ⟨_, (y516), (a1_0), (a1_1), H', ⟨by first | omega | exact Nat.le_refl _⟩, ⟨by (with_reducible repeat (first | apply Kd.R_alloc | apply Kd.R_drewN | apply Kd.R_drew)); exact Kd.R_mono HO518.out (fun _ hk => hk.2.2)⟩, ⟨by (with_reducible repeat (first | refine blk_drewN ?_ _ | refine blk_drew ?_ | refine blk_alloc ?_ _)); exact BK482.out⟩, ⟨by repeat (first | (with_reducible first | exact HB.out | apply below_alloc | apply pw_below_drewN | apply below_drew1 | refine below_set ?_ GE482.out) | exact HB.out)⟩⟩
                  · rw [if_neg c26] at H
                    exact absurd H (by simp)
                · rw [if_neg c23] at H
                  exact absurd H (by simp)
              · rw [if_neg c22] at H
                exact absurd H (by simp)
            · rw [if_neg c21] at H
              exact absurd H (by simp)
          · rw [if_neg c20] at H
            exact absurd H (by simp)
      case rest =>
        clear HC7
        try clear c1
        try clear p1
        try clear q1
        try clear hx1
        try clear c2
        try clear p2
        try clear q2
        try clear c3
        try clear c5
        try clear c6
        try clear c13
        try clear c14
        try clear c14b0
        try clear c15
        try clear c15b0
        try clear c16
        try clear p16
        try clear q16
        try clear hx16
        try clear hf16
        try clear c18
        try clear hx18
        try clear hf18
        try clear c20
        try clear c20b0
        try clear c20b1
        try clear c21
        try clear c21b0
        try clear c21b1
        try clear c22
        try clear c23
        try clear c24
        try clear c24b0
        try clear c25
        try clear c25b0
        try clear c26
        try clear q28
        try clear c29
        try clear q29
        try clear c31
        try clear hcz17_0
        try clear hcz17_1
        try clear hcz9_0
        try clear hcz9_1
        try clear hfz17_0
        try clear hfz17_1
        try clear hfz9_0
        try clear hfz9_1
        try clear hx16_0
        try clear hx16_1
        try clear hx18_0
        try clear hx18_1
        try clear p16
        try clear q029
        try clear q16
        try clear q28
        try clear q29
        obtain ⟨kq, x9_6, x483000_6, x483001_6, HA, HJ6, HO_9, BK482, HB⟩ := hcut
        cases kq with
        | zero => exact absurd HA.out (by simp [spec_FieldsPut.j0])
        | succ kj6 =>
          have H := HA.out
          clear HA
          simp only [spec_FieldsPut.j0] at H
          replace H := Option.bind_eq_some_iff.mp H
          obtain ⟨t519, A390, H⟩ := H
          replace H : (if t519 = true then (some (x9_6, !t488, true)) else ((some (([] : List (S38)) : List (S38))).bind fun y520 => (if y520.length + l0.length < 4398046511104 then (some ((y520 ++ l0), false, false)) else (none)))) = some (r1, r2, r3) := H
          have A39 := Aside0.mk A390
          clear A390
          by_cases c40 : t519 = true
          · subst c40
            have H1 : (some (x9_6, !t488, true)) = some (r1, r2, r3) := by rw [if_pos rfl] at H; exact H
            clear H
            have H := H1
            clear H1
            simp only [Option.some.injEq, Prod.mk.injEq] at H
            obtain ⟨rfl, rfl, rfl⟩ := H
            obtain ⟨Ao41, co41, eo41⟩ := Kd.R_slice HO_9.out
            subst eo41
            go_wp2_with (first | ((with_reducible refine gate_callee (f := 31) rfl ?_); refine goesL_ (some 42) rfl rfl Try.func31 (by kernel_rfl) rfl #[.slice Ao41 x9_6.length co41] rfl (by (try simp only [List.map_toArray, List.map_cons, List.map_nil]); first | done | rfl | (simp only [List.length_drop, List.length_take]; rfl)) ?_; (with_reducible refine (spec_FieldsOk.calls kj6 _ _ x9_6 true _ ?side1 ?side2 A39.out).mono ?_); (case side1 => repeat (first | exact (Kd.R_reads' HO_9.out).2.2 | (with_reducible refine Kd.C_alloc ?_ _) | (with_reducible refine Kd.C_drewN ?_ _) | (with_reducible refine Kd.C_drew ?_))); (case side2 => exact (Kd.R_reads' HO_9.out).2.1); rintro e w' ⟨rfl, ⟨nd, rfl⟩⟩; refine ⟨_, rfl, ?_⟩))
            go_ret3
            exact ⟨_, by first | rfl | (simp [errW_none, errW_some] <;> rfl) | (simp [*, errW_none, errW_some] <;> rfl), by (with_reducible repeat (first | apply Kd.R_alloc | apply Kd.R_drewN | apply Kd.R_drew)); exact Kd.R_mono HO_9.out (fun _ hk => trivial), by repeat (first | (with_reducible first | exact HB.out | apply below_alloc | apply pw_below_drewN | apply below_drew1 | refine below_set ?_ GE482.out) | exact HB.out)⟩
          · replace c40 := Bool.eq_false_iff.mpr c40
            subst c40
            have H1 : ((some (([] : List (S38)) : List (S38))).bind fun y520 => (if y520.length + l0.length < 4398046511104 then (some ((y520 ++ l0), false, false)) else (none))) = some (r1, r2, r3) := by rw [if_neg (show ¬ (false = true) by decide)] at H; exact H
            clear H
            have H := H1
            clear H1
            obtain ⟨y520, hy520⟩ : ∃ y_ : List (S38), y_ = (([] : List (S38))) := ⟨_, rfl⟩
            replace H : (if y520.length + l0.length < 4398046511104 then (some ((y520 ++ l0), false, false)) else (none)) = some (r1, r2, r3) := by first | (rw [hy520]; with_reducible exact H) | (have H2_ := (Option.bind_some _ _).symm.trans H; rw [hy520]; with_reducible exact H2_) | (have H2_ := (Option.bind_some _ _).symm.trans H; with_reducible exact H2_) | with_reducible exact H | (rw [hy520]; exact H) | exact H
            have Ny520 := Aside0.mk hy520
            clear hy520
            by_cases c42 : y520.length + l0.length < 4398046511104
            · rw [if_pos c42] at H
              have LMc42 := Aside0.mk c42
              clear c42
              obtain ⟨y523, hy523⟩ : ∃ y_ : List (S38), y_ = (y520 ++ l0) := ⟨_, rfl⟩
              replace H : (some (y523, false, false)) = some (r1, r2, r3) := by first | (rw [hy523]; with_reducible exact H) | (have H2_ := (Option.bind_some _ _).symm.trans H; rw [hy523]; with_reducible exact H2_) | (have H2_ := (Option.bind_some _ _).symm.trans H; with_reducible exact H2_) | with_reducible exact H | (rw [hy523]; exact H) | exact H
              have Ny523 := Aside0.mk hy523
              clear hy523
              simp only [Option.some.injEq, Prod.mk.injEq] at H
              obtain ⟨rfl, rfl, rfl⟩ := H
              obtain ⟨Ao43, co43, eo43⟩ := Kd.R_slice HO_9.out
              subst eo43
              go_wp2_with (first | ((with_reducible refine gate_callee (f := 31) rfl ?_); refine goesL_ (some 42) rfl rfl Try.func31 (by kernel_rfl) rfl #[.slice Ao43 x9_6.length co43] rfl (by (try simp only [List.map_toArray, List.map_cons, List.map_nil]); first | done | rfl | (simp only [List.length_drop, List.length_take]; rfl)) ?_; (with_reducible refine (spec_FieldsOk.calls kj6 _ _ x9_6 false _ ?side1 ?side2 A39.out).mono ?_); (case side1 => repeat (first | exact (Kd.R_reads' HO_9.out).2.2 | (with_reducible refine Kd.C_alloc ?_ _) | (with_reducible refine Kd.C_drewN ?_ _) | (with_reducible refine Kd.C_drew ?_))); (case side2 => exact (Kd.R_reads' HO_9.out).2.1); rintro e w' ⟨rfl, ⟨nd, rfl⟩⟩; refine ⟨_, rfl, ?_⟩) | ((with_reducible refine gate_dst (N := 44) rfl ?_); refine Kd.R_lit k38 _ 38 ?hg (N := 44) ?hd (xs := ([] : List (S38))) (inner := []) (ok := fun _ => True) (okp := fun _ => True) ?hr ?hp (fun _ hk => hk) trivial (Below.refl _ _) (Nat.le_refl _) (by simp) ?_; (case hd => rfl); (case hg => rfl); (case hr => first | (go_simp; done) | (go_simp; rfl)); (case hp => exact (Reps.none _ _)); intro v521 w44 ho45 hb hg_ hnew_; clear hg_ hnew_; (first | rw [← Ny520.out] at ho45 | (simp only [Int.reduceToNat] at ho45; rw [← Ny520.out] at ho45)); have n0_ := Aside0.mk (Kd.R_elder' (by (with_reducible repeat (first | apply Kd.R_alloc | apply Kd.R_drewN | apply Kd.R_drew)); exact HO_9.out) (Kd.R_base ho45) hb); have n1_ := Aside0.mk (Kd.R_lower (Kd.R_newB (Kd.R_new' ho45 (Kd.R_lt (by (with_reducible repeat (first | apply Kd.R_alloc | apply Kd.R_drewN | apply Kd.R_drew)); exact HO_9.out))) (g := gb482) (o := .cells #[.string x483000_6, .string x483001_6] 38 (0, 0)) (by (with_reducible repeat (first | refine blk_drewN ?_ _ | refine blk_drew ?_ | refine blk_alloc ?_ _)); exact BK482.out)) (below_size (by repeat (first | (with_reducible first | exact HB.out | apply below_alloc | apply pw_below_drewN | apply below_drew1 | refine below_set ?_ GE482.out) | exact HB.out)))); have n2_ := Aside0.mk (blk_below (g := gb482) (o := .cells #[.string x483000_6, .string x483001_6] 38 (0, 0)) (by (with_reducible repeat (first | refine blk_drewN ?_ _ | refine blk_drew ?_ | refine blk_alloc ?_ _)); exact BK482.out) hb); have n3_ := Aside0.mk (below_step (by repeat (first | (with_reducible first | exact HB.out | apply below_alloc | apply pw_below_drewN | apply below_drew1 | refine below_set ?_ GE482.out) | exact HB.out)) hb); clear HO_9; clear BK482; clear HB; have HO_9 := n0_; have HO522 := n1_; have BK482 := n2_; have HB := n3_; clear n0_ n1_ n2_ n3_; clear hb ho45) | ((with_reducible refine gate_builtin (b := .append) (xs := #[.tmp 44, .tmp 45]) rfl ?_); at_builtin; refine Kd.R_append_rows k38 (w0 := w) w.heap.size rfl (.tmp 44) (.tmp 45) 34 38 (.agg #[(.string ⟨#[]⟩), (.string ⟨#[]⟩)]) 32 rfl Try.underlying34 info38 rfl (by decide) (by omega) v521 y520 l0 _ _ _ (fun k_ => some k_ ≠ (.slice Ao43 x9_6.length co43 : Value).ownBlock ∧ k_ ≠ gb482) (fun _ => False) rfl rfl ?aO ?aR (fun _ _ h => h) (fun _ h => h.elim) ?aF ?aB ?aS ?aL ?_; (case aR => repeat (first | exact (Kd.C_below HR0.out HB.out) | (with_reducible refine Kd.C_alloc ?_ _) | (with_reducible refine Kd.C_drewN ?_ _) | (with_reducible refine Kd.C_drew ?_))); (case aB => exact (by repeat (first | (with_reducible first | exact HB.out | apply below_alloc | apply pw_below_drewN | apply below_drew1 | refine below_set ?_ GE482.out) | exact HB.out))); (case aF => exact (fun k_ hk => ⟨Kd.fresh' (Kd.R_lt (by (with_reducible repeat (first | apply Kd.R_alloc | apply Kd.R_drewN | apply Kd.R_drew)); exact HO_9.out)) k_ hk, Kd.freshB (g := gb482) (o := .cells #[.string x483000_6, .string x483001_6] 38 (0, 0)) (by (with_reducible repeat (first | refine blk_drewN ?_ _ | refine blk_drew ?_ | refine blk_alloc ?_ _)); exact BK482.out) k_ hk⟩)); (case aO => exact (by (with_reducible repeat (first | apply Kd.R_alloc | apply Kd.R_drewN | apply Kd.R_drew)); exact Kd.R_mono HO522.out (fun _ hk => ⟨hk.1.2, hk.2⟩))); (case aS => exact (below_size (by repeat (first | (with_reducible first | exact HB.out | apply below_alloc | apply pw_below_drewN | apply below_drew1 | refine below_set ?_ GE482.out) | exact HB.out)))); (case aL => have := LMc42.out; omega); intro v524 w46 ho hb hg hat; rw [← Ny523.out] at ho; have n0_ := Aside0.mk (Kd.R_after (ok := (fun k_ => k_ ≠ gb482)) (by (with_reducible repeat (first | apply Kd.R_alloc | apply Kd.R_drewN | apply Kd.R_drew)); exact HO_9.out) hg hat); have n1_ := Aside0.mk (blk_grown (g := gb482) (o := .cells #[.string x483000_6, .string x483001_6] 38 (0, 0)) (by (with_reducible repeat (first | refine blk_drewN ?_ _ | refine blk_drew ?_ | refine blk_alloc ?_ _)); exact BK482.out) hg (Kd.R_away HO522.out (fun _ hk => hk.2))); have n2_ := Aside0.mk (hb); have n3_ := Aside0.mk (ho); clear HO_9; clear BK482; clear HB; clear HO522; have HO_9 := n0_; have BK482 := n1_; have HB := n2_; have HO525 := n3_; clear n0_ n1_ n2_ n3_; clear ho hb hg hat))
              go_ret3
              exact ⟨_, by first | rfl | (simp [errW_none, errW_some] <;> rfl) | (simp [*, errW_none, errW_some] <;> rfl), by (with_reducible repeat (first | apply Kd.R_alloc | apply Kd.R_drewN | apply Kd.R_drew)); exact Kd.R_mono HO525.out (fun _ hk => trivial), by repeat (first | (with_reducible first | exact HB.out | apply below_alloc | apply pw_below_drewN | apply below_drew1 | refine below_set ?_ GE482.out) | exact HB.out)⟩
            · rw [if_neg c42] at H
              exact absurd H (by simp)
    · rw [if_neg c6] at H
      exact absurd H (by simp)
  · replace c4 := Bool.eq_false_iff.mpr c4
    subst c4
    have H1 : (some ((([] : List (S38))), false, false)) = some (r1, r2, r3) := by rw [if_neg (show ¬ (false = true) by decide)] at H; exact H
    clear H
    have H := H1
    clear H1
    obtain ⟨y484, hy484⟩ : ∃ y_ : List (S38), y_ = (([] : List (S38))) := ⟨_, rfl⟩
    replace H : (some (y484, false, false)) = some (r1, r2, r3) := by first | (rw [hy484]; with_reducible exact H) | (have H2_ := (Option.bind_some _ _).symm.trans H; rw [hy484]; with_reducible exact H2_) | (have H2_ := (Option.bind_some _ _).symm.trans H; with_reducible exact H2_) | with_reducible exact H | (rw [hy484]; exact H) | exact H
    have Ny484 := Aside0.mk hy484
    clear hy484
    simp only [Option.some.injEq, Prod.mk.injEq] at H
    obtain ⟨rfl, rfl, rfl⟩ := H
    go_enter Try.func21, Try.ntmps21
    go_wp2_with (first | ((with_reducible refine gate_dst (N := 3) rfl ?_); refine box_event ?hg (N := 3) ?hd (cs := #[.string a1_0, .string a1_1]) (t := 38) ?hr ?_; (case hd => rfl); (case hg => rfl); (case hr => first | (go_simp; done) | (go_simp; rfl)); intro gb482 hg w47 hbox hb; have n0_ := Aside0.mk (below_step (by repeat (first | (with_reducible first | exact HB.out | apply below_alloc | apply pw_below_drewN | apply below_drew1) | exact HB.out | exact Below.refl _ _)) hb); have n1_ := Aside0.mk (hbox); have n2_ := Aside0.mk ((by rw [hg]; exact (below_size (by repeat (first | (with_reducible first | exact HB.out | apply below_alloc | apply pw_below_drewN | apply below_drew1) | exact HB.out | exact Below.refl _ _))) : w.heap.size ≤ gb482)); have n3_ := Aside0.mk ((by rw [hg]; exact (below_size (by repeat (first | (with_reducible first | exact HB.out | apply below_alloc | apply pw_below_drewN | apply below_drew1) | exact HB.out | exact Below.refl _ _))) : w.heap.size ≤ gb482)); clear HB; have HB := n0_; have BK482 := n1_; have GW482 := n2_; have GE482 := n3_; clear n0_ n1_ n2_ n3_; clear hb hbox hg) | ((with_reducible refine gate_callee (f := 31) rfl ?_); refine goesL_ (some 11) rfl rfl Try.func31 (by kernel_rfl) rfl #[.slice A0 l0.length c0] rfl (by (try simp only [List.map_toArray, List.map_cons, List.map_nil]); first | done | rfl | (simp only [List.length_drop, List.length_take]; rfl)) ?_; (with_reducible refine (spec_FieldsOk.calls k _ _ l0 false _ ?side1 ?side2 A3.out).mono ?_); (case side1 => repeat (first | exact (Kd.C_below HR0.out HB.out) | (with_reducible refine Kd.C_alloc ?_ _) | (with_reducible refine Kd.C_drewN ?_ _) | (with_reducible refine Kd.C_drew ?_))); (case side2 => exact HC0.out); rintro e w' ⟨rfl, ⟨nd, rfl⟩⟩; refine ⟨_, rfl, ?_⟩) | ((with_reducible refine gate_dst (N := 13) rfl ?_); refine Kd.R_lit k38 _ 38 ?hg (N := 13) ?hd (xs := ([] : List (S38))) (inner := []) (ok := fun _ => True) (okp := fun _ => True) ?hr ?hp (fun _ hk => hk) trivial (Below.refl _ _) (Nat.le_refl _) (by simp) ?_; (case hd => rfl); (case hg => rfl); (case hr => first | (go_simp; done) | (go_simp; rfl)); (case hp => exact (Reps.none _ _)); intro v485 w48 ho49 hb hg_ hnew_; clear hg_ hnew_; (first | rw [← Ny484.out] at ho49 | (simp only [Int.reduceToNat] at ho49; rw [← Ny484.out] at ho49)); have n0_ := Aside0.mk (Kd.R_lower (Kd.R_newB ho49 (g := gb482) (o := .cells #[.string a1_0, .string a1_1] 38 (0, 0)) (by (with_reducible repeat (first | refine blk_drewN ?_ _ | refine blk_drew ?_ | refine blk_alloc ?_ _)); exact BK482.out)) (below_size (by repeat (first | (with_reducible first | exact HB.out | apply below_alloc | apply pw_below_drewN | apply below_drew1 | refine below_set ?_ GE482.out) | exact HB.out)))); have n1_ := Aside0.mk (blk_below (g := gb482) (o := .cells #[.string a1_0, .string a1_1] 38 (0, 0)) (by (with_reducible repeat (first | refine blk_drewN ?_ _ | refine blk_drew ?_ | refine blk_alloc ?_ _)); exact BK482.out) hb); have n2_ := Aside0.mk (below_step (by repeat (first | (with_reducible first | exact HB.out | apply below_alloc | apply pw_below_drewN | apply below_drew1 | refine below_set ?_ GE482.out) | exact HB.out)) hb); clear BK482; clear HB; have HO486 := n0_; have BK482 := n1_; have HB := n2_; clear n0_ n1_ n2_; clear hb ho49))
    go_ret3
    exact ⟨_, by first | rfl | (simp [errW_none, errW_some] <;> rfl) | (simp [*, errW_none, errW_some] <;> rfl), by (with_reducible repeat (first | apply Kd.R_alloc | apply Kd.R_drewN | apply Kd.R_drew)); exact Kd.R_mono HO486.out (fun _ hk => trivial), by repeat (first | (with_reducible first | exact HB.out | apply below_alloc | apply pw_below_drewN | apply below_drew1 | refine below_set ?_ GE482.out) | exact HB.out)⟩

end Go.Proofs.Ytegelpeegbngiaa.P
-- Written by wip/px.py of this session, over the kit's print.py. Not trusted: Lean checks it.
namespace Go.Proofs.Ytegelpeegbngiaa.P
open Go.RowKit Go.Proofs.YtegelpeegbngiaaW.PrintWords Go.Proofs.YtegelpeegbngiaaW.PrintLast Go.Proofs.YtegelpeegbngiaaW.PrintMore
attribute [local go_sem] max2_int min2_int max_two min_two max_three min_three max_four min_four   -- for this text's walks alone
set_option linter.unusedVariables false
set_option linter.unusedSimpArgs false

/-! ### impl_FieldsOk: the walk -/
set_option maxHeartbeats 8000000 in
set_option maxRecDepth 100000 in
theorem impl_FieldsOk.calls (k : Nat) (A0 : Option Addr) (c0 : Nat) (l0 : List (S38)) (r : Bool) (w : World) (hr0 : Kd.C k38 w A0 l0.length l0) (hc0 : l0.length ≤ c0) (h : impl_FieldsOk.f k l0 = some r) :
    Calls Try.prog 30 #[.slice A0 l0.length c0] w fun e w' => e = .returned (.bool r) ∧ Below w.heap.size w w' := by
  have hu38 := Try.underlying38
  have HR0 := Aside0.mk hr0
  have HC0 := Aside0.mk hc0
  clear hr0 hc0
  have HB := Aside0.mk (Below.refl w.heap.size w)
  have H : (impl_FieldsOk.l0 k l0 l0 (l0.length : Int) 0) = some r := h
  clear h
  have H' := Aside0.mk H
  clear H
  go_enter Try.func30, Try.ntmps30
  go_wp2
  repeat (go_quiet (fail); try go_wp2)
  go_loopg [7] k (fun kq v7 w' => ∃ (x7_1 : Int), v7 = .int .i64 x7_1 ∧ Aside0 (impl_FieldsOk.l0 kq l0 l0 (l0.length : Int) x7_1 = some r) ∧ Aside0 (kq ≤ k) ∧ Aside0 (Below w.heap.size w w'))
  case atStart => exact ⟨(0), (by first | rfl | (simp; done) | (simp [*]; done)), H', ⟨Nat.le_refl _⟩, ⟨by repeat (first | (with_reducible first | exact HB.out | apply below_alloc | apply pw_below_drewN | apply below_drew1) | exact HB.out | exact Below.refl _ _)⟩⟩
  case round =>
    clear H'
    obtain ⟨x7_1, rfl, HA, HK1, HB⟩ := hrel
    cases gk with
    | zero => exact absurd HA.out (by simp [impl_FieldsOk.l0])
    | succ k1 =>
      have H := HA.out
      clear HA
      simp only [impl_FieldsOk.l0] at H
      by_cases c2 : x7_1 < (l0.length : Int)
      · rw [if_pos c2] at H
        have c2b0 : decide (x7_1 < (l0.length : Int)) = true := decide_eq_true c2
        clear c2
        by_cases c3 : 0 ≤ x7_1
        · rw [if_pos c3] at H
          have c3b0 : decide (0 ≤ x7_1) = true := decide_eq_true c3
          clear c3
          by_cases c4 : x7_1 < (l0.length : Int)
          · rw [if_pos c4] at H
            have c4b0 : decide (x7_1 < (l0.length : Int)) = true := decide_eq_true c4
            clear c4
            by_cases c5 : (((rd_T38 l0 x7_1).f0).size : Int) > 40
            · rw [if_pos c5] at H
              have c5b0 : decide (40 < (((rd_T38 l0 x7_1).f0).size : Int)) = true := decide_eq_true c5
              have c5b1 : decide (40 < ((rd_T38 l0 x7_1).f0).size) = true := decide_eq_true (by omega)
              clear c5
              obtain rfl := Option.some.inj H
              have p536 : 0 ≤ (x7_1 : Int) := of_decide_eq_true (by first | (with_reducible assumption) | assumption)
              have q536 : x7_1 < (l0.length : Int) := of_decide_eq_true (by first | (with_reducible assumption) | assumption)
              obtain ⟨ad536, e536, hx536_0, hx536_1⟩ := at_T38 HR0.out x7_1 p536 q536
              cases e536
              replace hx536_0 := (HB.out.cell (World.block_lt_of_cell? w _ hx536_0)).trans hx536_0
              replace hx536_1 := (HB.out.cell (World.block_lt_of_cell? w _ hx536_1)).trans hx536_1
              replace p536 := eq_true p536
              replace q536 := eq_true q536
              go_wp2_with (first | ((with_reducible refine gate_dst (N := 4) rfl ?_); (try (refine gate_guard (by rfl) ?_; dsimp only)); refine box_event ?hg (N := 4) ?hd (cs := #[.string (⟨#[]⟩ : ByteArray), .string (⟨#[]⟩ : ByteArray)]) (t := 38) ?hr ?_; (case hd => rfl); (case hg => rfl); (case hr => first | (go_simp; done) | (go_simp; rfl)); intro gb537 hg w6 hbox hb; have n0_ := Aside0.mk (below_step (by repeat (first | (with_reducible first | exact HB.out | apply below_alloc | apply pw_below_drewN | apply below_drew1) | exact HB.out | exact Below.refl _ _)) hb); have n1_ := Aside0.mk (hbox); have n2_ := Aside0.mk ((by rw [hg]; exact (below_size (by repeat (first | (with_reducible first | exact HB.out | apply below_alloc | apply pw_below_drewN | apply below_drew1) | exact HB.out | exact Below.refl _ _))) : w.heap.size ≤ gb537)); have n3_ := Aside0.mk ((by rw [hg]; exact (below_size (by repeat (first | (with_reducible first | exact HB.out | apply below_alloc | apply pw_below_drewN | apply below_drew1) | exact HB.out | exact Below.refl _ _))) : w.heap.size ≤ gb537)); clear HB; have HB := n0_; have BK537 := n1_; have GW537 := n2_; have GE537 := n3_; clear n0_ n1_ n2_ n3_; clear hb hbox hg; have hcz7_0 : w6.cell? ⟨gb537, 0, none⟩ = some (.string (⟨#[]⟩ : ByteArray)) := (blk_cell BK537.out 0).trans rfl; have hcz7_1 : w6.cell? ⟨gb537, 1, none⟩ = some (.string (⟨#[]⟩ : ByteArray)) := (blk_cell BK537.out 1).trans rfl; have hfz7_0 := blk_frozen BK537.out 0; have hfz7_1 := blk_frozen BK537.out 1))
              repeat (go_quiet (first | ((with_reducible refine gate_dst (N := 4) rfl ?_); (try (refine gate_guard (by rfl) ?_; dsimp only)); refine box_event ?hg (N := 4) ?hd (cs := #[.string (⟨#[]⟩ : ByteArray), .string (⟨#[]⟩ : ByteArray)]) (t := 38) ?hr ?_; (case hd => rfl); (case hg => rfl); (case hr => first | (go_simp; done) | (go_simp; rfl)); intro gb537 hg w6 hbox hb; have n0_ := Aside0.mk (below_step (by repeat (first | (with_reducible first | exact HB.out | apply below_alloc | apply pw_below_drewN | apply below_drew1) | exact HB.out | exact Below.refl _ _)) hb); have n1_ := Aside0.mk (hbox); have n2_ := Aside0.mk ((by rw [hg]; exact (below_size (by repeat (first | (with_reducible first | exact HB.out | apply below_alloc | apply pw_below_drewN | apply below_drew1) | exact HB.out | exact Below.refl _ _))) : w.heap.size ≤ gb537)); have n3_ := Aside0.mk ((by rw [hg]; exact (below_size (by repeat (first | (with_reducible first | exact HB.out | apply below_alloc | apply pw_below_drewN | apply below_drew1) | exact HB.out | exact Below.refl _ _))) : w.heap.size ≤ gb537)); clear HB; have HB := n0_; have BK537 := n1_; have GW537 := n2_; have GE537 := n3_; clear n0_ n1_ n2_ n3_; clear hb hbox hg; have hcz7_0 : w6.cell? ⟨gb537, 0, none⟩ = some (.string (⟨#[]⟩ : ByteArray)) := (blk_cell BK537.out 0).trans rfl; have hcz7_1 : w6.cell? ⟨gb537, 1, none⟩ = some (.string (⟨#[]⟩ : ByteArray)) := (blk_cell BK537.out 1).trans rfl; have hfz7_0 := blk_frozen BK537.out 0; have hfz7_1 := blk_frozen BK537.out 1)); try go_wp2_with (first | ((with_reducible refine gate_dst (N := 4) rfl ?_); (try (refine gate_guard (by rfl) ?_; dsimp only)); refine box_event ?hg (N := 4) ?hd (cs := #[.string (⟨#[]⟩ : ByteArray), .string (⟨#[]⟩ : ByteArray)]) (t := 38) ?hr ?_; (case hd => rfl); (case hg => rfl); (case hr => first | (go_simp; done) | (go_simp; rfl)); intro gb537 hg w6 hbox hb; have n0_ := Aside0.mk (below_step (by repeat (first | (with_reducible first | exact HB.out | apply below_alloc | apply pw_below_drewN | apply below_drew1) | exact HB.out | exact Below.refl _ _)) hb); have n1_ := Aside0.mk (hbox); have n2_ := Aside0.mk ((by rw [hg]; exact (below_size (by repeat (first | (with_reducible first | exact HB.out | apply below_alloc | apply pw_below_drewN | apply below_drew1) | exact HB.out | exact Below.refl _ _))) : w.heap.size ≤ gb537)); have n3_ := Aside0.mk ((by rw [hg]; exact (below_size (by repeat (first | (with_reducible first | exact HB.out | apply below_alloc | apply pw_below_drewN | apply below_drew1) | exact HB.out | exact Below.refl _ _))) : w.heap.size ≤ gb537)); clear HB; have HB := n0_; have BK537 := n1_; have GW537 := n2_; have GE537 := n3_; clear n0_ n1_ n2_ n3_; clear hb hbox hg; have hcz7_0 : w6.cell? ⟨gb537, 0, none⟩ = some (.string (⟨#[]⟩ : ByteArray)) := (blk_cell BK537.out 0).trans rfl; have hcz7_1 : w6.cell? ⟨gb537, 1, none⟩ = some (.string (⟨#[]⟩ : ByteArray)) := (blk_cell BK537.out 1).trans rfl; have hfz7_0 := blk_frozen BK537.out 0; have hfz7_1 := blk_frozen BK537.out 1)))
              go_ret
              exact ⟨by first | rfl | (simp [errW_none, errW_some] <;> rfl) | (simp [*, errW_none, errW_some] <;> rfl), by repeat (first | (with_reducible first | exact HB.out | apply below_alloc | apply pw_below_drewN | apply below_drew1 | refine below_set ?_ GE537.out) | exact HB.out)⟩
            · rw [if_neg c5] at H
              have c5b0 : decide (40 < (((rd_T38 l0 x7_1).f0).size : Int)) = false := decide_eq_false c5
              have c5b1 : decide (40 < ((rd_T38 l0 x7_1).f0).size) = false := decide_eq_false (by omega)
              clear c5
              by_cases c8 : (((rd_T38 l0 x7_1).f1).size : Int) > 40
              · rw [if_pos c8] at H
                have c8b0 : decide (40 < (((rd_T38 l0 x7_1).f1).size : Int)) = true := decide_eq_true c8
                have c8b1 : decide (40 < ((rd_T38 l0 x7_1).f1).size) = true := decide_eq_true (by omega)
                clear c8
                obtain rfl := Option.some.inj H
                have p536 : 0 ≤ (x7_1 : Int) := of_decide_eq_true (by first | (with_reducible assumption) | assumption)
                have q536 : x7_1 < (l0.length : Int) := of_decide_eq_true (by first | (with_reducible assumption) | assumption)
                obtain ⟨ad536, e536, hx536_0, hx536_1⟩ := at_T38 HR0.out x7_1 p536 q536
                cases e536
                replace hx536_0 := (HB.out.cell (World.block_lt_of_cell? w _ hx536_0)).trans hx536_0
                replace hx536_1 := (HB.out.cell (World.block_lt_of_cell? w _ hx536_1)).trans hx536_1
                replace p536 := eq_true p536
                replace q536 := eq_true q536
                go_wp2_with (first | ((with_reducible refine gate_dst (N := 4) rfl ?_); (try (refine gate_guard (by rfl) ?_; dsimp only)); refine box_event ?hg (N := 4) ?hd (cs := #[.string (⟨#[]⟩ : ByteArray), .string (⟨#[]⟩ : ByteArray)]) (t := 38) ?hr ?_; (case hd => rfl); (case hg => rfl); (case hr => first | (go_simp; done) | (go_simp; rfl)); intro gb537 hg w9 hbox hb; have n0_ := Aside0.mk (below_step (by repeat (first | (with_reducible first | exact HB.out | apply below_alloc | apply pw_below_drewN | apply below_drew1) | exact HB.out | exact Below.refl _ _)) hb); have n1_ := Aside0.mk (hbox); have n2_ := Aside0.mk ((by rw [hg]; exact (below_size (by repeat (first | (with_reducible first | exact HB.out | apply below_alloc | apply pw_below_drewN | apply below_drew1) | exact HB.out | exact Below.refl _ _))) : w.heap.size ≤ gb537)); have n3_ := Aside0.mk ((by rw [hg]; exact (below_size (by repeat (first | (with_reducible first | exact HB.out | apply below_alloc | apply pw_below_drewN | apply below_drew1) | exact HB.out | exact Below.refl _ _))) : w.heap.size ≤ gb537)); clear HB; have HB := n0_; have BK537 := n1_; have GW537 := n2_; have GE537 := n3_; clear n0_ n1_ n2_ n3_; clear hb hbox hg; have hcz10_0 : w9.cell? ⟨gb537, 0, none⟩ = some (.string (⟨#[]⟩ : ByteArray)) := (blk_cell BK537.out 0).trans rfl; have hcz10_1 : w9.cell? ⟨gb537, 1, none⟩ = some (.string (⟨#[]⟩ : ByteArray)) := (blk_cell BK537.out 1).trans rfl; have hfz10_0 := blk_frozen BK537.out 0; have hfz10_1 := blk_frozen BK537.out 1))
                repeat (go_quiet (first | ((with_reducible refine gate_dst (N := 4) rfl ?_); (try (refine gate_guard (by rfl) ?_; dsimp only)); refine box_event ?hg (N := 4) ?hd (cs := #[.string (⟨#[]⟩ : ByteArray), .string (⟨#[]⟩ : ByteArray)]) (t := 38) ?hr ?_; (case hd => rfl); (case hg => rfl); (case hr => first | (go_simp; done) | (go_simp; rfl)); intro gb537 hg w9 hbox hb; have n0_ := Aside0.mk (below_step (by repeat (first | (with_reducible first | exact HB.out | apply below_alloc | apply pw_below_drewN | apply below_drew1) | exact HB.out | exact Below.refl _ _)) hb); have n1_ := Aside0.mk (hbox); have n2_ := Aside0.mk ((by rw [hg]; exact (below_size (by repeat (first | (with_reducible first | exact HB.out | apply below_alloc | apply pw_below_drewN | apply below_drew1) | exact HB.out | exact Below.refl _ _))) : w.heap.size ≤ gb537)); have n3_ := Aside0.mk ((by rw [hg]; exact (below_size (by repeat (first | (with_reducible first | exact HB.out | apply below_alloc | apply pw_below_drewN | apply below_drew1) | exact HB.out | exact Below.refl _ _))) : w.heap.size ≤ gb537)); clear HB; have HB := n0_; have BK537 := n1_; have GW537 := n2_; have GE537 := n3_; clear n0_ n1_ n2_ n3_; clear hb hbox hg; have hcz10_0 : w9.cell? ⟨gb537, 0, none⟩ = some (.string (⟨#[]⟩ : ByteArray)) := (blk_cell BK537.out 0).trans rfl; have hcz10_1 : w9.cell? ⟨gb537, 1, none⟩ = some (.string (⟨#[]⟩ : ByteArray)) := (blk_cell BK537.out 1).trans rfl; have hfz10_0 := blk_frozen BK537.out 0; have hfz10_1 := blk_frozen BK537.out 1)); try go_wp2_with (first | ((with_reducible refine gate_dst (N := 4) rfl ?_); (try (refine gate_guard (by rfl) ?_; dsimp only)); refine box_event ?hg (N := 4) ?hd (cs := #[.string (⟨#[]⟩ : ByteArray), .string (⟨#[]⟩ : ByteArray)]) (t := 38) ?hr ?_; (case hd => rfl); (case hg => rfl); (case hr => first | (go_simp; done) | (go_simp; rfl)); intro gb537 hg w9 hbox hb; have n0_ := Aside0.mk (below_step (by repeat (first | (with_reducible first | exact HB.out | apply below_alloc | apply pw_below_drewN | apply below_drew1) | exact HB.out | exact Below.refl _ _)) hb); have n1_ := Aside0.mk (hbox); have n2_ := Aside0.mk ((by rw [hg]; exact (below_size (by repeat (first | (with_reducible first | exact HB.out | apply below_alloc | apply pw_below_drewN | apply below_drew1) | exact HB.out | exact Below.refl _ _))) : w.heap.size ≤ gb537)); have n3_ := Aside0.mk ((by rw [hg]; exact (below_size (by repeat (first | (with_reducible first | exact HB.out | apply below_alloc | apply pw_below_drewN | apply below_drew1) | exact HB.out | exact Below.refl _ _))) : w.heap.size ≤ gb537)); clear HB; have HB := n0_; have BK537 := n1_; have GW537 := n2_; have GE537 := n3_; clear n0_ n1_ n2_ n3_; clear hb hbox hg; have hcz10_0 : w9.cell? ⟨gb537, 0, none⟩ = some (.string (⟨#[]⟩ : ByteArray)) := (blk_cell BK537.out 0).trans rfl; have hcz10_1 : w9.cell? ⟨gb537, 1, none⟩ = some (.string (⟨#[]⟩ : ByteArray)) := (blk_cell BK537.out 1).trans rfl; have hfz10_0 := blk_frozen BK537.out 0; have hfz10_1 := blk_frozen BK537.out 1)))
                go_ret
                exact ⟨by first | rfl | (simp [errW_none, errW_some] <;> rfl) | (simp [*, errW_none, errW_some] <;> rfl), by repeat (first | (with_reducible first | exact HB.out | apply below_alloc | apply pw_below_drewN | apply below_drew1 | refine below_set ?_ GE537.out) | exact HB.out)⟩
              · rw [if_neg c8] at H
                have c8b0 : decide (40 < (((rd_T38 l0 x7_1).f1).size : Int)) = false := decide_eq_false c8
                have c8b1 : decide (40 < ((rd_T38 l0 x7_1).f1).size) = false := decide_eq_false (by omega)
                clear c8
                by_cases c11 : x7_1 > 0
                · rw [if_pos c11] at H
                  have c11b0 : decide (0 < x7_1) = true := decide_eq_true c11
                  clear c11
                  obtain ⟨ji12, hji12⟩ : ∃ j_ : Int, (wrap64 (x7_1 - 1)) = j_ := ⟨_, rfl⟩
                  replace H : (if 0 ≤ (ji12) then (if (ji12) < (l0.length : Int) then (if ((Op.bytesLess (((rd_T38 l0 (ji12)).f0).toList) (((rd_T38 l0 x7_1).f0).toList)) = true) then (impl_FieldsOk.l0 k1 l0 l0 (l0.length : Int) (wrap64 (x7_1 + 1))) else (some false)) else (none)) else (none)) = some r := by first | (rw [hji12] at H; exact H) | (simp only [hji12] at H ⊢; exact H)
                  have hji12w : (IntKind.i64.wrap (x7_1 - 1)) = ji12 := (i64_w _).trans hji12
                  by_cases c13 : 0 ≤ (ji12)
                  · rw [if_pos c13] at H
                    have c13b0 : decide (0 ≤ (ji12)) = true := decide_eq_true c13
                    clear c13
                    by_cases c14 : (ji12) < (l0.length : Int)
                    · rw [if_pos c14] at H
                      have c14b0 : decide ((ji12) < (l0.length : Int)) = true := decide_eq_true c14
                      clear c14
                      by_cases c15 : ((Op.bytesLess (((rd_T38 l0 (ji12)).f0).toList) (((rd_T38 l0 x7_1).f0).toList)) = true)
                      · rw [if_pos c15] at H
                        have c15b0 : (Op.bytesLess (((rd_T38 l0 (ji12)).f0).toList) (((rd_T38 l0 x7_1).f0).toList)) = true := c15
                        clear c15
                        have H' := Aside0.mk H
                        clear H
                        have p536 : 0 ≤ (x7_1 : Int) := of_decide_eq_true (by first | (with_reducible assumption) | assumption)
                        have q536 : x7_1 < (l0.length : Int) := of_decide_eq_true (by first | (with_reducible assumption) | assumption)
                        obtain ⟨ad536, e536, hx536_0, hx536_1⟩ := at_T38 HR0.out x7_1 p536 q536
                        cases e536
                        replace hx536_0 := (HB.out.cell (World.block_lt_of_cell? w _ hx536_0)).trans hx536_0
                        replace hx536_1 := (HB.out.cell (World.block_lt_of_cell? w _ hx536_1)).trans hx536_1
                        replace p536 := eq_true p536
                        replace q536 := eq_true q536
                        go_wp2_with (first | ((with_reducible refine gate_dst (N := 4) rfl ?_); (try (refine gate_guard (by rfl) ?_; dsimp only)); refine box_event ?hg (N := 4) ?hd (cs := #[.string (⟨#[]⟩ : ByteArray), .string (⟨#[]⟩ : ByteArray)]) (t := 38) ?hr ?_; (case hd => rfl); (case hg => rfl); (case hr => first | (go_simp; done) | (go_simp; rfl)); intro gb537 hg w16 hbox hb; have n0_ := Aside0.mk (below_step (by repeat (first | (with_reducible first | exact HB.out | apply below_alloc | apply pw_below_drewN | apply below_drew1) | exact HB.out | exact Below.refl _ _)) hb); have n1_ := Aside0.mk (hbox); have n2_ := Aside0.mk ((by rw [hg]; exact (below_size (by repeat (first | (with_reducible first | exact HB.out | apply below_alloc | apply pw_below_drewN | apply below_drew1) | exact HB.out | exact Below.refl _ _))) : w.heap.size ≤ gb537)); have n3_ := Aside0.mk ((by rw [hg]; exact (below_size (by repeat (first | (with_reducible first | exact HB.out | apply below_alloc | apply pw_below_drewN | apply below_drew1) | exact HB.out | exact Below.refl _ _))) : w.heap.size ≤ gb537)); clear HB; have HB := n0_; have BK537 := n1_; have GW537 := n2_; have GE537 := n3_; clear n0_ n1_ n2_ n3_; clear hb hbox hg; have hcz17_0 : w16.cell? ⟨gb537, 0, none⟩ = some (.string (⟨#[]⟩ : ByteArray)) := (blk_cell BK537.out 0).trans rfl; have hcz17_1 : w16.cell? ⟨gb537, 1, none⟩ = some (.string (⟨#[]⟩ : ByteArray)) := (blk_cell BK537.out 1).trans rfl; have hfz17_0 := blk_frozen BK537.out 0; have hfz17_1 := blk_frozen BK537.out 1; have p538 : 0 ≤ ((ji12) : Int) := of_decide_eq_true (by first | (with_reducible assumption) | assumption); have q538 : (ji12) < (l0.length : Int) := of_decide_eq_true (by first | (with_reducible assumption) | assumption); obtain ⟨ad538, e538, hx538_0, hx538_1⟩ := at_T38 HR0.out (ji12) p538 q538; obtain rfl : ad536 = ad538 := (by injection e538); have hn538_0 : ad536.block ≠ gb537 := Nat.ne_of_lt (Nat.lt_of_lt_of_le (by have := World.block_lt_of_cell? _ _ hx538_0; first | rwa [add_block] at this | exact this) GW537.out); have hn538_1 : ad536.block ≠ gb537 := Nat.ne_of_lt (Nat.lt_of_lt_of_le (by have := World.block_lt_of_cell? _ _ hx538_0; first | rwa [add_block] at this | exact this) GW537.out); replace hx538_0 := (HB.out.cell (World.block_lt_of_cell? w _ hx538_0)).trans hx538_0; replace hx538_1 := (HB.out.cell (World.block_lt_of_cell? w _ hx538_1)).trans hx538_1; replace hx538_0 := (cell_far (p := ⟨gb537, 0, none⟩) (by first | (rw [add_block]; exact hn538_0) | (show (Addr.add _ _).block ≠ _; rw [add_block]; exact hn538_0) | exact hn538_0) (.string ((rd_T38 l0 x7_1).f0))).trans hx538_0; replace hx538_1 := (cell_far (p := ⟨gb537, 0, none⟩) (by first | (rw [add_block]; exact hn538_0) | (show (Addr.add _ _).block ≠ _; rw [add_block]; exact hn538_0) | exact hn538_0) (.string ((rd_T38 l0 x7_1).f0))).trans hx538_1; replace hx538_0 := (cell_far (p := ⟨gb537, 1, none⟩) (by first | (rw [add_block]; exact hn538_1) | (show (Addr.add _ _).block ≠ _; rw [add_block]; exact hn538_1) | exact hn538_1) (.string ((rd_T38 l0 x7_1).f1))).trans hx538_0; replace hx538_1 := (cell_far (p := ⟨gb537, 1, none⟩) (by first | (rw [add_block]; exact hn538_1) | (show (Addr.add _ _).block ≠ _; rw [add_block]; exact hn538_1) | exact hn538_1) (.string ((rd_T38 l0 x7_1).f1))).trans hx538_1; (try have hy538_0 := fun (n_ : Nat) => (show ((((w16.drewN n_).setCell ⟨gb537, 0, none⟩ (.string ((rd_T38 l0 x7_1).f0))).setCell ⟨gb537, 1, none⟩ (.string ((rd_T38 l0 x7_1).f1)))).cell? _ = some _ from hx538_0)); (try have hy538_1 := fun (n_ : Nat) => (show ((((w16.drewN n_).setCell ⟨gb537, 0, none⟩ (.string ((rd_T38 l0 x7_1).f0))).setCell ⟨gb537, 1, none⟩ (.string ((rd_T38 l0 x7_1).f1)))).cell? _ = some _ from hx538_1)); clear hn538_0; clear hn538_1; replace p538 := eq_true p538; replace q538 := eq_true q538))
                        repeat (go_quiet (first | ((with_reducible refine gate_dst (N := 4) rfl ?_); (try (refine gate_guard (by rfl) ?_; dsimp only)); refine box_event ?hg (N := 4) ?hd (cs := #[.string (⟨#[]⟩ : ByteArray), .string (⟨#[]⟩ : ByteArray)]) (t := 38) ?hr ?_; (case hd => rfl); (case hg => rfl); (case hr => first | (go_simp; done) | (go_simp; rfl)); intro gb537 hg w16 hbox hb; have n0_ := Aside0.mk (below_step (by repeat (first | (with_reducible first | exact HB.out | apply below_alloc | apply pw_below_drewN | apply below_drew1) | exact HB.out | exact Below.refl _ _)) hb); have n1_ := Aside0.mk (hbox); have n2_ := Aside0.mk ((by rw [hg]; exact (below_size (by repeat (first | (with_reducible first | exact HB.out | apply below_alloc | apply pw_below_drewN | apply below_drew1) | exact HB.out | exact Below.refl _ _))) : w.heap.size ≤ gb537)); have n3_ := Aside0.mk ((by rw [hg]; exact (below_size (by repeat (first | (with_reducible first | exact HB.out | apply below_alloc | apply pw_below_drewN | apply below_drew1) | exact HB.out | exact Below.refl _ _))) : w.heap.size ≤ gb537)); clear HB; have HB := n0_; have BK537 := n1_; have GW537 := n2_; have GE537 := n3_; clear n0_ n1_ n2_ n3_; clear hb hbox hg; have hcz17_0 : w16.cell? ⟨gb537, 0, none⟩ = some (.string (⟨#[]⟩ : ByteArray)) := (blk_cell BK537.out 0).trans rfl; have hcz17_1 : w16.cell? ⟨gb537, 1, none⟩ = some (.string (⟨#[]⟩ : ByteArray)) := (blk_cell BK537.out 1).trans rfl; have hfz17_0 := blk_frozen BK537.out 0; have hfz17_1 := blk_frozen BK537.out 1; have p538 : 0 ≤ ((ji12) : Int) := of_decide_eq_true (by first | (with_reducible assumption) | assumption); have q538 : (ji12) < (l0.length : Int) := of_decide_eq_true (by first | (with_reducible assumption) | assumption); obtain ⟨ad538, e538, hx538_0, hx538_1⟩ := at_T38 HR0.out (ji12) p538 q538; obtain rfl : ad536 = ad538 := (by injection e538); have hn538_0 : ad536.block ≠ gb537 := Nat.ne_of_lt (Nat.lt_of_lt_of_le (by have := World.block_lt_of_cell? _ _ hx538_0; first | rwa [add_block] at this | exact this) GW537.out); have hn538_1 : ad536.block ≠ gb537 := Nat.ne_of_lt (Nat.lt_of_lt_of_le (by have := World.block_lt_of_cell? _ _ hx538_0; first | rwa [add_block] at this | exact this) GW537.out); replace hx538_0 := (HB.out.cell (World.block_lt_of_cell? w _ hx538_0)).trans hx538_0; replace hx538_1 := (HB.out.cell (World.block_lt_of_cell? w _ hx538_1)).trans hx538_1; replace hx538_0 := (cell_far (p := ⟨gb537, 0, none⟩) (by first | (rw [add_block]; exact hn538_0) | (show (Addr.add _ _).block ≠ _; rw [add_block]; exact hn538_0) | exact hn538_0) (.string ((rd_T38 l0 x7_1).f0))).trans hx538_0; replace hx538_1 := (cell_far (p := ⟨gb537, 0, none⟩) (by first | (rw [add_block]; exact hn538_0) | (show (Addr.add _ _).block ≠ _; rw [add_block]; exact hn538_0) | exact hn538_0) (.string ((rd_T38 l0 x7_1).f0))).trans hx538_1; replace hx538_0 := (cell_far (p := ⟨gb537, 1, none⟩) (by first | (rw [add_block]; exact hn538_1) | (show (Addr.add _ _).block ≠ _; rw [add_block]; exact hn538_1) | exact hn538_1) (.string ((rd_T38 l0 x7_1).f1))).trans hx538_0; replace hx538_1 := (cell_far (p := ⟨gb537, 1, none⟩) (by first | (rw [add_block]; exact hn538_1) | (show (Addr.add _ _).block ≠ _; rw [add_block]; exact hn538_1) | exact hn538_1) (.string ((rd_T38 l0 x7_1).f1))).trans hx538_1; (try have hy538_0 := fun (n_ : Nat) => (show ((((w16.drewN n_).setCell ⟨gb537, 0, none⟩ (.string ((rd_T38 l0 x7_1).f0))).setCell ⟨gb537, 1, none⟩ (.string ((rd_T38 l0 x7_1).f1)))).cell? _ = some _ from hx538_0)); (try have hy538_1 := fun (n_ : Nat) => (show ((((w16.drewN n_).setCell ⟨gb537, 0, none⟩ (.string ((rd_T38 l0 x7_1).f0))).setCell ⟨gb537, 1, none⟩ (.string ((rd_T38 l0 x7_1).f1)))).cell? _ = some _ from hx538_1)); clear hn538_0; clear hn538_1; replace p538 := eq_true p538; replace q538 := eq_true q538)); try go_wp2_with (first | ((with_reducible refine gate_dst (N := 4) rfl ?_); (try (refine gate_guard (by rfl) ?_; dsimp only)); refine box_event ?hg (N := 4) ?hd (cs := #[.string (⟨#[]⟩ : ByteArray), .string (⟨#[]⟩ : ByteArray)]) (t := 38) ?hr ?_; (case hd => rfl); (case hg => rfl); (case hr => first | (go_simp; done) | (go_simp; rfl)); intro gb537 hg w16 hbox hb; have n0_ := Aside0.mk (below_step (by repeat (first | (with_reducible first | exact HB.out | apply below_alloc | apply pw_below_drewN | apply below_drew1) | exact HB.out | exact Below.refl _ _)) hb); have n1_ := Aside0.mk (hbox); have n2_ := Aside0.mk ((by rw [hg]; exact (below_size (by repeat (first | (with_reducible first | exact HB.out | apply below_alloc | apply pw_below_drewN | apply below_drew1) | exact HB.out | exact Below.refl _ _))) : w.heap.size ≤ gb537)); have n3_ := Aside0.mk ((by rw [hg]; exact (below_size (by repeat (first | (with_reducible first | exact HB.out | apply below_alloc | apply pw_below_drewN | apply below_drew1) | exact HB.out | exact Below.refl _ _))) : w.heap.size ≤ gb537)); clear HB; have HB := n0_; have BK537 := n1_; have GW537 := n2_; have GE537 := n3_; clear n0_ n1_ n2_ n3_; clear hb hbox hg; have hcz17_0 : w16.cell? ⟨gb537, 0, none⟩ = some (.string (⟨#[]⟩ : ByteArray)) := (blk_cell BK537.out 0).trans rfl; have hcz17_1 : w16.cell? ⟨gb537, 1, none⟩ = some (.string (⟨#[]⟩ : ByteArray)) := (blk_cell BK537.out 1).trans rfl; have hfz17_0 := blk_frozen BK537.out 0; have hfz17_1 := blk_frozen BK537.out 1; have p538 : 0 ≤ ((ji12) : Int) := of_decide_eq_true (by first | (with_reducible assumption) | assumption); have q538 : (ji12) < (l0.length : Int) := of_decide_eq_true (by first | (with_reducible assumption) | assumption); obtain ⟨ad538, e538, hx538_0, hx538_1⟩ := at_T38 HR0.out (ji12) p538 q538; obtain rfl : ad536 = ad538 := (by injection e538); have hn538_0 : ad536.block ≠ gb537 := Nat.ne_of_lt (Nat.lt_of_lt_of_le (by have := World.block_lt_of_cell? _ _ hx538_0; first | rwa [add_block] at this | exact this) GW537.out); have hn538_1 : ad536.block ≠ gb537 := Nat.ne_of_lt (Nat.lt_of_lt_of_le (by have := World.block_lt_of_cell? _ _ hx538_0; first | rwa [add_block] at this | exact this) GW537.out); replace hx538_0 := (HB.out.cell (World.block_lt_of_cell? w _ hx538_0)).trans hx538_0; replace hx538_1 := (HB.out.cell (World.block_lt_of_cell? w _ hx538_1)).trans hx538_1; replace hx538_0 := (cell_far (p := ⟨gb537, 0, none⟩) (by first | (rw [add_block]; exact hn538_0) | (show (Addr.add _ _).block ≠ _; rw [add_block]; exact hn538_0) | exact hn538_0) (.string ((rd_T38 l0 x7_1).f0))).trans hx538_0; replace hx538_1 := (cell_far (p := ⟨gb537, 0, none⟩) (by first | (rw [add_block]; exact hn538_0) | (show (Addr.add _ _).block ≠ _; rw [add_block]; exact hn538_0) | exact hn538_0) (.string ((rd_T38 l0 x7_1).f0))).trans hx538_1; replace hx538_0 := (cell_far (p := ⟨gb537, 1, none⟩) (by first | (rw [add_block]; exact hn538_1) | (show (Addr.add _ _).block ≠ _; rw [add_block]; exact hn538_1) | exact hn538_1) (.string ((rd_T38 l0 x7_1).f1))).trans hx538_0; replace hx538_1 := (cell_far (p := ⟨gb537, 1, none⟩) (by first | (rw [add_block]; exact hn538_1) | (show (Addr.add _ _).block ≠ _; rw [add_block]; exact hn538_1) | exact hn538_1) (.string ((rd_T38 l0 x7_1).f1))).trans hx538_1; (try have hy538_0 := fun (n_ : Nat) => (show ((((w16.drewN n_).setCell ⟨gb537, 0, none⟩ (.string ((rd_T38 l0 x7_1).f0))).setCell ⟨gb537, 1, none⟩ (.string ((rd_T38 l0 x7_1).f1)))).cell? _ = some _ from hx538_0)); (try have hy538_1 := fun (n_ : Nat) => (show ((((w16.drewN n_).setCell ⟨gb537, 0, none⟩ (.string ((rd_T38 l0 x7_1).f0))).setCell ⟨gb537, 1, none⟩ (.string ((rd_T38 l0 x7_1).f1)))).cell? _ = some _ from hx538_1)); clear hn538_0; clear hn538_1; replace p538 := eq_true p538; replace q538 := eq_true q538)))
                        go_roundg k1
                        case measure => have := HK1.out; omega
                        case rel => exact ⟨(wrap64 (x7_1 + 1)), (by first | rfl | (simp; done) | (simp [*]; done)), H', ⟨by have := HK1.out; omega⟩, ⟨by repeat (first | (with_reducible first | exact HB.out | apply below_alloc | apply pw_below_drewN | apply below_drew1 | refine below_set ?_ GE537.out) | exact HB.out)⟩⟩
                      · rw [if_neg c15] at H
                        have c15b0 : (Op.bytesLess (((rd_T38 l0 (ji12)).f0).toList) (((rd_T38 l0 x7_1).f0).toList)) = false := by simpa using c15
                        clear c15
                        obtain rfl := Option.some.inj H
                        have p536 : 0 ≤ (x7_1 : Int) := of_decide_eq_true (by first | (with_reducible assumption) | assumption)
                        have q536 : x7_1 < (l0.length : Int) := of_decide_eq_true (by first | (with_reducible assumption) | assumption)
                        obtain ⟨ad536, e536, hx536_0, hx536_1⟩ := at_T38 HR0.out x7_1 p536 q536
                        cases e536
                        replace hx536_0 := (HB.out.cell (World.block_lt_of_cell? w _ hx536_0)).trans hx536_0
                        replace hx536_1 := (HB.out.cell (World.block_lt_of_cell? w _ hx536_1)).trans hx536_1
                        replace p536 := eq_true p536
                        replace q536 := eq_true q536
                        go_wp2_with (first | ((with_reducible refine gate_dst (N := 4) rfl ?_); (try (refine gate_guard (by rfl) ?_; dsimp only)); refine box_event ?hg (N := 4) ?hd (cs := #[.string (⟨#[]⟩ : ByteArray), .string (⟨#[]⟩ : ByteArray)]) (t := 38) ?hr ?_; (case hd => rfl); (case hg => rfl); (case hr => first | (go_simp; done) | (go_simp; rfl)); intro gb537 hg w18 hbox hb; have n0_ := Aside0.mk (below_step (by repeat (first | (with_reducible first | exact HB.out | apply below_alloc | apply pw_below_drewN | apply below_drew1) | exact HB.out | exact Below.refl _ _)) hb); have n1_ := Aside0.mk (hbox); have n2_ := Aside0.mk ((by rw [hg]; exact (below_size (by repeat (first | (with_reducible first | exact HB.out | apply below_alloc | apply pw_below_drewN | apply below_drew1) | exact HB.out | exact Below.refl _ _))) : w.heap.size ≤ gb537)); have n3_ := Aside0.mk ((by rw [hg]; exact (below_size (by repeat (first | (with_reducible first | exact HB.out | apply below_alloc | apply pw_below_drewN | apply below_drew1) | exact HB.out | exact Below.refl _ _))) : w.heap.size ≤ gb537)); clear HB; have HB := n0_; have BK537 := n1_; have GW537 := n2_; have GE537 := n3_; clear n0_ n1_ n2_ n3_; clear hb hbox hg; have hcz19_0 : w18.cell? ⟨gb537, 0, none⟩ = some (.string (⟨#[]⟩ : ByteArray)) := (blk_cell BK537.out 0).trans rfl; have hcz19_1 : w18.cell? ⟨gb537, 1, none⟩ = some (.string (⟨#[]⟩ : ByteArray)) := (blk_cell BK537.out 1).trans rfl; have hfz19_0 := blk_frozen BK537.out 0; have hfz19_1 := blk_frozen BK537.out 1; have p538 : 0 ≤ ((ji12) : Int) := of_decide_eq_true (by first | (with_reducible assumption) | assumption); have q538 : (ji12) < (l0.length : Int) := of_decide_eq_true (by first | (with_reducible assumption) | assumption); obtain ⟨ad538, e538, hx538_0, hx538_1⟩ := at_T38 HR0.out (ji12) p538 q538; obtain rfl : ad536 = ad538 := (by injection e538); have hn538_0 : ad536.block ≠ gb537 := Nat.ne_of_lt (Nat.lt_of_lt_of_le (by have := World.block_lt_of_cell? _ _ hx538_0; first | rwa [add_block] at this | exact this) GW537.out); have hn538_1 : ad536.block ≠ gb537 := Nat.ne_of_lt (Nat.lt_of_lt_of_le (by have := World.block_lt_of_cell? _ _ hx538_0; first | rwa [add_block] at this | exact this) GW537.out); replace hx538_0 := (HB.out.cell (World.block_lt_of_cell? w _ hx538_0)).trans hx538_0; replace hx538_1 := (HB.out.cell (World.block_lt_of_cell? w _ hx538_1)).trans hx538_1; replace hx538_0 := (cell_far (p := ⟨gb537, 0, none⟩) (by first | (rw [add_block]; exact hn538_0) | (show (Addr.add _ _).block ≠ _; rw [add_block]; exact hn538_0) | exact hn538_0) (.string ((rd_T38 l0 x7_1).f0))).trans hx538_0; replace hx538_1 := (cell_far (p := ⟨gb537, 0, none⟩) (by first | (rw [add_block]; exact hn538_0) | (show (Addr.add _ _).block ≠ _; rw [add_block]; exact hn538_0) | exact hn538_0) (.string ((rd_T38 l0 x7_1).f0))).trans hx538_1; replace hx538_0 := (cell_far (p := ⟨gb537, 1, none⟩) (by first | (rw [add_block]; exact hn538_1) | (show (Addr.add _ _).block ≠ _; rw [add_block]; exact hn538_1) | exact hn538_1) (.string ((rd_T38 l0 x7_1).f1))).trans hx538_0; replace hx538_1 := (cell_far (p := ⟨gb537, 1, none⟩) (by first | (rw [add_block]; exact hn538_1) | (show (Addr.add _ _).block ≠ _; rw [add_block]; exact hn538_1) | exact hn538_1) (.string ((rd_T38 l0 x7_1).f1))).trans hx538_1; (try have hy538_0 := fun (n_ : Nat) => (show ((((w18.drewN n_).setCell ⟨gb537, 0, none⟩ (.string ((rd_T38 l0 x7_1).f0))).setCell ⟨gb537, 1, none⟩ (.string ((rd_T38 l0 x7_1).f1)))).cell? _ = some _ from hx538_0)); (try have hy538_1 := fun (n_ : Nat) => (show ((((w18.drewN n_).setCell ⟨gb537, 0, none⟩ (.string ((rd_T38 l0 x7_1).f0))).setCell ⟨gb537, 1, none⟩ (.string ((rd_T38 l0 x7_1).f1)))).cell? _ = some _ from hx538_1)); clear hn538_0; clear hn538_1; replace p538 := eq_true p538; replace q538 := eq_true q538))
                        repeat (go_quiet (first | ((with_reducible refine gate_dst (N := 4) rfl ?_); (try (refine gate_guard (by rfl) ?_; dsimp only)); refine box_event ?hg (N := 4) ?hd (cs := #[.string (⟨#[]⟩ : ByteArray), .string (⟨#[]⟩ : ByteArray)]) (t := 38) ?hr ?_; (case hd => rfl); (case hg => rfl); (case hr => first | (go_simp; done) | (go_simp; rfl)); intro gb537 hg w18 hbox hb; have n0_ := Aside0.mk (below_step (by repeat (first | (with_reducible first | exact HB.out | apply below_alloc | apply pw_below_drewN | apply below_drew1) | exact HB.out | exact Below.refl _ _)) hb); have n1_ := Aside0.mk (hbox); have n2_ := Aside0.mk ((by rw [hg]; exact (below_size (by repeat (first | (with_reducible first | exact HB.out | apply below_alloc | apply pw_below_drewN | apply below_drew1) | exact HB.out | exact Below.refl _ _))) : w.heap.size ≤ gb537)); have n3_ := Aside0.mk ((by rw [hg]; exact (below_size (by repeat (first | (with_reducible first | exact HB.out | apply below_alloc | apply pw_below_drewN | apply below_drew1) | exact HB.out | exact Below.refl _ _))) : w.heap.size ≤ gb537)); clear HB; have HB := n0_; have BK537 := n1_; have GW537 := n2_; have GE537 := n3_; clear n0_ n1_ n2_ n3_; clear hb hbox hg; have hcz19_0 : w18.cell? ⟨gb537, 0, none⟩ = some (.string (⟨#[]⟩ : ByteArray)) := (blk_cell BK537.out 0).trans rfl; have hcz19_1 : w18.cell? ⟨gb537, 1, none⟩ = some (.string (⟨#[]⟩ : ByteArray)) := (blk_cell BK537.out 1).trans rfl; have hfz19_0 := blk_frozen BK537.out 0; have hfz19_1 := blk_frozen BK537.out 1; have p538 : 0 ≤ ((ji12) : Int) := of_decide_eq_true (by first | (with_reducible assumption) | assumption); have q538 : (ji12) < (l0.length : Int) := of_decide_eq_true (by first | (with_reducible assumption) | assumption); obtain ⟨ad538, e538, hx538_0, hx538_1⟩ := at_T38 HR0.out (ji12) p538 q538; obtain rfl : ad536 = ad538 := (by injection e538); have hn538_0 : ad536.block ≠ gb537 := Nat.ne_of_lt (Nat.lt_of_lt_of_le (by have := World.block_lt_of_cell? _ _ hx538_0; first | rwa [add_block] at this | exact this) GW537.out); have hn538_1 : ad536.block ≠ gb537 := Nat.ne_of_lt (Nat.lt_of_lt_of_le (by have := World.block_lt_of_cell? _ _ hx538_0; first | rwa [add_block] at this | exact this) GW537.out); replace hx538_0 := (HB.out.cell (World.block_lt_of_cell? w _ hx538_0)).trans hx538_0; replace hx538_1 := (HB.out.cell (World.block_lt_of_cell? w _ hx538_1)).trans hx538_1; replace hx538_0 := (cell_far (p := ⟨gb537, 0, none⟩) (by first | (rw [add_block]; exact hn538_0) | (show (Addr.add _ _).block ≠ _; rw [add_block]; exact hn538_0) | exact hn538_0) (.string ((rd_T38 l0 x7_1).f0))).trans hx538_0; replace hx538_1 := (cell_far (p := ⟨gb537, 0, none⟩) (by first | (rw [add_block]; exact hn538_0) | (show (Addr.add _ _).block ≠ _; rw [add_block]; exact hn538_0) | exact hn538_0) (.string ((rd_T38 l0 x7_1).f0))).trans hx538_1; replace hx538_0 := (cell_far (p := ⟨gb537, 1, none⟩) (by first | (rw [add_block]; exact hn538_1) | (show (Addr.add _ _).block ≠ _; rw [add_block]; exact hn538_1) | exact hn538_1) (.string ((rd_T38 l0 x7_1).f1))).trans hx538_0; replace hx538_1 := (cell_far (p := ⟨gb537, 1, none⟩) (by first | (rw [add_block]; exact hn538_1) | (show (Addr.add _ _).block ≠ _; rw [add_block]; exact hn538_1) | exact hn538_1) (.string ((rd_T38 l0 x7_1).f1))).trans hx538_1; (try have hy538_0 := fun (n_ : Nat) => (show ((((w18.drewN n_).setCell ⟨gb537, 0, none⟩ (.string ((rd_T38 l0 x7_1).f0))).setCell ⟨gb537, 1, none⟩ (.string ((rd_T38 l0 x7_1).f1)))).cell? _ = some _ from hx538_0)); (try have hy538_1 := fun (n_ : Nat) => (show ((((w18.drewN n_).setCell ⟨gb537, 0, none⟩ (.string ((rd_T38 l0 x7_1).f0))).setCell ⟨gb537, 1, none⟩ (.string ((rd_T38 l0 x7_1).f1)))).cell? _ = some _ from hx538_1)); clear hn538_0; clear hn538_1; replace p538 := eq_true p538; replace q538 := eq_true q538)); try go_wp2_with (first | ((with_reducible refine gate_dst (N := 4) rfl ?_); (try (refine gate_guard (by rfl) ?_; dsimp only)); refine box_event ?hg (N := 4) ?hd (cs := #[.string (⟨#[]⟩ : ByteArray), .string (⟨#[]⟩ : ByteArray)]) (t := 38) ?hr ?_; (case hd => rfl); (case hg => rfl); (case hr => first | (go_simp; done) | (go_simp; rfl)); intro gb537 hg w18 hbox hb; have n0_ := Aside0.mk (below_step (by repeat (first | (with_reducible first | exact HB.out | apply below_alloc | apply pw_below_drewN | apply below_drew1) | exact HB.out | exact Below.refl _ _)) hb); have n1_ := Aside0.mk (hbox); have n2_ := Aside0.mk ((by rw [hg]; exact (below_size (by repeat (first | (with_reducible first | exact HB.out | apply below_alloc | apply pw_below_drewN | apply below_drew1) | exact HB.out | exact Below.refl _ _))) : w.heap.size ≤ gb537)); have n3_ := Aside0.mk ((by rw [hg]; exact (below_size (by repeat (first | (with_reducible first | exact HB.out | apply below_alloc | apply pw_below_drewN | apply below_drew1) | exact HB.out | exact Below.refl _ _))) : w.heap.size ≤ gb537)); clear HB; have HB := n0_; have BK537 := n1_; have GW537 := n2_; have GE537 := n3_; clear n0_ n1_ n2_ n3_; clear hb hbox hg; have hcz19_0 : w18.cell? ⟨gb537, 0, none⟩ = some (.string (⟨#[]⟩ : ByteArray)) := (blk_cell BK537.out 0).trans rfl; have hcz19_1 : w18.cell? ⟨gb537, 1, none⟩ = some (.string (⟨#[]⟩ : ByteArray)) := (blk_cell BK537.out 1).trans rfl; have hfz19_0 := blk_frozen BK537.out 0; have hfz19_1 := blk_frozen BK537.out 1; have p538 : 0 ≤ ((ji12) : Int) := of_decide_eq_true (by first | (with_reducible assumption) | assumption); have q538 : (ji12) < (l0.length : Int) := of_decide_eq_true (by first | (with_reducible assumption) | assumption); obtain ⟨ad538, e538, hx538_0, hx538_1⟩ := at_T38 HR0.out (ji12) p538 q538; obtain rfl : ad536 = ad538 := (by injection e538); have hn538_0 : ad536.block ≠ gb537 := Nat.ne_of_lt (Nat.lt_of_lt_of_le (by have := World.block_lt_of_cell? _ _ hx538_0; first | rwa [add_block] at this | exact this) GW537.out); have hn538_1 : ad536.block ≠ gb537 := Nat.ne_of_lt (Nat.lt_of_lt_of_le (by have := World.block_lt_of_cell? _ _ hx538_0; first | rwa [add_block] at this | exact this) GW537.out); replace hx538_0 := (HB.out.cell (World.block_lt_of_cell? w _ hx538_0)).trans hx538_0; replace hx538_1 := (HB.out.cell (World.block_lt_of_cell? w _ hx538_1)).trans hx538_1; replace hx538_0 := (cell_far (p := ⟨gb537, 0, none⟩) (by first | (rw [add_block]; exact hn538_0) | (show (Addr.add _ _).block ≠ _; rw [add_block]; exact hn538_0) | exact hn538_0) (.string ((rd_T38 l0 x7_1).f0))).trans hx538_0; replace hx538_1 := (cell_far (p := ⟨gb537, 0, none⟩) (by first | (rw [add_block]; exact hn538_0) | (show (Addr.add _ _).block ≠ _; rw [add_block]; exact hn538_0) | exact hn538_0) (.string ((rd_T38 l0 x7_1).f0))).trans hx538_1; replace hx538_0 := (cell_far (p := ⟨gb537, 1, none⟩) (by first | (rw [add_block]; exact hn538_1) | (show (Addr.add _ _).block ≠ _; rw [add_block]; exact hn538_1) | exact hn538_1) (.string ((rd_T38 l0 x7_1).f1))).trans hx538_0; replace hx538_1 := (cell_far (p := ⟨gb537, 1, none⟩) (by first | (rw [add_block]; exact hn538_1) | (show (Addr.add _ _).block ≠ _; rw [add_block]; exact hn538_1) | exact hn538_1) (.string ((rd_T38 l0 x7_1).f1))).trans hx538_1; (try have hy538_0 := fun (n_ : Nat) => (show ((((w18.drewN n_).setCell ⟨gb537, 0, none⟩ (.string ((rd_T38 l0 x7_1).f0))).setCell ⟨gb537, 1, none⟩ (.string ((rd_T38 l0 x7_1).f1)))).cell? _ = some _ from hx538_0)); (try have hy538_1 := fun (n_ : Nat) => (show ((((w18.drewN n_).setCell ⟨gb537, 0, none⟩ (.string ((rd_T38 l0 x7_1).f0))).setCell ⟨gb537, 1, none⟩ (.string ((rd_T38 l0 x7_1).f1)))).cell? _ = some _ from hx538_1)); clear hn538_0; clear hn538_1; replace p538 := eq_true p538; replace q538 := eq_true q538)))
                        go_ret
                        exact ⟨by first | rfl | (simp [errW_none, errW_some] <;> rfl) | (simp only [← hji12]; first | rfl | (simp [errW_none, errW_some] <;> rfl)) | (simp [*, errW_none, errW_some] <;> rfl), by repeat (first | (with_reducible first | exact HB.out | apply below_alloc | apply pw_below_drewN | apply below_drew1 | refine below_set ?_ GE537.out) | exact HB.out)⟩
                    · rw [if_neg c14] at H
                      exact absurd H (by simp)
                  · rw [if_neg c13] at H
                    exact absurd H (by simp)
                · rw [if_neg c11] at H
                  have c11b0 : decide (0 < x7_1) = false := decide_eq_false c11
                  clear c11
                  have H' := Aside0.mk H
                  clear H
                  have p536 : 0 ≤ (x7_1 : Int) := of_decide_eq_true (by first | (with_reducible assumption) | assumption)
                  have q536 : x7_1 < (l0.length : Int) := of_decide_eq_true (by first | (with_reducible assumption) | assumption)
                  obtain ⟨ad536, e536, hx536_0, hx536_1⟩ := at_T38 HR0.out x7_1 p536 q536
                  cases e536
                  replace hx536_0 := (HB.out.cell (World.block_lt_of_cell? w _ hx536_0)).trans hx536_0
                  replace hx536_1 := (HB.out.cell (World.block_lt_of_cell? w _ hx536_1)).trans hx536_1
                  replace p536 := eq_true p536
                  replace q536 := eq_true q536
                  go_wp2_with (first | ((with_reducible refine gate_dst (N := 4) rfl ?_); (try (refine gate_guard (by rfl) ?_; dsimp only)); refine box_event ?hg (N := 4) ?hd (cs := #[.string (⟨#[]⟩ : ByteArray), .string (⟨#[]⟩ : ByteArray)]) (t := 38) ?hr ?_; (case hd => rfl); (case hg => rfl); (case hr => first | (go_simp; done) | (go_simp; rfl)); intro gb537 hg w20 hbox hb; have n0_ := Aside0.mk (below_step (by repeat (first | (with_reducible first | exact HB.out | apply below_alloc | apply pw_below_drewN | apply below_drew1) | exact HB.out | exact Below.refl _ _)) hb); have n1_ := Aside0.mk (hbox); have n2_ := Aside0.mk ((by rw [hg]; exact (below_size (by repeat (first | (with_reducible first | exact HB.out | apply below_alloc | apply pw_below_drewN | apply below_drew1) | exact HB.out | exact Below.refl _ _))) : w.heap.size ≤ gb537)); have n3_ := Aside0.mk ((by rw [hg]; exact (below_size (by repeat (first | (with_reducible first | exact HB.out | apply below_alloc | apply pw_below_drewN | apply below_drew1) | exact HB.out | exact Below.refl _ _))) : w.heap.size ≤ gb537)); clear HB; have HB := n0_; have BK537 := n1_; have GW537 := n2_; have GE537 := n3_; clear n0_ n1_ n2_ n3_; clear hb hbox hg; have hcz21_0 : w20.cell? ⟨gb537, 0, none⟩ = some (.string (⟨#[]⟩ : ByteArray)) := (blk_cell BK537.out 0).trans rfl; have hcz21_1 : w20.cell? ⟨gb537, 1, none⟩ = some (.string (⟨#[]⟩ : ByteArray)) := (blk_cell BK537.out 1).trans rfl; have hfz21_0 := blk_frozen BK537.out 0; have hfz21_1 := blk_frozen BK537.out 1))
                  repeat (go_quiet (first | ((with_reducible refine gate_dst (N := 4) rfl ?_); (try (refine gate_guard (by rfl) ?_; dsimp only)); refine box_event ?hg (N := 4) ?hd (cs := #[.string (⟨#[]⟩ : ByteArray), .string (⟨#[]⟩ : ByteArray)]) (t := 38) ?hr ?_; (case hd => rfl); (case hg => rfl); (case hr => first | (go_simp; done) | (go_simp; rfl)); intro gb537 hg w20 hbox hb; have n0_ := Aside0.mk (below_step (by repeat (first | (with_reducible first | exact HB.out | apply below_alloc | apply pw_below_drewN | apply below_drew1) | exact HB.out | exact Below.refl _ _)) hb); have n1_ := Aside0.mk (hbox); have n2_ := Aside0.mk ((by rw [hg]; exact (below_size (by repeat (first | (with_reducible first | exact HB.out | apply below_alloc | apply pw_below_drewN | apply below_drew1) | exact HB.out | exact Below.refl _ _))) : w.heap.size ≤ gb537)); have n3_ := Aside0.mk ((by rw [hg]; exact (below_size (by repeat (first | (with_reducible first | exact HB.out | apply below_alloc | apply pw_below_drewN | apply below_drew1) | exact HB.out | exact Below.refl _ _))) : w.heap.size ≤ gb537)); clear HB; have HB := n0_; have BK537 := n1_; have GW537 := n2_; have GE537 := n3_; clear n0_ n1_ n2_ n3_; clear hb hbox hg; have hcz21_0 : w20.cell? ⟨gb537, 0, none⟩ = some (.string (⟨#[]⟩ : ByteArray)) := (blk_cell BK537.out 0).trans rfl; have hcz21_1 : w20.cell? ⟨gb537, 1, none⟩ = some (.string (⟨#[]⟩ : ByteArray)) := (blk_cell BK537.out 1).trans rfl; have hfz21_0 := blk_frozen BK537.out 0; have hfz21_1 := blk_frozen BK537.out 1)); try go_wp2_with (first | ((with_reducible refine gate_dst (N := 4) rfl ?_); (try (refine gate_guard (by rfl) ?_; dsimp only)); refine box_event ?hg (N := 4) ?hd (cs := #[.string (⟨#[]⟩ : ByteArray), .string (⟨#[]⟩ : ByteArray)]) (t := 38) ?hr ?_; (case hd => rfl); (case hg => rfl); (case hr => first | (go_simp; done) | (go_simp; rfl)); intro gb537 hg w20 hbox hb; have n0_ := Aside0.mk (below_step (by repeat (first | (with_reducible first | exact HB.out | apply below_alloc | apply pw_below_drewN | apply below_drew1) | exact HB.out | exact Below.refl _ _)) hb); have n1_ := Aside0.mk (hbox); have n2_ := Aside0.mk ((by rw [hg]; exact (below_size (by repeat (first | (with_reducible first | exact HB.out | apply below_alloc | apply pw_below_drewN | apply below_drew1) | exact HB.out | exact Below.refl _ _))) : w.heap.size ≤ gb537)); have n3_ := Aside0.mk ((by rw [hg]; exact (below_size (by repeat (first | (with_reducible first | exact HB.out | apply below_alloc | apply pw_below_drewN | apply below_drew1) | exact HB.out | exact Below.refl _ _))) : w.heap.size ≤ gb537)); clear HB; have HB := n0_; have BK537 := n1_; have GW537 := n2_; have GE537 := n3_; clear n0_ n1_ n2_ n3_; clear hb hbox hg; have hcz21_0 : w20.cell? ⟨gb537, 0, none⟩ = some (.string (⟨#[]⟩ : ByteArray)) := (blk_cell BK537.out 0).trans rfl; have hcz21_1 : w20.cell? ⟨gb537, 1, none⟩ = some (.string (⟨#[]⟩ : ByteArray)) := (blk_cell BK537.out 1).trans rfl; have hfz21_0 := blk_frozen BK537.out 0; have hfz21_1 := blk_frozen BK537.out 1)))
                  go_roundg k1
                  case measure => have := HK1.out; omega
                  case rel => exact ⟨(wrap64 (x7_1 + 1)), (by first | rfl | (simp; done) | (simp [*]; done)), H', ⟨by have := HK1.out; omega⟩, ⟨by repeat (first | (with_reducible first | exact HB.out | apply below_alloc | apply pw_below_drewN | apply below_drew1 | refine below_set ?_ GE537.out) | exact HB.out)⟩⟩
          · rw [if_neg c4] at H
            exact absurd H (by simp)
        · rw [if_neg c3] at H
          exact absurd H (by simp)
      · rw [if_neg c2] at H
        have c2b0 : decide (x7_1 < (l0.length : Int)) = false := decide_eq_false c2
        clear c2
        obtain rfl := Option.some.inj H
        go_wp2
        repeat (go_quiet (fail); try go_wp2)
        go_ret
        exact ⟨by first | rfl | (simp [errW_none, errW_some] <;> rfl) | (simp [*, errW_none, errW_some] <;> rfl), by repeat (first | (with_reducible first | exact HB.out | apply below_alloc | apply pw_below_drewN | apply below_drew1) | exact HB.out | exact Below.refl _ _)⟩

end Go.Proofs.Ytegelpeegbngiaa.P
-- Written by wip/px.py of this session, over the kit's print.py. Not trusted: Lean checks it.
namespace Go.Proofs.Ytegelpeegbngiaa.P
open Go.RowKit Go.Proofs.YtegelpeegbngiaaW.PrintWords Go.Proofs.YtegelpeegbngiaaW.PrintLast Go.Proofs.YtegelpeegbngiaaW.PrintMore
attribute [local go_sem] max2_int min2_int max_two min_two max_three min_three max_four min_four   -- for this text's walks alone
set_option linter.unusedVariables false
set_option linter.unusedSimpArgs false

/-! ### impl_copiedPairs: the walk -/
set_option maxHeartbeats 8000000 in
set_option maxRecDepth 100000 in
theorem impl_copiedPairs.calls (A0 : Option Addr) (c0 : Nat) (l0 : List (S38)) (r : List (S38)) (w : World) (hr0 : Kd.C k38 w A0 l0.length l0) (hc0 : l0.length ≤ c0) (h : impl_copiedPairs.f l0 = some r) :
    Calls Try.prog 55 #[.slice A0 l0.length c0] w fun e w' => ∃ v0_ : Value, e = .returned (v0_) ∧ Kd.R k38 38 w' w.heap.size (fun _ => True) v0_ r ∧ Below w.heap.size w w' := by
  have HR0 := Aside0.mk hr0
  have HC0 := Aside0.mk hc0
  clear hr0 hc0
  have HB := Aside0.mk (Below.refl w.heap.size w)
  have H : ((some (([] : List (S38)) : List (S38))).bind fun y539 => (if y539.length + l0.length < 4398046511104 then (some (y539 ++ l0)) else (none))) = some r := h
  clear h
  obtain ⟨y539, hy539⟩ : ∃ y_ : List (S38), y_ = (([] : List (S38))) := ⟨_, rfl⟩
  replace H : (if y539.length + l0.length < 4398046511104 then (some (y539 ++ l0)) else (none)) = some r := by first | (rw [hy539]; with_reducible exact H) | (have H2_ := (Option.bind_some _ _).symm.trans H; rw [hy539]; with_reducible exact H2_) | (have H2_ := (Option.bind_some _ _).symm.trans H; with_reducible exact H2_) | with_reducible exact H | (rw [hy539]; exact H) | exact H
  have Ny539 := Aside0.mk hy539
  clear hy539
  by_cases c2 : y539.length + l0.length < 4398046511104
  · rw [if_pos c2] at H
    have LMc2 := Aside0.mk c2
    clear c2
    obtain ⟨y542, hy542⟩ : ∃ y_ : List (S38), y_ = (y539 ++ l0) := ⟨_, rfl⟩
    replace H : (some y542) = some r := by first | (rw [hy542]; with_reducible exact H) | (have H2_ := (Option.bind_some _ _).symm.trans H; rw [hy542]; with_reducible exact H2_) | (have H2_ := (Option.bind_some _ _).symm.trans H; with_reducible exact H2_) | with_reducible exact H | (rw [hy542]; exact H) | exact H
    have Ny542 := Aside0.mk hy542
    clear hy542
    obtain rfl := Option.some.inj H
    go_enter Try.func55, Try.ntmps55
    go_wp2_with (first | ((with_reducible refine gate_dst (N := 3) rfl ?_); refine Kd.R_lit k38 _ 38 ?hg (N := 3) ?hd (xs := ([] : List (S38))) (inner := []) (ok := fun _ => True) (okp := fun _ => True) ?hr ?hp (fun _ hk => hk) trivial (Below.refl _ _) (Nat.le_refl _) (by simp) ?_; (case hd => rfl); (case hg => rfl); (case hr => first | (go_simp; done) | (go_simp; rfl)); (case hp => exact (Reps.none _ _)); intro v540 w3 ho4 hb hg_ hnew_; clear hg_ hnew_; (first | rw [← Ny539.out] at ho4 | (simp only [Int.reduceToNat] at ho4; rw [← Ny539.out] at ho4)); have n0_ := Aside0.mk (Kd.R_lower ho4 (below_size (by repeat (first | (with_reducible first | exact HB.out | apply below_alloc | apply pw_below_drewN | apply below_drew1) | exact HB.out | exact Below.refl _ _)))); have n1_ := Aside0.mk (below_step (by repeat (first | (with_reducible first | exact HB.out | apply below_alloc | apply pw_below_drewN | apply below_drew1) | exact HB.out | exact Below.refl _ _)) hb); clear HB; have HO541 := n0_; have HB := n1_; clear n0_ n1_; clear hb ho4) | ((with_reducible refine gate_builtin (b := .append) (xs := #[.tmp 3, .tmp 4]) rfl ?_); at_builtin; refine Kd.R_append_rows k38 (w0 := w) w.heap.size rfl (.tmp 3) (.tmp 4) 34 38 (.agg #[(.string ⟨#[]⟩), (.string ⟨#[]⟩)]) 32 rfl Try.underlying34 info38 rfl (by decide) (by omega) v540 y539 l0 _ _ _ (fun _ => True) (fun _ => False) rfl rfl ?aO ?aR (fun _ _ h => h) (fun _ h => h.elim) ?aF ?aB ?aS ?aL ?_; (case aR => repeat (first | exact (Kd.C_below HR0.out HB.out) | (with_reducible refine Kd.C_alloc ?_ _) | (with_reducible refine Kd.C_drewN ?_ _) | (with_reducible refine Kd.C_drew ?_))); (case aB => exact (by repeat (first | (with_reducible first | exact HB.out | apply below_alloc | apply pw_below_drewN | apply below_drew1) | exact HB.out | exact Below.refl _ _))); (case aF => exact (fun _ _ => trivial)); (case aO => exact (by (with_reducible repeat (first | apply Kd.R_alloc | apply Kd.R_drewN | apply Kd.R_drew)); exact HO541.out)); (case aS => exact (below_size (by repeat (first | (with_reducible first | exact HB.out | apply below_alloc | apply pw_below_drewN | apply below_drew1) | exact HB.out | exact Below.refl _ _)))); (case aL => have := LMc2.out; omega); intro v543 w5 ho hb hg hat; rw [← Ny542.out] at ho; have n0_ := Aside0.mk (hb); have n1_ := Aside0.mk (ho); clear HB; clear HO541; have HB := n0_; have HO544 := n1_; clear n0_ n1_; clear ho hb hg hat))
    go_ret
    exact ⟨_, by first | rfl | (simp [errW_none, errW_some] <;> rfl) | (simp [*, errW_none, errW_some] <;> rfl), by (with_reducible repeat (first | apply Kd.R_alloc | apply Kd.R_drewN | apply Kd.R_drew)); exact HO544.out, by repeat (first | (with_reducible first | exact HB.out | apply below_alloc | apply pw_below_drewN | apply below_drew1) | exact HB.out | exact Below.refl _ _)⟩
  · rw [if_neg c2] at H
    exact absurd H (by simp)

end Go.Proofs.Ytegelpeegbngiaa.P
-- Written by wip/px.py of this session, over the kit's print.py. Not trusted: Lean checks it.
namespace Go.Proofs.Ytegelpeegbngiaa.P
open Go.RowKit Go.Proofs.YtegelpeegbngiaaW.PrintWords Go.Proofs.YtegelpeegbngiaaW.PrintLast Go.Proofs.YtegelpeegbngiaaW.PrintMore
attribute [local go_sem] max2_int min2_int max_two min_two max_three min_three max_four min_four   -- for this text's walks alone
set_option linter.unusedVariables false
set_option linter.unusedSimpArgs false

/-! ### impl_fieldAt: the walk -/
set_option maxHeartbeats 400000 in
theorem impl_fieldAt.calls_lit (x0 : ByteArray) (x1 : ByteArray) (t : ByteArray) (B : Nat) (w : World) (hB : w.cell? ⟨B, 0, none⟩ = some (.string t)) :
    Calls Try.prog 75 #[.agg #[.string x0, .string x1], .pointer (some ⟨B, 0, none⟩)] w fun e w' => e = .returned (.bool (x0.toList == t.toList)) ∧ Below w.heap.size w w' := by
  have hlt := World.block_lt_of_cell? w ⟨B, 0, none⟩ hB
  go_enter Try.func75, Try.ntmps75
  go_wp2
  go_ret
  exact ⟨rfl, (Below.refl _ _).alloc (Nat.le_refl _) _⟩
theorem impl_fieldAt.hit (t : ByteArray) (l : List S38) (i : Nat) (h : i < l.length) (he : (l[i].f0.toList == t.toList) = true) : impl_fieldAt.from t (l.drop i) i = i := by
  rw [List.drop_eq_getElem_cons h, impl_fieldAt.from, if_pos (by simpa using he)]
theorem impl_fieldAt.step (t : ByteArray) (l : List S38) (i : Nat) (h : i < l.length) (he : (l[i].f0.toList == t.toList) = false) : impl_fieldAt.from t (l.drop i) i = impl_fieldAt.from t (l.drop (i + 1)) (i + 1) := by
  rw [List.drop_eq_getElem_cons h, impl_fieldAt.from, if_neg (by simpa using he)]
set_option maxHeartbeats 2000000 in
theorem impl_fieldAt.finds (A0 : Option Addr) (c0 : Nat) (l0 : List S38) (t : ByteArray) (B : Nat) (w : World) (hr0 : Kd.C k38 w A0 l0.length l0) (hB : w.cell? ⟨B, 0, none⟩ = some (.string t)) :
    Calls Try.prog 74 #[.slice A0 l0.length c0, .func (.func 75) #[] #[.pointer (some ⟨B, 0, none⟩)]] w fun e w' => e = .returned (.int .i64 (impl_fieldAt.from t l0 0)) ∧ Below w.heap.size w w' := by
  have hlt := World.block_lt_of_cell? w ⟨B, 0, none⟩ hB
  have hbig : l0.length ≤ 9223372036854775807 := hr0.2.1
  have HR0 := Aside0.mk hr0
  clear hr0
  go_enter Try.func74, Try.ntmps74
  go_wp2
  go_loopg [5, 8] l0.length (fun gg _ s8 wr => ∃ kk : Nat, kk ≤ l0.length ∧ l0.length - kk ≤ gg ∧ s8 = .int .i64 kk ∧ Aside0 (Below w.heap.size w wr) ∧ Aside0 (impl_fieldAt.from t (l0.drop kk) kk = impl_fieldAt.from t l0 0))
  case atStart => exact ⟨0, Nat.zero_le _, by omega, rfl, ⟨Below.refl _ w⟩, ⟨rfl⟩⟩
  case round =>
    obtain ⟨kk, hkk, hg, rfl, BW, A⟩ := hrel
    by_cases hlt2 : kk < l0.length
    · have hltz : (kk : Int) < (l0.length : Int) := by omega
      have hel : rd_T38 l0 (kk : Int) = l0[kk] := by simp [rd_T38, List.getD_eq_getElem?_getD, hlt2]
      obtain ⟨ad, e0, hx0, hx1⟩ := at_T38 (Kd.C_below HR0.out BW.out) (kk : Int) (by omega) (by omega)
      cases e0
      simp only [Int.toNat_natCast] at hx0 hx1
      have hcall := impl_fieldAt.calls_lit (rd_T38 l0 kk).f0 (rd_T38 l0 kk).f1 t B wr ((BW.out.cell (p := ⟨B, 0, none⟩) hlt).trans hB)
      cases hq : ((rd_T38 l0 (kk : Int)).f0.toList == t.toList) with
      | true =>
        rw [hq] at hcall
        have HIT := Aside0.mk (impl_fieldAt.hit t l0 kk hlt2 (by rw [← hel]; exact hq))
        clear hq hel
        go_wp2_with (refine hcall.mono ?_; rintro e w' ⟨rfl, hb'⟩)
        go_ret
        exact ⟨congrArg (fun z => Ending.returned (.int .i64 z)) (HIT.out.symm.trans A.out), BW.out.trans (hb'.mono BW.out.size)⟩
      | false =>
        rw [hq] at hcall
        have MISS := Aside0.mk (impl_fieldAt.step t l0 kk hlt2 (by rw [← hel]; exact hq))
        clear hq hel
        go_wp2_with (refine hcall.mono ?_; rintro e w' ⟨rfl, hb'⟩)
        go_roundg (l0.length - (kk + 1))
        case measure => omega
        case rel => exact ⟨kk + 1, by omega, by omega, by go_num, ⟨BW.out.trans (hb'.mono BW.out.size)⟩, ⟨by rw [← MISS.out]; exact A.out⟩⟩
    · have hltz : ¬ (kk : Int) < (l0.length : Int) := by omega
      obtain rfl : kk = l0.length := by omega
      go_wp2
      go_ret
      have e1 := A.out
      rw [List.drop_of_length_le (Nat.le_refl _)] at e1
      exact ⟨congrArg (fun z => Ending.returned (.int .i64 z)) e1, BW.out⟩
set_option maxHeartbeats 2000000 in
theorem impl_fieldAt.calls (A0 : Option Addr) (c0 : Nat) (l0 : List S38) (a1 : ByteArray) (r : Int) (w : World) (hr0 : Kd.C k38 w A0 l0.length l0) (hc0 : l0.length ≤ c0) (h : impl_fieldAt.f l0 a1 = some r) :
    Calls Try.prog 56 #[.slice A0 l0.length c0, .string a1] w fun e w' => e = .returned (.int .i64 r) ∧ Below w.heap.size w w' := by
  obtain rfl := Option.some.inj h
  have hr1 : Kd.C k38 (w.alloc (.cells #[.string a1] 9)) A0 l0.length l0 := Kd.C_below hr0 ((Below.refl _ _).alloc (Nat.le_refl _) _)
  have HF := fun hB => impl_fieldAt.finds A0 c0 l0 a1 w.heap.size (w.alloc (.cells #[.string a1] 9)) hr1 hB
  go_enter Try.func56, Try.ntmps56
  go_wp2_with fail
  refine (HF (by simp)).mono ?_
  rintro e w' ⟨rfl, hb⟩
  go_wp2
  go_ret
  exact ⟨rfl, ((Below.refl _ _).alloc (Nat.le_refl _) _).trans (hb.mono (by simp))⟩


end Go.Proofs.Ytegelpeegbngiaa.P
-- Written by wip/px.py of this session, over the kit's print.py. Not trusted: Lean checks it.
namespace Go.Proofs.Ytegelpeegbngiaa.P
open Go.RowKit Go.Proofs.YtegelpeegbngiaaW.PrintWords Go.Proofs.YtegelpeegbngiaaW.PrintLast Go.Proofs.YtegelpeegbngiaaW.PrintMore
attribute [local go_sem] max2_int min2_int max_two min_two max_three min_three max_four min_four   -- for this text's walks alone
set_option linter.unusedVariables false
set_option linter.unusedSimpArgs false

/-! ### cmp_isNaN_string: the walk -/
set_option maxHeartbeats 8000000 in
set_option maxRecDepth 100000 in
theorem cmp_isNaN_string.calls (a0 : ByteArray) (r : Bool) (w : World) (h : cmp_isNaN_string.f a0 = some r) :
    Calls Try.prog 78 #[.string a0] w fun e w' => e = .returned (.bool r) ∧ Drawn0 w w' := by
  have H : (some (a0.toList != a0.toList)) = some r := h
  clear h
  obtain rfl := Option.some.inj H
  go_enter Try.func78, Try.ntmps78
  go_wp2
  go_ret
  exact ⟨by first | rfl | (simp; done) | (simp [*]; done), by repeat (first | exact Drawn0.refl _ | apply Drawn0.step)⟩

end Go.Proofs.Ytegelpeegbngiaa.P
-- Written by wip/px.py of this session, over the kit's print.py. Not trusted: Lean checks it.
namespace Go.Proofs.Ytegelpeegbngiaa.P
open Go.RowKit Go.Proofs.YtegelpeegbngiaaW.PrintWords Go.Proofs.YtegelpeegbngiaaW.PrintLast Go.Proofs.YtegelpeegbngiaaW.PrintMore
attribute [local go_sem] max2_int min2_int max_two min_two max_three min_three max_four min_four   -- for this text's walks alone
set_option linter.unusedVariables false
set_option linter.unusedSimpArgs false

/-! ### slices_SortFunc_impl_Pair_impl_Pair: the walk -/
set_option maxHeartbeats 8000000 in
set_option maxRecDepth 100000 in
theorem slices_SortFunc_impl_Pair_impl_Pair.callsStr (a0 : ByteArray) (a1 : ByteArray) (r : Int) (w : World) (h : slices_SortFunc_impl_Pair_impl_Pair.cmpS a0 a1 = some r) :
    Calls Try.prog 59 #[.string a0, .string a1] w fun e w' => e = .returned (.int .i64 r) ∧ Drawn0 w w' := by
  have H : ((cmp_isNaN_string.f a0).bind fun t128 => ((cmp_isNaN_string.f a1).bind fun t129 => (if t128 = true then (if t129 = true then (some 0) else (some (-1))) else (if t129 = true then (some 1) else (if (Op.bytesLess a0.toList a1.toList) = true then (some (-1)) else (if (Op.bytesLess a1.toList a0.toList) = true then (some 1) else (some 0))))))) = some r := h
  clear h
  replace H := Option.bind_eq_some_iff.mp H
  obtain ⟨t128, A30, H⟩ := H
  replace H : ((cmp_isNaN_string.f a1).bind fun t129 => (if t128 = true then (if t129 = true then (some 0) else (some (-1))) else (if t129 = true then (some 1) else (if (Op.bytesLess a0.toList a1.toList) = true then (some (-1)) else (if (Op.bytesLess a1.toList a0.toList) = true then (some 1) else (some 0)))))) = some r := H
  have A3 := Aside0.mk A30
  clear A30
  replace H := Option.bind_eq_some_iff.mp H
  obtain ⟨t129, A40, H⟩ := H
  replace H : (if t128 = true then (if t129 = true then (some 0) else (some (-1))) else (if t129 = true then (some 1) else (if (Op.bytesLess a0.toList a1.toList) = true then (some (-1)) else (if (Op.bytesLess a1.toList a0.toList) = true then (some 1) else (some 0))))) = some r := H
  have A4 := Aside0.mk A40
  clear A40
  by_cases c5 : t128 = true
  · subst c5
    have H1 : (if t129 = true then (some 0) else (some (-1))) = some r := by rw [if_pos rfl] at H; exact H
    clear H
    have H := H1
    clear H1
    by_cases c6 : t129 = true
    · subst c6
      have H1 : (some 0) = some r := by rw [if_pos rfl] at H; exact H
      clear H
      have H := H1
      clear H1
      obtain rfl := Option.some.inj H
      go_enter Try.func59, Try.ntmps59
      go_wp2_with (first | ((with_reducible refine gate_callee (f := 78) rfl ?_); refine goesL_ (some 8) rfl rfl Try.func78 (by kernel_rfl) rfl #[.string a0] rfl (by (try simp only [List.map_toArray, List.map_cons, List.map_nil]); first | done | rfl | (simp only [List.length_drop, List.length_take]; rfl)) ?_; (with_reducible refine (cmp_isNaN_string.calls a0 true _ A3.out).mono ?_); rintro e w' ⟨rfl, ⟨nd, rfl⟩⟩; refine ⟨_, rfl, ?_⟩) | ((with_reducible refine gate_callee (f := 78) rfl ?_); refine goesL_ (some 10) rfl rfl Try.func78 (by kernel_rfl) rfl #[.string a1] rfl (by (try simp only [List.map_toArray, List.map_cons, List.map_nil]); first | done | rfl | (simp only [List.length_drop, List.length_take]; rfl)) ?_; (with_reducible refine (cmp_isNaN_string.calls a1 true _ A4.out).mono ?_); rintro e w' ⟨rfl, ⟨nd, rfl⟩⟩; refine ⟨_, rfl, ?_⟩))
      go_ret
      exact ⟨by first | rfl | (simp; done) | (simp [*]; done), by repeat (first | exact Drawn0.refl _ | apply Drawn0.step)⟩
    · replace c6 := Bool.eq_false_iff.mpr c6
      subst c6
      have H1 : (some (-1)) = some r := by rw [if_neg (show ¬ (false = true) by decide)] at H; exact H
      clear H
      have H := H1
      clear H1
      obtain rfl := Option.some.inj H
      go_enter Try.func59, Try.ntmps59
      go_wp2_with (first | ((with_reducible refine gate_callee (f := 78) rfl ?_); refine goesL_ (some 8) rfl rfl Try.func78 (by kernel_rfl) rfl #[.string a0] rfl (by (try simp only [List.map_toArray, List.map_cons, List.map_nil]); first | done | rfl | (simp only [List.length_drop, List.length_take]; rfl)) ?_; (with_reducible refine (cmp_isNaN_string.calls a0 true _ A3.out).mono ?_); rintro e w' ⟨rfl, ⟨nd, rfl⟩⟩; refine ⟨_, rfl, ?_⟩) | ((with_reducible refine gate_callee (f := 78) rfl ?_); refine goesL_ (some 10) rfl rfl Try.func78 (by kernel_rfl) rfl #[.string a1] rfl (by (try simp only [List.map_toArray, List.map_cons, List.map_nil]); first | done | rfl | (simp only [List.length_drop, List.length_take]; rfl)) ?_; (with_reducible refine (cmp_isNaN_string.calls a1 false _ A4.out).mono ?_); rintro e w' ⟨rfl, ⟨nd, rfl⟩⟩; refine ⟨_, rfl, ?_⟩))
      go_ret
      exact ⟨by first | rfl | (simp; done) | (simp [*]; done), by repeat (first | exact Drawn0.refl _ | apply Drawn0.step)⟩
  · replace c5 := Bool.eq_false_iff.mpr c5
    subst c5
    have H1 : (if t129 = true then (some 1) else (if (Op.bytesLess a0.toList a1.toList) = true then (some (-1)) else (if (Op.bytesLess a1.toList a0.toList) = true then (some 1) else (some 0)))) = some r := by rw [if_neg (show ¬ (false = true) by decide)] at H; exact H
    clear H
    have H := H1
    clear H1
    by_cases c7 : t129 = true
    · subst c7
      have H1 : (some 1) = some r := by rw [if_pos rfl] at H; exact H
      clear H
      have H := H1
      clear H1
      obtain rfl := Option.some.inj H
      go_enter Try.func59, Try.ntmps59
      go_wp2_with (first | ((with_reducible refine gate_callee (f := 78) rfl ?_); refine goesL_ (some 8) rfl rfl Try.func78 (by kernel_rfl) rfl #[.string a0] rfl (by (try simp only [List.map_toArray, List.map_cons, List.map_nil]); first | done | rfl | (simp only [List.length_drop, List.length_take]; rfl)) ?_; (with_reducible refine (cmp_isNaN_string.calls a0 false _ A3.out).mono ?_); rintro e w' ⟨rfl, ⟨nd, rfl⟩⟩; refine ⟨_, rfl, ?_⟩) | ((with_reducible refine gate_callee (f := 78) rfl ?_); refine goesL_ (some 10) rfl rfl Try.func78 (by kernel_rfl) rfl #[.string a1] rfl (by (try simp only [List.map_toArray, List.map_cons, List.map_nil]); first | done | rfl | (simp only [List.length_drop, List.length_take]; rfl)) ?_; (with_reducible refine (cmp_isNaN_string.calls a1 true _ A4.out).mono ?_); rintro e w' ⟨rfl, ⟨nd, rfl⟩⟩; refine ⟨_, rfl, ?_⟩))
      go_ret
      exact ⟨by first | rfl | (simp; done) | (simp [*]; done), by repeat (first | exact Drawn0.refl _ | apply Drawn0.step)⟩
    · replace c7 := Bool.eq_false_iff.mpr c7
      subst c7
      have H1 : (if (Op.bytesLess a0.toList a1.toList) = true then (some (-1)) else (if (Op.bytesLess a1.toList a0.toList) = true then (some 1) else (some 0))) = some r := by rw [if_neg (show ¬ (false = true) by decide)] at H; exact H
      clear H
      have H := H1
      clear H1
      by_cases c8 : (Op.bytesLess a0.toList a1.toList) = true
      · rw [if_pos c8] at H
        have c8b0 : (Op.bytesLess a0.toList a1.toList) = true := c8
        have c8q : (a1.toList == a0.toList) = false := X.bl_ne c8b0
        have c8q : (a1.toList == a0.toList) = false := X.bl_ne c8b0
        clear c8
        obtain rfl := Option.some.inj H
        go_enter Try.func59, Try.ntmps59
        go_wp2_with (first | ((with_reducible refine gate_callee (f := 78) rfl ?_); refine goesL_ (some 8) rfl rfl Try.func78 (by kernel_rfl) rfl #[.string a0] rfl (by (try simp only [List.map_toArray, List.map_cons, List.map_nil]); first | done | rfl | (simp only [List.length_drop, List.length_take]; rfl)) ?_; (with_reducible refine (cmp_isNaN_string.calls a0 false _ A3.out).mono ?_); rintro e w' ⟨rfl, ⟨nd, rfl⟩⟩; refine ⟨_, rfl, ?_⟩) | ((with_reducible refine gate_callee (f := 78) rfl ?_); refine goesL_ (some 10) rfl rfl Try.func78 (by kernel_rfl) rfl #[.string a1] rfl (by (try simp only [List.map_toArray, List.map_cons, List.map_nil]); first | done | rfl | (simp only [List.length_drop, List.length_take]; rfl)) ?_; (with_reducible refine (cmp_isNaN_string.calls a1 false _ A4.out).mono ?_); rintro e w' ⟨rfl, ⟨nd, rfl⟩⟩; refine ⟨_, rfl, ?_⟩))
        go_ret
        exact ⟨by first | rfl | (simp; done) | (simp [*]; done), by repeat (first | exact Drawn0.refl _ | apply Drawn0.step)⟩
      · rw [if_neg c8] at H
        have c8b0 : (Op.bytesLess a0.toList a1.toList) = false := by simpa using c8
        try have c8q : (a1.toList == a0.toList) = true := X.bl_eq (by assumption) c8b0
        try have c8q : (a1.toList == a0.toList) = true := X.bl_eq (by assumption) c8b0
        clear c8
        by_cases c9 : (Op.bytesLess a1.toList a0.toList) = true
        · rw [if_pos c9] at H
          have c9b0 : (Op.bytesLess a1.toList a0.toList) = true := c9
          have c9q : (a0.toList == a1.toList) = false := X.bl_ne c9b0
          have c9q : (a0.toList == a1.toList) = false := X.bl_ne c9b0
          clear c9
          obtain rfl := Option.some.inj H
          go_enter Try.func59, Try.ntmps59
          go_wp2_with (first | ((with_reducible refine gate_callee (f := 78) rfl ?_); refine goesL_ (some 8) rfl rfl Try.func78 (by kernel_rfl) rfl #[.string a0] rfl (by (try simp only [List.map_toArray, List.map_cons, List.map_nil]); first | done | rfl | (simp only [List.length_drop, List.length_take]; rfl)) ?_; (with_reducible refine (cmp_isNaN_string.calls a0 false _ A3.out).mono ?_); rintro e w' ⟨rfl, ⟨nd, rfl⟩⟩; refine ⟨_, rfl, ?_⟩) | ((with_reducible refine gate_callee (f := 78) rfl ?_); refine goesL_ (some 10) rfl rfl Try.func78 (by kernel_rfl) rfl #[.string a1] rfl (by (try simp only [List.map_toArray, List.map_cons, List.map_nil]); first | done | rfl | (simp only [List.length_drop, List.length_take]; rfl)) ?_; (with_reducible refine (cmp_isNaN_string.calls a1 false _ A4.out).mono ?_); rintro e w' ⟨rfl, ⟨nd, rfl⟩⟩; refine ⟨_, rfl, ?_⟩))
          go_ret
          exact ⟨by first | rfl | (simp; done) | (simp [*]; done), by repeat (first | exact Drawn0.refl _ | apply Drawn0.step)⟩
        · rw [if_neg c9] at H
          have c9b0 : (Op.bytesLess a1.toList a0.toList) = false := by simpa using c9
          try have c9q : (a0.toList == a1.toList) = true := X.bl_eq (by assumption) c9b0
          try have c9q : (a0.toList == a1.toList) = true := X.bl_eq (by assumption) c9b0
          clear c9
          obtain rfl := Option.some.inj H
          go_enter Try.func59, Try.ntmps59
          go_wp2_with (first | ((with_reducible refine gate_callee (f := 78) rfl ?_); refine goesL_ (some 8) rfl rfl Try.func78 (by kernel_rfl) rfl #[.string a0] rfl (by (try simp only [List.map_toArray, List.map_cons, List.map_nil]); first | done | rfl | (simp only [List.length_drop, List.length_take]; rfl)) ?_; (with_reducible refine (cmp_isNaN_string.calls a0 false _ A3.out).mono ?_); rintro e w' ⟨rfl, ⟨nd, rfl⟩⟩; refine ⟨_, rfl, ?_⟩) | ((with_reducible refine gate_callee (f := 78) rfl ?_); refine goesL_ (some 10) rfl rfl Try.func78 (by kernel_rfl) rfl #[.string a1] rfl (by (try simp only [List.map_toArray, List.map_cons, List.map_nil]); first | done | rfl | (simp only [List.length_drop, List.length_take]; rfl)) ?_; (with_reducible refine (cmp_isNaN_string.calls a1 false _ A4.out).mono ?_); rintro e w' ⟨rfl, ⟨nd, rfl⟩⟩; refine ⟨_, rfl, ?_⟩))
          go_ret
          exact ⟨by first | rfl | (simp; done) | (simp [*]; done), by repeat (first | exact Drawn0.refl _ | apply Drawn0.step)⟩

set_option maxHeartbeats 800000 in
theorem slices_SortFunc_impl_Pair_impl_Pair.callsPair (x0 x1 y0 y1 : ByteArray) (r : Int) (w : World) (h : slices_SortFunc_impl_Pair_impl_Pair.cmpS x0 y0 = some r) :
    Calls Try.prog 58 #[.agg #[.string x0, .string x1], .agg #[.string y0, .string y1]] w fun e w' => e = .returned (.int .i64 r) ∧ ∃ q os', w' = Go.Sort.grow (w.drewN q) os' := by
  have hu49 := h
  go_enter Try.func58, Try.ntmps58
  go_wp2_with (refine (slices_SortFunc_impl_Pair_impl_Pair.callsStr _ _ r _ h).mono ?_; rintro e w' ⟨rfl, ⟨nd, rfl⟩⟩)
  go_ret
  exact ⟨rfl, nd, #[Obj.cells #[Value.string x0, Value.string x1] 38, Obj.cells #[Value.string y0, Value.string y1] 38], by rw [Go.Sort.alloc_eq_grow, Go.Sort.alloc_eq_grow, Go.Sort.grow_grow]; rfl⟩
theorem slices_SortFunc_impl_Pair_impl_Pair.callsCmp (x y : S38) (w : World) : Calls Try.prog 58 (#[.agg (slices_SortFunc_impl_Pair_impl_Pair.enc x).toArray, .agg (slices_SortFunc_impl_Pair_impl_Pair.enc y).toArray] ++ #[]) w fun e w' => e = .returned (.int .i64 (slices_SortFunc_impl_Pair_impl_Pair.cf x y)) ∧ ∃ q os', w' = Go.Sort.grow (w.drewN q) os' :=
  slices_SortFunc_impl_Pair_impl_Pair.callsPair x.f0 x.f1 y.f0 y.f1 _ w (slices_SortFunc_impl_Pair_impl_Pair.cmpS_eq x y)

set_option maxHeartbeats 1000000 in
theorem slices_SortFunc_impl_Pair_impl_Pair.calls (P0_ : Nat → Prop) (u9000_ : Value) (l0 : List S38) (r : List S38) (w0 w : World) (hB : Below w0.heap.size w0 w) (ho0 : Kd.R k38 38 w w0.heap.size P0_ u9000_ l0) (h : slices_SortFunc_impl_Pair_impl_Pair.f l0 = some r) :
    Calls Try.prog 57 #[u9000_, .func (.func 58) #[] #[]] w fun e w' => e = .returned (.tuple #[]) ∧ Kd.R k38 38 w' w0.heap.size (fun k_ => (P0_ k_ ∨ w.heap.size ≤ k_)) u9000_ r ∧ Below w0.heap.size w0 w' ∧ Kept w w' (fun k_ => P0_ k_) := by
  unfold slices_SortFunc_impl_Pair_impl_Pair.f at h
  split at h
  case isFalse => cases h
  case isTrue hc =>
  obtain ⟨hne, hpw, hsz⟩ := hc
  obtain rfl := Option.some.inj h
  clear h
  have hv : u9000_ ≠ .slice none 0 0 := fun e => by
    obtain ⟨inner, hown⟩ := Kd.R_own ho0
    rcases hown.2 with ⟨_, hn⟩ | ⟨g, cap, cur, e', _⟩
    · exact hne (List.length_eq_zero_iff.1 hn)
    · rw [e] at e'; cases e'
  obtain ⟨g, cap, rfl, hg, hlt, hP, hH, hput⟩ := X.sort_row (d := k38) (enc := slices_SortFunc_impl_Pair_impl_Pair.enc) (fun _ => rfl) (by decide) slices_SortFunc_impl_Pair_impl_Pair.M_iff ho0 hv
  have hO : Go.Sort.SWO (Go.Proofs.ltOf slices_SortFunc_impl_Pair_impl_Pair.cf) := by rw [slices_SortFunc_impl_Pair_impl_Pair.ltOf_cf]; exact slices_SortFunc_impl_Pair_impl_Pair.swo
  have hc := AnyQ.slices_SortFunc Try.laysSort 2 Try.isAgg38 Try.sizeOf38 slices_SortFunc_impl_Pair_impl_Pair.enc (fun _ => rfl) (fun x v hv => by
    simp only [slices_SortFunc_impl_Pair_impl_Pair.enc, List.mem_cons, List.not_mem_nil, or_false] at hv
    rcases hv with rfl | rfl <;> rfl) slices_SortFunc_impl_Pair_impl_Pair.cf hO 58 #[] g 0 cap l0.toArray w (enters_of Try.func58 (by kernel_rfl) rfl) (fun m os dk _ x y => slices_SortFunc_impl_Pair_impl_Pair.callsCmp x y _) hH hlt (by simpa using hsz)
  change Calls Try.prog 57 _ _ _ at hc
  have hsize : l0.toArray.size = l0.length := by simp
  rw [hsize] at hc
  refine hc.mono ?_
  rintro e w' ⟨rfl, d', n, os, hp, hs, rfl⟩
  rw [slices_SortFunc_impl_Pair_impl_Pair.ltOf_cf] at hs
  rw [← hsize] at hp hs
  have hd := X.sorted_eq slices_SortFunc_impl_Pair_impl_Pair.swo hp hs (fun x hx y hy h h' => slices_SortFunc_impl_Pair_impl_Pair.uniq hpw x hx y hy (slices_SortFunc_impl_Pair_impl_Pair.lt_eq h h'))
  have hR := hput n (slices_SortFunc_impl_Pair_impl_Pair.sorted l0) (by simp [slices_SortFunc_impl_Pair_impl_Pair.sorted])
  have hd' : d' = (slices_SortFunc_impl_Pair_impl_Pair.sorted l0).toArray := by
    rw [slices_SortFunc_impl_Pair_impl_Pair.sorted, ← hd]
  have hB1 : Below w0.heap.size w0 (Go.Sort.putRowK slices_SortFunc_impl_Pair_impl_Pair.enc 2 (Go.Sort.ahead w n) g 0 d') := Go.Lib.below_putRow hB hg
  rw [← hd'] at hR
  have hG := X.grow_below (Go.Sort.putRowK slices_SortFunc_impl_Pair_impl_Pair.enc 2 (Go.Sort.ahead w n) g 0 d') os
  exact ⟨rfl, Kd.R_mono (Kd.R_below hR hG) (fun k hk => .inl hk), below_step hB1 hG, X.kept_put P0_ hP⟩


end Go.Proofs.Ytegelpeegbngiaa.P
-- Written by wip/px.py of this session, over the kit's print.py. Not trusted: Lean checks it.
namespace Go.Proofs.Ytegelpeegbngiaa.P
open Go.RowKit Go.Proofs.YtegelpeegbngiaaW.PrintWords Go.Proofs.YtegelpeegbngiaaW.PrintLast Go.Proofs.YtegelpeegbngiaaW.PrintMore
attribute [local go_sem] max2_int min2_int max_two min_two max_three min_three max_four min_four   -- for this text's walks alone
set_option linter.unusedVariables false
set_option linter.unusedSimpArgs false

/-! ### impl_FieldsPut: the walk -/
set_option maxHeartbeats 8000000 in
set_option maxRecDepth 100000 in
theorem impl_FieldsPut.calls (k : Nat) (A0 : Option Addr) (c0 : Nat) (l0 : List (S38)) (a1_0 : ByteArray) (a1_1 : ByteArray) (r1 : List (S38)) (r2 : Bool) (r3 : Bool) (w : World) (hr0 : Kd.C k38 w A0 l0.length l0) (hc0 : l0.length ≤ c0) (h : impl_FieldsPut.f k l0 a1_0 a1_1 = some (r1, r2, r3)) :
    Calls Try.prog 24 #[.slice A0 l0.length c0, .agg #[.string a1_0, .string a1_1]] w fun e w' => ∃ v0_ : Value, e = .returned (.tuple #[v0_, .bool r2, .bool r3]) ∧ Kd.R k38 38 w' w.heap.size (fun _ => True) v0_ r1 ∧ Below w.heap.size w w' := by
  have hu38 := Try.underlying38
  have HR0 := Aside0.mk hr0
  have HC0 := Aside0.mk hc0
  clear hr0 hc0
  have HB := Aside0.mk (Below.refl w.heap.size w)
  have H : ((impl_FieldsOk.f k l0).bind fun t546 => (if t546 = true then ((impl_copiedPairs.f l0).bind fun t550 => ((impl_fieldAt.f t550 a1_0).bind fun t553 => (if t553 ≥ 0 then (if 0 ≤ t553 then (if t553 < (t550.length : Int) then (impl_FieldsPut.j0 k l0 (t550.set (t553 : Int).toNat (⟨a1_0, a1_1⟩ : S38)) t553) else (none)) else (none)) else (if t550.length < 4398046511104 then (impl_FieldsPut.j0 k l0 (t550 ++ [(⟨a1_0, a1_1⟩ : S38)]) t553) else (none))))) else (some ((([] : List (S38))), false, false)))) = some (r1, r2, r3) := h
  clear h
  replace H := Option.bind_eq_some_iff.mp H
  obtain ⟨t546, A30, H⟩ := H
  replace H : (if t546 = true then ((impl_copiedPairs.f l0).bind fun t550 => ((impl_fieldAt.f t550 a1_0).bind fun t553 => (if t553 ≥ 0 then (if 0 ≤ t553 then (if t553 < (t550.length : Int) then (impl_FieldsPut.j0 k l0 (t550.set (t553 : Int).toNat (⟨a1_0, a1_1⟩ : S38)) t553) else (none)) else (none)) else (if t550.length < 4398046511104 then (impl_FieldsPut.j0 k l0 (t550 ++ [(⟨a1_0, a1_1⟩ : S38)]) t553) else (none))))) else (some ((([] : List (S38))), false, false))) = some (r1, r2, r3) := H
  have A3 := Aside0.mk A30
  clear A30
  by_cases c4 : t546 = true
  · subst c4
    have H1 : ((impl_copiedPairs.f l0).bind fun t550 => ((impl_fieldAt.f t550 a1_0).bind fun t553 => (if t553 ≥ 0 then (if 0 ≤ t553 then (if t553 < (t550.length : Int) then (impl_FieldsPut.j0 k l0 (t550.set (t553 : Int).toNat (⟨a1_0, a1_1⟩ : S38)) t553) else (none)) else (none)) else (if t550.length < 4398046511104 then (impl_FieldsPut.j0 k l0 (t550 ++ [(⟨a1_0, a1_1⟩ : S38)]) t553) else (none))))) = some (r1, r2, r3) := by rw [if_pos rfl] at H; exact H
    clear H
    have H := H1
    clear H1
    replace H := Option.bind_eq_some_iff.mp H
    obtain ⟨t550, A50, H⟩ := H
    replace H : ((impl_fieldAt.f t550 a1_0).bind fun t553 => (if t553 ≥ 0 then (if 0 ≤ t553 then (if t553 < (t550.length : Int) then (impl_FieldsPut.j0 k l0 (t550.set (t553 : Int).toNat (⟨a1_0, a1_1⟩ : S38)) t553) else (none)) else (none)) else (if t550.length < 4398046511104 then (impl_FieldsPut.j0 k l0 (t550 ++ [(⟨a1_0, a1_1⟩ : S38)]) t553) else (none)))) = some (r1, r2, r3) := H
    have A5 := Aside0.mk A50
    clear A50
    replace H := Option.bind_eq_some_iff.mp H
    obtain ⟨t553, A60, H⟩ := H
    replace H : (if t553 ≥ 0 then (if 0 ≤ t553 then (if t553 < (t550.length : Int) then (impl_FieldsPut.j0 k l0 (t550.set (t553 : Int).toNat (⟨a1_0, a1_1⟩ : S38)) t553) else (none)) else (none)) else (if t550.length < 4398046511104 then (impl_FieldsPut.j0 k l0 (t550 ++ [(⟨a1_0, a1_1⟩ : S38)]) t553) else (none))) = some (r1, r2, r3) := H
    have A6 := Aside0.mk A60
    clear A60
    have HC7 := Aside0.mk H
    clear H
    go_enter Try.func24, Try.ntmps24
    go_upto_if 20 with (first | ((with_reducible refine gate_dst (N := 3) rfl ?_); refine box_event ?hg (N := 3) ?hd (cs := #[.string a1_0, .string a1_1]) (t := 38) ?hr ?_; (case hd => rfl); (case hg => rfl); (case hr => first | (go_simp; done) | (go_simp; rfl)); intro gb545 hg w8 hbox hb; have n0_ := Aside0.mk (below_step (by repeat (first | (with_reducible first | exact HB.out | apply below_alloc | apply pw_below_drewN | apply below_drew1) | exact HB.out | exact Below.refl _ _)) hb); have n1_ := Aside0.mk (hbox); have n2_ := Aside0.mk ((by rw [hg]; exact (below_size (by repeat (first | (with_reducible first | exact HB.out | apply below_alloc | apply pw_below_drewN | apply below_drew1) | exact HB.out | exact Below.refl _ _))) : w.heap.size ≤ gb545)); have n3_ := Aside0.mk ((by rw [hg]; exact (below_size (by repeat (first | (with_reducible first | exact HB.out | apply below_alloc | apply pw_below_drewN | apply below_drew1) | exact HB.out | exact Below.refl _ _))) : w.heap.size ≤ gb545)); clear HB; have HB := n0_; have BK545 := n1_; have GW545 := n2_; have GE545 := n3_; clear n0_ n1_ n2_ n3_; clear hb hbox hg) | ((with_reducible refine gate_callee (f := 30) rfl ?_); refine goesL_ (some 10) rfl rfl Try.func30 (by kernel_rfl) rfl #[.slice A0 l0.length c0] rfl (by (try simp only [List.map_toArray, List.map_cons, List.map_nil]); first | done | rfl | (simp only [List.length_drop, List.length_take]; rfl)) ?_; (with_reducible refine (impl_FieldsOk.calls k _ _ l0 true _ ?side1 ?side2 A3.out).mono ?_); (case side1 => repeat (first | exact (Kd.C_below HR0.out HB.out) | (with_reducible refine Kd.C_alloc ?_ _) | (with_reducible refine Kd.C_drewN ?_ _) | (with_reducible refine Kd.C_drew ?_))); (case side2 => exact HC0.out); rintro e w9 ⟨rfl, hb⟩; refine ⟨_, rfl, ?_⟩; have n0_ := Aside0.mk (blk_below (g := gb545) (o := .cells #[.string a1_0, .string a1_1] 38 (0, 0)) (by (with_reducible repeat (first | refine blk_drewN ?_ _ | refine blk_drew ?_ | refine blk_alloc ?_ _)); exact BK545.out) hb); have n1_ := Aside0.mk (below_step (by repeat (first | (with_reducible first | exact HB.out | apply below_alloc | apply pw_below_drewN | apply below_drew1 | refine below_set ?_ GE545.out) | exact HB.out)) hb); clear BK545; clear HB; have BK545 := n0_; have HB := n1_; clear n0_ n1_; (try clear hb); (try clear hb2); (try clear hk); (try clear hi)) | ((with_reducible refine gate_callee (f := 55) rfl ?_); refine goesL_ (some 14) rfl rfl Try.func55 (by kernel_rfl) rfl #[.slice A0 l0.length c0] rfl (by (try simp only [List.map_toArray, List.map_cons, List.map_nil]); first | done | rfl | (simp only [List.length_drop, List.length_take]; rfl)) ?_; (with_reducible refine (impl_copiedPairs.calls _ _ l0 t550 _ ?side1 ?side2 A5.out).mono ?_); (case side1 => repeat (first | exact (Kd.C_below HR0.out HB.out) | (with_reducible refine Kd.C_alloc ?_ _) | (with_reducible refine Kd.C_drewN ?_ _) | (with_reducible refine Kd.C_drew ?_))); (case side2 => exact HC0.out); rintro e w10 ⟨v551, rfl, ho0, hb⟩; refine ⟨_, rfl, ?_⟩; have n0_ := Aside0.mk (Kd.R_lower (Kd.R_newB ho0 (g := gb545) (o := .cells #[.string a1_0, .string a1_1] 38 (0, 0)) (by (with_reducible repeat (first | refine blk_drewN ?_ _ | refine blk_drew ?_ | refine blk_alloc ?_ _)); exact BK545.out)) (below_size (by repeat (first | (with_reducible first | exact HB.out | apply below_alloc | apply pw_below_drewN | apply below_drew1 | refine below_set ?_ GE545.out) | exact HB.out)))); have n1_ := Aside0.mk (blk_below (g := gb545) (o := .cells #[.string a1_0, .string a1_1] 38 (0, 0)) (by (with_reducible repeat (first | refine blk_drewN ?_ _ | refine blk_drew ?_ | refine blk_alloc ?_ _)); exact BK545.out) hb); have n2_ := Aside0.mk (below_step (by repeat (first | (with_reducible first | exact HB.out | apply below_alloc | apply pw_below_drewN | apply below_drew1 | refine below_set ?_ GE545.out) | exact HB.out)) hb); clear BK545; clear HB; have HO552 := n0_; have BK545 := n1_; have HB := n2_; clear n0_ n1_ n2_; (try clear hb); (try clear hb2); (try clear hk); (try clear hi); (try clear ho0); have hcz11_0 : w10.cell? ⟨gb545, 0, none⟩ = some (.string a1_0) := (blk_cell BK545.out 0).trans rfl; have hcz11_1 : w10.cell? ⟨gb545, 1, none⟩ = some (.string a1_1) := (blk_cell BK545.out 1).trans rfl; have hfz11_0 := blk_frozen BK545.out 0; have hfz11_1 := blk_frozen BK545.out 1; obtain ⟨Ao12, co12, eo12⟩ := Kd.R_slice HO552.out; subst eo12) | ((with_reducible refine gate_callee (f := 56) rfl ?_); refine goesL_ (some 18) rfl rfl Try.func56 (by kernel_rfl) rfl #[.slice Ao12 t550.length co12, .string a1_0] rfl (by (try simp only [List.map_toArray, List.map_cons, List.map_nil]); first | done | rfl | (simp only [List.length_drop, List.length_take]; rfl)) ?_; (with_reducible refine (impl_fieldAt.calls _ _ t550 a1_0 t553 _ ?side1 ?side2 A6.out).mono ?_); (case side1 => repeat (first | exact (Kd.R_reads' HO552.out).2.2 | (with_reducible refine Kd.C_alloc ?_ _) | (with_reducible refine Kd.C_drewN ?_ _) | (with_reducible refine Kd.C_drew ?_))); (case side2 => exact (Kd.R_reads' HO552.out).2.1); rintro e w13 ⟨rfl, hb⟩; refine ⟨_, rfl, ?_⟩; have n0_ := Aside0.mk (Kd.R_below (by (with_reducible repeat (first | apply Kd.R_alloc | apply Kd.R_drewN | apply Kd.R_drew)); exact HO552.out) hb); have n1_ := Aside0.mk (blk_below (g := gb545) (o := .cells #[.string a1_0, .string a1_1] 38 (0, 0)) (by (with_reducible repeat (first | refine blk_drewN ?_ _ | refine blk_drew ?_ | refine blk_alloc ?_ _)); exact BK545.out) hb); have n2_ := Aside0.mk (below_step (by repeat (first | (with_reducible first | exact HB.out | apply below_alloc | apply pw_below_drewN | apply below_drew1 | refine below_set ?_ GE545.out) | exact HB.out)) hb); clear HO552; clear BK545; clear HB; have HO552 := n0_; have BK545 := n1_; have HB := n2_; clear n0_ n1_ n2_; (try clear hb); (try clear hb2); (try clear hk); (try clear hi)))
    (try simp only [Act.put, List.setIfInBounds_toArray, List.set_cons_zero, List.set_cons_succ])
    go_cut [7] (fun v7 wc => ∃ (kq : Nat) (x7_6 : List (S38)) (x546000_6 : ByteArray) (x546001_6 : ByteArray), Aside0 (impl_FieldsPut.j0 kq l0 x7_6 t553 = some (r1, r2, r3)) ∧ Aside0 (kq ≤ k) ∧ Aside0 (Kd.R k38 38 wc w.heap.size (fun k_ => k_ ≠ gb545) v7 x7_6) ∧ Aside0 (wc.heap[gb545]? = some (.cells #[.string x546000_6, .string x546001_6] 38 (0, 0))) ∧ Aside0 (Below w.heap.size w wc))
    case first =>
      have H := HC7.out
      clear HC7
      by_cases c14 : t553 ≥ 0
      · rw [if_pos c14] at H
        have c14b0 : decide (0 ≤ t553) = true := decide_eq_true c14
        clear c14
        (first | rw [c14b0] | (simp only [i64_w, i32_w]; rw [c14b0]) | skip)
        by_cases c15 : 0 ≤ t553
        · rw [if_pos c15] at H
          have c15b0 : decide (0 ≤ t553) = true := decide_eq_true c15
          clear c15
          by_cases c16 : t553 < (t550.length : Int)
          · rw [if_pos c16] at H
            have c16b0 : decide (t553 < (t550.length : Int)) = true := decide_eq_true c16
            clear c16
            obtain ⟨y554, hy554⟩ : ∃ y_ : List (S38), y_ = (t550.set (t553 : Int).toNat (⟨a1_0, a1_1⟩ : S38)) := ⟨_, rfl⟩
            replace H : (impl_FieldsPut.j0 k l0 y554 t553) = some (r1, r2, r3) := by first | (rw [hy554]; with_reducible exact H) | (have H2_ := (Option.bind_some _ _).symm.trans H; rw [hy554]; with_reducible exact H2_) | (have H2_ := (Option.bind_some _ _).symm.trans H; with_reducible exact H2_) | with_reducible exact H | (rw [hy554]; exact H) | exact H
            have Ny554 := Aside0.mk hy554
            clear hy554
            have H' := Aside0.mk H
            clear H
            have hcz18_0 : w13.cell? ⟨gb545, 0, none⟩ = some (.string a1_0) := (blk_cell BK545.out 0).trans rfl
            have hcz18_1 : w13.cell? ⟨gb545, 1, none⟩ = some (.string a1_1) := (blk_cell BK545.out 1).trans rfl
            have hfz18_0 := blk_frozen BK545.out 0
            have hfz18_1 := blk_frozen BK545.out 1
            have p17 : 0 ≤ (t553 : Int) := of_decide_eq_true (by first | (with_reducible assumption) | assumption)
            have q17 : (t553 : Int) < ((t550.length : Int) : Int) := of_decide_eq_true (by first | (with_reducible assumption) | assumption)
            obtain ⟨go17, co17, eo17, gb17, gl17, cl17, HG17⟩ := Kd.R_form HO552.out (by omega)
            (first | cases eo17 | (injection eo17 with ea_ en_ ec_; (first | subst ea_ | (injection ea_ with ea_; subst ea_)); subst ec_; clear en_))
            have GB17 := Aside0.mk gb17
            have GG17 := Aside0.mk HG17
            clear gb17 gl17 HG17
            obtain ⟨ce17, hcl17, hM17, hcc17, hfr17⟩ := Kd.R_elem HO552.out z38 (t553 : Int) p17 q17
            obtain rfl := k38_openM hM17
            have hx17_0 : w13.cell? ⟨go17, (t553 : Int).toNat * 2, none⟩ = some (.string ((rd_T38 t550 t553).f0)) := hcc17 0 _ rfl
            have hx17_1 : w13.cell? ⟨go17, (t553 : Int).toNat * 2 + 1, none⟩ = some (.string ((rd_T38 t550 t553).f1)) := hcc17 1 _ rfl
            have hf17_0 : w13.frozen? ⟨go17, (t553 : Int).toNat * 2, none⟩ = false := hfr17 0
            have hf17_1 : w13.frozen? ⟨go17, (t553 : Int).toNat * 2 + 1, none⟩ = false := hfr17 1
            clear hcl17 hcc17 hfr17 hM17
            replace p17 := eq_true p17
            replace q17 := eq_true q17
            have n_ := Aside0.mk (Kd.R_mono (ok' := (fun k_ => k_ ≠ gb545)) HO552.out (fun k_ hk => hk.2))
            clear HO552
            have HO552 := n_
            clear n_
            have HX19 := Aside0.mk (show Kd.R k38 38 w13 w.heap.size (fun k_ => k_ ≠ gb545) (.slice (some ⟨go17, 0, none⟩) t550.length co12) t550 from (by (with_reducible repeat (first | apply Kd.R_alloc | apply Kd.R_drewN | apply Kd.R_drew)); exact HO552.out))
            obtain ⟨ce19, hcl19, hM19, hcc19, hfr19⟩ := Kd.R_elem HX19.out z38 (t553 : Int) (of_decide_eq_true (by first | (with_reducible assumption) | assumption)) (by have h_ : (t553 : Int) < ((t550.length : Int) : Int) := of_decide_eq_true (by first | (with_reducible assumption) | assumption); first | exact h_ | (have e_ := (Kd.R_reads' HO552.out).1; omega) | simpa using h_)
            obtain rfl := k38_openM hM19
            have HP19 := Kd.R_seg HX19.out (t553 : Int) (of_decide_eq_true (by first | (with_reducible assumption) | assumption)) (by have h_ : (t553 : Int) < ((t550.length : Int) : Int) := of_decide_eq_true (by first | (with_reducible assumption) | assumption); first | exact h_ | (have e_ := (Kd.R_reads' HO552.out).1; omega) | simpa using h_) (seg := [.string a1_0, .string a1_1]) (j := 0) hcl19 hcc19 (show 2 ≤ 2 from by decide) (x' := (⟨a1_0, a1_1⟩ : S38)) (k38_mkM _ _ _ (⟨a1_0, a1_1⟩ : S38) ) (fun _ hk => hk)
            have hx19_0 := hcc19 0 _ rfl
            (try simp only [show (k38).sz = 2 from rfl, Nat.mul_one, Nat.add_zero] at hx19_0)
            have hf19_0 := hfr19 0
            (try simp only [show (k38).sz = 2 from rfl, Nat.mul_one, Nat.add_zero] at hf19_0)
            have hx19_1 := hcc19 1 _ rfl
            (try simp only [show (k38).sz = 2 from rfl, Nat.mul_one, Nat.add_zero] at hx19_1)
            have hf19_1 := hfr19 1
            (try simp only [show (k38).sz = 2 from rfl, Nat.mul_one, Nat.add_zero] at hf19_1)
            clear hcl19 hcc19 hfr19 hM19
            go_wp2_with (first | ((with_reducible refine gate_store (t := 38) (p := 24) rfl ?_); refine store_event (t := 38) (p := 24) (v := ?vo_w20) (w1 := ((w13.setCell ⟨go17, (t553 : Int).toNat * 2, none⟩ (.string a1_0)).setCell ⟨go17, (t553 : Int).toNat * 2 + 1, none⟩ (.string a1_1))) ?hg ?ho ?hn ?hr ?_; (case ho => rfl); (case hg => rfl); (case hn => rfl); (case hr => first | (go_simp; done) | (go_simp; rfl)); intro w20 hw; have hg : w13.grownBy w20 (some go17) := (by rw [hw]; exact HP19.2); have hp_ : Kd.R k38 38 w20 w.heap.size (fun k_ => k_ ≠ gb545) (.slice (some ⟨go17, 0, none⟩) t550.length co12) y554 := (by rw [hw, Ny554.out]; exact HP19.1); clear HP19; have n0_ := Aside0.mk (blk_grown (g := gb545) (o := .cells #[.string a1_0, .string a1_1] 38 (0, 0)) (by (with_reducible repeat (first | refine blk_drewN ?_ _ | refine blk_drew ?_ | refine blk_alloc ?_ _)); exact BK545.out) hg (Kd.R_away HO552.out (fun _ hk => hk))); have n1_ := Aside0.mk (hp_); have n2_ := Aside0.mk ((by rw [hw]; exact below_set (below_set (HB.out) GB17.out) GB17.out : Below w.heap.size w w20)); clear BK545; clear HO552; clear HB; have BK545 := n0_; have HO552 := n1_; have HB := n2_; clear n0_ n1_ n2_; clear hg hw hp_))
            go_meet
            case rel => exact ⟨_, (y554), (a1_0), (a1_1), H', ⟨by first | omega | exact Nat.le_refl _⟩, ⟨by (with_reducible repeat (first | apply Kd.R_alloc | apply Kd.R_drewN | apply Kd.R_drew)); exact HO552.out⟩, ⟨by (with_reducible repeat (first | refine blk_drewN ?_ _ | refine blk_drew ?_ | refine blk_alloc ?_ _)); exact BK545.out⟩, ⟨by repeat (first | (with_reducible first | exact HB.out | apply below_alloc | apply pw_below_drewN | apply below_drew1 | refine below_set ?_ GE545.out) | exact HB.out)⟩⟩
          · rw [if_neg c16] at H
            exact absurd H (by simp)
        · rw [if_neg c15] at H
          exact absurd H (by simp)
      · rw [if_neg c14] at H
        have c14b0 : decide (0 ≤ t553) = false := decide_eq_false c14
        clear c14
        (first | rw [c14b0] | (simp only [i64_w, i32_w]; rw [c14b0]) | skip)
        by_cases c21 : t550.length < 4398046511104
        · rw [if_pos c21] at H
          have LMc21 := Aside0.mk c21
          clear c21
          obtain ⟨y555, hy555⟩ : ∃ y_ : List (S38), y_ = (t550 ++ [(⟨a1_0, a1_1⟩ : S38)]) := ⟨_, rfl⟩
          replace H : (impl_FieldsPut.j0 k l0 y555 t553) = some (r1, r2, r3) := by first | (rw [hy555]; with_reducible exact H) | (have H2_ := (Option.bind_some _ _).symm.trans H; rw [hy555]; with_reducible exact H2_) | (have H2_ := (Option.bind_some _ _).symm.trans H; with_reducible exact H2_) | with_reducible exact H | (rw [hy555]; exact H) | exact H
          have Ny555 := Aside0.mk hy555
          clear hy555
          have H' := Aside0.mk H
          clear H
          have hcz22_0 : w13.cell? ⟨gb545, 0, none⟩ = some (.string a1_0) := (blk_cell BK545.out 0).trans rfl
          have hcz22_1 : w13.cell? ⟨gb545, 1, none⟩ = some (.string a1_1) := (blk_cell BK545.out 1).trans rfl
          have hfz22_0 := blk_frozen BK545.out 0
          have hfz22_1 := blk_frozen BK545.out 1
          go_wp2_with (first | ((with_reducible refine gate_builtin (b := .append) (xs := #[.tmp 25, .tmp 27]) rfl ?_); at_builtin; refine Kd.R_append k38 (w0 := w) w.heap.size rfl (.tmp 25) (.tmp 27) 34 38 (.agg #[(.string ⟨#[]⟩), (.string ⟨#[]⟩)]) 32 rfl Try.underlying34 info38 rfl (by decide) (by omega) (.slice Ao12 t550.length co12) t550 (⟨a1_0, a1_1⟩ : S38) [.string a1_0, .string a1_1] (fun k_ => k_ ≠ gb545) (fun _ => False) rfl rfl ?aP (fun _ hk => hk.elim) ?aF ?aO ?aB ?aS ?aL ?_; (case aP => exact k38_mkM _ _ _ (⟨a1_0, a1_1⟩ : S38)); (case aB => exact (by repeat (first | (with_reducible first | exact HB.out | apply below_alloc | apply pw_below_drewN | apply below_drew1 | refine below_set ?_ GE545.out) | exact HB.out))); (case aF => exact (fun k_ hk => Kd.freshB (g := gb545) (o := .cells #[.string a1_0, .string a1_1] 38 (0, 0)) (by (with_reducible repeat (first | refine blk_drewN ?_ _ | refine blk_drew ?_ | refine blk_alloc ?_ _)); exact BK545.out) k_ hk)); (case aO => exact (by (with_reducible repeat (first | apply Kd.R_alloc | apply Kd.R_drewN | apply Kd.R_drew)); exact Kd.R_mono HO552.out (fun _ hk => hk.2))); (case aS => exact (below_size (by repeat (first | (with_reducible first | exact HB.out | apply below_alloc | apply pw_below_drewN | apply below_drew1 | refine below_set ?_ GE545.out) | exact HB.out)))); (case aL => have := LMc21.out; omega); intro v556 w23 ho hb hg hat; rw [← Ny555.out] at ho; have n0_ := Aside0.mk (blk_grown (g := gb545) (o := .cells #[.string a1_0, .string a1_1] 38 (0, 0)) (by (with_reducible repeat (first | refine blk_drewN ?_ _ | refine blk_drew ?_ | refine blk_alloc ?_ _)); exact BK545.out) hg (Kd.R_away HO552.out (fun _ hk => hk.2))); have n1_ := Aside0.mk (hb); have n2_ := Aside0.mk (ho); clear BK545; clear HB; clear HO552; have BK545 := n0_; have HB := n1_; have HO557 := n2_; clear n0_ n1_ n2_; clear ho hb hg hat))
          go_meet
          case rel => exact ⟨_, (y555), (a1_0), (a1_1), H', ⟨by first | omega | exact Nat.le_refl _⟩, ⟨by (with_reducible repeat (first | apply Kd.R_alloc | apply Kd.R_drewN | apply Kd.R_drew)); exact HO557.out⟩, ⟨by (with_reducible repeat (first | refine blk_drewN ?_ _ | refine blk_drew ?_ | refine blk_alloc ?_ _)); exact BK545.out⟩, ⟨by repeat (first | (with_reducible first | exact HB.out | apply below_alloc | apply pw_below_drewN | apply below_drew1 | refine below_set ?_ GE545.out) | exact HB.out)⟩⟩
        · rw [if_neg c21] at H
          exact absurd H (by simp)
    case rest =>
      clear HC7
      try clear c1
      try clear p1
      try clear q1
      try clear hx1
      try clear c2
      try clear p2
      try clear c3
      try clear c4
      try clear c5
      try clear c14
      try clear c14b0
      try clear c15
      try clear c15b0
      try clear c16
      try clear c16b0
      try clear c17
      try clear p17
      try clear q17
      try clear hx17
      try clear hf17
      try clear c19
      try clear hx19
      try clear hf19
      try clear c21
      try clear hcz11_0
      try clear hcz11_1
      try clear hcz18_0
      try clear hcz18_1
      try clear hcz22_0
      try clear hcz22_1
      try clear hfz11_0
      try clear hfz11_1
      try clear hfz18_0
      try clear hfz18_1
      try clear hfz22_0
      try clear hfz22_1
      try clear hx17_0
      try clear hx17_1
      try clear hx19_0
      try clear hx19_1
      try clear p17
      try clear q17
      obtain ⟨kq, x7_6, x546000_6, x546001_6, HA, HJ6, HO_7, BK545, HB⟩ := hcut
      cases kq with
      | zero => exact absurd HA.out (by simp [impl_FieldsPut.j0])
      | succ kj6 =>
        have H := HA.out
        clear HA
        simp only [impl_FieldsPut.j0] at H
        replace H := Option.bind_eq_some_iff.mp H
        obtain ⟨t558, A240, H⟩ := H
        replace H : ((impl_FieldsOk.f kj6 t558).bind fun t559 => (if t559 = true then ((impl_copiedPairs.f t558).bind fun t560 => (some (t560, decide (t553 < 0), true))) else ((impl_copiedPairs.f l0).bind fun t563 => (some (t563, false, false))))) = some (r1, r2, r3) := H
        have A24 := Aside0.mk A240
        clear A240
        replace H := Option.bind_eq_some_iff.mp H
        obtain ⟨t559, A250, H⟩ := H
        replace H : (if t559 = true then ((impl_copiedPairs.f t558).bind fun t560 => (some (t560, decide (t553 < 0), true))) else ((impl_copiedPairs.f l0).bind fun t563 => (some (t563, false, false)))) = some (r1, r2, r3) := H
        have A25 := Aside0.mk A250
        clear A250
        by_cases c26 : t559 = true
        · subst c26
          have H1 : ((impl_copiedPairs.f t558).bind fun t560 => (some (t560, decide (t553 < 0), true))) = some (r1, r2, r3) := by rw [if_pos rfl] at H; exact H
          clear H
          have H := H1
          clear H1
          replace H := Option.bind_eq_some_iff.mp H
          obtain ⟨t560, A270, H⟩ := H
          replace H : (some (t560, decide (t553 < 0), true)) = some (r1, r2, r3) := H
          have A27 := Aside0.mk A270
          clear A270
          simp only [Option.some.injEq, Prod.mk.injEq] at H
          obtain ⟨rfl, rfl, rfl⟩ := H
          obtain ⟨Ao28, co28, eo28⟩ := Kd.R_slice HO_7.out
          subst eo28
          go_wp2_with (first | ((with_reducible refine gate_callee (f := 57) rfl ?_); refine goesL_ (some 30) rfl rfl Try.func57 (by kernel_rfl) rfl #[.slice Ao28 x7_6.length co28, .func (.func 58) #[] #[]] rfl (by (try simp only [List.map_toArray, List.map_cons, List.map_nil]); first | done | rfl | (simp only [List.length_drop, List.length_take]; rfl)) ?_; (with_reducible refine (slices_SortFunc_impl_Pair_impl_Pair.calls (fun k_ => some k_ = (.slice Ao28 x7_6.length co28 : Value).ownBlock) (.slice Ao28 x7_6.length co28) x7_6 t558 w _ ?side1 ?side2 A24.out).mono ?_); (case side1 => repeat (first | (with_reducible first | exact HB.out | apply below_alloc | apply pw_below_drewN | apply below_drew1 | refine below_set ?_ GE545.out) | exact HB.out)); (case side2 => exact Kd.R_tight rfl HO_7.out); rintro e w29 ⟨rfl, hy0, hb, hkp⟩; refine ⟨_, rfl, ?_⟩; have n0_ := Aside0.mk (Kd.R_reok rfl hy0 (fun k_ e_ => HO_7.out.1 k_ e_)); have n1_ := Aside0.mk (blk_kept (by (with_reducible repeat (first | refine blk_drewN ?_ _ | refine blk_drew ?_ | refine blk_alloc ?_ _)); exact BK545.out) hkp (fun hs_ => (fun e_ => (Kd.R_away HO_7.out (fun _ hk => hk)) e_) hs_)); have n2_ := Aside0.mk (hb); clear HO_7; clear BK545; clear HB; have HO_7 := n0_; have BK545 := n1_; have HB := n2_; clear n0_ n1_ n2_; (try clear hb); (try clear hkp); (try clear hy0)) | ((with_reducible refine gate_callee (f := 30) rfl ?_); refine goesL_ (some 32) rfl rfl Try.func30 (by kernel_rfl) rfl #[.slice Ao28 t558.length co28] rfl (by (try simp only [List.map_toArray, List.map_cons, List.map_nil]); first | done | (rw [show t558.length = x7_6.length from (Kd.R_reads' HO_7.out).1.symm] <;> rfl) | rfl | (simp only [List.length_drop, List.length_take]; rfl)) ?_; (with_reducible refine (impl_FieldsOk.calls kj6 _ _ t558 true _ ?side1 ?side2 A25.out).mono ?_); (case side1 => repeat (first | exact (Kd.R_reads' HO_7.out).2.2 | (with_reducible refine Kd.C_alloc ?_ _) | (with_reducible refine Kd.C_drewN ?_ _) | (with_reducible refine Kd.C_drew ?_))); (case side2 => rw [show t558.length = x7_6.length from (Kd.R_reads' HO_7.out).1.symm]; exact (Kd.R_reads' HO_7.out).2.1); rintro e w30 ⟨rfl, hb⟩; refine ⟨_, rfl, ?_⟩; have n0_ := Aside0.mk (Kd.R_below (by (with_reducible repeat (first | apply Kd.R_alloc | apply Kd.R_drewN | apply Kd.R_drew)); exact HO_7.out) hb); have n1_ := Aside0.mk (blk_below (g := gb545) (o := .cells #[.string x546000_6, .string x546001_6] 38 (0, 0)) (by (with_reducible repeat (first | refine blk_drewN ?_ _ | refine blk_drew ?_ | refine blk_alloc ?_ _)); exact BK545.out) hb); have n2_ := Aside0.mk (below_step (by repeat (first | (with_reducible first | exact HB.out | apply below_alloc | apply pw_below_drewN | apply below_drew1 | refine below_set ?_ GE545.out) | exact HB.out)) hb); clear HO_7; clear BK545; clear HB; have HO_7 := n0_; have BK545 := n1_; have HB := n2_; clear n0_ n1_ n2_; (try clear hb); (try clear hb2); (try clear hk); (try clear hi)) | ((with_reducible refine gate_callee (f := 55) rfl ?_); refine goesL_ (some 37) rfl rfl Try.func55 (by kernel_rfl) rfl #[.slice Ao28 t558.length co28] rfl (by (try simp only [List.map_toArray, List.map_cons, List.map_nil]); first | done | (rw [show t558.length = x7_6.length from (Kd.R_reads' HO_7.out).1.symm] <;> rfl) | rfl | (simp only [List.length_drop, List.length_take]; rfl)) ?_; (with_reducible refine (impl_copiedPairs.calls _ _ t558 t560 _ ?side1 ?side2 A27.out).mono ?_); (case side1 => repeat (first | exact (Kd.R_reads' HO_7.out).2.2 | (with_reducible refine Kd.C_alloc ?_ _) | (with_reducible refine Kd.C_drewN ?_ _) | (with_reducible refine Kd.C_drew ?_))); (case side2 => rw [show t558.length = x7_6.length from (Kd.R_reads' HO_7.out).1.symm]; exact (Kd.R_reads' HO_7.out).2.1); rintro e w31 ⟨v561, rfl, ho0, hb⟩; refine ⟨_, rfl, ?_⟩; have n0_ := Aside0.mk (Kd.R_elder' (by (with_reducible repeat (first | apply Kd.R_alloc | apply Kd.R_drewN | apply Kd.R_drew)); exact HO_7.out) (Kd.R_base ho0) hb); have n1_ := Aside0.mk (Kd.R_lower (Kd.R_newB (Kd.R_new' ho0 (Kd.R_lt (by (with_reducible repeat (first | apply Kd.R_alloc | apply Kd.R_drewN | apply Kd.R_drew)); exact HO_7.out))) (g := gb545) (o := .cells #[.string x546000_6, .string x546001_6] 38 (0, 0)) (by (with_reducible repeat (first | refine blk_drewN ?_ _ | refine blk_drew ?_ | refine blk_alloc ?_ _)); exact BK545.out)) (below_size (by repeat (first | (with_reducible first | exact HB.out | apply below_alloc | apply pw_below_drewN | apply below_drew1 | refine below_set ?_ GE545.out) | exact HB.out)))); have n2_ := Aside0.mk (blk_below (g := gb545) (o := .cells #[.string x546000_6, .string x546001_6] 38 (0, 0)) (by (with_reducible repeat (first | refine blk_drewN ?_ _ | refine blk_drew ?_ | refine blk_alloc ?_ _)); exact BK545.out) hb); have n3_ := Aside0.mk (below_step (by repeat (first | (with_reducible first | exact HB.out | apply below_alloc | apply pw_below_drewN | apply below_drew1 | refine below_set ?_ GE545.out) | exact HB.out)) hb); clear HO_7; clear BK545; clear HB; have HO_7 := n0_; have HO562 := n1_; have BK545 := n2_; have HB := n3_; clear n0_ n1_ n2_ n3_; (try clear hb); (try clear hb2); (try clear hk); (try clear hi); (try clear ho0)))
          go_ret3
          exact ⟨_, by first | rfl | (simp [errW_none, errW_some] <;> rfl) | (simp [*, errW_none, errW_some] <;> rfl), by (with_reducible repeat (first | apply Kd.R_alloc | apply Kd.R_drewN | apply Kd.R_drew)); exact Kd.R_mono HO562.out (fun _ hk => trivial), by repeat (first | (with_reducible first | exact HB.out | apply below_alloc | apply pw_below_drewN | apply below_drew1 | refine below_set ?_ GE545.out) | exact HB.out)⟩
        · replace c26 := Bool.eq_false_iff.mpr c26
          subst c26
          have H1 : ((impl_copiedPairs.f l0).bind fun t563 => (some (t563, false, false))) = some (r1, r2, r3) := by rw [if_neg (show ¬ (false = true) by decide)] at H; exact H
          clear H
          have H := H1
          clear H1
          replace H := Option.bind_eq_some_iff.mp H
          obtain ⟨t563, A320, H⟩ := H
          replace H : (some (t563, false, false)) = some (r1, r2, r3) := H
          have A32 := Aside0.mk A320
          clear A320
          simp only [Option.some.injEq, Prod.mk.injEq] at H
          obtain ⟨rfl, rfl, rfl⟩ := H
          obtain ⟨Ao33, co33, eo33⟩ := Kd.R_slice HO_7.out
          subst eo33
          go_wp2_with (first | ((with_reducible refine gate_callee (f := 57) rfl ?_); refine goesL_ (some 30) rfl rfl Try.func57 (by kernel_rfl) rfl #[.slice Ao33 x7_6.length co33, .func (.func 58) #[] #[]] rfl (by (try simp only [List.map_toArray, List.map_cons, List.map_nil]); first | done | rfl | (simp only [List.length_drop, List.length_take]; rfl)) ?_; (with_reducible refine (slices_SortFunc_impl_Pair_impl_Pair.calls (fun k_ => some k_ = (.slice Ao33 x7_6.length co33 : Value).ownBlock) (.slice Ao33 x7_6.length co33) x7_6 t558 w _ ?side1 ?side2 A24.out).mono ?_); (case side1 => repeat (first | (with_reducible first | exact HB.out | apply below_alloc | apply pw_below_drewN | apply below_drew1 | refine below_set ?_ GE545.out) | exact HB.out)); (case side2 => exact Kd.R_tight rfl HO_7.out); rintro e w34 ⟨rfl, hy0, hb, hkp⟩; refine ⟨_, rfl, ?_⟩; have n0_ := Aside0.mk (Kd.R_reok rfl hy0 (fun k_ e_ => HO_7.out.1 k_ e_)); have n1_ := Aside0.mk (blk_kept (by (with_reducible repeat (first | refine blk_drewN ?_ _ | refine blk_drew ?_ | refine blk_alloc ?_ _)); exact BK545.out) hkp (fun hs_ => (fun e_ => (Kd.R_away HO_7.out (fun _ hk => hk)) e_) hs_)); have n2_ := Aside0.mk (hb); clear HO_7; clear BK545; clear HB; have HO_7 := n0_; have BK545 := n1_; have HB := n2_; clear n0_ n1_ n2_; (try clear hb); (try clear hkp); (try clear hy0)) | ((with_reducible refine gate_callee (f := 30) rfl ?_); refine goesL_ (some 32) rfl rfl Try.func30 (by kernel_rfl) rfl #[.slice Ao33 t558.length co33] rfl (by (try simp only [List.map_toArray, List.map_cons, List.map_nil]); first | done | (rw [show t558.length = x7_6.length from (Kd.R_reads' HO_7.out).1.symm] <;> rfl) | rfl | (simp only [List.length_drop, List.length_take]; rfl)) ?_; (with_reducible refine (impl_FieldsOk.calls kj6 _ _ t558 false _ ?side1 ?side2 A25.out).mono ?_); (case side1 => repeat (first | exact (Kd.R_reads' HO_7.out).2.2 | (with_reducible refine Kd.C_alloc ?_ _) | (with_reducible refine Kd.C_drewN ?_ _) | (with_reducible refine Kd.C_drew ?_))); (case side2 => rw [show t558.length = x7_6.length from (Kd.R_reads' HO_7.out).1.symm]; exact (Kd.R_reads' HO_7.out).2.1); rintro e w35 ⟨rfl, hb⟩; refine ⟨_, rfl, ?_⟩; have n0_ := Aside0.mk (Kd.R_below (by (with_reducible repeat (first | apply Kd.R_alloc | apply Kd.R_drewN | apply Kd.R_drew)); exact HO_7.out) hb); have n1_ := Aside0.mk (blk_below (g := gb545) (o := .cells #[.string x546000_6, .string x546001_6] 38 (0, 0)) (by (with_reducible repeat (first | refine blk_drewN ?_ _ | refine blk_drew ?_ | refine blk_alloc ?_ _)); exact BK545.out) hb); have n2_ := Aside0.mk (below_step (by repeat (first | (with_reducible first | exact HB.out | apply below_alloc | apply pw_below_drewN | apply below_drew1 | refine below_set ?_ GE545.out) | exact HB.out)) hb); clear HO_7; clear BK545; clear HB; have HO_7 := n0_; have BK545 := n1_; have HB := n2_; clear n0_ n1_ n2_; (try clear hb); (try clear hb2); (try clear hk); (try clear hi)) | ((with_reducible refine gate_callee (f := 55) rfl ?_); refine goesL_ (some 35) rfl rfl Try.func55 (by kernel_rfl) rfl #[.slice A0 l0.length c0] rfl (by (try simp only [List.map_toArray, List.map_cons, List.map_nil]); first | done | rfl | (simp only [List.length_drop, List.length_take]; rfl)) ?_; (with_reducible refine (impl_copiedPairs.calls _ _ l0 t563 _ ?side1 ?side2 A32.out).mono ?_); (case side1 => repeat (first | exact (Kd.C_below HR0.out HB.out) | (with_reducible refine Kd.C_alloc ?_ _) | (with_reducible refine Kd.C_drewN ?_ _) | (with_reducible refine Kd.C_drew ?_))); (case side2 => exact HC0.out); rintro e w36 ⟨v564, rfl, ho0, hb⟩; refine ⟨_, rfl, ?_⟩; have n0_ := Aside0.mk (Kd.R_elder' (by (with_reducible repeat (first | apply Kd.R_alloc | apply Kd.R_drewN | apply Kd.R_drew)); exact HO_7.out) (Kd.R_base ho0) hb); have n1_ := Aside0.mk (Kd.R_lower (Kd.R_newB (Kd.R_new' ho0 (Kd.R_lt (by (with_reducible repeat (first | apply Kd.R_alloc | apply Kd.R_drewN | apply Kd.R_drew)); exact HO_7.out))) (g := gb545) (o := .cells #[.string x546000_6, .string x546001_6] 38 (0, 0)) (by (with_reducible repeat (first | refine blk_drewN ?_ _ | refine blk_drew ?_ | refine blk_alloc ?_ _)); exact BK545.out)) (below_size (by repeat (first | (with_reducible first | exact HB.out | apply below_alloc | apply pw_below_drewN | apply below_drew1 | refine below_set ?_ GE545.out) | exact HB.out)))); have n2_ := Aside0.mk (blk_below (g := gb545) (o := .cells #[.string x546000_6, .string x546001_6] 38 (0, 0)) (by (with_reducible repeat (first | refine blk_drewN ?_ _ | refine blk_drew ?_ | refine blk_alloc ?_ _)); exact BK545.out) hb); have n3_ := Aside0.mk (below_step (by repeat (first | (with_reducible first | exact HB.out | apply below_alloc | apply pw_below_drewN | apply below_drew1 | refine below_set ?_ GE545.out) | exact HB.out)) hb); clear HO_7; clear BK545; clear HB; have HO_7 := n0_; have HO565 := n1_; have BK545 := n2_; have HB := n3_; clear n0_ n1_ n2_ n3_; (try clear hb); (try clear hb2); (try clear hk); (try clear hi); (try clear ho0)))
          go_ret3
          exact ⟨_, by first | rfl | (simp [errW_none, errW_some] <;> rfl) | (simp [*, errW_none, errW_some] <;> rfl), by (with_reducible repeat (first | apply Kd.R_alloc | apply Kd.R_drewN | apply Kd.R_drew)); exact Kd.R_mono HO565.out (fun _ hk => trivial), by repeat (first | (with_reducible first | exact HB.out | apply below_alloc | apply pw_below_drewN | apply below_drew1 | refine below_set ?_ GE545.out) | exact HB.out)⟩
  · replace c4 := Bool.eq_false_iff.mpr c4
    subst c4
    have H1 : (some ((([] : List (S38))), false, false)) = some (r1, r2, r3) := by rw [if_neg (show ¬ (false = true) by decide)] at H; exact H
    clear H
    have H := H1
    clear H1
    obtain ⟨y547, hy547⟩ : ∃ y_ : List (S38), y_ = (([] : List (S38))) := ⟨_, rfl⟩
    replace H : (some (y547, false, false)) = some (r1, r2, r3) := by first | (rw [hy547]; with_reducible exact H) | (have H2_ := (Option.bind_some _ _).symm.trans H; rw [hy547]; with_reducible exact H2_) | (have H2_ := (Option.bind_some _ _).symm.trans H; with_reducible exact H2_) | with_reducible exact H | (rw [hy547]; exact H) | exact H
    have Ny547 := Aside0.mk hy547
    clear hy547
    simp only [Option.some.injEq, Prod.mk.injEq] at H
    obtain ⟨rfl, rfl, rfl⟩ := H
    go_enter Try.func24, Try.ntmps24
    go_wp2_with (first | ((with_reducible refine gate_dst (N := 3) rfl ?_); refine box_event ?hg (N := 3) ?hd (cs := #[.string a1_0, .string a1_1]) (t := 38) ?hr ?_; (case hd => rfl); (case hg => rfl); (case hr => first | (go_simp; done) | (go_simp; rfl)); intro gb545 hg w37 hbox hb; have n0_ := Aside0.mk (below_step (by repeat (first | (with_reducible first | exact HB.out | apply below_alloc | apply pw_below_drewN | apply below_drew1) | exact HB.out | exact Below.refl _ _)) hb); have n1_ := Aside0.mk (hbox); have n2_ := Aside0.mk ((by rw [hg]; exact (below_size (by repeat (first | (with_reducible first | exact HB.out | apply below_alloc | apply pw_below_drewN | apply below_drew1) | exact HB.out | exact Below.refl _ _))) : w.heap.size ≤ gb545)); have n3_ := Aside0.mk ((by rw [hg]; exact (below_size (by repeat (first | (with_reducible first | exact HB.out | apply below_alloc | apply pw_below_drewN | apply below_drew1) | exact HB.out | exact Below.refl _ _))) : w.heap.size ≤ gb545)); clear HB; have HB := n0_; have BK545 := n1_; have GW545 := n2_; have GE545 := n3_; clear n0_ n1_ n2_ n3_; clear hb hbox hg) | ((with_reducible refine gate_callee (f := 30) rfl ?_); refine goesL_ (some 10) rfl rfl Try.func30 (by kernel_rfl) rfl #[.slice A0 l0.length c0] rfl (by (try simp only [List.map_toArray, List.map_cons, List.map_nil]); first | done | rfl | (simp only [List.length_drop, List.length_take]; rfl)) ?_; (with_reducible refine (impl_FieldsOk.calls k _ _ l0 false _ ?side1 ?side2 A3.out).mono ?_); (case side1 => repeat (first | exact (Kd.C_below HR0.out HB.out) | (with_reducible refine Kd.C_alloc ?_ _) | (with_reducible refine Kd.C_drewN ?_ _) | (with_reducible refine Kd.C_drew ?_))); (case side2 => exact HC0.out); rintro e w38 ⟨rfl, hb⟩; refine ⟨_, rfl, ?_⟩; have n0_ := Aside0.mk (blk_below (g := gb545) (o := .cells #[.string a1_0, .string a1_1] 38 (0, 0)) (by (with_reducible repeat (first | refine blk_drewN ?_ _ | refine blk_drew ?_ | refine blk_alloc ?_ _)); exact BK545.out) hb); have n1_ := Aside0.mk (below_step (by repeat (first | (with_reducible first | exact HB.out | apply below_alloc | apply pw_below_drewN | apply below_drew1 | refine below_set ?_ GE545.out) | exact HB.out)) hb); clear BK545; clear HB; have BK545 := n0_; have HB := n1_; clear n0_ n1_; (try clear hb); (try clear hb2); (try clear hk); (try clear hi)) | ((with_reducible refine gate_dst (N := 12) rfl ?_); refine Kd.R_lit k38 _ 38 ?hg (N := 12) ?hd (xs := ([] : List (S38))) (inner := []) (ok := fun _ => True) (okp := fun _ => True) ?hr ?hp (fun _ hk => hk) trivial (Below.refl _ _) (Nat.le_refl _) (by simp) ?_; (case hd => rfl); (case hg => rfl); (case hr => first | (go_simp; done) | (go_simp; rfl)); (case hp => exact (Reps.none _ _)); intro v548 w39 ho40 hb hg_ hnew_; clear hg_ hnew_; (first | rw [← Ny547.out] at ho40 | (simp only [Int.reduceToNat] at ho40; rw [← Ny547.out] at ho40)); have n0_ := Aside0.mk (Kd.R_lower (Kd.R_newB ho40 (g := gb545) (o := .cells #[.string a1_0, .string a1_1] 38 (0, 0)) (by (with_reducible repeat (first | refine blk_drewN ?_ _ | refine blk_drew ?_ | refine blk_alloc ?_ _)); exact BK545.out)) (below_size (by repeat (first | (with_reducible first | exact HB.out | apply below_alloc | apply pw_below_drewN | apply below_drew1 | refine below_set ?_ GE545.out) | exact HB.out)))); have n1_ := Aside0.mk (blk_below (g := gb545) (o := .cells #[.string a1_0, .string a1_1] 38 (0, 0)) (by (with_reducible repeat (first | refine blk_drewN ?_ _ | refine blk_drew ?_ | refine blk_alloc ?_ _)); exact BK545.out) hb); have n2_ := Aside0.mk (below_step (by repeat (first | (with_reducible first | exact HB.out | apply below_alloc | apply pw_below_drewN | apply below_drew1 | refine below_set ?_ GE545.out) | exact HB.out)) hb); clear BK545; clear HB; have HO549 := n0_; have BK545 := n1_; have HB := n2_; clear n0_ n1_ n2_; clear hb ho40))
    go_ret3
    exact ⟨_, by first | rfl | (simp [errW_none, errW_some] <;> rfl) | (simp [*, errW_none, errW_some] <;> rfl), by (with_reducible repeat (first | apply Kd.R_alloc | apply Kd.R_drewN | apply Kd.R_drew)); exact Kd.R_mono HO549.out (fun _ hk => trivial), by repeat (first | (with_reducible first | exact HB.out | apply below_alloc | apply pw_below_drewN | apply below_drew1 | refine below_set ?_ GE545.out) | exact HB.out)⟩

end Go.Proofs.Ytegelpeegbngiaa.P
/- Plain lemmas: what reads as data (the form's reader) reads as the print's kinds: whole numbers, bools, texts, slices, structs. -/
namespace Go.Proofs.Ytegelpeegbngiaa.Q
open Go.RowKit Go.Proofs.YtegelpeegbngiaaW.PrintWords Go.Proofs.YtegelpeegbngiaaW.PrintLast

/-- What the form's reader takes at type t, in world W, is an element of the kind d within the bounds ok. -/
def Opens {α H : Type} (enc : TypeId × Value → H) (P : Program) (W : World) (t : TypeId) (d : Kd α) (ok : α → Prop) : Prop :=
  ∀ (fuel : Nat) (cs : List Value) (y : DataW H × List MemPlace), DataW.trod enc P W 0 (fun _ => true) true fuel t cs = some y → ∃ x : α, d.K W x cs ∧ ok x
section
variable {α β H : Type} {enc : TypeId × Value → H} {P : Program} {W : World} {t e : TypeId}
theorem Opens.int {k : IntKind} (ht : P.underlying t = some (.int k)) : Opens enc P W t (Kd.int k) (fun x => (Lit.int k x).wf = true) := by
  intro fuel cs y h
  obtain ⟨n, rfl, _, hn⟩ := DataW.trod_int ht h
  exact ⟨n, rfl, hn⟩
theorem Opens.string (ht : P.underlying t = some .string) : Opens enc P W t Kd.string (fun x => x.size ≤ maxLen) := by
  intro fuel cs y h
  obtain ⟨s, rfl, _, hs⟩ := DataW.trod_string ht h
  exact ⟨s, rfl, hs⟩
theorem cells_len {b : Nat} {a : Addr} {n : Nat} {cs : List Value} (h : W.cells? b a n = some cs) : cs.length = n := by
  unfold World.cells? at h
  split at h
  · simpa using mapM_some_length h
  · cases h
theorem cells_get {b : Nat} {a : Addr} {n : Nat} {cs : List Value} (h : W.cells? b a n = some cs) (i : Nat) (u : Value) (hu : cs[i]? = some u) : W.cell? (a.add i) = some u := by
  have hl := cells_len h
  have hi : i < n := by rw [← hl]; exact (List.getElem?_eq_some_iff.1 hu).1
  unfold World.cells? at h
  split at h
  · rw [← hu]; exact mapM_some_get h i i (by simp [hi])
  · cases h
theorem each_of {γ : Type} {Q : Nat → γ → Prop} (n : Nat) (h : ∀ i, i < n → ∃ x, Q i x) : ∃ l : List γ, l.length = n ∧ ∀ i x, l[i]? = some x → Q i x := by
  induction n with
  | zero => exact ⟨[], rfl, fun i x hx => by simp at hx⟩
  | succ n ih =>
    obtain ⟨l, hl, hq⟩ := ih (fun i hi => h i (by omega))
    obtain ⟨x, hx⟩ := h n (by omega)
    refine ⟨l ++ [x], by simp [hl], fun i y hy => ?_⟩
    rcases Nat.lt_or_ge i l.length with hi | hi
    · rw [List.getElem?_append_left hi] at hy
      exact hq i y hy
    · rw [List.getElem?_append_right hi] at hy
      have : i - l.length = 0 := by
        have := (List.getElem?_eq_some_iff.1 hy).1
        simp at this
        omega
      rw [this] at hy
      injection hy with hy
      obtain rfl : i = n := by omega
      exact hy ▸ hx
theorem Opens.slice {d : Kd α} {ok : α → Prop} (ht : P.underlying t = some (.slice e)) (hc : P.cellsOf e = d.sz) (h : Opens enc P W e d ok) :
    Opens enc P W t (Kd.slice e d) (fun xs => xs.length ≤ maxLen ∧ ∀ x ∈ xs, ok x) := by
  intro fuel cs y hy
  rcases DataW.trod_slice ht hy with ⟨rfl, _⟩ | ⟨a, len, cap, elems, rest, n, _, rfl, _, hb, hl, hm, hlen, hel, _, _⟩
  · exact ⟨[], ⟨none, 0, rfl, Nat.le_refl _, rfl, by simp, fun h => by simp at h⟩, by simp, by simp⟩
  · have each : ∀ i, i < len → ∃ x : α, (∃ c, c.length = d.sz ∧ d.K W x c ∧ ∀ j u, c[j]? = some u → W.cell? (a.add (i * d.sz + j)) = some u) ∧ ok x := by
      intro i hi
      have h1 := hel i hi
      rw [List.getElem?_eq_getElem (by omega)] at h1
      obtain ⟨c, h2, h3⟩ := Option.bind_eq_some_iff.1 h1
      obtain ⟨x, hK, hx⟩ := h _ _ _ h3
      rw [hc] at h2
      refine ⟨x, ⟨c, d.K_len hK, hK, fun j u hu => ?_⟩, hx⟩
      have h4 := cells_get h2 j u hu
      rwa [add_add] at h4
    obtain ⟨l, hll, hq⟩ := each_of len each
    subst hll
    refine ⟨l, ⟨some a, cap, rfl, hl, rfl, ?_, fun _ => ⟨a, rfl, fun j p hp => (hq j p hp).1⟩⟩, by omega, fun x hx => ?_⟩
    · unfold maxLen at hm; omega
    · obtain ⟨i, hi, rfl⟩ := List.getElem_of_mem hx
      exact (hq i _ (List.getElem?_eq_getElem hi)).2
theorem Opens.iso {d : Kd α} {ok : α → Prop} (f : β → α) (g : α → β) (hfg : ∀ a, f (g a) = a) (h : Opens enc P W t d ok) : Opens enc P W t (Kd.iso d f) (fun x => ok (f x)) := by
  intro fuel cs y hy
  obtain ⟨x, hK, hx⟩ := h _ _ _ hy
  exact ⟨g x, by show d.K W (f (g x)) cs; rw [hfg]; exact hK, by show ok (f (g x)); rw [hfg]; exact hx⟩
theorem Opens.imp {d : Kd α} {ok ok' : α → Prop} (h : Opens enc P W t d ok) (hi : ∀ x, ok x → ok' x) : Opens enc P W t d ok' := fun fuel cs y hy => by
  obtain ⟨x, hK, hx⟩ := h _ _ _ hy
  exact ⟨x, hK, hi x hx⟩
/-- The fields from offset o on, in line. -/
def OpensF {α H : Type} (enc : TypeId × Value → H) (P : Program) (W : World) (fs : List Field) (o : Nat) (d : Kd α) (ok : α → Prop) : Prop :=
  ∀ (n : Nat) (cs : List Value) (xs : List (DataW H × List MemPlace)), cs.length = o + d.sz → xs.length = fs.length →
    (∀ (i : Nat) (f : Field), fs[i]? = some f → DataW.trod enc P W 0 (fun _ => true) true n f.type ((cs.drop f.offset).take (P.cellsOf f.type)) = xs[i]?) → ∃ x : α, d.K W x (cs.drop o) ∧ ok x
theorem OpensF.one {d : Kd α} {ok : α → Prop} {f : Field} {o : Nat} (ho : f.offset = o) (hc : P.cellsOf f.type = d.sz) (h : Opens enc P W f.type d ok) : OpensF enc P W [f] o d ok := by
  intro n cs xs hl hx hf
  match xs, hx with
  | [x0], _ =>
    have h0 := hf 0 f rfl
    rw [ho, hc, List.take_of_length_le (by rw [List.length_drop]; omega)] at h0
    exact h n _ x0 (by simpa using h0)
theorem OpensF.cons {d : Kd α} {ok : α → Prop} {d' : Kd β} {ok' : β → Prop} {f : Field} {fs : List Field} {o : Nat} (ho : f.offset = o) (hc : P.cellsOf f.type = d.sz) (h : Opens enc P W f.type d ok)
    (hs : OpensF enc P W fs (o + d.sz) d' ok') : OpensF enc P W (f :: fs) o (Kd.pair d d') (fun x => ok x.1 ∧ ok' x.2) := by
  intro n cs xs hl hx hf
  have hsz : (Kd.pair d d').sz = d.sz + d'.sz := rfl
  match xs, hx with
  | x0 :: xs', hx =>
    have h0 := hf 0 f rfl
    rw [ho, hc] at h0
    obtain ⟨a, ha, oka⟩ := h n _ x0 (by simpa using h0)
    obtain ⟨b, hb, okb⟩ := hs n cs xs' (by omega) (by simpa using hx) (fun i g hg => by simpa using hf (i + 1) g (by simpa using hg))
    refine ⟨(a, b), ⟨(cs.drop o).take d.sz, cs.drop (o + d.sz), ?_, ha, hb⟩, oka, okb⟩
    rw [← List.drop_drop, List.take_append_drop]
theorem Opens.struct {d : Kd α} {ok : α → Prop} {fs : Array Field} (ht : P.underlying t = some (.struct fs)) (hc : P.cellsOf t = d.sz) (h : OpensF enc P W fs.toList 0 d ok) : Opens enc P W t d ok := by
  intro fuel cs y hy
  obtain ⟨xs, n, _, _, hl, hx, hf⟩ := DataW.trod_struct ht hy
  have := h n cs xs (by omega) (by simpa using hx) (fun i f hf' => hf i f (by simpa using hf'))
  simpa using this
end
end Go.Proofs.Ytegelpeegbngiaa.Q
/- Plain lemmas: events with enough rounds, wraps, lists of texts. No program in sight. -/
namespace Go.Proofs.Ytegelpeegbngiaa.Q
open Go.RowKit Go.Proofs.YtegelpeegbngiaaW.PrintWords Go.Proofs.YtegelpeegbngiaaW.PrintLast

theorem pos {α : Type} {c : Prop} [Decidable c] {t e : Nat → Option α} {r : α} (h : c) (x : Ev t r) : Ev (fun k => if c then t k else e k) r := by
  obtain ⟨K, hK⟩ := x
  exact ⟨K, fun k hk => (if_pos h).trans (hK k hk)⟩
theorem neg {α : Type} {c : Prop} [Decidable c] {t e : Nat → Option α} {r : α} (h : ¬ c) (x : Ev e r) : Ev (fun k => if c then t k else e k) r := by
  obtain ⟨K, hK⟩ := x
  exact ⟨K, fun k hk => (if_neg h).trans (hK k hk)⟩
theorem both {α : Type} {c : Prop} [Decidable c] {t e : Nat → Option α} {r : α} (x : c → Ev t r) (y : ¬ c → Ev e r) : Ev (fun k => if c then t k else e k) r := by
  by_cases h : c
  · exact pos h (x h)
  · exact neg h (y h)
theorem ret {α : Type} (r : α) : Ev (fun _ => some r) r := Ev.now r
theorem ret' {α : Type} {r q : α} (h : r = q) : Ev (fun _ => some r) q := h ▸ Ev.now r
theorem val {α : Type} {g : Option α} {r : α} (h : g = some r) : Ev (fun _ => g) r := ⟨0, fun _ _ => h⟩
theorem of_eq {α : Type} {g : Nat → Option α} {r q : α} (h : Ev g r) (e : r = q) : Ev g q := e ▸ h
theorem Ev.unique {α : Type} {g : Nat → Option α} {r q : α} (h : Ev g r) (h' : Ev g q) : r = q := by
  obtain ⟨K, hK⟩ := h
  obtain ⟨K', hK'⟩ := h'
  have a := hK (max K K') (Nat.le_max_left _ _)
  have b := hK' (max K K') (Nat.le_max_right _ _)
  rw [a] at b
  exact Option.some.inj b
theorem exists_of {α : Type} {g : Nat → Option α} {r : α} (h : Ev g r) : ∃ k, g k = some r := by
  obtain ⟨K, hK⟩ := h
  exact ⟨K, hK K (Nat.le_refl _)⟩

theorem wrap_id {x : Int} (h1 : -9223372036854775808 ≤ x) (h2 : x ≤ 9223372036854775807) : wrap64 x = x := by
  unfold wrap64
  omega
theorem wf64 {a : Int} (h : (Lit.int .i64 a).wf = true) : -9223372036854775808 ≤ a ∧ a ≤ 9223372036854775807 := by
  simp only [Lit.wf, Bool.and_eq_true, decide_eq_true_eq] at h
  exact h
theorem rdOf_lt {α : Type} (d : α) (l : List α) (i : Nat) (h : i < l.length) : rdOf d l (i : Int) = l[i] := by
  simp [rdOf, List.getD_eq_getElem?_getD, h]
theorem toList_inj {a b : ByteArray} (h : a.toList = b.toList) : a = b := by
  rw [ByteArray.toList_eq, ByteArray.toList_eq] at h
  cases a with
  | mk x => cases b with
    | mk y =>
      congr
      exact Array.toList_inj.1 h
theorem toList_len (a : ByteArray) : a.toList.length = a.size := by
  rw [ByteArray.toList_eq]
  rfl
end Go.Proofs.Ytegelpeegbngiaa.Q
/- Plain lemmas on lists of pairs: the law's own helpers (size, copy, equal). -/
namespace Go.Proofs.Ytegelpeegbngiaa.Q
open Go.RowKit Go.Proofs.YtegelpeegbngiaaW.PrintWords Go.Proofs.YtegelpeegbngiaaW.PrintLast Go.Proofs.Ytegelpeegbngiaa.P

abbrev LPair := S31
abbrev Pair := S38
instance : DecidableEq Pair := fun a b => decidable_of_iff (a.f0 = b.f0 ∧ a.f1 = b.f1) ⟨fun h => by cases a; cases b; simp at h; simp [h], fun h => by rw [h]; exact ⟨rfl, rfl⟩⟩
theorem rdLPair_lt (l : List LPair) (i : Nat) (h : i < l.length) : rd_T31 l (i : Int) = l[i] := by
  simp [rd_T31, List.getD_eq_getElem?_getD, h]
theorem rdPair_lt (l : List Pair) (i : Nat) (h : i < l.length) : rd_T38 l (i : Int) = l[i] := by
  simp [rd_T38, List.getD_eq_getElem?_getD, h]
theorem szPair_ev (a b : ByteArray) (ha : a.size ≤ maxLen) (hb : b.size ≤ maxLen) (c : Int) (h0 : 0 ≤ c) (h1 : c ≤ 1048576) :
    ∃ v, laws_szPair.f a b c = some v ∧ v ≤ c ∧ -1 ≤ v ∧ (0 ≤ v → a.size ≤ 1048576 ∧ b.size ≤ 1048576) := by
  unfold maxLen at ha hb
  unfold laws_szPair.f
  rw [wrap_id (x := c - (a.size : Int)) (by omega) (by omega)]
  by_cases h : c - (a.size : Int) < 0
  · exact ⟨-1, if_pos h, by omega, by omega, by omega⟩
  · rw [if_neg h, wrap_id (x := c - (a.size : Int) - (b.size : Int)) (by omega) (by omega)]
    by_cases h' : c - (a.size : Int) - (b.size : Int) < 0
    · exact ⟨-1, if_pos h', by omega, by omega, by omega⟩
    · exact ⟨_, if_neg h', by omega, by omega, fun _ => ⟨by omega, by omega⟩⟩
theorem szPairS_l0 (l : List LPair) (hl : l.length ≤ maxLen) (hs : ∀ s ∈ l, s.f0.size ≤ maxLen ∧ s.f1.size ≤ maxLen) (d : Nat) : ∀ (i : Nat) (c : Int), i + d = l.length → 0 ≤ c → c ≤ 1048576 →
    ∃ v, Ev (fun k => laws_szPairS.l0 k l c (i : Int)) v ∧ v ≤ c ∧ -1 ≤ v ∧ (0 ≤ v → ∀ j (h : j < l.length), i ≤ j → l[j].f0.size ≤ 1048576 ∧ l[j].f1.size ≤ 1048576) := by
  unfold maxLen at hl
  induction d with
  | zero =>
    intro i c hi h0 h1
    exact ⟨c, Ev.step (fun k => by rw [laws_szPairS.l0]) (neg (by omega) (ret c)), by omega, by omega, fun _ j hj hij => by omega⟩
  | succ d ih =>
    intro i c hi h0 h1
    have hlt : i < l.length := by omega
    obtain ⟨hs0, hs1⟩ := hs _ (List.getElem_mem hlt)
    obtain ⟨v, hv, hv1, hv2, hv3⟩ := szPair_ev _ _ hs0 hs1 c h0 h1
    by_cases hneg : v < 0
    · refine ⟨-1, Ev.step (fun k => by rw [laws_szPairS.l0]) (pos (by omega) (pos (by omega) ?_)), by omega, by omega, by omega⟩
      rw [rdLPair_lt _ _ hlt]
      exact Ev.bind (val hv) (pos hneg (ret (-1)))
    · obtain ⟨u, hu, h2, h3, h4⟩ := ih (i + 1) v (by omega) (by omega) (by omega)
      refine ⟨u, Ev.step (fun k => by rw [laws_szPairS.l0]) (pos (by omega) (pos (by omega) ?_)), by omega, h3, fun h5 j hj hij => ?_⟩
      · rw [rdLPair_lt _ _ hlt, wrap_id (x := (i : Int) + 1) (by omega) (by omega)]
        exact Ev.bind (val hv) (neg hneg hu)
      · rcases Nat.eq_or_lt_of_le hij with rfl | hij
        · exact hv3 (by omega)
        · exact h4 h5 j hj hij
theorem szPairS_ev (l : List LPair) (hl : l.length ≤ maxLen) (hs : ∀ s ∈ l, s.f0.size ≤ maxLen ∧ s.f1.size ≤ maxLen) (c : Int) (h0 : 0 ≤ c) (h1 : c ≤ 1048576) :
    ∃ v, Ev (fun k => laws_szPairS.f k l c) v ∧ v ≤ c ∧ -1 ≤ v ∧ (0 ≤ v → l.length ≤ 1048576 ∧ ∀ s ∈ l, s.f0.size ≤ 1048576 ∧ s.f1.size ≤ 1048576) := by
  have hl' := hl
  unfold maxLen at hl'
  by_cases h : c - (l.length : Int) < 0
  · refine ⟨-1, ?_, by omega, by omega, by omega⟩
    unfold laws_szPairS.f
    refine pos ?_ (ret _)
    rw [wrap_id (by omega) (by omega)]
    exact h
  · obtain ⟨v, hv, h2, h3, h4⟩ := szPairS_l0 l hl hs l.length 0 (c - (l.length : Int)) (by omega) (by omega) (by omega)
    refine ⟨v, ?_, by omega, h3, fun h5 => ⟨by omega, fun s hs => ?_⟩⟩
    · unfold laws_szPairS.f
      rw [wrap_id (by omega) (by omega)]
      exact neg h hv
    · obtain ⟨j, hj, rfl⟩ := List.getElem_of_mem hs
      exact h4 h5 j hj (by omega)
/-- The law's pair, as the program's. -/
def cvPair (x : LPair) : Pair := ⟨x.f0, x.f1⟩
theorem toPairS_l0 (l : List LPair) (hl : l.length ≤ maxLen) (d : Nat) : ∀ (i : Nat) (x : List Pair), i + d = l.length → x.length = l.length → Ev (fun k => laws_toPairS.l0 k l x (i : Int)) (x.take i ++ (l.drop i).map cvPair) := by
  unfold maxLen at hl
  induction d with
  | zero =>
    intro i x hi hx
    refine Ev.step (fun k => by rw [laws_toPairS.l0]) (neg (by omega) (ret' ?_))
    rw [List.drop_of_length_le (by omega), List.take_of_length_le (by omega), List.map_nil, List.append_nil]
  | succ d ih =>
    intro i x hi hx
    have hlt : i < l.length := by omega
    refine Ev.step (fun k => by rw [laws_toPairS.l0]) (pos (by omega) (pos (by omega) ?_))
    rw [rdLPair_lt _ _ hlt, wrap_id (by omega) (by omega)]
    refine Ev.bind (val rfl) (pos (by omega) (of_eq (ih (i + 1) _ (by omega) (by simp [hx])) ?_))
    rw [List.drop_eq_getElem_cons hlt, Int.toNat_natCast, List.take_set, List.take_succ_eq_append_getElem (by omega), List.set_append_right _ _ (by simp; omega), List.map_cons]
    simp [show min i x.length = i by omega]
    rfl
theorem toPairS_ev (l : List LPair) (hl : l.length ≤ 1048576) : Ev (fun k => laws_toPairS.f k l) (l.map cvPair) := by
  unfold laws_toPairS.f
  refine pos (by omega) (pos (by omega) ?_)
  exact of_eq (toPairS_l0 l (by unfold maxLen; omega) l.length 0 _ (by omega) (by simp)) (by simp)
theorem eqPair_eq (a b : Pair) : laws_eqPair.f a.f0 a.f1 b.f0 b.f1 = some (decide (a = b)) := by
  unfold laws_eqPair.f
  obtain ⟨a0, a1⟩ := a
  obtain ⟨b0, b1⟩ := b
  by_cases h0 : a0 = b0
  · by_cases h1 : a1 = b1
    · simp [h0, h1]
    · have : ¬ a1.toList = b1.toList := fun e => h1 (toList_inj e)
      simp [h0, h1, this]
  · have : ¬ a0.toList = b0.toList := fun e => h0 (toList_inj e)
    simp [h0, this]
theorem eqPairS_l0 (l l' : List Pair) (hl : l.length ≤ maxLen) (he : l.length = l'.length) (d : Nat) : ∀ (i : Nat), i + d = l.length → Ev (fun k => laws_eqPairS.l0 k l l' (i : Int)) (decide (l.drop i = l'.drop i)) := by
  unfold maxLen at hl
  induction d with
  | zero =>
    intro i hi
    refine Ev.step (fun k => by rw [laws_eqPairS.l0]) (neg (by omega) (ret' ?_))
    rw [List.drop_of_length_le (by omega), List.drop_of_length_le (by omega)]
    simp
  | succ d ih =>
    intro i hi
    have hlt : i < l.length := by omega
    have hlt' : i < l'.length := by omega
    refine Ev.step (fun k => by rw [laws_eqPairS.l0]) (pos (by omega) (pos (by omega) (pos (by omega) ?_)))
    rw [rdPair_lt _ _ hlt, rdPair_lt _ _ hlt', wrap_id (by omega) (by omega), List.drop_eq_getElem_cons hlt, List.drop_eq_getElem_cons hlt']
    refine Ev.bind (val (eqPair_eq _ _)) (both (fun h => ?_) (fun h => ret' ?_))
    · refine of_eq (ih (i + 1) (by omega)) ?_
      rw [of_decide_eq_true h]
      exact decide_eq_decide.2 (by simp only [List.cons.injEq, true_and])
    · exact (decide_eq_false (fun e => h (decide_eq_true (List.cons.inj e).1))).symm
theorem eqPairS_ev (l l' : List Pair) (hl : l.length ≤ maxLen) : Ev (fun k => laws_eqPairS.f k l l') (decide (l = l')) := by
  unfold laws_eqPairS.f
  refine both (fun h => ?_) (fun h => ret' ?_)
  · exact eqPairS_l0 l l' hl (by omega) l.length 0 (by omega)
  · have : l ≠ l' := fun e => h (by rw [e])
    simp [this]
theorem eqPairS_same (l : List Pair) (hl : l.length ≤ maxLen) : Ev (fun k => laws_eqPairS.f k l l) true := of_eq (eqPairS_ev l l hl) (by simp)
end Go.Proofs.Ytegelpeegbngiaa.Q
/- Plain lemmas: the bytewise order of texts. No program in sight. -/
namespace Go.Proofs.Ytegelpeegbngiaa.Q
open Go.RowKit Go.Proofs.YtegelpeegbngiaaW.PrintWords Go.Proofs.YtegelpeegbngiaaW.PrintLast

theorem bl_irrefl (a : List UInt8) : Op.bytesLess a a = false := by
  induction a with
  | nil => rfl
  | cons x r ih => simp [Op.bytesLess, ih]
theorem bl_trans (a : List UInt8) : ∀ (b c : List UInt8), Op.bytesLess a b = true → Op.bytesLess b c = true → Op.bytesLess a c = true := by
  induction a with
  | nil =>
    intro b c h1 h2
    cases c with
    | nil => cases b <;> simp [Op.bytesLess] at h2
    | cons z c => rfl
  | cons x a ih =>
    intro b c h1 h2
    cases b with
    | nil => simp [Op.bytesLess] at h1
    | cons y b =>
      cases c with
      | nil => simp [Op.bytesLess] at h2
      | cons z c =>
        simp only [Op.bytesLess, Bool.or_eq_true, Bool.and_eq_true, decide_eq_true_eq, beq_iff_eq] at h1 h2 ⊢
        rcases h1 with h1 | ⟨rfl, h1⟩
        · rcases h2 with h2 | ⟨rfl, h2⟩
          · exact .inl (UInt8.lt_trans h1 h2)
          · exact .inl h1
        · rcases h2 with h2 | ⟨rfl, h2⟩
          · exact .inl h2
          · exact .inr ⟨rfl, ih b c h1 h2⟩
theorem bl_tri (a : List UInt8) : ∀ (b : List UInt8), Op.bytesLess a b = true ∨ a = b ∨ Op.bytesLess b a = true := by
  induction a with
  | nil =>
    intro b
    cases b with
    | nil => exact .inr (.inl rfl)
    | cons y b => exact .inl rfl
  | cons x a ih =>
    intro b
    cases b with
    | nil => exact .inr (.inr rfl)
    | cons y b =>
      simp only [Op.bytesLess, Bool.or_eq_true, Bool.and_eq_true, decide_eq_true_eq, beq_iff_eq]
      by_cases h : x < y
      · exact .inl (.inl h)
      · by_cases h' : y < x
        · exact .inr (.inr (.inl h'))
        · obtain rfl : x = y := UInt8.le_antisymm (UInt8.not_lt.1 h') (UInt8.not_lt.1 h)
          rcases ih b with h | rfl | h
          · exact .inl (.inr ⟨rfl, h⟩)
          · exact .inr (.inl rfl)
          · exact .inr (.inr (.inr ⟨rfl, h⟩))
/-- Bytewise less. -/
def lt (a b : ByteArray) : Bool := Op.bytesLess a.toList b.toList
theorem lt_irrefl (a : ByteArray) : lt a a = false := bl_irrefl _
theorem lt_trans {a b c : ByteArray} (h : lt a b = true) (h' : lt b c = true) : lt a c = true := bl_trans _ _ _ h h'
theorem lt_tri (a b : ByteArray) : lt a b = true ∨ a = b ∨ lt b a = true := by
  rcases bl_tri a.toList b.toList with h | h | h
  · exact .inl h
  · exact .inr (.inl (toList_inj h))
  · exact .inr (.inr h)
theorem lt_ne {a b : ByteArray} (h : lt a b = true) : a ≠ b := fun e => by rw [e, lt_irrefl] at h; cases h
theorem lt_asymm {a b : ByteArray} (h : lt a b = true) : lt b a = false := by
  cases h' : lt b a with
  | false => rfl
  | true => have := lt_trans h h'; rw [lt_irrefl] at this; cases this
end Go.Proofs.Ytegelpeegbngiaa.Q
/- Plain lemmas: both sides say the same of 'fields are ok'. -/
namespace Go.Proofs.Ytegelpeegbngiaa.Q
open Go.RowKit Go.Proofs.YtegelpeegbngiaaW.PrintWords Go.Proofs.YtegelpeegbngiaaW.PrintLast Go.Proofs.Ytegelpeegbngiaa.P

def ahead : Option ByteArray → ByteArray → Bool
  | none, _ => true
  | some y, x => lt y x
/-- Ascending by field behind what came before, each not too long. -/
def fieldsUp : Option ByteArray → List Pair → Bool
  | _, [] => true
  | p, x :: r => decide (x.f0.size ≤ 40) && (decide (x.f1.size ≤ 40) && (ahead p x.f0 && fieldsUp (some x.f0) r))
def fieldsB (l : List Pair) : Bool := fieldsUp none l && decide ((l.length : Int) ≤ 16)
def before (l : List Pair) (i : Nat) : Option ByteArray := if h : 0 < i ∧ i - 1 < l.length then some (l[i - 1]'h.2).f0 else none
theorem spec_FieldsOk_l0 (l : List Pair) (hl : l.length ≤ maxLen) (d : Nat) : ∀ (i : Nat), i + d = l.length → Ev (fun k => spec_FieldsOk.l0 k l (i : Int)) (fieldsUp (before l i) (l.drop i) && decide ((l.length : Int) ≤ 16)) := by
  unfold maxLen at hl
  induction d with
  | zero =>
    intro i hi
    refine Ev.step (g := fun k => spec_FieldsOk.l0 k _ _) (fun k => by rw [spec_FieldsOk.l0]) (neg (by omega) (ret' ?_))
    rw [List.drop_of_length_le (by omega), fieldsUp, Bool.true_and]
  | succ d ih =>
    intro i hi
    have hlt : i < l.length := by omega
    refine Ev.step (g := fun k => spec_FieldsOk.l0 k _ _) (fun k => by rw [spec_FieldsOk.l0]) (pos (by omega) (pos (by omega) ?_))
    try refine pos (by omega) ?_
    rw [rdPair_lt _ _ hlt, List.drop_eq_getElem_cons hlt, fieldsUp, wrap_id (x := (i : Int) + 1) (by omega) (by omega)]
    have hb : before l (i + 1) = some l[i].f0 := by unfold before; rw [dif_pos ⟨by omega, by omega⟩]; rfl
    have ih := ih (i + 1) (by omega)
    rw [hb] at ih
    refine both (fun h => ret' ?_) (fun h => both (fun h' => ret' ?_) (fun h' => ?_))
    · rw [decide_eq_false (by omega), Bool.false_and, Bool.false_and]
    · rw [decide_eq_false (p := l[i].f1.size ≤ 40) (by omega)]; simp
    · rw [decide_eq_true (by omega), decide_eq_true (p := l[i].f1.size ≤ 40) (by omega), Bool.true_and, Bool.true_and]
      by_cases h0 : i = 0
      · subst h0
        refine neg (by omega) (of_eq ih ?_)
        simp [before, ahead]
      · have hlt1 : i - 1 < l.length := by omega
        have hp : before l i = some l[i - 1].f0 := by unfold before; rw [dif_pos ⟨by omega, hlt1⟩]
        have e : wrap64 ((i : Int) - 1) = ((i - 1 : Nat) : Int) := by rw [wrap_id (by omega) (by omega)]; omega
        rw [hp, e, rdPair_lt _ _ hlt1]
        refine pos (by omega) (pos (by omega) (pos (by omega) (both (fun h => ?_) (fun h => ret' ?_))))
        · refine of_eq ih ?_
          show _ = (lt l[i - 1].f0 l[i].f0 && fieldsUp (some l[i].f0) (l.drop (i + 1)) && _)
          rw [show lt l[i - 1].f0 l[i].f0 = true from h, Bool.true_and]
        · show false = (lt l[i - 1].f0 l[i].f0 && fieldsUp (some l[i].f0) (l.drop (i + 1)) && _)
          rw [show lt l[i - 1].f0 l[i].f0 = false from Bool.eq_false_iff.2 h, Bool.false_and, Bool.false_and]
theorem spec_FieldsOk_ev (l : List Pair) (hl : l.length ≤ maxLen) : Ev (fun k => spec_FieldsOk.f k l) (fieldsB l) := by
  have := spec_FieldsOk_l0 l hl l.length 0 (by omega)
  simpa [before, spec_FieldsOk.f, fieldsB] using this
theorem impl_FieldsOk_l0 (l : List Pair) (hl : l.length ≤ maxLen) (d : Nat) : ∀ (i : Nat), i + d = l.length → Ev (fun k => impl_FieldsOk.l0 k l l (l.length : Int) (i : Int)) (fieldsUp (before l i) (l.drop i) && decide ((l.length : Int) ≤ 16)) := by
  unfold maxLen at hl
  induction d with
  | zero =>
    intro i hi
    refine Ev.step (g := fun k => impl_FieldsOk.l0 k _ _ _ _) (fun k => by rw [impl_FieldsOk.l0]) (neg (by omega) (ret' ?_))
    rw [List.drop_of_length_le (by omega), fieldsUp, Bool.true_and]
  | succ d ih =>
    intro i hi
    have hlt : i < l.length := by omega
    refine Ev.step (g := fun k => impl_FieldsOk.l0 k _ _ _ _) (fun k => by rw [impl_FieldsOk.l0]) (pos (by omega) (pos (by omega) ?_))
    try refine pos (by omega) ?_
    rw [rdPair_lt _ _ hlt, List.drop_eq_getElem_cons hlt, fieldsUp, wrap_id (x := (i : Int) + 1) (by omega) (by omega)]
    have hb : before l (i + 1) = some l[i].f0 := by unfold before; rw [dif_pos ⟨by omega, by omega⟩]; rfl
    have ih := ih (i + 1) (by omega)
    rw [hb] at ih
    refine both (fun h => ret' ?_) (fun h => both (fun h' => ret' ?_) (fun h' => ?_))
    · rw [decide_eq_false (by omega), Bool.false_and, Bool.false_and]
    · rw [decide_eq_false (p := l[i].f1.size ≤ 40) (by omega)]; simp
    · rw [decide_eq_true (by omega), decide_eq_true (p := l[i].f1.size ≤ 40) (by omega), Bool.true_and, Bool.true_and]
      by_cases h0 : i = 0
      · subst h0
        refine neg (by omega) (of_eq ih ?_)
        simp [before, ahead]
      · have hlt1 : i - 1 < l.length := by omega
        have hp : before l i = some l[i - 1].f0 := by unfold before; rw [dif_pos ⟨by omega, hlt1⟩]
        have e : wrap64 ((i : Int) - 1) = ((i - 1 : Nat) : Int) := by rw [wrap_id (by omega) (by omega)]; omega
        rw [hp, e, rdPair_lt _ _ hlt1]
        refine pos (by omega) (pos (by omega) (pos (by omega) (both (fun h => ?_) (fun h => ret' ?_))))
        · refine of_eq ih ?_
          show _ = (lt l[i - 1].f0 l[i].f0 && fieldsUp (some l[i].f0) (l.drop (i + 1)) && _)
          rw [show lt l[i - 1].f0 l[i].f0 = true from h, Bool.true_and]
        · show false = (lt l[i - 1].f0 l[i].f0 && fieldsUp (some l[i].f0) (l.drop (i + 1)) && _)
          rw [show lt l[i - 1].f0 l[i].f0 = false from Bool.eq_false_iff.2 h, Bool.false_and, Bool.false_and]
theorem impl_FieldsOk_ev (l : List Pair) (hl : l.length ≤ maxLen) : Ev (fun k => impl_FieldsOk.f k l) (fieldsB l) := by
  have := impl_FieldsOk_l0 l hl l.length 0 (by omega)
  simpa [before, impl_FieldsOk.f, fieldsB] using this
end Go.Proofs.Ytegelpeegbngiaa.Q
/- Plain lemmas: the place of a field, FieldsGet and FieldsDrop, on both sides. -/
namespace Go.Proofs.Ytegelpeegbngiaa.Q
open Go.RowKit Go.Proofs.YtegelpeegbngiaaW.PrintWords Go.Proofs.YtegelpeegbngiaaW.PrintLast Go.Proofs.Ytegelpeegbngiaa.P

/-- The place of a field, or where it would come; and whether it is there. -/
def atP (t : ByteArray) : List Pair → Nat → Nat × Bool
  | [], i => (i, false)
  | x :: r, i => if lt x.f0 t = true then atP t r (i + 1) else (i, x.f0.toList == t.toList)
theorem l3At_l0 (l : List Pair) (hl : l.length ≤ maxLen) (t : ByteArray) (d : Nat) : ∀ (i : Nat), i + d = l.length → Ev (fun k => spec_l3At.l0 k l t (i : Int)) (((atP t (l.drop i) i).1 : Int), (atP t (l.drop i) i).2) := by
  unfold maxLen at hl
  induction d with
  | zero =>
    intro i hi
    refine Ev.step (g := fun k => spec_l3At.l0 k _ _ _) (fun k => by rw [spec_l3At.l0]) (neg (by omega) (ret' ?_))
    rw [List.drop_of_length_le (by omega)]
    rfl
  | succ d ih =>
    intro i hi
    have hlt : i < l.length := by omega
    refine Ev.step (g := fun k => spec_l3At.l0 k _ _ _) (fun k => by rw [spec_l3At.l0]) (pos (by omega) (pos (by omega) ?_))
    rw [rdPair_lt _ _ hlt, List.drop_eq_getElem_cons hlt, wrap_id (x := (i : Int) + 1) (by omega) (by omega), atP]
    refine both (fun h => ?_) (fun h => ?_)
    · rw [if_pos (show lt l[i].f0 t = true from h)]
      exact ih (i + 1) (by omega)
    · rw [if_neg (show ¬ lt l[i].f0 t = true from h)]
      exact ret _
theorem l3At_ev (l : List Pair) (hl : l.length ≤ maxLen) (t : ByteArray) : Ev (fun k => spec_l3At.f k l t) (((atP t l 0).1 : Int), (atP t l 0).2) := l3At_l0 l hl t l.length 0 (by omega)
theorem from_none (t : ByteArray) (r : List Pair) : ∀ (y : ByteArray) (i : Nat), ¬ lt y t = true → fieldsUp (some y) r = true → impl_fieldAt.from t r i = -1 := by
  induction r with
  | nil => intro y i _ _; rfl
  | cons x r ih =>
    intro y i hy hf
    simp only [fieldsUp, ahead, Bool.and_eq_true] at hf
    obtain ⟨_, _, h1, h2⟩ := hf
    rw [impl_fieldAt.from, if_neg (fun e => hy (by rw [← toList_inj e]; exact h1))]
    exact ih x.f0 (i + 1) (fun e => hy (lt_trans h1 e)) h2
theorem from_at (t : ByteArray) (r : List Pair) : ∀ (p : Option ByteArray) (i : Nat), fieldsUp p r = true → impl_fieldAt.from t r i = if (atP t r i).2 = true then ((atP t r i).1 : Int) else -1 := by
  induction r with
  | nil => intro p i _; rfl
  | cons x r ih =>
    intro p i hf
    simp only [fieldsUp, Bool.and_eq_true] at hf
    obtain ⟨_, _, _, h2⟩ := hf
    rw [impl_fieldAt.from, atP]
    by_cases h : lt x.f0 t = true
    · rw [if_pos h, if_neg (fun e => lt_ne h (toList_inj e))]
      exact ih _ _ h2
    · rw [if_neg h]
      by_cases h' : x.f0.toList = t.toList
      · simp [h']
      · rw [if_neg h', from_none t r x.f0 (i + 1) h h2]
        simp [h']
theorem atP_bd (t : ByteArray) (r : List Pair) : ∀ (i : Nat), i ≤ (atP t r i).1 ∧ (atP t r i).1 ≤ i + r.length ∧ ((atP t r i).2 = true → (atP t r i).1 < i + r.length) := by
  induction r with
  | nil => intro i; simp [atP]
  | cons x r ih =>
    intro i
    rw [atP]
    by_cases h : lt x.f0 t = true
    · rw [if_pos h]
      obtain ⟨a, b, c⟩ := ih (i + 1)
      refine ⟨by omega, by simp; omega, fun q => ?_⟩
      have := c q
      simp; omega
    · rw [if_neg h]
      simp
theorem fieldsB_len {l : List Pair} (h : fieldsB l = true) : l.length ≤ 16 := by
  simp only [fieldsB, Bool.and_eq_true, decide_eq_true_eq] at h
  omega
theorem fieldsB_up {l : List Pair} (h : fieldsB l = true) : fieldsUp none l = true := by
  simp only [fieldsB, Bool.and_eq_true] at h
  exact h.1
def fieldsGetM (l : List Pair) (t : ByteArray) : ByteArray × Bool :=
  if fieldsB l = true ∧ (atP t l 0).2 = true then ((rd_T38 l (atP t l 0).1).f1, true) else (⟨#[]⟩, false)
theorem spec_FieldsGet_ev (l : List Pair) (hl : l.length ≤ maxLen) (t : ByteArray) : Ev (fun k => spec_FieldsGet.f k l t) (fieldsGetM l t) := by
  unfold spec_FieldsGet.f fieldsGetM
  refine Ev.bind (l3At_ev l hl t) (Ev.bind (spec_FieldsOk_ev l hl) ?_)
  obtain ⟨h1, h2, h3⟩ := atP_bd t l 0
  cases hF : fieldsB l with
  | false => exact neg (by decide) (ret' (by simp))
  | true =>
    refine pos rfl ?_
    dsimp only
    cases hA : (atP t l 0).2 with
    | false => exact neg (by decide) (ret' (by simp))
    | true =>
      have := h3 hA
      exact pos rfl (pos (by omega) (pos (by omega) (ret' (by simp))))
theorem impl_FieldsGet_ev (l : List Pair) (hl : l.length ≤ maxLen) (t : ByteArray) : Ev (fun k => impl_FieldsGet.f k l t) (fieldsGetM l t) := by
  unfold impl_FieldsGet.f fieldsGetM
  refine Ev.bind (impl_FieldsOk_ev l hl) ?_
  obtain ⟨h1, h2, h3⟩ := atP_bd t l 0
  cases hF : fieldsB l with
  | false => exact neg (by decide) (ret' (by simp))
  | true =>
    refine pos rfl (Ev.bind (val rfl) ?_)
    rw [from_at t l none 0 (fieldsB_up hF)]
    cases hA : (atP t l 0).2 with
    | false =>
      simp only [Bool.false_eq_true, ↓reduceIte]
      exact pos (by omega) (ret' (by simp))
    | true =>
      have := h3 hA
      simp only [↓reduceIte]
      exact neg (by omega) (pos (by omega) (pos (by omega) (ret' (by simp))))
def fieldsDropM (l : List Pair) (t : ByteArray) : List Pair × Bool :=
  if fieldsB l = true then (if (atP t l 0).2 = true then (l.eraseIdx (atP t l 0).1, true) else (l, false)) else ([], false)
theorem fieldsDropM_len (l : List Pair) (t : ByteArray) : (fieldsDropM l t).1.length ≤ l.length := by
  unfold fieldsDropM
  split
  · split
    · exact List.length_eraseIdx_le _ _
    · exact Nat.le_refl _
  · simp
theorem copiedPairs_ev (l : List Pair) (hl : l.length ≤ 1048576) : Ev (fun _ => impl_copiedPairs.f l) l := by
  unfold impl_copiedPairs.f
  refine Ev.bind (ret _) (pos ?_ (ret' rfl))
  simp; omega
theorem spec_FieldsDrop_ev (l : List Pair) (hl : l.length ≤ maxLen) (t : ByteArray) : Ev (fun k => spec_FieldsDrop.f k l t) (fieldsDropM l t) := by
  unfold spec_FieldsDrop.f fieldsDropM
  refine Ev.bind (spec_FieldsOk_ev l hl) ?_
  obtain ⟨h1, h2, h3⟩ := atP_bd t l 0
  cases hF : fieldsB l with
  | false => exact neg (by decide) (ret' (by simp))
  | true =>
    have h16 := fieldsB_len hF
    refine pos rfl (Ev.bind (l3At_ev l hl t) ?_)
    dsimp only
    cases hA : (atP t l 0).2 with
    | false =>
      simp only [Bool.false_eq_true, ↓reduceIte]
      refine Ev.bind (ret _) (pos (by simp; omega) (ret' (by simp)))
    | true =>
      have := h3 hA
      generalize (atP t l 0).1 = n at h2 this
      rw [wrap_id (by omega) (by omega)]
      simp only [↓reduceIte]
      refine (Ev.bind (ret _) (pos (by omega) (pos (by omega) (Ev.bind (ret _) ?_))))
      refine pos (by simp; omega) (Ev.bind (ret _) (pos (by omega) (pos (by omega) (Ev.bind (ret _) ?_))))
      refine pos (by simp; omega) (ret' ?_)
      rw [Int.toNat_natCast, show ((n : Int) + 1).toNat = n + 1 by omega, List.nil_append, List.eraseIdx_eq_take_drop_succ]
theorem impl_FieldsDrop_ev (l : List Pair) (hl : l.length ≤ maxLen) (t : ByteArray) : Ev (fun k => impl_FieldsDrop.f k l t) (fieldsDropM l t) := by
  unfold impl_FieldsDrop.f fieldsDropM
  refine Ev.bind (impl_FieldsOk_ev l hl) ?_
  obtain ⟨h1, h2, h3⟩ := atP_bd t l 0
  cases hF : fieldsB l with
  | false => exact neg (by decide) (ret' (by simp))
  | true =>
    have h16 := fieldsB_len hF
    refine pos rfl (Ev.bind (copiedPairs_ev l (by omega)) (Ev.bind (val rfl) ?_))
    rw [from_at t l none 0 (fieldsB_up hF)]
    cases hA : (atP t l 0).2 with
    | false =>
      simp only [Bool.false_eq_true, ↓reduceIte]
      exact pos (by omega) (ret' rfl)
    | true =>
      have := h3 hA
      generalize (atP t l 0).1 = n at h2 this
      simp only [↓reduceIte]
      have hD : slices_Delete_impl_Pair_impl_Pair.f l (n : Int) (wrap64 ((n : Int) + 1)) = some (l.eraseIdx n) := by
        unfold slices_Delete_impl_Pair_impl_Pair.f
        rw [if_pos ⟨by omega, by omega, by rw [wrap_id (by omega) (by omega)]⟩, Int.toNat_natCast]
      have hle := List.length_eraseIdx_le l n
      refine neg (by omega) ?_
      refine Ev.bind (val hD) ?_
      exact Ev.bind (copiedPairs_ev _ (by omega)) (ret' rfl)
end Go.Proofs.Ytegelpeegbngiaa.Q
/- Plain lemmas: FieldsPut on both sides: what the sort makes of a field put behind, or in its place. -/
namespace Go.Proofs.Ytegelpeegbngiaa.Q
open Go.RowKit Go.Proofs.YtegelpeegbngiaaW.PrintWords Go.Proofs.YtegelpeegbngiaaW.PrintLast Go.Proofs.Ytegelpeegbngiaa.P

/-- Put in its place, ascending. -/
def insF (p : Pair) : List Pair → List Pair
  | [] => [p]
  | x :: r => if lt x.f0 p.f0 = true then x :: insF p r else if (x.f0.toList == p.f0.toList) = true then p :: r else p :: x :: r
theorem insF_at (p : Pair) (l : List Pair) : ∀ (i : Nat), insF p l = if (atP p.f0 l i).2 = true then l.set ((atP p.f0 l i).1 - i) p else l.take ((atP p.f0 l i).1 - i) ++ p :: l.drop ((atP p.f0 l i).1 - i) := by
  induction l with
  | nil => intro i; simp [insF, atP]
  | cons x r ih =>
    intro i
    rw [insF, atP]
    by_cases h : lt x.f0 p.f0 = true
    · rw [if_pos h, if_pos h, ih (i + 1)]
      have hb := (atP_bd p.f0 r (i + 1)).1
      rw [show (atP p.f0 r (i + 1)).1 - i = ((atP p.f0 r (i + 1)).1 - (i + 1)) + 1 by omega]
      split
      · rw [List.set_cons_succ]
      · rw [List.take_succ_cons, List.drop_succ_cons, List.cons_append]
    · rw [if_neg h, if_neg h]
      simp
theorem mem_insF {p y : Pair} {l : List Pair} (h : y ∈ insF p l) : y = p ∨ y ∈ l := by
  induction l with
  | nil => simpa [insF] using h
  | cons x r ih =>
    rw [insF] at h
    split at h
    · rcases List.mem_cons.1 h with rfl | h
      · exact .inr (by simp)
      · rcases ih h with h | h
        · exact .inl h
        · exact .inr (by simp [h])
    · split at h
      · rcases List.mem_cons.1 h with rfl | h
        · exact .inl rfl
        · exact .inr (by simp [h])
      · rcases List.mem_cons.1 h with rfl | h
        · exact .inl rfl
        · exact .inr h
theorem insF_up {p : Pair} {l : List Pair} (h : l.Pairwise fun a b => lt a.f0 b.f0 = true) : (insF p l).Pairwise fun a b => lt a.f0 b.f0 = true := by
  induction l with
  | nil => simp [insF]
  | cons x r ih =>
    rw [List.pairwise_cons] at h
    rw [insF]
    split
    · rename_i hx
      rw [List.pairwise_cons]
      refine ⟨fun y hy => ?_, ih h.2⟩
      rcases mem_insF hy with rfl | hy
      · exact hx
      · exact h.1 y hy
    · rename_i hx
      split
      · rename_i he
        have e : x.f0 = p.f0 := toList_inj (by simpa using he)
        rw [List.pairwise_cons]
        exact ⟨fun y hy => e ▸ h.1 y hy, h.2⟩
      · rename_i he
        have hp : lt p.f0 x.f0 = true := by
          rcases lt_tri x.f0 p.f0 with q | q | q
          · exact absurd q hx
          · exact absurd (by simp [q]) he
          · exact q
        rw [List.pairwise_cons, List.pairwise_cons]
        refine ⟨fun y hy => ?_, h⟩
        rcases List.mem_cons.1 hy with rfl | hy
        · exact hp
        · exact lt_trans hp (h.1 y hy)
theorem insF_len (p : Pair) (l : List Pair) : (insF p l).length ≤ l.length + 1 := by
  induction l with
  | nil => simp [insF]
  | cons x r ih =>
    rw [insF]
    split
    · simp; omega
    · split <;> simp
theorem fieldsUp_pw (l : List Pair) : ∀ (o : Option ByteArray), fieldsUp o l = true → l.Pairwise (fun a b => lt a.f0 b.f0 = true) ∧ ∀ y, o = some y → ∀ a ∈ l, lt y a.f0 = true := by
  induction l with
  | nil => intro o _; exact ⟨List.Pairwise.nil, fun y _ a ha => by cases ha⟩
  | cons x r ih =>
    intro o h
    simp only [fieldsUp, Bool.and_eq_true] at h
    obtain ⟨_, _, h1, h2⟩ := h
    obtain ⟨a, b⟩ := ih _ h2
    refine ⟨List.pairwise_cons.2 ⟨b x.f0 rfl, a⟩, fun y hy z hz => ?_⟩
    subst hy
    have h1 : lt y x.f0 = true := h1
    rcases List.mem_cons.1 hz with rfl | hz
    · exact h1
    · exact lt_trans h1 (b x.f0 rfl z hz)
theorem fieldsB_pw {l : List Pair} (h : fieldsB l = true) : l.Pairwise fun a b => lt a.f0 b.f0 = true := (fieldsUp_pw l none (fieldsB_up h)).1
/-- Whatever is as many and the same as what is ascending: sorted, it is that. -/
theorem sortF_ev {l m : List Pair} (hp : l.Perm m) (hm : m.Pairwise fun a b => lt a.f0 b.f0 = true) (hn : l ≠ []) (hl : l.length ≤ 1048576) : slices_SortFunc_impl_Pair_impl_Pair.f l = some m := by
  have hd : m.Pairwise fun a b => a.f0 ≠ b.f0 := hm.imp fun h => lt_ne h
  have hdl : l.Pairwise fun a b => a.f0 ≠ b.f0 := hp.symm.pairwise hd (fun h => h.symm)
  unfold slices_SortFunc_impl_Pair_impl_Pair.f
  rw [if_pos ⟨hn, hdl, by omega⟩]
  congr 1
  unfold slices_SortFunc_impl_Pair_impl_Pair.sorted
  have hO := slices_SortFunc_impl_Pair_impl_Pair.swo
  refine List.Perm.eq_of_pairwise (le := fun x y => (!slices_SortFunc_impl_Pair_impl_Pair.lt y x) = true) (fun a b ha hb h h' => ?_) (List.pairwise_mergeSort (fun a b c h h' => ?_) (fun a b => ?_) l) (hm.imp fun {a b} h => ?_) ((List.mergeSort_perm l _).trans hp)
  · simp only [Bool.not_eq_true'] at h h'
    exact slices_SortFunc_impl_Pair_impl_Pair.uniq hd a (hp.mem_iff.1 ((List.mergeSort_perm l _).mem_iff.1 ha)) b hb (slices_SortFunc_impl_Pair_impl_Pair.lt_eq h' h)
  · simp only [Bool.not_eq_true'] at h h' ⊢
    exact hO.ntrans c b a h' h
  · cases h : slices_SortFunc_impl_Pair_impl_Pair.lt b a with
    | false => rfl
    | true =>
      cases h' : slices_SortFunc_impl_Pair_impl_Pair.lt a b with
      | false => rfl
      | true => have := hO.trans _ _ _ h h'; rw [hO.irrefl] at this; cases this
  · rw [show slices_SortFunc_impl_Pair_impl_Pair.lt b a = false from lt_asymm h]
    rfl
def fieldsPutM (l : List Pair) (p : Pair) : List Pair × Bool × Bool :=
  if fieldsB l = true then (if fieldsB (insF p l) = true then (insF p l, !(atP p.f0 l 0).2, true) else (l, false, false)) else ([], false, false)
theorem fieldsPutM_len (l : List Pair) (p : Pair) : (fieldsPutM l p).1.length ≤ l.length + 1 := by
  unfold fieldsPutM
  split
  · split
    · exact insF_len p l
    · simp
  · simp
theorem at_same (t : ByteArray) (l : List Pair) : ∀ (i : Nat), (atP t l i).2 = true → ∀ h : (atP t l i).1 - i < l.length, l[(atP t l i).1 - i].f0 = t := by
  induction l with
  | nil => intro i h; simp [atP] at h
  | cons x r ih =>
    intro i h hl
    have hb := (atP_bd t r (i + 1)).1
    have e : atP t (x :: r) i = if lt x.f0 t = true then atP t r (i + 1) else (i, x.f0.toList == t.toList) := rfl
    by_cases hx : lt x.f0 t = true
    · rw [if_pos hx] at e
      have e2 : (atP t (x :: r) i).1 - i = ((atP t r (i + 1)).1 - (i + 1)) + 1 := by rw [e]; omega
      have h' : (atP t r (i + 1)).2 = true := by rw [← e]; exact h
      have := ih (i + 1) h' (by rw [e2] at hl; simpa using hl)
      simp only [e2, List.getElem_cons_succ]
      exact this
    · rw [if_neg hx] at e
      have e2 : (atP t (x :: r) i).1 - i = 0 := by rw [e]; simp
      have h' : (x.f0.toList == t.toList) = true := by rw [e] at h; exact h
      simp only [e2, List.getElem_cons_zero]
      exact toList_inj (by simpa using h')
theorem spec_FieldsPut_ev (l : List Pair) (hl : l.length ≤ maxLen) (p : Pair) : Ev (fun k => spec_FieldsPut.f k l p.f0 p.f1) (fieldsPutM l p) := by
  unfold spec_FieldsPut.f fieldsPutM
  refine Ev.bind (spec_FieldsOk_ev l hl) ?_
  obtain ⟨h1, h2, h3⟩ := atP_bd p.f0 l 0
  cases hF : fieldsB l with
  | false => exact neg (by decide) (ret' (by simp))
  | true =>
    have h16 := fieldsB_len hF
    refine pos rfl (Ev.bind (l3At_ev l hl p.f0) ?_)
    have hi := insF_at p l 0
    have hil := insF_len p l
    have hK := spec_FieldsOk_ev (insF p l) (by unfold maxLen; omega)
    simp only [Nat.sub_zero] at hi
    rw [if_pos rfl]
    have fin : Ev (fun k => spec_FieldsPut.j0 k l (atP p.f0 l 0).2 (insF p l)) (if fieldsB (insF p l) = true then (insF p l, !(atP p.f0 l 0).2, true) else (l, false, false)) := by
      refine Ev.step (g := fun k => spec_FieldsPut.j0 k _ _ _) (fun k => by rw [spec_FieldsPut.j0]) (Ev.bind hK ?_)
      cases hb : fieldsB (insF p l) with
      | true => exact pos rfl (ret' rfl)
      | false => exact neg (by decide) (Ev.bind (ret _) (pos (by simp; omega) (ret' (by simp))))
    dsimp only
    refine Ev.bind (ret _) (pos (by simp; omega) (Ev.bind (ret _) ?_))
    rw [List.nil_append]
    cases hA : (atP p.f0 l 0).2 with
    | true =>
      have := h3 hA
      rw [hA] at fin
      rw [if_pos hA] at hi
      rw [hi] at fin
      refine pos rfl (pos (by omega) (pos (by omega) ?_))
      rw [Int.toNat_natCast]
      rw [hi]
      exact fin
    | false =>
      rw [hA] at fin
      rw [if_neg (by rw [hA]; decide)] at hi
      refine neg (by decide) (Ev.bind (ret _) (pos (by omega) (pos (by omega) (Ev.bind (ret _) ?_))))
      rw [Int.toNat_natCast]
      refine pos (by simp; omega) (Ev.bind (ret _) (Ev.bind (ret _) (pos (by simp; omega) (Ev.bind (ret _) (Ev.bind (ret _) (pos (by simp; omega) ?_))))))
      rw [List.nil_append, List.append_assoc, List.singleton_append, ← hi]
      exact fin
theorem impl_FieldsPut_ev (l : List Pair) (hl : l.length ≤ maxLen) (p : Pair) : Ev (fun k => impl_FieldsPut.f k l p.f0 p.f1) (fieldsPutM l p) := by
  unfold impl_FieldsPut.f fieldsPutM
  refine Ev.bind (impl_FieldsOk_ev l hl) ?_
  obtain ⟨h1, h2, h3⟩ := atP_bd p.f0 l 0
  cases hF : fieldsB l with
  | false => exact neg (by decide) (ret' (by simp))
  | true =>
    have h16 := fieldsB_len hF
    have hC := copiedPairs_ev l (by omega)
    refine pos rfl (Ev.bind hC (Ev.bind (val rfl) ?_))
    rw [from_at p.f0 l none 0 (fieldsB_up hF), if_pos rfl]
    have hi := insF_at p l 0
    have hil := insF_len p l
    have hup := insF_up (p := p) (fieldsB_pw hF)
    have hK := impl_FieldsOk_ev (insF p l) (by unfold maxLen; omega)
    have hC2 := copiedPairs_ev (insF p l) (by omega)
    simp only [Nat.sub_zero] at hi
    have fin : ∀ (m : List Pair) (a : Int), m.Perm (insF p l) → m ≠ [] → (decide (a < 0)) = !(atP p.f0 l 0).2 → Ev (fun k => impl_FieldsPut.j0 k l m a) (if fieldsB (insF p l) = true then (insF p l, !(atP p.f0 l 0).2, true) else (l, false, false)) := by
      intro m a hm hne ha
      have hml := hm.length_eq
      refine Ev.step (g := fun k => impl_FieldsPut.j0 k _ _ _) (fun k => by rw [impl_FieldsPut.j0]) (Ev.bind (val (sortF_ev hm hup hne (by omega))) (Ev.bind hK ?_))
      cases hb : fieldsB (insF p l) with
      | true => exact pos rfl (Ev.bind hC2 (ret' (by rw [ha]; rfl)))
      | false => exact neg (by decide) (Ev.bind hC (ret' (by simp)))
    cases hA : (atP p.f0 l 0).2 with
    | true =>
      have := h3 hA
      rw [hA] at fin
      rw [if_pos hA] at hi
      simp only [↓reduceIte]
      refine pos (by omega) (pos (by omega) (pos (by omega) ?_))
      rw [Int.toNat_natCast]
      exact fin _ _ (by rw [hi]) (fun e => by rw [List.set_eq_nil_iff] at e; rw [e] at this; simp at this) (by simp)
    | false =>
      rw [hA] at fin
      rw [if_neg (by rw [hA]; decide)] at hi
      simp only [Bool.false_eq_true, ↓reduceIte]
      refine neg (by omega) (pos (by omega) ?_)
      refine fin _ _ ?_ (by simp) (by simp)
      rw [hi]
      conv => lhs; rw [← List.take_append_drop (atP p.f0 l 0).1 l]
      rw [List.append_assoc]
      exact List.Perm.append_left _ (List.perm_append_singleton _ _)
end Go.Proofs.Ytegelpeegbngiaa.Q
