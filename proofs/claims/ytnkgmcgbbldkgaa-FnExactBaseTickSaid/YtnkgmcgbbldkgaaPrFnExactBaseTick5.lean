import Derived.Test.YtnkgmcgbbldkgaaPrFnExactBaseTick4
/- Texts of this claim, one behind the other: words on worlds and rows, printed functions and their walks, plain lemmas. -/
namespace Go.Proofs.Ytnkgmcgbbldkgaa.P
open Go.RowKit Go.Proofs.YtnkgmcgbbldkgaaW.PrintWords Go.Proofs.YtnkgmcgbbldkgaaW.PrintLast Go.Proofs.YtnkgmcgbbldkgaaW.PrintMore
attribute [local go_sem] max2_int min2_int max_two min_two max_three min_three max_four min_four   -- for this text's walks alone
set_option linter.unusedVariables false
set_option linter.unusedSimpArgs false
set_option maxHeartbeats 8000000 in
set_option maxRecDepth 100000 in
theorem impl_FieldsOk.calls (k : Nat) (A0 : Option Addr) (c0 : Nat) (l0 : List (S101)) (r : Bool) (w : World) (hr0 : Kd.C k101 w A0 l0.length l0) (hc0 : l0.length ≤ c0) (h : impl_FieldsOk.f k l0 = some r) :
  Calls Try.prog 53 #[.slice A0 l0.length c0] w fun e w' => e = .returned (.bool r) ∧ Below w.heap.size w w' := by
 have hu101 := Try.underlying101; have HR0 := zq9 hr0; have HC0 := zq9 hc0; clear hr0 hc0
 have HB := zq9 (Below.refl w.heap.size w)
 have H : (impl_FieldsOk.l0 k l0 l0 (l0.length : Int) 0) = some r := h
 clear h; have H' := zq9 H; clear H
 go_enter Try.func53, Try.ntmps53
 go_wp2
 repeat (go_quiet (fail); try go_wp2)
 go_loopg [7] k (fun kq v7 w' => ∃ (x7_1 : Int), v7 = .int .i64 x7_1 ∧ Aside0 (impl_FieldsOk.l0 kq l0 l0 (l0.length : Int) x7_1 = some r) ∧ Aside0 (kq ≤ k) ∧ Aside0 (Below w.heap.size w w'))
 case atStart => exact ⟨(0), (by first | rfl | (simp; done) | (simp [*]; done)), H', ⟨Nat.le_refl _⟩, ⟨by exact bl HB⟩⟩
 case round =>
  clear H'
  obtain ⟨x7_1, rfl, HA, HK1, HB⟩ := hrel
  cases gk with
  | zero => exact absurd HA.out (by simp [impl_FieldsOk.l0])
  | succ k1 =>
   have H := HA.out; clear HA
   simp only [impl_FieldsOk.l0] at H
   refine (Classical.em (x7_1 < (l0.length : Int))).elim (fun c2 => ?p0) (fun c2 => ?n0)
   case' p0 =>
    rw [if_pos c2] at H; have c2b0 : decide (x7_1 < (l0.length : Int)) = true := decide_eq_true c2; clear c2
    refine (Classical.em (0 ≤ x7_1)).elim (fun c3 => ?p1) (fun c3 => ?n1)
    case' p1 =>
     rw [if_pos c3] at H; have c3b0 : decide (0 ≤ x7_1) = true := decide_eq_true c3; clear c3
     refine (Classical.em (x7_1 < (l0.length : Int))).elim (fun c4 => ?p2) (fun c4 => ?n2)
     case' p2 =>
      rw [if_pos c4] at H; have c4b0 : decide (x7_1 < (l0.length : Int)) = true := decide_eq_true c4; clear c4
      refine (Classical.em ((((rd_T101 l0 x7_1).f0).size : Int) > 40)).elim (fun c5 => ?p3) (fun c5 => ?n3)
      case' p3 =>
       rw [if_pos c5] at H; have c5b0 : decide (40 < (((rd_T101 l0 x7_1).f0).size : Int)) = true := decide_eq_true c5
       have c5b1 : decide (40 < ((rd_T101 l0 x7_1).f0).size) = true := decide_eq_true (by omega)
       clear c5; obtain rfl := Option.some.inj H
      case' n3 =>
       rw [if_neg c5] at H; have c5b0 : decide (40 < (((rd_T101 l0 x7_1).f0).size : Int)) = false := decide_eq_false c5
       have c5b1 : decide (40 < ((rd_T101 l0 x7_1).f0).size) = false := decide_eq_false (by omega)
       clear c5
       refine (Classical.em ((((rd_T101 l0 x7_1).f1).size : Int) > 40)).elim (fun c8 => ?p4) (fun c8 => ?n4)
       case' p4 =>
        rw [if_pos c8] at H; have c8b0 : decide (40 < (((rd_T101 l0 x7_1).f1).size : Int)) = true := decide_eq_true c8
        have c8b1 : decide (40 < ((rd_T101 l0 x7_1).f1).size) = true := decide_eq_true (by omega)
        clear c8; obtain rfl := Option.some.inj H
       case n4 =>
        rw [if_neg c8] at H; have c8b0 : decide (40 < (((rd_T101 l0 x7_1).f1).size : Int)) = false := decide_eq_false c8
        have c8b1 : decide (40 < ((rd_T101 l0 x7_1).f1).size) = false := decide_eq_false (by omega)
        clear c8
        by_cases c11 : x7_1 > 0
        ·rw [if_pos c11] at H; have c11b0 : decide (0 < x7_1) = true := decide_eq_true c11; clear c11
         obtain ⟨ji12, hji12⟩ : ∃ j_ : Int, (wrap64 (x7_1 - 1)) = j_ := ⟨_, rfl⟩
         replace H : (if 0 ≤ (ji12) then (if (ji12) < (l0.length : Int) then (if ((Op.bytesLess (((rd_T101 l0 (ji12)).f0).toList) (((rd_T101 l0 x7_1).f0).toList)) = true) then (impl_FieldsOk.l0 k1 l0 l0 (l0.length : Int) (wrap64 (x7_1 + 1))) else (some false)) else (none)) else (none)) = some r := by first | (rw [hji12] at H; exact H) | (simp only [hji12] at H ⊢; exact H)
         have hji12w : (IntKind.i64.wrap (x7_1 - 1)) = ji12 := (i64_w _).trans hji12
         by_cases c13 : 0 ≤ (ji12)
         ·rw [if_pos c13] at H; have c13b0 : decide (0 ≤ (ji12)) = true := decide_eq_true c13; clear c13
          by_cases c14 : (ji12) < (l0.length : Int)
          ·rw [if_pos c14] at H; have c14b0 : decide ((ji12) < (l0.length : Int)) = true := decide_eq_true c14; clear c14
           by_cases c15 : ((Op.bytesLess (((rd_T101 l0 (ji12)).f0).toList) (((rd_T101 l0 x7_1).f0).toList)) = true)
           ·rw [if_pos c15] at H
            have c15b0 : (Op.bytesLess (((rd_T101 l0 (ji12)).f0).toList) (((rd_T101 l0 x7_1).f0).toList)) = true := c15
            clear c15; have H' := zq9 H; clear H
            have p202 : 0 ≤ (x7_1 : Int) := of_decide_eq_true ‹_›
            have q202 : x7_1 < (l0.length : Int) := of_decide_eq_true ‹_›
            obtain ⟨ad202, e202, hx202_0, hx202_1⟩ := at_T101 HR0.out x7_1 p202 q202
            cases e202; replace hx202_0 := hcl HB hx202_0; replace hx202_1 := hcl HB hx202_1; replace p202 := eq_true p202; replace q202 := eq_true q202
            go_wp2_with (first | ((with_reducible refine zq25 (N := 4) rfl ?_); (try (refine gate_guard (by rfl) ?_; dsimp only)); refine bx 4 #[.string (⟨#[]⟩ : ByteArray), .string (⟨#[]⟩ : ByteArray)] 101 ?_; intro gb203 hg w16 hbox hb; have n0_ := zq9 (zq27 (by exact bl HB) hb); have n1_ := zq9 (hbox); have n2_ := zq9 ((by rw [hg]; exact (zq29 (by exact bl HB)) : w.heap.size ≤ gb203)); have n3_ := n2_; clear HB; have HB := n0_; have BK203 := n1_; have GW203 := n2_; have GE203 := n3_; clear n0_ n1_ n2_ n3_; clear hb hbox hg; have hcz17_0 : w16.cell? ⟨gb203, 0, none⟩ = some (.string (⟨#[]⟩ : ByteArray)) := bc BK203 0; have hcz17_1 : w16.cell? ⟨gb203, 1, none⟩ = some (.string (⟨#[]⟩ : ByteArray)) := bc BK203 1; have hfz17_0 := zq6 BK203.out 0; have hfz17_1 := zq6 BK203.out 1; have p204 : 0 ≤ ((ji12) : Int) := of_decide_eq_true ‹_›; have q204 : (ji12) < (l0.length : Int) := of_decide_eq_true ‹_›; obtain ⟨ad204, e204, hx204_0, hx204_1⟩ := at_T101 HR0.out (ji12) p204 q204; obtain rfl : ad202 = ad204 := (by injection e204); have hn204_0 : ad202.block ≠ gb203 := Nat.ne_of_lt (Nat.lt_of_lt_of_le (by have := zq8 _ _ hx204_0; first | rwa [add_block] at this | exact this) GW203.out); have hn204_1 : ad202.block ≠ gb203 := Nat.ne_of_lt (Nat.lt_of_lt_of_le (by have := zq8 _ _ hx204_0; first | rwa [add_block] at this | exact this) GW203.out); replace hx204_0 := hcl HB hx204_0; replace hx204_1 := hcl HB hx204_1; replace hx204_0 := (cell_far (p := ⟨gb203, 0, none⟩) (by first | (rw [add_block]; exact hn204_0) | (show (Addr.add _ _).block ≠ _; rw [add_block]; exact hn204_0) | exact hn204_0) (.string ((rd_T101 l0 x7_1).f0))).trans hx204_0; replace hx204_1 := (cell_far (p := ⟨gb203, 0, none⟩) (by first | (rw [add_block]; exact hn204_0) | (show (Addr.add _ _).block ≠ _; rw [add_block]; exact hn204_0) | exact hn204_0) (.string ((rd_T101 l0 x7_1).f0))).trans hx204_1; replace hx204_0 := (cell_far (p := ⟨gb203, 1, none⟩) (by first | (rw [add_block]; exact hn204_1) | (show (Addr.add _ _).block ≠ _; rw [add_block]; exact hn204_1) | exact hn204_1) (.string ((rd_T101 l0 x7_1).f1))).trans hx204_0; replace hx204_1 := (cell_far (p := ⟨gb203, 1, none⟩) (by first | (rw [add_block]; exact hn204_1) | (show (Addr.add _ _).block ≠ _; rw [add_block]; exact hn204_1) | exact hn204_1) (.string ((rd_T101 l0 x7_1).f1))).trans hx204_1; (try have hy204_0 := fun (n_ : Nat) => (show ((((w16.drewN n_).setCell ⟨gb203, 0, none⟩ (.string ((rd_T101 l0 x7_1).f0))).setCell ⟨gb203, 1, none⟩ (.string ((rd_T101 l0 x7_1).f1)))).cell? _ = some _ from hx204_0)); (try have hy204_1 := fun (n_ : Nat) => (show ((((w16.drewN n_).setCell ⟨gb203, 0, none⟩ (.string ((rd_T101 l0 x7_1).f0))).setCell ⟨gb203, 1, none⟩ (.string ((rd_T101 l0 x7_1).f1)))).cell? _ = some _ from hx204_1)); clear hn204_0; clear hn204_1; replace p204 := eq_true p204; replace q204 := eq_true q204))
            repeat (go_quiet (first | ((with_reducible refine zq25 (N := 4) rfl ?_); (try (refine gate_guard (by rfl) ?_; dsimp only)); refine bx 4 #[.string (⟨#[]⟩ : ByteArray), .string (⟨#[]⟩ : ByteArray)] 101 ?_; intro gb203 hg w16 hbox hb; have n0_ := zq9 (zq27 (by exact bl HB) hb); have n1_ := zq9 (hbox); have n2_ := zq9 ((by rw [hg]; exact (zq29 (by exact bl HB)) : w.heap.size ≤ gb203)); have n3_ := n2_; clear HB; have HB := n0_; have BK203 := n1_; have GW203 := n2_; have GE203 := n3_; clear n0_ n1_ n2_ n3_; clear hb hbox hg; have hcz17_0 : w16.cell? ⟨gb203, 0, none⟩ = some (.string (⟨#[]⟩ : ByteArray)) := bc BK203 0; have hcz17_1 : w16.cell? ⟨gb203, 1, none⟩ = some (.string (⟨#[]⟩ : ByteArray)) := bc BK203 1; have hfz17_0 := zq6 BK203.out 0; have hfz17_1 := zq6 BK203.out 1; have p204 : 0 ≤ ((ji12) : Int) := of_decide_eq_true ‹_›; have q204 : (ji12) < (l0.length : Int) := of_decide_eq_true ‹_›; obtain ⟨ad204, e204, hx204_0, hx204_1⟩ := at_T101 HR0.out (ji12) p204 q204; obtain rfl : ad202 = ad204 := (by injection e204); have hn204_0 : ad202.block ≠ gb203 := Nat.ne_of_lt (Nat.lt_of_lt_of_le (by have := zq8 _ _ hx204_0; first | rwa [add_block] at this | exact this) GW203.out); have hn204_1 : ad202.block ≠ gb203 := Nat.ne_of_lt (Nat.lt_of_lt_of_le (by have := zq8 _ _ hx204_0; first | rwa [add_block] at this | exact this) GW203.out); replace hx204_0 := hcl HB hx204_0; replace hx204_1 := hcl HB hx204_1; replace hx204_0 := (cell_far (p := ⟨gb203, 0, none⟩) (by first | (rw [add_block]; exact hn204_0) | (show (Addr.add _ _).block ≠ _; rw [add_block]; exact hn204_0) | exact hn204_0) (.string ((rd_T101 l0 x7_1).f0))).trans hx204_0; replace hx204_1 := (cell_far (p := ⟨gb203, 0, none⟩) (by first | (rw [add_block]; exact hn204_0) | (show (Addr.add _ _).block ≠ _; rw [add_block]; exact hn204_0) | exact hn204_0) (.string ((rd_T101 l0 x7_1).f0))).trans hx204_1; replace hx204_0 := (cell_far (p := ⟨gb203, 1, none⟩) (by first | (rw [add_block]; exact hn204_1) | (show (Addr.add _ _).block ≠ _; rw [add_block]; exact hn204_1) | exact hn204_1) (.string ((rd_T101 l0 x7_1).f1))).trans hx204_0; replace hx204_1 := (cell_far (p := ⟨gb203, 1, none⟩) (by first | (rw [add_block]; exact hn204_1) | (show (Addr.add _ _).block ≠ _; rw [add_block]; exact hn204_1) | exact hn204_1) (.string ((rd_T101 l0 x7_1).f1))).trans hx204_1; (try have hy204_0 := fun (n_ : Nat) => (show ((((w16.drewN n_).setCell ⟨gb203, 0, none⟩ (.string ((rd_T101 l0 x7_1).f0))).setCell ⟨gb203, 1, none⟩ (.string ((rd_T101 l0 x7_1).f1)))).cell? _ = some _ from hx204_0)); (try have hy204_1 := fun (n_ : Nat) => (show ((((w16.drewN n_).setCell ⟨gb203, 0, none⟩ (.string ((rd_T101 l0 x7_1).f0))).setCell ⟨gb203, 1, none⟩ (.string ((rd_T101 l0 x7_1).f1)))).cell? _ = some _ from hx204_1)); clear hn204_0; clear hn204_1; replace p204 := eq_true p204; replace q204 := eq_true q204)); try go_wp2_with (first | ((with_reducible refine zq25 (N := 4) rfl ?_); (try (refine gate_guard (by rfl) ?_; dsimp only)); refine bx 4 #[.string (⟨#[]⟩ : ByteArray), .string (⟨#[]⟩ : ByteArray)] 101 ?_; intro gb203 hg w16 hbox hb; have n0_ := zq9 (zq27 (by exact bl HB) hb); have n1_ := zq9 (hbox); have n2_ := zq9 ((by rw [hg]; exact (zq29 (by exact bl HB)) : w.heap.size ≤ gb203)); have n3_ := n2_; clear HB; have HB := n0_; have BK203 := n1_; have GW203 := n2_; have GE203 := n3_; clear n0_ n1_ n2_ n3_; clear hb hbox hg; have hcz17_0 : w16.cell? ⟨gb203, 0, none⟩ = some (.string (⟨#[]⟩ : ByteArray)) := bc BK203 0; have hcz17_1 : w16.cell? ⟨gb203, 1, none⟩ = some (.string (⟨#[]⟩ : ByteArray)) := bc BK203 1; have hfz17_0 := zq6 BK203.out 0; have hfz17_1 := zq6 BK203.out 1; have p204 : 0 ≤ ((ji12) : Int) := of_decide_eq_true ‹_›; have q204 : (ji12) < (l0.length : Int) := of_decide_eq_true ‹_›; obtain ⟨ad204, e204, hx204_0, hx204_1⟩ := at_T101 HR0.out (ji12) p204 q204; obtain rfl : ad202 = ad204 := (by injection e204); have hn204_0 : ad202.block ≠ gb203 := Nat.ne_of_lt (Nat.lt_of_lt_of_le (by have := zq8 _ _ hx204_0; first | rwa [add_block] at this | exact this) GW203.out); have hn204_1 : ad202.block ≠ gb203 := Nat.ne_of_lt (Nat.lt_of_lt_of_le (by have := zq8 _ _ hx204_0; first | rwa [add_block] at this | exact this) GW203.out); replace hx204_0 := hcl HB hx204_0; replace hx204_1 := hcl HB hx204_1; replace hx204_0 := (cell_far (p := ⟨gb203, 0, none⟩) (by first | (rw [add_block]; exact hn204_0) | (show (Addr.add _ _).block ≠ _; rw [add_block]; exact hn204_0) | exact hn204_0) (.string ((rd_T101 l0 x7_1).f0))).trans hx204_0; replace hx204_1 := (cell_far (p := ⟨gb203, 0, none⟩) (by first | (rw [add_block]; exact hn204_0) | (show (Addr.add _ _).block ≠ _; rw [add_block]; exact hn204_0) | exact hn204_0) (.string ((rd_T101 l0 x7_1).f0))).trans hx204_1; replace hx204_0 := (cell_far (p := ⟨gb203, 1, none⟩) (by first | (rw [add_block]; exact hn204_1) | (show (Addr.add _ _).block ≠ _; rw [add_block]; exact hn204_1) | exact hn204_1) (.string ((rd_T101 l0 x7_1).f1))).trans hx204_0; replace hx204_1 := (cell_far (p := ⟨gb203, 1, none⟩) (by first | (rw [add_block]; exact hn204_1) | (show (Addr.add _ _).block ≠ _; rw [add_block]; exact hn204_1) | exact hn204_1) (.string ((rd_T101 l0 x7_1).f1))).trans hx204_1; (try have hy204_0 := fun (n_ : Nat) => (show ((((w16.drewN n_).setCell ⟨gb203, 0, none⟩ (.string ((rd_T101 l0 x7_1).f0))).setCell ⟨gb203, 1, none⟩ (.string ((rd_T101 l0 x7_1).f1)))).cell? _ = some _ from hx204_0)); (try have hy204_1 := fun (n_ : Nat) => (show ((((w16.drewN n_).setCell ⟨gb203, 0, none⟩ (.string ((rd_T101 l0 x7_1).f0))).setCell ⟨gb203, 1, none⟩ (.string ((rd_T101 l0 x7_1).f1)))).cell? _ = some _ from hx204_1)); clear hn204_0; clear hn204_1; replace p204 := eq_true p204; replace q204 := eq_true q204)))
            go_roundg k1
            case measure => have := HK1.out; omega
            case rel => exact ⟨(wrap64 (x7_1 + 1)), (by first | rfl | (simp; done) | (simp [*]; done)), H', ⟨by have := HK1.out; omega⟩, ⟨by exact b1 HB GE203⟩⟩
           ·rw [if_neg c15] at H
            have c15b0 : (Op.bytesLess (((rd_T101 l0 (ji12)).f0).toList) (((rd_T101 l0 x7_1).f0).toList)) = false := by simpa using c15
            clear c15; obtain rfl := Option.some.inj H
            have p202 : 0 ≤ (x7_1 : Int) := of_decide_eq_true ‹_›
            have q202 : x7_1 < (l0.length : Int) := of_decide_eq_true ‹_›
            obtain ⟨ad202, e202, hx202_0, hx202_1⟩ := at_T101 HR0.out x7_1 p202 q202
            cases e202; replace hx202_0 := hcl HB hx202_0; replace hx202_1 := hcl HB hx202_1; replace p202 := eq_true p202; replace q202 := eq_true q202
            go_wp2_with (first | ((with_reducible refine zq25 (N := 4) rfl ?_); (try (refine gate_guard (by rfl) ?_; dsimp only)); refine bx 4 #[.string (⟨#[]⟩ : ByteArray), .string (⟨#[]⟩ : ByteArray)] 101 ?_; intro gb203 hg w18 hbox hb; have n0_ := zq9 (zq27 (by exact bl HB) hb); have n1_ := zq9 (hbox); have n2_ := zq9 ((by rw [hg]; exact (zq29 (by exact bl HB)) : w.heap.size ≤ gb203)); have n3_ := n2_; clear HB; have HB := n0_; have BK203 := n1_; have GW203 := n2_; have GE203 := n3_; clear n0_ n1_ n2_ n3_; clear hb hbox hg; have hcz19_0 : w18.cell? ⟨gb203, 0, none⟩ = some (.string (⟨#[]⟩ : ByteArray)) := bc BK203 0; have hcz19_1 : w18.cell? ⟨gb203, 1, none⟩ = some (.string (⟨#[]⟩ : ByteArray)) := bc BK203 1; have hfz19_0 := zq6 BK203.out 0; have hfz19_1 := zq6 BK203.out 1; have p204 : 0 ≤ ((ji12) : Int) := of_decide_eq_true ‹_›; have q204 : (ji12) < (l0.length : Int) := of_decide_eq_true ‹_›; obtain ⟨ad204, e204, hx204_0, hx204_1⟩ := at_T101 HR0.out (ji12) p204 q204; obtain rfl : ad202 = ad204 := (by injection e204); have hn204_0 : ad202.block ≠ gb203 := Nat.ne_of_lt (Nat.lt_of_lt_of_le (by have := zq8 _ _ hx204_0; first | rwa [add_block] at this | exact this) GW203.out); have hn204_1 : ad202.block ≠ gb203 := Nat.ne_of_lt (Nat.lt_of_lt_of_le (by have := zq8 _ _ hx204_0; first | rwa [add_block] at this | exact this) GW203.out); replace hx204_0 := hcl HB hx204_0; replace hx204_1 := hcl HB hx204_1; replace hx204_0 := (cell_far (p := ⟨gb203, 0, none⟩) (by first | (rw [add_block]; exact hn204_0) | (show (Addr.add _ _).block ≠ _; rw [add_block]; exact hn204_0) | exact hn204_0) (.string ((rd_T101 l0 x7_1).f0))).trans hx204_0; replace hx204_1 := (cell_far (p := ⟨gb203, 0, none⟩) (by first | (rw [add_block]; exact hn204_0) | (show (Addr.add _ _).block ≠ _; rw [add_block]; exact hn204_0) | exact hn204_0) (.string ((rd_T101 l0 x7_1).f0))).trans hx204_1; replace hx204_0 := (cell_far (p := ⟨gb203, 1, none⟩) (by first | (rw [add_block]; exact hn204_1) | (show (Addr.add _ _).block ≠ _; rw [add_block]; exact hn204_1) | exact hn204_1) (.string ((rd_T101 l0 x7_1).f1))).trans hx204_0; replace hx204_1 := (cell_far (p := ⟨gb203, 1, none⟩) (by first | (rw [add_block]; exact hn204_1) | (show (Addr.add _ _).block ≠ _; rw [add_block]; exact hn204_1) | exact hn204_1) (.string ((rd_T101 l0 x7_1).f1))).trans hx204_1; (try have hy204_0 := fun (n_ : Nat) => (show ((((w18.drewN n_).setCell ⟨gb203, 0, none⟩ (.string ((rd_T101 l0 x7_1).f0))).setCell ⟨gb203, 1, none⟩ (.string ((rd_T101 l0 x7_1).f1)))).cell? _ = some _ from hx204_0)); (try have hy204_1 := fun (n_ : Nat) => (show ((((w18.drewN n_).setCell ⟨gb203, 0, none⟩ (.string ((rd_T101 l0 x7_1).f0))).setCell ⟨gb203, 1, none⟩ (.string ((rd_T101 l0 x7_1).f1)))).cell? _ = some _ from hx204_1)); clear hn204_0; clear hn204_1; replace p204 := eq_true p204; replace q204 := eq_true q204))
            repeat (go_quiet (first | ((with_reducible refine zq25 (N := 4) rfl ?_); (try (refine gate_guard (by rfl) ?_; dsimp only)); refine bx 4 #[.string (⟨#[]⟩ : ByteArray), .string (⟨#[]⟩ : ByteArray)] 101 ?_; intro gb203 hg w18 hbox hb; have n0_ := zq9 (zq27 (by exact bl HB) hb); have n1_ := zq9 (hbox); have n2_ := zq9 ((by rw [hg]; exact (zq29 (by exact bl HB)) : w.heap.size ≤ gb203)); have n3_ := n2_; clear HB; have HB := n0_; have BK203 := n1_; have GW203 := n2_; have GE203 := n3_; clear n0_ n1_ n2_ n3_; clear hb hbox hg; have hcz19_0 : w18.cell? ⟨gb203, 0, none⟩ = some (.string (⟨#[]⟩ : ByteArray)) := bc BK203 0; have hcz19_1 : w18.cell? ⟨gb203, 1, none⟩ = some (.string (⟨#[]⟩ : ByteArray)) := bc BK203 1; have hfz19_0 := zq6 BK203.out 0; have hfz19_1 := zq6 BK203.out 1; have p204 : 0 ≤ ((ji12) : Int) := of_decide_eq_true ‹_›; have q204 : (ji12) < (l0.length : Int) := of_decide_eq_true ‹_›; obtain ⟨ad204, e204, hx204_0, hx204_1⟩ := at_T101 HR0.out (ji12) p204 q204; obtain rfl : ad202 = ad204 := (by injection e204); have hn204_0 : ad202.block ≠ gb203 := Nat.ne_of_lt (Nat.lt_of_lt_of_le (by have := zq8 _ _ hx204_0; first | rwa [add_block] at this | exact this) GW203.out); have hn204_1 : ad202.block ≠ gb203 := Nat.ne_of_lt (Nat.lt_of_lt_of_le (by have := zq8 _ _ hx204_0; first | rwa [add_block] at this | exact this) GW203.out); replace hx204_0 := hcl HB hx204_0; replace hx204_1 := hcl HB hx204_1; replace hx204_0 := (cell_far (p := ⟨gb203, 0, none⟩) (by first | (rw [add_block]; exact hn204_0) | (show (Addr.add _ _).block ≠ _; rw [add_block]; exact hn204_0) | exact hn204_0) (.string ((rd_T101 l0 x7_1).f0))).trans hx204_0; replace hx204_1 := (cell_far (p := ⟨gb203, 0, none⟩) (by first | (rw [add_block]; exact hn204_0) | (show (Addr.add _ _).block ≠ _; rw [add_block]; exact hn204_0) | exact hn204_0) (.string ((rd_T101 l0 x7_1).f0))).trans hx204_1; replace hx204_0 := (cell_far (p := ⟨gb203, 1, none⟩) (by first | (rw [add_block]; exact hn204_1) | (show (Addr.add _ _).block ≠ _; rw [add_block]; exact hn204_1) | exact hn204_1) (.string ((rd_T101 l0 x7_1).f1))).trans hx204_0; replace hx204_1 := (cell_far (p := ⟨gb203, 1, none⟩) (by first | (rw [add_block]; exact hn204_1) | (show (Addr.add _ _).block ≠ _; rw [add_block]; exact hn204_1) | exact hn204_1) (.string ((rd_T101 l0 x7_1).f1))).trans hx204_1; (try have hy204_0 := fun (n_ : Nat) => (show ((((w18.drewN n_).setCell ⟨gb203, 0, none⟩ (.string ((rd_T101 l0 x7_1).f0))).setCell ⟨gb203, 1, none⟩ (.string ((rd_T101 l0 x7_1).f1)))).cell? _ = some _ from hx204_0)); (try have hy204_1 := fun (n_ : Nat) => (show ((((w18.drewN n_).setCell ⟨gb203, 0, none⟩ (.string ((rd_T101 l0 x7_1).f0))).setCell ⟨gb203, 1, none⟩ (.string ((rd_T101 l0 x7_1).f1)))).cell? _ = some _ from hx204_1)); clear hn204_0; clear hn204_1; replace p204 := eq_true p204; replace q204 := eq_true q204)); try go_wp2_with (first | ((with_reducible refine zq25 (N := 4) rfl ?_); (try (refine gate_guard (by rfl) ?_; dsimp only)); refine bx 4 #[.string (⟨#[]⟩ : ByteArray), .string (⟨#[]⟩ : ByteArray)] 101 ?_; intro gb203 hg w18 hbox hb; have n0_ := zq9 (zq27 (by exact bl HB) hb); have n1_ := zq9 (hbox); have n2_ := zq9 ((by rw [hg]; exact (zq29 (by exact bl HB)) : w.heap.size ≤ gb203)); have n3_ := n2_; clear HB; have HB := n0_; have BK203 := n1_; have GW203 := n2_; have GE203 := n3_; clear n0_ n1_ n2_ n3_; clear hb hbox hg; have hcz19_0 : w18.cell? ⟨gb203, 0, none⟩ = some (.string (⟨#[]⟩ : ByteArray)) := bc BK203 0; have hcz19_1 : w18.cell? ⟨gb203, 1, none⟩ = some (.string (⟨#[]⟩ : ByteArray)) := bc BK203 1; have hfz19_0 := zq6 BK203.out 0; have hfz19_1 := zq6 BK203.out 1; have p204 : 0 ≤ ((ji12) : Int) := of_decide_eq_true ‹_›; have q204 : (ji12) < (l0.length : Int) := of_decide_eq_true ‹_›; obtain ⟨ad204, e204, hx204_0, hx204_1⟩ := at_T101 HR0.out (ji12) p204 q204; obtain rfl : ad202 = ad204 := (by injection e204); have hn204_0 : ad202.block ≠ gb203 := Nat.ne_of_lt (Nat.lt_of_lt_of_le (by have := zq8 _ _ hx204_0; first | rwa [add_block] at this | exact this) GW203.out); have hn204_1 : ad202.block ≠ gb203 := Nat.ne_of_lt (Nat.lt_of_lt_of_le (by have := zq8 _ _ hx204_0; first | rwa [add_block] at this | exact this) GW203.out); replace hx204_0 := hcl HB hx204_0; replace hx204_1 := hcl HB hx204_1; replace hx204_0 := (cell_far (p := ⟨gb203, 0, none⟩) (by first | (rw [add_block]; exact hn204_0) | (show (Addr.add _ _).block ≠ _; rw [add_block]; exact hn204_0) | exact hn204_0) (.string ((rd_T101 l0 x7_1).f0))).trans hx204_0; replace hx204_1 := (cell_far (p := ⟨gb203, 0, none⟩) (by first | (rw [add_block]; exact hn204_0) | (show (Addr.add _ _).block ≠ _; rw [add_block]; exact hn204_0) | exact hn204_0) (.string ((rd_T101 l0 x7_1).f0))).trans hx204_1; replace hx204_0 := (cell_far (p := ⟨gb203, 1, none⟩) (by first | (rw [add_block]; exact hn204_1) | (show (Addr.add _ _).block ≠ _; rw [add_block]; exact hn204_1) | exact hn204_1) (.string ((rd_T101 l0 x7_1).f1))).trans hx204_0; replace hx204_1 := (cell_far (p := ⟨gb203, 1, none⟩) (by first | (rw [add_block]; exact hn204_1) | (show (Addr.add _ _).block ≠ _; rw [add_block]; exact hn204_1) | exact hn204_1) (.string ((rd_T101 l0 x7_1).f1))).trans hx204_1; (try have hy204_0 := fun (n_ : Nat) => (show ((((w18.drewN n_).setCell ⟨gb203, 0, none⟩ (.string ((rd_T101 l0 x7_1).f0))).setCell ⟨gb203, 1, none⟩ (.string ((rd_T101 l0 x7_1).f1)))).cell? _ = some _ from hx204_0)); (try have hy204_1 := fun (n_ : Nat) => (show ((((w18.drewN n_).setCell ⟨gb203, 0, none⟩ (.string ((rd_T101 l0 x7_1).f0))).setCell ⟨gb203, 1, none⟩ (.string ((rd_T101 l0 x7_1).f1)))).cell? _ = some _ from hx204_1)); clear hn204_0; clear hn204_1; replace p204 := eq_true p204; replace q204 := eq_true q204)))
            go_ret
            exact ⟨by first | rfl | (simp [errW_none, errW_some] <;> rfl) | (simp only [← hji12]; first | rfl | (simp [errW_none, errW_some] <;> rfl)) | (simp [*, errW_none, errW_some] <;> rfl), by exact b1 HB GE203⟩
          ·rw [if_neg c14] at H
           exact absurd H (by simp)
         ·rw [if_neg c13] at H
          exact absurd H (by simp)
        ·rw [if_neg c11] at H; have c11b0 : decide (0 < x7_1) = false := decide_eq_false c11; clear c11; have H' := zq9 H; clear H
         have p202 : 0 ≤ (x7_1 : Int) := of_decide_eq_true ‹_›
         have q202 : x7_1 < (l0.length : Int) := of_decide_eq_true ‹_›
         obtain ⟨ad202, e202, hx202_0, hx202_1⟩ := at_T101 HR0.out x7_1 p202 q202
         cases e202; replace hx202_0 := hcl HB hx202_0; replace hx202_1 := hcl HB hx202_1; replace p202 := eq_true p202; replace q202 := eq_true q202
         go_wp2_with (first | ((with_reducible refine zq25 (N := 4) rfl ?_); (try (refine gate_guard (by rfl) ?_; dsimp only)); refine bx 4 #[.string (⟨#[]⟩ : ByteArray), .string (⟨#[]⟩ : ByteArray)] 101 ?_; intro gb203 hg w20 hbox hb; have n0_ := zq9 (zq27 (by exact bl HB) hb); have n1_ := zq9 (hbox); have n2_ := zq9 ((by rw [hg]; exact (zq29 (by exact bl HB)) : w.heap.size ≤ gb203)); have n3_ := n2_; clear HB; have HB := n0_; have BK203 := n1_; have GW203 := n2_; have GE203 := n3_; clear n0_ n1_ n2_ n3_; clear hb hbox hg; have hcz21_0 : w20.cell? ⟨gb203, 0, none⟩ = some (.string (⟨#[]⟩ : ByteArray)) := bc BK203 0; have hcz21_1 : w20.cell? ⟨gb203, 1, none⟩ = some (.string (⟨#[]⟩ : ByteArray)) := bc BK203 1; have hfz21_0 := zq6 BK203.out 0; have hfz21_1 := zq6 BK203.out 1))
         repeat (go_quiet (first | ((with_reducible refine zq25 (N := 4) rfl ?_); (try (refine gate_guard (by rfl) ?_; dsimp only)); refine bx 4 #[.string (⟨#[]⟩ : ByteArray), .string (⟨#[]⟩ : ByteArray)] 101 ?_; intro gb203 hg w20 hbox hb; have n0_ := zq9 (zq27 (by exact bl HB) hb); have n1_ := zq9 (hbox); have n2_ := zq9 ((by rw [hg]; exact (zq29 (by exact bl HB)) : w.heap.size ≤ gb203)); have n3_ := n2_; clear HB; have HB := n0_; have BK203 := n1_; have GW203 := n2_; have GE203 := n3_; clear n0_ n1_ n2_ n3_; clear hb hbox hg; have hcz21_0 : w20.cell? ⟨gb203, 0, none⟩ = some (.string (⟨#[]⟩ : ByteArray)) := bc BK203 0; have hcz21_1 : w20.cell? ⟨gb203, 1, none⟩ = some (.string (⟨#[]⟩ : ByteArray)) := bc BK203 1; have hfz21_0 := zq6 BK203.out 0; have hfz21_1 := zq6 BK203.out 1)); try go_wp2_with (first | ((with_reducible refine zq25 (N := 4) rfl ?_); (try (refine gate_guard (by rfl) ?_; dsimp only)); refine bx 4 #[.string (⟨#[]⟩ : ByteArray), .string (⟨#[]⟩ : ByteArray)] 101 ?_; intro gb203 hg w20 hbox hb; have n0_ := zq9 (zq27 (by exact bl HB) hb); have n1_ := zq9 (hbox); have n2_ := zq9 ((by rw [hg]; exact (zq29 (by exact bl HB)) : w.heap.size ≤ gb203)); have n3_ := n2_; clear HB; have HB := n0_; have BK203 := n1_; have GW203 := n2_; have GE203 := n3_; clear n0_ n1_ n2_ n3_; clear hb hbox hg; have hcz21_0 : w20.cell? ⟨gb203, 0, none⟩ = some (.string (⟨#[]⟩ : ByteArray)) := bc BK203 0; have hcz21_1 : w20.cell? ⟨gb203, 1, none⟩ = some (.string (⟨#[]⟩ : ByteArray)) := bc BK203 1; have hfz21_0 := zq6 BK203.out 0; have hfz21_1 := zq6 BK203.out 1)))
         go_roundg k1
         case measure => have := HK1.out; omega
         case rel => exact ⟨(wrap64 (x7_1 + 1)), (by first | rfl | (simp; done) | (simp [*]; done)), H', ⟨by have := HK1.out; omega⟩, ⟨by exact b1 HB GE203⟩⟩
     case n2 =>
      rw [if_neg c4] at H
      exact absurd H (by simp)
    case n1 =>
     rw [if_neg c3] at H
     exact absurd H (by simp)
   case n0 =>
    rw [if_neg c2] at H; have c2b0 : decide (x7_1 < (l0.length : Int)) = false := decide_eq_false c2; clear c2; obtain rfl := Option.some.inj H
    go_wp2
    repeat (go_quiet (fail); try go_wp2)
    go_ret
    exact fz (by exact bl HB)
   case p3 | n3 =>
    have p202 : 0 ≤ (x7_1 : Int) := of_decide_eq_true ‹_›
    have q202 : x7_1 < (l0.length : Int) := of_decide_eq_true ‹_›
    obtain ⟨ad202, e202, hx202_0, hx202_1⟩ := at_T101 HR0.out x7_1 p202 q202
    cases e202; replace hx202_0 := hcl HB hx202_0; replace hx202_1 := hcl HB hx202_1; replace p202 := eq_true p202; replace q202 := eq_true q202
    try go_wp2_with (first | ((with_reducible refine zq25 (N := 4) rfl ?_); (try (refine gate_guard (by rfl) ?_; dsimp only)); refine bx 4 #[.string (⟨#[]⟩ : ByteArray), .string (⟨#[]⟩ : ByteArray)] 101 ?_; intro gb203 hg w6 hbox hb; have n0_ := zq9 (zq27 (by exact bl HB) hb); have n1_ := zq9 (hbox); have n2_ := zq9 ((by rw [hg]; exact (zq29 (by exact bl HB)) : w.heap.size ≤ gb203)); have n3_ := n2_; clear HB; have HB := n0_; have BK203 := n1_; have GW203 := n2_; have GE203 := n3_; clear n0_ n1_ n2_ n3_; clear hb hbox hg; have hcz7_0 : w6.cell? ⟨gb203, 0, none⟩ = some (.string (⟨#[]⟩ : ByteArray)) := bc BK203 0; have hcz7_1 : w6.cell? ⟨gb203, 1, none⟩ = some (.string (⟨#[]⟩ : ByteArray)) := bc BK203 1; have hfz7_0 := zq6 BK203.out 0; have hfz7_1 := zq6 BK203.out 1))
    repeat (go_quiet (first | ((with_reducible refine zq25 (N := 4) rfl ?_); (try (refine gate_guard (by rfl) ?_; dsimp only)); refine bx 4 #[.string (⟨#[]⟩ : ByteArray), .string (⟨#[]⟩ : ByteArray)] 101 ?_; intro gb203 hg w6 hbox hb; have n0_ := zq9 (zq27 (by exact bl HB) hb); have n1_ := zq9 (hbox); have n2_ := zq9 ((by rw [hg]; exact (zq29 (by exact bl HB)) : w.heap.size ≤ gb203)); have n3_ := n2_; clear HB; have HB := n0_; have BK203 := n1_; have GW203 := n2_; have GE203 := n3_; clear n0_ n1_ n2_ n3_; clear hb hbox hg; have hcz7_0 : w6.cell? ⟨gb203, 0, none⟩ = some (.string (⟨#[]⟩ : ByteArray)) := bc BK203 0; have hcz7_1 : w6.cell? ⟨gb203, 1, none⟩ = some (.string (⟨#[]⟩ : ByteArray)) := bc BK203 1; have hfz7_0 := zq6 BK203.out 0; have hfz7_1 := zq6 BK203.out 1)); try go_wp2_with (first | ((with_reducible refine zq25 (N := 4) rfl ?_); (try (refine gate_guard (by rfl) ?_; dsimp only)); refine bx 4 #[.string (⟨#[]⟩ : ByteArray), .string (⟨#[]⟩ : ByteArray)] 101 ?_; intro gb203 hg w6 hbox hb; have n0_ := zq9 (zq27 (by exact bl HB) hb); have n1_ := zq9 (hbox); have n2_ := zq9 ((by rw [hg]; exact (zq29 (by exact bl HB)) : w.heap.size ≤ gb203)); have n3_ := n2_; clear HB; have HB := n0_; have BK203 := n1_; have GW203 := n2_; have GE203 := n3_; clear n0_ n1_ n2_ n3_; clear hb hbox hg; have hcz7_0 : w6.cell? ⟨gb203, 0, none⟩ = some (.string (⟨#[]⟩ : ByteArray)) := bc BK203 0; have hcz7_1 : w6.cell? ⟨gb203, 1, none⟩ = some (.string (⟨#[]⟩ : ByteArray)) := bc BK203 1; have hfz7_0 := zq6 BK203.out 0; have hfz7_1 := zq6 BK203.out 1)))
    go_ret
    exact fz (by exact b1 HB GE203)
set_option maxHeartbeats 8000000 in
set_option maxRecDepth 100000 in
theorem impl_EntryOk.calls (k : Nat) (a0_0 : ByteArray) (a0_1 : Int) (a0_2 : Int) (a0_3 : ByteArray) (A0_4 : Option Addr) (c0_4 : Nat) (l0_4 : List ByteArray) (A0_5 : Option Addr) (c0_5 : Nat) (l0_5 : List (S99)) (A0_6 : Option Addr) (c0_6 : Nat) (l0_6 : List (S101)) (r : Bool) (w : World) (hr0_4 : Kd.C Kd.string w A0_4 l0_4.length l0_4) (hc0_4 : l0_4.length ≤ c0_4) (hr0_5 : Kd.C k99 w A0_5 l0_5.length l0_5) (hc0_5 : l0_5.length ≤ c0_5) (hr0_6 : Kd.C k101 w A0_6 l0_6.length l0_6) (hc0_6 : l0_6.length ≤ c0_6) (h : impl_EntryOk.f k a0_0 a0_1 a0_2 a0_3 l0_4 l0_5 l0_6 = some r) :
  Calls Try.prog 13 #[.agg #[.string a0_0, .int .i64 a0_1, .int .i64 a0_2, .string a0_3, .slice A0_4 l0_4.length c0_4, .slice A0_5 l0_5.length c0_5, .slice A0_6 l0_6.length c0_6]] w fun e w' => e = .returned (.bool r) ∧ Below w.heap.size w w' := by
 have hu32 := Try.underlying32; have HR0_4 := zq9 hr0_4; have HC0_4 := zq9 hc0_4; clear hr0_4 hc0_4; have HR0_5 := zq9 hr0_5; have HC0_5 := zq9 hc0_5; clear hr0_5 hc0_5; have HR0_6 := zq9 hr0_6; have HC0_6 := zq9 hc0_6; clear hr0_6 hc0_6
 have HB := zq9 (Below.refl w.heap.size w)
 have H : ((impl_keyOk.f a0_0).bind fun t206 => (if t206 = true then ((impl_within.f a0_1 0 2000000).bind fun t207 => (impl_EntryOk.j0 k (!t207) a0_0 a0_1 a0_2 a0_3 l0_4 l0_5 l0_6)) else (impl_EntryOk.j0 k true a0_0 a0_1 a0_2 a0_3 l0_4 l0_5 l0_6))) = some r := h
 clear h; have HC2 := zq9 H; clear H
 go_enter Try.func13, Try.ntmps13
 go_upto_region 1 with (first | ((with_reducible refine zq25 (N := 1) rfl ?_); refine bx 1 #[.string a0_0, .int .i64 a0_1, .int .i64 a0_2, .string a0_3, .slice A0_4 l0_4.length c0_4, .slice A0_5 l0_5.length c0_5, .slice A0_6 l0_6.length c0_6] 32 ?_; intro gb205 hg w3 hbox hb; have n0_ := zq9 (zq27 (by exact bl HB) hb); have n1_ := zq9 (hbox); have n2_ := zq9 ((by rw [hg]; exact (zq29 (by exact bl HB)) : w.heap.size ≤ gb205)); have n3_ := n2_; clear HB; have HB := n0_; have BK205 := n1_; have GW205 := n2_; have GE205 := n3_; clear n0_ n1_ n2_ n3_; clear hb hbox hg))
 repeat (go_quiet (first | ((with_reducible refine zq25 (N := 1) rfl ?_); refine bx 1 #[.string a0_0, .int .i64 a0_1, .int .i64 a0_2, .string a0_3, .slice A0_4 l0_4.length c0_4, .slice A0_5 l0_5.length c0_5, .slice A0_6 l0_6.length c0_6] 32 ?_; intro gb205 hg w3 hbox hb; have n0_ := zq9 (zq27 (by exact bl HB) hb); have n1_ := zq9 (hbox); have n2_ := zq9 ((by rw [hg]; exact (zq29 (by exact bl HB)) : w.heap.size ≤ gb205)); have n3_ := n2_; clear HB; have HB := n0_; have BK205 := n1_; have GW205 := n2_; have GE205 := n3_; clear n0_ n1_ n2_ n3_; clear hb hbox hg)); go_upto_region 1 with (first | ((with_reducible refine zq25 (N := 1) rfl ?_); refine bx 1 #[.string a0_0, .int .i64 a0_1, .int .i64 a0_2, .string a0_3, .slice A0_4 l0_4.length c0_4, .slice A0_5 l0_5.length c0_5, .slice A0_6 l0_6.length c0_6] 32 ?_; intro gb205 hg w3 hbox hb; have n0_ := zq9 (zq27 (by exact bl HB) hb); have n1_ := zq9 (hbox); have n2_ := zq9 ((by rw [hg]; exact (zq29 (by exact bl HB)) : w.heap.size ≤ gb205)); have n3_ := n2_; clear HB; have HB := n0_; have BK205 := n1_; have GW205 := n2_; have GE205 := n3_; clear n0_ n1_ n2_ n3_; clear hb hbox hg)))
 (try simp only [Act.put, zq0, zq1, zq2])
 go_cut [16] (fun v16 wc => ∃ (kq : Nat) (x16_1 : Bool), v16 = .bool x16_1 ∧ Aside0 (impl_EntryOk.j0 kq x16_1 a0_0 a0_1 a0_2 a0_3 l0_4 l0_5 l0_6 = some r) ∧ Aside0 (kq ≤ k) ∧ Aside0 (wc.heap[gb205]? = some (.cells #[.string a0_0, .int .i64 a0_1, .int .i64 a0_2, .string a0_3, (.slice A0_4 l0_4.length c0_4), (.slice A0_5 l0_5.length c0_5), (.slice A0_6 l0_6.length c0_6)] 32 (0, 0))) ∧ Aside0 (Below w.heap.size w wc))
 case first =>
  have H := HC2.out; clear HC2; replace H := Option.bind_eq_some_iff.mp H; obtain ⟨t206, A40, H⟩ := H
  try dsimp only at H
  have A4 := zq9 A40; clear A40
  have hcz7_0 : w3.cell? ⟨gb205, 0, none⟩ = some (.string a0_0) := bc BK205 0
  have hcz7_1 : w3.cell? ⟨gb205, 1, none⟩ = some (.int .i64 a0_1) := bc BK205 1
  have hcz7_2 : w3.cell? ⟨gb205, 2, none⟩ = some (.int .i64 a0_2) := bc BK205 2
  have hcz7_3 : w3.cell? ⟨gb205, 3, none⟩ = some (.string a0_3) := bc BK205 3
  have hcz7_4 : w3.cell? ⟨gb205, 4, none⟩ = some (.slice A0_4 l0_4.length c0_4) := bc BK205 4
  have hcz7_5 : w3.cell? ⟨gb205, 5, none⟩ = some (.slice A0_5 l0_5.length c0_5) := bc BK205 5
  have hcz7_6 : w3.cell? ⟨gb205, 6, none⟩ = some (.slice A0_6 l0_6.length c0_6) := bc BK205 6
  have hfz7_0 := zq6 BK205.out 0
  have hfz7_1 := zq6 BK205.out 1
  have hfz7_2 := zq6 BK205.out 2
  have hfz7_3 := zq6 BK205.out 3
  have hfz7_4 := zq6 BK205.out 4
  have hfz7_5 := zq6 BK205.out 5
  have hfz7_6 := zq6 BK205.out 6
  by_cases c5 : t206 = true
  ·subst c5
   have H1 : ((impl_within.f a0_1 0 2000000).bind fun t207 => (impl_EntryOk.j0 k (!t207) a0_0 a0_1 a0_2 a0_3 l0_4 l0_5 l0_6)) = some r := by rw [if_pos rfl] at H; exact H
   clear H; have H := H1; clear H1; replace H := Option.bind_eq_some_iff.mp H; obtain ⟨t207, A60, H⟩ := H
   try dsimp only at H
   have A6 := zq9 A60; clear A60; have H' := zq9 H; clear H
   go_wp2_with (first | (go_at_call 48; (with_reducible refine (impl_keyOk.calls a0_0 true _ A4.out).mono ?_); rintro e w' ⟨rfl, ⟨nd, rfl⟩⟩; (try first | exact ⟨rfl, _, zq32 _ _ _⟩ | exact ⟨rfl, _, Eq.trans (zq32 _ _ _) (congrArg (World.drewN _) (Nat.add_assoc _ _ _))⟩)) | (go_at_call 49; (with_reducible refine (impl_within.calls a0_1 0 2000000 t207 _ A6.out).mono ?_); rintro e w' ⟨rfl, ⟨nd, rfl⟩⟩; (try first | exact ⟨rfl, _, zq32 _ _ _⟩ | exact ⟨rfl, _, Eq.trans (zq32 _ _ _) (congrArg (World.drewN _) (Nat.add_assoc _ _ _))⟩)))
   repeat (go_quiet (first | (go_at_call 48; (with_reducible refine (impl_keyOk.calls a0_0 true _ A4.out).mono ?_); rintro e w' ⟨rfl, ⟨nd, rfl⟩⟩; (try first | exact ⟨rfl, _, zq32 _ _ _⟩ | exact ⟨rfl, _, Eq.trans (zq32 _ _ _) (congrArg (World.drewN _) (Nat.add_assoc _ _ _))⟩)) | (go_at_call 49; (with_reducible refine (impl_within.calls a0_1 0 2000000 t207 _ A6.out).mono ?_); rintro e w' ⟨rfl, ⟨nd, rfl⟩⟩; (try first | exact ⟨rfl, _, zq32 _ _ _⟩ | exact ⟨rfl, _, Eq.trans (zq32 _ _ _) (congrArg (World.drewN _) (Nat.add_assoc _ _ _))⟩))); try go_wp2_with (first | (go_at_call 48; (with_reducible refine (impl_keyOk.calls a0_0 true _ A4.out).mono ?_); rintro e w' ⟨rfl, ⟨nd, rfl⟩⟩; (try first | exact ⟨rfl, _, zq32 _ _ _⟩ | exact ⟨rfl, _, Eq.trans (zq32 _ _ _) (congrArg (World.drewN _) (Nat.add_assoc _ _ _))⟩)) | (go_at_call 49; (with_reducible refine (impl_within.calls a0_1 0 2000000 t207 _ A6.out).mono ?_); rintro e w' ⟨rfl, ⟨nd, rfl⟩⟩; (try first | exact ⟨rfl, _, zq32 _ _ _⟩ | exact ⟨rfl, _, Eq.trans (zq32 _ _ _) (congrArg (World.drewN _) (Nat.add_assoc _ _ _))⟩))))
   go_meet
   case rel => exact ⟨_, (!t207), (by first | rfl | (simp; done) | (simp [*]; done)), H', ⟨by first | omega | exact Nat.le_refl _⟩, ⟨by refine bp ?_; exact BK205.out⟩, ⟨by exact b1 HB GE205⟩⟩
  ·replace c5 := Bool.eq_false_iff.mpr c5
   subst c5
   have H1 : (impl_EntryOk.j0 k true a0_0 a0_1 a0_2 a0_3 l0_4 l0_5 l0_6) = some r := by rw [if_neg (show ¬ (false = true) by decide)] at H; exact H
   clear H; have H := H1; clear H1; have H' := zq9 H; clear H
   go_wp2_with (first | (go_at_call 48; (with_reducible refine (impl_keyOk.calls a0_0 false _ A4.out).mono ?_); rintro e w' ⟨rfl, ⟨nd, rfl⟩⟩; (try first | exact ⟨rfl, _, zq32 _ _ _⟩ | exact ⟨rfl, _, Eq.trans (zq32 _ _ _) (congrArg (World.drewN _) (Nat.add_assoc _ _ _))⟩)))
   repeat (go_quiet (first | (go_at_call 48; (with_reducible refine (impl_keyOk.calls a0_0 false _ A4.out).mono ?_); rintro e w' ⟨rfl, ⟨nd, rfl⟩⟩; (try first | exact ⟨rfl, _, zq32 _ _ _⟩ | exact ⟨rfl, _, Eq.trans (zq32 _ _ _) (congrArg (World.drewN _) (Nat.add_assoc _ _ _))⟩))); try go_wp2_with (first | (go_at_call 48; (with_reducible refine (impl_keyOk.calls a0_0 false _ A4.out).mono ?_); rintro e w' ⟨rfl, ⟨nd, rfl⟩⟩; (try first | exact ⟨rfl, _, zq32 _ _ _⟩ | exact ⟨rfl, _, Eq.trans (zq32 _ _ _) (congrArg (World.drewN _) (Nat.add_assoc _ _ _))⟩))))
   go_meet
   case rel => exact ⟨_, (true), (by first | rfl | (simp; done) | (simp [*]; done)), H', ⟨by first | omega | exact Nat.le_refl _⟩, ⟨by refine bp ?_; exact BK205.out⟩, ⟨by exact b1 HB GE205⟩⟩
 case rest =>
  clear HC2
  try clear c1
  try clear p2
  try clear c5
  try clear hcz7_0
  try clear hcz7_1
  try clear hcz7_2
  try clear hcz7_3
  try clear hcz7_4
  try clear hcz7_5
  try clear hcz7_6
  try clear hcz8_0
  try clear hcz8_1
  try clear hcz8_2
  try clear hcz8_3
  try clear hcz8_4
  try clear hcz8_5
  try clear hcz8_6
  try clear hfz7_0
  try clear hfz7_1
  try clear hfz7_2
  try clear hfz7_3
  try clear hfz7_4
  try clear hfz7_5
  try clear hfz7_6
  try clear hfz8_0
  try clear hfz8_1
  try clear hfz8_2
  try clear hfz8_3
  try clear hfz8_4
  try clear hfz8_5
  try clear hfz8_6
  obtain ⟨kq, x16_1, rfl, HA, HJ1, BK205, HB⟩ := hcut
  cases kq with
  | zero => exact absurd HA.out (by simp [impl_EntryOk.j0])
  | succ kj1 =>
   have H := HA.out; clear HA
   simp only [impl_EntryOk.j0] at H
   refine (Classical.em (x16_1 = true)).elim (fun c9 => ?p1) (fun c9 => ?n1)
   case p1 =>
    subst c9
    have H1 : (some false) = some r := by rw [if_pos rfl] at H; exact H
    clear H; have H := H1; clear H1; obtain rfl := Option.some.inj H
    go_wp2
    repeat (go_quiet (fail); try go_wp2)
    go_ret
    exact fz (by exact b1 HB GE205)
   case' n1 =>
    replace c9 := Bool.eq_false_iff.mpr c9
    subst c9
    have H1 : (if a0_2 = 1 then (if (a0_3.size : Int) ≤ 40 then (if ((l0_4.length : Int) > 0) then (some false) else (if ((l0_5.length : Int) > 0) then (some false) else (some (!(decide ((l0_6.length : Int) > 0)))))) else (some false)) else (if a0_2 = 2 then (if (l0_4.length : Int) > 0 then ((impl_listOk.f kj1 l0_4).bind fun t208 => (if t208 = true then (if (¬ a0_3.toList = ([] : List UInt8)) then (some false) else (if ((l0_5.length : Int) > 0) then (some false) else (some (!(decide ((l0_6.length : Int) > 0)))))) else (some false))) else (some false)) else (if a0_2 = 3 then (if (l0_4.length : Int) > 0 then ((impl_SetOk.f kj1 l0_4).bind fun t209 => (if t209 = true then (if (¬ a0_3.toList = ([] : List UInt8)) then (some false) else (if ((l0_5.length : Int) > 0) then (some false) else (some (!(decide ((l0_6.length : Int) > 0)))))) else (some false))) else (some false)) else (if a0_2 = 4 then (if (l0_5.length : Int) > 0 then ((impl_ScoresOk.f kj1 l0_5).bind fun t210 => (if t210 = true then (if (¬ a0_3.toList = ([] : List UInt8)) then (some false) else (if ((l0_4.length : Int) > 0) then (some false) else (some (!(decide ((l0_6.length : Int) > 0)))))) else (some false))) else (some false)) else (if a0_2 = 5 then (if (l0_6.length : Int) > 0 then ((impl_FieldsOk.f kj1 l0_6).bind fun t211 => (if t211 = true then (if (¬ a0_3.toList = ([] : List UInt8)) then (some false) else (if ((l0_4.length : Int) > 0) then (some false) else (some (!(decide ((l0_5.length : Int) > 0)))))) else (some false))) else (some false)) else (some false)))))) = some r := by rw [if_neg (show ¬ (false = true) by decide)] at H; exact H
    clear H; have H := H1; clear H1
    have hcz13_0 : wc.cell? ⟨gb205, 0, none⟩ = some (.string a0_0) := bc BK205 0
    have hcz13_1 : wc.cell? ⟨gb205, 1, none⟩ = some (.int .i64 a0_1) := bc BK205 1
    have hcz13_2 : wc.cell? ⟨gb205, 2, none⟩ = some (.int .i64 a0_2) := bc BK205 2
    have hcz13_3 : wc.cell? ⟨gb205, 3, none⟩ = some (.string a0_3) := bc BK205 3
    have hcz13_4 : wc.cell? ⟨gb205, 4, none⟩ = some (.slice A0_4 l0_4.length c0_4) := bc BK205 4
    have hcz13_5 : wc.cell? ⟨gb205, 5, none⟩ = some (.slice A0_5 l0_5.length c0_5) := bc BK205 5
    have hcz13_6 : wc.cell? ⟨gb205, 6, none⟩ = some (.slice A0_6 l0_6.length c0_6) := bc BK205 6
    have hfz13_0 := zq6 BK205.out 0
    have hfz13_1 := zq6 BK205.out 1
    have hfz13_2 := zq6 BK205.out 2
    have hfz13_3 := zq6 BK205.out 3
    have hfz13_4 := zq6 BK205.out 4
    have hfz13_5 := zq6 BK205.out 5
    have hfz13_6 := zq6 BK205.out 6
    refine (Classical.em (a0_2 = 1)).elim (fun c10 => ?p2) (fun c10 => ?n2)
    case p2 =>
     rw [if_pos c10] at H
     have c10b0 : (a0_2 == 1) = true := beq_iff_eq.mpr c10
     have c10b1 : (a0_2 != 1) = false := bne_eq_false_iff_eq.mpr c10
     clear c10
     go_wp2
     by_cases c11 : (a0_3.size : Int) ≤ 40
     ·rw [if_pos c11] at H; have c11b0 : decide ((a0_3.size : Int) ≤ 40) = true := decide_eq_true c11
      have c11b1 : decide (a0_3.size ≤ 40) = true := decide_eq_true (by omega)
      clear c11
      by_cases c12 : ((l0_4.length : Int) > 0)
      ·rw [if_pos c12] at H; have c12b0 : decide (0 < (l0_4.length : Int)) = true := decide_eq_true c12
       have c12b1 : decide (0 < l0_4.length) = true := decide_eq_true (by omega)
       clear c12; obtain rfl := Option.some.inj H
       repeat (go_quiet (fail); try go_wp2)
       go_ret
       exact fz (by exact b1 HB GE205)
      ·rw [if_neg c12] at H; have c12b0 : decide (0 < (l0_4.length : Int)) = false := decide_eq_false c12
       have c12b1 : decide (0 < l0_4.length) = false := decide_eq_false (by omega)
       clear c12
       by_cases c14 : ((l0_5.length : Int) > 0)
       ·rw [if_pos c14] at H; have c14b0 : decide (0 < (l0_5.length : Int)) = true := decide_eq_true c14
        have c14b1 : decide (0 < l0_5.length) = true := decide_eq_true (by omega)
        clear c14; obtain rfl := Option.some.inj H
        repeat (go_quiet (fail); try go_wp2)
        go_ret
        exact fz (by exact b1 HB GE205)
       ·rw [if_neg c14] at H; have c14b0 : decide (0 < (l0_5.length : Int)) = false := decide_eq_false c14
        have c14b1 : decide (0 < l0_5.length) = false := decide_eq_false (by omega)
        clear c14; obtain rfl := Option.some.inj H
        repeat (go_quiet (fail); try go_wp2)
        go_ret
        exact fz (by exact b1 HB GE205)
     ·rw [if_neg c11] at H; have c11b0 : decide ((a0_3.size : Int) ≤ 40) = false := decide_eq_false c11
      have c11b1 : decide (a0_3.size ≤ 40) = false := decide_eq_false (by omega)
      clear c11; obtain rfl := Option.some.inj H
      repeat (go_quiet (fail); try go_wp2)
      go_ret
      exact fz (by exact b1 HB GE205)
    case' n2 =>
     rw [if_neg c10] at H
     have c10b0 : (a0_2 == 1) = false := beq_eq_false_iff_ne.mpr c10
     have c10b1 : (a0_2 != 1) = true := bne_iff_ne.mpr c10
     refine (Classical.em (a0_2 = 2)).elim (fun c18 => ?p6) (fun c18 => ?n6)
     case' p6 =>
      rw [if_pos c18] at H
      have c18b0 : (a0_2 == 2) = true := beq_iff_eq.mpr c18
      have c18b1 : (a0_2 != 2) = false := bne_eq_false_iff_eq.mpr c18
      clear c18
      refine (Classical.em ((l0_4.length : Int) > 0)).elim (fun c19 => ?p7) (fun c19 => ?n7)
      case' p7 =>
       rw [if_pos c19] at H; have c19b0 : decide (0 < (l0_4.length : Int)) = true := decide_eq_true c19
       have c19b1 : decide (0 < l0_4.length) = true := decide_eq_true (by omega)
       clear c19; replace H := Option.bind_eq_some_iff.mp H; obtain ⟨t208, A200, H⟩ := H
       try dsimp only at H
       have A20 := zq9 A200; clear A200
       go_wp2_with (first | (go_at_call 50; (with_reducible refine (impl_listOk.calls kj1 _ _ l0_4 t208 _ ?side1 ?side2 A20.out).mono ?_); (case side1 => exact kc HR0_4 HB); (case side2 => exact HC0_4.out); rintro e w' ⟨rfl, ⟨nd, rfl⟩⟩; (try first | exact ⟨rfl, _, zq32 _ _ _⟩ | exact ⟨rfl, _, Eq.trans (zq32 _ _ _) (congrArg (World.drewN _) (Nat.add_assoc _ _ _))⟩)))
       refine (Classical.em (t208 = true)).elim (fun c21 => ?p8) (fun c21 => ?n8)
       case' p8 =>
        subst c21
        have H1 : (if (¬ a0_3.toList = ([] : List UInt8)) then (some false) else (if ((l0_5.length : Int) > 0) then (some false) else (some (!(decide ((l0_6.length : Int) > 0)))))) = some r := by rw [if_pos rfl] at H; exact H
        clear H; have H := H1; clear H1
        refine (Classical.em ((¬ a0_3.toList = ([] : List UInt8)))).elim (fun c22 => ?p9) (fun c22 => ?n9)
        case' p9 =>
         rw [if_pos c22] at H
         have c22b0 : (a0_3.toList == ([] : List UInt8)) = false := beq_eq_false_iff_ne.mpr c22
         have c22b1 : (a0_3.toList != ([] : List UInt8)) = true := bne_iff_ne.mpr c22
         clear c22; obtain rfl := Option.some.inj H
        case' n9 =>
         rw [if_neg c22] at H
         have c22b0 : (a0_3.toList == ([] : List UInt8)) = true := beq_iff_eq.mpr (Decidable.not_not.mp c22)
         have c22b1 : (a0_3.toList != ([] : List UInt8)) = false := bne_eq_false_iff_eq.mpr (Decidable.not_not.mp c22)
         refine (Classical.em (((l0_5.length : Int) > 0))).elim (fun c24 => ?p10) (fun c24 => ?n10)
         case' p10 =>
          rw [if_pos c24] at H; have c24b0 : decide (0 < (l0_5.length : Int)) = true := decide_eq_true c24
          have c24b1 : decide (0 < l0_5.length) = true := decide_eq_true (by omega)
          clear c24; obtain rfl := Option.some.inj H
         case' n10 =>
          rw [if_neg c24] at H; have c24b0 : decide (0 < (l0_5.length : Int)) = false := decide_eq_false c24
          have c24b1 : decide (0 < l0_5.length) = false := decide_eq_false (by omega)
          clear c24; obtain rfl := Option.some.inj H
       case n8 =>
        replace c21 := Bool.eq_false_iff.mpr c21
        subst c21
        have H1 : (some false) = some r := by rw [if_neg (show ¬ (false = true) by decide)] at H; exact H
        clear H; have H := H1; clear H1; obtain rfl := Option.some.inj H
        repeat (go_quiet (first | (go_at_call 50; (with_reducible refine (impl_listOk.calls kj1 _ _ l0_4 false _ ?side1 ?side2 A20.out).mono ?_); (case side1 => exact kc HR0_4 HB); (case side2 => exact HC0_4.out); rintro e w' ⟨rfl, ⟨nd, rfl⟩⟩; (try first | exact ⟨rfl, _, zq32 _ _ _⟩ | exact ⟨rfl, _, Eq.trans (zq32 _ _ _) (congrArg (World.drewN _) (Nat.add_assoc _ _ _))⟩))); try go_wp2_with (first | (go_at_call 50; (with_reducible refine (impl_listOk.calls kj1 _ _ l0_4 false _ ?side1 ?side2 A20.out).mono ?_); (case side1 => exact kc HR0_4 HB); (case side2 => exact HC0_4.out); rintro e w' ⟨rfl, ⟨nd, rfl⟩⟩; (try first | exact ⟨rfl, _, zq32 _ _ _⟩ | exact ⟨rfl, _, Eq.trans (zq32 _ _ _) (congrArg (World.drewN _) (Nat.add_assoc _ _ _))⟩))))
        go_ret
        exact fz (by exact b1 HB GE205)
      case n7 =>
       rw [if_neg c19] at H; have c19b0 : decide (0 < (l0_4.length : Int)) = false := decide_eq_false c19
       have c19b1 : decide (0 < l0_4.length) = false := decide_eq_false (by omega)
       clear c19; obtain rfl := Option.some.inj H
       go_wp2
       repeat (go_quiet (fail); try go_wp2)
       go_ret
       exact fz (by exact b1 HB GE205)
     case' n6 =>
      rw [if_neg c18] at H
      have c18b0 : (a0_2 == 2) = false := beq_eq_false_iff_ne.mpr c18
      have c18b1 : (a0_2 != 2) = true := bne_iff_ne.mpr c18
      refine (Classical.em (a0_2 = 3)).elim (fun c29 => ?p11) (fun c29 => ?n11)
      case' p11 =>
       rw [if_pos c29] at H
       have c29b0 : (a0_2 == 3) = true := beq_iff_eq.mpr c29
       have c29b1 : (a0_2 != 3) = false := bne_eq_false_iff_eq.mpr c29
       clear c29
       refine (Classical.em ((l0_4.length : Int) > 0)).elim (fun c30 => ?p12) (fun c30 => ?n12)
       case' p12 =>
        rw [if_pos c30] at H; have c30b0 : decide (0 < (l0_4.length : Int)) = true := decide_eq_true c30
        have c30b1 : decide (0 < l0_4.length) = true := decide_eq_true (by omega)
        clear c30; replace H := Option.bind_eq_some_iff.mp H; obtain ⟨t209, A310, H⟩ := H
        try dsimp only at H
        have A31 := zq9 A310; clear A310
        go_wp2_with (first | (go_at_call 51; (with_reducible refine (impl_SetOk.calls kj1 _ _ l0_4 t209 _ ?side1 ?side2 A31.out).mono ?_); (case side1 => exact kc HR0_4 HB); (case side2 => exact HC0_4.out); rintro e w' ⟨rfl, ⟨nd, rfl⟩⟩; (try first | exact ⟨rfl, _, zq32 _ _ _⟩ | exact ⟨rfl, _, Eq.trans (zq32 _ _ _) (congrArg (World.drewN _) (Nat.add_assoc _ _ _))⟩)))
        refine (Classical.em (t209 = true)).elim (fun c32 => ?p13) (fun c32 => ?n13)
        case' p13 =>
         subst c32
         have H1 : (if (¬ a0_3.toList = ([] : List UInt8)) then (some false) else (if ((l0_5.length : Int) > 0) then (some false) else (some (!(decide ((l0_6.length : Int) > 0)))))) = some r := by rw [if_pos rfl] at H; exact H
         clear H; have H := H1; clear H1
         refine (Classical.em ((¬ a0_3.toList = ([] : List UInt8)))).elim (fun c33 => ?p14) (fun c33 => ?n14)
         case' p14 =>
          rw [if_pos c33] at H
          have c33b0 : (a0_3.toList == ([] : List UInt8)) = false := beq_eq_false_iff_ne.mpr c33
          have c33b1 : (a0_3.toList != ([] : List UInt8)) = true := bne_iff_ne.mpr c33
          clear c33; obtain rfl := Option.some.inj H
         case' n14 =>
          rw [if_neg c33] at H
          have c33b0 : (a0_3.toList == ([] : List UInt8)) = true := beq_iff_eq.mpr (Decidable.not_not.mp c33)
          have c33b1 : (a0_3.toList != ([] : List UInt8)) = false := bne_eq_false_iff_eq.mpr (Decidable.not_not.mp c33)
          refine (Classical.em (((l0_5.length : Int) > 0))).elim (fun c35 => ?p15) (fun c35 => ?n15)
          case' p15 =>
           rw [if_pos c35] at H; have c35b0 : decide (0 < (l0_5.length : Int)) = true := decide_eq_true c35
           have c35b1 : decide (0 < l0_5.length) = true := decide_eq_true (by omega)
           clear c35; obtain rfl := Option.some.inj H
          case' n15 =>
           rw [if_neg c35] at H; have c35b0 : decide (0 < (l0_5.length : Int)) = false := decide_eq_false c35
           have c35b1 : decide (0 < l0_5.length) = false := decide_eq_false (by omega)
           clear c35; obtain rfl := Option.some.inj H
        case n13 =>
         replace c32 := Bool.eq_false_iff.mpr c32
         subst c32
         have H1 : (some false) = some r := by rw [if_neg (show ¬ (false = true) by decide)] at H; exact H
         clear H; have H := H1; clear H1; obtain rfl := Option.some.inj H
         repeat (go_quiet (first | (go_at_call 51; (with_reducible refine (impl_SetOk.calls kj1 _ _ l0_4 false _ ?side1 ?side2 A31.out).mono ?_); (case side1 => exact kc HR0_4 HB); (case side2 => exact HC0_4.out); rintro e w' ⟨rfl, ⟨nd, rfl⟩⟩; (try first | exact ⟨rfl, _, zq32 _ _ _⟩ | exact ⟨rfl, _, Eq.trans (zq32 _ _ _) (congrArg (World.drewN _) (Nat.add_assoc _ _ _))⟩))); try go_wp2_with (first | (go_at_call 51; (with_reducible refine (impl_SetOk.calls kj1 _ _ l0_4 false _ ?side1 ?side2 A31.out).mono ?_); (case side1 => exact kc HR0_4 HB); (case side2 => exact HC0_4.out); rintro e w' ⟨rfl, ⟨nd, rfl⟩⟩; (try first | exact ⟨rfl, _, zq32 _ _ _⟩ | exact ⟨rfl, _, Eq.trans (zq32 _ _ _) (congrArg (World.drewN _) (Nat.add_assoc _ _ _))⟩))))
         go_ret
         exact fz (by exact b1 HB GE205)
       case n12 =>
        rw [if_neg c30] at H; have c30b0 : decide (0 < (l0_4.length : Int)) = false := decide_eq_false c30
        have c30b1 : decide (0 < l0_4.length) = false := decide_eq_false (by omega)
        clear c30; obtain rfl := Option.some.inj H
        go_wp2
        repeat (go_quiet (fail); try go_wp2)
        go_ret
        exact fz (by exact b1 HB GE205)
      case' n11 =>
       rw [if_neg c29] at H
       have c29b0 : (a0_2 == 3) = false := beq_eq_false_iff_ne.mpr c29
       have c29b1 : (a0_2 != 3) = true := bne_iff_ne.mpr c29
       refine (Classical.em (a0_2 = 4)).elim (fun c40 => ?p16) (fun c40 => ?n16)
       case' p16 =>
        rw [if_pos c40] at H
        have c40b0 : (a0_2 == 4) = true := beq_iff_eq.mpr c40
        have c40b1 : (a0_2 != 4) = false := bne_eq_false_iff_eq.mpr c40
        clear c40
        refine (Classical.em ((l0_5.length : Int) > 0)).elim (fun c41 => ?p17) (fun c41 => ?n17)
        case' p17 =>
         rw [if_pos c41] at H; have c41b0 : decide (0 < (l0_5.length : Int)) = true := decide_eq_true c41
         have c41b1 : decide (0 < l0_5.length) = true := decide_eq_true (by omega)
         clear c41; replace H := Option.bind_eq_some_iff.mp H; obtain ⟨t210, A420, H⟩ := H
         try dsimp only at H
         have A42 := zq9 A420; clear A420
         go_wp2_with (first | (go_at_call 52; (with_reducible refine (impl_ScoresOk.calls kj1 _ _ l0_5 t210 _ ?side1 ?side2 A42.out).mono ?_); (case side1 => exact kc HR0_5 HB); (case side2 => exact HC0_5.out); rintro e w46 ⟨rfl, hb⟩; have n0_ := zq9 (zq30 (g := gb205) (o := .cells #[.string a0_0, .int .i64 a0_1, .int .i64 a0_2, .string a0_3, .slice A0_4 l0_4.length c0_4, .slice A0_5 l0_5.length c0_5, .slice A0_6 l0_6.length c0_6] 32 (0, 0)) (by exact bk BK205) hb); have n1_ := zq9 (zq27 (by exact b1 HB GE205) hb); clear BK205; clear HB; have BK205 := n0_; have HB := n1_; clear n0_ n1_; (try clear hb); (try clear hb2); (try clear hk); (try clear hi)))
         refine (Classical.em (t210 = true)).elim (fun c43 => ?p18) (fun c43 => ?n18)
         case' p18 =>
          subst c43
          have H1 : (if (¬ a0_3.toList = ([] : List UInt8)) then (some false) else (if ((l0_4.length : Int) > 0) then (some false) else (some (!(decide ((l0_6.length : Int) > 0)))))) = some r := by rw [if_pos rfl] at H; exact H
          clear H; have H := H1; clear H1
          refine (Classical.em ((¬ a0_3.toList = ([] : List UInt8)))).elim (fun c44 => ?p19) (fun c44 => ?n19)
          case' p19 =>
           rw [if_pos c44] at H
           have c44b0 : (a0_3.toList == ([] : List UInt8)) = false := beq_eq_false_iff_ne.mpr c44
           have c44b1 : (a0_3.toList != ([] : List UInt8)) = true := bne_iff_ne.mpr c44
           clear c44; obtain rfl := Option.some.inj H
          case' n19 =>
           rw [if_neg c44] at H
           have c44b0 : (a0_3.toList == ([] : List UInt8)) = true := beq_iff_eq.mpr (Decidable.not_not.mp c44)
           have c44b1 : (a0_3.toList != ([] : List UInt8)) = false := bne_eq_false_iff_eq.mpr (Decidable.not_not.mp c44)
           refine (Classical.em (((l0_4.length : Int) > 0))).elim (fun c47 => ?p20) (fun c47 => ?n20)
           case' p20 =>
            rw [if_pos c47] at H; have c47b0 : decide (0 < (l0_4.length : Int)) = true := decide_eq_true c47
            have c47b1 : decide (0 < l0_4.length) = true := decide_eq_true (by omega)
            clear c47; obtain rfl := Option.some.inj H
           case' n20 =>
            rw [if_neg c47] at H; have c47b0 : decide (0 < (l0_4.length : Int)) = false := decide_eq_false c47
            have c47b1 : decide (0 < l0_4.length) = false := decide_eq_false (by omega)
            clear c47; obtain rfl := Option.some.inj H
         case n18 =>
          replace c43 := Bool.eq_false_iff.mpr c43
          subst c43
          have H1 : (some false) = some r := by rw [if_neg (show ¬ (false = true) by decide)] at H; exact H
          clear H; have H := H1; clear H1; obtain rfl := Option.some.inj H
          repeat (go_quiet (first | (go_at_call 52; (with_reducible refine (impl_ScoresOk.calls kj1 _ _ l0_5 false _ ?side1 ?side2 A42.out).mono ?_); (case side1 => exact kc HR0_5 HB); (case side2 => exact HC0_5.out); rintro e w46 ⟨rfl, hb⟩; have n0_ := zq9 (zq30 (g := gb205) (o := .cells #[.string a0_0, .int .i64 a0_1, .int .i64 a0_2, .string a0_3, .slice A0_4 l0_4.length c0_4, .slice A0_5 l0_5.length c0_5, .slice A0_6 l0_6.length c0_6] 32 (0, 0)) (by exact bk BK205) hb); have n1_ := zq9 (zq27 (by exact b1 HB GE205) hb); clear BK205; clear HB; have BK205 := n0_; have HB := n1_; clear n0_ n1_; (try clear hb); (try clear hb2); (try clear hk); (try clear hi))); try go_wp2_with (first | (go_at_call 52; (with_reducible refine (impl_ScoresOk.calls kj1 _ _ l0_5 false _ ?side1 ?side2 A42.out).mono ?_); (case side1 => exact kc HR0_5 HB); (case side2 => exact HC0_5.out); rintro e w46 ⟨rfl, hb⟩; have n0_ := zq9 (zq30 (g := gb205) (o := .cells #[.string a0_0, .int .i64 a0_1, .int .i64 a0_2, .string a0_3, .slice A0_4 l0_4.length c0_4, .slice A0_5 l0_5.length c0_5, .slice A0_6 l0_6.length c0_6] 32 (0, 0)) (by exact bk BK205) hb); have n1_ := zq9 (zq27 (by exact b1 HB GE205) hb); clear BK205; clear HB; have BK205 := n0_; have HB := n1_; clear n0_ n1_; (try clear hb); (try clear hb2); (try clear hk); (try clear hi))))
          go_ret
          exact fz (by exact b1 HB GE205)
        case n17 =>
         rw [if_neg c41] at H; have c41b0 : decide (0 < (l0_5.length : Int)) = false := decide_eq_false c41
         have c41b1 : decide (0 < l0_5.length) = false := decide_eq_false (by omega)
         clear c41; obtain rfl := Option.some.inj H
         go_wp2
         repeat (go_quiet (fail); try go_wp2)
         go_ret
         exact fz (by exact b1 HB GE205)
       case' n16 =>
        rw [if_neg c40] at H
        have c40b0 : (a0_2 == 4) = false := beq_eq_false_iff_ne.mpr c40
        have c40b1 : (a0_2 != 4) = true := bne_iff_ne.mpr c40
        refine (Classical.em (a0_2 = 5)).elim (fun c55 => ?p21) (fun c55 => ?n21)
        case' p21 =>
         rw [if_pos c55] at H
         have c55b0 : (a0_2 == 5) = true := beq_iff_eq.mpr c55
         have c55b1 : (a0_2 != 5) = false := bne_eq_false_iff_eq.mpr c55
         clear c55
         refine (Classical.em ((l0_6.length : Int) > 0)).elim (fun c56 => ?p22) (fun c56 => ?n22)
         case' p22 =>
          rw [if_pos c56] at H; have c56b0 : decide (0 < (l0_6.length : Int)) = true := decide_eq_true c56
          have c56b1 : decide (0 < l0_6.length) = true := decide_eq_true (by omega)
          clear c56; replace H := Option.bind_eq_some_iff.mp H; obtain ⟨t211, A570, H⟩ := H
          try dsimp only at H
          have A57 := zq9 A570; clear A570
          go_wp2_with (first | (go_at_call 53; (with_reducible refine (impl_FieldsOk.calls kj1 _ _ l0_6 t211 _ ?side1 ?side2 A57.out).mono ?_); (case side1 => exact kc HR0_6 HB); (case side2 => exact HC0_6.out); rintro e w61 ⟨rfl, hb⟩; have n0_ := zq9 (zq30 (g := gb205) (o := .cells #[.string a0_0, .int .i64 a0_1, .int .i64 a0_2, .string a0_3, .slice A0_4 l0_4.length c0_4, .slice A0_5 l0_5.length c0_5, .slice A0_6 l0_6.length c0_6] 32 (0, 0)) (by exact bk BK205) hb); have n1_ := zq9 (zq27 (by exact b1 HB GE205) hb); clear BK205; clear HB; have BK205 := n0_; have HB := n1_; clear n0_ n1_; (try clear hb); (try clear hb2); (try clear hk); (try clear hi)))
          refine (Classical.em (t211 = true)).elim (fun c58 => ?p23) (fun c58 => ?n23)
          case' p23 =>
           subst c58
           have H1 : (if (¬ a0_3.toList = ([] : List UInt8)) then (some false) else (if ((l0_4.length : Int) > 0) then (some false) else (some (!(decide ((l0_5.length : Int) > 0)))))) = some r := by rw [if_pos rfl] at H; exact H
           clear H; have H := H1; clear H1
           refine (Classical.em ((¬ a0_3.toList = ([] : List UInt8)))).elim (fun c59 => ?p24) (fun c59 => ?n24)
           case' p24 =>
            rw [if_pos c59] at H
            have c59b0 : (a0_3.toList == ([] : List UInt8)) = false := beq_eq_false_iff_ne.mpr c59
            have c59b1 : (a0_3.toList != ([] : List UInt8)) = true := bne_iff_ne.mpr c59
            clear c59; obtain rfl := Option.some.inj H
           case' n24 =>
            rw [if_neg c59] at H
            have c59b0 : (a0_3.toList == ([] : List UInt8)) = true := beq_iff_eq.mpr (Decidable.not_not.mp c59)
            have c59b1 : (a0_3.toList != ([] : List UInt8)) = false := bne_eq_false_iff_eq.mpr (Decidable.not_not.mp c59)
            refine (Classical.em (((l0_4.length : Int) > 0))).elim (fun c62 => ?p25) (fun c62 => ?n25)
            case' p25 =>
             rw [if_pos c62] at H; have c62b0 : decide (0 < (l0_4.length : Int)) = true := decide_eq_true c62
             have c62b1 : decide (0 < l0_4.length) = true := decide_eq_true (by omega)
             clear c62; obtain rfl := Option.some.inj H
            case' n25 =>
             rw [if_neg c62] at H; have c62b0 : decide (0 < (l0_4.length : Int)) = false := decide_eq_false c62
             have c62b1 : decide (0 < l0_4.length) = false := decide_eq_false (by omega)
             clear c62; obtain rfl := Option.some.inj H
          case n23 =>
           replace c58 := Bool.eq_false_iff.mpr c58
           subst c58
           have H1 : (some false) = some r := by rw [if_neg (show ¬ (false = true) by decide)] at H; exact H
           clear H; have H := H1; clear H1; obtain rfl := Option.some.inj H
           repeat (go_quiet (first | (go_at_call 53; (with_reducible refine (impl_FieldsOk.calls kj1 _ _ l0_6 false _ ?side1 ?side2 A57.out).mono ?_); (case side1 => exact kc HR0_6 HB); (case side2 => exact HC0_6.out); rintro e w61 ⟨rfl, hb⟩; have n0_ := zq9 (zq30 (g := gb205) (o := .cells #[.string a0_0, .int .i64 a0_1, .int .i64 a0_2, .string a0_3, .slice A0_4 l0_4.length c0_4, .slice A0_5 l0_5.length c0_5, .slice A0_6 l0_6.length c0_6] 32 (0, 0)) (by exact bk BK205) hb); have n1_ := zq9 (zq27 (by exact b1 HB GE205) hb); clear BK205; clear HB; have BK205 := n0_; have HB := n1_; clear n0_ n1_; (try clear hb); (try clear hb2); (try clear hk); (try clear hi))); try go_wp2_with (first | (go_at_call 53; (with_reducible refine (impl_FieldsOk.calls kj1 _ _ l0_6 false _ ?side1 ?side2 A57.out).mono ?_); (case side1 => exact kc HR0_6 HB); (case side2 => exact HC0_6.out); rintro e w61 ⟨rfl, hb⟩; have n0_ := zq9 (zq30 (g := gb205) (o := .cells #[.string a0_0, .int .i64 a0_1, .int .i64 a0_2, .string a0_3, .slice A0_4 l0_4.length c0_4, .slice A0_5 l0_5.length c0_5, .slice A0_6 l0_6.length c0_6] 32 (0, 0)) (by exact bk BK205) hb); have n1_ := zq9 (zq27 (by exact b1 HB GE205) hb); clear BK205; clear HB; have BK205 := n0_; have HB := n1_; clear n0_ n1_; (try clear hb); (try clear hb2); (try clear hk); (try clear hi))))
           go_ret
           exact fz (by exact b1 HB GE205)
         case n22 =>
          rw [if_neg c56] at H; have c56b0 : decide (0 < (l0_6.length : Int)) = false := decide_eq_false c56
          have c56b1 : decide (0 < l0_6.length) = false := decide_eq_false (by omega)
          clear c56; obtain rfl := Option.some.inj H
          go_wp2
          repeat (go_quiet (fail); try go_wp2)
          go_ret
          exact fz (by exact b1 HB GE205)
        case n21 =>
         rw [if_neg c55] at H
         have c55b0 : (a0_2 == 5) = false := beq_eq_false_iff_ne.mpr c55
         have c55b1 : (a0_2 != 5) = true := bne_iff_ne.mpr c55
         obtain rfl := Option.some.inj H
         go_wp2
         repeat (go_quiet (fail); try go_wp2)
         go_ret
         exact fz (by exact b1 HB GE205)
   case p9 | p10 | n10 =>
    repeat (go_quiet (first | (go_at_call 50; (with_reducible refine (impl_listOk.calls kj1 _ _ l0_4 true _ ?side1 ?side2 A20.out).mono ?_); (case side1 => exact kc HR0_4 HB); (case side2 => exact HC0_4.out); rintro e w' ⟨rfl, ⟨nd, rfl⟩⟩; (try first | exact ⟨rfl, _, zq32 _ _ _⟩ | exact ⟨rfl, _, Eq.trans (zq32 _ _ _) (congrArg (World.drewN _) (Nat.add_assoc _ _ _))⟩))); try go_wp2_with (first | (go_at_call 50; (with_reducible refine (impl_listOk.calls kj1 _ _ l0_4 true _ ?side1 ?side2 A20.out).mono ?_); (case side1 => exact kc HR0_4 HB); (case side2 => exact HC0_4.out); rintro e w' ⟨rfl, ⟨nd, rfl⟩⟩; (try first | exact ⟨rfl, _, zq32 _ _ _⟩ | exact ⟨rfl, _, Eq.trans (zq32 _ _ _) (congrArg (World.drewN _) (Nat.add_assoc _ _ _))⟩))))
    go_ret
    exact fz (by exact b1 HB GE205)
   case p14 | p15 | n15 =>
    repeat (go_quiet (first | (go_at_call 51; (with_reducible refine (impl_SetOk.calls kj1 _ _ l0_4 true _ ?side1 ?side2 A31.out).mono ?_); (case side1 => exact kc HR0_4 HB); (case side2 => exact HC0_4.out); rintro e w' ⟨rfl, ⟨nd, rfl⟩⟩; (try first | exact ⟨rfl, _, zq32 _ _ _⟩ | exact ⟨rfl, _, Eq.trans (zq32 _ _ _) (congrArg (World.drewN _) (Nat.add_assoc _ _ _))⟩))); try go_wp2_with (first | (go_at_call 51; (with_reducible refine (impl_SetOk.calls kj1 _ _ l0_4 true _ ?side1 ?side2 A31.out).mono ?_); (case side1 => exact kc HR0_4 HB); (case side2 => exact HC0_4.out); rintro e w' ⟨rfl, ⟨nd, rfl⟩⟩; (try first | exact ⟨rfl, _, zq32 _ _ _⟩ | exact ⟨rfl, _, Eq.trans (zq32 _ _ _) (congrArg (World.drewN _) (Nat.add_assoc _ _ _))⟩))))
    go_ret
    exact fz (by exact b1 HB GE205)
   case p19 | p20 | n20 =>
    repeat (go_quiet (first | (go_at_call 52; (with_reducible refine (impl_ScoresOk.calls kj1 _ _ l0_5 true _ ?side1 ?side2 A42.out).mono ?_); (case side1 => exact kc HR0_5 HB); (case side2 => exact HC0_5.out); rintro e w46 ⟨rfl, hb⟩; have n0_ := zq9 (zq30 (g := gb205) (o := .cells #[.string a0_0, .int .i64 a0_1, .int .i64 a0_2, .string a0_3, .slice A0_4 l0_4.length c0_4, .slice A0_5 l0_5.length c0_5, .slice A0_6 l0_6.length c0_6] 32 (0, 0)) (by exact bk BK205) hb); have n1_ := zq9 (zq27 (by exact b1 HB GE205) hb); clear BK205; clear HB; have BK205 := n0_; have HB := n1_; clear n0_ n1_; (try clear hb); (try clear hb2); (try clear hk); (try clear hi))); try go_wp2_with (first | (go_at_call 52; (with_reducible refine (impl_ScoresOk.calls kj1 _ _ l0_5 true _ ?side1 ?side2 A42.out).mono ?_); (case side1 => exact kc HR0_5 HB); (case side2 => exact HC0_5.out); rintro e w46 ⟨rfl, hb⟩; have n0_ := zq9 (zq30 (g := gb205) (o := .cells #[.string a0_0, .int .i64 a0_1, .int .i64 a0_2, .string a0_3, .slice A0_4 l0_4.length c0_4, .slice A0_5 l0_5.length c0_5, .slice A0_6 l0_6.length c0_6] 32 (0, 0)) (by exact bk BK205) hb); have n1_ := zq9 (zq27 (by exact b1 HB GE205) hb); clear BK205; clear HB; have BK205 := n0_; have HB := n1_; clear n0_ n1_; (try clear hb); (try clear hb2); (try clear hk); (try clear hi))))
    go_ret
    exact fz (by exact b1 HB GE205)
   case p24 | p25 | n25 =>
    repeat (go_quiet (first | (go_at_call 53; (with_reducible refine (impl_FieldsOk.calls kj1 _ _ l0_6 true _ ?side1 ?side2 A57.out).mono ?_); (case side1 => exact kc HR0_6 HB); (case side2 => exact HC0_6.out); rintro e w61 ⟨rfl, hb⟩; have n0_ := zq9 (zq30 (g := gb205) (o := .cells #[.string a0_0, .int .i64 a0_1, .int .i64 a0_2, .string a0_3, .slice A0_4 l0_4.length c0_4, .slice A0_5 l0_5.length c0_5, .slice A0_6 l0_6.length c0_6] 32 (0, 0)) (by exact bk BK205) hb); have n1_ := zq9 (zq27 (by exact b1 HB GE205) hb); clear BK205; clear HB; have BK205 := n0_; have HB := n1_; clear n0_ n1_; (try clear hb); (try clear hb2); (try clear hk); (try clear hi))); try go_wp2_with (first | (go_at_call 53; (with_reducible refine (impl_FieldsOk.calls kj1 _ _ l0_6 true _ ?side1 ?side2 A57.out).mono ?_); (case side1 => exact kc HR0_6 HB); (case side2 => exact HC0_6.out); rintro e w61 ⟨rfl, hb⟩; have n0_ := zq9 (zq30 (g := gb205) (o := .cells #[.string a0_0, .int .i64 a0_1, .int .i64 a0_2, .string a0_3, .slice A0_4 l0_4.length c0_4, .slice A0_5 l0_5.length c0_5, .slice A0_6 l0_6.length c0_6] 32 (0, 0)) (by exact bk BK205) hb); have n1_ := zq9 (zq27 (by exact b1 HB GE205) hb); clear BK205; clear HB; have BK205 := n0_; have HB := n1_; clear n0_ n1_; (try clear hb); (try clear hb2); (try clear hk); (try clear hi))))
    go_ret
    exact fz (by exact b1 HB GE205)
def impl_BaseOk.T6 : Bool × List (List Nat × List Nat) := (true, [([], []), ([0], [0]), ([1], [1]), ([2, 1], [2]), ([3], [3]), ([4, 3], [3, 4]), ([5, 3, 3], [3, 5]), ([6], [6]), ([7, 6], [6, 7]), ([6], [6]), ([9, 6], [6, 9]), ([8, 10, 6], [6, 8, 10]), ([11, 6], [6, 11]), ([12, 6], [6, 12]), ([6], [6]), ([14, 6], [6, 14]), ([13, 15, 6], [6, 13, 15]), ([6, 16, 3], [3, 6, 16]), ([3, 17], [3, 17]), ([18, 6], [18]), ([19], [19]), ([20, 19], [19, 20]), ([21, 19], [19, 21]), ([22, 19, 19], [19, 22]), ([23], [23]), ([24, 23], [23, 24]), ([23], [23]), ([26, 23], [23, 26]), ([25, 27, 23], [23, 25, 27]), ([23, 28, 19], [19, 23, 28]), ([19, 29], [19, 29])])
def impl_BaseOk.B6 : List Nat := [0, 1, 3, 7, 15, 31, 63, 127, 255, 127, 639, 2047, 4095, 8191, 127, 16511, 65535, 131071, 262143, 524287, 1048575, 2097151, 4194303, 8388607, 16777215, 33554431, 16777215, 83886079, 268435455, 536870911, 1073741823]
theorem impl_BaseOk.tab6 : rtab .any (opsOf Try.f19 6) = impl_BaseOk.T6 := by kernel_rfl
theorem impl_BaseOk.bits6 : waitsOk impl_BaseOk.T6.2 impl_BaseOk.B6 = true := by kernel_rfl
set_option maxHeartbeats 8000000 in
set_option maxRecDepth 100000 in
theorem impl_BaseOk.calls (k : Nat) (a0_0 : Int) (A0_1 : Option Addr) (c0_1 : Nat) (l0_1 : List (S32)) (r : Bool) (w : World) (hr0_1 : Kd.C k32 w A0_1 l0_1.length l0_1) (hc0_1 : l0_1.length ≤ c0_1) (h : impl_BaseOk.f k a0_0 l0_1 = some r) :
  Calls Try.prog 19 #[.agg #[.int .i64 a0_0, .slice A0_1 l0_1.length c0_1]] w fun e w' => e = .returned (.bool r) ∧ Below w.heap.size w w' := by
 have hu46 := Try.underlying46; have hu32 := Try.underlying32; have HR0_1 := zq9 hr0_1; have HC0_1 := zq9 hc0_1; clear hr0_1 hc0_1
 have HB := zq9 (Below.refl w.heap.size w)
 have H : ((impl_within.f a0_0 0 1000000).bind fun t677 => (if t677 = true then (impl_BaseOk.j0 k (decide ((l0_1.length : Int) > 12)) a0_0 l0_1) else (impl_BaseOk.j0 k true a0_0 l0_1))) = some r := h
 clear h; have HC2 := zq9 H; clear H
 go_enter Try.func19, Try.ntmps19
 go_upto_region 1 with (first | ((with_reducible refine zq25 (N := 1) rfl ?_); (try (refine gate_guard (by rfl) ?_; dsimp only)); refine bx 1 #[.int .i64 a0_0, .slice A0_1 l0_1.length c0_1] 46 ?_; intro gb676 hg w3 hbox hb; have n0_ := zq9 (zq27 (by exact bl HB) hb); have n1_ := zq9 (hbox); have n2_ := zq9 ((by rw [hg]; exact (zq29 (by exact bl HB)) : w.heap.size ≤ gb676)); have n3_ := n2_; clear HB; have HB := n0_; have BK676 := n1_; have GW676 := n2_; have GE676 := n3_; clear n0_ n1_ n2_ n3_; clear hb hbox hg))
 (try simp only [Act.put, zq0, zq1, zq2])
 go_cut [14] (fun v14 wc => ∃ (kq : Nat) (x14_1 : Bool), v14 = .bool x14_1 ∧ Aside0 (impl_BaseOk.j0 kq x14_1 a0_0 l0_1 = some r) ∧ Aside0 (kq ≤ k) ∧ Aside0 (wc.heap[gb676]? = some (.cells #[.int .i64 a0_0, (.slice A0_1 l0_1.length c0_1)] 46 (0, 0))) ∧ Aside0 (Below w.heap.size w wc))
 case first =>
  have H := HC2.out; clear HC2; replace H := Option.bind_eq_some_iff.mp H; obtain ⟨t677, A40, H⟩ := H
  try dsimp only at H
  have A4 := zq9 A40; clear A40
  have hcz6_0 : w3.cell? ⟨gb676, 0, none⟩ = some (.int .i64 a0_0) := bc BK676 0
  have hcz6_1 : w3.cell? ⟨gb676, 1, none⟩ = some (.slice A0_1 l0_1.length c0_1) := bc BK676 1
  have hfz6_0 := zq6 BK676.out 0
  have hfz6_1 := zq6 BK676.out 1
  by_cases c5 : t677 = true
  ·subst c5
   have H1 : (impl_BaseOk.j0 k (decide ((l0_1.length : Int) > 12)) a0_0 l0_1) = some r := by rw [if_pos rfl] at H; exact H
   clear H; have H := H1; clear H1; have H' := zq9 H; clear H
   go_wp2_with (first | ((with_reducible refine zq24 (f := 49) rfl ?_); refine gl (some 7) Try.func49 #[.int .i64 a0_0, .int .i64 0, .int .i64 1000000] ?_; (with_reducible refine (impl_within.calls a0_0 0 1000000 true _ A4.out).mono ?_); rintro e w' ⟨rfl, ⟨nd, rfl⟩⟩; refine ⟨_, rfl, ?_⟩))
   go_meet
   case rel => exact ⟨_, (decide ((l0_1.length : Int) > 12)), (by first | rfl | (simp; done) | (simp [*]; done)), H', ⟨by first | omega | exact Nat.le_refl _⟩, ⟨by refine bp ?_; exact BK676.out⟩, ⟨by exact b1 HB GE676⟩⟩
  ·replace c5 := Bool.eq_false_iff.mpr c5
   subst c5
   have H1 : (impl_BaseOk.j0 k true a0_0 l0_1) = some r := by rw [if_neg (show ¬ (false = true) by decide)] at H; exact H
   clear H; have H := H1; clear H1; have H' := zq9 H; clear H
   go_wp2_with (first | ((with_reducible refine zq24 (f := 49) rfl ?_); refine gl (some 7) Try.func49 #[.int .i64 a0_0, .int .i64 0, .int .i64 1000000] ?_; (with_reducible refine (impl_within.calls a0_0 0 1000000 false _ A4.out).mono ?_); rintro e w' ⟨rfl, ⟨nd, rfl⟩⟩; refine ⟨_, rfl, ?_⟩))
   go_meet
   case rel => exact ⟨_, (true), (by first | rfl | (simp; done) | (simp [*]; done)), H', ⟨by first | omega | exact Nat.le_refl _⟩, ⟨by refine bp ?_; exact BK676.out⟩, ⟨by exact b1 HB GE676⟩⟩
 case rest =>
  clear HC2
  try clear c1
  try clear p2
  try clear c4
  try clear c5
  try clear hcz6_0
  try clear hcz6_1
  try clear hcz7_0
  try clear hcz7_1
  try clear hfz6_0
  try clear hfz6_1
  try clear hfz7_0
  try clear hfz7_1
  obtain ⟨kq, x14_1, rfl, HA, HJ1, BK676, HB⟩ := hcut
  cases kq with
  | zero => exact absurd HA.out (by simp [impl_BaseOk.j0])
  | succ kj1 =>
   have H := HA.out; clear HA
   simp only [impl_BaseOk.j0] at H
   by_cases c8 : x14_1 = true
   ·subst c8
    have H1 : (some false) = some r := by rw [if_pos rfl] at H; exact H
    clear H; have H := H1; clear H1; obtain rfl := Option.some.inj H
    go_wp2
    go_ret
    exact fz (by exact b1 HB GE676)
   ·replace c8 := Bool.eq_false_iff.mpr c8
    subst c8
    have H1 : (impl_BaseOk.l0 kj1 l0_1 (l0_1.length : Int) 0 a0_0 l0_1) = some r := by rw [if_neg (show ¬ (false = true) by decide)] at H; exact H
    clear H; have H := H1; clear H1; have H' := zq9 H; clear H
    have hcz9_0 : wc.cell? ⟨gb676, 0, none⟩ = some (.int .i64 a0_0) := bc BK676 0
    have hcz9_1 : wc.cell? ⟨gb676, 1, none⟩ = some (.slice A0_1 l0_1.length c0_1) := bc BK676 1
    have hfz9_0 := zq6 BK676.out 0
    have hfz9_1 := zq6 BK676.out 1
    go_wp2
    go_loopg [18] kj1 (fun kq v18 w' => ∃ (x18_2 : Int), v18 = .int .i64 x18_2 ∧ Aside0 (impl_BaseOk.l0 kq l0_1 (l0_1.length : Int) x18_2 a0_0 l0_1 = some r) ∧ Aside0 (kq ≤ kj1) ∧ Aside0 (w'.heap[gb676]? = some (.cells #[.int .i64 a0_0, (.slice A0_1 l0_1.length c0_1)] 46 (0, 0))) ∧ Aside0 (Below w.heap.size w w'))
    case atStart => exact ⟨(0), (by first | rfl | (simp; done) | (simp [*]; done)), H', ⟨Nat.le_refl _⟩, ⟨by refine bp ?_; exact BK676.out⟩, ⟨by exact b1 HB GE676⟩⟩
    case round =>
     clear H'
     try clear c1
     try clear p2
     try clear c4
     try clear c5
     try clear c8
     try clear hcz6_0
     try clear hcz6_1
     try clear hcz7_0
     try clear hcz7_1
     try clear hcz9_0
     try clear hcz9_1
     try clear hfz6_0
     try clear hfz6_1
     try clear hfz7_0
     try clear hfz7_1
     try clear hfz9_0
     try clear hfz9_1
     try clear p2
     obtain ⟨x18_2, rfl, HA, HK2, BK676, HB⟩ := hrel
     cases gk with
     | zero => exact absurd HA.out (by simp [impl_BaseOk.l0])
     | succ k2 =>
      have H := HA.out; clear HA
      simp only [impl_BaseOk.l0] at H
      by_cases c10 : x18_2 < (l0_1.length : Int)
      ·rw [if_pos c10] at H; have c10b0 : decide (x18_2 < (l0_1.length : Int)) = true := decide_eq_true c10; clear c10
       by_cases c11 : 0 ≤ x18_2
       ·rw [if_pos c11] at H; have c11b0 : decide (0 ≤ x18_2) = true := decide_eq_true c11; clear c11
        by_cases c12 : x18_2 < (l0_1.length : Int)
        ·rw [if_pos c12] at H; have c12b0 : decide (x18_2 < (l0_1.length : Int)) = true := decide_eq_true c12; clear c12; have HC13 := zq9 H; clear H
         have p678 : 0 ≤ (x18_2 : Int) := of_decide_eq_true ‹_›
         have q678 : x18_2 < (l0_1.length : Int) := of_decide_eq_true ‹_›
         obtain ⟨ad678, A678_4, c678_4, A678_5, c678_5, A678_6, c678_6, e678, hx678_0, hx678_1, hx678_2, hx678_3, hx678_4, hx678_5, hx678_6, hl678_4, hi678_4, hl678_5, hi678_5, hl678_6, hi678_6⟩ := at_T32 HR0_1.out x18_2 p678 q678
         cases e678; replace hx678_0 := hcl HB hx678_0; replace hx678_1 := hcl HB hx678_1; replace hx678_2 := hcl HB hx678_2; replace hx678_3 := hcl HB hx678_3; replace hx678_4 := hcl HB hx678_4; replace hx678_5 := hcl HB hx678_5; replace hx678_6 := hcl HB hx678_6; have HR678_4 := zq9 hi678_4; have HC678_4 := zq9 hl678_4; clear hi678_4 hl678_4; have HR678_5 := zq9 hi678_5; have HC678_5 := zq9 hl678_5
         clear hi678_5 hl678_5; have HR678_6 := zq9 hi678_6; have HC678_6 := zq9 hl678_6; clear hi678_6 hl678_6; replace p678 := eq_true p678; replace q678 := eq_true q678
         go_upto_region 6 with (first | ((with_reducible refine zq25 (N := 4) rfl ?_); (try (refine gate_guard (by rfl) ?_; dsimp only)); refine bx 4 #[.string (⟨#[]⟩ : ByteArray), .int .i64 0, .int .i64 0, .string (⟨#[]⟩ : ByteArray), .slice none 0 0, .slice none 0 0, .slice none 0 0] 32 ?_; intro gb679 hg w14 hbox hb; have n0_ := zq9 (zq30 (g := gb676) (o := .cells #[.int .i64 a0_0, .slice (some ad678) l0_1.length c0_1] 46 (0, 0)) (by exact bk BK676) hb); have n1_ := zq9 (zq27 (by exact b1 HB GE676) hb); have n2_ := zq9 (hbox); have n3_ := zq9 ((by rw [hg]; exact (zq29 (by exact b1 HB GE676)) : w.heap.size ≤ gb679)); have n4_ := n3_; have n5_ := zq9 ((by rw [hg]; exact Nat.ne_of_lt (blk_lt (g := gb676) (o := .cells #[.int .i64 a0_0, .slice (some ad678) l0_1.length c0_1] 46 (0, 0)) (by exact bk BK676)) : gb676 ≠ gb679)); have n6_ := zq9 ((by rw [hg]; exact Nat.ne_of_gt (blk_lt (g := gb676) (o := .cells #[.int .i64 a0_0, .slice (some ad678) l0_1.length c0_1] 46 (0, 0)) (by exact bk BK676)) : gb679 ≠ gb676)); clear BK676; clear HB; have BK676 := n0_; have HB := n1_; have BK679 := n2_; have GW679 := n3_; have GE679 := n4_; have NB676_679 := n5_; have NB679_676 := n6_; clear n0_ n1_ n2_ n3_ n4_ n5_ n6_; clear hb hbox hg; have hnb15 := NB679_676.out; have hnc15 := NB676_679.out; have hcz16_0 : w14.cell? ⟨gb679, 0, none⟩ = some (.string (⟨#[]⟩ : ByteArray)) := bc BK679 0; have hcz16_1 : w14.cell? ⟨gb679, 1, none⟩ = some (.int .i64 0) := bc BK679 1; have hcz16_2 : w14.cell? ⟨gb679, 2, none⟩ = some (.int .i64 0) := bc BK679 2; have hcz16_3 : w14.cell? ⟨gb679, 3, none⟩ = some (.string (⟨#[]⟩ : ByteArray)) := bc BK679 3; have hcz16_4 : w14.cell? ⟨gb679, 4, none⟩ = some (.slice none 0 0) := bc BK679 4; have hcz16_5 : w14.cell? ⟨gb679, 5, none⟩ = some (.slice none 0 0) := bc BK679 5; have hcz16_6 : w14.cell? ⟨gb679, 6, none⟩ = some (.slice none 0 0) := bc BK679 6; have hfz16_0 := zq6 BK679.out 0; have hfz16_1 := zq6 BK679.out 1; have hfz16_2 := zq6 BK679.out 2; have hfz16_3 := zq6 BK679.out 3; have hfz16_4 := zq6 BK679.out 4; have hfz16_5 := zq6 BK679.out 5; have hfz16_6 := zq6 BK679.out 6))
         (try simp only [Act.put, zq0, zq1, zq2])
         go_cut [53] (fun v53 wc => ∃ (kq : Nat) (x53_12 : Bool), v53 = .bool x53_12 ∧ Aside0 (impl_BaseOk.j2 kq l0_1 (l0_1.length : Int) x18_2 x53_12 a0_0 l0_1 = some r) ∧ Aside0 (kq ≤ k2) ∧ Aside0 (wc.heap[gb676]? = some (.cells #[.int .i64 a0_0, (.slice (some ad678) l0_1.length c0_1)] 46 (0, 0))) ∧ Aside0 (wc.heap[gb679]? = some (.cells #[.string ((rd_T32 l0_1 x18_2).f0), .int .i64 ((rd_T32 l0_1 x18_2).f1), .int .i64 ((rd_T32 l0_1 x18_2).f2), .string ((rd_T32 l0_1 x18_2).f3), (.slice A678_4 ((rd_T32 l0_1 x18_2).f4).length c678_4), (.slice A678_5 ((rd_T32 l0_1 x18_2).f5).length c678_5), (.slice A678_6 ((rd_T32 l0_1 x18_2).f6).length c678_6)] 32 (0, 0))) ∧ Aside0 (Below w.heap.size w wc))
         case first =>
          have H := HC13.out; clear HC13; replace H := Option.bind_eq_some_iff.mp H; obtain ⟨t680, A170, H⟩ := H
          try dsimp only at H
          have A17 := zq9 A170; clear A170
          by_cases c18 : t680 = true
          ·subst c18
           have H1 : (if x18_2 > 0 then (if 0 ≤ (wrap64 (x18_2 - 1)) then (if (wrap64 (x18_2 - 1)) < (l0_1.length : Int) then (if ((Op.bytesLess (((rd_T32 l0_1 (wrap64 (x18_2 - 1))).f0).toList) (((rd_T32 l0_1 x18_2).f0).toList)) = true) then (if ((rd_T32 l0_1 x18_2).f1) = 0 then (impl_BaseOk.j2 k2 l0_1 (l0_1.length : Int) x18_2 false a0_0 l0_1) else (impl_BaseOk.j2 k2 l0_1 (l0_1.length : Int) x18_2 (decide (((rd_T32 l0_1 x18_2).f1) ≤ a0_0)) a0_0 l0_1)) else (impl_BaseOk.j2 k2 l0_1 (l0_1.length : Int) x18_2 true a0_0 l0_1)) else (none)) else (none)) else (if ((rd_T32 l0_1 x18_2).f1) = 0 then (impl_BaseOk.j2 k2 l0_1 (l0_1.length : Int) x18_2 false a0_0 l0_1) else (impl_BaseOk.j2 k2 l0_1 (l0_1.length : Int) x18_2 (decide (((rd_T32 l0_1 x18_2).f1) ≤ a0_0)) a0_0 l0_1))) = some r := by rw [if_pos rfl] at H; exact H
           clear H; have H := H1; clear H1
           by_cases c19 : x18_2 > 0
           ·rw [if_pos c19] at H; have c19b0 : decide (0 < x18_2) = true := decide_eq_true c19; clear c19
            (first | rw [c19b0] | (simp only [i64_w, i32_w]; rw [c19b0]) | skip)
            obtain ⟨ji20, hji20⟩ : ∃ j_ : Int, (wrap64 (x18_2 - 1)) = j_ := ⟨_, rfl⟩
            replace H : (if 0 ≤ (ji20) then (if (ji20) < (l0_1.length : Int) then (if ((Op.bytesLess (((rd_T32 l0_1 (ji20)).f0).toList) (((rd_T32 l0_1 x18_2).f0).toList)) = true) then (if ((rd_T32 l0_1 x18_2).f1) = 0 then (impl_BaseOk.j2 k2 l0_1 (l0_1.length : Int) x18_2 false a0_0 l0_1) else (impl_BaseOk.j2 k2 l0_1 (l0_1.length : Int) x18_2 (decide (((rd_T32 l0_1 x18_2).f1) ≤ a0_0)) a0_0 l0_1)) else (impl_BaseOk.j2 k2 l0_1 (l0_1.length : Int) x18_2 true a0_0 l0_1)) else (none)) else (none)) = some r := by first | (rw [hji20] at H; exact H) | (simp only [hji20] at H ⊢; exact H)
            (try rw [hji20] at A17)
            have hji20w : (IntKind.i64.wrap (x18_2 - 1)) = ji20 := (i64_w _).trans hji20
            by_cases c21 : 0 ≤ (ji20)
            ·rw [if_pos c21] at H; have c21b0 : decide (0 ≤ (ji20)) = true := decide_eq_true c21; clear c21
             by_cases c22 : (ji20) < (l0_1.length : Int)
             ·rw [if_pos c22] at H; have c22b0 : decide ((ji20) < (l0_1.length : Int)) = true := decide_eq_true c22; clear c22
              try go_wp2
              have n0_ : Aside0 ((((((((w14.setCell ⟨gb679, 0, none⟩ (.string ((rd_T32 l0_1 x18_2).f0))).setCell ⟨gb679, 1, none⟩ (.int .i64 ((rd_T32 l0_1 x18_2).f1))).setCell ⟨gb679, 2, none⟩ (.int .i64 ((rd_T32 l0_1 x18_2).f2))).setCell ⟨gb679, 3, none⟩ (.string ((rd_T32 l0_1 x18_2).f3))).setCell ⟨gb679, 4, none⟩ (.slice A678_4 ((rd_T32 l0_1 x18_2).f4).length c678_4)).setCell ⟨gb679, 5, none⟩ (.slice A678_5 ((rd_T32 l0_1 x18_2).f5).length c678_5)).setCell ⟨gb679, 6, none⟩ (.slice A678_6 ((rd_T32 l0_1 x18_2).f6).length c678_6)).heap[gb676]? = some (.cells #[.int .i64 a0_0, .slice (some ad678) l0_1.length c0_1] 46 (0, 0))) := ⟨by refine bp ?_; refine blk_far ?_ NB676_679.out _; refine bp ?_; refine blk_far ?_ NB676_679.out _; refine bp ?_; refine blk_far ?_ NB676_679.out _; refine bp ?_; refine blk_far ?_ NB676_679.out _; refine bp ?_; refine blk_far ?_ NB676_679.out _; refine bp ?_; refine blk_far ?_ NB676_679.out _; refine bp ?_; refine blk_far ?_ NB676_679.out _; refine bp ?_; exact BK676.out⟩
              have n1_ : Aside0 ((((((((w14.setCell ⟨gb679, 0, none⟩ (.string ((rd_T32 l0_1 x18_2).f0))).setCell ⟨gb679, 1, none⟩ (.int .i64 ((rd_T32 l0_1 x18_2).f1))).setCell ⟨gb679, 2, none⟩ (.int .i64 ((rd_T32 l0_1 x18_2).f2))).setCell ⟨gb679, 3, none⟩ (.string ((rd_T32 l0_1 x18_2).f3))).setCell ⟨gb679, 4, none⟩ (.slice A678_4 ((rd_T32 l0_1 x18_2).f4).length c678_4)).setCell ⟨gb679, 5, none⟩ (.slice A678_5 ((rd_T32 l0_1 x18_2).f5).length c678_5)).setCell ⟨gb679, 6, none⟩ (.slice A678_6 ((rd_T32 l0_1 x18_2).f6).length c678_6)).heap[gb679]? = some (.cells #[.string ((rd_T32 l0_1 x18_2).f0), .int .i64 ((rd_T32 l0_1 x18_2).f1), .int .i64 ((rd_T32 l0_1 x18_2).f2), .string ((rd_T32 l0_1 x18_2).f3), .slice A678_4 ((rd_T32 l0_1 x18_2).f4).length c678_4, .slice A678_5 ((rd_T32 l0_1 x18_2).f5).length c678_5, .slice A678_6 ((rd_T32 l0_1 x18_2).f6).length c678_6] 32 (0, 0))) := ⟨(blk_set (blk_set (blk_set (blk_set (blk_set (blk_set (blk_set BK679.out 0 _) 1 _) 2 _) 3 _) 4 _) 5 _) 6 _)⟩
              have n2_ : Aside0 (Below w.heap.size w (((((((w14.setCell ⟨gb679, 0, none⟩ (.string ((rd_T32 l0_1 x18_2).f0))).setCell ⟨gb679, 1, none⟩ (.int .i64 ((rd_T32 l0_1 x18_2).f1))).setCell ⟨gb679, 2, none⟩ (.int .i64 ((rd_T32 l0_1 x18_2).f2))).setCell ⟨gb679, 3, none⟩ (.string ((rd_T32 l0_1 x18_2).f3))).setCell ⟨gb679, 4, none⟩ (.slice A678_4 ((rd_T32 l0_1 x18_2).f4).length c678_4)).setCell ⟨gb679, 5, none⟩ (.slice A678_5 ((rd_T32 l0_1 x18_2).f5).length c678_5)).setCell ⟨gb679, 6, none⟩ (.slice A678_6 ((rd_T32 l0_1 x18_2).f6).length c678_6))) := ⟨by exact b2 HB GE676 GE679⟩
              (try clear BK676)
              (try clear BK679)
              (try clear HB)
              generalize (((((((w14.setCell ⟨gb679, 0, none⟩ (.string ((rd_T32 l0_1 x18_2).f0))).setCell ⟨gb679, 1, none⟩ (.int .i64 ((rd_T32 l0_1 x18_2).f1))).setCell ⟨gb679, 2, none⟩ (.int .i64 ((rd_T32 l0_1 x18_2).f2))).setCell ⟨gb679, 3, none⟩ (.string ((rd_T32 l0_1 x18_2).f3))).setCell ⟨gb679, 4, none⟩ (.slice A678_4 ((rd_T32 l0_1 x18_2).f4).length c678_4)).setCell ⟨gb679, 5, none⟩ (.slice A678_5 ((rd_T32 l0_1 x18_2).f5).length c678_5)).setCell ⟨gb679, 6, none⟩ (.slice A678_6 ((rd_T32 l0_1 x18_2).f6).length c678_6)) = w25 at n0_ n1_ n2_ ⊢
              have BK676 := n0_; have BK679 := n1_; have HB := n2_; clear n0_ n1_ n2_
              have n0_ := zq9 (blk_drew BK676.out)
              have n1_ := zq9 (blk_drew BK679.out)
              have n2_ := zq9 (zq4 HB.out)
              clear BK676; clear BK679; clear HB; have BK676 := n0_; have BK679 := n1_; have HB := n2_; clear n0_ n1_ n2_
              have p681 : 0 ≤ ((ji20) : Int) := of_decide_eq_true ‹_›
              have q681 : (ji20) < (l0_1.length : Int) := of_decide_eq_true ‹_›
              obtain ⟨ad681, A681_4, c681_4, A681_5, c681_5, A681_6, c681_6, e681, hx681_0, hx681_1, hx681_2, hx681_3, hx681_4, hx681_5, hx681_6, hl681_4, hi681_4, hl681_5, hi681_5, hl681_6, hi681_6⟩ := at_T32 HR0_1.out (ji20) p681 q681
              have hw681_6 := hx681_6; have hw681_5 := hx681_5; have hw681_4 := hx681_4; have hw681_3 := hx681_3; have hw681_2 := hx681_2; have hw681_1 := hx681_1; have hw681_0 := hx681_0
              obtain rfl : ad678 = ad681 := (by injection e681)
              replace hx681_0 := hcl HB hx681_0; replace hx681_1 := hcl HB hx681_1; replace hx681_2 := hcl HB hx681_2; replace hx681_3 := hcl HB hx681_3; replace hx681_4 := hcl HB hx681_4; replace hx681_5 := hcl HB hx681_5; replace hx681_6 := hcl HB hx681_6; have HR681_4 := zq9 hi681_4; have HC681_4 := zq9 hl681_4; clear hi681_4 hl681_4; have HR681_5 := zq9 hi681_5; have HC681_5 := zq9 hl681_5; clear hi681_5 hl681_5
              have HR681_6 := zq9 hi681_6; have HC681_6 := zq9 hl681_6; clear hi681_6 hl681_6; replace p681 := eq_true p681; replace q681 := eq_true q681
              refine start_ (n := 31) (S := fun w' => w'.cell? ⟨gb679, 0, none⟩ = some (.string ((rd_T32 l0_1 x18_2).f0)) ∧ w'.cell? ⟨gb679, 1, none⟩ = some (.int .i64 ((rd_T32 l0_1 x18_2).f1)) ∧ w'.cell? ⟨gb679, 2, none⟩ = some (.int .i64 ((rd_T32 l0_1 x18_2).f2)) ∧ w'.cell? ⟨gb679, 3, none⟩ = some (.string ((rd_T32 l0_1 x18_2).f3)) ∧ w'.cell? ⟨gb679, 4, none⟩ = some (.slice A678_4 ((rd_T32 l0_1 x18_2).f4).length c678_4) ∧ w'.cell? ⟨gb679, 5, none⟩ = some (.slice A678_5 ((rd_T32 l0_1 x18_2).f5).length c678_5) ∧ w'.cell? ⟨gb679, 6, none⟩ = some (.slice A678_6 ((rd_T32 l0_1 x18_2).f6).length c678_6) ∧ w'.cell? ⟨gb676, 0, none⟩ = some (.int .i64 a0_0) ∧ w'.cell? ⟨gb676, 1, none⟩ = some (.slice (some ad678) l0_1.length c0_1) ∧ w'.cell? (ad678.add (((ji20)).toNat * 7)) = some (.string ((rd_T32 l0_1 (ji20)).f0)) ∧ w'.cell? ⟨(ad678.add (((ji20)).toNat * 7)).block, (ad678.add (((ji20)).toNat * 7)).off + 1, none⟩ = some (.int .i64 ((rd_T32 l0_1 (ji20)).f1)) ∧ w'.cell? ⟨(ad678.add (((ji20)).toNat * 7)).block, (ad678.add (((ji20)).toNat * 7)).off + 2, none⟩ = some (.int .i64 ((rd_T32 l0_1 (ji20)).f2)) ∧ w'.cell? ⟨(ad678.add (((ji20)).toNat * 7)).block, (ad678.add (((ji20)).toNat * 7)).off + 3, none⟩ = some (.string ((rd_T32 l0_1 (ji20)).f3)) ∧ w'.cell? ⟨(ad678.add (((ji20)).toNat * 7)).block, (ad678.add (((ji20)).toNat * 7)).off + 4, none⟩ = some (.slice A681_4 ((rd_T32 l0_1 (ji20)).f4).length c681_4) ∧ w'.cell? ⟨(ad678.add (((ji20)).toNat * 7)).block, (ad678.add (((ji20)).toNat * 7)).off + 5, none⟩ = some (.slice A681_5 ((rd_T32 l0_1 (ji20)).f5).length c681_5) ∧ w'.cell? ⟨(ad678.add (((ji20)).toNat * 7)).block, (ad678.add (((ji20)).toNat * 7)).off + 6, none⟩ = some (.slice A681_6 ((rd_T32 l0_1 (ji20)).f6).length c681_6)) (ds := []) #[false, false, false, false, false, false, false, false, false, false, false, false, false, false, false, false, false, false, false, false, false, false, false, false, false, false, false, false, false, false, false] (by kernel_rfl) rfl rfl ⟨bc BK679 0, bc BK679 1, bc BK679 2, bc BK679 3, bc BK679 4, bc BK679 5, bc BK679 6, bc BK676 0, bc BK676 1, (hcm HB hw681_0), (hcm HB hw681_1), (hcm HB hw681_2), (hcm HB hw681_3), (hcm HB hw681_4), (hcm HB hw681_5), (hcm HB hw681_6)⟩ (fun hHeld => ?_); refine with_tabW impl_BaseOk.tab6 impl_BaseOk.bits6 (fun HT_ HW_ => ?_)
              generalize w25.drew = w26 at BK676 BK679 HB HR681_4 HR681_5 HR681_6 hx681_0 hx681_1 hx681_2 hx681_3 hx681_4 hx681_5 hx681_6 hHeld ⊢
              refine take_ (i := 0) (N := some 23) (v := ?_) (a' := ?_) (zb 31 1) rfl rfl (take_ofW HT_.out HW_.out (by kernel_rfl)) (fun _ _ _ h => h) (Or.inl ⟨by rfl, ?_⟩) hHeld ?_ ?_
              rotate_left; ·rintro w' ⟨s0, s1, s2, s3, s4, s5, s6, s7, s8, s9, s10, s11, s12, s13, s14, s15⟩; go_simp; with_reducible rfl
              rotate_left; ·simp only [Act.put, zq0, zq1, zq2, i64_w, i32_w]; rfl
              refine one_ (i := 1) (N := some 24) (zb 31 3) rfl rfl (one_of HT_.out (by kernel_rfl)) (by decide) (fun K hK => ?_)
              refine gs Try.func13 #[.agg #[.string ((rd_T32 l0_1 x18_2).f0), .int .i64 ((rd_T32 l0_1 x18_2).f1), .int .i64 ((rd_T32 l0_1 x18_2).f2), .string ((rd_T32 l0_1 x18_2).f3), .slice A678_4 ((rd_T32 l0_1 x18_2).f4).length c678_4, .slice A678_5 ((rd_T32 l0_1 x18_2).f5).length c678_5, .slice A678_6 ((rd_T32 l0_1 x18_2).f6).length c678_6]] ?_
              with_reducible refine (impl_EntryOk.calls k2 ((rd_T32 l0_1 x18_2).f0) ((rd_T32 l0_1 x18_2).f1) ((rd_T32 l0_1 x18_2).f2) ((rd_T32 l0_1 x18_2).f3) _ _ ((rd_T32 l0_1 x18_2).f4) _ _ ((rd_T32 l0_1 x18_2).f5) _ _ ((rd_T32 l0_1 x18_2).f6) true _ ?side1 ?side2 ?side3 ?side4 ?side5 ?side6 A17.out).mono ?_
              (case side1 => exact kc HR678_4 HB)
              (case side2 => exact HC678_4.out)
              (case side3 => exact kc HR678_5 HB)
              (case side4 => exact HC678_5.out)
              (case side5 => exact kc HR678_6 HB)
              (case side6 => exact HC678_6.out)
              rintro e w27 ⟨rfl, hb⟩
              refine ⟨_, rfl, ?_⟩
              have n0_ := zq9 (zq30 (g := gb676) (o := .cells #[.int .i64 a0_0, .slice (some ad678) l0_1.length c0_1] 46 (0, 0)) (by exact bk BK676) hb)
              have n1_ := zq9 (zq30 (g := gb679) (o := .cells #[.string ((rd_T32 l0_1 x18_2).f0), .int .i64 ((rd_T32 l0_1 x18_2).f1), .int .i64 ((rd_T32 l0_1 x18_2).f2), .string ((rd_T32 l0_1 x18_2).f3), .slice A678_4 ((rd_T32 l0_1 x18_2).f4).length c678_4, .slice A678_5 ((rd_T32 l0_1 x18_2).f5).length c678_5, .slice A678_6 ((rd_T32 l0_1 x18_2).f6).length c678_6] 32 (0, 0)) (by exact bk BK679) hb)
              have n2_ := zq9 (zq27 (by exact b2 HB GE676 GE679) hb)
              clear BK676; clear BK679; clear HB; have BK676 := n0_; have BK679 := n1_; have HB := n2_; clear n0_ n1_ n2_
              (try clear hb)
              (try clear hb2)
              (try clear hk)
              (try clear hi)
              refine hK.out _ _ ⟨bc BK679 0, bc BK679 1, bc BK679 2, bc BK679 3, bc BK679 4, bc BK679 5, bc BK679 6, bc BK676 0, bc BK676 1, (hcm HB hw681_0), (hcm HB hw681_1), (hcm HB hw681_2), (hcm HB hw681_3), (hcm HB hw681_4), (hcm HB hw681_5), (hcm HB hw681_6)⟩ (fun hHeld => ?_)
              clear hK K
              refine norm_ (a' := ?_) ?_ ?_
              rotate_left; ·show Act.put _ (some 24) _ = _; simp only [Act.put, zq0, zq1, zq2, i64_w, i32_w]; rfl
              refine pa HT_ 2 25 (zb 31 7) ?_; refine pa HT_ 3 26 (zb 31 15) ?_; refine pa HT_ 4 27 (zb 31 31) ?_; refine pa HT_ 5 28 (zb 31 63) ?_; refine pa HT_ 6 29 (zb 31 127) ?_; refine pa HT_ 7 30 (zb 31 255) ?_; refine pa HT_ 9 32 (zb 31 767) ?_; refine pa HT_ 10 33 (zb 31 1791) ?_; refine pa HT_ 14 37 (zb 31 18175) ?_
              refine take_ (i := 8) (N := some 31) (v := ?_) (a' := ?_) (zb 31 18431) rfl rfl (take_ofW HT_.out HW_.out (by kernel_rfl)) (fun _ _ _ h => h) (Or.inl ⟨by rfl, ?_⟩) hHeld ?_ ?_
              rotate_left; ·rintro w' ⟨s0, s1, s2, s3, s4, s5, s6, s7, s8, s9, s10, s11, s12, s13, s14, s15⟩; go_simp; with_reducible rfl
              rotate_left; ·simp only [Act.put, zq0, zq1, zq2, i64_w, i32_w]; rfl
              refine pa HT_ 11 34 (zb 31 20479) ?_; refine pa HT_ 12 35 (zb 31 24575) ?_
              refine take_ (i := 13) (N := some 36) (v := ?_) (a' := ?_) (zb 31 32767) rfl rfl (take_ofW HT_.out HW_.out (by kernel_rfl)) (fun _ _ _ h => h) (Or.inl ⟨by rfl, ?_⟩) hHeld ?_ ?_
              rotate_left; ·rintro w' ⟨s0, s1, s2, s3, s4, s5, s6, s7, s8, s9, s10, s11, s12, s13, s14, s15⟩; go_simp; with_reducible rfl
              rotate_left; ·simp only [Act.put, zq0, zq1, zq2, i64_w, i32_w]; rfl
              refine take_ (i := 15) (N := some 38) (v := ?_) (a' := ?_) (zb 31 65535) rfl rfl (take_ofW HT_.out HW_.out (by kernel_rfl)) (fun _ _ _ h => h) (Or.inl ⟨by rfl, ?_⟩) hHeld ?_ ?_
              rotate_left; ·rintro w' ⟨s0, s1, s2, s3, s4, s5, s6, s7, s8, s9, s10, s11, s12, s13, s14, s15⟩; go_simp; with_reducible rfl
              rotate_left; ·simp only [Act.put, zq0, zq1, zq2, i64_w, i32_w]; rfl
              refine pa HT_ 16 39 (zb 31 131071) ?_; refine pa HT_ 17 40 (zb 31 262143) ?_; refine pa HT_ 18 41 (zb 31 524287) ?_; refine pa HT_ 19 42 (zb 31 1048575) ?_
              by_cases c23 : ((Op.bytesLess (((rd_T32 l0_1 (ji20)).f0).toList) (((rd_T32 l0_1 x18_2).f0).toList)) = true)
              ·rw [if_pos c23] at H
               have c23b0 : (Op.bytesLess (((rd_T32 l0_1 (ji20)).f0).toList) (((rd_T32 l0_1 x18_2).f0).toList)) = true := c23
               clear c23
               (try rw [c23b0])
               refine pa HT_ 20 43 (zb 31 2097151) ?_
               refine take_ (i := 21) (N := some 44) (v := ?_) (a' := ?_) (zb 31 4194303) rfl rfl (take_ofW HT_.out HW_.out (by kernel_rfl)) (fun _ _ _ h => h) (Or.inl ⟨by rfl, ?_⟩) hHeld ?_ ?_
               rotate_left; ·rintro w' ⟨s0, s1, s2, s3, s4, s5, s6, s7, s8, s9, s10, s11, s12, s13, s14, s15⟩; go_simp; with_reducible rfl
               rotate_left; ·simp only [Act.put, zq0, zq1, zq2, i64_w, i32_w]; rfl
               refine pa HT_ 22 45 (zb 31 8388607) ?_; refine pa HT_ 23 46 (zb 31 16777215) ?_
               by_cases c24 : ((rd_T32 l0_1 x18_2).f1) = 0
               ·rw [if_pos c24] at H
                have c24b0 : (((rd_T32 l0_1 x18_2).f1) == 0) = true := beq_iff_eq.mpr c24
                have c24b1 : (((rd_T32 l0_1 x18_2).f1) != 0) = false := bne_eq_false_iff_eq.mpr c24
                clear c24; have H' := zq9 H; clear H
                (try rw [c24b0]); (try rw [c24b1])
                refine pb HT_ 24 47 (zb 31 33554431) ?_; refine pb HT_ 25 48 (zb 31 67108863) ?_; refine pb HT_ 26 49 (zb 31 134217727) ?_; refine pb HT_ 27 50 (zb 31 268435455) ?_; refine pb HT_ 28 51 (zb 31 536870911) ?_; refine pa HT_ 29 52 (zb 31 1073741823) ?_; refine pa HT_ 30 53 (zb 31 2147483647) ?_
                refine done_ (done_of HT_.out (by kernel_rfl)) ?_
                try go_wp2
                go_meet
                case rel => exact ⟨_, (false), (by first | rfl | (simp; done) | (simp [*]; done)), H', ⟨by have := HJ1.out; have := HK2.out; first | omega | exact Nat.le_refl _⟩, ⟨by refine bp ?_; exact BK676.out⟩, ⟨by refine bp ?_; exact BK679.out⟩, ⟨by exact b2 HB GE676 GE679⟩⟩
               ·rw [if_neg c24] at H
                have c24b0 : (((rd_T32 l0_1 x18_2).f1) == 0) = false := beq_eq_false_iff_ne.mpr c24
                have c24b1 : (((rd_T32 l0_1 x18_2).f1) != 0) = true := bne_iff_ne.mpr c24
                have H' := zq9 H; clear H
                (try rw [c24b0]); (try rw [c24b1])
                refine pa HT_ 24 47 (zb 31 33554431) ?_; refine pa HT_ 26 49 (zb 31 100663295) ?_
                refine take_ (i := 25) (N := some 48) (v := ?_) (a' := ?_) (zb 31 134217727) rfl rfl (take_ofW HT_.out HW_.out (by kernel_rfl)) (fun _ _ _ h => h) (Or.inl ⟨by rfl, ?_⟩) hHeld ?_ ?_
                rotate_left; ·rintro w' ⟨s0, s1, s2, s3, s4, s5, s6, s7, s8, s9, s10, s11, s12, s13, s14, s15⟩; go_simp; with_reducible rfl
                rotate_left; ·simp only [Act.put, zq0, zq1, zq2, i64_w, i32_w]; rfl
                refine take_ (i := 27) (N := some 50) (v := ?_) (a' := ?_) (zb 31 268435455) rfl rfl (take_ofW HT_.out HW_.out (by kernel_rfl)) (fun _ _ _ h => h) (Or.inl ⟨by rfl, ?_⟩) hHeld ?_ ?_
                rotate_left; ·rintro w' ⟨s0, s1, s2, s3, s4, s5, s6, s7, s8, s9, s10, s11, s12, s13, s14, s15⟩; go_simp; with_reducible rfl
                rotate_left; ·simp only [Act.put, zq0, zq1, zq2, i64_w, i32_w]; rfl
                refine pa HT_ 28 51 (zb 31 536870911) ?_; refine pa HT_ 29 52 (zb 31 1073741823) ?_; refine pa HT_ 30 53 (zb 31 2147483647) ?_
                refine done_ (done_of HT_.out (by kernel_rfl)) ?_
                try go_wp2
                go_meet
                case rel => exact ⟨_, (decide (((rd_T32 l0_1 x18_2).f1) ≤ a0_0)), (by first | rfl | (simp; done) | (simp [*]; done)), H', ⟨by have := HJ1.out; have := HK2.out; first | omega | exact Nat.le_refl _⟩, ⟨by refine bp ?_; exact BK676.out⟩, ⟨by refine bp ?_; exact BK679.out⟩, ⟨by exact b2 HB GE676 GE679⟩⟩
              ·rw [if_neg c23] at H
               have c23b0 : (Op.bytesLess (((rd_T32 l0_1 (ji20)).f0).toList) (((rd_T32 l0_1 x18_2).f0).toList)) = false := by simpa using c23
               clear c23; have H' := zq9 H; clear H
               (try rw [c23b0])
               refine pb HT_ 20 43 (zb 31 2097151) ?_; refine pb HT_ 21 44 (zb 31 4194303) ?_; refine pb HT_ 22 45 (zb 31 8388607) ?_; refine pb HT_ 23 46 (zb 31 16777215) ?_; refine pb HT_ 24 47 (zb 31 33554431) ?_; refine pb HT_ 25 48 (zb 31 67108863) ?_; refine pb HT_ 26 49 (zb 31 134217727) ?_; refine pb HT_ 27 50 (zb 31 268435455) ?_; refine pb HT_ 28 51 (zb 31 536870911) ?_; refine pb HT_ 29 52 (zb 31 1073741823) ?_
               refine pa HT_ 30 53 (zb 31 2147483647) ?_
               refine done_ (done_of HT_.out (by kernel_rfl)) ?_
               try go_wp2
               go_meet
               case rel => exact ⟨_, (true), (by first | rfl | (simp; done) | (simp [*]; done)), H', ⟨by have := HJ1.out; have := HK2.out; first | omega | exact Nat.le_refl _⟩, ⟨by refine bp ?_; exact BK676.out⟩, ⟨by refine bp ?_; exact BK679.out⟩, ⟨by exact b2 HB GE676 GE679⟩⟩
             ·rw [if_neg c22] at H
              exact absurd H (by simp)
            ·rw [if_neg c21] at H
             exact absurd H (by simp)
           ·rw [if_neg c19] at H; have c19b0 : decide (0 < x18_2) = false := decide_eq_false c19; clear c19
            (first | rw [c19b0] | (simp only [i64_w, i32_w]; rw [c19b0]) | skip)
            try go_wp2
            have n0_ : Aside0 ((((((((w14.setCell ⟨gb679, 0, none⟩ (.string ((rd_T32 l0_1 x18_2).f0))).setCell ⟨gb679, 1, none⟩ (.int .i64 ((rd_T32 l0_1 x18_2).f1))).setCell ⟨gb679, 2, none⟩ (.int .i64 ((rd_T32 l0_1 x18_2).f2))).setCell ⟨gb679, 3, none⟩ (.string ((rd_T32 l0_1 x18_2).f3))).setCell ⟨gb679, 4, none⟩ (.slice A678_4 ((rd_T32 l0_1 x18_2).f4).length c678_4)).setCell ⟨gb679, 5, none⟩ (.slice A678_5 ((rd_T32 l0_1 x18_2).f5).length c678_5)).setCell ⟨gb679, 6, none⟩ (.slice A678_6 ((rd_T32 l0_1 x18_2).f6).length c678_6)).heap[gb676]? = some (.cells #[.int .i64 a0_0, .slice (some ad678) l0_1.length c0_1] 46 (0, 0))) := ⟨by refine bp ?_; refine blk_far ?_ NB676_679.out _; refine bp ?_; refine blk_far ?_ NB676_679.out _; refine bp ?_; refine blk_far ?_ NB676_679.out _; refine bp ?_; refine blk_far ?_ NB676_679.out _; refine bp ?_; refine blk_far ?_ NB676_679.out _; refine bp ?_; refine blk_far ?_ NB676_679.out _; refine bp ?_; refine blk_far ?_ NB676_679.out _; refine bp ?_; exact BK676.out⟩
            have n1_ : Aside0 ((((((((w14.setCell ⟨gb679, 0, none⟩ (.string ((rd_T32 l0_1 x18_2).f0))).setCell ⟨gb679, 1, none⟩ (.int .i64 ((rd_T32 l0_1 x18_2).f1))).setCell ⟨gb679, 2, none⟩ (.int .i64 ((rd_T32 l0_1 x18_2).f2))).setCell ⟨gb679, 3, none⟩ (.string ((rd_T32 l0_1 x18_2).f3))).setCell ⟨gb679, 4, none⟩ (.slice A678_4 ((rd_T32 l0_1 x18_2).f4).length c678_4)).setCell ⟨gb679, 5, none⟩ (.slice A678_5 ((rd_T32 l0_1 x18_2).f5).length c678_5)).setCell ⟨gb679, 6, none⟩ (.slice A678_6 ((rd_T32 l0_1 x18_2).f6).length c678_6)).heap[gb679]? = some (.cells #[.string ((rd_T32 l0_1 x18_2).f0), .int .i64 ((rd_T32 l0_1 x18_2).f1), .int .i64 ((rd_T32 l0_1 x18_2).f2), .string ((rd_T32 l0_1 x18_2).f3), .slice A678_4 ((rd_T32 l0_1 x18_2).f4).length c678_4, .slice A678_5 ((rd_T32 l0_1 x18_2).f5).length c678_5, .slice A678_6 ((rd_T32 l0_1 x18_2).f6).length c678_6] 32 (0, 0))) := ⟨(blk_set (blk_set (blk_set (blk_set (blk_set (blk_set (blk_set BK679.out 0 _) 1 _) 2 _) 3 _) 4 _) 5 _) 6 _)⟩
            have n2_ : Aside0 (Below w.heap.size w (((((((w14.setCell ⟨gb679, 0, none⟩ (.string ((rd_T32 l0_1 x18_2).f0))).setCell ⟨gb679, 1, none⟩ (.int .i64 ((rd_T32 l0_1 x18_2).f1))).setCell ⟨gb679, 2, none⟩ (.int .i64 ((rd_T32 l0_1 x18_2).f2))).setCell ⟨gb679, 3, none⟩ (.string ((rd_T32 l0_1 x18_2).f3))).setCell ⟨gb679, 4, none⟩ (.slice A678_4 ((rd_T32 l0_1 x18_2).f4).length c678_4)).setCell ⟨gb679, 5, none⟩ (.slice A678_5 ((rd_T32 l0_1 x18_2).f5).length c678_5)).setCell ⟨gb679, 6, none⟩ (.slice A678_6 ((rd_T32 l0_1 x18_2).f6).length c678_6))) := ⟨by exact b2 HB GE676 GE679⟩
            (try clear BK676)
            (try clear BK679)
            (try clear HB)
            generalize (((((((w14.setCell ⟨gb679, 0, none⟩ (.string ((rd_T32 l0_1 x18_2).f0))).setCell ⟨gb679, 1, none⟩ (.int .i64 ((rd_T32 l0_1 x18_2).f1))).setCell ⟨gb679, 2, none⟩ (.int .i64 ((rd_T32 l0_1 x18_2).f2))).setCell ⟨gb679, 3, none⟩ (.string ((rd_T32 l0_1 x18_2).f3))).setCell ⟨gb679, 4, none⟩ (.slice A678_4 ((rd_T32 l0_1 x18_2).f4).length c678_4)).setCell ⟨gb679, 5, none⟩ (.slice A678_5 ((rd_T32 l0_1 x18_2).f5).length c678_5)).setCell ⟨gb679, 6, none⟩ (.slice A678_6 ((rd_T32 l0_1 x18_2).f6).length c678_6)) = w35 at n0_ n1_ n2_ ⊢
            have BK676 := n0_; have BK679 := n1_; have HB := n2_; clear n0_ n1_ n2_
            have n0_ := zq9 (blk_drew BK676.out)
            have n1_ := zq9 (blk_drew BK679.out)
            have n2_ := zq9 (zq4 HB.out)
            clear BK676; clear BK679; clear HB; have BK676 := n0_; have BK679 := n1_; have HB := n2_; clear n0_ n1_ n2_
            by_cases c34 : ((rd_T32 l0_1 x18_2).f1) = 0
            ·rw [if_pos c34] at H
             have c34b0 : (((rd_T32 l0_1 x18_2).f1) == 0) = true := beq_iff_eq.mpr c34
             have c34b1 : (((rd_T32 l0_1 x18_2).f1) != 0) = false := bne_eq_false_iff_eq.mpr c34
             clear c34; have H' := zq9 H; clear H
             refine start_ (n := 31) (S := fun w' => w'.cell? ⟨gb679, 0, none⟩ = some (.string ((rd_T32 l0_1 x18_2).f0)) ∧ w'.cell? ⟨gb679, 1, none⟩ = some (.int .i64 ((rd_T32 l0_1 x18_2).f1)) ∧ w'.cell? ⟨gb679, 2, none⟩ = some (.int .i64 ((rd_T32 l0_1 x18_2).f2)) ∧ w'.cell? ⟨gb679, 3, none⟩ = some (.string ((rd_T32 l0_1 x18_2).f3)) ∧ w'.cell? ⟨gb679, 4, none⟩ = some (.slice A678_4 ((rd_T32 l0_1 x18_2).f4).length c678_4) ∧ w'.cell? ⟨gb679, 5, none⟩ = some (.slice A678_5 ((rd_T32 l0_1 x18_2).f5).length c678_5) ∧ w'.cell? ⟨gb679, 6, none⟩ = some (.slice A678_6 ((rd_T32 l0_1 x18_2).f6).length c678_6)) (ds := []) #[false, false, false, false, false, false, false, false, false, false, false, false, false, false, false, false, false, false, false, false, false, false, false, false, false, false, false, false, false, false, false] (by kernel_rfl) rfl rfl ⟨bc BK679 0, bc BK679 1, bc BK679 2, bc BK679 3, bc BK679 4, bc BK679 5, bc BK679 6⟩ (fun hHeld => ?_); refine with_tabW impl_BaseOk.tab6 impl_BaseOk.bits6 (fun HT_ HW_ => ?_)
             generalize w35.drew = w36 at BK676 BK679 HB hHeld ⊢
             refine take_ (i := 0) (N := some 23) (v := ?_) (a' := ?_) (zb 31 1) rfl rfl (take_ofW HT_.out HW_.out (by kernel_rfl)) (fun _ _ _ h => h) (Or.inl ⟨by rfl, ?_⟩) hHeld ?_ ?_
             rotate_left; ·rintro w' ⟨s0, s1, s2, s3, s4, s5, s6⟩; go_simp; with_reducible rfl
             rotate_left; ·simp only [Act.put, zq0, zq1, zq2, i64_w, i32_w]; rfl
             refine one_ (i := 1) (N := some 24) (zb 31 3) rfl rfl (one_of HT_.out (by kernel_rfl)) (by decide) (fun K hK => ?_)
             refine gs Try.func13 #[.agg #[.string ((rd_T32 l0_1 x18_2).f0), .int .i64 ((rd_T32 l0_1 x18_2).f1), .int .i64 ((rd_T32 l0_1 x18_2).f2), .string ((rd_T32 l0_1 x18_2).f3), .slice A678_4 ((rd_T32 l0_1 x18_2).f4).length c678_4, .slice A678_5 ((rd_T32 l0_1 x18_2).f5).length c678_5, .slice A678_6 ((rd_T32 l0_1 x18_2).f6).length c678_6]] ?_
             with_reducible refine (impl_EntryOk.calls k2 ((rd_T32 l0_1 x18_2).f0) ((rd_T32 l0_1 x18_2).f1) ((rd_T32 l0_1 x18_2).f2) ((rd_T32 l0_1 x18_2).f3) _ _ ((rd_T32 l0_1 x18_2).f4) _ _ ((rd_T32 l0_1 x18_2).f5) _ _ ((rd_T32 l0_1 x18_2).f6) true _ ?side1 ?side2 ?side3 ?side4 ?side5 ?side6 A17.out).mono ?_
             (case side1 => exact kc HR678_4 HB)
             (case side2 => exact HC678_4.out)
             (case side3 => exact kc HR678_5 HB)
             (case side4 => exact HC678_5.out)
             (case side5 => exact kc HR678_6 HB)
             (case side6 => exact HC678_6.out)
             rintro e w37 ⟨rfl, hb⟩
             refine ⟨_, rfl, ?_⟩
             have n0_ := zq9 (zq30 (g := gb676) (o := .cells #[.int .i64 a0_0, .slice (some ad678) l0_1.length c0_1] 46 (0, 0)) (by exact bk BK676) hb)
             have n1_ := zq9 (zq30 (g := gb679) (o := .cells #[.string ((rd_T32 l0_1 x18_2).f0), .int .i64 ((rd_T32 l0_1 x18_2).f1), .int .i64 ((rd_T32 l0_1 x18_2).f2), .string ((rd_T32 l0_1 x18_2).f3), .slice A678_4 ((rd_T32 l0_1 x18_2).f4).length c678_4, .slice A678_5 ((rd_T32 l0_1 x18_2).f5).length c678_5, .slice A678_6 ((rd_T32 l0_1 x18_2).f6).length c678_6] 32 (0, 0)) (by exact bk BK679) hb)
             have n2_ := zq9 (zq27 (by exact b2 HB GE676 GE679) hb)
             clear BK676; clear BK679; clear HB; have BK676 := n0_; have BK679 := n1_; have HB := n2_; clear n0_ n1_ n2_
             (try clear hb)
             (try clear hb2)
             (try clear hk)
             (try clear hi)
             refine hK.out _ _ ⟨bc BK679 0, bc BK679 1, bc BK679 2, bc BK679 3, bc BK679 4, bc BK679 5, bc BK679 6⟩ (fun hHeld => ?_)
             clear hK K
             refine norm_ (a' := ?_) ?_ ?_
             rotate_left; ·show Act.put _ (some 24) _ = _; simp only [Act.put, zq0, zq1, zq2, i64_w, i32_w]; rfl
             refine pa HT_ 2 25 (zb 31 7) ?_; refine pa HT_ 3 26 (zb 31 15) ?_; refine pa HT_ 4 27 (zb 31 31) ?_; refine pa HT_ 5 28 (zb 31 63) ?_; refine pa HT_ 6 29 (zb 31 127) ?_; refine pb HT_ 7 30 (zb 31 255) ?_; refine pb HT_ 8 31 (zb 31 511) ?_; refine pb HT_ 9 32 (zb 31 1023) ?_; refine pb HT_ 10 33 (zb 31 2047) ?_; refine pb HT_ 11 34 (zb 31 4095) ?_; refine pb HT_ 12 35 (zb 31 8191) ?_; refine pb HT_ 13 36 (zb 31 16383) ?_
             refine pb HT_ 14 37 (zb 31 32767) ?_; refine pb HT_ 15 38 (zb 31 65535) ?_; refine pb HT_ 16 39 (zb 31 131071) ?_; refine pa HT_ 17 40 (zb 31 262143) ?_; refine pa HT_ 18 41 (zb 31 524287) ?_; refine pa HT_ 19 42 (zb 31 1048575) ?_; refine pa HT_ 20 43 (zb 31 2097151) ?_
             refine take_ (i := 21) (N := some 44) (v := ?_) (a' := ?_) (zb 31 4194303) rfl rfl (take_ofW HT_.out HW_.out (by kernel_rfl)) (fun _ _ _ h => h) (Or.inl ⟨by rfl, ?_⟩) hHeld ?_ ?_
             rotate_left; ·rintro w' ⟨s0, s1, s2, s3, s4, s5, s6⟩; go_simp; with_reducible rfl
             rotate_left; ·simp only [Act.put, zq0, zq1, zq2, i64_w, i32_w]; rfl
             refine pa HT_ 22 45 (zb 31 8388607) ?_; refine pa HT_ 23 46 (zb 31 16777215) ?_; refine pb HT_ 24 47 (zb 31 33554431) ?_; refine pb HT_ 25 48 (zb 31 67108863) ?_; refine pb HT_ 26 49 (zb 31 134217727) ?_; refine pb HT_ 27 50 (zb 31 268435455) ?_; refine pb HT_ 28 51 (zb 31 536870911) ?_; refine pa HT_ 29 52 (zb 31 1073741823) ?_; refine pa HT_ 30 53 (zb 31 2147483647) ?_
             refine done_ (done_of HT_.out (by kernel_rfl)) ?_
             try go_wp2
             go_meet
             case rel => exact ⟨_, (false), (by first | rfl | (simp; done) | (simp [*]; done)), H', ⟨by have := HJ1.out; have := HK2.out; first | omega | exact Nat.le_refl _⟩, ⟨by refine bp ?_; exact BK676.out⟩, ⟨by refine bp ?_; exact BK679.out⟩, ⟨by exact b2 HB GE676 GE679⟩⟩
            ·rw [if_neg c34] at H
             have c34b0 : (((rd_T32 l0_1 x18_2).f1) == 0) = false := beq_eq_false_iff_ne.mpr c34
             have c34b1 : (((rd_T32 l0_1 x18_2).f1) != 0) = true := bne_iff_ne.mpr c34
             have H' := zq9 H; clear H
             refine start_ (n := 31) (S := fun w' => w'.cell? ⟨gb679, 0, none⟩ = some (.string ((rd_T32 l0_1 x18_2).f0)) ∧ w'.cell? ⟨gb679, 1, none⟩ = some (.int .i64 ((rd_T32 l0_1 x18_2).f1)) ∧ w'.cell? ⟨gb679, 2, none⟩ = some (.int .i64 ((rd_T32 l0_1 x18_2).f2)) ∧ w'.cell? ⟨gb679, 3, none⟩ = some (.string ((rd_T32 l0_1 x18_2).f3)) ∧ w'.cell? ⟨gb679, 4, none⟩ = some (.slice A678_4 ((rd_T32 l0_1 x18_2).f4).length c678_4) ∧ w'.cell? ⟨gb679, 5, none⟩ = some (.slice A678_5 ((rd_T32 l0_1 x18_2).f5).length c678_5) ∧ w'.cell? ⟨gb679, 6, none⟩ = some (.slice A678_6 ((rd_T32 l0_1 x18_2).f6).length c678_6) ∧ w'.cell? ⟨gb676, 0, none⟩ = some (.int .i64 a0_0) ∧ w'.cell? ⟨gb676, 1, none⟩ = some (.slice (some ad678) l0_1.length c0_1)) (ds := []) #[false, false, false, false, false, false, false, false, false, false, false, false, false, false, false, false, false, false, false, false, false, false, false, false, false, false, false, false, false, false, false] (by kernel_rfl) rfl rfl ⟨bc BK679 0, bc BK679 1, bc BK679 2, bc BK679 3, bc BK679 4, bc BK679 5, bc BK679 6, bc BK676 0, bc BK676 1⟩ (fun hHeld => ?_); refine with_tabW impl_BaseOk.tab6 impl_BaseOk.bits6 (fun HT_ HW_ => ?_)
             generalize w35.drew = w39 at BK676 BK679 HB hHeld ⊢
             refine take_ (i := 0) (N := some 23) (v := ?_) (a' := ?_) (zb 31 1) rfl rfl (take_ofW HT_.out HW_.out (by kernel_rfl)) (fun _ _ _ h => h) (Or.inl ⟨by rfl, ?_⟩) hHeld ?_ ?_
             rotate_left; ·rintro w' ⟨s0, s1, s2, s3, s4, s5, s6, s7, s8⟩; go_simp; with_reducible rfl
             rotate_left; ·simp only [Act.put, zq0, zq1, zq2, i64_w, i32_w]; rfl
             refine one_ (i := 1) (N := some 24) (zb 31 3) rfl rfl (one_of HT_.out (by kernel_rfl)) (by decide) (fun K hK => ?_)
             refine gs Try.func13 #[.agg #[.string ((rd_T32 l0_1 x18_2).f0), .int .i64 ((rd_T32 l0_1 x18_2).f1), .int .i64 ((rd_T32 l0_1 x18_2).f2), .string ((rd_T32 l0_1 x18_2).f3), .slice A678_4 ((rd_T32 l0_1 x18_2).f4).length c678_4, .slice A678_5 ((rd_T32 l0_1 x18_2).f5).length c678_5, .slice A678_6 ((rd_T32 l0_1 x18_2).f6).length c678_6]] ?_
             with_reducible refine (impl_EntryOk.calls k2 ((rd_T32 l0_1 x18_2).f0) ((rd_T32 l0_1 x18_2).f1) ((rd_T32 l0_1 x18_2).f2) ((rd_T32 l0_1 x18_2).f3) _ _ ((rd_T32 l0_1 x18_2).f4) _ _ ((rd_T32 l0_1 x18_2).f5) _ _ ((rd_T32 l0_1 x18_2).f6) true _ ?side1 ?side2 ?side3 ?side4 ?side5 ?side6 A17.out).mono ?_
             (case side1 => exact kc HR678_4 HB)
             (case side2 => exact HC678_4.out)
             (case side3 => exact kc HR678_5 HB)
             (case side4 => exact HC678_5.out)
             (case side5 => exact kc HR678_6 HB)
             (case side6 => exact HC678_6.out)
             rintro e w40 ⟨rfl, hb⟩
             refine ⟨_, rfl, ?_⟩
             have n0_ := zq9 (zq30 (g := gb676) (o := .cells #[.int .i64 a0_0, .slice (some ad678) l0_1.length c0_1] 46 (0, 0)) (by exact bk BK676) hb)
             have n1_ := zq9 (zq30 (g := gb679) (o := .cells #[.string ((rd_T32 l0_1 x18_2).f0), .int .i64 ((rd_T32 l0_1 x18_2).f1), .int .i64 ((rd_T32 l0_1 x18_2).f2), .string ((rd_T32 l0_1 x18_2).f3), .slice A678_4 ((rd_T32 l0_1 x18_2).f4).length c678_4, .slice A678_5 ((rd_T32 l0_1 x18_2).f5).length c678_5, .slice A678_6 ((rd_T32 l0_1 x18_2).f6).length c678_6] 32 (0, 0)) (by exact bk BK679) hb)
             have n2_ := zq9 (zq27 (by exact b2 HB GE676 GE679) hb)
             clear BK676; clear BK679; clear HB; have BK676 := n0_; have BK679 := n1_; have HB := n2_; clear n0_ n1_ n2_
             (try clear hb)
             (try clear hb2)
             (try clear hk)
             (try clear hi)
             refine hK.out _ _ ⟨bc BK679 0, bc BK679 1, bc BK679 2, bc BK679 3, bc BK679 4, bc BK679 5, bc BK679 6, bc BK676 0, bc BK676 1⟩ (fun hHeld => ?_)
             clear hK K
             refine norm_ (a' := ?_) ?_ ?_
             rotate_left; ·show Act.put _ (some 24) _ = _; simp only [Act.put, zq0, zq1, zq2, i64_w, i32_w]; rfl
             refine pa HT_ 2 25 (zb 31 7) ?_; refine pa HT_ 3 26 (zb 31 15) ?_; refine pa HT_ 4 27 (zb 31 31) ?_; refine pa HT_ 5 28 (zb 31 63) ?_; refine pa HT_ 6 29 (zb 31 127) ?_; refine pb HT_ 7 30 (zb 31 255) ?_; refine pb HT_ 8 31 (zb 31 511) ?_; refine pb HT_ 9 32 (zb 31 1023) ?_; refine pb HT_ 10 33 (zb 31 2047) ?_; refine pb HT_ 11 34 (zb 31 4095) ?_; refine pb HT_ 12 35 (zb 31 8191) ?_; refine pb HT_ 13 36 (zb 31 16383) ?_
             refine pb HT_ 14 37 (zb 31 32767) ?_; refine pb HT_ 15 38 (zb 31 65535) ?_; refine pb HT_ 16 39 (zb 31 131071) ?_; refine pa HT_ 17 40 (zb 31 262143) ?_; refine pa HT_ 18 41 (zb 31 524287) ?_; refine pa HT_ 19 42 (zb 31 1048575) ?_; refine pa HT_ 20 43 (zb 31 2097151) ?_
             refine take_ (i := 21) (N := some 44) (v := ?_) (a' := ?_) (zb 31 4194303) rfl rfl (take_ofW HT_.out HW_.out (by kernel_rfl)) (fun _ _ _ h => h) (Or.inl ⟨by rfl, ?_⟩) hHeld ?_ ?_
             rotate_left; ·rintro w' ⟨s0, s1, s2, s3, s4, s5, s6, s7, s8⟩; go_simp; with_reducible rfl
             rotate_left; ·simp only [Act.put, zq0, zq1, zq2, i64_w, i32_w]; rfl
             refine pa HT_ 22 45 (zb 31 8388607) ?_; refine pa HT_ 23 46 (zb 31 16777215) ?_; refine pa HT_ 24 47 (zb 31 33554431) ?_; refine pa HT_ 26 49 (zb 31 100663295) ?_
             refine take_ (i := 25) (N := some 48) (v := ?_) (a' := ?_) (zb 31 134217727) rfl rfl (take_ofW HT_.out HW_.out (by kernel_rfl)) (fun _ _ _ h => h) (Or.inl ⟨by rfl, ?_⟩) hHeld ?_ ?_
             rotate_left; ·rintro w' ⟨s0, s1, s2, s3, s4, s5, s6, s7, s8⟩; go_simp; with_reducible rfl
             rotate_left; ·simp only [Act.put, zq0, zq1, zq2, i64_w, i32_w]; rfl
             refine take_ (i := 27) (N := some 50) (v := ?_) (a' := ?_) (zb 31 268435455) rfl rfl (take_ofW HT_.out HW_.out (by kernel_rfl)) (fun _ _ _ h => h) (Or.inl ⟨by rfl, ?_⟩) hHeld ?_ ?_
             rotate_left; ·rintro w' ⟨s0, s1, s2, s3, s4, s5, s6, s7, s8⟩; go_simp; with_reducible rfl
             rotate_left; ·simp only [Act.put, zq0, zq1, zq2, i64_w, i32_w]; rfl
             refine pa HT_ 28 51 (zb 31 536870911) ?_; refine pa HT_ 29 52 (zb 31 1073741823) ?_; refine pa HT_ 30 53 (zb 31 2147483647) ?_
             refine done_ (done_of HT_.out (by kernel_rfl)) ?_
             try go_wp2
             go_meet
             case rel => exact ⟨_, (decide (((rd_T32 l0_1 x18_2).f1) ≤ a0_0)), (by first | rfl | (simp; done) | (simp [*]; done)), H', ⟨by have := HJ1.out; have := HK2.out; first | omega | exact Nat.le_refl _⟩, ⟨by refine bp ?_; exact BK676.out⟩, ⟨by refine bp ?_; exact BK679.out⟩, ⟨by exact b2 HB GE676 GE679⟩⟩
          ·replace c18 := Bool.eq_false_iff.mpr c18
           subst c18
           have H1 : (impl_BaseOk.j2 k2 l0_1 (l0_1.length : Int) x18_2 true a0_0 l0_1) = some r := by rw [if_neg (show ¬ (false = true) by decide)] at H; exact H
           clear H; have H := H1; clear H1; have H' := zq9 H; clear H
           try go_wp2
           have n0_ : Aside0 ((((((((w14.setCell ⟨gb679, 0, none⟩ (.string ((rd_T32 l0_1 x18_2).f0))).setCell ⟨gb679, 1, none⟩ (.int .i64 ((rd_T32 l0_1 x18_2).f1))).setCell ⟨gb679, 2, none⟩ (.int .i64 ((rd_T32 l0_1 x18_2).f2))).setCell ⟨gb679, 3, none⟩ (.string ((rd_T32 l0_1 x18_2).f3))).setCell ⟨gb679, 4, none⟩ (.slice A678_4 ((rd_T32 l0_1 x18_2).f4).length c678_4)).setCell ⟨gb679, 5, none⟩ (.slice A678_5 ((rd_T32 l0_1 x18_2).f5).length c678_5)).setCell ⟨gb679, 6, none⟩ (.slice A678_6 ((rd_T32 l0_1 x18_2).f6).length c678_6)).heap[gb676]? = some (.cells #[.int .i64 a0_0, .slice (some ad678) l0_1.length c0_1] 46 (0, 0))) := ⟨by refine bp ?_; refine blk_far ?_ NB676_679.out _; refine bp ?_; refine blk_far ?_ NB676_679.out _; refine bp ?_; refine blk_far ?_ NB676_679.out _; refine bp ?_; refine blk_far ?_ NB676_679.out _; refine bp ?_; refine blk_far ?_ NB676_679.out _; refine bp ?_; refine blk_far ?_ NB676_679.out _; refine bp ?_; refine blk_far ?_ NB676_679.out _; refine bp ?_; exact BK676.out⟩
           have n1_ : Aside0 ((((((((w14.setCell ⟨gb679, 0, none⟩ (.string ((rd_T32 l0_1 x18_2).f0))).setCell ⟨gb679, 1, none⟩ (.int .i64 ((rd_T32 l0_1 x18_2).f1))).setCell ⟨gb679, 2, none⟩ (.int .i64 ((rd_T32 l0_1 x18_2).f2))).setCell ⟨gb679, 3, none⟩ (.string ((rd_T32 l0_1 x18_2).f3))).setCell ⟨gb679, 4, none⟩ (.slice A678_4 ((rd_T32 l0_1 x18_2).f4).length c678_4)).setCell ⟨gb679, 5, none⟩ (.slice A678_5 ((rd_T32 l0_1 x18_2).f5).length c678_5)).setCell ⟨gb679, 6, none⟩ (.slice A678_6 ((rd_T32 l0_1 x18_2).f6).length c678_6)).heap[gb679]? = some (.cells #[.string ((rd_T32 l0_1 x18_2).f0), .int .i64 ((rd_T32 l0_1 x18_2).f1), .int .i64 ((rd_T32 l0_1 x18_2).f2), .string ((rd_T32 l0_1 x18_2).f3), .slice A678_4 ((rd_T32 l0_1 x18_2).f4).length c678_4, .slice A678_5 ((rd_T32 l0_1 x18_2).f5).length c678_5, .slice A678_6 ((rd_T32 l0_1 x18_2).f6).length c678_6] 32 (0, 0))) := ⟨(blk_set (blk_set (blk_set (blk_set (blk_set (blk_set (blk_set BK679.out 0 _) 1 _) 2 _) 3 _) 4 _) 5 _) 6 _)⟩
           have n2_ : Aside0 (Below w.heap.size w (((((((w14.setCell ⟨gb679, 0, none⟩ (.string ((rd_T32 l0_1 x18_2).f0))).setCell ⟨gb679, 1, none⟩ (.int .i64 ((rd_T32 l0_1 x18_2).f1))).setCell ⟨gb679, 2, none⟩ (.int .i64 ((rd_T32 l0_1 x18_2).f2))).setCell ⟨gb679, 3, none⟩ (.string ((rd_T32 l0_1 x18_2).f3))).setCell ⟨gb679, 4, none⟩ (.slice A678_4 ((rd_T32 l0_1 x18_2).f4).length c678_4)).setCell ⟨gb679, 5, none⟩ (.slice A678_5 ((rd_T32 l0_1 x18_2).f5).length c678_5)).setCell ⟨gb679, 6, none⟩ (.slice A678_6 ((rd_T32 l0_1 x18_2).f6).length c678_6))) := ⟨by exact b2 HB GE676 GE679⟩
           (try clear BK676)
           (try clear BK679)
           (try clear HB)
           generalize (((((((w14.setCell ⟨gb679, 0, none⟩ (.string ((rd_T32 l0_1 x18_2).f0))).setCell ⟨gb679, 1, none⟩ (.int .i64 ((rd_T32 l0_1 x18_2).f1))).setCell ⟨gb679, 2, none⟩ (.int .i64 ((rd_T32 l0_1 x18_2).f2))).setCell ⟨gb679, 3, none⟩ (.string ((rd_T32 l0_1 x18_2).f3))).setCell ⟨gb679, 4, none⟩ (.slice A678_4 ((rd_T32 l0_1 x18_2).f4).length c678_4)).setCell ⟨gb679, 5, none⟩ (.slice A678_5 ((rd_T32 l0_1 x18_2).f5).length c678_5)).setCell ⟨gb679, 6, none⟩ (.slice A678_6 ((rd_T32 l0_1 x18_2).f6).length c678_6)) = w41 at n0_ n1_ n2_ ⊢
           have BK676 := n0_; have BK679 := n1_; have HB := n2_; clear n0_ n1_ n2_
           have n0_ := zq9 (blk_drew BK676.out)
           have n1_ := zq9 (blk_drew BK679.out)
           have n2_ := zq9 (zq4 HB.out)
           clear BK676; clear BK679; clear HB; have BK676 := n0_; have BK679 := n1_; have HB := n2_; clear n0_ n1_ n2_
           refine start_ (n := 31) (S := fun w' => w'.cell? ⟨gb679, 0, none⟩ = some (.string ((rd_T32 l0_1 x18_2).f0)) ∧ w'.cell? ⟨gb679, 1, none⟩ = some (.int .i64 ((rd_T32 l0_1 x18_2).f1)) ∧ w'.cell? ⟨gb679, 2, none⟩ = some (.int .i64 ((rd_T32 l0_1 x18_2).f2)) ∧ w'.cell? ⟨gb679, 3, none⟩ = some (.string ((rd_T32 l0_1 x18_2).f3)) ∧ w'.cell? ⟨gb679, 4, none⟩ = some (.slice A678_4 ((rd_T32 l0_1 x18_2).f4).length c678_4) ∧ w'.cell? ⟨gb679, 5, none⟩ = some (.slice A678_5 ((rd_T32 l0_1 x18_2).f5).length c678_5) ∧ w'.cell? ⟨gb679, 6, none⟩ = some (.slice A678_6 ((rd_T32 l0_1 x18_2).f6).length c678_6)) (ds := []) #[false, false, false, false, false, false, false, false, false, false, false, false, false, false, false, false, false, false, false, false, false, false, false, false, false, false, false, false, false, false, false] (by kernel_rfl) rfl rfl ⟨bc BK679 0, bc BK679 1, bc BK679 2, bc BK679 3, bc BK679 4, bc BK679 5, bc BK679 6⟩ (fun hHeld => ?_); refine with_tabW impl_BaseOk.tab6 impl_BaseOk.bits6 (fun HT_ HW_ => ?_)
           generalize w41.drew = w42 at BK676 BK679 HB hHeld ⊢
           refine take_ (i := 0) (N := some 23) (v := ?_) (a' := ?_) (zb 31 1) rfl rfl (take_ofW HT_.out HW_.out (by kernel_rfl)) (fun _ _ _ h => h) (Or.inl ⟨by rfl, ?_⟩) hHeld ?_ ?_
           rotate_left; ·rintro w' ⟨s0, s1, s2, s3, s4, s5, s6⟩; go_simp; with_reducible rfl
           rotate_left; ·simp only [Act.put, zq0, zq1, zq2, i64_w, i32_w]; rfl
           refine one_ (i := 1) (N := some 24) (zb 31 3) rfl rfl (one_of HT_.out (by kernel_rfl)) (by decide) (fun K hK => ?_)
           refine gs Try.func13 #[.agg #[.string ((rd_T32 l0_1 x18_2).f0), .int .i64 ((rd_T32 l0_1 x18_2).f1), .int .i64 ((rd_T32 l0_1 x18_2).f2), .string ((rd_T32 l0_1 x18_2).f3), .slice A678_4 ((rd_T32 l0_1 x18_2).f4).length c678_4, .slice A678_5 ((rd_T32 l0_1 x18_2).f5).length c678_5, .slice A678_6 ((rd_T32 l0_1 x18_2).f6).length c678_6]] ?_
           with_reducible refine (impl_EntryOk.calls k2 ((rd_T32 l0_1 x18_2).f0) ((rd_T32 l0_1 x18_2).f1) ((rd_T32 l0_1 x18_2).f2) ((rd_T32 l0_1 x18_2).f3) _ _ ((rd_T32 l0_1 x18_2).f4) _ _ ((rd_T32 l0_1 x18_2).f5) _ _ ((rd_T32 l0_1 x18_2).f6) false _ ?side1 ?side2 ?side3 ?side4 ?side5 ?side6 A17.out).mono ?_
           (case side1 => exact kc HR678_4 HB)
           (case side2 => exact HC678_4.out)
           (case side3 => exact kc HR678_5 HB)
           (case side4 => exact HC678_5.out)
           (case side5 => exact kc HR678_6 HB)
           (case side6 => exact HC678_6.out)
           rintro e w43 ⟨rfl, hb⟩
           refine ⟨_, rfl, ?_⟩
           have n0_ := zq9 (zq30 (g := gb676) (o := .cells #[.int .i64 a0_0, .slice (some ad678) l0_1.length c0_1] 46 (0, 0)) (by exact bk BK676) hb)
           have n1_ := zq9 (zq30 (g := gb679) (o := .cells #[.string ((rd_T32 l0_1 x18_2).f0), .int .i64 ((rd_T32 l0_1 x18_2).f1), .int .i64 ((rd_T32 l0_1 x18_2).f2), .string ((rd_T32 l0_1 x18_2).f3), .slice A678_4 ((rd_T32 l0_1 x18_2).f4).length c678_4, .slice A678_5 ((rd_T32 l0_1 x18_2).f5).length c678_5, .slice A678_6 ((rd_T32 l0_1 x18_2).f6).length c678_6] 32 (0, 0)) (by exact bk BK679) hb)
           have n2_ := zq9 (zq27 (by exact b2 HB GE676 GE679) hb)
           clear BK676; clear BK679; clear HB; have BK676 := n0_; have BK679 := n1_; have HB := n2_; clear n0_ n1_ n2_
           (try clear hb)
           (try clear hb2)
           (try clear hk)
           (try clear hi)
           refine hK.out _ _ ⟨bc BK679 0, bc BK679 1, bc BK679 2, bc BK679 3, bc BK679 4, bc BK679 5, bc BK679 6⟩ (fun hHeld => ?_)
           clear hK K
           refine norm_ (a' := ?_) ?_ ?_
           rotate_left; ·show Act.put _ (some 24) _ = _; simp only [Act.put, zq0, zq1, zq2, i64_w, i32_w]; rfl
           refine pa HT_ 2 25 (zb 31 7) ?_; refine pa HT_ 3 26 (zb 31 15) ?_; refine pb HT_ 4 27 (zb 31 31) ?_; refine pb HT_ 5 28 (zb 31 63) ?_; refine pb HT_ 6 29 (zb 31 127) ?_; refine pb HT_ 7 30 (zb 31 255) ?_; refine pb HT_ 8 31 (zb 31 511) ?_; refine pb HT_ 9 32 (zb 31 1023) ?_; refine pb HT_ 10 33 (zb 31 2047) ?_; refine pb HT_ 11 34 (zb 31 4095) ?_; refine pb HT_ 12 35 (zb 31 8191) ?_; refine pb HT_ 13 36 (zb 31 16383) ?_
           refine pb HT_ 14 37 (zb 31 32767) ?_; refine pb HT_ 15 38 (zb 31 65535) ?_; refine pb HT_ 16 39 (zb 31 131071) ?_; refine pb HT_ 17 40 (zb 31 262143) ?_; refine pa HT_ 18 41 (zb 31 524287) ?_; refine pa HT_ 19 42 (zb 31 1048575) ?_; refine pb HT_ 20 43 (zb 31 2097151) ?_; refine pb HT_ 21 44 (zb 31 4194303) ?_; refine pb HT_ 22 45 (zb 31 8388607) ?_; refine pb HT_ 23 46 (zb 31 16777215) ?_
           refine pb HT_ 24 47 (zb 31 33554431) ?_; refine pb HT_ 25 48 (zb 31 67108863) ?_; refine pb HT_ 26 49 (zb 31 134217727) ?_; refine pb HT_ 27 50 (zb 31 268435455) ?_; refine pb HT_ 28 51 (zb 31 536870911) ?_; refine pb HT_ 29 52 (zb 31 1073741823) ?_; refine pa HT_ 30 53 (zb 31 2147483647) ?_
           refine done_ (done_of HT_.out (by kernel_rfl)) ?_
           try go_wp2
           go_meet
           case rel => exact ⟨_, (true), (by first | rfl | (simp; done) | (simp [*]; done)), H', ⟨by have := HJ1.out; have := HK2.out; first | omega | exact Nat.le_refl _⟩, ⟨by refine bp ?_; exact BK676.out⟩, ⟨by refine bp ?_; exact BK679.out⟩, ⟨by exact b2 HB GE676 GE679⟩⟩
         case rest =>
          clear HC13
          try clear c1
          try clear p2
          try clear c3
          try clear c6
          try clear c13
          try clear c18
          try clear c34
          try clear c34b0
          try clear c34b1
          obtain ⟨kq, x53_12, rfl, HA, HJ12, BK676, BK679, HB⟩ := hcut
          cases kq with
          | zero => exact absurd HA.out (by simp [impl_BaseOk.j2])
          | succ kj12 =>
           have H := HA.out; clear HA
           simp only [impl_BaseOk.j2] at H
           by_cases c44 : x53_12 = true
           ·subst c44
            have H1 : (some false) = some r := by rw [if_pos rfl] at H; exact H
            clear H; have H := H1; clear H1; obtain rfl := Option.some.inj H
            go_wp2
            go_ret
            exact fz (by exact b2 HB GE676 GE679)
           ·replace c44 := Bool.eq_false_iff.mpr c44
            subst c44
            have H1 : (impl_BaseOk.l0 kj12 l0_1 (l0_1.length : Int) (wrap64 (x18_2 + 1)) a0_0 l0_1) = some r := by rw [if_neg (show ¬ (false = true) by decide)] at H; exact H
            clear H; have H := H1; clear H1; have H' := zq9 H; clear H
            go_wp2
            go_roundg kj12
            case measure => have := HJ1.out; have := HK2.out; have := HJ12.out; omega
            case rel => exact ⟨(wrap64 (x18_2 + 1)), (by first | rfl | (simp; done) | (simp [*]; done)), H', ⟨by have := HJ1.out; have := HK2.out; have := HJ12.out; omega⟩, ⟨by refine bp ?_; exact BK676.out⟩, ⟨by exact b2 HB GE676 GE679⟩⟩
        ·rw [if_neg c12] at H
         exact absurd H (by simp)
       ·rw [if_neg c11] at H
        exact absurd H (by simp)
      ·rw [if_neg c10] at H; have c10b0 : decide (x18_2 < (l0_1.length : Int)) = false := decide_eq_false c10; clear c10; obtain rfl := Option.some.inj H
       go_wp2
       go_ret
       exact fz (by exact b1 HB GE676)
set_option maxHeartbeats 8000000 in
set_option maxRecDepth 100000 in
theorem impl_copied.calls (A0 : Option Addr) (c0 : Nat) (l0 : List ByteArray) (r : List ByteArray) (w : World) (hr0 : Kd.C Kd.string w A0 l0.length l0) (hc0 : l0.length ≤ c0) (h : impl_copied.f l0 = some r) :
    Calls Try.prog 101 #[.slice A0 l0.length c0] w fun e w' => ∃ v0_ : Value, e = .returned (v0_) ∧ Kd.R Kd.string 9 w' w.heap.size (fun _ => True) v0_ r ∧ Below w.heap.size w w' := by
  have HR0 := zq9 hr0; have HC0 := zq9 hc0; clear hr0 hc0
  have HB := zq9 (Below.refl w.heap.size w)
  have H : ((some (([] : List ByteArray) : List ByteArray)).bind fun y863 => (if y863.length + l0.length < 8796093022208 then (some (y863 ++ l0)) else (none))) = some r := h
  clear h
  obtain ⟨y863, hy863⟩ : ∃ y_ : List ByteArray, y_ = (([] : List ByteArray)) := ⟨_, rfl⟩
  replace H : (if y863.length + l0.length < 8796093022208 then (some (y863 ++ l0)) else (none)) = some r := by first | (rw [hy863]; with_reducible exact H) | (have H2_ := (Option.bind_some _ _).symm.trans H; rw [hy863]; with_reducible exact H2_) | (have H2_ := (Option.bind_some _ _).symm.trans H; with_reducible exact H2_) | with_reducible exact H | (rw [hy863]; exact H) | exact H
  have Ny863 := zq9 hy863; clear hy863
  by_cases c2 : y863.length + l0.length < 8796093022208
  · rw [if_pos c2] at H; have LMc2 := zq9 c2; clear c2
    obtain ⟨y866, hy866⟩ : ∃ y_ : List ByteArray, y_ = (y863 ++ l0) := ⟨_, rfl⟩
    replace H : (some y866) = some r := by first | (rw [hy866]; with_reducible exact H) | (have H2_ := (Option.bind_some _ _).symm.trans H; rw [hy866]; with_reducible exact H2_) | (have H2_ := (Option.bind_some _ _).symm.trans H; with_reducible exact H2_) | with_reducible exact H | (rw [hy866]; exact H) | exact H
    have Ny866 := zq9 hy866; clear hy866; obtain rfl := Option.some.inj H
    go_enter Try.func101, Try.ntmps101
    go_wp2_with (first | ((with_reducible refine zq25 (N := 3) rfl ?_); refine Kd.R_lit Kd.string _ 9 ?hg (N := 3) ?hd (xs := ([] : List ByteArray)) (inner := []) (ok := fun _ => True) (okp := fun _ => True) ?hr ?hp (fun _ hk => hk) trivial (Below.refl _ _) (Nat.le_refl _) (by simp) ?_; (case hd => rfl); (case hg => rfl); (case hr => first | (go_simp; done) | (go_simp; rfl)); (case hp => exact (Reps.none _ _)); intro v864 w3 ho4 hb hg_ hnew_; clear hg_ hnew_; (first | rw [← Ny863.out] at ho4 | (simp only [Int.reduceToNat] at ho4; rw [← Ny863.out] at ho4)); have n0_ := zq9 (Kd.R_lower ho4 (zq29 (by exact bl HB))); have n1_ := zq9 (zq27 (by exact bl HB) hb); clear HB; have HO865 := n0_; have HB := n1_; clear n0_ n1_; clear hb ho4) | ((with_reducible refine gate_builtin (b := .append) (xs := #[.tmp 3, .tmp 4]) rfl ?_); at_builtin; refine Kd.R_append_rows Kd.string (w0 := w) w.heap.size rfl (.tmp 3) (.tmp 4) 22 9 (.string ⟨#[]⟩) 16 rfl Try.underlying22 info9 rfl (by decide) (by omega) v864 y863 l0 _ _ _ (fun _ => True) (fun _ => False) rfl rfl ?aO ?aR (fun _ _ h => h) (fun _ h => h.elim) ?aF ?aB ?aS ?aL ?_; (case aR => exact kc HR0 HB); (case aB => exact (by exact bl HB)); (case aF => exact (fun _ _ => trivial)); (case aO => exact (by exact rz HO865)); (case aS => exact (zq29 (by exact bl HB))); (case aL => have := LMc2.out; omega); intro v867 w5 ho hb hg hat; rw [← Ny866.out] at ho; have n0_ := zq9 (hb); have n1_ := zq9 (ho); clear HB; clear HO865; have HB := n0_; have HO868 := n1_; clear n0_ n1_; clear ho hb hg hat))
    go_ret
    exact ⟨_, by first | rfl | (simp [errW_none, errW_some] <;> rfl) | (simp [*, errW_none, errW_some] <;> rfl), by (with_reducible repeat (first | apply zq10 | apply zq11 | apply zq12)); exact HO868.out, by exact bl HB⟩
  · rw [if_neg c2] at H
    exact absurd H (by simp)
set_option maxHeartbeats 8000000 in
set_option maxRecDepth 100000 in
theorem impl_copiedScores.calls (A0 : Option Addr) (c0 : Nat) (l0 : List (S99)) (r : List (S99)) (w : World) (hr0 : Kd.C k99 w A0 l0.length l0) (hc0 : l0.length ≤ c0) (h : impl_copiedScores.f l0 = some r) :
    Calls Try.prog 102 #[.slice A0 l0.length c0] w fun e w' => ∃ v0_ : Value, e = .returned (v0_) ∧ Kd.R k99 99 w' w.heap.size (fun _ => True) v0_ r ∧ Below w.heap.size w w' := by
  have HR0 := zq9 hr0; have HC0 := zq9 hc0; clear hr0 hc0
  have HB := zq9 (Below.refl w.heap.size w)
  have H : ((some (([] : List (S99)) : List (S99))).bind fun y869 => (if y869.length + l0.length < 5864062014805 then (some (y869 ++ l0)) else (none))) = some r := h
  clear h
  obtain ⟨y869, hy869⟩ : ∃ y_ : List (S99), y_ = (([] : List (S99))) := ⟨_, rfl⟩
  replace H : (if y869.length + l0.length < 5864062014805 then (some (y869 ++ l0)) else (none)) = some r := by first | (rw [hy869]; with_reducible exact H) | (have H2_ := (Option.bind_some _ _).symm.trans H; rw [hy869]; with_reducible exact H2_) | (have H2_ := (Option.bind_some _ _).symm.trans H; with_reducible exact H2_) | with_reducible exact H | (rw [hy869]; exact H) | exact H
  have Ny869 := zq9 hy869; clear hy869
  by_cases c2 : y869.length + l0.length < 5864062014805
  · rw [if_pos c2] at H; have LMc2 := zq9 c2; clear c2
    obtain ⟨y872, hy872⟩ : ∃ y_ : List (S99), y_ = (y869 ++ l0) := ⟨_, rfl⟩
    replace H : (some y872) = some r := by first | (rw [hy872]; with_reducible exact H) | (have H2_ := (Option.bind_some _ _).symm.trans H; rw [hy872]; with_reducible exact H2_) | (have H2_ := (Option.bind_some _ _).symm.trans H; with_reducible exact H2_) | with_reducible exact H | (rw [hy872]; exact H) | exact H
    have Ny872 := zq9 hy872; clear hy872; obtain rfl := Option.some.inj H
    go_enter Try.func102, Try.ntmps102
    go_wp2_with (first | ((with_reducible refine zq25 (N := 3) rfl ?_); refine Kd.R_lit k99 _ 99 ?hg (N := 3) ?hd (xs := ([] : List (S99))) (inner := []) (ok := fun _ => True) (okp := fun _ => True) ?hr ?hp (fun _ hk => hk) trivial (Below.refl _ _) (Nat.le_refl _) (by simp) ?_; (case hd => rfl); (case hg => rfl); (case hr => first | (go_simp; done) | (go_simp; rfl)); (case hp => exact (Reps.none _ _)); intro v870 w3 ho4 hb hg_ hnew_; clear hg_ hnew_; (first | rw [← Ny869.out] at ho4 | (simp only [Int.reduceToNat] at ho4; rw [← Ny869.out] at ho4)); have n0_ := zq9 (Kd.R_lower ho4 (zq29 (by exact bl HB))); have n1_ := zq9 (zq27 (by exact bl HB) hb); clear HB; have HO871 := n0_; have HB := n1_; clear n0_ n1_; clear hb ho4) | ((with_reducible refine gate_builtin (b := .append) (xs := #[.tmp 3, .tmp 4]) rfl ?_); at_builtin; refine Kd.R_append_rows k99 (w0 := w) w.heap.size rfl (.tmp 3) (.tmp 4) 29 99 (.agg #[(.string ⟨#[]⟩), (.int .i64 0)]) 24 rfl Try.underlying29 info99 rfl (by decide) (by omega) v870 y869 l0 _ _ _ (fun _ => True) (fun _ => False) rfl rfl ?aO ?aR (fun _ _ h => h) (fun _ h => h.elim) ?aF ?aB ?aS ?aL ?_; (case aR => exact kc HR0 HB); (case aB => exact (by exact bl HB)); (case aF => exact (fun _ _ => trivial)); (case aO => exact (by exact rz HO871)); (case aS => exact (zq29 (by exact bl HB))); (case aL => have := LMc2.out; omega); intro v873 w5 ho hb hg hat; rw [← Ny872.out] at ho; have n0_ := zq9 (hb); have n1_ := zq9 (ho); clear HB; clear HO871; have HB := n0_; have HO874 := n1_; clear n0_ n1_; clear ho hb hg hat))
    go_ret
    exact ⟨_, by first | rfl | (simp [errW_none, errW_some] <;> rfl) | (simp [*, errW_none, errW_some] <;> rfl), by (with_reducible repeat (first | apply zq10 | apply zq11 | apply zq12)); exact HO874.out, by exact bl HB⟩
  · rw [if_neg c2] at H
    exact absurd H (by simp)
set_option maxHeartbeats 8000000 in
set_option maxRecDepth 100000 in
theorem impl_copiedPairs.calls (A0 : Option Addr) (c0 : Nat) (l0 : List (S101)) (r : List (S101)) (w : World) (hr0 : Kd.C k101 w A0 l0.length l0) (hc0 : l0.length ≤ c0) (h : impl_copiedPairs.f l0 = some r) :
    Calls Try.prog 103 #[.slice A0 l0.length c0] w fun e w' => ∃ v0_ : Value, e = .returned (v0_) ∧ Kd.R k101 101 w' w.heap.size (fun _ => True) v0_ r ∧ Below w.heap.size w w' := by
  have HR0 := zq9 hr0; have HC0 := zq9 hc0; clear hr0 hc0
  have HB := zq9 (Below.refl w.heap.size w)
  have H : ((some (([] : List (S101)) : List (S101))).bind fun y875 => (if y875.length + l0.length < 4398046511104 then (some (y875 ++ l0)) else (none))) = some r := h
  clear h
  obtain ⟨y875, hy875⟩ : ∃ y_ : List (S101), y_ = (([] : List (S101))) := ⟨_, rfl⟩
  replace H : (if y875.length + l0.length < 4398046511104 then (some (y875 ++ l0)) else (none)) = some r := by first | (rw [hy875]; with_reducible exact H) | (have H2_ := (Option.bind_some _ _).symm.trans H; rw [hy875]; with_reducible exact H2_) | (have H2_ := (Option.bind_some _ _).symm.trans H; with_reducible exact H2_) | with_reducible exact H | (rw [hy875]; exact H) | exact H
  have Ny875 := zq9 hy875; clear hy875
  by_cases c2 : y875.length + l0.length < 4398046511104
  · rw [if_pos c2] at H; have LMc2 := zq9 c2; clear c2
    obtain ⟨y878, hy878⟩ : ∃ y_ : List (S101), y_ = (y875 ++ l0) := ⟨_, rfl⟩
    replace H : (some y878) = some r := by first | (rw [hy878]; with_reducible exact H) | (have H2_ := (Option.bind_some _ _).symm.trans H; rw [hy878]; with_reducible exact H2_) | (have H2_ := (Option.bind_some _ _).symm.trans H; with_reducible exact H2_) | with_reducible exact H | (rw [hy878]; exact H) | exact H
    have Ny878 := zq9 hy878; clear hy878; obtain rfl := Option.some.inj H
    go_enter Try.func103, Try.ntmps103
    go_wp2_with (first | ((with_reducible refine zq25 (N := 3) rfl ?_); refine Kd.R_lit k101 _ 101 ?hg (N := 3) ?hd (xs := ([] : List (S101))) (inner := []) (ok := fun _ => True) (okp := fun _ => True) ?hr ?hp (fun _ hk => hk) trivial (Below.refl _ _) (Nat.le_refl _) (by simp) ?_; (case hd => rfl); (case hg => rfl); (case hr => first | (go_simp; done) | (go_simp; rfl)); (case hp => exact (Reps.none _ _)); intro v876 w3 ho4 hb hg_ hnew_; clear hg_ hnew_; (first | rw [← Ny875.out] at ho4 | (simp only [Int.reduceToNat] at ho4; rw [← Ny875.out] at ho4)); have n0_ := zq9 (Kd.R_lower ho4 (zq29 (by exact bl HB))); have n1_ := zq9 (zq27 (by exact bl HB) hb); clear HB; have HO877 := n0_; have HB := n1_; clear n0_ n1_; clear hb ho4) | ((with_reducible refine gate_builtin (b := .append) (xs := #[.tmp 3, .tmp 4]) rfl ?_); at_builtin; refine Kd.R_append_rows k101 (w0 := w) w.heap.size rfl (.tmp 3) (.tmp 4) 30 101 (.agg #[(.string ⟨#[]⟩), (.string ⟨#[]⟩)]) 32 rfl Try.underlying30 info101 rfl (by decide) (by omega) v876 y875 l0 _ _ _ (fun _ => True) (fun _ => False) rfl rfl ?aO ?aR (fun _ _ h => h) (fun _ h => h.elim) ?aF ?aB ?aS ?aL ?_; (case aR => exact kc HR0 HB); (case aB => exact (by exact bl HB)); (case aF => exact (fun _ _ => trivial)); (case aO => exact (by exact rz HO877)); (case aS => exact (zq29 (by exact bl HB))); (case aL => have := LMc2.out; omega); intro v879 w5 ho hb hg hat; rw [← Ny878.out] at ho; have n0_ := zq9 (hb); have n1_ := zq9 (ho); clear HB; clear HO877; have HB := n0_; have HO880 := n1_; clear n0_ n1_; clear ho hb hg hat))
    go_ret
    exact ⟨_, by first | rfl | (simp [errW_none, errW_some] <;> rfl) | (simp [*, errW_none, errW_some] <;> rfl), by (with_reducible repeat (first | apply zq10 | apply zq11 | apply zq12)); exact HO880.out, by exact bl HB⟩
  · rw [if_neg c2] at H
    exact absurd H (by simp)
set_option maxHeartbeats 8000000 in
set_option maxRecDepth 100000 in
theorem impl_cloneEntry.calls (a0_0 : ByteArray) (a0_1 : Int) (a0_2 : Int) (a0_3 : ByteArray) (A0_4 : Option Addr) (c0_4 : Nat) (l0_4 : List ByteArray) (A0_5 : Option Addr) (c0_5 : Nat) (l0_5 : List (S99)) (A0_6 : Option Addr) (c0_6 : Nat) (l0_6 : List (S101)) (r1 : ByteArray) (r2 : Int) (r3 : Int) (r4 : ByteArray) (r5 : List ByteArray) (r6 : List (S99)) (r7 : List (S101)) (w : World) (hr0_4 : Kd.C Kd.string w A0_4 l0_4.length l0_4) (hc0_4 : l0_4.length ≤ c0_4) (hr0_5 : Kd.C k99 w A0_5 l0_5.length l0_5) (hc0_5 : l0_5.length ≤ c0_5) (hr0_6 : Kd.C k101 w A0_6 l0_6.length l0_6) (hc0_6 : l0_6.length ≤ c0_6) (h : impl_cloneEntry.f a0_0 a0_1 a0_2 a0_3 l0_4 l0_5 l0_6 = some (r1, r2, r3, r4, r5, r6, r7)) :
    Calls Try.prog 68 #[.agg #[.string a0_0, .int .i64 a0_1, .int .i64 a0_2, .string a0_3, .slice A0_4 l0_4.length c0_4, .slice A0_5 l0_5.length c0_5, .slice A0_6 l0_6.length c0_6]] w fun e w' => ∃ v4_ v5_ v6_ : Value, e = .returned (.agg #[.string r1, .int .i64 r2, .int .i64 r3, .string r4, v4_, v5_, v6_]) ∧ Kd.R Kd.string 9 w' w.heap.size (fun _ => True) v4_ r5 ∧ Kd.R k99 99 w' w.heap.size (fun _ => True) v5_ r6 ∧ Kd.R k101 101 w' w.heap.size (fun _ => True) v6_ r7 ∧ Below w.heap.size w w' := by
  have hu32 := Try.underlying32; have HR0_4 := zq9 hr0_4; have HC0_4 := zq9 hc0_4; clear hr0_4 hc0_4; have HR0_5 := zq9 hr0_5; have HC0_5 := zq9 hc0_5; clear hr0_5 hc0_5; have HR0_6 := zq9 hr0_6; have HC0_6 := zq9 hc0_6; clear hr0_6 hc0_6
  have HB := zq9 (Below.refl w.heap.size w)
  have H : ((impl_copied.f l0_4).bind fun t883 => ((impl_copiedScores.f l0_5).bind fun t886 => ((impl_copiedPairs.f l0_6).bind fun t889 => (some (a0_0, a0_1, a0_2, a0_3, t883, t886, t889))))) = some (r1, r2, r3, r4, r5, r6, r7) := h
  clear h; replace H := Option.bind_eq_some_iff.mp H; obtain ⟨t883, A20, H⟩ := H
  try dsimp only at H
  have A2 := zq9 A20; clear A20; replace H := Option.bind_eq_some_iff.mp H; obtain ⟨t886, A30, H⟩ := H
  try dsimp only at H
  have A3 := zq9 A30; clear A30; replace H := Option.bind_eq_some_iff.mp H; obtain ⟨t889, A40, H⟩ := H
  try dsimp only at H
  have A4 := zq9 A40; clear A40
  simp only [Option.some.injEq, Prod.mk.injEq] at H
  obtain ⟨rfl, rfl, rfl, rfl, rfl, rfl, rfl⟩ := H
  go_enter Try.func68, Try.ntmps68
  go_wp2_with (first | ((with_reducible refine zq25 (N := 1) rfl ?_); refine bx 1 #[.string a0_0, .int .i64 a0_1, .int .i64 a0_2, .string a0_3, .slice A0_4 l0_4.length c0_4, .slice A0_5 l0_5.length c0_5, .slice A0_6 l0_6.length c0_6] 32 ?_; intro gb881 hg w5 hbox hb; have n0_ := zq9 (zq27 (by exact bl HB) hb); have n1_ := zq9 (hbox); have n2_ := zq9 ((by rw [hg]; exact (zq29 (by exact bl HB)) : w.heap.size ≤ gb881)); have n3_ := n2_; clear HB; have HB := n0_; have BK881 := n1_; have GW881 := n2_; have GE881 := n3_; clear n0_ n1_ n2_ n3_; clear hb hbox hg) | ((with_reducible refine zq25 (N := 2) rfl ?_); refine bx 2 #[.string (⟨#[]⟩ : ByteArray), .int .i64 0, .int .i64 0, .string (⟨#[]⟩ : ByteArray), .slice none 0 0, .slice none 0 0, .slice none 0 0] 32 ?_; intro gb882 hg w6 hbox hb; have n0_ := zq9 (zq30 (g := gb881) (o := .cells #[.string a0_0, .int .i64 a0_1, .int .i64 a0_2, .string a0_3, .slice A0_4 l0_4.length c0_4, .slice A0_5 l0_5.length c0_5, .slice A0_6 l0_6.length c0_6] 32 (0, 0)) (by exact bk BK881) hb); have n1_ := zq9 (zq27 (by exact b1 HB GE881) hb); have n2_ := zq9 (hbox); have n3_ := zq9 ((by rw [hg]; exact (zq29 (by exact b1 HB GE881)) : w.heap.size ≤ gb882)); have n4_ := n3_; have n5_ := zq9 ((by rw [hg]; exact Nat.ne_of_lt (blk_lt (g := gb881) (o := .cells #[.string a0_0, .int .i64 a0_1, .int .i64 a0_2, .string a0_3, .slice A0_4 l0_4.length c0_4, .slice A0_5 l0_5.length c0_5, .slice A0_6 l0_6.length c0_6] 32 (0, 0)) (by exact bk BK881)) : gb881 ≠ gb882)); have n6_ := zq9 ((by rw [hg]; exact Nat.ne_of_gt (blk_lt (g := gb881) (o := .cells #[.string a0_0, .int .i64 a0_1, .int .i64 a0_2, .string a0_3, .slice A0_4 l0_4.length c0_4, .slice A0_5 l0_5.length c0_5, .slice A0_6 l0_6.length c0_6] 32 (0, 0)) (by exact bk BK881)) : gb882 ≠ gb881)); clear BK881; clear HB; have BK881 := n0_; have HB := n1_; have BK882 := n2_; have GW882 := n3_; have GE882 := n4_; have NB881_882 := n5_; have NB882_881 := n6_; clear n0_ n1_ n2_ n3_ n4_ n5_ n6_; clear hb hbox hg; have hnb7 := NB881_882.out; have hnc7 := NB882_881.out; have hcz8_0 : w6.cell? ⟨gb881, 0, none⟩ = some (.string a0_0) := bc BK881 0; have hcz8_1 : w6.cell? ⟨gb881, 1, none⟩ = some (.int .i64 a0_1) := bc BK881 1; have hcz8_2 : w6.cell? ⟨gb881, 2, none⟩ = some (.int .i64 a0_2) := bc BK881 2; have hcz8_3 : w6.cell? ⟨gb881, 3, none⟩ = some (.string a0_3) := bc BK881 3; have hcz8_4 : w6.cell? ⟨gb881, 4, none⟩ = some (.slice A0_4 l0_4.length c0_4) := bc BK881 4; have hcz8_5 : w6.cell? ⟨gb881, 5, none⟩ = some (.slice A0_5 l0_5.length c0_5) := bc BK881 5; have hcz8_6 : w6.cell? ⟨gb881, 6, none⟩ = some (.slice A0_6 l0_6.length c0_6) := bc BK881 6; have hfz8_0 := zq6 BK881.out 0; have hfz8_1 := zq6 BK881.out 1; have hfz8_2 := zq6 BK881.out 2; have hfz8_3 := zq6 BK881.out 3; have hfz8_4 := zq6 BK881.out 4; have hfz8_5 := zq6 BK881.out 5; have hfz8_6 := zq6 BK881.out 6) | ((with_reducible refine zq24 (f := 101) rfl ?_); refine gl (some 5) Try.func101 #[.slice A0_4 l0_4.length c0_4] ?_; (with_reducible refine (impl_copied.calls _ _ l0_4 t883 _ ?side1 ?side2 A2.out).mono ?_); (case side1 => exact kc HR0_4 HB); (case side2 => exact HC0_4.out); rintro e w9 ⟨v884, rfl, ho0, hb⟩; refine ⟨_, rfl, ?_⟩; have n0_ := zq9 (Kd.R_lower ho0 (zq29 (by exact b2 HB GE881 GE882))); have n1_ := zq9 (zq30 (g := gb881) (o := .cells #[.string a0_0, .int .i64 a0_1, .int .i64 a0_2, .string a0_3, .slice A0_4 l0_4.length c0_4, .slice A0_5 l0_5.length c0_5, .slice A0_6 l0_6.length c0_6] 32 (0, 0)) (by exact bk BK881) hb); have n2_ := zq9 (zq30 (g := gb882) (o := .cells #[.string (⟨#[]⟩ : ByteArray), .int .i64 0, .int .i64 0, .string (⟨#[]⟩ : ByteArray), .slice none 0 0, .slice none 0 0, .slice none 0 0] 32 (0, 0)) (by exact bk BK882) hb); have n3_ := zq9 (zq27 (by exact b2 HB GE881 GE882) hb); clear BK881; clear BK882; clear HB; have HO885 := n0_; have BK881 := n1_; have BK882 := n2_; have HB := n3_; clear n0_ n1_ n2_ n3_; (try clear hb); (try clear hb2); (try clear hk); (try clear hi); (try clear ho0); obtain ⟨Ao10, co10, eo10⟩ := Kd.R_slice HO885.out; subst eo10; have hcz11_0 : w9.cell? ⟨gb881, 0, none⟩ = some (.string a0_0) := bc BK881 0; have hcz11_1 : w9.cell? ⟨gb881, 1, none⟩ = some (.int .i64 a0_1) := bc BK881 1; have hcz11_2 : w9.cell? ⟨gb881, 2, none⟩ = some (.int .i64 a0_2) := bc BK881 2; have hcz11_3 : w9.cell? ⟨gb881, 3, none⟩ = some (.string a0_3) := bc BK881 3; have hcz11_4 : w9.cell? ⟨gb881, 4, none⟩ = some (.slice A0_4 l0_4.length c0_4) := bc BK881 4; have hcz11_5 : w9.cell? ⟨gb881, 5, none⟩ = some (.slice A0_5 l0_5.length c0_5) := bc BK881 5; have hcz11_6 : w9.cell? ⟨gb881, 6, none⟩ = some (.slice A0_6 l0_6.length c0_6) := bc BK881 6; have hfz11_0 := zq6 BK881.out 0; have hfz11_1 := zq6 BK881.out 1; have hfz11_2 := zq6 BK881.out 2; have hfz11_3 := zq6 BK881.out 3; have hfz11_4 := zq6 BK881.out 4; have hfz11_5 := zq6 BK881.out 5; have hfz11_6 := zq6 BK881.out 6) | ((with_reducible refine zq24 (f := 102) rfl ?_); refine gl (some 9) Try.func102 #[.slice A0_5 l0_5.length c0_5] ?_; (with_reducible refine (impl_copiedScores.calls _ _ l0_5 t886 _ ?side1 ?side2 A3.out).mono ?_); (case side1 => exact zq31 HR0_5.out (by exact b2 HB GE881 GE882)); (case side2 => exact HC0_5.out); rintro e w12 ⟨v887, rfl, ho0, hb⟩; refine ⟨_, rfl, ?_⟩; have n0_ := zq9 (Kd.R_below (by (with_reducible repeat (first | apply zq10 | apply zq11 | apply zq12)); exact (Kd.R_mono (Kd.R_far (p := ⟨gb881, 4, none⟩) (Kd.R_types HO885.out BK881.out (by decide)) (fun _ hk => hk.2) (.slice Ao10 t883.length co10)) (fun _ h_ => h_.1))) hb); have n1_ := zq9 (Kd.R_lower ho0 (zq29 (by exact b2 HB GE881 GE882))); have n2_ := zq9 (zq30 (g := gb881) (o := .cells #[.string a0_0, .int .i64 a0_1, .int .i64 a0_2, .string a0_3, .slice Ao10 t883.length co10, .slice A0_5 l0_5.length c0_5, .slice A0_6 l0_6.length c0_6] 32 (0, 0)) (by refine bp ?_; refine blk_put (cs := #[.string a0_0, .int .i64 a0_1, .int .i64 a0_2, .string a0_3, .slice A0_4 l0_4.length c0_4, .slice A0_5 l0_5.length c0_5, .slice A0_6 l0_6.length c0_6]) ?_ 4 _ rfl; refine bp ?_; exact BK881.out) hb); have n3_ := zq9 (zq30 (g := gb882) (o := .cells #[.string (⟨#[]⟩ : ByteArray), .int .i64 0, .int .i64 0, .string (⟨#[]⟩ : ByteArray), .slice none 0 0, .slice none 0 0, .slice none 0 0] 32 (0, 0)) (by refine bp ?_; refine blk_far ?_ NB882_881.out _; refine bp ?_; exact BK882.out) hb); have n4_ := zq9 (zq27 (by exact b2 HB GE881 GE882) hb); clear HO885; clear BK881; clear BK882; clear HB; have HO885 := n0_; have HO888 := n1_; have BK881 := n2_; have BK882 := n3_; have HB := n4_; clear n0_ n1_ n2_ n3_ n4_; (try clear hb); (try clear hb2); (try clear hk); (try clear hi); (try clear ho0); obtain ⟨Ao13, co13, eo13⟩ := Kd.R_slice HO888.out; subst eo13; have hcz14_0 : w12.cell? ⟨gb881, 0, none⟩ = some (.string a0_0) := bc BK881 0; have hcz14_1 : w12.cell? ⟨gb881, 1, none⟩ = some (.int .i64 a0_1) := bc BK881 1; have hcz14_2 : w12.cell? ⟨gb881, 2, none⟩ = some (.int .i64 a0_2) := bc BK881 2; have hcz14_3 : w12.cell? ⟨gb881, 3, none⟩ = some (.string a0_3) := bc BK881 3; have hcz14_4 : w12.cell? ⟨gb881, 4, none⟩ = some (.slice Ao10 t883.length co10) := bc BK881 4; have hcz14_5 : w12.cell? ⟨gb881, 5, none⟩ = some (.slice A0_5 l0_5.length c0_5) := bc BK881 5; have hcz14_6 : w12.cell? ⟨gb881, 6, none⟩ = some (.slice A0_6 l0_6.length c0_6) := bc BK881 6; have hfz14_0 := zq6 BK881.out 0; have hfz14_1 := zq6 BK881.out 1; have hfz14_2 := zq6 BK881.out 2; have hfz14_3 := zq6 BK881.out 3; have hfz14_4 := zq6 BK881.out 4; have hfz14_5 := zq6 BK881.out 5; have hfz14_6 := zq6 BK881.out 6) | ((with_reducible refine zq24 (f := 103) rfl ?_); refine gl (some 13) Try.func103 #[.slice A0_6 l0_6.length c0_6] ?_; (with_reducible refine (impl_copiedPairs.calls _ _ l0_6 t889 _ ?side1 ?side2 A4.out).mono ?_); (case side1 => exact zq31 HR0_6.out (by exact b2 HB GE881 GE882)); (case side2 => exact HC0_6.out); rintro e w15 ⟨v890, rfl, ho0, hb⟩; refine ⟨_, rfl, ?_⟩; have n0_ := zq9 (Kd.R_below (by (with_reducible repeat (first | apply zq10 | apply zq11 | apply zq12)); exact (Kd.R_mono (Kd.R_far (p := ⟨gb881, 5, none⟩) (Kd.R_types HO885.out BK881.out (by decide)) (fun _ hk => hk.2) (.slice Ao13 t886.length co13)) (fun _ h_ => h_.1))) hb); have n1_ := zq9 (Kd.R_below (by (with_reducible repeat (first | apply zq10 | apply zq11 | apply zq12)); exact (Kd.R_mono (Kd.R_far (p := ⟨gb881, 5, none⟩) (Kd.R_types HO888.out BK881.out (by decide)) (fun _ hk => hk.2) (.slice Ao13 t886.length co13)) (fun _ h_ => h_.1))) hb); have n2_ := zq9 (Kd.R_lower ho0 (zq29 (by exact b2 HB GE881 GE882))); have n3_ := zq9 (zq30 (g := gb881) (o := .cells #[.string a0_0, .int .i64 a0_1, .int .i64 a0_2, .string a0_3, .slice Ao10 t883.length co10, .slice Ao13 t886.length co13, .slice A0_6 l0_6.length c0_6] 32 (0, 0)) (by refine bp ?_; refine blk_put (cs := #[.string a0_0, .int .i64 a0_1, .int .i64 a0_2, .string a0_3, .slice Ao10 t883.length co10, .slice A0_5 l0_5.length c0_5, .slice A0_6 l0_6.length c0_6]) ?_ 5 _ rfl; refine bp ?_; exact BK881.out) hb); have n4_ := zq9 (zq30 (g := gb882) (o := .cells #[.string (⟨#[]⟩ : ByteArray), .int .i64 0, .int .i64 0, .string (⟨#[]⟩ : ByteArray), .slice none 0 0, .slice none 0 0, .slice none 0 0] 32 (0, 0)) (by refine bp ?_; refine blk_far ?_ NB882_881.out _; refine bp ?_; exact BK882.out) hb); have n5_ := zq9 (zq27 (by exact b2 HB GE881 GE882) hb); clear HO885; clear HO888; clear BK881; clear BK882; clear HB; have HO885 := n0_; have HO888 := n1_; have HO891 := n2_; have BK881 := n3_; have BK882 := n4_; have HB := n5_; clear n0_ n1_ n2_ n3_ n4_ n5_; (try clear hb); (try clear hb2); (try clear hk); (try clear hi); (try clear ho0); obtain ⟨Ao16, co16, eo16⟩ := Kd.R_slice HO891.out; subst eo16; have hcz17_0 : w15.cell? ⟨gb881, 0, none⟩ = some (.string a0_0) := bc BK881 0; have hcz17_1 : w15.cell? ⟨gb881, 1, none⟩ = some (.int .i64 a0_1) := bc BK881 1; have hcz17_2 : w15.cell? ⟨gb881, 2, none⟩ = some (.int .i64 a0_2) := bc BK881 2; have hcz17_3 : w15.cell? ⟨gb881, 3, none⟩ = some (.string a0_3) := bc BK881 3; have hcz17_4 : w15.cell? ⟨gb881, 4, none⟩ = some (.slice Ao10 t883.length co10) := bc BK881 4; have hcz17_5 : w15.cell? ⟨gb881, 5, none⟩ = some (.slice Ao13 t886.length co13) := bc BK881 5; have hcz17_6 : w15.cell? ⟨gb881, 6, none⟩ = some (.slice A0_6 l0_6.length c0_6) := bc BK881 6; have hfz17_0 := zq6 BK881.out 0; have hfz17_1 := zq6 BK881.out 1; have hfz17_2 := zq6 BK881.out 2; have hfz17_3 := zq6 BK881.out 3; have hfz17_4 := zq6 BK881.out 4; have hfz17_5 := zq6 BK881.out 5; have hfz17_6 := zq6 BK881.out 6; have hcz18_0 : w15.cell? ⟨gb882, 0, none⟩ = some (.string (⟨#[]⟩ : ByteArray)) := bc BK882 0; have hcz18_1 : w15.cell? ⟨gb882, 1, none⟩ = some (.int .i64 0) := bc BK882 1; have hcz18_2 : w15.cell? ⟨gb882, 2, none⟩ = some (.int .i64 0) := bc BK882 2; have hcz18_3 : w15.cell? ⟨gb882, 3, none⟩ = some (.string (⟨#[]⟩ : ByteArray)) := bc BK882 3; have hcz18_4 : w15.cell? ⟨gb882, 4, none⟩ = some (.slice none 0 0) := bc BK882 4; have hcz18_5 : w15.cell? ⟨gb882, 5, none⟩ = some (.slice none 0 0) := bc BK882 5; have hcz18_6 : w15.cell? ⟨gb882, 6, none⟩ = some (.slice none 0 0) := bc BK882 6; have hfz18_0 := zq6 BK882.out 0; have hfz18_1 := zq6 BK882.out 1; have hfz18_2 := zq6 BK882.out 2; have hfz18_3 := zq6 BK882.out 3; have hfz18_4 := zq6 BK882.out 4; have hfz18_5 := zq6 BK882.out 5; have hfz18_6 := zq6 BK882.out 6))
  refine bodyPost_ret (results_cell_row rfl _ _ gb882 32 #[.string a0_0, .int .i64 a0_1, .int .i64 a0_2, .string a0_3, .slice Ao10 t883.length co10, .slice Ao13 t886.length co13, .slice Ao16 t889.length co16] (0, 0) _ rfl (by refine bp ?_; refine blk_put (cs := #[.string a0_0, .int .i64 a0_1, .int .i64 a0_2, .string a0_3, .slice Ao10 t883.length co10, .slice Ao13 t886.length co13, .slice none 0 0]) ?_ 6 _ rfl; refine bp ?_; refine blk_put (cs := #[.string a0_0, .int .i64 a0_1, .int .i64 a0_2, .string a0_3, .slice Ao10 t883.length co10, .slice none 0 0, .slice none 0 0]) ?_ 5 _ rfl; refine bp ?_; refine blk_put (cs := #[.string a0_0, .int .i64 a0_1, .int .i64 a0_2, .string a0_3, .slice none 0 0, .slice none 0 0, .slice none 0 0]) ?_ 4 _ rfl; refine bp ?_; refine blk_put (cs := #[.string a0_0, .int .i64 a0_1, .int .i64 a0_2, .string (⟨#[]⟩ : ByteArray), .slice none 0 0, .slice none 0 0, .slice none 0 0]) ?_ 3 _ rfl; refine bp ?_; refine blk_put (cs := #[.string a0_0, .int .i64 a0_1, .int .i64 0, .string (⟨#[]⟩ : ByteArray), .slice none 0 0, .slice none 0 0, .slice none 0 0]) ?_ 2 _ rfl; refine bp ?_; refine blk_put (cs := #[.string a0_0, .int .i64 0, .int .i64 0, .string (⟨#[]⟩ : ByteArray), .slice none 0 0, .slice none 0 0, .slice none 0 0]) ?_ 1 _ rfl; refine bp ?_; refine blk_put (cs := #[.string (⟨#[]⟩ : ByteArray), .int .i64 0, .int .i64 0, .string (⟨#[]⟩ : ByteArray), .slice none 0 0, .slice none 0 0, .slice none 0 0]) ?_ 0 _ rfl; refine bp ?_; refine blk_far ?_ NB882_881.out _; refine bp ?_; exact BK882.out) Try.underlying32 rfl (by kernel_rfl)) rfl ?_
  exact ⟨_, _, _, by first | rfl | (simp [errW_none, errW_some] <;> rfl) | (simp [*, errW_none, errW_some] <;> rfl), by (with_reducible repeat (first | apply zq10 | apply zq11 | apply zq12)); exact Kd.R_mono (Kd.R_far (p := ⟨gb882, 6, none⟩) (Kd.R_far (p := ⟨gb882, 5, none⟩) (Kd.R_far (p := ⟨gb882, 4, none⟩) (Kd.R_far (p := ⟨gb882, 3, none⟩) (Kd.R_far (p := ⟨gb882, 2, none⟩) (Kd.R_far (p := ⟨gb882, 1, none⟩) (Kd.R_far (p := ⟨gb882, 0, none⟩) (Kd.R_far (p := ⟨gb881, 6, none⟩) (Kd.R_types (Kd.R_types HO885.out BK881.out (by decide)) BK882.out (by decide)) (fun _ hk => hk.1.2) (.slice Ao16 t889.length co16)) (fun _ hk => hk.2) (.string a0_0)) (fun _ hk => hk.2) (.int .i64 a0_1)) (fun _ hk => hk.2) (.int .i64 a0_2)) (fun _ hk => hk.2) (.string a0_3)) (fun _ hk => hk.2) (.slice Ao10 t883.length co10)) (fun _ hk => hk.2) (.slice Ao13 t886.length co13)) (fun _ hk => hk.2) (.slice Ao16 t889.length co16)) (fun _ hk => trivial), by (with_reducible repeat (first | apply zq10 | apply zq11 | apply zq12)); exact Kd.R_mono (Kd.R_far (p := ⟨gb882, 6, none⟩) (Kd.R_far (p := ⟨gb882, 5, none⟩) (Kd.R_far (p := ⟨gb882, 4, none⟩) (Kd.R_far (p := ⟨gb882, 3, none⟩) (Kd.R_far (p := ⟨gb882, 2, none⟩) (Kd.R_far (p := ⟨gb882, 1, none⟩) (Kd.R_far (p := ⟨gb882, 0, none⟩) (Kd.R_far (p := ⟨gb881, 6, none⟩) (Kd.R_types (Kd.R_types HO888.out BK881.out (by decide)) BK882.out (by decide)) (fun _ hk => hk.1.2) (.slice Ao16 t889.length co16)) (fun _ hk => hk.2) (.string a0_0)) (fun _ hk => hk.2) (.int .i64 a0_1)) (fun _ hk => hk.2) (.int .i64 a0_2)) (fun _ hk => hk.2) (.string a0_3)) (fun _ hk => hk.2) (.slice Ao10 t883.length co10)) (fun _ hk => hk.2) (.slice Ao13 t886.length co13)) (fun _ hk => hk.2) (.slice Ao16 t889.length co16)) (fun _ hk => trivial), by (with_reducible repeat (first | apply zq10 | apply zq11 | apply zq12)); exact Kd.R_mono (Kd.R_far (p := ⟨gb882, 6, none⟩) (Kd.R_far (p := ⟨gb882, 5, none⟩) (Kd.R_far (p := ⟨gb882, 4, none⟩) (Kd.R_far (p := ⟨gb882, 3, none⟩) (Kd.R_far (p := ⟨gb882, 2, none⟩) (Kd.R_far (p := ⟨gb882, 1, none⟩) (Kd.R_far (p := ⟨gb882, 0, none⟩) (Kd.R_far (p := ⟨gb881, 6, none⟩) (Kd.R_types (Kd.R_types HO891.out BK881.out (by decide)) BK882.out (by decide)) (fun _ hk => hk.1.2) (.slice Ao16 t889.length co16)) (fun _ hk => hk.2) (.string a0_0)) (fun _ hk => hk.2) (.int .i64 a0_1)) (fun _ hk => hk.2) (.int .i64 a0_2)) (fun _ hk => hk.2) (.string a0_3)) (fun _ hk => hk.2) (.slice Ao10 t883.length co10)) (fun _ hk => hk.2) (.slice Ao13 t886.length co13)) (fun _ hk => hk.2) (.slice Ao16 t889.length co16)) (fun _ hk => trivial), by exact b2 HB GE881 GE882⟩
def impl_cloneBase.T5 : Bool × List (List Nat × List Nat) := (true, [([], []), ([0], [0]), ([], []), ([2], [2]), ([3], [3]), ([1, 4, 3], [1, 4]), ([0, 1, 2, 3, 4, 5], []), ([6, 5, 5, 0, 1, 2, 3, 4, 5], [5, 6])])
def impl_cloneBase.B5 : List Nat := [0, 1, 0, 4, 12, 31, 63, 127]
theorem impl_cloneBase.tab5 : rtab .any (opsOf Try.f75 5) = impl_cloneBase.T5 := by kernel_rfl
theorem impl_cloneBase.bits5 : waitsOk impl_cloneBase.T5.2 impl_cloneBase.B5 = true := by kernel_rfl
set_option maxHeartbeats 8000000 in
set_option maxRecDepth 100000 in
theorem impl_cloneBase.calls (k : Nat) (a0_0 : Int) (A0_1 : Option Addr) (c0_1 : Nat) (l0_1 : List (S32)) (r1 : Int) (r2 : List (S32)) (w : World) (hr0_1 : Kd.C k32 w A0_1 l0_1.length l0_1) (hc0_1 : l0_1.length ≤ c0_1) (h : impl_cloneBase.f k a0_0 l0_1 = some (r1, r2)) :
  Calls Try.prog 75 #[.agg #[.int .i64 a0_0, .slice A0_1 l0_1.length c0_1]] w fun e w' => ∃ v1_ : Value, e = .returned (.agg #[.int .i64 r1, v1_]) ∧ Kd.S k32 32 w' w.heap.size (fun _ => True) v1_ r2 ∧ Below w.heap.size w w' := by
 have hu46 := Try.underlying46; have hu32 := Try.underlying32; have HR0_1 := zq9 hr0_1; have HC0_1 := zq9 hc0_1; clear hr0_1 hc0_1
 have HB := zq9 (Below.refl w.heap.size w)
 have H : (impl_cloneBase.l0 k l0_1 (l0_1.length : Int) 0 a0_0 (([] : List (S32)))) = some (r1, r2) := h
 clear h
 obtain ⟨y1065, hy1065⟩ : ∃ y_ : List (S32), y_ = (([] : List (S32))) := ⟨_, rfl⟩
 replace H : (impl_cloneBase.l0 k l0_1 (l0_1.length : Int) 0 a0_0 y1065) = some (r1, r2) := by first | (rw [hy1065]; with_reducible exact H) | (have H2_ := (Option.bind_some _ _).symm.trans H; rw [hy1065]; with_reducible exact H2_) | (have H2_ := (Option.bind_some _ _).symm.trans H; with_reducible exact H2_) | with_reducible exact H | (rw [hy1065]; exact H) | exact H
 have Ny1065 := zq9 hy1065; clear hy1065; have H' := zq9 H; clear H
 go_enter Try.func75, Try.ntmps75
 go_wp2_with (first | ((with_reducible refine zq25 (N := 1) rfl ?_); refine bx 1 #[.int .i64 a0_0, .slice A0_1 l0_1.length c0_1] 46 ?_; intro gb1063 hg w2 hbox hb; have n0_ := zq9 (zq27 (by exact bl HB) hb); have n1_ := zq9 (hbox); have n2_ := zq9 ((by rw [hg]; exact (zq29 (by exact bl HB)) : w.heap.size ≤ gb1063)); have n3_ := n2_; clear HB; have HB := n0_; have BK1063 := n1_; have GW1063 := n2_; have GE1063 := n3_; clear n0_ n1_ n2_ n3_; clear hb hbox hg) | ((with_reducible refine zq25 (N := 2) rfl ?_); refine bx 2 #[.int .i64 0, .slice none 0 0] 46 ?_; intro gb1064 hg w3 hbox hb; have n0_ := zq9 (zq30 (g := gb1063) (o := .cells #[.int .i64 a0_0, .slice A0_1 l0_1.length c0_1] 46 (0, 0)) (by exact bk BK1063) hb); have n1_ := zq9 (zq27 (by exact b1 HB GE1063) hb); have n2_ := zq9 (hbox); have n3_ := zq9 ((by rw [hg]; exact (zq29 (by exact b1 HB GE1063)) : w.heap.size ≤ gb1064)); have n4_ := n3_; have n5_ := zq9 ((by rw [hg]; exact Nat.ne_of_lt (blk_lt (g := gb1063) (o := .cells #[.int .i64 a0_0, .slice A0_1 l0_1.length c0_1] 46 (0, 0)) (by exact bk BK1063)) : gb1063 ≠ gb1064)); have n6_ := zq9 ((by rw [hg]; exact Nat.ne_of_gt (blk_lt (g := gb1063) (o := .cells #[.int .i64 a0_0, .slice A0_1 l0_1.length c0_1] 46 (0, 0)) (by exact bk BK1063)) : gb1064 ≠ gb1063)); clear BK1063; clear HB; have BK1063 := n0_; have HB := n1_; have BK1064 := n2_; have GW1064 := n3_; have GE1064 := n4_; have NB1063_1064 := n5_; have NB1064_1063 := n6_; clear n0_ n1_ n2_ n3_ n4_ n5_ n6_; clear hb hbox hg; have hnb4 := NB1063_1064.out; have hnc4 := NB1064_1063.out; have hcz5_0 : w3.cell? ⟨gb1063, 0, none⟩ = some (.int .i64 a0_0) := bc BK1063 0; have hcz5_1 : w3.cell? ⟨gb1063, 1, none⟩ = some (.slice A0_1 l0_1.length c0_1) := bc BK1063 1; have hfz5_0 := zq6 BK1063.out 0; have hfz5_1 := zq6 BK1063.out 1) | ((with_reducible refine zq25 (N := 8) rfl ?_); refine Kd.S_lit k32 _ 32 ?hg (N := 8) ?hd (xs := ([] : List (S32))) (inner := []) (ok := fun _ => True) (okp := fun _ => True) ?hr ?hp (fun _ hk => hk) trivial (Below.refl _ _) (Nat.le_refl _) (by simp) ?_; (case hd => rfl); (case hg => rfl); (case hr => first | (go_simp; done) | (go_simp; rfl)); (case hp => exact (Reps.none _ _)); intro v1066 w6 ho7 hb hg_ hnew_; clear hg_ hnew_; (first | rw [← Ny1065.out] at ho7 | (simp only [Int.reduceToNat] at ho7; rw [← Ny1065.out] at ho7)); have n0_ := zq9 (Kd.S_lower ho7 (zq29 (by exact b2 HB GE1063 GE1064))); have n1_ := zq9 (zq30 (g := gb1063) (o := .cells #[.int .i64 a0_0, .slice A0_1 l0_1.length c0_1] 46 (0, 0)) (by exact bk BK1063) hb); have n2_ := zq9 (zq30 (g := gb1064) (o := .cells #[.int .i64 0, .slice none 0 0] 46 (0, 0)) (by exact bk BK1064) hb); have n3_ := zq9 (zq27 (by exact b2 HB GE1063 GE1064) hb); clear BK1063; clear BK1064; clear HB; have HO1067 := n0_; have BK1063 := n1_; have BK1064 := n2_; have HB := n3_; clear n0_ n1_ n2_ n3_; clear hb ho7; obtain ⟨Ao8, co8, eo8⟩ := Kd.S_slice HO1067.out; subst eo8) | ((with_reducible refine zq25 (N := 3) rfl ?_); refine bx 3 #[.int .i64 0, .slice none 0 0] 46 ?_; intro gb1068 hg w9 hbox hb; have n0_ := zq9 (Kd.S_below (by (with_reducible repeat (first | apply Kd.S_alloc | apply Kd.S_drewN | apply Kd.S_drew)); exact HO1067.out) hb); have n1_ := zq9 (zq30 (g := gb1063) (o := .cells #[.int .i64 a0_0, .slice A0_1 l0_1.length c0_1] 46 (0, 0)) (by exact bk BK1063) hb); have n2_ := zq9 (zq30 (g := gb1064) (o := .cells #[.int .i64 0, .slice none 0 0] 46 (0, 0)) (by exact bk BK1064) hb); have n3_ := zq9 (zq27 (by exact b2 HB GE1063 GE1064) hb); have n4_ := zq9 (hbox); have n5_ := zq9 ((by rw [hg]; exact (zq29 (by exact b2 HB GE1063 GE1064)) : w.heap.size ≤ gb1068)); have n6_ := n5_; have n7_ := zq9 ((by rw [hg]; exact Nat.ne_of_lt (blk_lt (g := gb1063) (o := .cells #[.int .i64 a0_0, .slice A0_1 l0_1.length c0_1] 46 (0, 0)) (by exact bk BK1063)) : gb1063 ≠ gb1068)); have n8_ := zq9 ((by rw [hg]; exact Nat.ne_of_gt (blk_lt (g := gb1063) (o := .cells #[.int .i64 a0_0, .slice A0_1 l0_1.length c0_1] 46 (0, 0)) (by exact bk BK1063)) : gb1068 ≠ gb1063)); have n9_ := zq9 ((by rw [hg]; exact Nat.ne_of_lt (blk_lt (g := gb1064) (o := .cells #[.int .i64 0, .slice none 0 0] 46 (0, 0)) (by exact bk BK1064)) : gb1064 ≠ gb1068)); have n10_ := zq9 ((by rw [hg]; exact Nat.ne_of_gt (blk_lt (g := gb1064) (o := .cells #[.int .i64 0, .slice none 0 0] 46 (0, 0)) (by exact bk BK1064)) : gb1068 ≠ gb1064)); clear HO1067; clear BK1063; clear BK1064; clear HB; have HO1067 := n0_; have BK1063 := n1_; have BK1064 := n2_; have HB := n3_; have BK1068 := n4_; have GW1068 := n5_; have GE1068 := n6_; have NB1063_1068 := n7_; have NB1068_1063 := n8_; have NB1064_1068 := n9_; have NB1068_1064 := n10_; clear n0_ n1_ n2_ n3_ n4_ n5_ n6_ n7_ n8_ n9_ n10_; clear hb hbox hg; have hnb10 := NB1068_1063.out; have hnc10 := NB1063_1068.out; have hnb11 := NB1068_1064.out; have hnc11 := NB1064_1068.out; have hcz12_0 : w9.cell? ⟨gb1068, 0, none⟩ = some (.int .i64 0) := bc BK1068 0; have hcz12_1 : w9.cell? ⟨gb1068, 1, none⟩ = some (.slice none 0 0) := bc BK1068 1; have hfz12_0 := zq6 BK1068.out 0; have hfz12_1 := zq6 BK1068.out 1; have hcz13_0 : w9.cell? ⟨gb1063, 0, none⟩ = some (.int .i64 a0_0) := bc BK1063 0; have hcz13_1 : w9.cell? ⟨gb1063, 1, none⟩ = some (.slice A0_1 l0_1.length c0_1) := bc BK1063 1; have hfz13_0 := zq6 BK1063.out 0; have hfz13_1 := zq6 BK1063.out 1))
 go_loopg [13] k (fun kq v13 w' => ∃ (x13_1 : Int) (x1069001_1 : List (S32)) (u1069001 : Value), v13 = .int .i64 x13_1 ∧ Aside0 (impl_cloneBase.l0 kq l0_1 (l0_1.length : Int) x13_1 a0_0 x1069001_1 = some (r1, r2)) ∧ Aside0 (kq ≤ k) ∧ Aside0 (Kd.S k32 32 w' w.heap.size (fun _ => True) u1069001 x1069001_1) ∧ Aside0 (w'.heap[gb1063]? = some (.cells #[.int .i64 a0_0, (.slice A0_1 l0_1.length c0_1)] 46 (0, 0))) ∧ Aside0 (w'.heap[gb1064]? = some (.cells #[.int .i64 0, (.slice none 0 0)] 46 (0, 0))) ∧ Aside0 (w'.heap[gb1068]? = some (.cells #[.int .i64 a0_0, u1069001] 46 (0, 0))) ∧ Aside0 (Below w.heap.size w w'))
 case atStart => exact ⟨(0), (y1065), (.slice Ao8 y1065.length co8), (by first | rfl | (simp; done) | (simp [*]; done)), H', ⟨Nat.le_refl _⟩, ⟨by (with_reducible repeat (first | apply Kd.S_alloc | apply Kd.S_drewN | apply Kd.S_drew)); exact Kd.S_mono (Kd.S_far (p := ⟨gb1068, 1, none⟩) (Kd.S_far (p := ⟨gb1068, 0, none⟩) (Kd.S_types HO1067.out BK1068.out (by decide)) (fun _ hk => hk.2) (.int .i64 a0_0)) (fun _ hk => hk.2) (.slice Ao8 y1065.length co8)) (fun _ hk => trivial)⟩, ⟨by refine bp ?_; refine blk_far ?_ NB1063_1068.out _; refine bp ?_; refine blk_far ?_ NB1063_1068.out _; refine bp ?_; exact BK1063.out⟩, ⟨by refine bp ?_; refine blk_far ?_ NB1064_1068.out _; refine bp ?_; refine blk_far ?_ NB1064_1068.out _; refine bp ?_; exact BK1064.out⟩, ⟨(blk_set (blk_set BK1068.out 0 _) 1 _)⟩, ⟨by exact b3 HB GE1063 GE1064 GE1068⟩⟩
 case round =>
  clear H'
  try clear c1
  try clear p2
  try clear c4
  try clear c7
  try clear c10
  try clear c11
  try clear hcz12_0
  try clear hcz12_1
  try clear hcz13_0
  try clear hcz13_1
  try clear hcz5_0
  try clear hcz5_1
  try clear hfz12_0
  try clear hfz12_1
  try clear hfz13_0
  try clear hfz13_1
  try clear hfz5_0
  try clear hfz5_1
  obtain ⟨x13_1, x1069001_1, u1069001, rfl, HA, HK1, HO_1069001, BK1063, BK1064, BK1068, HB⟩ := hrel
  cases gk with
  | zero => exact absurd HA.out (by simp [impl_cloneBase.l0])
  | succ k1 =>
   have H := HA.out; clear HA
   simp only [impl_cloneBase.l0] at H
   by_cases c14 : x13_1 < (l0_1.length : Int)
   ·rw [if_pos c14] at H; have c14b0 : decide (x13_1 < (l0_1.length : Int)) = true := decide_eq_true c14; clear c14
    by_cases c15 : 0 ≤ x13_1
    ·rw [if_pos c15] at H; have c15b0 : decide (0 ≤ x13_1) = true := decide_eq_true c15; clear c15
     by_cases c16 : x13_1 < (l0_1.length : Int)
     ·rw [if_pos c16] at H; have c16b0 : decide (x13_1 < (l0_1.length : Int)) = true := decide_eq_true c16; clear c16; replace H := Option.bind_eq_some_iff.mp H
      obtain ⟨⟨t1071, t1072, t1073, t1074, t1075, t1078, t1081⟩, A170, H⟩ := H
      try dsimp only at H
      have A17 := zq9 A170; clear A170
      by_cases c18 : x1069001_1.length < 1172812402961
      ·rw [if_pos c18] at H; have LMc18 := zq9 c18; clear c18
       obtain ⟨y1084, hy1084⟩ : ∃ y_ : List (S32), y_ = (x1069001_1 ++ [(⟨t1071, t1072, t1073, t1074, t1075, t1078, t1081⟩ : S32)]) := ⟨_, rfl⟩
       replace H : (impl_cloneBase.l0 k1 l0_1 (l0_1.length : Int) (wrap64 (x13_1 + 1)) a0_0 y1084) = some (r1, r2) := by first | (rw [hy1084]; with_reducible exact H) | (have H2_ := (Option.bind_some _ _).symm.trans H; rw [hy1084]; with_reducible exact H2_) | (have H2_ := (Option.bind_some _ _).symm.trans H; with_reducible exact H2_) | with_reducible exact H | (rw [hy1084]; exact H) | exact H
       have Ny1084 := zq9 hy1084; clear hy1084; have H' := zq9 H; clear H
       have p1069 : 0 ≤ (x13_1 : Int) := of_decide_eq_true ‹_›
       have q1069 : x13_1 < (l0_1.length : Int) := of_decide_eq_true ‹_›
       obtain ⟨ad1069, A1069_4, c1069_4, A1069_5, c1069_5, A1069_6, c1069_6, e1069, hx1069_0, hx1069_1, hx1069_2, hx1069_3, hx1069_4, hx1069_5, hx1069_6, hl1069_4, hi1069_4, hl1069_5, hi1069_5, hl1069_6, hi1069_6⟩ := at_T32 HR0_1.out x13_1 p1069 q1069
       cases e1069; replace hx1069_0 := hcl HB hx1069_0; replace hx1069_1 := hcl HB hx1069_1; replace hx1069_2 := hcl HB hx1069_2; replace hx1069_3 := hcl HB hx1069_3; replace hx1069_4 := hcl HB hx1069_4; replace hx1069_5 := hcl HB hx1069_5; replace hx1069_6 := hcl HB hx1069_6; have HR1069_4 := zq9 hi1069_4; have HC1069_4 := zq9 hl1069_4; clear hi1069_4 hl1069_4; have HR1069_5 := zq9 hi1069_5; have HC1069_5 := zq9 hl1069_5
       clear hi1069_5 hl1069_5; have HR1069_6 := zq9 hi1069_6; have HC1069_6 := zq9 hl1069_6; clear hi1069_6 hl1069_6; replace p1069 := eq_true p1069; replace q1069 := eq_true q1069
       try go_wp2_with (first | ((with_reducible refine zq25 (N := 5) rfl ?_); refine bx 5 #[.string (⟨#[]⟩ : ByteArray), .int .i64 0, .int .i64 0, .string (⟨#[]⟩ : ByteArray), .slice none 0 0, .slice none 0 0, .slice none 0 0] 32 ?_; intro gb1070 hg w19 hbox hb; have n0_ := zq9 (Kd.S_below (Kd.S_elderB (by (with_reducible repeat (first | apply Kd.S_alloc | apply Kd.S_drewN | apply Kd.S_drew)); exact HO_1069001.out) gb1070 (Nat.le_of_eq hg.symm)) hb); have n1_ := zq9 (zq30 (g := gb1063) (o := .cells #[.int .i64 a0_0, .slice (some ad1069) l0_1.length c0_1] 46 (0, 0)) (by exact bk BK1063) hb); have n2_ := zq9 (zq30 (g := gb1064) (o := .cells #[.int .i64 0, .slice none 0 0] 46 (0, 0)) (by exact bk BK1064) hb); have n3_ := zq9 (zq30 (g := gb1068) (o := .cells #[.int .i64 a0_0, u1069001] 46 (0, 0)) (by exact bk BK1068) hb); have n4_ := zq9 (zq27 (by exact b3 HB GE1063 GE1064 GE1068) hb); have n5_ := zq9 (hbox); have n6_ := zq9 ((by rw [hg]; exact (zq29 (by exact b3 HB GE1063 GE1064 GE1068)) : w.heap.size ≤ gb1070)); have n7_ := n6_; have n8_ := zq9 ((by rw [hg]; exact Nat.ne_of_lt (blk_lt (g := gb1063) (o := .cells #[.int .i64 a0_0, .slice (some ad1069) l0_1.length c0_1] 46 (0, 0)) (by exact bk BK1063)) : gb1063 ≠ gb1070)); have n9_ := zq9 ((by rw [hg]; exact Nat.ne_of_gt (blk_lt (g := gb1063) (o := .cells #[.int .i64 a0_0, .slice (some ad1069) l0_1.length c0_1] 46 (0, 0)) (by exact bk BK1063)) : gb1070 ≠ gb1063)); have n10_ := zq9 ((by rw [hg]; exact Nat.ne_of_lt (blk_lt (g := gb1064) (o := .cells #[.int .i64 0, .slice none 0 0] 46 (0, 0)) (by exact bk BK1064)) : gb1064 ≠ gb1070)); have n11_ := zq9 ((by rw [hg]; exact Nat.ne_of_gt (blk_lt (g := gb1064) (o := .cells #[.int .i64 0, .slice none 0 0] 46 (0, 0)) (by exact bk BK1064)) : gb1070 ≠ gb1064)); have n12_ := zq9 ((by rw [hg]; exact Nat.ne_of_lt (blk_lt (g := gb1068) (o := .cells #[.int .i64 a0_0, u1069001] 46 (0, 0)) (by exact bk BK1068)) : gb1068 ≠ gb1070)); have n13_ := zq9 ((by rw [hg]; exact Nat.ne_of_gt (blk_lt (g := gb1068) (o := .cells #[.int .i64 a0_0, u1069001] 46 (0, 0)) (by exact bk BK1068)) : gb1070 ≠ gb1068)); clear HO_1069001; clear BK1063; clear BK1064; clear BK1068; clear HB; have HO_1069001 := n0_; have BK1063 := n1_; have BK1064 := n2_; have BK1068 := n3_; have HB := n4_; have BK1070 := n5_; have GW1070 := n6_; have GE1070 := n7_; have NB1063_1070 := n8_; have NB1070_1063 := n9_; have NB1064_1070 := n10_; have NB1070_1064 := n11_; have NB1068_1070 := n12_; have NB1070_1068 := n13_; clear n0_ n1_ n2_ n3_ n4_ n5_ n6_ n7_ n8_ n9_ n10_ n11_ n12_ n13_; clear hb hbox hg; have hnb20 := NB1070_1063.out; have hnc20 := NB1063_1070.out; have hnb21 := NB1070_1064.out; have hnc21 := NB1064_1070.out; have hnb22 := NB1070_1068.out; have hnc22 := NB1068_1070.out; have hcz23_0 : w19.cell? ⟨gb1070, 0, none⟩ = some (.string (⟨#[]⟩ : ByteArray)) := bc BK1070 0; have hcz23_1 : w19.cell? ⟨gb1070, 1, none⟩ = some (.int .i64 0) := bc BK1070 1; have hcz23_2 : w19.cell? ⟨gb1070, 2, none⟩ = some (.int .i64 0) := bc BK1070 2; have hcz23_3 : w19.cell? ⟨gb1070, 3, none⟩ = some (.string (⟨#[]⟩ : ByteArray)) := bc BK1070 3; have hcz23_4 : w19.cell? ⟨gb1070, 4, none⟩ = some (.slice none 0 0) := bc BK1070 4; have hcz23_5 : w19.cell? ⟨gb1070, 5, none⟩ = some (.slice none 0 0) := bc BK1070 5; have hcz23_6 : w19.cell? ⟨gb1070, 6, none⟩ = some (.slice none 0 0) := bc BK1070 6; have hfz23_0 := zq6 BK1070.out 0; have hfz23_1 := zq6 BK1070.out 1; have hfz23_2 := zq6 BK1070.out 2; have hfz23_3 := zq6 BK1070.out 3; have hfz23_4 := zq6 BK1070.out 4; have hfz23_5 := zq6 BK1070.out 5; have hfz23_6 := zq6 BK1070.out 6))
       have n0_ : Aside0 (Kd.S k32 32 (((((((w19.setCell ⟨gb1070, 0, none⟩ (.string ((rd_T32 l0_1 x13_1).f0))).setCell ⟨gb1070, 1, none⟩ (.int .i64 ((rd_T32 l0_1 x13_1).f1))).setCell ⟨gb1070, 2, none⟩ (.int .i64 ((rd_T32 l0_1 x13_1).f2))).setCell ⟨gb1070, 3, none⟩ (.string ((rd_T32 l0_1 x13_1).f3))).setCell ⟨gb1070, 4, none⟩ (.slice A1069_4 ((rd_T32 l0_1 x13_1).f4).length c1069_4)).setCell ⟨gb1070, 5, none⟩ (.slice A1069_5 ((rd_T32 l0_1 x13_1).f5).length c1069_5)).setCell ⟨gb1070, 6, none⟩ (.slice A1069_6 ((rd_T32 l0_1 x13_1).f6).length c1069_6)) w.heap.size (fun k_ => k_ ≠ gb1070) u1069001 x1069001_1) := ⟨by (with_reducible repeat (first | apply Kd.S_alloc | apply Kd.S_drewN | apply Kd.S_drew)); exact Kd.S_mono (Kd.S_far (p := ⟨gb1070, 6, none⟩) (Kd.S_far (p := ⟨gb1070, 5, none⟩) (Kd.S_far (p := ⟨gb1070, 4, none⟩) (Kd.S_far (p := ⟨gb1070, 3, none⟩) (Kd.S_far (p := ⟨gb1070, 2, none⟩) (Kd.S_far (p := ⟨gb1070, 1, none⟩) (Kd.S_far (p := ⟨gb1070, 0, none⟩) (Kd.S_mono HO_1069001.out (fun k_ hk => (⟨hk, by first | exact hk.2 | exact hk | exact hk.1⟩ : _ ∧ k_ ≠ gb1070))) (fun _ hk => hk.2) (.string ((rd_T32 l0_1 x13_1).f0))) (fun _ hk => hk.2) (.int .i64 ((rd_T32 l0_1 x13_1).f1))) (fun _ hk => hk.2) (.int .i64 ((rd_T32 l0_1 x13_1).f2))) (fun _ hk => hk.2) (.string ((rd_T32 l0_1 x13_1).f3))) (fun _ hk => hk.2) (.slice A1069_4 ((rd_T32 l0_1 x13_1).f4).length c1069_4)) (fun _ hk => hk.2) (.slice A1069_5 ((rd_T32 l0_1 x13_1).f5).length c1069_5)) (fun _ hk => hk.2) (.slice A1069_6 ((rd_T32 l0_1 x13_1).f6).length c1069_6)) (fun _ hk => hk.1.2)⟩
       have n1_ : Aside0 ((((((((w19.setCell ⟨gb1070, 0, none⟩ (.string ((rd_T32 l0_1 x13_1).f0))).setCell ⟨gb1070, 1, none⟩ (.int .i64 ((rd_T32 l0_1 x13_1).f1))).setCell ⟨gb1070, 2, none⟩ (.int .i64 ((rd_T32 l0_1 x13_1).f2))).setCell ⟨gb1070, 3, none⟩ (.string ((rd_T32 l0_1 x13_1).f3))).setCell ⟨gb1070, 4, none⟩ (.slice A1069_4 ((rd_T32 l0_1 x13_1).f4).length c1069_4)).setCell ⟨gb1070, 5, none⟩ (.slice A1069_5 ((rd_T32 l0_1 x13_1).f5).length c1069_5)).setCell ⟨gb1070, 6, none⟩ (.slice A1069_6 ((rd_T32 l0_1 x13_1).f6).length c1069_6)).heap[gb1063]? = some (.cells #[.int .i64 a0_0, .slice (some ad1069) l0_1.length c0_1] 46 (0, 0))) := ⟨by refine bp ?_; refine blk_far ?_ NB1063_1070.out _; refine bp ?_; refine blk_far ?_ NB1063_1070.out _; refine bp ?_; refine blk_far ?_ NB1063_1070.out _; refine bp ?_; refine blk_far ?_ NB1063_1070.out _; refine bp ?_; refine blk_far ?_ NB1063_1070.out _; refine bp ?_; refine blk_far ?_ NB1063_1070.out _; refine bp ?_; refine blk_far ?_ NB1063_1070.out _; refine bp ?_; exact BK1063.out⟩
       have n2_ : Aside0 ((((((((w19.setCell ⟨gb1070, 0, none⟩ (.string ((rd_T32 l0_1 x13_1).f0))).setCell ⟨gb1070, 1, none⟩ (.int .i64 ((rd_T32 l0_1 x13_1).f1))).setCell ⟨gb1070, 2, none⟩ (.int .i64 ((rd_T32 l0_1 x13_1).f2))).setCell ⟨gb1070, 3, none⟩ (.string ((rd_T32 l0_1 x13_1).f3))).setCell ⟨gb1070, 4, none⟩ (.slice A1069_4 ((rd_T32 l0_1 x13_1).f4).length c1069_4)).setCell ⟨gb1070, 5, none⟩ (.slice A1069_5 ((rd_T32 l0_1 x13_1).f5).length c1069_5)).setCell ⟨gb1070, 6, none⟩ (.slice A1069_6 ((rd_T32 l0_1 x13_1).f6).length c1069_6)).heap[gb1064]? = some (.cells #[.int .i64 0, .slice none 0 0] 46 (0, 0))) := ⟨by refine bp ?_; refine blk_far ?_ NB1064_1070.out _; refine bp ?_; refine blk_far ?_ NB1064_1070.out _; refine bp ?_; refine blk_far ?_ NB1064_1070.out _; refine bp ?_; refine blk_far ?_ NB1064_1070.out _; refine bp ?_; refine blk_far ?_ NB1064_1070.out _; refine bp ?_; refine blk_far ?_ NB1064_1070.out _; refine bp ?_; refine blk_far ?_ NB1064_1070.out _; refine bp ?_; exact BK1064.out⟩
       have n3_ : Aside0 ((((((((w19.setCell ⟨gb1070, 0, none⟩ (.string ((rd_T32 l0_1 x13_1).f0))).setCell ⟨gb1070, 1, none⟩ (.int .i64 ((rd_T32 l0_1 x13_1).f1))).setCell ⟨gb1070, 2, none⟩ (.int .i64 ((rd_T32 l0_1 x13_1).f2))).setCell ⟨gb1070, 3, none⟩ (.string ((rd_T32 l0_1 x13_1).f3))).setCell ⟨gb1070, 4, none⟩ (.slice A1069_4 ((rd_T32 l0_1 x13_1).f4).length c1069_4)).setCell ⟨gb1070, 5, none⟩ (.slice A1069_5 ((rd_T32 l0_1 x13_1).f5).length c1069_5)).setCell ⟨gb1070, 6, none⟩ (.slice A1069_6 ((rd_T32 l0_1 x13_1).f6).length c1069_6)).heap[gb1068]? = some (.cells #[.int .i64 a0_0, u1069001] 46 (0, 0))) := ⟨by refine bp ?_; refine blk_far ?_ NB1068_1070.out _; refine bp ?_; refine blk_far ?_ NB1068_1070.out _; refine bp ?_; refine blk_far ?_ NB1068_1070.out _; refine bp ?_; refine blk_far ?_ NB1068_1070.out _; refine bp ?_; refine blk_far ?_ NB1068_1070.out _; refine bp ?_; refine blk_far ?_ NB1068_1070.out _; refine bp ?_; refine blk_far ?_ NB1068_1070.out _; refine bp ?_; exact BK1068.out⟩
       have n4_ : Aside0 ((((((((w19.setCell ⟨gb1070, 0, none⟩ (.string ((rd_T32 l0_1 x13_1).f0))).setCell ⟨gb1070, 1, none⟩ (.int .i64 ((rd_T32 l0_1 x13_1).f1))).setCell ⟨gb1070, 2, none⟩ (.int .i64 ((rd_T32 l0_1 x13_1).f2))).setCell ⟨gb1070, 3, none⟩ (.string ((rd_T32 l0_1 x13_1).f3))).setCell ⟨gb1070, 4, none⟩ (.slice A1069_4 ((rd_T32 l0_1 x13_1).f4).length c1069_4)).setCell ⟨gb1070, 5, none⟩ (.slice A1069_5 ((rd_T32 l0_1 x13_1).f5).length c1069_5)).setCell ⟨gb1070, 6, none⟩ (.slice A1069_6 ((rd_T32 l0_1 x13_1).f6).length c1069_6)).heap[gb1070]? = some (.cells #[.string ((rd_T32 l0_1 x13_1).f0), .int .i64 ((rd_T32 l0_1 x13_1).f1), .int .i64 ((rd_T32 l0_1 x13_1).f2), .string ((rd_T32 l0_1 x13_1).f3), .slice A1069_4 ((rd_T32 l0_1 x13_1).f4).length c1069_4, .slice A1069_5 ((rd_T32 l0_1 x13_1).f5).length c1069_5, .slice A1069_6 ((rd_T32 l0_1 x13_1).f6).length c1069_6] 32 (0, 0))) := ⟨(blk_set (blk_set (blk_set (blk_set (blk_set (blk_set (blk_set BK1070.out 0 _) 1 _) 2 _) 3 _) 4 _) 5 _) 6 _)⟩
       have n5_ : Aside0 (Below w.heap.size w (((((((w19.setCell ⟨gb1070, 0, none⟩ (.string ((rd_T32 l0_1 x13_1).f0))).setCell ⟨gb1070, 1, none⟩ (.int .i64 ((rd_T32 l0_1 x13_1).f1))).setCell ⟨gb1070, 2, none⟩ (.int .i64 ((rd_T32 l0_1 x13_1).f2))).setCell ⟨gb1070, 3, none⟩ (.string ((rd_T32 l0_1 x13_1).f3))).setCell ⟨gb1070, 4, none⟩ (.slice A1069_4 ((rd_T32 l0_1 x13_1).f4).length c1069_4)).setCell ⟨gb1070, 5, none⟩ (.slice A1069_5 ((rd_T32 l0_1 x13_1).f5).length c1069_5)).setCell ⟨gb1070, 6, none⟩ (.slice A1069_6 ((rd_T32 l0_1 x13_1).f6).length c1069_6))) := ⟨by exact b4 HB GE1063 GE1064 GE1068 GE1070⟩
       (try clear HO_1069001)
       (try clear BK1063)
       (try clear BK1064)
       (try clear BK1068)
       (try clear BK1070)
       (try clear HB)
       generalize (((((((w19.setCell ⟨gb1070, 0, none⟩ (.string ((rd_T32 l0_1 x13_1).f0))).setCell ⟨gb1070, 1, none⟩ (.int .i64 ((rd_T32 l0_1 x13_1).f1))).setCell ⟨gb1070, 2, none⟩ (.int .i64 ((rd_T32 l0_1 x13_1).f2))).setCell ⟨gb1070, 3, none⟩ (.string ((rd_T32 l0_1 x13_1).f3))).setCell ⟨gb1070, 4, none⟩ (.slice A1069_4 ((rd_T32 l0_1 x13_1).f4).length c1069_4)).setCell ⟨gb1070, 5, none⟩ (.slice A1069_5 ((rd_T32 l0_1 x13_1).f5).length c1069_5)).setCell ⟨gb1070, 6, none⟩ (.slice A1069_6 ((rd_T32 l0_1 x13_1).f6).length c1069_6)) = w24 at n0_ n1_ n2_ n3_ n4_ n5_ ⊢
       have HO_1069001 := n0_; have BK1063 := n1_; have BK1064 := n2_; have BK1068 := n3_; have BK1070 := n4_; have HB := n5_; clear n0_ n1_ n2_ n3_ n4_ n5_
       have n0_ := zq9 (Kd.S_drew HO_1069001.out)
       have n1_ := zq9 (blk_drew BK1063.out)
       have n2_ := zq9 (blk_drew BK1064.out)
       have n3_ := zq9 (blk_drew BK1068.out)
       have n4_ := zq9 (blk_drew BK1070.out)
       have n5_ := zq9 (zq4 HB.out)
       clear HO_1069001; clear BK1063; clear BK1064; clear BK1068; clear BK1070; clear HB; have HO_1069001 := n0_; have BK1063 := n1_; have BK1064 := n2_; have BK1068 := n3_; have BK1070 := n4_; have HB := n5_; clear n0_ n1_ n2_ n3_ n4_ n5_
       refine start_ (n := 8) (S := fun w' => w'.cell? ⟨gb1068, 0, none⟩ = some (.int .i64 a0_0) ∧ w'.cell? ⟨gb1068, 1, none⟩ = some (u1069001) ∧ w'.cell? ⟨gb1070, 0, none⟩ = some (.string ((rd_T32 l0_1 x13_1).f0)) ∧ w'.cell? ⟨gb1070, 1, none⟩ = some (.int .i64 ((rd_T32 l0_1 x13_1).f1)) ∧ w'.cell? ⟨gb1070, 2, none⟩ = some (.int .i64 ((rd_T32 l0_1 x13_1).f2)) ∧ w'.cell? ⟨gb1070, 3, none⟩ = some (.string ((rd_T32 l0_1 x13_1).f3)) ∧ w'.cell? ⟨gb1070, 4, none⟩ = some (.slice A1069_4 ((rd_T32 l0_1 x13_1).f4).length c1069_4) ∧ w'.cell? ⟨gb1070, 5, none⟩ = some (.slice A1069_5 ((rd_T32 l0_1 x13_1).f5).length c1069_5) ∧ w'.cell? ⟨gb1070, 6, none⟩ = some (.slice A1069_6 ((rd_T32 l0_1 x13_1).f6).length c1069_6)) (ds := [7]) #[false, false, false, false, false, false, false, false] (by kernel_rfl) rfl rfl ⟨bc BK1068 0, bc BK1068 1, bc BK1070 0, bc BK1070 1, bc BK1070 2, bc BK1070 3, bc BK1070 4, bc BK1070 5, bc BK1070 6⟩ (fun hHeld => ?_); refine with_tabW impl_cloneBase.tab5 impl_cloneBase.bits5 (fun HT_ HW_ => ?_)
       generalize w24.drew = w25 at HO_1069001 BK1063 BK1064 BK1068 BK1070 HB hHeld ⊢
       refine pa HT_ 0 17 (zb 8 1) ?_
       refine take_ (i := 1) (N := some 18) (v := ?_) (a' := ?_) (zb 8 3) rfl rfl (take_ofW HT_.out HW_.out (by kernel_rfl)) (fun _ _ _ h => h) (Or.inl ⟨by rfl, ?_⟩) hHeld ?_ ?_
       rotate_left; ·rintro w' ⟨s0, s1, s2, s3, s4, s5, s6, s7, s8⟩; go_simp; with_reducible rfl
       rotate_left; ·simp only [Act.put, zq0, zq1, zq2, i64_w, i32_w]; rfl
       refine take_ (i := 2) (N := some 19) (v := ?_) (a' := ?_) (zb 8 7) rfl rfl (take_ofW HT_.out HW_.out (by kernel_rfl)) (fun _ _ _ h => h) (Or.inl ⟨by rfl, ?_⟩) hHeld ?_ ?_
       rotate_left; ·rintro w' ⟨s0, s1, s2, s3, s4, s5, s6, s7, s8⟩; go_simp; with_reducible rfl
       rotate_left; ·simp only [Act.put, zq0, zq1, zq2, i64_w, i32_w]; rfl
       refine one_ (i := 3) (N := some 20) (zb 8 15) rfl rfl (one_of HT_.out (by kernel_rfl)) (by decide) (fun K hK => ?_)
       refine gs Try.func68 #[.agg #[.string ((rd_T32 l0_1 x13_1).f0), .int .i64 ((rd_T32 l0_1 x13_1).f1), .int .i64 ((rd_T32 l0_1 x13_1).f2), .string ((rd_T32 l0_1 x13_1).f3), .slice A1069_4 ((rd_T32 l0_1 x13_1).f4).length c1069_4, .slice A1069_5 ((rd_T32 l0_1 x13_1).f5).length c1069_5, .slice A1069_6 ((rd_T32 l0_1 x13_1).f6).length c1069_6]] ?_
       with_reducible refine (impl_cloneEntry.calls ((rd_T32 l0_1 x13_1).f0) ((rd_T32 l0_1 x13_1).f1) ((rd_T32 l0_1 x13_1).f2) ((rd_T32 l0_1 x13_1).f3) _ _ ((rd_T32 l0_1 x13_1).f4) _ _ ((rd_T32 l0_1 x13_1).f5) _ _ ((rd_T32 l0_1 x13_1).f6) t1071 t1072 t1073 t1074 t1075 t1078 t1081 _ ?side1 ?side2 ?side3 ?side4 ?side5 ?side6 A17.out).mono ?_
       (case side1 => exact kc HR1069_4 HB)
       (case side2 => exact HC1069_4.out)
       (case side3 => exact kc HR1069_5 HB)
       (case side4 => exact HC1069_5.out)
       (case side5 => exact kc HR1069_6 HB)
       (case side6 => exact HC1069_6.out)
       rintro e w26 ⟨v1076, v1079, v1082, rfl, ho0, ho1, ho2, hb⟩
       refine ⟨_, rfl, ?_⟩
       have n0_ := zq9 (Kd.S_mono (Kd.S_told (Kd.S_told (Kd.S_told (Kd.S_old (by (with_reducible repeat (first | apply Kd.S_alloc | apply Kd.S_drewN | apply Kd.S_drew)); exact HO_1069001.out) hb) (Kd.R_base ho0)) (Kd.R_base ho1)) (Kd.R_base ho2)) (fun _ h_ => h_.1))
       have n1_ := zq9 (Kd.R_lower ho0 (zq29 (by exact b4 HB GE1063 GE1064 GE1068 GE1070)))
       have n2_ := zq9 (Kd.R_lower ho1 (zq29 (by exact b4 HB GE1063 GE1064 GE1068 GE1070)))
       have n3_ := zq9 (Kd.R_lower ho2 (zq29 (by exact b4 HB GE1063 GE1064 GE1068 GE1070)))
       have n4_ := zq9 (zq30 (g := gb1063) (o := .cells #[.int .i64 a0_0, .slice (some ad1069) l0_1.length c0_1] 46 (0, 0)) (by exact bk BK1063) hb)
       have n5_ := zq9 (zq30 (g := gb1064) (o := .cells #[.int .i64 0, .slice none 0 0] 46 (0, 0)) (by exact bk BK1064) hb)
       have n6_ := zq9 (zq30 (g := gb1068) (o := .cells #[.int .i64 a0_0, u1069001] 46 (0, 0)) (by exact bk BK1068) hb)
       have n7_ := zq9 (zq30 (g := gb1070) (o := .cells #[.string ((rd_T32 l0_1 x13_1).f0), .int .i64 ((rd_T32 l0_1 x13_1).f1), .int .i64 ((rd_T32 l0_1 x13_1).f2), .string ((rd_T32 l0_1 x13_1).f3), .slice A1069_4 ((rd_T32 l0_1 x13_1).f4).length c1069_4, .slice A1069_5 ((rd_T32 l0_1 x13_1).f5).length c1069_5, .slice A1069_6 ((rd_T32 l0_1 x13_1).f6).length c1069_6] 32 (0, 0)) (by exact bk BK1070) hb)
       have n8_ := zq9 (zq27 (by exact b4 HB GE1063 GE1064 GE1068 GE1070) hb)
       clear HO_1069001; clear BK1063; clear BK1064; clear BK1068; clear BK1070; clear HB; have HO_1069001 := n0_; have HO1077 := n1_; have HO1080 := n2_; have HO1083 := n3_; have BK1063 := n4_; have BK1064 := n5_; have BK1068 := n6_; have BK1070 := n7_; have HB := n8_; clear n0_ n1_ n2_ n3_ n4_ n5_ n6_ n7_ n8_
       (try clear hb)
       (try clear hb2)
       (try clear hk)
       (try clear hi)
       (try clear ho0)
       (try clear ho1)
       (try clear ho2)
       obtain ⟨Ao28, co28, eo28⟩ := Kd.R_slice HO1077.out
       (first | subst eo28 | (injection eo28 with f1_ f2_ f3_; have f4_ := f1_.symm; have f5_ := f3_.symm; clear f1_ f2_ f3_; subst f4_; subst f5_))
       obtain ⟨Ao29, co29, eo29⟩ := Kd.R_slice HO1080.out
       (first | subst eo29 | (injection eo29 with f1_ f2_ f3_; have f4_ := f1_.symm; have f5_ := f3_.symm; clear f1_ f2_ f3_; subst f4_; subst f5_))
       obtain ⟨Ao30, co30, eo30⟩ := Kd.R_slice HO1083.out
       (first | subst eo30 | (injection eo30 with f1_ f2_ f3_; have f4_ := f1_.symm; have f5_ := f3_.symm; clear f1_ f2_ f3_; subst f4_; subst f5_))
       refine hK.out _ _ ⟨bc BK1068 0, bc BK1068 1, bc BK1070 0, bc BK1070 1, bc BK1070 2, bc BK1070 3, bc BK1070 4, bc BK1070 5, bc BK1070 6⟩ (fun hHeld => ?_)
       clear hK K
       refine norm_ (a' := ?_) ?_ ?_
       rotate_left; ·show Act.put _ (some 20) _ = _; simp only [Act.put, zq0, zq1, zq2, i64_w, i32_w]; rfl
       refine one_ (i := 4) (N := some 21) (zb 8 31) rfl rfl (one_of HT_.out (by kernel_rfl)) (by decide) (fun K hK => ?_)
       refine value_ (w1 := ?_) (v := ?_) (by rfl) rfl ?_ ?_
       rotate_left 2
       ·go_simp
        constructor
        ·rfl
        ·rfl
       refine hK.out _ _ ⟨(zq7 (blk_alloc BK1068.out _) 0).trans rfl, (zq7 (blk_alloc BK1068.out _) 1).trans rfl, (zq7 (blk_alloc BK1070.out _) 0).trans rfl, (zq7 (blk_alloc BK1070.out _) 1).trans rfl, (zq7 (blk_alloc BK1070.out _) 2).trans rfl, (zq7 (blk_alloc BK1070.out _) 3).trans rfl, (zq7 (blk_alloc BK1070.out _) 4).trans rfl, (zq7 (blk_alloc BK1070.out _) 5).trans rfl, (zq7 (blk_alloc BK1070.out _) 6).trans rfl⟩ (fun hHeld => ?_)
       clear hK K
       refine norm_ (a' := ?_) ?_ ?_
       rotate_left; ·show Act.put _ (some 21) _ = _; simp only [Act.put, zq0, zq1, zq2, i64_w, i32_w]; rfl
       refine one_ (i := 5) (N := some 22) (zb 8 63) rfl rfl (one_of HT_.out (by kernel_rfl)) (by decide) (fun K hK => ?_)
       refine Kd.S_append_step k32 (w0 := w) w.heap.size (by rfl) (.tmp 18) (.tmp 21) 44 32 (.agg #[(.string ⟨#[]⟩), (.int .i64 0), (.int .i64 0), (.string ⟨#[]⟩), (.slice none 0 0), (.slice none 0 0), (.slice none 0 0)]) 120 rfl Try.underlying44 info32 rfl (by decide) (by omega) u1069001 x1069001_1 (⟨t1071, t1072, t1073, t1074, t1075, t1078, t1081⟩ : S32) [.string t1071, .int .i64 t1072, .int .i64 t1073, .string t1074, .slice Ao28 t1075.length co28, .slice Ao29 t1078.length co29, .slice Ao30 t1081.length co30] (fun k_ => k_ ≠ gb1070) (fun k_ => some k_ = (.slice Ao28 t1075.length co28 : Value).ownBlock ∨ some k_ = (.slice Ao29 t1078.length co29 : Value).ownBlock ∨ some k_ = (.slice Ao30 t1081.length co30 : Value).ownBlock) rfl rfl ?aP (fun k_ hk_ => hk_.elim (fun h_ => ((Kd.R_mono (ok' := fun k_ => ((fun k_ => k_ ≠ gb1070)) k_ ∧ some k_ ≠ (u1069001 : Value).ownBlock) (Kd.R_types (Kd.R_apart' (HO1077.out) (Kd.S_typed HO_1069001.out) (by decide)) BK1070.out (by decide)) (fun k_ hk => ⟨hk.2, hk.1.2⟩))).1 k_ h_.symm) (fun h_ => h_.elim (fun h_ => ((Kd.R_mono (ok' := fun k_ => ((fun k_ => k_ ≠ gb1070)) k_ ∧ some k_ ≠ (u1069001 : Value).ownBlock) (Kd.R_types (Kd.R_apart' (HO1080.out) (Kd.S_typed HO_1069001.out) (by decide)) BK1070.out (by decide)) (fun k_ hk => ⟨hk.2, hk.1.2⟩))).1 k_ h_.symm) (fun h_ => ((Kd.R_mono (ok' := fun k_ => ((fun k_ => k_ ≠ gb1070)) k_ ∧ some k_ ≠ (u1069001 : Value).ownBlock) (Kd.R_types (Kd.R_apart' (HO1083.out) (Kd.S_typed HO_1069001.out) (by decide)) BK1070.out (by decide)) (fun k_ hk => ⟨hk.2, hk.1.2⟩))).1 k_ h_.symm))) ?aF ?aO ?aB ?aS ?aL ?_
       (case aP => exact k32_mkM _ _ _ (⟨t1071, t1072, t1073, t1074, t1075, t1078, t1081⟩ : S32) (Kd.R_mono (Kd.R_tight rfl (Kd.R_mono (ok' := fun k_ => ((fun k_ => k_ ≠ gb1070)) k_ ∧ some k_ ≠ (u1069001 : Value).ownBlock) (Kd.R_types (Kd.R_apart' (HO1077.out) (Kd.S_typed HO_1069001.out) (by decide)) BK1070.out (by decide)) (fun k_ hk => ⟨hk.2, hk.1.2⟩))) (fun _ h_ => Or.inl h_)) (Kd.R_mono (Kd.R_tight rfl (Kd.R_mono (ok' := fun k_ => ((fun k_ => k_ ≠ gb1070)) k_ ∧ some k_ ≠ (u1069001 : Value).ownBlock) (Kd.R_types (Kd.R_apart' (HO1080.out) (Kd.S_typed HO_1069001.out) (by decide)) BK1070.out (by decide)) (fun k_ hk => ⟨hk.2, hk.1.2⟩))) (fun _ h_ => Or.inr (Or.inl h_))) (Kd.R_mono (Kd.R_tight rfl (Kd.R_mono (ok' := fun k_ => ((fun k_ => k_ ≠ gb1070)) k_ ∧ some k_ ≠ (u1069001 : Value).ownBlock) (Kd.R_types (Kd.R_apart' (HO1083.out) (Kd.S_typed HO_1069001.out) (by decide)) BK1070.out (by decide)) (fun k_ hk => ⟨hk.2, hk.1.2⟩))) (fun _ h_ => Or.inr (Or.inr (h_)))))
       (case aB => exact (by exact b4 HB GE1063 GE1064 GE1068 GE1070))
       (case aF => exact (fun k_ hk => Kd.freshB (g := gb1070) (o := .cells #[.string ((rd_T32 l0_1 x13_1).f0), .int .i64 ((rd_T32 l0_1 x13_1).f1), .int .i64 ((rd_T32 l0_1 x13_1).f2), .string ((rd_T32 l0_1 x13_1).f3), .slice A1069_4 ((rd_T32 l0_1 x13_1).f4).length c1069_4, .slice A1069_5 ((rd_T32 l0_1 x13_1).f5).length c1069_5, .slice A1069_6 ((rd_T32 l0_1 x13_1).f6).length c1069_6] 32 (0, 0)) (by exact bk BK1070) k_ hk))
       (case aO => exact (by (with_reducible repeat (first | apply Kd.S_alloc | apply Kd.S_drewN | apply Kd.S_drew)); exact Kd.S_mono HO_1069001.out (fun k_ hk => ⟨hk.1.1.1, fun e_ => e_.elim (fun h_ => hk.1.1.2 h_) (fun h_ => h_.elim (fun h_ => hk.1.2 h_) (fun h_ => hk.2 h_))⟩)))
       (case aS => exact (zq29 (by exact b4 HB GE1063 GE1064 GE1068 GE1070)))
       (case aL => have := LMc18.out; omega)
       intro v1085 w27 ho hb hg hat
       rw [← Ny1084.out] at ho
       have n0_ := zq9 (blk_grown (g := gb1063) (o := .cells #[.int .i64 a0_0, .slice (some ad1069) l0_1.length c0_1] 46 (0, 0)) (by exact bk BK1063) hg (Kd.S_ne HO_1069001.out BK1063.out (by decide)))
       have n1_ := zq9 (blk_grown (g := gb1064) (o := .cells #[.int .i64 0, .slice none 0 0] 46 (0, 0)) (by exact bk BK1064) hg (Kd.S_ne HO_1069001.out BK1064.out (by decide)))
       have n2_ := zq9 (blk_grown (g := gb1068) (o := .cells #[.int .i64 a0_0, u1069001] 46 (0, 0)) (by exact bk BK1068) hg (Kd.S_ne HO_1069001.out BK1068.out (by decide)))
       have n3_ := zq9 (blk_grown (g := gb1070) (o := .cells #[.string ((rd_T32 l0_1 x13_1).f0), .int .i64 ((rd_T32 l0_1 x13_1).f1), .int .i64 ((rd_T32 l0_1 x13_1).f2), .string ((rd_T32 l0_1 x13_1).f3), .slice A1069_4 ((rd_T32 l0_1 x13_1).f4).length c1069_4, .slice A1069_5 ((rd_T32 l0_1 x13_1).f5).length c1069_5, .slice A1069_6 ((rd_T32 l0_1 x13_1).f6).length c1069_6] 32 (0, 0)) (by exact bk BK1070) hg (Kd.S_away HO_1069001.out (fun _ hk => hk.1.1.1)))
       have n4_ := zq9 (hb)
       have n5_ := zq9 (ho)
       clear BK1063; clear BK1064; clear BK1068; clear BK1070; clear HB; clear HO_1069001; clear HO1077; clear HO1080; clear HO1083; have BK1063 := n0_; have BK1064 := n1_; have BK1068 := n2_; have BK1070 := n3_; have HB := n4_; have HO1086 := n5_; clear n0_ n1_ n2_ n3_ n4_ n5_; clear ho hb hg hat
       obtain ⟨Ao31, co31, eo31⟩ := Kd.S_slice HO1086.out
       (first | subst eo31 | (injection eo31 with f1_ f2_ f3_; have f4_ := f1_.symm; have f5_ := f3_.symm; clear f1_ f2_ f3_; subst f4_; subst f5_))
       refine hK.out _ _ ⟨bc BK1068 0, bc BK1068 1, bc BK1070 0, bc BK1070 1, bc BK1070 2, bc BK1070 3, bc BK1070 4, bc BK1070 5, bc BK1070 6⟩ (fun hHeld => ?_)
       clear hK K
       refine norm_ (a' := ?_) ?_ ?_
       rotate_left; ·show Act.put _ (some 22) _ = _; simp only [Act.put, zq0, zq1, zq2, i64_w, i32_w]; rfl
       refine pa HT_ 6 23 (zb 8 127) ?_
       refine last_ (i := 7) (N := none) #[true, true, true, true, true, true, true, true] rfl rfl (one_of HT_.out (by kernel_rfl)) (by decide) (fun K hK => ?_)
       have hs32 : w27.cell? ⟨gb1068, 1, none⟩ = some (u1069001) := bc BK1068 1
       have hfs32 := zq6 BK1068.out 1
       have hns32_0 := NB1063_1068.out; have hns32_1 := NB1064_1068.out; have hns32_3 := NB1070_1068.out; have hms32_0 := NB1068_1063.out; have hms32_1 := NB1068_1064.out; have hms32_3 := NB1068_1070.out
       refine skip_ (w1 := ?_) (by rfl) rfl ?_ ?_
       rotate_left; ·go_simp; rfl
       refine hK.out _ _ ?_
       clear hK K
       refine done_ (done_of HT_.out (by kernel_rfl)) ?_
       try go_wp2
       go_roundg k1
       case measure => have := HK1.out; omega
       case rel => exact ⟨(wrap64 (x13_1 + 1)), (y1084), (.slice Ao31 y1084.length co31), (by first | rfl | (simp; done) | (simp [*]; done)), H', ⟨by have := HK1.out; omega⟩, ⟨by (with_reducible repeat (first | apply Kd.S_alloc | apply Kd.S_drewN | apply Kd.S_drew)); exact Kd.S_mono (Kd.S_far (p := ⟨gb1068, 1, none⟩) (Kd.S_types HO1086.out BK1068.out (by decide)) (fun _ hk => hk.2) (.slice Ao31 y1084.length co31)) (fun _ hk => trivial)⟩, ⟨by refine bp ?_; refine blk_far ?_ NB1063_1068.out _; refine bp ?_; exact BK1063.out⟩, ⟨by refine bp ?_; refine blk_far ?_ NB1064_1068.out _; refine bp ?_; exact BK1064.out⟩, ⟨(blk_set BK1068.out 1 _)⟩, ⟨by exact b4 HB GE1063 GE1064 GE1068 GE1070⟩⟩
      ·rw [if_neg c18] at H
       exact absurd H (by simp)
     ·rw [if_neg c16] at H
      exact absurd H (by simp)
    ·rw [if_neg c15] at H
     exact absurd H (by simp)
   ·rw [if_neg c14] at H; have c14b0 : decide (x13_1 < (l0_1.length : Int)) = false := decide_eq_false c14; clear c14
    simp only [Option.some.injEq, Prod.mk.injEq] at H
    obtain ⟨rfl, rfl⟩ := H
    have hnb33 := NB1068_1063.out; have hnc33 := NB1063_1068.out; have hnb34 := NB1068_1064.out; have hnc34 := NB1064_1068.out
    have hcz35_0 : wr.cell? ⟨gb1068, 0, none⟩ = some (.int .i64 a0_0) := bc BK1068 0
    have hcz35_1 : wr.cell? ⟨gb1068, 1, none⟩ = some (u1069001) := bc BK1068 1
    have hfz35_0 := zq6 BK1068.out 0
    have hfz35_1 := zq6 BK1068.out 1
    have hnb36 := NB1064_1063.out; have hnc36 := NB1063_1064.out
    have hcz37_0 : wr.cell? ⟨gb1064, 0, none⟩ = some (.int .i64 0) := bc BK1064 0
    have hcz37_1 : wr.cell? ⟨gb1064, 1, none⟩ = some (.slice none 0 0) := bc BK1064 1
    have hfz37_0 := zq6 BK1064.out 0
    have hfz37_1 := zq6 BK1064.out 1
    obtain ⟨Ao38, co38, eo38⟩ := Kd.S_slice HO_1069001.out
    subst eo38
    go_wp2
    refine bodyPost_ret (results_cell_row rfl _ _ gb1064 46 #[.int .i64 a0_0, .slice Ao38 x1069001_1.length co38] (0, 0) _ rfl (by refine bp ?_; refine blk_put (cs := #[.int .i64 a0_0, .slice none 0 0]) ?_ 1 _ rfl; refine bp ?_; refine blk_put (cs := #[.int .i64 0, .slice none 0 0]) ?_ 0 _ rfl; refine bp ?_; exact BK1064.out) Try.underlying46 rfl (by kernel_rfl)) rfl ?_
    exact ⟨_, by first | rfl | (simp [errW_none, errW_some] <;> rfl) | (simp [*, errW_none, errW_some] <;> rfl), by (with_reducible repeat (first | apply Kd.S_alloc | apply Kd.S_drewN | apply Kd.S_drew)); exact Kd.S_mono (Kd.S_far (p := ⟨gb1064, 1, none⟩) (Kd.S_far (p := ⟨gb1064, 0, none⟩) (Kd.S_types HO_1069001.out BK1064.out (by decide)) (fun _ hk => hk.2) (.int .i64 a0_0)) (fun _ hk => hk.2) (.slice Ao38 x1069001_1.length co38)) (fun _ hk => trivial), by exact b3 HB GE1063 GE1064 GE1068⟩
end Go.Proofs.Ytnkgmcgbbldkgaa.P
