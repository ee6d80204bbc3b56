import Derived.Test.YtnkgmcgbbldkgaaPrFnExactEntryOk4
/- Texts of this claim, one behind the other: words on worlds and rows, printed functions and their walks, plain lemmas. -/
namespace Go.Proofs.Ytnkgmcgbbldkgaa.P
open Go.RowKit Go.Proofs.YtnkgmcgbbldkgaaW.PrintWords Go.Proofs.YtnkgmcgbbldkgaaW.PrintLast Go.Proofs.YtnkgmcgbbldkgaaW.PrintMore
attribute [local go_sem] max2_int min2_int max_two min_two max_three min_three max_four min_four   -- for this text's walks alone
set_option linter.unusedVariables false
set_option linter.unusedSimpArgs false
set_option maxHeartbeats 8000000 in
set_option maxRecDepth 100000 in
theorem impl_FieldsOk.calls (k : Nat) (A0 : Option Addr) (c0 : Nat) (l0 : List (S101)) (r : Bool) (w : World) (hr0 : Kd.C k101 w A0 l0.length l0) (hc0 : l0.length ≤ c0) (h : impl_FieldsOk.f k l0 = some r) :
  Calls Try.prog 53 #[.slice A0 l0.length c0] w fun e w' => e = .returned (.bool r) ∧ Below w.heap.size w w' := by
 have hu101 := Try.underlying101
 have HR0 := zq9 hr0
 have HC0 := zq9 hc0
 clear hr0 hc0
 have HB := zq9 (Below.refl w.heap.size w)
 have H : (impl_FieldsOk.l0 k l0 l0 (l0.length : Int) 0) = some r := h
 clear h
 have H' := zq9 H
 clear H
 go_enter Try.func53, Try.ntmps53
 go_wp2
 repeat (go_quiet (fail); try go_wp2)
 go_loopg [7] k (fun kq v7 w' => ∃ (x7_1 : Int), v7 = .int .i64 x7_1 ∧ Aside0 (impl_FieldsOk.l0 kq l0 l0 (l0.length : Int) x7_1 = some r) ∧ Aside0 (kq ≤ k) ∧ Aside0 (Below w.heap.size w w'))
 case atStart => exact ⟨(0), (by first | rfl | (simp; done) | (simp [*]; done)), H', ⟨Nat.le_refl _⟩, ⟨by repeat (first | (with_reducible first | exact HB.out | apply zq5 | apply zq3 | apply zq4) | exact HB.out | exact Below.refl _ _)⟩⟩
 case round =>
  clear H'
  obtain ⟨x7_1, rfl, HA, HK1, HB⟩ := hrel
  cases gk with
  | zero => exact absurd HA.out (by simp [impl_FieldsOk.l0])
  | succ k1 =>
   have H := HA.out
   clear HA
   simp only [impl_FieldsOk.l0] at H
   by_cases c2 : x7_1 < (l0.length : Int)
   ·rw [if_pos c2] at H
    have c2b0 : decide (x7_1 < (l0.length : Int)) = true := decide_eq_true c2
    clear c2
    by_cases c3 : 0 ≤ x7_1
    ·rw [if_pos c3] at H
     have c3b0 : decide (0 ≤ x7_1) = true := decide_eq_true c3
     clear c3
     by_cases c4 : x7_1 < (l0.length : Int)
     ·rw [if_pos c4] at H
      have c4b0 : decide (x7_1 < (l0.length : Int)) = true := decide_eq_true c4
      clear c4
      by_cases c5 : (((rd_T101 l0 x7_1).f0).size : Int) > 40
      ·rw [if_pos c5] at H
       have c5b0 : decide (40 < (((rd_T101 l0 x7_1).f0).size : Int)) = true := decide_eq_true c5
       have c5b1 : decide (40 < ((rd_T101 l0 x7_1).f0).size) = true := decide_eq_true (by omega)
       clear c5
       obtain rfl := Option.some.inj H
       have p202 : 0 ≤ (x7_1 : Int) := of_decide_eq_true (by first | (with_reducible assumption) | assumption)
       have q202 : x7_1 < (l0.length : Int) := of_decide_eq_true (by first | (with_reducible assumption) | assumption)
       obtain ⟨ad202, e202, hx202_0, hx202_1⟩ := at_T101 HR0.out x7_1 p202 q202
       cases e202
       replace hx202_0 := (HB.out.cell (zq8 w _ hx202_0)).trans hx202_0
       replace hx202_1 := (HB.out.cell (zq8 w _ hx202_1)).trans hx202_1
       replace p202 := eq_true p202
       replace q202 := eq_true q202
       go_wp2_with (first | ((with_reducible refine gate_dst (N := 4) rfl ?_); (try (refine gate_guard (by rfl) ?_; dsimp only)); refine box_event ?hg (N := 4) ?hd (cs := #[.string (⟨#[]⟩ : ByteArray), .string (⟨#[]⟩ : ByteArray)]) (t := 101) ?hr ?_; (case hd => rfl); (case hg => rfl); (case hr => first | (go_simp; done) | (go_simp; rfl)); intro gb203 hg w6 hbox hb; have n0_ := zq9 (below_step (by repeat (first | (with_reducible first | exact HB.out | apply zq5 | apply zq3 | apply zq4) | exact HB.out | exact Below.refl _ _)) hb); have n1_ := zq9 (hbox); have n2_ := zq9 ((by rw [hg]; exact (below_size (by repeat (first | (with_reducible first | exact HB.out | apply zq5 | apply zq3 | apply zq4) | exact HB.out | exact Below.refl _ _))) : w.heap.size ≤ gb203)); have n3_ := zq9 ((by rw [hg]; exact (below_size (by repeat (first | (with_reducible first | exact HB.out | apply zq5 | apply zq3 | apply zq4) | exact HB.out | exact Below.refl _ _))) : w.heap.size ≤ gb203)); clear HB; have HB := n0_; have BK203 := n1_; have GW203 := n2_; have GE203 := n3_; clear n0_ n1_ n2_ n3_; clear hb hbox hg; have hcz7_0 : w6.cell? ⟨gb203, 0, none⟩ = some (.string (⟨#[]⟩ : ByteArray)) := (zq7 BK203.out 0).trans rfl; have hcz7_1 : w6.cell? ⟨gb203, 1, none⟩ = some (.string (⟨#[]⟩ : ByteArray)) := (zq7 BK203.out 1).trans rfl; have hfz7_0 := zq6 BK203.out 0; have hfz7_1 := zq6 BK203.out 1))
       repeat (go_quiet (first | ((with_reducible refine gate_dst (N := 4) rfl ?_); (try (refine gate_guard (by rfl) ?_; dsimp only)); refine box_event ?hg (N := 4) ?hd (cs := #[.string (⟨#[]⟩ : ByteArray), .string (⟨#[]⟩ : ByteArray)]) (t := 101) ?hr ?_; (case hd => rfl); (case hg => rfl); (case hr => first | (go_simp; done) | (go_simp; rfl)); intro gb203 hg w6 hbox hb; have n0_ := zq9 (below_step (by repeat (first | (with_reducible first | exact HB.out | apply zq5 | apply zq3 | apply zq4) | exact HB.out | exact Below.refl _ _)) hb); have n1_ := zq9 (hbox); have n2_ := zq9 ((by rw [hg]; exact (below_size (by repeat (first | (with_reducible first | exact HB.out | apply zq5 | apply zq3 | apply zq4) | exact HB.out | exact Below.refl _ _))) : w.heap.size ≤ gb203)); have n3_ := zq9 ((by rw [hg]; exact (below_size (by repeat (first | (with_reducible first | exact HB.out | apply zq5 | apply zq3 | apply zq4) | exact HB.out | exact Below.refl _ _))) : w.heap.size ≤ gb203)); clear HB; have HB := n0_; have BK203 := n1_; have GW203 := n2_; have GE203 := n3_; clear n0_ n1_ n2_ n3_; clear hb hbox hg; have hcz7_0 : w6.cell? ⟨gb203, 0, none⟩ = some (.string (⟨#[]⟩ : ByteArray)) := (zq7 BK203.out 0).trans rfl; have hcz7_1 : w6.cell? ⟨gb203, 1, none⟩ = some (.string (⟨#[]⟩ : ByteArray)) := (zq7 BK203.out 1).trans rfl; have hfz7_0 := zq6 BK203.out 0; have hfz7_1 := zq6 BK203.out 1)); try go_wp2_with (first | ((with_reducible refine gate_dst (N := 4) rfl ?_); (try (refine gate_guard (by rfl) ?_; dsimp only)); refine box_event ?hg (N := 4) ?hd (cs := #[.string (⟨#[]⟩ : ByteArray), .string (⟨#[]⟩ : ByteArray)]) (t := 101) ?hr ?_; (case hd => rfl); (case hg => rfl); (case hr => first | (go_simp; done) | (go_simp; rfl)); intro gb203 hg w6 hbox hb; have n0_ := zq9 (below_step (by repeat (first | (with_reducible first | exact HB.out | apply zq5 | apply zq3 | apply zq4) | exact HB.out | exact Below.refl _ _)) hb); have n1_ := zq9 (hbox); have n2_ := zq9 ((by rw [hg]; exact (below_size (by repeat (first | (with_reducible first | exact HB.out | apply zq5 | apply zq3 | apply zq4) | exact HB.out | exact Below.refl _ _))) : w.heap.size ≤ gb203)); have n3_ := zq9 ((by rw [hg]; exact (below_size (by repeat (first | (with_reducible first | exact HB.out | apply zq5 | apply zq3 | apply zq4) | exact HB.out | exact Below.refl _ _))) : w.heap.size ≤ gb203)); clear HB; have HB := n0_; have BK203 := n1_; have GW203 := n2_; have GE203 := n3_; clear n0_ n1_ n2_ n3_; clear hb hbox hg; have hcz7_0 : w6.cell? ⟨gb203, 0, none⟩ = some (.string (⟨#[]⟩ : ByteArray)) := (zq7 BK203.out 0).trans rfl; have hcz7_1 : w6.cell? ⟨gb203, 1, none⟩ = some (.string (⟨#[]⟩ : ByteArray)) := (zq7 BK203.out 1).trans rfl; have hfz7_0 := zq6 BK203.out 0; have hfz7_1 := zq6 BK203.out 1)))
       go_ret
       exact ⟨by first | rfl | (simp [errW_none, errW_some] <;> rfl) | (simp [*, errW_none, errW_some] <;> rfl), by repeat (first | (with_reducible first | exact HB.out | apply zq5 | apply zq3 | apply zq4 | refine below_set ?_ GE203.out) | exact HB.out)⟩
      ·rw [if_neg c5] at H
       have c5b0 : decide (40 < (((rd_T101 l0 x7_1).f0).size : Int)) = false := decide_eq_false c5
       have c5b1 : decide (40 < ((rd_T101 l0 x7_1).f0).size) = false := decide_eq_false (by omega)
       clear c5
       by_cases c8 : (((rd_T101 l0 x7_1).f1).size : Int) > 40
       ·rw [if_pos c8] at H
        have c8b0 : decide (40 < (((rd_T101 l0 x7_1).f1).size : Int)) = true := decide_eq_true c8
        have c8b1 : decide (40 < ((rd_T101 l0 x7_1).f1).size) = true := decide_eq_true (by omega)
        clear c8
        obtain rfl := Option.some.inj H
        have p202 : 0 ≤ (x7_1 : Int) := of_decide_eq_true (by first | (with_reducible assumption) | assumption)
        have q202 : x7_1 < (l0.length : Int) := of_decide_eq_true (by first | (with_reducible assumption) | assumption)
        obtain ⟨ad202, e202, hx202_0, hx202_1⟩ := at_T101 HR0.out x7_1 p202 q202
        cases e202
        replace hx202_0 := (HB.out.cell (zq8 w _ hx202_0)).trans hx202_0
        replace hx202_1 := (HB.out.cell (zq8 w _ hx202_1)).trans hx202_1
        replace p202 := eq_true p202
        replace q202 := eq_true q202
        go_wp2_with (first | ((with_reducible refine gate_dst (N := 4) rfl ?_); (try (refine gate_guard (by rfl) ?_; dsimp only)); refine box_event ?hg (N := 4) ?hd (cs := #[.string (⟨#[]⟩ : ByteArray), .string (⟨#[]⟩ : ByteArray)]) (t := 101) ?hr ?_; (case hd => rfl); (case hg => rfl); (case hr => first | (go_simp; done) | (go_simp; rfl)); intro gb203 hg w9 hbox hb; have n0_ := zq9 (below_step (by repeat (first | (with_reducible first | exact HB.out | apply zq5 | apply zq3 | apply zq4) | exact HB.out | exact Below.refl _ _)) hb); have n1_ := zq9 (hbox); have n2_ := zq9 ((by rw [hg]; exact (below_size (by repeat (first | (with_reducible first | exact HB.out | apply zq5 | apply zq3 | apply zq4) | exact HB.out | exact Below.refl _ _))) : w.heap.size ≤ gb203)); have n3_ := zq9 ((by rw [hg]; exact (below_size (by repeat (first | (with_reducible first | exact HB.out | apply zq5 | apply zq3 | apply zq4) | exact HB.out | exact Below.refl _ _))) : w.heap.size ≤ gb203)); clear HB; have HB := n0_; have BK203 := n1_; have GW203 := n2_; have GE203 := n3_; clear n0_ n1_ n2_ n3_; clear hb hbox hg; have hcz10_0 : w9.cell? ⟨gb203, 0, none⟩ = some (.string (⟨#[]⟩ : ByteArray)) := (zq7 BK203.out 0).trans rfl; have hcz10_1 : w9.cell? ⟨gb203, 1, none⟩ = some (.string (⟨#[]⟩ : ByteArray)) := (zq7 BK203.out 1).trans rfl; have hfz10_0 := zq6 BK203.out 0; have hfz10_1 := zq6 BK203.out 1))
        repeat (go_quiet (first | ((with_reducible refine gate_dst (N := 4) rfl ?_); (try (refine gate_guard (by rfl) ?_; dsimp only)); refine box_event ?hg (N := 4) ?hd (cs := #[.string (⟨#[]⟩ : ByteArray), .string (⟨#[]⟩ : ByteArray)]) (t := 101) ?hr ?_; (case hd => rfl); (case hg => rfl); (case hr => first | (go_simp; done) | (go_simp; rfl)); intro gb203 hg w9 hbox hb; have n0_ := zq9 (below_step (by repeat (first | (with_reducible first | exact HB.out | apply zq5 | apply zq3 | apply zq4) | exact HB.out | exact Below.refl _ _)) hb); have n1_ := zq9 (hbox); have n2_ := zq9 ((by rw [hg]; exact (below_size (by repeat (first | (with_reducible first | exact HB.out | apply zq5 | apply zq3 | apply zq4) | exact HB.out | exact Below.refl _ _))) : w.heap.size ≤ gb203)); have n3_ := zq9 ((by rw [hg]; exact (below_size (by repeat (first | (with_reducible first | exact HB.out | apply zq5 | apply zq3 | apply zq4) | exact HB.out | exact Below.refl _ _))) : w.heap.size ≤ gb203)); clear HB; have HB := n0_; have BK203 := n1_; have GW203 := n2_; have GE203 := n3_; clear n0_ n1_ n2_ n3_; clear hb hbox hg; have hcz10_0 : w9.cell? ⟨gb203, 0, none⟩ = some (.string (⟨#[]⟩ : ByteArray)) := (zq7 BK203.out 0).trans rfl; have hcz10_1 : w9.cell? ⟨gb203, 1, none⟩ = some (.string (⟨#[]⟩ : ByteArray)) := (zq7 BK203.out 1).trans rfl; have hfz10_0 := zq6 BK203.out 0; have hfz10_1 := zq6 BK203.out 1)); try go_wp2_with (first | ((with_reducible refine gate_dst (N := 4) rfl ?_); (try (refine gate_guard (by rfl) ?_; dsimp only)); refine box_event ?hg (N := 4) ?hd (cs := #[.string (⟨#[]⟩ : ByteArray), .string (⟨#[]⟩ : ByteArray)]) (t := 101) ?hr ?_; (case hd => rfl); (case hg => rfl); (case hr => first | (go_simp; done) | (go_simp; rfl)); intro gb203 hg w9 hbox hb; have n0_ := zq9 (below_step (by repeat (first | (with_reducible first | exact HB.out | apply zq5 | apply zq3 | apply zq4) | exact HB.out | exact Below.refl _ _)) hb); have n1_ := zq9 (hbox); have n2_ := zq9 ((by rw [hg]; exact (below_size (by repeat (first | (with_reducible first | exact HB.out | apply zq5 | apply zq3 | apply zq4) | exact HB.out | exact Below.refl _ _))) : w.heap.size ≤ gb203)); have n3_ := zq9 ((by rw [hg]; exact (below_size (by repeat (first | (with_reducible first | exact HB.out | apply zq5 | apply zq3 | apply zq4) | exact HB.out | exact Below.refl _ _))) : w.heap.size ≤ gb203)); clear HB; have HB := n0_; have BK203 := n1_; have GW203 := n2_; have GE203 := n3_; clear n0_ n1_ n2_ n3_; clear hb hbox hg; have hcz10_0 : w9.cell? ⟨gb203, 0, none⟩ = some (.string (⟨#[]⟩ : ByteArray)) := (zq7 BK203.out 0).trans rfl; have hcz10_1 : w9.cell? ⟨gb203, 1, none⟩ = some (.string (⟨#[]⟩ : ByteArray)) := (zq7 BK203.out 1).trans rfl; have hfz10_0 := zq6 BK203.out 0; have hfz10_1 := zq6 BK203.out 1)))
        go_ret
        exact ⟨by first | rfl | (simp [errW_none, errW_some] <;> rfl) | (simp [*, errW_none, errW_some] <;> rfl), by repeat (first | (with_reducible first | exact HB.out | apply zq5 | apply zq3 | apply zq4 | refine below_set ?_ GE203.out) | exact HB.out)⟩
       ·rw [if_neg c8] at H
        have c8b0 : decide (40 < (((rd_T101 l0 x7_1).f1).size : Int)) = false := decide_eq_false c8
        have c8b1 : decide (40 < ((rd_T101 l0 x7_1).f1).size) = false := decide_eq_false (by omega)
        clear c8
        by_cases c11 : x7_1 > 0
        ·rw [if_pos c11] at H
         have c11b0 : decide (0 < x7_1) = true := decide_eq_true c11
         clear c11
         obtain ⟨ji12, hji12⟩ : ∃ j_ : Int, (wrap64 (x7_1 - 1)) = j_ := ⟨_, rfl⟩
         replace H : (if 0 ≤ (ji12) then (if (ji12) < (l0.length : Int) then (if ((Op.bytesLess (((rd_T101 l0 (ji12)).f0).toList) (((rd_T101 l0 x7_1).f0).toList)) = true) then (impl_FieldsOk.l0 k1 l0 l0 (l0.length : Int) (wrap64 (x7_1 + 1))) else (some false)) else (none)) else (none)) = some r := by first | (rw [hji12] at H; exact H) | (simp only [hji12] at H ⊢; exact H)
         have hji12w : (IntKind.i64.wrap (x7_1 - 1)) = ji12 := (i64_w _).trans hji12
         by_cases c13 : 0 ≤ (ji12)
         ·rw [if_pos c13] at H
          have c13b0 : decide (0 ≤ (ji12)) = true := decide_eq_true c13
          clear c13
          by_cases c14 : (ji12) < (l0.length : Int)
          ·rw [if_pos c14] at H
           have c14b0 : decide ((ji12) < (l0.length : Int)) = true := decide_eq_true c14
           clear c14
           by_cases c15 : ((Op.bytesLess (((rd_T101 l0 (ji12)).f0).toList) (((rd_T101 l0 x7_1).f0).toList)) = true)
           ·rw [if_pos c15] at H
            have c15b0 : (Op.bytesLess (((rd_T101 l0 (ji12)).f0).toList) (((rd_T101 l0 x7_1).f0).toList)) = true := c15
            clear c15
            have H' := zq9 H
            clear H
            have p202 : 0 ≤ (x7_1 : Int) := of_decide_eq_true (by first | (with_reducible assumption) | assumption)
            have q202 : x7_1 < (l0.length : Int) := of_decide_eq_true (by first | (with_reducible assumption) | assumption)
            obtain ⟨ad202, e202, hx202_0, hx202_1⟩ := at_T101 HR0.out x7_1 p202 q202
            cases e202
            replace hx202_0 := (HB.out.cell (zq8 w _ hx202_0)).trans hx202_0
            replace hx202_1 := (HB.out.cell (zq8 w _ hx202_1)).trans hx202_1
            replace p202 := eq_true p202
            replace q202 := eq_true q202
            go_wp2_with (first | ((with_reducible refine gate_dst (N := 4) rfl ?_); (try (refine gate_guard (by rfl) ?_; dsimp only)); refine box_event ?hg (N := 4) ?hd (cs := #[.string (⟨#[]⟩ : ByteArray), .string (⟨#[]⟩ : ByteArray)]) (t := 101) ?hr ?_; (case hd => rfl); (case hg => rfl); (case hr => first | (go_simp; done) | (go_simp; rfl)); intro gb203 hg w16 hbox hb; have n0_ := zq9 (below_step (by repeat (first | (with_reducible first | exact HB.out | apply zq5 | apply zq3 | apply zq4) | exact HB.out | exact Below.refl _ _)) hb); have n1_ := zq9 (hbox); have n2_ := zq9 ((by rw [hg]; exact (below_size (by repeat (first | (with_reducible first | exact HB.out | apply zq5 | apply zq3 | apply zq4) | exact HB.out | exact Below.refl _ _))) : w.heap.size ≤ gb203)); have n3_ := zq9 ((by rw [hg]; exact (below_size (by repeat (first | (with_reducible first | exact HB.out | apply zq5 | apply zq3 | apply zq4) | exact HB.out | exact Below.refl _ _))) : w.heap.size ≤ gb203)); clear HB; have HB := n0_; have BK203 := n1_; have GW203 := n2_; have GE203 := n3_; clear n0_ n1_ n2_ n3_; clear hb hbox hg; have hcz17_0 : w16.cell? ⟨gb203, 0, none⟩ = some (.string (⟨#[]⟩ : ByteArray)) := (zq7 BK203.out 0).trans rfl; have hcz17_1 : w16.cell? ⟨gb203, 1, none⟩ = some (.string (⟨#[]⟩ : ByteArray)) := (zq7 BK203.out 1).trans rfl; have hfz17_0 := zq6 BK203.out 0; have hfz17_1 := zq6 BK203.out 1; have p204 : 0 ≤ ((ji12) : Int) := of_decide_eq_true (by first | (with_reducible assumption) | assumption); have q204 : (ji12) < (l0.length : Int) := of_decide_eq_true (by first | (with_reducible assumption) | assumption); obtain ⟨ad204, e204, hx204_0, hx204_1⟩ := at_T101 HR0.out (ji12) p204 q204; obtain rfl : ad202 = ad204 := (by injection e204); have hn204_0 : ad202.block ≠ gb203 := Nat.ne_of_lt (Nat.lt_of_lt_of_le (by have := zq8 _ _ hx204_0; first | rwa [add_block] at this | exact this) GW203.out); have hn204_1 : ad202.block ≠ gb203 := Nat.ne_of_lt (Nat.lt_of_lt_of_le (by have := zq8 _ _ hx204_0; first | rwa [add_block] at this | exact this) GW203.out); replace hx204_0 := (HB.out.cell (zq8 w _ hx204_0)).trans hx204_0; replace hx204_1 := (HB.out.cell (zq8 w _ hx204_1)).trans hx204_1; replace hx204_0 := (cell_far (p := ⟨gb203, 0, none⟩) (by first | (rw [add_block]; exact hn204_0) | (show (Addr.add _ _).block ≠ _; rw [add_block]; exact hn204_0) | exact hn204_0) (.string ((rd_T101 l0 x7_1).f0))).trans hx204_0; replace hx204_1 := (cell_far (p := ⟨gb203, 0, none⟩) (by first | (rw [add_block]; exact hn204_0) | (show (Addr.add _ _).block ≠ _; rw [add_block]; exact hn204_0) | exact hn204_0) (.string ((rd_T101 l0 x7_1).f0))).trans hx204_1; replace hx204_0 := (cell_far (p := ⟨gb203, 1, none⟩) (by first | (rw [add_block]; exact hn204_1) | (show (Addr.add _ _).block ≠ _; rw [add_block]; exact hn204_1) | exact hn204_1) (.string ((rd_T101 l0 x7_1).f1))).trans hx204_0; replace hx204_1 := (cell_far (p := ⟨gb203, 1, none⟩) (by first | (rw [add_block]; exact hn204_1) | (show (Addr.add _ _).block ≠ _; rw [add_block]; exact hn204_1) | exact hn204_1) (.string ((rd_T101 l0 x7_1).f1))).trans hx204_1; (try have hy204_0 := fun (n_ : Nat) => (show ((((w16.drewN n_).setCell ⟨gb203, 0, none⟩ (.string ((rd_T101 l0 x7_1).f0))).setCell ⟨gb203, 1, none⟩ (.string ((rd_T101 l0 x7_1).f1)))).cell? _ = some _ from hx204_0)); (try have hy204_1 := fun (n_ : Nat) => (show ((((w16.drewN n_).setCell ⟨gb203, 0, none⟩ (.string ((rd_T101 l0 x7_1).f0))).setCell ⟨gb203, 1, none⟩ (.string ((rd_T101 l0 x7_1).f1)))).cell? _ = some _ from hx204_1)); clear hn204_0; clear hn204_1; replace p204 := eq_true p204; replace q204 := eq_true q204))
            repeat (go_quiet (first | ((with_reducible refine gate_dst (N := 4) rfl ?_); (try (refine gate_guard (by rfl) ?_; dsimp only)); refine box_event ?hg (N := 4) ?hd (cs := #[.string (⟨#[]⟩ : ByteArray), .string (⟨#[]⟩ : ByteArray)]) (t := 101) ?hr ?_; (case hd => rfl); (case hg => rfl); (case hr => first | (go_simp; done) | (go_simp; rfl)); intro gb203 hg w16 hbox hb; have n0_ := zq9 (below_step (by repeat (first | (with_reducible first | exact HB.out | apply zq5 | apply zq3 | apply zq4) | exact HB.out | exact Below.refl _ _)) hb); have n1_ := zq9 (hbox); have n2_ := zq9 ((by rw [hg]; exact (below_size (by repeat (first | (with_reducible first | exact HB.out | apply zq5 | apply zq3 | apply zq4) | exact HB.out | exact Below.refl _ _))) : w.heap.size ≤ gb203)); have n3_ := zq9 ((by rw [hg]; exact (below_size (by repeat (first | (with_reducible first | exact HB.out | apply zq5 | apply zq3 | apply zq4) | exact HB.out | exact Below.refl _ _))) : w.heap.size ≤ gb203)); clear HB; have HB := n0_; have BK203 := n1_; have GW203 := n2_; have GE203 := n3_; clear n0_ n1_ n2_ n3_; clear hb hbox hg; have hcz17_0 : w16.cell? ⟨gb203, 0, none⟩ = some (.string (⟨#[]⟩ : ByteArray)) := (zq7 BK203.out 0).trans rfl; have hcz17_1 : w16.cell? ⟨gb203, 1, none⟩ = some (.string (⟨#[]⟩ : ByteArray)) := (zq7 BK203.out 1).trans rfl; have hfz17_0 := zq6 BK203.out 0; have hfz17_1 := zq6 BK203.out 1; have p204 : 0 ≤ ((ji12) : Int) := of_decide_eq_true (by first | (with_reducible assumption) | assumption); have q204 : (ji12) < (l0.length : Int) := of_decide_eq_true (by first | (with_reducible assumption) | assumption); obtain ⟨ad204, e204, hx204_0, hx204_1⟩ := at_T101 HR0.out (ji12) p204 q204; obtain rfl : ad202 = ad204 := (by injection e204); have hn204_0 : ad202.block ≠ gb203 := Nat.ne_of_lt (Nat.lt_of_lt_of_le (by have := zq8 _ _ hx204_0; first | rwa [add_block] at this | exact this) GW203.out); have hn204_1 : ad202.block ≠ gb203 := Nat.ne_of_lt (Nat.lt_of_lt_of_le (by have := zq8 _ _ hx204_0; first | rwa [add_block] at this | exact this) GW203.out); replace hx204_0 := (HB.out.cell (zq8 w _ hx204_0)).trans hx204_0; replace hx204_1 := (HB.out.cell (zq8 w _ hx204_1)).trans hx204_1; replace hx204_0 := (cell_far (p := ⟨gb203, 0, none⟩) (by first | (rw [add_block]; exact hn204_0) | (show (Addr.add _ _).block ≠ _; rw [add_block]; exact hn204_0) | exact hn204_0) (.string ((rd_T101 l0 x7_1).f0))).trans hx204_0; replace hx204_1 := (cell_far (p := ⟨gb203, 0, none⟩) (by first | (rw [add_block]; exact hn204_0) | (show (Addr.add _ _).block ≠ _; rw [add_block]; exact hn204_0) | exact hn204_0) (.string ((rd_T101 l0 x7_1).f0))).trans hx204_1; replace hx204_0 := (cell_far (p := ⟨gb203, 1, none⟩) (by first | (rw [add_block]; exact hn204_1) | (show (Addr.add _ _).block ≠ _; rw [add_block]; exact hn204_1) | exact hn204_1) (.string ((rd_T101 l0 x7_1).f1))).trans hx204_0; replace hx204_1 := (cell_far (p := ⟨gb203, 1, none⟩) (by first | (rw [add_block]; exact hn204_1) | (show (Addr.add _ _).block ≠ _; rw [add_block]; exact hn204_1) | exact hn204_1) (.string ((rd_T101 l0 x7_1).f1))).trans hx204_1; (try have hy204_0 := fun (n_ : Nat) => (show ((((w16.drewN n_).setCell ⟨gb203, 0, none⟩ (.string ((rd_T101 l0 x7_1).f0))).setCell ⟨gb203, 1, none⟩ (.string ((rd_T101 l0 x7_1).f1)))).cell? _ = some _ from hx204_0)); (try have hy204_1 := fun (n_ : Nat) => (show ((((w16.drewN n_).setCell ⟨gb203, 0, none⟩ (.string ((rd_T101 l0 x7_1).f0))).setCell ⟨gb203, 1, none⟩ (.string ((rd_T101 l0 x7_1).f1)))).cell? _ = some _ from hx204_1)); clear hn204_0; clear hn204_1; replace p204 := eq_true p204; replace q204 := eq_true q204)); try go_wp2_with (first | ((with_reducible refine gate_dst (N := 4) rfl ?_); (try (refine gate_guard (by rfl) ?_; dsimp only)); refine box_event ?hg (N := 4) ?hd (cs := #[.string (⟨#[]⟩ : ByteArray), .string (⟨#[]⟩ : ByteArray)]) (t := 101) ?hr ?_; (case hd => rfl); (case hg => rfl); (case hr => first | (go_simp; done) | (go_simp; rfl)); intro gb203 hg w16 hbox hb; have n0_ := zq9 (below_step (by repeat (first | (with_reducible first | exact HB.out | apply zq5 | apply zq3 | apply zq4) | exact HB.out | exact Below.refl _ _)) hb); have n1_ := zq9 (hbox); have n2_ := zq9 ((by rw [hg]; exact (below_size (by repeat (first | (with_reducible first | exact HB.out | apply zq5 | apply zq3 | apply zq4) | exact HB.out | exact Below.refl _ _))) : w.heap.size ≤ gb203)); have n3_ := zq9 ((by rw [hg]; exact (below_size (by repeat (first | (with_reducible first | exact HB.out | apply zq5 | apply zq3 | apply zq4) | exact HB.out | exact Below.refl _ _))) : w.heap.size ≤ gb203)); clear HB; have HB := n0_; have BK203 := n1_; have GW203 := n2_; have GE203 := n3_; clear n0_ n1_ n2_ n3_; clear hb hbox hg; have hcz17_0 : w16.cell? ⟨gb203, 0, none⟩ = some (.string (⟨#[]⟩ : ByteArray)) := (zq7 BK203.out 0).trans rfl; have hcz17_1 : w16.cell? ⟨gb203, 1, none⟩ = some (.string (⟨#[]⟩ : ByteArray)) := (zq7 BK203.out 1).trans rfl; have hfz17_0 := zq6 BK203.out 0; have hfz17_1 := zq6 BK203.out 1; have p204 : 0 ≤ ((ji12) : Int) := of_decide_eq_true (by first | (with_reducible assumption) | assumption); have q204 : (ji12) < (l0.length : Int) := of_decide_eq_true (by first | (with_reducible assumption) | assumption); obtain ⟨ad204, e204, hx204_0, hx204_1⟩ := at_T101 HR0.out (ji12) p204 q204; obtain rfl : ad202 = ad204 := (by injection e204); have hn204_0 : ad202.block ≠ gb203 := Nat.ne_of_lt (Nat.lt_of_lt_of_le (by have := zq8 _ _ hx204_0; first | rwa [add_block] at this | exact this) GW203.out); have hn204_1 : ad202.block ≠ gb203 := Nat.ne_of_lt (Nat.lt_of_lt_of_le (by have := zq8 _ _ hx204_0; first | rwa [add_block] at this | exact this) GW203.out); replace hx204_0 := (HB.out.cell (zq8 w _ hx204_0)).trans hx204_0; replace hx204_1 := (HB.out.cell (zq8 w _ hx204_1)).trans hx204_1; replace hx204_0 := (cell_far (p := ⟨gb203, 0, none⟩) (by first | (rw [add_block]; exact hn204_0) | (show (Addr.add _ _).block ≠ _; rw [add_block]; exact hn204_0) | exact hn204_0) (.string ((rd_T101 l0 x7_1).f0))).trans hx204_0; replace hx204_1 := (cell_far (p := ⟨gb203, 0, none⟩) (by first | (rw [add_block]; exact hn204_0) | (show (Addr.add _ _).block ≠ _; rw [add_block]; exact hn204_0) | exact hn204_0) (.string ((rd_T101 l0 x7_1).f0))).trans hx204_1; replace hx204_0 := (cell_far (p := ⟨gb203, 1, none⟩) (by first | (rw [add_block]; exact hn204_1) | (show (Addr.add _ _).block ≠ _; rw [add_block]; exact hn204_1) | exact hn204_1) (.string ((rd_T101 l0 x7_1).f1))).trans hx204_0; replace hx204_1 := (cell_far (p := ⟨gb203, 1, none⟩) (by first | (rw [add_block]; exact hn204_1) | (show (Addr.add _ _).block ≠ _; rw [add_block]; exact hn204_1) | exact hn204_1) (.string ((rd_T101 l0 x7_1).f1))).trans hx204_1; (try have hy204_0 := fun (n_ : Nat) => (show ((((w16.drewN n_).setCell ⟨gb203, 0, none⟩ (.string ((rd_T101 l0 x7_1).f0))).setCell ⟨gb203, 1, none⟩ (.string ((rd_T101 l0 x7_1).f1)))).cell? _ = some _ from hx204_0)); (try have hy204_1 := fun (n_ : Nat) => (show ((((w16.drewN n_).setCell ⟨gb203, 0, none⟩ (.string ((rd_T101 l0 x7_1).f0))).setCell ⟨gb203, 1, none⟩ (.string ((rd_T101 l0 x7_1).f1)))).cell? _ = some _ from hx204_1)); clear hn204_0; clear hn204_1; replace p204 := eq_true p204; replace q204 := eq_true q204)))
            go_roundg k1
            case measure => have := HK1.out; omega
            case rel => exact ⟨(wrap64 (x7_1 + 1)), (by first | rfl | (simp; done) | (simp [*]; done)), H', ⟨by have := HK1.out; omega⟩, ⟨by repeat (first | (with_reducible first | exact HB.out | apply zq5 | apply zq3 | apply zq4 | refine below_set ?_ GE203.out) | exact HB.out)⟩⟩
           ·rw [if_neg c15] at H
            have c15b0 : (Op.bytesLess (((rd_T101 l0 (ji12)).f0).toList) (((rd_T101 l0 x7_1).f0).toList)) = false := by simpa using c15
            clear c15
            obtain rfl := Option.some.inj H
            have p202 : 0 ≤ (x7_1 : Int) := of_decide_eq_true (by first | (with_reducible assumption) | assumption)
            have q202 : x7_1 < (l0.length : Int) := of_decide_eq_true (by first | (with_reducible assumption) | assumption)
            obtain ⟨ad202, e202, hx202_0, hx202_1⟩ := at_T101 HR0.out x7_1 p202 q202
            cases e202
            replace hx202_0 := (HB.out.cell (zq8 w _ hx202_0)).trans hx202_0
            replace hx202_1 := (HB.out.cell (zq8 w _ hx202_1)).trans hx202_1
            replace p202 := eq_true p202
            replace q202 := eq_true q202
            go_wp2_with (first | ((with_reducible refine gate_dst (N := 4) rfl ?_); (try (refine gate_guard (by rfl) ?_; dsimp only)); refine box_event ?hg (N := 4) ?hd (cs := #[.string (⟨#[]⟩ : ByteArray), .string (⟨#[]⟩ : ByteArray)]) (t := 101) ?hr ?_; (case hd => rfl); (case hg => rfl); (case hr => first | (go_simp; done) | (go_simp; rfl)); intro gb203 hg w18 hbox hb; have n0_ := zq9 (below_step (by repeat (first | (with_reducible first | exact HB.out | apply zq5 | apply zq3 | apply zq4) | exact HB.out | exact Below.refl _ _)) hb); have n1_ := zq9 (hbox); have n2_ := zq9 ((by rw [hg]; exact (below_size (by repeat (first | (with_reducible first | exact HB.out | apply zq5 | apply zq3 | apply zq4) | exact HB.out | exact Below.refl _ _))) : w.heap.size ≤ gb203)); have n3_ := zq9 ((by rw [hg]; exact (below_size (by repeat (first | (with_reducible first | exact HB.out | apply zq5 | apply zq3 | apply zq4) | exact HB.out | exact Below.refl _ _))) : w.heap.size ≤ gb203)); clear HB; have HB := n0_; have BK203 := n1_; have GW203 := n2_; have GE203 := n3_; clear n0_ n1_ n2_ n3_; clear hb hbox hg; have hcz19_0 : w18.cell? ⟨gb203, 0, none⟩ = some (.string (⟨#[]⟩ : ByteArray)) := (zq7 BK203.out 0).trans rfl; have hcz19_1 : w18.cell? ⟨gb203, 1, none⟩ = some (.string (⟨#[]⟩ : ByteArray)) := (zq7 BK203.out 1).trans rfl; have hfz19_0 := zq6 BK203.out 0; have hfz19_1 := zq6 BK203.out 1; have p204 : 0 ≤ ((ji12) : Int) := of_decide_eq_true (by first | (with_reducible assumption) | assumption); have q204 : (ji12) < (l0.length : Int) := of_decide_eq_true (by first | (with_reducible assumption) | assumption); obtain ⟨ad204, e204, hx204_0, hx204_1⟩ := at_T101 HR0.out (ji12) p204 q204; obtain rfl : ad202 = ad204 := (by injection e204); have hn204_0 : ad202.block ≠ gb203 := Nat.ne_of_lt (Nat.lt_of_lt_of_le (by have := zq8 _ _ hx204_0; first | rwa [add_block] at this | exact this) GW203.out); have hn204_1 : ad202.block ≠ gb203 := Nat.ne_of_lt (Nat.lt_of_lt_of_le (by have := zq8 _ _ hx204_0; first | rwa [add_block] at this | exact this) GW203.out); replace hx204_0 := (HB.out.cell (zq8 w _ hx204_0)).trans hx204_0; replace hx204_1 := (HB.out.cell (zq8 w _ hx204_1)).trans hx204_1; replace hx204_0 := (cell_far (p := ⟨gb203, 0, none⟩) (by first | (rw [add_block]; exact hn204_0) | (show (Addr.add _ _).block ≠ _; rw [add_block]; exact hn204_0) | exact hn204_0) (.string ((rd_T101 l0 x7_1).f0))).trans hx204_0; replace hx204_1 := (cell_far (p := ⟨gb203, 0, none⟩) (by first | (rw [add_block]; exact hn204_0) | (show (Addr.add _ _).block ≠ _; rw [add_block]; exact hn204_0) | exact hn204_0) (.string ((rd_T101 l0 x7_1).f0))).trans hx204_1; replace hx204_0 := (cell_far (p := ⟨gb203, 1, none⟩) (by first | (rw [add_block]; exact hn204_1) | (show (Addr.add _ _).block ≠ _; rw [add_block]; exact hn204_1) | exact hn204_1) (.string ((rd_T101 l0 x7_1).f1))).trans hx204_0; replace hx204_1 := (cell_far (p := ⟨gb203, 1, none⟩) (by first | (rw [add_block]; exact hn204_1) | (show (Addr.add _ _).block ≠ _; rw [add_block]; exact hn204_1) | exact hn204_1) (.string ((rd_T101 l0 x7_1).f1))).trans hx204_1; (try have hy204_0 := fun (n_ : Nat) => (show ((((w18.drewN n_).setCell ⟨gb203, 0, none⟩ (.string ((rd_T101 l0 x7_1).f0))).setCell ⟨gb203, 1, none⟩ (.string ((rd_T101 l0 x7_1).f1)))).cell? _ = some _ from hx204_0)); (try have hy204_1 := fun (n_ : Nat) => (show ((((w18.drewN n_).setCell ⟨gb203, 0, none⟩ (.string ((rd_T101 l0 x7_1).f0))).setCell ⟨gb203, 1, none⟩ (.string ((rd_T101 l0 x7_1).f1)))).cell? _ = some _ from hx204_1)); clear hn204_0; clear hn204_1; replace p204 := eq_true p204; replace q204 := eq_true q204))
            repeat (go_quiet (first | ((with_reducible refine gate_dst (N := 4) rfl ?_); (try (refine gate_guard (by rfl) ?_; dsimp only)); refine box_event ?hg (N := 4) ?hd (cs := #[.string (⟨#[]⟩ : ByteArray), .string (⟨#[]⟩ : ByteArray)]) (t := 101) ?hr ?_; (case hd => rfl); (case hg => rfl); (case hr => first | (go_simp; done) | (go_simp; rfl)); intro gb203 hg w18 hbox hb; have n0_ := zq9 (below_step (by repeat (first | (with_reducible first | exact HB.out | apply zq5 | apply zq3 | apply zq4) | exact HB.out | exact Below.refl _ _)) hb); have n1_ := zq9 (hbox); have n2_ := zq9 ((by rw [hg]; exact (below_size (by repeat (first | (with_reducible first | exact HB.out | apply zq5 | apply zq3 | apply zq4) | exact HB.out | exact Below.refl _ _))) : w.heap.size ≤ gb203)); have n3_ := zq9 ((by rw [hg]; exact (below_size (by repeat (first | (with_reducible first | exact HB.out | apply zq5 | apply zq3 | apply zq4) | exact HB.out | exact Below.refl _ _))) : w.heap.size ≤ gb203)); clear HB; have HB := n0_; have BK203 := n1_; have GW203 := n2_; have GE203 := n3_; clear n0_ n1_ n2_ n3_; clear hb hbox hg; have hcz19_0 : w18.cell? ⟨gb203, 0, none⟩ = some (.string (⟨#[]⟩ : ByteArray)) := (zq7 BK203.out 0).trans rfl; have hcz19_1 : w18.cell? ⟨gb203, 1, none⟩ = some (.string (⟨#[]⟩ : ByteArray)) := (zq7 BK203.out 1).trans rfl; have hfz19_0 := zq6 BK203.out 0; have hfz19_1 := zq6 BK203.out 1; have p204 : 0 ≤ ((ji12) : Int) := of_decide_eq_true (by first | (with_reducible assumption) | assumption); have q204 : (ji12) < (l0.length : Int) := of_decide_eq_true (by first | (with_reducible assumption) | assumption); obtain ⟨ad204, e204, hx204_0, hx204_1⟩ := at_T101 HR0.out (ji12) p204 q204; obtain rfl : ad202 = ad204 := (by injection e204); have hn204_0 : ad202.block ≠ gb203 := Nat.ne_of_lt (Nat.lt_of_lt_of_le (by have := zq8 _ _ hx204_0; first | rwa [add_block] at this | exact this) GW203.out); have hn204_1 : ad202.block ≠ gb203 := Nat.ne_of_lt (Nat.lt_of_lt_of_le (by have := zq8 _ _ hx204_0; first | rwa [add_block] at this | exact this) GW203.out); replace hx204_0 := (HB.out.cell (zq8 w _ hx204_0)).trans hx204_0; replace hx204_1 := (HB.out.cell (zq8 w _ hx204_1)).trans hx204_1; replace hx204_0 := (cell_far (p := ⟨gb203, 0, none⟩) (by first | (rw [add_block]; exact hn204_0) | (show (Addr.add _ _).block ≠ _; rw [add_block]; exact hn204_0) | exact hn204_0) (.string ((rd_T101 l0 x7_1).f0))).trans hx204_0; replace hx204_1 := (cell_far (p := ⟨gb203, 0, none⟩) (by first | (rw [add_block]; exact hn204_0) | (show (Addr.add _ _).block ≠ _; rw [add_block]; exact hn204_0) | exact hn204_0) (.string ((rd_T101 l0 x7_1).f0))).trans hx204_1; replace hx204_0 := (cell_far (p := ⟨gb203, 1, none⟩) (by first | (rw [add_block]; exact hn204_1) | (show (Addr.add _ _).block ≠ _; rw [add_block]; exact hn204_1) | exact hn204_1) (.string ((rd_T101 l0 x7_1).f1))).trans hx204_0; replace hx204_1 := (cell_far (p := ⟨gb203, 1, none⟩) (by first | (rw [add_block]; exact hn204_1) | (show (Addr.add _ _).block ≠ _; rw [add_block]; exact hn204_1) | exact hn204_1) (.string ((rd_T101 l0 x7_1).f1))).trans hx204_1; (try have hy204_0 := fun (n_ : Nat) => (show ((((w18.drewN n_).setCell ⟨gb203, 0, none⟩ (.string ((rd_T101 l0 x7_1).f0))).setCell ⟨gb203, 1, none⟩ (.string ((rd_T101 l0 x7_1).f1)))).cell? _ = some _ from hx204_0)); (try have hy204_1 := fun (n_ : Nat) => (show ((((w18.drewN n_).setCell ⟨gb203, 0, none⟩ (.string ((rd_T101 l0 x7_1).f0))).setCell ⟨gb203, 1, none⟩ (.string ((rd_T101 l0 x7_1).f1)))).cell? _ = some _ from hx204_1)); clear hn204_0; clear hn204_1; replace p204 := eq_true p204; replace q204 := eq_true q204)); try go_wp2_with (first | ((with_reducible refine gate_dst (N := 4) rfl ?_); (try (refine gate_guard (by rfl) ?_; dsimp only)); refine box_event ?hg (N := 4) ?hd (cs := #[.string (⟨#[]⟩ : ByteArray), .string (⟨#[]⟩ : ByteArray)]) (t := 101) ?hr ?_; (case hd => rfl); (case hg => rfl); (case hr => first | (go_simp; done) | (go_simp; rfl)); intro gb203 hg w18 hbox hb; have n0_ := zq9 (below_step (by repeat (first | (with_reducible first | exact HB.out | apply zq5 | apply zq3 | apply zq4) | exact HB.out | exact Below.refl _ _)) hb); have n1_ := zq9 (hbox); have n2_ := zq9 ((by rw [hg]; exact (below_size (by repeat (first | (with_reducible first | exact HB.out | apply zq5 | apply zq3 | apply zq4) | exact HB.out | exact Below.refl _ _))) : w.heap.size ≤ gb203)); have n3_ := zq9 ((by rw [hg]; exact (below_size (by repeat (first | (with_reducible first | exact HB.out | apply zq5 | apply zq3 | apply zq4) | exact HB.out | exact Below.refl _ _))) : w.heap.size ≤ gb203)); clear HB; have HB := n0_; have BK203 := n1_; have GW203 := n2_; have GE203 := n3_; clear n0_ n1_ n2_ n3_; clear hb hbox hg; have hcz19_0 : w18.cell? ⟨gb203, 0, none⟩ = some (.string (⟨#[]⟩ : ByteArray)) := (zq7 BK203.out 0).trans rfl; have hcz19_1 : w18.cell? ⟨gb203, 1, none⟩ = some (.string (⟨#[]⟩ : ByteArray)) := (zq7 BK203.out 1).trans rfl; have hfz19_0 := zq6 BK203.out 0; have hfz19_1 := zq6 BK203.out 1; have p204 : 0 ≤ ((ji12) : Int) := of_decide_eq_true (by first | (with_reducible assumption) | assumption); have q204 : (ji12) < (l0.length : Int) := of_decide_eq_true (by first | (with_reducible assumption) | assumption); obtain ⟨ad204, e204, hx204_0, hx204_1⟩ := at_T101 HR0.out (ji12) p204 q204; obtain rfl : ad202 = ad204 := (by injection e204); have hn204_0 : ad202.block ≠ gb203 := Nat.ne_of_lt (Nat.lt_of_lt_of_le (by have := zq8 _ _ hx204_0; first | rwa [add_block] at this | exact this) GW203.out); have hn204_1 : ad202.block ≠ gb203 := Nat.ne_of_lt (Nat.lt_of_lt_of_le (by have := zq8 _ _ hx204_0; first | rwa [add_block] at this | exact this) GW203.out); replace hx204_0 := (HB.out.cell (zq8 w _ hx204_0)).trans hx204_0; replace hx204_1 := (HB.out.cell (zq8 w _ hx204_1)).trans hx204_1; replace hx204_0 := (cell_far (p := ⟨gb203, 0, none⟩) (by first | (rw [add_block]; exact hn204_0) | (show (Addr.add _ _).block ≠ _; rw [add_block]; exact hn204_0) | exact hn204_0) (.string ((rd_T101 l0 x7_1).f0))).trans hx204_0; replace hx204_1 := (cell_far (p := ⟨gb203, 0, none⟩) (by first | (rw [add_block]; exact hn204_0) | (show (Addr.add _ _).block ≠ _; rw [add_block]; exact hn204_0) | exact hn204_0) (.string ((rd_T101 l0 x7_1).f0))).trans hx204_1; replace hx204_0 := (cell_far (p := ⟨gb203, 1, none⟩) (by first | (rw [add_block]; exact hn204_1) | (show (Addr.add _ _).block ≠ _; rw [add_block]; exact hn204_1) | exact hn204_1) (.string ((rd_T101 l0 x7_1).f1))).trans hx204_0; replace hx204_1 := (cell_far (p := ⟨gb203, 1, none⟩) (by first | (rw [add_block]; exact hn204_1) | (show (Addr.add _ _).block ≠ _; rw [add_block]; exact hn204_1) | exact hn204_1) (.string ((rd_T101 l0 x7_1).f1))).trans hx204_1; (try have hy204_0 := fun (n_ : Nat) => (show ((((w18.drewN n_).setCell ⟨gb203, 0, none⟩ (.string ((rd_T101 l0 x7_1).f0))).setCell ⟨gb203, 1, none⟩ (.string ((rd_T101 l0 x7_1).f1)))).cell? _ = some _ from hx204_0)); (try have hy204_1 := fun (n_ : Nat) => (show ((((w18.drewN n_).setCell ⟨gb203, 0, none⟩ (.string ((rd_T101 l0 x7_1).f0))).setCell ⟨gb203, 1, none⟩ (.string ((rd_T101 l0 x7_1).f1)))).cell? _ = some _ from hx204_1)); clear hn204_0; clear hn204_1; replace p204 := eq_true p204; replace q204 := eq_true q204)))
            go_ret
            exact ⟨by first | rfl | (simp [errW_none, errW_some] <;> rfl) | (simp only [← hji12]; first | rfl | (simp [errW_none, errW_some] <;> rfl)) | (simp [*, errW_none, errW_some] <;> rfl), by repeat (first | (with_reducible first | exact HB.out | apply zq5 | apply zq3 | apply zq4 | refine below_set ?_ GE203.out) | exact HB.out)⟩
          ·rw [if_neg c14] at H
           exact absurd H (by simp)
         ·rw [if_neg c13] at H
          exact absurd H (by simp)
        ·rw [if_neg c11] at H
         have c11b0 : decide (0 < x7_1) = false := decide_eq_false c11
         clear c11
         have H' := zq9 H
         clear H
         have p202 : 0 ≤ (x7_1 : Int) := of_decide_eq_true (by first | (with_reducible assumption) | assumption)
         have q202 : x7_1 < (l0.length : Int) := of_decide_eq_true (by first | (with_reducible assumption) | assumption)
         obtain ⟨ad202, e202, hx202_0, hx202_1⟩ := at_T101 HR0.out x7_1 p202 q202
         cases e202
         replace hx202_0 := (HB.out.cell (zq8 w _ hx202_0)).trans hx202_0
         replace hx202_1 := (HB.out.cell (zq8 w _ hx202_1)).trans hx202_1
         replace p202 := eq_true p202
         replace q202 := eq_true q202
         go_wp2_with (first | ((with_reducible refine gate_dst (N := 4) rfl ?_); (try (refine gate_guard (by rfl) ?_; dsimp only)); refine box_event ?hg (N := 4) ?hd (cs := #[.string (⟨#[]⟩ : ByteArray), .string (⟨#[]⟩ : ByteArray)]) (t := 101) ?hr ?_; (case hd => rfl); (case hg => rfl); (case hr => first | (go_simp; done) | (go_simp; rfl)); intro gb203 hg w20 hbox hb; have n0_ := zq9 (below_step (by repeat (first | (with_reducible first | exact HB.out | apply zq5 | apply zq3 | apply zq4) | exact HB.out | exact Below.refl _ _)) hb); have n1_ := zq9 (hbox); have n2_ := zq9 ((by rw [hg]; exact (below_size (by repeat (first | (with_reducible first | exact HB.out | apply zq5 | apply zq3 | apply zq4) | exact HB.out | exact Below.refl _ _))) : w.heap.size ≤ gb203)); have n3_ := zq9 ((by rw [hg]; exact (below_size (by repeat (first | (with_reducible first | exact HB.out | apply zq5 | apply zq3 | apply zq4) | exact HB.out | exact Below.refl _ _))) : w.heap.size ≤ gb203)); clear HB; have HB := n0_; have BK203 := n1_; have GW203 := n2_; have GE203 := n3_; clear n0_ n1_ n2_ n3_; clear hb hbox hg; have hcz21_0 : w20.cell? ⟨gb203, 0, none⟩ = some (.string (⟨#[]⟩ : ByteArray)) := (zq7 BK203.out 0).trans rfl; have hcz21_1 : w20.cell? ⟨gb203, 1, none⟩ = some (.string (⟨#[]⟩ : ByteArray)) := (zq7 BK203.out 1).trans rfl; have hfz21_0 := zq6 BK203.out 0; have hfz21_1 := zq6 BK203.out 1))
         repeat (go_quiet (first | ((with_reducible refine gate_dst (N := 4) rfl ?_); (try (refine gate_guard (by rfl) ?_; dsimp only)); refine box_event ?hg (N := 4) ?hd (cs := #[.string (⟨#[]⟩ : ByteArray), .string (⟨#[]⟩ : ByteArray)]) (t := 101) ?hr ?_; (case hd => rfl); (case hg => rfl); (case hr => first | (go_simp; done) | (go_simp; rfl)); intro gb203 hg w20 hbox hb; have n0_ := zq9 (below_step (by repeat (first | (with_reducible first | exact HB.out | apply zq5 | apply zq3 | apply zq4) | exact HB.out | exact Below.refl _ _)) hb); have n1_ := zq9 (hbox); have n2_ := zq9 ((by rw [hg]; exact (below_size (by repeat (first | (with_reducible first | exact HB.out | apply zq5 | apply zq3 | apply zq4) | exact HB.out | exact Below.refl _ _))) : w.heap.size ≤ gb203)); have n3_ := zq9 ((by rw [hg]; exact (below_size (by repeat (first | (with_reducible first | exact HB.out | apply zq5 | apply zq3 | apply zq4) | exact HB.out | exact Below.refl _ _))) : w.heap.size ≤ gb203)); clear HB; have HB := n0_; have BK203 := n1_; have GW203 := n2_; have GE203 := n3_; clear n0_ n1_ n2_ n3_; clear hb hbox hg; have hcz21_0 : w20.cell? ⟨gb203, 0, none⟩ = some (.string (⟨#[]⟩ : ByteArray)) := (zq7 BK203.out 0).trans rfl; have hcz21_1 : w20.cell? ⟨gb203, 1, none⟩ = some (.string (⟨#[]⟩ : ByteArray)) := (zq7 BK203.out 1).trans rfl; have hfz21_0 := zq6 BK203.out 0; have hfz21_1 := zq6 BK203.out 1)); try go_wp2_with (first | ((with_reducible refine gate_dst (N := 4) rfl ?_); (try (refine gate_guard (by rfl) ?_; dsimp only)); refine box_event ?hg (N := 4) ?hd (cs := #[.string (⟨#[]⟩ : ByteArray), .string (⟨#[]⟩ : ByteArray)]) (t := 101) ?hr ?_; (case hd => rfl); (case hg => rfl); (case hr => first | (go_simp; done) | (go_simp; rfl)); intro gb203 hg w20 hbox hb; have n0_ := zq9 (below_step (by repeat (first | (with_reducible first | exact HB.out | apply zq5 | apply zq3 | apply zq4) | exact HB.out | exact Below.refl _ _)) hb); have n1_ := zq9 (hbox); have n2_ := zq9 ((by rw [hg]; exact (below_size (by repeat (first | (with_reducible first | exact HB.out | apply zq5 | apply zq3 | apply zq4) | exact HB.out | exact Below.refl _ _))) : w.heap.size ≤ gb203)); have n3_ := zq9 ((by rw [hg]; exact (below_size (by repeat (first | (with_reducible first | exact HB.out | apply zq5 | apply zq3 | apply zq4) | exact HB.out | exact Below.refl _ _))) : w.heap.size ≤ gb203)); clear HB; have HB := n0_; have BK203 := n1_; have GW203 := n2_; have GE203 := n3_; clear n0_ n1_ n2_ n3_; clear hb hbox hg; have hcz21_0 : w20.cell? ⟨gb203, 0, none⟩ = some (.string (⟨#[]⟩ : ByteArray)) := (zq7 BK203.out 0).trans rfl; have hcz21_1 : w20.cell? ⟨gb203, 1, none⟩ = some (.string (⟨#[]⟩ : ByteArray)) := (zq7 BK203.out 1).trans rfl; have hfz21_0 := zq6 BK203.out 0; have hfz21_1 := zq6 BK203.out 1)))
         go_roundg k1
         case measure => have := HK1.out; omega
         case rel => exact ⟨(wrap64 (x7_1 + 1)), (by first | rfl | (simp; done) | (simp [*]; done)), H', ⟨by have := HK1.out; omega⟩, ⟨by repeat (first | (with_reducible first | exact HB.out | apply zq5 | apply zq3 | apply zq4 | refine below_set ?_ GE203.out) | exact HB.out)⟩⟩
     ·rw [if_neg c4] at H
      exact absurd H (by simp)
    ·rw [if_neg c3] at H
     exact absurd H (by simp)
   ·rw [if_neg c2] at H
    have c2b0 : decide (x7_1 < (l0.length : Int)) = false := decide_eq_false c2
    clear c2
    obtain rfl := Option.some.inj H
    go_wp2
    repeat (go_quiet (fail); try go_wp2)
    go_ret
    exact ⟨by first | rfl | (simp [errW_none, errW_some] <;> rfl) | (simp [*, errW_none, errW_some] <;> rfl), by repeat (first | (with_reducible first | exact HB.out | apply zq5 | apply zq3 | apply zq4) | exact HB.out | exact Below.refl _ _)⟩
end Go.Proofs.Ytnkgmcgbbldkgaa.P
namespace Go.Proofs.Ytnkgmcgbbldkgaa.P
open Go.RowKit Go.Proofs.YtnkgmcgbbldkgaaW.PrintWords Go.Proofs.YtnkgmcgbbldkgaaW.PrintLast Go.Proofs.YtnkgmcgbbldkgaaW.PrintMore
attribute [local go_sem] max2_int min2_int max_two min_two max_three min_three max_four min_four   -- for this text's walks alone
set_option linter.unusedVariables false
set_option linter.unusedSimpArgs false
set_option maxHeartbeats 8000000 in
set_option maxRecDepth 100000 in
theorem impl_EntryOk.calls (k : Nat) (a0_0 : ByteArray) (a0_1 : Int) (a0_2 : Int) (a0_3 : ByteArray) (A0_4 : Option Addr) (c0_4 : Nat) (l0_4 : List ByteArray) (A0_5 : Option Addr) (c0_5 : Nat) (l0_5 : List (S99)) (A0_6 : Option Addr) (c0_6 : Nat) (l0_6 : List (S101)) (r : Bool) (w : World) (hr0_4 : Kd.C Kd.string w A0_4 l0_4.length l0_4) (hc0_4 : l0_4.length ≤ c0_4) (hr0_5 : Kd.C k99 w A0_5 l0_5.length l0_5) (hc0_5 : l0_5.length ≤ c0_5) (hr0_6 : Kd.C k101 w A0_6 l0_6.length l0_6) (hc0_6 : l0_6.length ≤ c0_6) (h : impl_EntryOk.f k a0_0 a0_1 a0_2 a0_3 l0_4 l0_5 l0_6 = some r) :
  Calls Try.prog 13 #[.agg #[.string a0_0, .int .i64 a0_1, .int .i64 a0_2, .string a0_3, .slice A0_4 l0_4.length c0_4, .slice A0_5 l0_5.length c0_5, .slice A0_6 l0_6.length c0_6]] w fun e w' => e = .returned (.bool r) ∧ Below w.heap.size w w' := by
 have hu32 := Try.underlying32
 have HR0_4 := zq9 hr0_4
 have HC0_4 := zq9 hc0_4
 clear hr0_4 hc0_4
 have HR0_5 := zq9 hr0_5
 have HC0_5 := zq9 hc0_5
 clear hr0_5 hc0_5
 have HR0_6 := zq9 hr0_6
 have HC0_6 := zq9 hc0_6
 clear hr0_6 hc0_6
 have HB := zq9 (Below.refl w.heap.size w)
 have H : ((impl_keyOk.f a0_0).bind fun t206 => (if t206 = true then ((impl_within.f a0_1 0 2000000).bind fun t207 => (impl_EntryOk.j0 k (!t207) a0_0 a0_1 a0_2 a0_3 l0_4 l0_5 l0_6)) else (impl_EntryOk.j0 k true a0_0 a0_1 a0_2 a0_3 l0_4 l0_5 l0_6))) = some r := h
 clear h
 have HC2 := zq9 H
 clear H
 go_enter Try.func13, Try.ntmps13
 go_upto_region 1 with (first | ((with_reducible refine gate_dst (N := 1) rfl ?_); refine box_event ?hg (N := 1) ?hd (cs := #[.string a0_0, .int .i64 a0_1, .int .i64 a0_2, .string a0_3, .slice A0_4 l0_4.length c0_4, .slice A0_5 l0_5.length c0_5, .slice A0_6 l0_6.length c0_6]) (t := 32) ?hr ?_; (case hd => rfl); (case hg => rfl); (case hr => first | (go_simp; done) | (go_simp; rfl)); intro gb205 hg w3 hbox hb; have n0_ := zq9 (below_step (by repeat (first | (with_reducible first | exact HB.out | apply zq5 | apply zq3 | apply zq4) | exact HB.out | exact Below.refl _ _)) hb); have n1_ := zq9 (hbox); have n2_ := zq9 ((by rw [hg]; exact (below_size (by repeat (first | (with_reducible first | exact HB.out | apply zq5 | apply zq3 | apply zq4) | exact HB.out | exact Below.refl _ _))) : w.heap.size ≤ gb205)); have n3_ := zq9 ((by rw [hg]; exact (below_size (by repeat (first | (with_reducible first | exact HB.out | apply zq5 | apply zq3 | apply zq4) | exact HB.out | exact Below.refl _ _))) : w.heap.size ≤ gb205)); clear HB; have HB := n0_; have BK205 := n1_; have GW205 := n2_; have GE205 := n3_; clear n0_ n1_ n2_ n3_; clear hb hbox hg))
 repeat (go_quiet (first | ((with_reducible refine gate_dst (N := 1) rfl ?_); refine box_event ?hg (N := 1) ?hd (cs := #[.string a0_0, .int .i64 a0_1, .int .i64 a0_2, .string a0_3, .slice A0_4 l0_4.length c0_4, .slice A0_5 l0_5.length c0_5, .slice A0_6 l0_6.length c0_6]) (t := 32) ?hr ?_; (case hd => rfl); (case hg => rfl); (case hr => first | (go_simp; done) | (go_simp; rfl)); intro gb205 hg w3 hbox hb; have n0_ := zq9 (below_step (by repeat (first | (with_reducible first | exact HB.out | apply zq5 | apply zq3 | apply zq4) | exact HB.out | exact Below.refl _ _)) hb); have n1_ := zq9 (hbox); have n2_ := zq9 ((by rw [hg]; exact (below_size (by repeat (first | (with_reducible first | exact HB.out | apply zq5 | apply zq3 | apply zq4) | exact HB.out | exact Below.refl _ _))) : w.heap.size ≤ gb205)); have n3_ := zq9 ((by rw [hg]; exact (below_size (by repeat (first | (with_reducible first | exact HB.out | apply zq5 | apply zq3 | apply zq4) | exact HB.out | exact Below.refl _ _))) : w.heap.size ≤ gb205)); clear HB; have HB := n0_; have BK205 := n1_; have GW205 := n2_; have GE205 := n3_; clear n0_ n1_ n2_ n3_; clear hb hbox hg)); go_upto_region 1 with (first | ((with_reducible refine gate_dst (N := 1) rfl ?_); refine box_event ?hg (N := 1) ?hd (cs := #[.string a0_0, .int .i64 a0_1, .int .i64 a0_2, .string a0_3, .slice A0_4 l0_4.length c0_4, .slice A0_5 l0_5.length c0_5, .slice A0_6 l0_6.length c0_6]) (t := 32) ?hr ?_; (case hd => rfl); (case hg => rfl); (case hr => first | (go_simp; done) | (go_simp; rfl)); intro gb205 hg w3 hbox hb; have n0_ := zq9 (below_step (by repeat (first | (with_reducible first | exact HB.out | apply zq5 | apply zq3 | apply zq4) | exact HB.out | exact Below.refl _ _)) hb); have n1_ := zq9 (hbox); have n2_ := zq9 ((by rw [hg]; exact (below_size (by repeat (first | (with_reducible first | exact HB.out | apply zq5 | apply zq3 | apply zq4) | exact HB.out | exact Below.refl _ _))) : w.heap.size ≤ gb205)); have n3_ := zq9 ((by rw [hg]; exact (below_size (by repeat (first | (with_reducible first | exact HB.out | apply zq5 | apply zq3 | apply zq4) | exact HB.out | exact Below.refl _ _))) : w.heap.size ≤ gb205)); clear HB; have HB := n0_; have BK205 := n1_; have GW205 := n2_; have GE205 := n3_; clear n0_ n1_ n2_ n3_; clear hb hbox hg)))
 (try simp only [Act.put, zq0, zq1, zq2])
 go_cut [16] (fun v16 wc => ∃ (kq : Nat) (x16_1 : Bool), v16 = .bool x16_1 ∧ Aside0 (impl_EntryOk.j0 kq x16_1 a0_0 a0_1 a0_2 a0_3 l0_4 l0_5 l0_6 = some r) ∧ Aside0 (kq ≤ k) ∧ Aside0 (wc.heap[gb205]? = some (.cells #[.string a0_0, .int .i64 a0_1, .int .i64 a0_2, .string a0_3, (.slice A0_4 l0_4.length c0_4), (.slice A0_5 l0_5.length c0_5), (.slice A0_6 l0_6.length c0_6)] 32 (0, 0))) ∧ Aside0 (Below w.heap.size w wc))
 case first =>
  have H := HC2.out
  clear HC2
  replace H := Option.bind_eq_some_iff.mp H
  obtain ⟨t206, A40, H⟩ := H
  replace H : (if t206 = true then ((impl_within.f a0_1 0 2000000).bind fun t207 => (impl_EntryOk.j0 k (!t207) a0_0 a0_1 a0_2 a0_3 l0_4 l0_5 l0_6)) else (impl_EntryOk.j0 k true a0_0 a0_1 a0_2 a0_3 l0_4 l0_5 l0_6)) = some r := H
  have A4 := zq9 A40
  clear A40
  by_cases c5 : t206 = true
  ·subst c5
   have H1 : ((impl_within.f a0_1 0 2000000).bind fun t207 => (impl_EntryOk.j0 k (!t207) a0_0 a0_1 a0_2 a0_3 l0_4 l0_5 l0_6)) = some r := by rw [if_pos rfl] at H; exact H
   clear H
   have H := H1
   clear H1
   replace H := Option.bind_eq_some_iff.mp H
   obtain ⟨t207, A60, H⟩ := H
   replace H : (impl_EntryOk.j0 k (!t207) a0_0 a0_1 a0_2 a0_3 l0_4 l0_5 l0_6) = some r := H
   have A6 := zq9 A60
   clear A60
   have H' := zq9 H
   clear H
   have hcz7_0 : w3.cell? ⟨gb205, 0, none⟩ = some (.string a0_0) := (zq7 BK205.out 0).trans rfl
   have hcz7_1 : w3.cell? ⟨gb205, 1, none⟩ = some (.int .i64 a0_1) := (zq7 BK205.out 1).trans rfl
   have hcz7_2 : w3.cell? ⟨gb205, 2, none⟩ = some (.int .i64 a0_2) := (zq7 BK205.out 2).trans rfl
   have hcz7_3 : w3.cell? ⟨gb205, 3, none⟩ = some (.string a0_3) := (zq7 BK205.out 3).trans rfl
   have hcz7_4 : w3.cell? ⟨gb205, 4, none⟩ = some (.slice A0_4 l0_4.length c0_4) := (zq7 BK205.out 4).trans rfl
   have hcz7_5 : w3.cell? ⟨gb205, 5, none⟩ = some (.slice A0_5 l0_5.length c0_5) := (zq7 BK205.out 5).trans rfl
   have hcz7_6 : w3.cell? ⟨gb205, 6, none⟩ = some (.slice A0_6 l0_6.length c0_6) := (zq7 BK205.out 6).trans rfl
   have hfz7_0 := zq6 BK205.out 0
   have hfz7_1 := zq6 BK205.out 1
   have hfz7_2 := zq6 BK205.out 2
   have hfz7_3 := zq6 BK205.out 3
   have hfz7_4 := zq6 BK205.out 4
   have hfz7_5 := zq6 BK205.out 5
   have hfz7_6 := zq6 BK205.out 6
   go_wp2_with (first | (go_at_call 48; (with_reducible refine (impl_keyOk.calls a0_0 true _ A4.out).mono ?_); rintro e w' ⟨rfl, ⟨nd, rfl⟩⟩; (try first | exact ⟨rfl, _, World.drewN_drewN _ _ _⟩ | exact ⟨rfl, _, Eq.trans (World.drewN_drewN _ _ _) (congrArg (World.drewN _) (Nat.add_assoc _ _ _))⟩)) | (go_at_call 49; (with_reducible refine (impl_within.calls a0_1 0 2000000 t207 _ A6.out).mono ?_); rintro e w' ⟨rfl, ⟨nd, rfl⟩⟩; (try first | exact ⟨rfl, _, World.drewN_drewN _ _ _⟩ | exact ⟨rfl, _, Eq.trans (World.drewN_drewN _ _ _) (congrArg (World.drewN _) (Nat.add_assoc _ _ _))⟩)))
   repeat (go_quiet (first | (go_at_call 48; (with_reducible refine (impl_keyOk.calls a0_0 true _ A4.out).mono ?_); rintro e w' ⟨rfl, ⟨nd, rfl⟩⟩; (try first | exact ⟨rfl, _, World.drewN_drewN _ _ _⟩ | exact ⟨rfl, _, Eq.trans (World.drewN_drewN _ _ _) (congrArg (World.drewN _) (Nat.add_assoc _ _ _))⟩)) | (go_at_call 49; (with_reducible refine (impl_within.calls a0_1 0 2000000 t207 _ A6.out).mono ?_); rintro e w' ⟨rfl, ⟨nd, rfl⟩⟩; (try first | exact ⟨rfl, _, World.drewN_drewN _ _ _⟩ | exact ⟨rfl, _, Eq.trans (World.drewN_drewN _ _ _) (congrArg (World.drewN _) (Nat.add_assoc _ _ _))⟩))); try go_wp2_with (first | (go_at_call 48; (with_reducible refine (impl_keyOk.calls a0_0 true _ A4.out).mono ?_); rintro e w' ⟨rfl, ⟨nd, rfl⟩⟩; (try first | exact ⟨rfl, _, World.drewN_drewN _ _ _⟩ | exact ⟨rfl, _, Eq.trans (World.drewN_drewN _ _ _) (congrArg (World.drewN _) (Nat.add_assoc _ _ _))⟩)) | (go_at_call 49; (with_reducible refine (impl_within.calls a0_1 0 2000000 t207 _ A6.out).mono ?_); rintro e w' ⟨rfl, ⟨nd, rfl⟩⟩; (try first | exact ⟨rfl, _, World.drewN_drewN _ _ _⟩ | exact ⟨rfl, _, Eq.trans (World.drewN_drewN _ _ _) (congrArg (World.drewN _) (Nat.add_assoc _ _ _))⟩))))
   go_meet
   case rel => exact ⟨_, (!t207), (by first | rfl | (simp; done) | (simp [*]; done)), H', ⟨by first | omega | exact Nat.le_refl _⟩, ⟨by (with_reducible repeat (first | refine blk_drewN ?_ _ | refine blk_drew ?_ | refine blk_alloc ?_ _)); exact BK205.out⟩, ⟨by repeat (first | (with_reducible first | exact HB.out | apply zq5 | apply zq3 | apply zq4 | refine below_set ?_ GE205.out) | exact HB.out)⟩⟩
  ·replace c5 := Bool.eq_false_iff.mpr c5
   subst c5
   have H1 : (impl_EntryOk.j0 k true a0_0 a0_1 a0_2 a0_3 l0_4 l0_5 l0_6) = some r := by rw [if_neg (show ¬ (false = true) by decide)] at H; exact H
   clear H
   have H := H1
   clear H1
   have H' := zq9 H
   clear H
   have hcz8_0 : w3.cell? ⟨gb205, 0, none⟩ = some (.string a0_0) := (zq7 BK205.out 0).trans rfl
   have hcz8_1 : w3.cell? ⟨gb205, 1, none⟩ = some (.int .i64 a0_1) := (zq7 BK205.out 1).trans rfl
   have hcz8_2 : w3.cell? ⟨gb205, 2, none⟩ = some (.int .i64 a0_2) := (zq7 BK205.out 2).trans rfl
   have hcz8_3 : w3.cell? ⟨gb205, 3, none⟩ = some (.string a0_3) := (zq7 BK205.out 3).trans rfl
   have hcz8_4 : w3.cell? ⟨gb205, 4, none⟩ = some (.slice A0_4 l0_4.length c0_4) := (zq7 BK205.out 4).trans rfl
   have hcz8_5 : w3.cell? ⟨gb205, 5, none⟩ = some (.slice A0_5 l0_5.length c0_5) := (zq7 BK205.out 5).trans rfl
   have hcz8_6 : w3.cell? ⟨gb205, 6, none⟩ = some (.slice A0_6 l0_6.length c0_6) := (zq7 BK205.out 6).trans rfl
   have hfz8_0 := zq6 BK205.out 0
   have hfz8_1 := zq6 BK205.out 1
   have hfz8_2 := zq6 BK205.out 2
   have hfz8_3 := zq6 BK205.out 3
   have hfz8_4 := zq6 BK205.out 4
   have hfz8_5 := zq6 BK205.out 5
   have hfz8_6 := zq6 BK205.out 6
   go_wp2_with (first | (go_at_call 48; (with_reducible refine (impl_keyOk.calls a0_0 false _ A4.out).mono ?_); rintro e w' ⟨rfl, ⟨nd, rfl⟩⟩; (try first | exact ⟨rfl, _, World.drewN_drewN _ _ _⟩ | exact ⟨rfl, _, Eq.trans (World.drewN_drewN _ _ _) (congrArg (World.drewN _) (Nat.add_assoc _ _ _))⟩)))
   repeat (go_quiet (first | (go_at_call 48; (with_reducible refine (impl_keyOk.calls a0_0 false _ A4.out).mono ?_); rintro e w' ⟨rfl, ⟨nd, rfl⟩⟩; (try first | exact ⟨rfl, _, World.drewN_drewN _ _ _⟩ | exact ⟨rfl, _, Eq.trans (World.drewN_drewN _ _ _) (congrArg (World.drewN _) (Nat.add_assoc _ _ _))⟩))); try go_wp2_with (first | (go_at_call 48; (with_reducible refine (impl_keyOk.calls a0_0 false _ A4.out).mono ?_); rintro e w' ⟨rfl, ⟨nd, rfl⟩⟩; (try first | exact ⟨rfl, _, World.drewN_drewN _ _ _⟩ | exact ⟨rfl, _, Eq.trans (World.drewN_drewN _ _ _) (congrArg (World.drewN _) (Nat.add_assoc _ _ _))⟩))))
   go_meet
   case rel => exact ⟨_, (true), (by first | rfl | (simp; done) | (simp [*]; done)), H', ⟨by first | omega | exact Nat.le_refl _⟩, ⟨by (with_reducible repeat (first | refine blk_drewN ?_ _ | refine blk_drew ?_ | refine blk_alloc ?_ _)); exact BK205.out⟩, ⟨by repeat (first | (with_reducible first | exact HB.out | apply zq5 | apply zq3 | apply zq4 | refine below_set ?_ GE205.out) | exact HB.out)⟩⟩
 case rest =>
  clear HC2
  try clear c1
  try clear p2
  try clear c5
  try clear hcz7_0
  try clear hcz7_1
  try clear hcz7_2
  try clear hcz7_3
  try clear hcz7_4
  try clear hcz7_5
  try clear hcz7_6
  try clear hcz8_0
  try clear hcz8_1
  try clear hcz8_2
  try clear hcz8_3
  try clear hcz8_4
  try clear hcz8_5
  try clear hcz8_6
  try clear hfz7_0
  try clear hfz7_1
  try clear hfz7_2
  try clear hfz7_3
  try clear hfz7_4
  try clear hfz7_5
  try clear hfz7_6
  try clear hfz8_0
  try clear hfz8_1
  try clear hfz8_2
  try clear hfz8_3
  try clear hfz8_4
  try clear hfz8_5
  try clear hfz8_6
  obtain ⟨kq, x16_1, rfl, HA, HJ1, BK205, HB⟩ := hcut
  cases kq with
  | zero => exact absurd HA.out (by simp [impl_EntryOk.j0])
  | succ kj1 =>
   have H := HA.out
   clear HA
   simp only [impl_EntryOk.j0] at H
   by_cases c9 : x16_1 = true
   ·subst c9
    have H1 : (some false) = some r := by rw [if_pos rfl] at H; exact H
    clear H
    have H := H1
    clear H1
    obtain rfl := Option.some.inj H
    go_wp2
    repeat (go_quiet (fail); try go_wp2)
    go_ret
    exact ⟨by first | rfl | (simp [errW_none, errW_some] <;> rfl) | (simp [*, errW_none, errW_some] <;> rfl), by repeat (first | (with_reducible first | exact HB.out | apply zq5 | apply zq3 | apply zq4 | refine below_set ?_ GE205.out) | exact HB.out)⟩
   ·replace c9 := Bool.eq_false_iff.mpr c9
    subst c9
    have H1 : (if a0_2 = 1 then (if (a0_3.size : Int) ≤ 40 then (if ((l0_4.length : Int) > 0) then (some false) else (if ((l0_5.length : Int) > 0) then (some false) else (some (!(decide ((l0_6.length : Int) > 0)))))) else (some false)) else (if a0_2 = 2 then (if (l0_4.length : Int) > 0 then ((impl_listOk.f kj1 l0_4).bind fun t208 => (if t208 = true then (if (¬ a0_3.toList = ([] : List UInt8)) then (some false) else (if ((l0_5.length : Int) > 0) then (some false) else (some (!(decide ((l0_6.length : Int) > 0)))))) else (some false))) else (some false)) else (if a0_2 = 3 then (if (l0_4.length : Int) > 0 then ((impl_SetOk.f kj1 l0_4).bind fun t209 => (if t209 = true then (if (¬ a0_3.toList = ([] : List UInt8)) then (some false) else (if ((l0_5.length : Int) > 0) then (some false) else (some (!(decide ((l0_6.length : Int) > 0)))))) else (some false))) else (some false)) else (if a0_2 = 4 then (if (l0_5.length : Int) > 0 then ((impl_ScoresOk.f kj1 l0_5).bind fun t210 => (if t210 = true then (if (¬ a0_3.toList = ([] : List UInt8)) then (some false) else (if ((l0_4.length : Int) > 0) then (some false) else (some (!(decide ((l0_6.length : Int) > 0)))))) else (some false))) else (some false)) else (if a0_2 = 5 then (if (l0_6.length : Int) > 0 then ((impl_FieldsOk.f kj1 l0_6).bind fun t211 => (if t211 = true then (if (¬ a0_3.toList = ([] : List UInt8)) then (some false) else (if ((l0_4.length : Int) > 0) then (some false) else (some (!(decide ((l0_5.length : Int) > 0)))))) else (some false))) else (some false)) else (some false)))))) = some r := by rw [if_neg (show ¬ (false = true) by decide)] at H; exact H
    clear H
    have H := H1
    clear H1
    by_cases c10 : a0_2 = 1
    ·rw [if_pos c10] at H
     have c10b0 : (a0_2 == 1) = true := beq_iff_eq.mpr c10
     have c10b1 : (a0_2 != 1) = false := bne_eq_false_iff_eq.mpr c10
     clear c10
     by_cases c11 : (a0_3.size : Int) ≤ 40
     ·rw [if_pos c11] at H
      have c11b0 : decide ((a0_3.size : Int) ≤ 40) = true := decide_eq_true c11
      have c11b1 : decide (a0_3.size ≤ 40) = true := decide_eq_true (by omega)
      clear c11
      by_cases c12 : ((l0_4.length : Int) > 0)
      ·rw [if_pos c12] at H
       have c12b0 : decide (0 < (l0_4.length : Int)) = true := decide_eq_true c12
       have c12b1 : decide (0 < l0_4.length) = true := decide_eq_true (by omega)
       clear c12
       obtain rfl := Option.some.inj H
       have hcz13_0 : wc.cell? ⟨gb205, 0, none⟩ = some (.string a0_0) := (zq7 BK205.out 0).trans rfl
       have hcz13_1 : wc.cell? ⟨gb205, 1, none⟩ = some (.int .i64 a0_1) := (zq7 BK205.out 1).trans rfl
       have hcz13_2 : wc.cell? ⟨gb205, 2, none⟩ = some (.int .i64 a0_2) := (zq7 BK205.out 2).trans rfl
       have hcz13_3 : wc.cell? ⟨gb205, 3, none⟩ = some (.string a0_3) := (zq7 BK205.out 3).trans rfl
       have hcz13_4 : wc.cell? ⟨gb205, 4, none⟩ = some (.slice A0_4 l0_4.length c0_4) := (zq7 BK205.out 4).trans rfl
       have hcz13_5 : wc.cell? ⟨gb205, 5, none⟩ = some (.slice A0_5 l0_5.length c0_5) := (zq7 BK205.out 5).trans rfl
       have hcz13_6 : wc.cell? ⟨gb205, 6, none⟩ = some (.slice A0_6 l0_6.length c0_6) := (zq7 BK205.out 6).trans rfl
       have hfz13_0 := zq6 BK205.out 0
       have hfz13_1 := zq6 BK205.out 1
       have hfz13_2 := zq6 BK205.out 2
       have hfz13_3 := zq6 BK205.out 3
       have hfz13_4 := zq6 BK205.out 4
       have hfz13_5 := zq6 BK205.out 5
       have hfz13_6 := zq6 BK205.out 6
       go_wp2
       repeat (go_quiet (fail); try go_wp2)
       go_ret
       exact ⟨by first | rfl | (simp [errW_none, errW_some] <;> rfl) | (simp [*, errW_none, errW_some] <;> rfl), by repeat (first | (with_reducible first | exact HB.out | apply zq5 | apply zq3 | apply zq4 | refine below_set ?_ GE205.out) | exact HB.out)⟩
      ·rw [if_neg c12] at H
       have c12b0 : decide (0 < (l0_4.length : Int)) = false := decide_eq_false c12
       have c12b1 : decide (0 < l0_4.length) = false := decide_eq_false (by omega)
       clear c12
       by_cases c14 : ((l0_5.length : Int) > 0)
       ·rw [if_pos c14] at H
        have c14b0 : decide (0 < (l0_5.length : Int)) = true := decide_eq_true c14
        have c14b1 : decide (0 < l0_5.length) = true := decide_eq_true (by omega)
        clear c14
        obtain rfl := Option.some.inj H
        have hcz15_0 : wc.cell? ⟨gb205, 0, none⟩ = some (.string a0_0) := (zq7 BK205.out 0).trans rfl
        have hcz15_1 : wc.cell? ⟨gb205, 1, none⟩ = some (.int .i64 a0_1) := (zq7 BK205.out 1).trans rfl
        have hcz15_2 : wc.cell? ⟨gb205, 2, none⟩ = some (.int .i64 a0_2) := (zq7 BK205.out 2).trans rfl
        have hcz15_3 : wc.cell? ⟨gb205, 3, none⟩ = some (.string a0_3) := (zq7 BK205.out 3).trans rfl
        have hcz15_4 : wc.cell? ⟨gb205, 4, none⟩ = some (.slice A0_4 l0_4.length c0_4) := (zq7 BK205.out 4).trans rfl
        have hcz15_5 : wc.cell? ⟨gb205, 5, none⟩ = some (.slice A0_5 l0_5.length c0_5) := (zq7 BK205.out 5).trans rfl
        have hcz15_6 : wc.cell? ⟨gb205, 6, none⟩ = some (.slice A0_6 l0_6.length c0_6) := (zq7 BK205.out 6).trans rfl
        have hfz15_0 := zq6 BK205.out 0
        have hfz15_1 := zq6 BK205.out 1
        have hfz15_2 := zq6 BK205.out 2
        have hfz15_3 := zq6 BK205.out 3
        have hfz15_4 := zq6 BK205.out 4
        have hfz15_5 := zq6 BK205.out 5
        have hfz15_6 := zq6 BK205.out 6
        go_wp2
        repeat (go_quiet (fail); try go_wp2)
        go_ret
        exact ⟨by first | rfl | (simp [errW_none, errW_some] <;> rfl) | (simp [*, errW_none, errW_some] <;> rfl), by repeat (first | (with_reducible first | exact HB.out | apply zq5 | apply zq3 | apply zq4 | refine below_set ?_ GE205.out) | exact HB.out)⟩
       ·rw [if_neg c14] at H
        have c14b0 : decide (0 < (l0_5.length : Int)) = false := decide_eq_false c14
        have c14b1 : decide (0 < l0_5.length) = false := decide_eq_false (by omega)
        clear c14
        obtain rfl := Option.some.inj H
        have hcz16_0 : wc.cell? ⟨gb205, 0, none⟩ = some (.string a0_0) := (zq7 BK205.out 0).trans rfl
        have hcz16_1 : wc.cell? ⟨gb205, 1, none⟩ = some (.int .i64 a0_1) := (zq7 BK205.out 1).trans rfl
        have hcz16_2 : wc.cell? ⟨gb205, 2, none⟩ = some (.int .i64 a0_2) := (zq7 BK205.out 2).trans rfl
        have hcz16_3 : wc.cell? ⟨gb205, 3, none⟩ = some (.string a0_3) := (zq7 BK205.out 3).trans rfl
        have hcz16_4 : wc.cell? ⟨gb205, 4, none⟩ = some (.slice A0_4 l0_4.length c0_4) := (zq7 BK205.out 4).trans rfl
        have hcz16_5 : wc.cell? ⟨gb205, 5, none⟩ = some (.slice A0_5 l0_5.length c0_5) := (zq7 BK205.out 5).trans rfl
        have hcz16_6 : wc.cell? ⟨gb205, 6, none⟩ = some (.slice A0_6 l0_6.length c0_6) := (zq7 BK205.out 6).trans rfl
        have hfz16_0 := zq6 BK205.out 0
        have hfz16_1 := zq6 BK205.out 1
        have hfz16_2 := zq6 BK205.out 2
        have hfz16_3 := zq6 BK205.out 3
        have hfz16_4 := zq6 BK205.out 4
        have hfz16_5 := zq6 BK205.out 5
        have hfz16_6 := zq6 BK205.out 6
        go_wp2
        repeat (go_quiet (fail); try go_wp2)
        go_ret
        exact ⟨by first | rfl | (simp [errW_none, errW_some] <;> rfl) | (simp [*, errW_none, errW_some] <;> rfl), by repeat (first | (with_reducible first | exact HB.out | apply zq5 | apply zq3 | apply zq4 | refine below_set ?_ GE205.out) | exact HB.out)⟩
     ·rw [if_neg c11] at H
      have c11b0 : decide ((a0_3.size : Int) ≤ 40) = false := decide_eq_false c11
      have c11b1 : decide (a0_3.size ≤ 40) = false := decide_eq_false (by omega)
      clear c11
      obtain rfl := Option.some.inj H
      have hcz17_0 : wc.cell? ⟨gb205, 0, none⟩ = some (.string a0_0) := (zq7 BK205.out 0).trans rfl
      have hcz17_1 : wc.cell? ⟨gb205, 1, none⟩ = some (.int .i64 a0_1) := (zq7 BK205.out 1).trans rfl
      have hcz17_2 : wc.cell? ⟨gb205, 2, none⟩ = some (.int .i64 a0_2) := (zq7 BK205.out 2).trans rfl
      have hcz17_3 : wc.cell? ⟨gb205, 3, none⟩ = some (.string a0_3) := (zq7 BK205.out 3).trans rfl
      have hcz17_4 : wc.cell? ⟨gb205, 4, none⟩ = some (.slice A0_4 l0_4.length c0_4) := (zq7 BK205.out 4).trans rfl
      have hcz17_5 : wc.cell? ⟨gb205, 5, none⟩ = some (.slice A0_5 l0_5.length c0_5) := (zq7 BK205.out 5).trans rfl
      have hcz17_6 : wc.cell? ⟨gb205, 6, none⟩ = some (.slice A0_6 l0_6.length c0_6) := (zq7 BK205.out 6).trans rfl
      have hfz17_0 := zq6 BK205.out 0
      have hfz17_1 := zq6 BK205.out 1
      have hfz17_2 := zq6 BK205.out 2
      have hfz17_3 := zq6 BK205.out 3
      have hfz17_4 := zq6 BK205.out 4
      have hfz17_5 := zq6 BK205.out 5
      have hfz17_6 := zq6 BK205.out 6
      go_wp2
      repeat (go_quiet (fail); try go_wp2)
      go_ret
      exact ⟨by first | rfl | (simp [errW_none, errW_some] <;> rfl) | (simp [*, errW_none, errW_some] <;> rfl), by repeat (first | (with_reducible first | exact HB.out | apply zq5 | apply zq3 | apply zq4 | refine below_set ?_ GE205.out) | exact HB.out)⟩
    ·rw [if_neg c10] at H
     have c10b0 : (a0_2 == 1) = false := beq_eq_false_iff_ne.mpr c10
     have c10b1 : (a0_2 != 1) = true := bne_iff_ne.mpr c10
     by_cases c18 : a0_2 = 2
     ·rw [if_pos c18] at H
      have c18b0 : (a0_2 == 2) = true := beq_iff_eq.mpr c18
      have c18b1 : (a0_2 != 2) = false := bne_eq_false_iff_eq.mpr c18
      clear c18
      by_cases c19 : (l0_4.length : Int) > 0
      ·rw [if_pos c19] at H
       have c19b0 : decide (0 < (l0_4.length : Int)) = true := decide_eq_true c19
       have c19b1 : decide (0 < l0_4.length) = true := decide_eq_true (by omega)
       clear c19
       replace H := Option.bind_eq_some_iff.mp H
       obtain ⟨t208, A200, H⟩ := H
       replace H : (if t208 = true then (if (¬ a0_3.toList = ([] : List UInt8)) then (some false) else (if ((l0_5.length : Int) > 0) then (some false) else (some (!(decide ((l0_6.length : Int) > 0)))))) else (some false)) = some r := H
       have A20 := zq9 A200
       clear A200
       by_cases c21 : t208 = true
       ·subst c21
        have H1 : (if (¬ a0_3.toList = ([] : List UInt8)) then (some false) else (if ((l0_5.length : Int) > 0) then (some false) else (some (!(decide ((l0_6.length : Int) > 0)))))) = some r := by rw [if_pos rfl] at H; exact H
        clear H
        have H := H1
        clear H1
        by_cases c22 : (¬ a0_3.toList = ([] : List UInt8))
        ·rw [if_pos c22] at H
         have c22b0 : (a0_3.toList == ([] : List UInt8)) = false := beq_eq_false_iff_ne.mpr c22
         have c22b1 : (a0_3.toList != ([] : List UInt8)) = true := bne_iff_ne.mpr c22
         clear c22
         obtain rfl := Option.some.inj H
         have hcz23_0 : wc.cell? ⟨gb205, 0, none⟩ = some (.string a0_0) := (zq7 BK205.out 0).trans rfl
         have hcz23_1 : wc.cell? ⟨gb205, 1, none⟩ = some (.int .i64 a0_1) := (zq7 BK205.out 1).trans rfl
         have hcz23_2 : wc.cell? ⟨gb205, 2, none⟩ = some (.int .i64 a0_2) := (zq7 BK205.out 2).trans rfl
         have hcz23_3 : wc.cell? ⟨gb205, 3, none⟩ = some (.string a0_3) := (zq7 BK205.out 3).trans rfl
         have hcz23_4 : wc.cell? ⟨gb205, 4, none⟩ = some (.slice A0_4 l0_4.length c0_4) := (zq7 BK205.out 4).trans rfl
         have hcz23_5 : wc.cell? ⟨gb205, 5, none⟩ = some (.slice A0_5 l0_5.length c0_5) := (zq7 BK205.out 5).trans rfl
         have hcz23_6 : wc.cell? ⟨gb205, 6, none⟩ = some (.slice A0_6 l0_6.length c0_6) := (zq7 BK205.out 6).trans rfl
         have hfz23_0 := zq6 BK205.out 0
         have hfz23_1 := zq6 BK205.out 1
         have hfz23_2 := zq6 BK205.out 2
         have hfz23_3 := zq6 BK205.out 3
         have hfz23_4 := zq6 BK205.out 4
         have hfz23_5 := zq6 BK205.out 5
         have hfz23_6 := zq6 BK205.out 6
         go_wp2_with (first | (go_at_call 50; (with_reducible refine (impl_listOk.calls kj1 _ _ l0_4 true _ ?side1 ?side2 A20.out).mono ?_); (case side1 => repeat (first | exact (Kd.C_below HR0_4.out HB.out) | (with_reducible refine Kd.C_alloc ?_ _) | (with_reducible refine Kd.C_drewN ?_ _) | (with_reducible refine Kd.C_drew ?_))); (case side2 => exact HC0_4.out); rintro e w' ⟨rfl, ⟨nd, rfl⟩⟩; (try first | exact ⟨rfl, _, World.drewN_drewN _ _ _⟩ | exact ⟨rfl, _, Eq.trans (World.drewN_drewN _ _ _) (congrArg (World.drewN _) (Nat.add_assoc _ _ _))⟩)))
         repeat (go_quiet (first | (go_at_call 50; (with_reducible refine (impl_listOk.calls kj1 _ _ l0_4 true _ ?side1 ?side2 A20.out).mono ?_); (case side1 => repeat (first | exact (Kd.C_below HR0_4.out HB.out) | (with_reducible refine Kd.C_alloc ?_ _) | (with_reducible refine Kd.C_drewN ?_ _) | (with_reducible refine Kd.C_drew ?_))); (case side2 => exact HC0_4.out); rintro e w' ⟨rfl, ⟨nd, rfl⟩⟩; (try first | exact ⟨rfl, _, World.drewN_drewN _ _ _⟩ | exact ⟨rfl, _, Eq.trans (World.drewN_drewN _ _ _) (congrArg (World.drewN _) (Nat.add_assoc _ _ _))⟩))); try go_wp2_with (first | (go_at_call 50; (with_reducible refine (impl_listOk.calls kj1 _ _ l0_4 true _ ?side1 ?side2 A20.out).mono ?_); (case side1 => repeat (first | exact (Kd.C_below HR0_4.out HB.out) | (with_reducible refine Kd.C_alloc ?_ _) | (with_reducible refine Kd.C_drewN ?_ _) | (with_reducible refine Kd.C_drew ?_))); (case side2 => exact HC0_4.out); rintro e w' ⟨rfl, ⟨nd, rfl⟩⟩; (try first | exact ⟨rfl, _, World.drewN_drewN _ _ _⟩ | exact ⟨rfl, _, Eq.trans (World.drewN_drewN _ _ _) (congrArg (World.drewN _) (Nat.add_assoc _ _ _))⟩))))
         go_ret
         exact ⟨by first | rfl | (simp [errW_none, errW_some] <;> rfl) | (simp [*, errW_none, errW_some] <;> rfl), by repeat (first | (with_reducible first | exact HB.out | apply zq5 | apply zq3 | apply zq4 | refine below_set ?_ GE205.out) | exact HB.out)⟩
        ·rw [if_neg c22] at H
         have c22b0 : (a0_3.toList == ([] : List UInt8)) = true := beq_iff_eq.mpr (Decidable.not_not.mp c22)
         have c22b1 : (a0_3.toList != ([] : List UInt8)) = false := bne_eq_false_iff_eq.mpr (Decidable.not_not.mp c22)
         by_cases c24 : ((l0_5.length : Int) > 0)
         ·rw [if_pos c24] at H
          have c24b0 : decide (0 < (l0_5.length : Int)) = true := decide_eq_true c24
          have c24b1 : decide (0 < l0_5.length) = true := decide_eq_true (by omega)
          clear c24
          obtain rfl := Option.some.inj H
          have hcz25_0 : wc.cell? ⟨gb205, 0, none⟩ = some (.string a0_0) := (zq7 BK205.out 0).trans rfl
          have hcz25_1 : wc.cell? ⟨gb205, 1, none⟩ = some (.int .i64 a0_1) := (zq7 BK205.out 1).trans rfl
          have hcz25_2 : wc.cell? ⟨gb205, 2, none⟩ = some (.int .i64 a0_2) := (zq7 BK205.out 2).trans rfl
          have hcz25_3 : wc.cell? ⟨gb205, 3, none⟩ = some (.string a0_3) := (zq7 BK205.out 3).trans rfl
          have hcz25_4 : wc.cell? ⟨gb205, 4, none⟩ = some (.slice A0_4 l0_4.length c0_4) := (zq7 BK205.out 4).trans rfl
          have hcz25_5 : wc.cell? ⟨gb205, 5, none⟩ = some (.slice A0_5 l0_5.length c0_5) := (zq7 BK205.out 5).trans rfl
          have hcz25_6 : wc.cell? ⟨gb205, 6, none⟩ = some (.slice A0_6 l0_6.length c0_6) := (zq7 BK205.out 6).trans rfl
          have hfz25_0 := zq6 BK205.out 0
          have hfz25_1 := zq6 BK205.out 1
          have hfz25_2 := zq6 BK205.out 2
          have hfz25_3 := zq6 BK205.out 3
          have hfz25_4 := zq6 BK205.out 4
          have hfz25_5 := zq6 BK205.out 5
          have hfz25_6 := zq6 BK205.out 6
          go_wp2_with (first | (go_at_call 50; (with_reducible refine (impl_listOk.calls kj1 _ _ l0_4 true _ ?side1 ?side2 A20.out).mono ?_); (case side1 => repeat (first | exact (Kd.C_below HR0_4.out HB.out) | (with_reducible refine Kd.C_alloc ?_ _) | (with_reducible refine Kd.C_drewN ?_ _) | (with_reducible refine Kd.C_drew ?_))); (case side2 => exact HC0_4.out); rintro e w' ⟨rfl, ⟨nd, rfl⟩⟩; (try first | exact ⟨rfl, _, World.drewN_drewN _ _ _⟩ | exact ⟨rfl, _, Eq.trans (World.drewN_drewN _ _ _) (congrArg (World.drewN _) (Nat.add_assoc _ _ _))⟩)))
          repeat (go_quiet (first | (go_at_call 50; (with_reducible refine (impl_listOk.calls kj1 _ _ l0_4 true _ ?side1 ?side2 A20.out).mono ?_); (case side1 => repeat (first | exact (Kd.C_below HR0_4.out HB.out) | (with_reducible refine Kd.C_alloc ?_ _) | (with_reducible refine Kd.C_drewN ?_ _) | (with_reducible refine Kd.C_drew ?_))); (case side2 => exact HC0_4.out); rintro e w' ⟨rfl, ⟨nd, rfl⟩⟩; (try first | exact ⟨rfl, _, World.drewN_drewN _ _ _⟩ | exact ⟨rfl, _, Eq.trans (World.drewN_drewN _ _ _) (congrArg (World.drewN _) (Nat.add_assoc _ _ _))⟩))); try go_wp2_with (first | (go_at_call 50; (with_reducible refine (impl_listOk.calls kj1 _ _ l0_4 true _ ?side1 ?side2 A20.out).mono ?_); (case side1 => repeat (first | exact (Kd.C_below HR0_4.out HB.out) | (with_reducible refine Kd.C_alloc ?_ _) | (with_reducible refine Kd.C_drewN ?_ _) | (with_reducible refine Kd.C_drew ?_))); (case side2 => exact HC0_4.out); rintro e w' ⟨rfl, ⟨nd, rfl⟩⟩; (try first | exact ⟨rfl, _, World.drewN_drewN _ _ _⟩ | exact ⟨rfl, _, Eq.trans (World.drewN_drewN _ _ _) (congrArg (World.drewN _) (Nat.add_assoc _ _ _))⟩))))
          go_ret
          exact ⟨by first | rfl | (simp [errW_none, errW_some] <;> rfl) | (simp [*, errW_none, errW_some] <;> rfl), by repeat (first | (with_reducible first | exact HB.out | apply zq5 | apply zq3 | apply zq4 | refine below_set ?_ GE205.out) | exact HB.out)⟩
         ·rw [if_neg c24] at H
          have c24b0 : decide (0 < (l0_5.length : Int)) = false := decide_eq_false c24
          have c24b1 : decide (0 < l0_5.length) = false := decide_eq_false (by omega)
          clear c24
          obtain rfl := Option.some.inj H
          have hcz26_0 : wc.cell? ⟨gb205, 0, none⟩ = some (.string a0_0) := (zq7 BK205.out 0).trans rfl
          have hcz26_1 : wc.cell? ⟨gb205, 1, none⟩ = some (.int .i64 a0_1) := (zq7 BK205.out 1).trans rfl
          have hcz26_2 : wc.cell? ⟨gb205, 2, none⟩ = some (.int .i64 a0_2) := (zq7 BK205.out 2).trans rfl
          have hcz26_3 : wc.cell? ⟨gb205, 3, none⟩ = some (.string a0_3) := (zq7 BK205.out 3).trans rfl
          have hcz26_4 : wc.cell? ⟨gb205, 4, none⟩ = some (.slice A0_4 l0_4.length c0_4) := (zq7 BK205.out 4).trans rfl
          have hcz26_5 : wc.cell? ⟨gb205, 5, none⟩ = some (.slice A0_5 l0_5.length c0_5) := (zq7 BK205.out 5).trans rfl
          have hcz26_6 : wc.cell? ⟨gb205, 6, none⟩ = some (.slice A0_6 l0_6.length c0_6) := (zq7 BK205.out 6).trans rfl
          have hfz26_0 := zq6 BK205.out 0
          have hfz26_1 := zq6 BK205.out 1
          have hfz26_2 := zq6 BK205.out 2
          have hfz26_3 := zq6 BK205.out 3
          have hfz26_4 := zq6 BK205.out 4
          have hfz26_5 := zq6 BK205.out 5
          have hfz26_6 := zq6 BK205.out 6
          go_wp2_with (first | (go_at_call 50; (with_reducible refine (impl_listOk.calls kj1 _ _ l0_4 true _ ?side1 ?side2 A20.out).mono ?_); (case side1 => repeat (first | exact (Kd.C_below HR0_4.out HB.out) | (with_reducible refine Kd.C_alloc ?_ _) | (with_reducible refine Kd.C_drewN ?_ _) | (with_reducible refine Kd.C_drew ?_))); (case side2 => exact HC0_4.out); rintro e w' ⟨rfl, ⟨nd, rfl⟩⟩; (try first | exact ⟨rfl, _, World.drewN_drewN _ _ _⟩ | exact ⟨rfl, _, Eq.trans (World.drewN_drewN _ _ _) (congrArg (World.drewN _) (Nat.add_assoc _ _ _))⟩)))
          repeat (go_quiet (first | (go_at_call 50; (with_reducible refine (impl_listOk.calls kj1 _ _ l0_4 true _ ?side1 ?side2 A20.out).mono ?_); (case side1 => repeat (first | exact (Kd.C_below HR0_4.out HB.out) | (with_reducible refine Kd.C_alloc ?_ _) | (with_reducible refine Kd.C_drewN ?_ _) | (with_reducible refine Kd.C_drew ?_))); (case side2 => exact HC0_4.out); rintro e w' ⟨rfl, ⟨nd, rfl⟩⟩; (try first | exact ⟨rfl, _, World.drewN_drewN _ _ _⟩ | exact ⟨rfl, _, Eq.trans (World.drewN_drewN _ _ _) (congrArg (World.drewN _) (Nat.add_assoc _ _ _))⟩))); try go_wp2_with (first | (go_at_call 50; (with_reducible refine (impl_listOk.calls kj1 _ _ l0_4 true _ ?side1 ?side2 A20.out).mono ?_); (case side1 => repeat (first | exact (Kd.C_below HR0_4.out HB.out) | (with_reducible refine Kd.C_alloc ?_ _) | (with_reducible refine Kd.C_drewN ?_ _) | (with_reducible refine Kd.C_drew ?_))); (case side2 => exact HC0_4.out); rintro e w' ⟨rfl, ⟨nd, rfl⟩⟩; (try first | exact ⟨rfl, _, World.drewN_drewN _ _ _⟩ | exact ⟨rfl, _, Eq.trans (World.drewN_drewN _ _ _) (congrArg (World.drewN _) (Nat.add_assoc _ _ _))⟩))))
          go_ret
          exact ⟨by first | rfl | (simp [errW_none, errW_some] <;> rfl) | (simp [*, errW_none, errW_some] <;> rfl), by repeat (first | (with_reducible first | exact HB.out | apply zq5 | apply zq3 | apply zq4 | refine below_set ?_ GE205.out) | exact HB.out)⟩
       ·replace c21 := Bool.eq_false_iff.mpr c21
        subst c21
        have H1 : (some false) = some r := by rw [if_neg (show ¬ (false = true) by decide)] at H; exact H
        clear H
        have H := H1
        clear H1
        obtain rfl := Option.some.inj H
        have hcz27_0 : wc.cell? ⟨gb205, 0, none⟩ = some (.string a0_0) := (zq7 BK205.out 0).trans rfl
        have hcz27_1 : wc.cell? ⟨gb205, 1, none⟩ = some (.int .i64 a0_1) := (zq7 BK205.out 1).trans rfl
        have hcz27_2 : wc.cell? ⟨gb205, 2, none⟩ = some (.int .i64 a0_2) := (zq7 BK205.out 2).trans rfl
        have hcz27_3 : wc.cell? ⟨gb205, 3, none⟩ = some (.string a0_3) := (zq7 BK205.out 3).trans rfl
        have hcz27_4 : wc.cell? ⟨gb205, 4, none⟩ = some (.slice A0_4 l0_4.length c0_4) := (zq7 BK205.out 4).trans rfl
        have hcz27_5 : wc.cell? ⟨gb205, 5, none⟩ = some (.slice A0_5 l0_5.length c0_5) := (zq7 BK205.out 5).trans rfl
        have hcz27_6 : wc.cell? ⟨gb205, 6, none⟩ = some (.slice A0_6 l0_6.length c0_6) := (zq7 BK205.out 6).trans rfl
        have hfz27_0 := zq6 BK205.out 0
        have hfz27_1 := zq6 BK205.out 1
        have hfz27_2 := zq6 BK205.out 2
        have hfz27_3 := zq6 BK205.out 3
        have hfz27_4 := zq6 BK205.out 4
        have hfz27_5 := zq6 BK205.out 5
        have hfz27_6 := zq6 BK205.out 6
        go_wp2_with (first | (go_at_call 50; (with_reducible refine (impl_listOk.calls kj1 _ _ l0_4 false _ ?side1 ?side2 A20.out).mono ?_); (case side1 => repeat (first | exact (Kd.C_below HR0_4.out HB.out) | (with_reducible refine Kd.C_alloc ?_ _) | (with_reducible refine Kd.C_drewN ?_ _) | (with_reducible refine Kd.C_drew ?_))); (case side2 => exact HC0_4.out); rintro e w' ⟨rfl, ⟨nd, rfl⟩⟩; (try first | exact ⟨rfl, _, World.drewN_drewN _ _ _⟩ | exact ⟨rfl, _, Eq.trans (World.drewN_drewN _ _ _) (congrArg (World.drewN _) (Nat.add_assoc _ _ _))⟩)))
        repeat (go_quiet (first | (go_at_call 50; (with_reducible refine (impl_listOk.calls kj1 _ _ l0_4 false _ ?side1 ?side2 A20.out).mono ?_); (case side1 => repeat (first | exact (Kd.C_below HR0_4.out HB.out) | (with_reducible refine Kd.C_alloc ?_ _) | (with_reducible refine Kd.C_drewN ?_ _) | (with_reducible refine Kd.C_drew ?_))); (case side2 => exact HC0_4.out); rintro e w' ⟨rfl, ⟨nd, rfl⟩⟩; (try first | exact ⟨rfl, _, World.drewN_drewN _ _ _⟩ | exact ⟨rfl, _, Eq.trans (World.drewN_drewN _ _ _) (congrArg (World.drewN _) (Nat.add_assoc _ _ _))⟩))); try go_wp2_with (first | (go_at_call 50; (with_reducible refine (impl_listOk.calls kj1 _ _ l0_4 false _ ?side1 ?side2 A20.out).mono ?_); (case side1 => repeat (first | exact (Kd.C_below HR0_4.out HB.out) | (with_reducible refine Kd.C_alloc ?_ _) | (with_reducible refine Kd.C_drewN ?_ _) | (with_reducible refine Kd.C_drew ?_))); (case side2 => exact HC0_4.out); rintro e w' ⟨rfl, ⟨nd, rfl⟩⟩; (try first | exact ⟨rfl, _, World.drewN_drewN _ _ _⟩ | exact ⟨rfl, _, Eq.trans (World.drewN_drewN _ _ _) (congrArg (World.drewN _) (Nat.add_assoc _ _ _))⟩))))
        go_ret
        exact ⟨by first | rfl | (simp [errW_none, errW_some] <;> rfl) | (simp [*, errW_none, errW_some] <;> rfl), by repeat (first | (with_reducible first | exact HB.out | apply zq5 | apply zq3 | apply zq4 | refine below_set ?_ GE205.out) | exact HB.out)⟩
      ·rw [if_neg c19] at H
       have c19b0 : decide (0 < (l0_4.length : Int)) = false := decide_eq_false c19
       have c19b1 : decide (0 < l0_4.length) = false := decide_eq_false (by omega)
       clear c19
       obtain rfl := Option.some.inj H
       have hcz28_0 : wc.cell? ⟨gb205, 0, none⟩ = some (.string a0_0) := (zq7 BK205.out 0).trans rfl
       have hcz28_1 : wc.cell? ⟨gb205, 1, none⟩ = some (.int .i64 a0_1) := (zq7 BK205.out 1).trans rfl
       have hcz28_2 : wc.cell? ⟨gb205, 2, none⟩ = some (.int .i64 a0_2) := (zq7 BK205.out 2).trans rfl
       have hcz28_3 : wc.cell? ⟨gb205, 3, none⟩ = some (.string a0_3) := (zq7 BK205.out 3).trans rfl
       have hcz28_4 : wc.cell? ⟨gb205, 4, none⟩ = some (.slice A0_4 l0_4.length c0_4) := (zq7 BK205.out 4).trans rfl
       have hcz28_5 : wc.cell? ⟨gb205, 5, none⟩ = some (.slice A0_5 l0_5.length c0_5) := (zq7 BK205.out 5).trans rfl
       have hcz28_6 : wc.cell? ⟨gb205, 6, none⟩ = some (.slice A0_6 l0_6.length c0_6) := (zq7 BK205.out 6).trans rfl
       have hfz28_0 := zq6 BK205.out 0
       have hfz28_1 := zq6 BK205.out 1
       have hfz28_2 := zq6 BK205.out 2
       have hfz28_3 := zq6 BK205.out 3
       have hfz28_4 := zq6 BK205.out 4
       have hfz28_5 := zq6 BK205.out 5
       have hfz28_6 := zq6 BK205.out 6
       go_wp2
       repeat (go_quiet (fail); try go_wp2)
       go_ret
       exact ⟨by first | rfl | (simp [errW_none, errW_some] <;> rfl) | (simp [*, errW_none, errW_some] <;> rfl), by repeat (first | (with_reducible first | exact HB.out | apply zq5 | apply zq3 | apply zq4 | refine below_set ?_ GE205.out) | exact HB.out)⟩
     ·rw [if_neg c18] at H
      have c18b0 : (a0_2 == 2) = false := beq_eq_false_iff_ne.mpr c18
      have c18b1 : (a0_2 != 2) = true := bne_iff_ne.mpr c18
      by_cases c29 : a0_2 = 3
      ·rw [if_pos c29] at H
       have c29b0 : (a0_2 == 3) = true := beq_iff_eq.mpr c29
       have c29b1 : (a0_2 != 3) = false := bne_eq_false_iff_eq.mpr c29
       clear c29
       by_cases c30 : (l0_4.length : Int) > 0
       ·rw [if_pos c30] at H
        have c30b0 : decide (0 < (l0_4.length : Int)) = true := decide_eq_true c30
        have c30b1 : decide (0 < l0_4.length) = true := decide_eq_true (by omega)
        clear c30
        replace H := Option.bind_eq_some_iff.mp H
        obtain ⟨t209, A310, H⟩ := H
        replace H : (if t209 = true then (if (¬ a0_3.toList = ([] : List UInt8)) then (some false) else (if ((l0_5.length : Int) > 0) then (some false) else (some (!(decide ((l0_6.length : Int) > 0)))))) else (some false)) = some r := H
        have A31 := zq9 A310
        clear A310
        by_cases c32 : t209 = true
        ·subst c32
         have H1 : (if (¬ a0_3.toList = ([] : List UInt8)) then (some false) else (if ((l0_5.length : Int) > 0) then (some false) else (some (!(decide ((l0_6.length : Int) > 0)))))) = some r := by rw [if_pos rfl] at H; exact H
         clear H
         have H := H1
         clear H1
         by_cases c33 : (¬ a0_3.toList = ([] : List UInt8))
         ·rw [if_pos c33] at H
          have c33b0 : (a0_3.toList == ([] : List UInt8)) = false := beq_eq_false_iff_ne.mpr c33
          have c33b1 : (a0_3.toList != ([] : List UInt8)) = true := bne_iff_ne.mpr c33
          clear c33
          obtain rfl := Option.some.inj H
          have hcz34_0 : wc.cell? ⟨gb205, 0, none⟩ = some (.string a0_0) := (zq7 BK205.out 0).trans rfl
          have hcz34_1 : wc.cell? ⟨gb205, 1, none⟩ = some (.int .i64 a0_1) := (zq7 BK205.out 1).trans rfl
          have hcz34_2 : wc.cell? ⟨gb205, 2, none⟩ = some (.int .i64 a0_2) := (zq7 BK205.out 2).trans rfl
          have hcz34_3 : wc.cell? ⟨gb205, 3, none⟩ = some (.string a0_3) := (zq7 BK205.out 3).trans rfl
          have hcz34_4 : wc.cell? ⟨gb205, 4, none⟩ = some (.slice A0_4 l0_4.length c0_4) := (zq7 BK205.out 4).trans rfl
          have hcz34_5 : wc.cell? ⟨gb205, 5, none⟩ = some (.slice A0_5 l0_5.length c0_5) := (zq7 BK205.out 5).trans rfl
          have hcz34_6 : wc.cell? ⟨gb205, 6, none⟩ = some (.slice A0_6 l0_6.length c0_6) := (zq7 BK205.out 6).trans rfl
          have hfz34_0 := zq6 BK205.out 0
          have hfz34_1 := zq6 BK205.out 1
          have hfz34_2 := zq6 BK205.out 2
          have hfz34_3 := zq6 BK205.out 3
          have hfz34_4 := zq6 BK205.out 4
          have hfz34_5 := zq6 BK205.out 5
          have hfz34_6 := zq6 BK205.out 6
          go_wp2_with (first | (go_at_call 51; (with_reducible refine (impl_SetOk.calls kj1 _ _ l0_4 true _ ?side1 ?side2 A31.out).mono ?_); (case side1 => repeat (first | exact (Kd.C_below HR0_4.out HB.out) | (with_reducible refine Kd.C_alloc ?_ _) | (with_reducible refine Kd.C_drewN ?_ _) | (with_reducible refine Kd.C_drew ?_))); (case side2 => exact HC0_4.out); rintro e w' ⟨rfl, ⟨nd, rfl⟩⟩; (try first | exact ⟨rfl, _, World.drewN_drewN _ _ _⟩ | exact ⟨rfl, _, Eq.trans (World.drewN_drewN _ _ _) (congrArg (World.drewN _) (Nat.add_assoc _ _ _))⟩)))
          repeat (go_quiet (first | (go_at_call 51; (with_reducible refine (impl_SetOk.calls kj1 _ _ l0_4 true _ ?side1 ?side2 A31.out).mono ?_); (case side1 => repeat (first | exact (Kd.C_below HR0_4.out HB.out) | (with_reducible refine Kd.C_alloc ?_ _) | (with_reducible refine Kd.C_drewN ?_ _) | (with_reducible refine Kd.C_drew ?_))); (case side2 => exact HC0_4.out); rintro e w' ⟨rfl, ⟨nd, rfl⟩⟩; (try first | exact ⟨rfl, _, World.drewN_drewN _ _ _⟩ | exact ⟨rfl, _, Eq.trans (World.drewN_drewN _ _ _) (congrArg (World.drewN _) (Nat.add_assoc _ _ _))⟩))); try go_wp2_with (first | (go_at_call 51; (with_reducible refine (impl_SetOk.calls kj1 _ _ l0_4 true _ ?side1 ?side2 A31.out).mono ?_); (case side1 => repeat (first | exact (Kd.C_below HR0_4.out HB.out) | (with_reducible refine Kd.C_alloc ?_ _) | (with_reducible refine Kd.C_drewN ?_ _) | (with_reducible refine Kd.C_drew ?_))); (case side2 => exact HC0_4.out); rintro e w' ⟨rfl, ⟨nd, rfl⟩⟩; (try first | exact ⟨rfl, _, World.drewN_drewN _ _ _⟩ | exact ⟨rfl, _, Eq.trans (World.drewN_drewN _ _ _) (congrArg (World.drewN _) (Nat.add_assoc _ _ _))⟩))))
          go_ret
          exact ⟨by first | rfl | (simp [errW_none, errW_some] <;> rfl) | (simp [*, errW_none, errW_some] <;> rfl), by repeat (first | (with_reducible first | exact HB.out | apply zq5 | apply zq3 | apply zq4 | refine below_set ?_ GE205.out) | exact HB.out)⟩
         ·rw [if_neg c33] at H
          have c33b0 : (a0_3.toList == ([] : List UInt8)) = true := beq_iff_eq.mpr (Decidable.not_not.mp c33)
          have c33b1 : (a0_3.toList != ([] : List UInt8)) = false := bne_eq_false_iff_eq.mpr (Decidable.not_not.mp c33)
          by_cases c35 : ((l0_5.length : Int) > 0)
          ·rw [if_pos c35] at H
           have c35b0 : decide (0 < (l0_5.length : Int)) = true := decide_eq_true c35
           have c35b1 : decide (0 < l0_5.length) = true := decide_eq_true (by omega)
           clear c35
           obtain rfl := Option.some.inj H
           have hcz36_0 : wc.cell? ⟨gb205, 0, none⟩ = some (.string a0_0) := (zq7 BK205.out 0).trans rfl
           have hcz36_1 : wc.cell? ⟨gb205, 1, none⟩ = some (.int .i64 a0_1) := (zq7 BK205.out 1).trans rfl
           have hcz36_2 : wc.cell? ⟨gb205, 2, none⟩ = some (.int .i64 a0_2) := (zq7 BK205.out 2).trans rfl
           have hcz36_3 : wc.cell? ⟨gb205, 3, none⟩ = some (.string a0_3) := (zq7 BK205.out 3).trans rfl
           have hcz36_4 : wc.cell? ⟨gb205, 4, none⟩ = some (.slice A0_4 l0_4.length c0_4) := (zq7 BK205.out 4).trans rfl
           have hcz36_5 : wc.cell? ⟨gb205, 5, none⟩ = some (.slice A0_5 l0_5.length c0_5) := (zq7 BK205.out 5).trans rfl
           have hcz36_6 : wc.cell? ⟨gb205, 6, none⟩ = some (.slice A0_6 l0_6.length c0_6) := (zq7 BK205.out 6).trans rfl
           have hfz36_0 := zq6 BK205.out 0
           have hfz36_1 := zq6 BK205.out 1
           have hfz36_2 := zq6 BK205.out 2
           have hfz36_3 := zq6 BK205.out 3
           have hfz36_4 := zq6 BK205.out 4
           have hfz36_5 := zq6 BK205.out 5
           have hfz36_6 := zq6 BK205.out 6
           go_wp2_with (first | (go_at_call 51; (with_reducible refine (impl_SetOk.calls kj1 _ _ l0_4 true _ ?side1 ?side2 A31.out).mono ?_); (case side1 => repeat (first | exact (Kd.C_below HR0_4.out HB.out) | (with_reducible refine Kd.C_alloc ?_ _) | (with_reducible refine Kd.C_drewN ?_ _) | (with_reducible refine Kd.C_drew ?_))); (case side2 => exact HC0_4.out); rintro e w' ⟨rfl, ⟨nd, rfl⟩⟩; (try first | exact ⟨rfl, _, World.drewN_drewN _ _ _⟩ | exact ⟨rfl, _, Eq.trans (World.drewN_drewN _ _ _) (congrArg (World.drewN _) (Nat.add_assoc _ _ _))⟩)))
           repeat (go_quiet (first | (go_at_call 51; (with_reducible refine (impl_SetOk.calls kj1 _ _ l0_4 true _ ?side1 ?side2 A31.out).mono ?_); (case side1 => repeat (first | exact (Kd.C_below HR0_4.out HB.out) | (with_reducible refine Kd.C_alloc ?_ _) | (with_reducible refine Kd.C_drewN ?_ _) | (with_reducible refine Kd.C_drew ?_))); (case side2 => exact HC0_4.out); rintro e w' ⟨rfl, ⟨nd, rfl⟩⟩; (try first | exact ⟨rfl, _, World.drewN_drewN _ _ _⟩ | exact ⟨rfl, _, Eq.trans (World.drewN_drewN _ _ _) (congrArg (World.drewN _) (Nat.add_assoc _ _ _))⟩))); try go_wp2_with (first | (go_at_call 51; (with_reducible refine (impl_SetOk.calls kj1 _ _ l0_4 true _ ?side1 ?side2 A31.out).mono ?_); (case side1 => repeat (first | exact (Kd.C_below HR0_4.out HB.out) | (with_reducible refine Kd.C_alloc ?_ _) | (with_reducible refine Kd.C_drewN ?_ _) | (with_reducible refine Kd.C_drew ?_))); (case side2 => exact HC0_4.out); rintro e w' ⟨rfl, ⟨nd, rfl⟩⟩; (try first | exact ⟨rfl, _, World.drewN_drewN _ _ _⟩ | exact ⟨rfl, _, Eq.trans (World.drewN_drewN _ _ _) (congrArg (World.drewN _) (Nat.add_assoc _ _ _))⟩))))
           go_ret
           exact ⟨by first | rfl | (simp [errW_none, errW_some] <;> rfl) | (simp [*, errW_none, errW_some] <;> rfl), by repeat (first | (with_reducible first | exact HB.out | apply zq5 | apply zq3 | apply zq4 | refine below_set ?_ GE205.out) | exact HB.out)⟩
          ·rw [if_neg c35] at H
           have c35b0 : decide (0 < (l0_5.length : Int)) = false := decide_eq_false c35
           have c35b1 : decide (0 < l0_5.length) = false := decide_eq_false (by omega)
           clear c35
           obtain rfl := Option.some.inj H
           have hcz37_0 : wc.cell? ⟨gb205, 0, none⟩ = some (.string a0_0) := (zq7 BK205.out 0).trans rfl
           have hcz37_1 : wc.cell? ⟨gb205, 1, none⟩ = some (.int .i64 a0_1) := (zq7 BK205.out 1).trans rfl
           have hcz37_2 : wc.cell? ⟨gb205, 2, none⟩ = some (.int .i64 a0_2) := (zq7 BK205.out 2).trans rfl
           have hcz37_3 : wc.cell? ⟨gb205, 3, none⟩ = some (.string a0_3) := (zq7 BK205.out 3).trans rfl
           have hcz37_4 : wc.cell? ⟨gb205, 4, none⟩ = some (.slice A0_4 l0_4.length c0_4) := (zq7 BK205.out 4).trans rfl
           have hcz37_5 : wc.cell? ⟨gb205, 5, none⟩ = some (.slice A0_5 l0_5.length c0_5) := (zq7 BK205.out 5).trans rfl
           have hcz37_6 : wc.cell? ⟨gb205, 6, none⟩ = some (.slice A0_6 l0_6.length c0_6) := (zq7 BK205.out 6).trans rfl
           have hfz37_0 := zq6 BK205.out 0
           have hfz37_1 := zq6 BK205.out 1
           have hfz37_2 := zq6 BK205.out 2
           have hfz37_3 := zq6 BK205.out 3
           have hfz37_4 := zq6 BK205.out 4
           have hfz37_5 := zq6 BK205.out 5
           have hfz37_6 := zq6 BK205.out 6
           go_wp2_with (first | (go_at_call 51; (with_reducible refine (impl_SetOk.calls kj1 _ _ l0_4 true _ ?side1 ?side2 A31.out).mono ?_); (case side1 => repeat (first | exact (Kd.C_below HR0_4.out HB.out) | (with_reducible refine Kd.C_alloc ?_ _) | (with_reducible refine Kd.C_drewN ?_ _) | (with_reducible refine Kd.C_drew ?_))); (case side2 => exact HC0_4.out); rintro e w' ⟨rfl, ⟨nd, rfl⟩⟩; (try first | exact ⟨rfl, _, World.drewN_drewN _ _ _⟩ | exact ⟨rfl, _, Eq.trans (World.drewN_drewN _ _ _) (congrArg (World.drewN _) (Nat.add_assoc _ _ _))⟩)))
           repeat (go_quiet (first | (go_at_call 51; (with_reducible refine (impl_SetOk.calls kj1 _ _ l0_4 true _ ?side1 ?side2 A31.out).mono ?_); (case side1 => repeat (first | exact (Kd.C_below HR0_4.out HB.out) | (with_reducible refine Kd.C_alloc ?_ _) | (with_reducible refine Kd.C_drewN ?_ _) | (with_reducible refine Kd.C_drew ?_))); (case side2 => exact HC0_4.out); rintro e w' ⟨rfl, ⟨nd, rfl⟩⟩; (try first | exact ⟨rfl, _, World.drewN_drewN _ _ _⟩ | exact ⟨rfl, _, Eq.trans (World.drewN_drewN _ _ _) (congrArg (World.drewN _) (Nat.add_assoc _ _ _))⟩))); try go_wp2_with (first | (go_at_call 51; (with_reducible refine (impl_SetOk.calls kj1 _ _ l0_4 true _ ?side1 ?side2 A31.out).mono ?_); (case side1 => repeat (first | exact (Kd.C_below HR0_4.out HB.out) | (with_reducible refine Kd.C_alloc ?_ _) | (with_reducible refine Kd.C_drewN ?_ _) | (with_reducible refine Kd.C_drew ?_))); (case side2 => exact HC0_4.out); rintro e w' ⟨rfl, ⟨nd, rfl⟩⟩; (try first | exact ⟨rfl, _, World.drewN_drewN _ _ _⟩ | exact ⟨rfl, _, Eq.trans (World.drewN_drewN _ _ _) (congrArg (World.drewN _) (Nat.add_assoc _ _ _))⟩))))
           go_ret
           exact ⟨by first | rfl | (simp [errW_none, errW_some] <;> rfl) | (simp [*, errW_none, errW_some] <;> rfl), by repeat (first | (with_reducible first | exact HB.out | apply zq5 | apply zq3 | apply zq4 | refine below_set ?_ GE205.out) | exact HB.out)⟩
        ·replace c32 := Bool.eq_false_iff.mpr c32
         subst c32
         have H1 : (some false) = some r := by rw [if_neg (show ¬ (false = true) by decide)] at H; exact H
         clear H
         have H := H1
         clear H1
         obtain rfl := Option.some.inj H
         have hcz38_0 : wc.cell? ⟨gb205, 0, none⟩ = some (.string a0_0) := (zq7 BK205.out 0).trans rfl
         have hcz38_1 : wc.cell? ⟨gb205, 1, none⟩ = some (.int .i64 a0_1) := (zq7 BK205.out 1).trans rfl
         have hcz38_2 : wc.cell? ⟨gb205, 2, none⟩ = some (.int .i64 a0_2) := (zq7 BK205.out 2).trans rfl
         have hcz38_3 : wc.cell? ⟨gb205, 3, none⟩ = some (.string a0_3) := (zq7 BK205.out 3).trans rfl
         have hcz38_4 : wc.cell? ⟨gb205, 4, none⟩ = some (.slice A0_4 l0_4.length c0_4) := (zq7 BK205.out 4).trans rfl
         have hcz38_5 : wc.cell? ⟨gb205, 5, none⟩ = some (.slice A0_5 l0_5.length c0_5) := (zq7 BK205.out 5).trans rfl
         have hcz38_6 : wc.cell? ⟨gb205, 6, none⟩ = some (.slice A0_6 l0_6.length c0_6) := (zq7 BK205.out 6).trans rfl
         have hfz38_0 := zq6 BK205.out 0
         have hfz38_1 := zq6 BK205.out 1
         have hfz38_2 := zq6 BK205.out 2
         have hfz38_3 := zq6 BK205.out 3
         have hfz38_4 := zq6 BK205.out 4
         have hfz38_5 := zq6 BK205.out 5
         have hfz38_6 := zq6 BK205.out 6
         go_wp2_with (first | (go_at_call 51; (with_reducible refine (impl_SetOk.calls kj1 _ _ l0_4 false _ ?side1 ?side2 A31.out).mono ?_); (case side1 => repeat (first | exact (Kd.C_below HR0_4.out HB.out) | (with_reducible refine Kd.C_alloc ?_ _) | (with_reducible refine Kd.C_drewN ?_ _) | (with_reducible refine Kd.C_drew ?_))); (case side2 => exact HC0_4.out); rintro e w' ⟨rfl, ⟨nd, rfl⟩⟩; (try first | exact ⟨rfl, _, World.drewN_drewN _ _ _⟩ | exact ⟨rfl, _, Eq.trans (World.drewN_drewN _ _ _) (congrArg (World.drewN _) (Nat.add_assoc _ _ _))⟩)))
         repeat (go_quiet (first | (go_at_call 51; (with_reducible refine (impl_SetOk.calls kj1 _ _ l0_4 false _ ?side1 ?side2 A31.out).mono ?_); (case side1 => repeat (first | exact (Kd.C_below HR0_4.out HB.out) | (with_reducible refine Kd.C_alloc ?_ _) | (with_reducible refine Kd.C_drewN ?_ _) | (with_reducible refine Kd.C_drew ?_))); (case side2 => exact HC0_4.out); rintro e w' ⟨rfl, ⟨nd, rfl⟩⟩; (try first | exact ⟨rfl, _, World.drewN_drewN _ _ _⟩ | exact ⟨rfl, _, Eq.trans (World.drewN_drewN _ _ _) (congrArg (World.drewN _) (Nat.add_assoc _ _ _))⟩))); try go_wp2_with (first | (go_at_call 51; (with_reducible refine (impl_SetOk.calls kj1 _ _ l0_4 false _ ?side1 ?side2 A31.out).mono ?_); (case side1 => repeat (first | exact (Kd.C_below HR0_4.out HB.out) | (with_reducible refine Kd.C_alloc ?_ _) | (with_reducible refine Kd.C_drewN ?_ _) | (with_reducible refine Kd.C_drew ?_))); (case side2 => exact HC0_4.out); rintro e w' ⟨rfl, ⟨nd, rfl⟩⟩; (try first | exact ⟨rfl, _, World.drewN_drewN _ _ _⟩ | exact ⟨rfl, _, Eq.trans (World.drewN_drewN _ _ _) (congrArg (World.drewN _) (Nat.add_assoc _ _ _))⟩))))
         go_ret
         exact ⟨by first | rfl | (simp [errW_none, errW_some] <;> rfl) | (simp [*, errW_none, errW_some] <;> rfl), by repeat (first | (with_reducible first | exact HB.out | apply zq5 | apply zq3 | apply zq4 | refine below_set ?_ GE205.out) | exact HB.out)⟩
       ·rw [if_neg c30] at H
        have c30b0 : decide (0 < (l0_4.length : Int)) = false := decide_eq_false c30
        have c30b1 : decide (0 < l0_4.length) = false := decide_eq_false (by omega)
        clear c30
        obtain rfl := Option.some.inj H
        have hcz39_0 : wc.cell? ⟨gb205, 0, none⟩ = some (.string a0_0) := (zq7 BK205.out 0).trans rfl
        have hcz39_1 : wc.cell? ⟨gb205, 1, none⟩ = some (.int .i64 a0_1) := (zq7 BK205.out 1).trans rfl
        have hcz39_2 : wc.cell? ⟨gb205, 2, none⟩ = some (.int .i64 a0_2) := (zq7 BK205.out 2).trans rfl
        have hcz39_3 : wc.cell? ⟨gb205, 3, none⟩ = some (.string a0_3) := (zq7 BK205.out 3).trans rfl
        have hcz39_4 : wc.cell? ⟨gb205, 4, none⟩ = some (.slice A0_4 l0_4.length c0_4) := (zq7 BK205.out 4).trans rfl
        have hcz39_5 : wc.cell? ⟨gb205, 5, none⟩ = some (.slice A0_5 l0_5.length c0_5) := (zq7 BK205.out 5).trans rfl
        have hcz39_6 : wc.cell? ⟨gb205, 6, none⟩ = some (.slice A0_6 l0_6.length c0_6) := (zq7 BK205.out 6).trans rfl
        have hfz39_0 := zq6 BK205.out 0
        have hfz39_1 := zq6 BK205.out 1
        have hfz39_2 := zq6 BK205.out 2
        have hfz39_3 := zq6 BK205.out 3
        have hfz39_4 := zq6 BK205.out 4
        have hfz39_5 := zq6 BK205.out 5
        have hfz39_6 := zq6 BK205.out 6
        go_wp2
        repeat (go_quiet (fail); try go_wp2)
        go_ret
        exact ⟨by first | rfl | (simp [errW_none, errW_some] <;> rfl) | (simp [*, errW_none, errW_some] <;> rfl), by repeat (first | (with_reducible first | exact HB.out | apply zq5 | apply zq3 | apply zq4 | refine below_set ?_ GE205.out) | exact HB.out)⟩
      ·rw [if_neg c29] at H
       have c29b0 : (a0_2 == 3) = false := beq_eq_false_iff_ne.mpr c29
       have c29b1 : (a0_2 != 3) = true := bne_iff_ne.mpr c29
       by_cases c40 : a0_2 = 4
       ·rw [if_pos c40] at H
        have c40b0 : (a0_2 == 4) = true := beq_iff_eq.mpr c40
        have c40b1 : (a0_2 != 4) = false := bne_eq_false_iff_eq.mpr c40
        clear c40
        by_cases c41 : (l0_5.length : Int) > 0
        ·rw [if_pos c41] at H
         have c41b0 : decide (0 < (l0_5.length : Int)) = true := decide_eq_true c41
         have c41b1 : decide (0 < l0_5.length) = true := decide_eq_true (by omega)
         clear c41
         replace H := Option.bind_eq_some_iff.mp H
         obtain ⟨t210, A420, H⟩ := H
         replace H : (if t210 = true then (if (¬ a0_3.toList = ([] : List UInt8)) then (some false) else (if ((l0_4.length : Int) > 0) then (some false) else (some (!(decide ((l0_6.length : Int) > 0)))))) else (some false)) = some r := H
         have A42 := zq9 A420
         clear A420
         by_cases c43 : t210 = true
         ·subst c43
          have H1 : (if (¬ a0_3.toList = ([] : List UInt8)) then (some false) else (if ((l0_4.length : Int) > 0) then (some false) else (some (!(decide ((l0_6.length : Int) > 0)))))) = some r := by rw [if_pos rfl] at H; exact H
          clear H
          have H := H1
          clear H1
          by_cases c44 : (¬ a0_3.toList = ([] : List UInt8))
          ·rw [if_pos c44] at H
           have c44b0 : (a0_3.toList == ([] : List UInt8)) = false := beq_eq_false_iff_ne.mpr c44
           have c44b1 : (a0_3.toList != ([] : List UInt8)) = true := bne_iff_ne.mpr c44
           clear c44
           obtain rfl := Option.some.inj H
           have hcz45_0 : wc.cell? ⟨gb205, 0, none⟩ = some (.string a0_0) := (zq7 BK205.out 0).trans rfl
           have hcz45_1 : wc.cell? ⟨gb205, 1, none⟩ = some (.int .i64 a0_1) := (zq7 BK205.out 1).trans rfl
           have hcz45_2 : wc.cell? ⟨gb205, 2, none⟩ = some (.int .i64 a0_2) := (zq7 BK205.out 2).trans rfl
           have hcz45_3 : wc.cell? ⟨gb205, 3, none⟩ = some (.string a0_3) := (zq7 BK205.out 3).trans rfl
           have hcz45_4 : wc.cell? ⟨gb205, 4, none⟩ = some (.slice A0_4 l0_4.length c0_4) := (zq7 BK205.out 4).trans rfl
           have hcz45_5 : wc.cell? ⟨gb205, 5, none⟩ = some (.slice A0_5 l0_5.length c0_5) := (zq7 BK205.out 5).trans rfl
           have hcz45_6 : wc.cell? ⟨gb205, 6, none⟩ = some (.slice A0_6 l0_6.length c0_6) := (zq7 BK205.out 6).trans rfl
           have hfz45_0 := zq6 BK205.out 0
           have hfz45_1 := zq6 BK205.out 1
           have hfz45_2 := zq6 BK205.out 2
           have hfz45_3 := zq6 BK205.out 3
           have hfz45_4 := zq6 BK205.out 4
           have hfz45_5 := zq6 BK205.out 5
           have hfz45_6 := zq6 BK205.out 6
           go_wp2_with (first | (go_at_call 52; (with_reducible refine (impl_ScoresOk.calls kj1 _ _ l0_5 true _ ?side1 ?side2 A42.out).mono ?_); (case side1 => repeat (first | exact (Kd.C_below HR0_5.out HB.out) | (with_reducible refine Kd.C_alloc ?_ _) | (with_reducible refine Kd.C_drewN ?_ _) | (with_reducible refine Kd.C_drew ?_))); (case side2 => exact HC0_5.out); rintro e w46 ⟨rfl, hb⟩; have n0_ := zq9 (blk_below (g := gb205) (o := .cells #[.string a0_0, .int .i64 a0_1, .int .i64 a0_2, .string a0_3, .slice A0_4 l0_4.length c0_4, .slice A0_5 l0_5.length c0_5, .slice A0_6 l0_6.length c0_6] 32 (0, 0)) (by (with_reducible repeat (first | refine blk_drewN ?_ _ | refine blk_drew ?_ | refine blk_alloc ?_ _)); exact BK205.out) hb); have n1_ := zq9 (below_step (by repeat (first | (with_reducible first | exact HB.out | apply zq5 | apply zq3 | apply zq4 | refine below_set ?_ GE205.out) | exact HB.out)) hb); clear BK205; clear HB; have BK205 := n0_; have HB := n1_; clear n0_ n1_; (try clear hb); (try clear hb2); (try clear hk); (try clear hi)))
           repeat (go_quiet (first | (go_at_call 52; (with_reducible refine (impl_ScoresOk.calls kj1 _ _ l0_5 true _ ?side1 ?side2 A42.out).mono ?_); (case side1 => repeat (first | exact (Kd.C_below HR0_5.out HB.out) | (with_reducible refine Kd.C_alloc ?_ _) | (with_reducible refine Kd.C_drewN ?_ _) | (with_reducible refine Kd.C_drew ?_))); (case side2 => exact HC0_5.out); rintro e w46 ⟨rfl, hb⟩; have n0_ := zq9 (blk_below (g := gb205) (o := .cells #[.string a0_0, .int .i64 a0_1, .int .i64 a0_2, .string a0_3, .slice A0_4 l0_4.length c0_4, .slice A0_5 l0_5.length c0_5, .slice A0_6 l0_6.length c0_6] 32 (0, 0)) (by (with_reducible repeat (first | refine blk_drewN ?_ _ | refine blk_drew ?_ | refine blk_alloc ?_ _)); exact BK205.out) hb); have n1_ := zq9 (below_step (by repeat (first | (with_reducible first | exact HB.out | apply zq5 | apply zq3 | apply zq4 | refine below_set ?_ GE205.out) | exact HB.out)) hb); clear BK205; clear HB; have BK205 := n0_; have HB := n1_; clear n0_ n1_; (try clear hb); (try clear hb2); (try clear hk); (try clear hi))); try go_wp2_with (first | (go_at_call 52; (with_reducible refine (impl_ScoresOk.calls kj1 _ _ l0_5 true _ ?side1 ?side2 A42.out).mono ?_); (case side1 => repeat (first | exact (Kd.C_below HR0_5.out HB.out) | (with_reducible refine Kd.C_alloc ?_ _) | (with_reducible refine Kd.C_drewN ?_ _) | (with_reducible refine Kd.C_drew ?_))); (case side2 => exact HC0_5.out); rintro e w46 ⟨rfl, hb⟩; have n0_ := zq9 (blk_below (g := gb205) (o := .cells #[.string a0_0, .int .i64 a0_1, .int .i64 a0_2, .string a0_3, .slice A0_4 l0_4.length c0_4, .slice A0_5 l0_5.length c0_5, .slice A0_6 l0_6.length c0_6] 32 (0, 0)) (by (with_reducible repeat (first | refine blk_drewN ?_ _ | refine blk_drew ?_ | refine blk_alloc ?_ _)); exact BK205.out) hb); have n1_ := zq9 (below_step (by repeat (first | (with_reducible first | exact HB.out | apply zq5 | apply zq3 | apply zq4 | refine below_set ?_ GE205.out) | exact HB.out)) hb); clear BK205; clear HB; have BK205 := n0_; have HB := n1_; clear n0_ n1_; (try clear hb); (try clear hb2); (try clear hk); (try clear hi))))
           go_ret
           exact ⟨by first | rfl | (simp [errW_none, errW_some] <;> rfl) | (simp [*, errW_none, errW_some] <;> rfl), by repeat (first | (with_reducible first | exact HB.out | apply zq5 | apply zq3 | apply zq4 | refine below_set ?_ GE205.out) | exact HB.out)⟩
          ·rw [if_neg c44] at H
           have c44b0 : (a0_3.toList == ([] : List UInt8)) = true := beq_iff_eq.mpr (Decidable.not_not.mp c44)
           have c44b1 : (a0_3.toList != ([] : List UInt8)) = false := bne_eq_false_iff_eq.mpr (Decidable.not_not.mp c44)
           by_cases c47 : ((l0_4.length : Int) > 0)
           ·rw [if_pos c47] at H
            have c47b0 : decide (0 < (l0_4.length : Int)) = true := decide_eq_true c47
            have c47b1 : decide (0 < l0_4.length) = true := decide_eq_true (by omega)
            clear c47
            obtain rfl := Option.some.inj H
            have hcz48_0 : wc.cell? ⟨gb205, 0, none⟩ = some (.string a0_0) := (zq7 BK205.out 0).trans rfl
            have hcz48_1 : wc.cell? ⟨gb205, 1, none⟩ = some (.int .i64 a0_1) := (zq7 BK205.out 1).trans rfl
            have hcz48_2 : wc.cell? ⟨gb205, 2, none⟩ = some (.int .i64 a0_2) := (zq7 BK205.out 2).trans rfl
            have hcz48_3 : wc.cell? ⟨gb205, 3, none⟩ = some (.string a0_3) := (zq7 BK205.out 3).trans rfl
            have hcz48_4 : wc.cell? ⟨gb205, 4, none⟩ = some (.slice A0_4 l0_4.length c0_4) := (zq7 BK205.out 4).trans rfl
            have hcz48_5 : wc.cell? ⟨gb205, 5, none⟩ = some (.slice A0_5 l0_5.length c0_5) := (zq7 BK205.out 5).trans rfl
            have hcz48_6 : wc.cell? ⟨gb205, 6, none⟩ = some (.slice A0_6 l0_6.length c0_6) := (zq7 BK205.out 6).trans rfl
            have hfz48_0 := zq6 BK205.out 0
            have hfz48_1 := zq6 BK205.out 1
            have hfz48_2 := zq6 BK205.out 2
            have hfz48_3 := zq6 BK205.out 3
            have hfz48_4 := zq6 BK205.out 4
            have hfz48_5 := zq6 BK205.out 5
            have hfz48_6 := zq6 BK205.out 6
            go_wp2_with (first | (go_at_call 52; (with_reducible refine (impl_ScoresOk.calls kj1 _ _ l0_5 true _ ?side1 ?side2 A42.out).mono ?_); (case side1 => repeat (first | exact (Kd.C_below HR0_5.out HB.out) | (with_reducible refine Kd.C_alloc ?_ _) | (with_reducible refine Kd.C_drewN ?_ _) | (with_reducible refine Kd.C_drew ?_))); (case side2 => exact HC0_5.out); rintro e w49 ⟨rfl, hb⟩; have n0_ := zq9 (blk_below (g := gb205) (o := .cells #[.string a0_0, .int .i64 a0_1, .int .i64 a0_2, .string a0_3, .slice A0_4 l0_4.length c0_4, .slice A0_5 l0_5.length c0_5, .slice A0_6 l0_6.length c0_6] 32 (0, 0)) (by (with_reducible repeat (first | refine blk_drewN ?_ _ | refine blk_drew ?_ | refine blk_alloc ?_ _)); exact BK205.out) hb); have n1_ := zq9 (below_step (by repeat (first | (with_reducible first | exact HB.out | apply zq5 | apply zq3 | apply zq4 | refine below_set ?_ GE205.out) | exact HB.out)) hb); clear BK205; clear HB; have BK205 := n0_; have HB := n1_; clear n0_ n1_; (try clear hb); (try clear hb2); (try clear hk); (try clear hi)))
            repeat (go_quiet (first | (go_at_call 52; (with_reducible refine (impl_ScoresOk.calls kj1 _ _ l0_5 true _ ?side1 ?side2 A42.out).mono ?_); (case side1 => repeat (first | exact (Kd.C_below HR0_5.out HB.out) | (with_reducible refine Kd.C_alloc ?_ _) | (with_reducible refine Kd.C_drewN ?_ _) | (with_reducible refine Kd.C_drew ?_))); (case side2 => exact HC0_5.out); rintro e w49 ⟨rfl, hb⟩; have n0_ := zq9 (blk_below (g := gb205) (o := .cells #[.string a0_0, .int .i64 a0_1, .int .i64 a0_2, .string a0_3, .slice A0_4 l0_4.length c0_4, .slice A0_5 l0_5.length c0_5, .slice A0_6 l0_6.length c0_6] 32 (0, 0)) (by (with_reducible repeat (first | refine blk_drewN ?_ _ | refine blk_drew ?_ | refine blk_alloc ?_ _)); exact BK205.out) hb); have n1_ := zq9 (below_step (by repeat (first | (with_reducible first | exact HB.out | apply zq5 | apply zq3 | apply zq4 | refine below_set ?_ GE205.out) | exact HB.out)) hb); clear BK205; clear HB; have BK205 := n0_; have HB := n1_; clear n0_ n1_; (try clear hb); (try clear hb2); (try clear hk); (try clear hi))); try go_wp2_with (first | (go_at_call 52; (with_reducible refine (impl_ScoresOk.calls kj1 _ _ l0_5 true _ ?side1 ?side2 A42.out).mono ?_); (case side1 => repeat (first | exact (Kd.C_below HR0_5.out HB.out) | (with_reducible refine Kd.C_alloc ?_ _) | (with_reducible refine Kd.C_drewN ?_ _) | (with_reducible refine Kd.C_drew ?_))); (case side2 => exact HC0_5.out); rintro e w49 ⟨rfl, hb⟩; have n0_ := zq9 (blk_below (g := gb205) (o := .cells #[.string a0_0, .int .i64 a0_1, .int .i64 a0_2, .string a0_3, .slice A0_4 l0_4.length c0_4, .slice A0_5 l0_5.length c0_5, .slice A0_6 l0_6.length c0_6] 32 (0, 0)) (by (with_reducible repeat (first | refine blk_drewN ?_ _ | refine blk_drew ?_ | refine blk_alloc ?_ _)); exact BK205.out) hb); have n1_ := zq9 (below_step (by repeat (first | (with_reducible first | exact HB.out | apply zq5 | apply zq3 | apply zq4 | refine below_set ?_ GE205.out) | exact HB.out)) hb); clear BK205; clear HB; have BK205 := n0_; have HB := n1_; clear n0_ n1_; (try clear hb); (try clear hb2); (try clear hk); (try clear hi))))
            go_ret
            exact ⟨by first | rfl | (simp [errW_none, errW_some] <;> rfl) | (simp [*, errW_none, errW_some] <;> rfl), by repeat (first | (with_reducible first | exact HB.out | apply zq5 | apply zq3 | apply zq4 | refine below_set ?_ GE205.out) | exact HB.out)⟩
           ·rw [if_neg c47] at H
            have c47b0 : decide (0 < (l0_4.length : Int)) = false := decide_eq_false c47
            have c47b1 : decide (0 < l0_4.length) = false := decide_eq_false (by omega)
            clear c47
            obtain rfl := Option.some.inj H
            have hcz50_0 : wc.cell? ⟨gb205, 0, none⟩ = some (.string a0_0) := (zq7 BK205.out 0).trans rfl
            have hcz50_1 : wc.cell? ⟨gb205, 1, none⟩ = some (.int .i64 a0_1) := (zq7 BK205.out 1).trans rfl
            have hcz50_2 : wc.cell? ⟨gb205, 2, none⟩ = some (.int .i64 a0_2) := (zq7 BK205.out 2).trans rfl
            have hcz50_3 : wc.cell? ⟨gb205, 3, none⟩ = some (.string a0_3) := (zq7 BK205.out 3).trans rfl
            have hcz50_4 : wc.cell? ⟨gb205, 4, none⟩ = some (.slice A0_4 l0_4.length c0_4) := (zq7 BK205.out 4).trans rfl
            have hcz50_5 : wc.cell? ⟨gb205, 5, none⟩ = some (.slice A0_5 l0_5.length c0_5) := (zq7 BK205.out 5).trans rfl
            have hcz50_6 : wc.cell? ⟨gb205, 6, none⟩ = some (.slice A0_6 l0_6.length c0_6) := (zq7 BK205.out 6).trans rfl
            have hfz50_0 := zq6 BK205.out 0
            have hfz50_1 := zq6 BK205.out 1
            have hfz50_2 := zq6 BK205.out 2
            have hfz50_3 := zq6 BK205.out 3
            have hfz50_4 := zq6 BK205.out 4
            have hfz50_5 := zq6 BK205.out 5
            have hfz50_6 := zq6 BK205.out 6
            go_wp2_with (first | (go_at_call 52; (with_reducible refine (impl_ScoresOk.calls kj1 _ _ l0_5 true _ ?side1 ?side2 A42.out).mono ?_); (case side1 => repeat (first | exact (Kd.C_below HR0_5.out HB.out) | (with_reducible refine Kd.C_alloc ?_ _) | (with_reducible refine Kd.C_drewN ?_ _) | (with_reducible refine Kd.C_drew ?_))); (case side2 => exact HC0_5.out); rintro e w51 ⟨rfl, hb⟩; have n0_ := zq9 (blk_below (g := gb205) (o := .cells #[.string a0_0, .int .i64 a0_1, .int .i64 a0_2, .string a0_3, .slice A0_4 l0_4.length c0_4, .slice A0_5 l0_5.length c0_5, .slice A0_6 l0_6.length c0_6] 32 (0, 0)) (by (with_reducible repeat (first | refine blk_drewN ?_ _ | refine blk_drew ?_ | refine blk_alloc ?_ _)); exact BK205.out) hb); have n1_ := zq9 (below_step (by repeat (first | (with_reducible first | exact HB.out | apply zq5 | apply zq3 | apply zq4 | refine below_set ?_ GE205.out) | exact HB.out)) hb); clear BK205; clear HB; have BK205 := n0_; have HB := n1_; clear n0_ n1_; (try clear hb); (try clear hb2); (try clear hk); (try clear hi)))
            repeat (go_quiet (first | (go_at_call 52; (with_reducible refine (impl_ScoresOk.calls kj1 _ _ l0_5 true _ ?side1 ?side2 A42.out).mono ?_); (case side1 => repeat (first | exact (Kd.C_below HR0_5.out HB.out) | (with_reducible refine Kd.C_alloc ?_ _) | (with_reducible refine Kd.C_drewN ?_ _) | (with_reducible refine Kd.C_drew ?_))); (case side2 => exact HC0_5.out); rintro e w51 ⟨rfl, hb⟩; have n0_ := zq9 (blk_below (g := gb205) (o := .cells #[.string a0_0, .int .i64 a0_1, .int .i64 a0_2, .string a0_3, .slice A0_4 l0_4.length c0_4, .slice A0_5 l0_5.length c0_5, .slice A0_6 l0_6.length c0_6] 32 (0, 0)) (by (with_reducible repeat (first | refine blk_drewN ?_ _ | refine blk_drew ?_ | refine blk_alloc ?_ _)); exact BK205.out) hb); have n1_ := zq9 (below_step (by repeat (first | (with_reducible first | exact HB.out | apply zq5 | apply zq3 | apply zq4 | refine below_set ?_ GE205.out) | exact HB.out)) hb); clear BK205; clear HB; have BK205 := n0_; have HB := n1_; clear n0_ n1_; (try clear hb); (try clear hb2); (try clear hk); (try clear hi))); try go_wp2_with (first | (go_at_call 52; (with_reducible refine (impl_ScoresOk.calls kj1 _ _ l0_5 true _ ?side1 ?side2 A42.out).mono ?_); (case side1 => repeat (first | exact (Kd.C_below HR0_5.out HB.out) | (with_reducible refine Kd.C_alloc ?_ _) | (with_reducible refine Kd.C_drewN ?_ _) | (with_reducible refine Kd.C_drew ?_))); (case side2 => exact HC0_5.out); rintro e w51 ⟨rfl, hb⟩; have n0_ := zq9 (blk_below (g := gb205) (o := .cells #[.string a0_0, .int .i64 a0_1, .int .i64 a0_2, .string a0_3, .slice A0_4 l0_4.length c0_4, .slice A0_5 l0_5.length c0_5, .slice A0_6 l0_6.length c0_6] 32 (0, 0)) (by (with_reducible repeat (first | refine blk_drewN ?_ _ | refine blk_drew ?_ | refine blk_alloc ?_ _)); exact BK205.out) hb); have n1_ := zq9 (below_step (by repeat (first | (with_reducible first | exact HB.out | apply zq5 | apply zq3 | apply zq4 | refine below_set ?_ GE205.out) | exact HB.out)) hb); clear BK205; clear HB; have BK205 := n0_; have HB := n1_; clear n0_ n1_; (try clear hb); (try clear hb2); (try clear hk); (try clear hi))))
            go_ret
            exact ⟨by first | rfl | (simp [errW_none, errW_some] <;> rfl) | (simp [*, errW_none, errW_some] <;> rfl), by repeat (first | (with_reducible first | exact HB.out | apply zq5 | apply zq3 | apply zq4 | refine below_set ?_ GE205.out) | exact HB.out)⟩
         ·replace c43 := Bool.eq_false_iff.mpr c43
          subst c43
          have H1 : (some false) = some r := by rw [if_neg (show ¬ (false = true) by decide)] at H; exact H
          clear H
          have H := H1
          clear H1
          obtain rfl := Option.some.inj H
          have hcz52_0 : wc.cell? ⟨gb205, 0, none⟩ = some (.string a0_0) := (zq7 BK205.out 0).trans rfl
          have hcz52_1 : wc.cell? ⟨gb205, 1, none⟩ = some (.int .i64 a0_1) := (zq7 BK205.out 1).trans rfl
          have hcz52_2 : wc.cell? ⟨gb205, 2, none⟩ = some (.int .i64 a0_2) := (zq7 BK205.out 2).trans rfl
          have hcz52_3 : wc.cell? ⟨gb205, 3, none⟩ = some (.string a0_3) := (zq7 BK205.out 3).trans rfl
          have hcz52_4 : wc.cell? ⟨gb205, 4, none⟩ = some (.slice A0_4 l0_4.length c0_4) := (zq7 BK205.out 4).trans rfl
          have hcz52_5 : wc.cell? ⟨gb205, 5, none⟩ = some (.slice A0_5 l0_5.length c0_5) := (zq7 BK205.out 5).trans rfl
          have hcz52_6 : wc.cell? ⟨gb205, 6, none⟩ = some (.slice A0_6 l0_6.length c0_6) := (zq7 BK205.out 6).trans rfl
          have hfz52_0 := zq6 BK205.out 0
          have hfz52_1 := zq6 BK205.out 1
          have hfz52_2 := zq6 BK205.out 2
          have hfz52_3 := zq6 BK205.out 3
          have hfz52_4 := zq6 BK205.out 4
          have hfz52_5 := zq6 BK205.out 5
          have hfz52_6 := zq6 BK205.out 6
          go_wp2_with (first | (go_at_call 52; (with_reducible refine (impl_ScoresOk.calls kj1 _ _ l0_5 false _ ?side1 ?side2 A42.out).mono ?_); (case side1 => repeat (first | exact (Kd.C_below HR0_5.out HB.out) | (with_reducible refine Kd.C_alloc ?_ _) | (with_reducible refine Kd.C_drewN ?_ _) | (with_reducible refine Kd.C_drew ?_))); (case side2 => exact HC0_5.out); rintro e w53 ⟨rfl, hb⟩; have n0_ := zq9 (blk_below (g := gb205) (o := .cells #[.string a0_0, .int .i64 a0_1, .int .i64 a0_2, .string a0_3, .slice A0_4 l0_4.length c0_4, .slice A0_5 l0_5.length c0_5, .slice A0_6 l0_6.length c0_6] 32 (0, 0)) (by (with_reducible repeat (first | refine blk_drewN ?_ _ | refine blk_drew ?_ | refine blk_alloc ?_ _)); exact BK205.out) hb); have n1_ := zq9 (below_step (by repeat (first | (with_reducible first | exact HB.out | apply zq5 | apply zq3 | apply zq4 | refine below_set ?_ GE205.out) | exact HB.out)) hb); clear BK205; clear HB; have BK205 := n0_; have HB := n1_; clear n0_ n1_; (try clear hb); (try clear hb2); (try clear hk); (try clear hi)))
          repeat (go_quiet (first | (go_at_call 52; (with_reducible refine (impl_ScoresOk.calls kj1 _ _ l0_5 false _ ?side1 ?side2 A42.out).mono ?_); (case side1 => repeat (first | exact (Kd.C_below HR0_5.out HB.out) | (with_reducible refine Kd.C_alloc ?_ _) | (with_reducible refine Kd.C_drewN ?_ _) | (with_reducible refine Kd.C_drew ?_))); (case side2 => exact HC0_5.out); rintro e w53 ⟨rfl, hb⟩; have n0_ := zq9 (blk_below (g := gb205) (o := .cells #[.string a0_0, .int .i64 a0_1, .int .i64 a0_2, .string a0_3, .slice A0_4 l0_4.length c0_4, .slice A0_5 l0_5.length c0_5, .slice A0_6 l0_6.length c0_6] 32 (0, 0)) (by (with_reducible repeat (first | refine blk_drewN ?_ _ | refine blk_drew ?_ | refine blk_alloc ?_ _)); exact BK205.out) hb); have n1_ := zq9 (below_step (by repeat (first | (with_reducible first | exact HB.out | apply zq5 | apply zq3 | apply zq4 | refine below_set ?_ GE205.out) | exact HB.out)) hb); clear BK205; clear HB; have BK205 := n0_; have HB := n1_; clear n0_ n1_; (try clear hb); (try clear hb2); (try clear hk); (try clear hi))); try go_wp2_with (first | (go_at_call 52; (with_reducible refine (impl_ScoresOk.calls kj1 _ _ l0_5 false _ ?side1 ?side2 A42.out).mono ?_); (case side1 => repeat (first | exact (Kd.C_below HR0_5.out HB.out) | (with_reducible refine Kd.C_alloc ?_ _) | (with_reducible refine Kd.C_drewN ?_ _) | (with_reducible refine Kd.C_drew ?_))); (case side2 => exact HC0_5.out); rintro e w53 ⟨rfl, hb⟩; have n0_ := zq9 (blk_below (g := gb205) (o := .cells #[.string a0_0, .int .i64 a0_1, .int .i64 a0_2, .string a0_3, .slice A0_4 l0_4.length c0_4, .slice A0_5 l0_5.length c0_5, .slice A0_6 l0_6.length c0_6] 32 (0, 0)) (by (with_reducible repeat (first | refine blk_drewN ?_ _ | refine blk_drew ?_ | refine blk_alloc ?_ _)); exact BK205.out) hb); have n1_ := zq9 (below_step (by repeat (first | (with_reducible first | exact HB.out | apply zq5 | apply zq3 | apply zq4 | refine below_set ?_ GE205.out) | exact HB.out)) hb); clear BK205; clear HB; have BK205 := n0_; have HB := n1_; clear n0_ n1_; (try clear hb); (try clear hb2); (try clear hk); (try clear hi))))
          go_ret
          exact ⟨by first | rfl | (simp [errW_none, errW_some] <;> rfl) | (simp [*, errW_none, errW_some] <;> rfl), by repeat (first | (with_reducible first | exact HB.out | apply zq5 | apply zq3 | apply zq4 | refine below_set ?_ GE205.out) | exact HB.out)⟩
        ·rw [if_neg c41] at H
         have c41b0 : decide (0 < (l0_5.length : Int)) = false := decide_eq_false c41
         have c41b1 : decide (0 < l0_5.length) = false := decide_eq_false (by omega)
         clear c41
         obtain rfl := Option.some.inj H
         have hcz54_0 : wc.cell? ⟨gb205, 0, none⟩ = some (.string a0_0) := (zq7 BK205.out 0).trans rfl
         have hcz54_1 : wc.cell? ⟨gb205, 1, none⟩ = some (.int .i64 a0_1) := (zq7 BK205.out 1).trans rfl
         have hcz54_2 : wc.cell? ⟨gb205, 2, none⟩ = some (.int .i64 a0_2) := (zq7 BK205.out 2).trans rfl
         have hcz54_3 : wc.cell? ⟨gb205, 3, none⟩ = some (.string a0_3) := (zq7 BK205.out 3).trans rfl
         have hcz54_4 : wc.cell? ⟨gb205, 4, none⟩ = some (.slice A0_4 l0_4.length c0_4) := (zq7 BK205.out 4).trans rfl
         have hcz54_5 : wc.cell? ⟨gb205, 5, none⟩ = some (.slice A0_5 l0_5.length c0_5) := (zq7 BK205.out 5).trans rfl
         have hcz54_6 : wc.cell? ⟨gb205, 6, none⟩ = some (.slice A0_6 l0_6.length c0_6) := (zq7 BK205.out 6).trans rfl
         have hfz54_0 := zq6 BK205.out 0
         have hfz54_1 := zq6 BK205.out 1
         have hfz54_2 := zq6 BK205.out 2
         have hfz54_3 := zq6 BK205.out 3
         have hfz54_4 := zq6 BK205.out 4
         have hfz54_5 := zq6 BK205.out 5
         have hfz54_6 := zq6 BK205.out 6
         go_wp2
         repeat (go_quiet (fail); try go_wp2)
         go_ret
         exact ⟨by first | rfl | (simp [errW_none, errW_some] <;> rfl) | (simp [*, errW_none, errW_some] <;> rfl), by repeat (first | (with_reducible first | exact HB.out | apply zq5 | apply zq3 | apply zq4 | refine below_set ?_ GE205.out) | exact HB.out)⟩
       ·rw [if_neg c40] at H
        have c40b0 : (a0_2 == 4) = false := beq_eq_false_iff_ne.mpr c40
        have c40b1 : (a0_2 != 4) = true := bne_iff_ne.mpr c40
        by_cases c55 : a0_2 = 5
        ·rw [if_pos c55] at H
         have c55b0 : (a0_2 == 5) = true := beq_iff_eq.mpr c55
         have c55b1 : (a0_2 != 5) = false := bne_eq_false_iff_eq.mpr c55
         clear c55
         by_cases c56 : (l0_6.length : Int) > 0
         ·rw [if_pos c56] at H
          have c56b0 : decide (0 < (l0_6.length : Int)) = true := decide_eq_true c56
          have c56b1 : decide (0 < l0_6.length) = true := decide_eq_true (by omega)
          clear c56
          replace H := Option.bind_eq_some_iff.mp H
          obtain ⟨t211, A570, H⟩ := H
          replace H : (if t211 = true then (if (¬ a0_3.toList = ([] : List UInt8)) then (some false) else (if ((l0_4.length : Int) > 0) then (some false) else (some (!(decide ((l0_5.length : Int) > 0)))))) else (some false)) = some r := H
          have A57 := zq9 A570
          clear A570
          by_cases c58 : t211 = true
          ·subst c58
           have H1 : (if (¬ a0_3.toList = ([] : List UInt8)) then (some false) else (if ((l0_4.length : Int) > 0) then (some false) else (some (!(decide ((l0_5.length : Int) > 0)))))) = some r := by rw [if_pos rfl] at H; exact H
           clear H
           have H := H1
           clear H1
           by_cases c59 : (¬ a0_3.toList = ([] : List UInt8))
           ·rw [if_pos c59] at H
            have c59b0 : (a0_3.toList == ([] : List UInt8)) = false := beq_eq_false_iff_ne.mpr c59
            have c59b1 : (a0_3.toList != ([] : List UInt8)) = true := bne_iff_ne.mpr c59
            clear c59
            obtain rfl := Option.some.inj H
            have hcz60_0 : wc.cell? ⟨gb205, 0, none⟩ = some (.string a0_0) := (zq7 BK205.out 0).trans rfl
            have hcz60_1 : wc.cell? ⟨gb205, 1, none⟩ = some (.int .i64 a0_1) := (zq7 BK205.out 1).trans rfl
            have hcz60_2 : wc.cell? ⟨gb205, 2, none⟩ = some (.int .i64 a0_2) := (zq7 BK205.out 2).trans rfl
            have hcz60_3 : wc.cell? ⟨gb205, 3, none⟩ = some (.string a0_3) := (zq7 BK205.out 3).trans rfl
            have hcz60_4 : wc.cell? ⟨gb205, 4, none⟩ = some (.slice A0_4 l0_4.length c0_4) := (zq7 BK205.out 4).trans rfl
            have hcz60_5 : wc.cell? ⟨gb205, 5, none⟩ = some (.slice A0_5 l0_5.length c0_5) := (zq7 BK205.out 5).trans rfl
            have hcz60_6 : wc.cell? ⟨gb205, 6, none⟩ = some (.slice A0_6 l0_6.length c0_6) := (zq7 BK205.out 6).trans rfl
            have hfz60_0 := zq6 BK205.out 0
            have hfz60_1 := zq6 BK205.out 1
            have hfz60_2 := zq6 BK205.out 2
            have hfz60_3 := zq6 BK205.out 3
            have hfz60_4 := zq6 BK205.out 4
            have hfz60_5 := zq6 BK205.out 5
            have hfz60_6 := zq6 BK205.out 6
            go_wp2_with (first | (go_at_call 53; (with_reducible refine (impl_FieldsOk.calls kj1 _ _ l0_6 true _ ?side1 ?side2 A57.out).mono ?_); (case side1 => repeat (first | exact (Kd.C_below HR0_6.out HB.out) | (with_reducible refine Kd.C_alloc ?_ _) | (with_reducible refine Kd.C_drewN ?_ _) | (with_reducible refine Kd.C_drew ?_))); (case side2 => exact HC0_6.out); rintro e w61 ⟨rfl, hb⟩; have n0_ := zq9 (blk_below (g := gb205) (o := .cells #[.string a0_0, .int .i64 a0_1, .int .i64 a0_2, .string a0_3, .slice A0_4 l0_4.length c0_4, .slice A0_5 l0_5.length c0_5, .slice A0_6 l0_6.length c0_6] 32 (0, 0)) (by (with_reducible repeat (first | refine blk_drewN ?_ _ | refine blk_drew ?_ | refine blk_alloc ?_ _)); exact BK205.out) hb); have n1_ := zq9 (below_step (by repeat (first | (with_reducible first | exact HB.out | apply zq5 | apply zq3 | apply zq4 | refine below_set ?_ GE205.out) | exact HB.out)) hb); clear BK205; clear HB; have BK205 := n0_; have HB := n1_; clear n0_ n1_; (try clear hb); (try clear hb2); (try clear hk); (try clear hi)))
            repeat (go_quiet (first | (go_at_call 53; (with_reducible refine (impl_FieldsOk.calls kj1 _ _ l0_6 true _ ?side1 ?side2 A57.out).mono ?_); (case side1 => repeat (first | exact (Kd.C_below HR0_6.out HB.out) | (with_reducible refine Kd.C_alloc ?_ _) | (with_reducible refine Kd.C_drewN ?_ _) | (with_reducible refine Kd.C_drew ?_))); (case side2 => exact HC0_6.out); rintro e w61 ⟨rfl, hb⟩; have n0_ := zq9 (blk_below (g := gb205) (o := .cells #[.string a0_0, .int .i64 a0_1, .int .i64 a0_2, .string a0_3, .slice A0_4 l0_4.length c0_4, .slice A0_5 l0_5.length c0_5, .slice A0_6 l0_6.length c0_6] 32 (0, 0)) (by (with_reducible repeat (first | refine blk_drewN ?_ _ | refine blk_drew ?_ | refine blk_alloc ?_ _)); exact BK205.out) hb); have n1_ := zq9 (below_step (by repeat (first | (with_reducible first | exact HB.out | apply zq5 | apply zq3 | apply zq4 | refine below_set ?_ GE205.out) | exact HB.out)) hb); clear BK205; clear HB; have BK205 := n0_; have HB := n1_; clear n0_ n1_; (try clear hb); (try clear hb2); (try clear hk); (try clear hi))); try go_wp2_with (first | (go_at_call 53; (with_reducible refine (impl_FieldsOk.calls kj1 _ _ l0_6 true _ ?side1 ?side2 A57.out).mono ?_); (case side1 => repeat (first | exact (Kd.C_below HR0_6.out HB.out) | (with_reducible refine Kd.C_alloc ?_ _) | (with_reducible refine Kd.C_drewN ?_ _) | (with_reducible refine Kd.C_drew ?_))); (case side2 => exact HC0_6.out); rintro e w61 ⟨rfl, hb⟩; have n0_ := zq9 (blk_below (g := gb205) (o := .cells #[.string a0_0, .int .i64 a0_1, .int .i64 a0_2, .string a0_3, .slice A0_4 l0_4.length c0_4, .slice A0_5 l0_5.length c0_5, .slice A0_6 l0_6.length c0_6] 32 (0, 0)) (by (with_reducible repeat (first | refine blk_drewN ?_ _ | refine blk_drew ?_ | refine blk_alloc ?_ _)); exact BK205.out) hb); have n1_ := zq9 (below_step (by repeat (first | (with_reducible first | exact HB.out | apply zq5 | apply zq3 | apply zq4 | refine below_set ?_ GE205.out) | exact HB.out)) hb); clear BK205; clear HB; have BK205 := n0_; have HB := n1_; clear n0_ n1_; (try clear hb); (try clear hb2); (try clear hk); (try clear hi))))
            go_ret
            exact ⟨by first | rfl | (simp [errW_none, errW_some] <;> rfl) | (simp [*, errW_none, errW_some] <;> rfl), by repeat (first | (with_reducible first | exact HB.out | apply zq5 | apply zq3 | apply zq4 | refine below_set ?_ GE205.out) | exact HB.out)⟩
           ·rw [if_neg c59] at H
            have c59b0 : (a0_3.toList == ([] : List UInt8)) = true := beq_iff_eq.mpr (Decidable.not_not.mp c59)
            have c59b1 : (a0_3.toList != ([] : List UInt8)) = false := bne_eq_false_iff_eq.mpr (Decidable.not_not.mp c59)
            by_cases c62 : ((l0_4.length : Int) > 0)
            ·rw [if_pos c62] at H
             have c62b0 : decide (0 < (l0_4.length : Int)) = true := decide_eq_true c62
             have c62b1 : decide (0 < l0_4.length) = true := decide_eq_true (by omega)
             clear c62
             obtain rfl := Option.some.inj H
             have hcz63_0 : wc.cell? ⟨gb205, 0, none⟩ = some (.string a0_0) := (zq7 BK205.out 0).trans rfl
             have hcz63_1 : wc.cell? ⟨gb205, 1, none⟩ = some (.int .i64 a0_1) := (zq7 BK205.out 1).trans rfl
             have hcz63_2 : wc.cell? ⟨gb205, 2, none⟩ = some (.int .i64 a0_2) := (zq7 BK205.out 2).trans rfl
             have hcz63_3 : wc.cell? ⟨gb205, 3, none⟩ = some (.string a0_3) := (zq7 BK205.out 3).trans rfl
             have hcz63_4 : wc.cell? ⟨gb205, 4, none⟩ = some (.slice A0_4 l0_4.length c0_4) := (zq7 BK205.out 4).trans rfl
             have hcz63_5 : wc.cell? ⟨gb205, 5, none⟩ = some (.slice A0_5 l0_5.length c0_5) := (zq7 BK205.out 5).trans rfl
             have hcz63_6 : wc.cell? ⟨gb205, 6, none⟩ = some (.slice A0_6 l0_6.length c0_6) := (zq7 BK205.out 6).trans rfl
             have hfz63_0 := zq6 BK205.out 0
             have hfz63_1 := zq6 BK205.out 1
             have hfz63_2 := zq6 BK205.out 2
             have hfz63_3 := zq6 BK205.out 3
             have hfz63_4 := zq6 BK205.out 4
             have hfz63_5 := zq6 BK205.out 5
             have hfz63_6 := zq6 BK205.out 6
             go_wp2_with (first | (go_at_call 53; (with_reducible refine (impl_FieldsOk.calls kj1 _ _ l0_6 true _ ?side1 ?side2 A57.out).mono ?_); (case side1 => repeat (first | exact (Kd.C_below HR0_6.out HB.out) | (with_reducible refine Kd.C_alloc ?_ _) | (with_reducible refine Kd.C_drewN ?_ _) | (with_reducible refine Kd.C_drew ?_))); (case side2 => exact HC0_6.out); rintro e w64 ⟨rfl, hb⟩; have n0_ := zq9 (blk_below (g := gb205) (o := .cells #[.string a0_0, .int .i64 a0_1, .int .i64 a0_2, .string a0_3, .slice A0_4 l0_4.length c0_4, .slice A0_5 l0_5.length c0_5, .slice A0_6 l0_6.length c0_6] 32 (0, 0)) (by (with_reducible repeat (first | refine blk_drewN ?_ _ | refine blk_drew ?_ | refine blk_alloc ?_ _)); exact BK205.out) hb); have n1_ := zq9 (below_step (by repeat (first | (with_reducible first | exact HB.out | apply zq5 | apply zq3 | apply zq4 | refine below_set ?_ GE205.out) | exact HB.out)) hb); clear BK205; clear HB; have BK205 := n0_; have HB := n1_; clear n0_ n1_; (try clear hb); (try clear hb2); (try clear hk); (try clear hi)))
             repeat (go_quiet (first | (go_at_call 53; (with_reducible refine (impl_FieldsOk.calls kj1 _ _ l0_6 true _ ?side1 ?side2 A57.out).mono ?_); (case side1 => repeat (first | exact (Kd.C_below HR0_6.out HB.out) | (with_reducible refine Kd.C_alloc ?_ _) | (with_reducible refine Kd.C_drewN ?_ _) | (with_reducible refine Kd.C_drew ?_))); (case side2 => exact HC0_6.out); rintro e w64 ⟨rfl, hb⟩; have n0_ := zq9 (blk_below (g := gb205) (o := .cells #[.string a0_0, .int .i64 a0_1, .int .i64 a0_2, .string a0_3, .slice A0_4 l0_4.length c0_4, .slice A0_5 l0_5.length c0_5, .slice A0_6 l0_6.length c0_6] 32 (0, 0)) (by (with_reducible repeat (first | refine blk_drewN ?_ _ | refine blk_drew ?_ | refine blk_alloc ?_ _)); exact BK205.out) hb); have n1_ := zq9 (below_step (by repeat (first | (with_reducible first | exact HB.out | apply zq5 | apply zq3 | apply zq4 | refine below_set ?_ GE205.out) | exact HB.out)) hb); clear BK205; clear HB; have BK205 := n0_; have HB := n1_; clear n0_ n1_; (try clear hb); (try clear hb2); (try clear hk); (try clear hi))); try go_wp2_with (first | (go_at_call 53; (with_reducible refine (impl_FieldsOk.calls kj1 _ _ l0_6 true _ ?side1 ?side2 A57.out).mono ?_); (case side1 => repeat (first | exact (Kd.C_below HR0_6.out HB.out) | (with_reducible refine Kd.C_alloc ?_ _) | (with_reducible refine Kd.C_drewN ?_ _) | (with_reducible refine Kd.C_drew ?_))); (case side2 => exact HC0_6.out); rintro e w64 ⟨rfl, hb⟩; have n0_ := zq9 (blk_below (g := gb205) (o := .cells #[.string a0_0, .int .i64 a0_1, .int .i64 a0_2, .string a0_3, .slice A0_4 l0_4.length c0_4, .slice A0_5 l0_5.length c0_5, .slice A0_6 l0_6.length c0_6] 32 (0, 0)) (by (with_reducible repeat (first | refine blk_drewN ?_ _ | refine blk_drew ?_ | refine blk_alloc ?_ _)); exact BK205.out) hb); have n1_ := zq9 (below_step (by repeat (first | (with_reducible first | exact HB.out | apply zq5 | apply zq3 | apply zq4 | refine below_set ?_ GE205.out) | exact HB.out)) hb); clear BK205; clear HB; have BK205 := n0_; have HB := n1_; clear n0_ n1_; (try clear hb); (try clear hb2); (try clear hk); (try clear hi))))
             go_ret
             exact ⟨by first | rfl | (simp [errW_none, errW_some] <;> rfl) | (simp [*, errW_none, errW_some] <;> rfl), by repeat (first | (with_reducible first | exact HB.out | apply zq5 | apply zq3 | apply zq4 | refine below_set ?_ GE205.out) | exact HB.out)⟩
            ·rw [if_neg c62] at H
             have c62b0 : decide (0 < (l0_4.length : Int)) = false := decide_eq_false c62
             have c62b1 : decide (0 < l0_4.length) = false := decide_eq_false (by omega)
             clear c62
             obtain rfl := Option.some.inj H
             have hcz65_0 : wc.cell? ⟨gb205, 0, none⟩ = some (.string a0_0) := (zq7 BK205.out 0).trans rfl
             have hcz65_1 : wc.cell? ⟨gb205, 1, none⟩ = some (.int .i64 a0_1) := (zq7 BK205.out 1).trans rfl
             have hcz65_2 : wc.cell? ⟨gb205, 2, none⟩ = some (.int .i64 a0_2) := (zq7 BK205.out 2).trans rfl
             have hcz65_3 : wc.cell? ⟨gb205, 3, none⟩ = some (.string a0_3) := (zq7 BK205.out 3).trans rfl
             have hcz65_4 : wc.cell? ⟨gb205, 4, none⟩ = some (.slice A0_4 l0_4.length c0_4) := (zq7 BK205.out 4).trans rfl
             have hcz65_5 : wc.cell? ⟨gb205, 5, none⟩ = some (.slice A0_5 l0_5.length c0_5) := (zq7 BK205.out 5).trans rfl
             have hcz65_6 : wc.cell? ⟨gb205, 6, none⟩ = some (.slice A0_6 l0_6.length c0_6) := (zq7 BK205.out 6).trans rfl
             have hfz65_0 := zq6 BK205.out 0
             have hfz65_1 := zq6 BK205.out 1
             have hfz65_2 := zq6 BK205.out 2
             have hfz65_3 := zq6 BK205.out 3
             have hfz65_4 := zq6 BK205.out 4
             have hfz65_5 := zq6 BK205.out 5
             have hfz65_6 := zq6 BK205.out 6
             go_wp2_with (first | (go_at_call 53; (with_reducible refine (impl_FieldsOk.calls kj1 _ _ l0_6 true _ ?side1 ?side2 A57.out).mono ?_); (case side1 => repeat (first | exact (Kd.C_below HR0_6.out HB.out) | (with_reducible refine Kd.C_alloc ?_ _) | (with_reducible refine Kd.C_drewN ?_ _) | (with_reducible refine Kd.C_drew ?_))); (case side2 => exact HC0_6.out); rintro e w66 ⟨rfl, hb⟩; have n0_ := zq9 (blk_below (g := gb205) (o := .cells #[.string a0_0, .int .i64 a0_1, .int .i64 a0_2, .string a0_3, .slice A0_4 l0_4.length c0_4, .slice A0_5 l0_5.length c0_5, .slice A0_6 l0_6.length c0_6] 32 (0, 0)) (by (with_reducible repeat (first | refine blk_drewN ?_ _ | refine blk_drew ?_ | refine blk_alloc ?_ _)); exact BK205.out) hb); have n1_ := zq9 (below_step (by repeat (first | (with_reducible first | exact HB.out | apply zq5 | apply zq3 | apply zq4 | refine below_set ?_ GE205.out) | exact HB.out)) hb); clear BK205; clear HB; have BK205 := n0_; have HB := n1_; clear n0_ n1_; (try clear hb); (try clear hb2); (try clear hk); (try clear hi)))
             repeat (go_quiet (first | (go_at_call 53; (with_reducible refine (impl_FieldsOk.calls kj1 _ _ l0_6 true _ ?side1 ?side2 A57.out).mono ?_); (case side1 => repeat (first | exact (Kd.C_below HR0_6.out HB.out) | (with_reducible refine Kd.C_alloc ?_ _) | (with_reducible refine Kd.C_drewN ?_ _) | (with_reducible refine Kd.C_drew ?_))); (case side2 => exact HC0_6.out); rintro e w66 ⟨rfl, hb⟩; have n0_ := zq9 (blk_below (g := gb205) (o := .cells #[.string a0_0, .int .i64 a0_1, .int .i64 a0_2, .string a0_3, .slice A0_4 l0_4.length c0_4, .slice A0_5 l0_5.length c0_5, .slice A0_6 l0_6.length c0_6] 32 (0, 0)) (by (with_reducible repeat (first | refine blk_drewN ?_ _ | refine blk_drew ?_ | refine blk_alloc ?_ _)); exact BK205.out) hb); have n1_ := zq9 (below_step (by repeat (first | (with_reducible first | exact HB.out | apply zq5 | apply zq3 | apply zq4 | refine below_set ?_ GE205.out) | exact HB.out)) hb); clear BK205; clear HB; have BK205 := n0_; have HB := n1_; clear n0_ n1_; (try clear hb); (try clear hb2); (try clear hk); (try clear hi))); try go_wp2_with (first | (go_at_call 53; (with_reducible refine (impl_FieldsOk.calls kj1 _ _ l0_6 true _ ?side1 ?side2 A57.out).mono ?_); (case side1 => repeat (first | exact (Kd.C_below HR0_6.out HB.out) | (with_reducible refine Kd.C_alloc ?_ _) | (with_reducible refine Kd.C_drewN ?_ _) | (with_reducible refine Kd.C_drew ?_))); (case side2 => exact HC0_6.out); rintro e w66 ⟨rfl, hb⟩; have n0_ := zq9 (blk_below (g := gb205) (o := .cells #[.string a0_0, .int .i64 a0_1, .int .i64 a0_2, .string a0_3, .slice A0_4 l0_4.length c0_4, .slice A0_5 l0_5.length c0_5, .slice A0_6 l0_6.length c0_6] 32 (0, 0)) (by (with_reducible repeat (first | refine blk_drewN ?_ _ | refine blk_drew ?_ | refine blk_alloc ?_ _)); exact BK205.out) hb); have n1_ := zq9 (below_step (by repeat (first | (with_reducible first | exact HB.out | apply zq5 | apply zq3 | apply zq4 | refine below_set ?_ GE205.out) | exact HB.out)) hb); clear BK205; clear HB; have BK205 := n0_; have HB := n1_; clear n0_ n1_; (try clear hb); (try clear hb2); (try clear hk); (try clear hi))))
             go_ret
             exact ⟨by first | rfl | (simp [errW_none, errW_some] <;> rfl) | (simp [*, errW_none, errW_some] <;> rfl), by repeat (first | (with_reducible first | exact HB.out | apply zq5 | apply zq3 | apply zq4 | refine below_set ?_ GE205.out) | exact HB.out)⟩
          ·replace c58 := Bool.eq_false_iff.mpr c58
           subst c58
           have H1 : (some false) = some r := by rw [if_neg (show ¬ (false = true) by decide)] at H; exact H
           clear H
           have H := H1
           clear H1
           obtain rfl := Option.some.inj H
           have hcz67_0 : wc.cell? ⟨gb205, 0, none⟩ = some (.string a0_0) := (zq7 BK205.out 0).trans rfl
           have hcz67_1 : wc.cell? ⟨gb205, 1, none⟩ = some (.int .i64 a0_1) := (zq7 BK205.out 1).trans rfl
           have hcz67_2 : wc.cell? ⟨gb205, 2, none⟩ = some (.int .i64 a0_2) := (zq7 BK205.out 2).trans rfl
           have hcz67_3 : wc.cell? ⟨gb205, 3, none⟩ = some (.string a0_3) := (zq7 BK205.out 3).trans rfl
           have hcz67_4 : wc.cell? ⟨gb205, 4, none⟩ = some (.slice A0_4 l0_4.length c0_4) := (zq7 BK205.out 4).trans rfl
           have hcz67_5 : wc.cell? ⟨gb205, 5, none⟩ = some (.slice A0_5 l0_5.length c0_5) := (zq7 BK205.out 5).trans rfl
           have hcz67_6 : wc.cell? ⟨gb205, 6, none⟩ = some (.slice A0_6 l0_6.length c0_6) := (zq7 BK205.out 6).trans rfl
           have hfz67_0 := zq6 BK205.out 0
           have hfz67_1 := zq6 BK205.out 1
           have hfz67_2 := zq6 BK205.out 2
           have hfz67_3 := zq6 BK205.out 3
           have hfz67_4 := zq6 BK205.out 4
           have hfz67_5 := zq6 BK205.out 5
           have hfz67_6 := zq6 BK205.out 6
           go_wp2_with (first | (go_at_call 53; (with_reducible refine (impl_FieldsOk.calls kj1 _ _ l0_6 false _ ?side1 ?side2 A57.out).mono ?_); (case side1 => repeat (first | exact (Kd.C_below HR0_6.out HB.out) | (with_reducible refine Kd.C_alloc ?_ _) | (with_reducible refine Kd.C_drewN ?_ _) | (with_reducible refine Kd.C_drew ?_))); (case side2 => exact HC0_6.out); rintro e w68 ⟨rfl, hb⟩; have n0_ := zq9 (blk_below (g := gb205) (o := .cells #[.string a0_0, .int .i64 a0_1, .int .i64 a0_2, .string a0_3, .slice A0_4 l0_4.length c0_4, .slice A0_5 l0_5.length c0_5, .slice A0_6 l0_6.length c0_6] 32 (0, 0)) (by (with_reducible repeat (first | refine blk_drewN ?_ _ | refine blk_drew ?_ | refine blk_alloc ?_ _)); exact BK205.out) hb); have n1_ := zq9 (below_step (by repeat (first | (with_reducible first | exact HB.out | apply zq5 | apply zq3 | apply zq4 | refine below_set ?_ GE205.out) | exact HB.out)) hb); clear BK205; clear HB; have BK205 := n0_; have HB := n1_; clear n0_ n1_; (try clear hb); (try clear hb2); (try clear hk); (try clear hi)))
           repeat (go_quiet (first | (go_at_call 53; (with_reducible refine (impl_FieldsOk.calls kj1 _ _ l0_6 false _ ?side1 ?side2 A57.out).mono ?_); (case side1 => repeat (first | exact (Kd.C_below HR0_6.out HB.out) | (with_reducible refine Kd.C_alloc ?_ _) | (with_reducible refine Kd.C_drewN ?_ _) | (with_reducible refine Kd.C_drew ?_))); (case side2 => exact HC0_6.out); rintro e w68 ⟨rfl, hb⟩; have n0_ := zq9 (blk_below (g := gb205) (o := .cells #[.string a0_0, .int .i64 a0_1, .int .i64 a0_2, .string a0_3, .slice A0_4 l0_4.length c0_4, .slice A0_5 l0_5.length c0_5, .slice A0_6 l0_6.length c0_6] 32 (0, 0)) (by (with_reducible repeat (first | refine blk_drewN ?_ _ | refine blk_drew ?_ | refine blk_alloc ?_ _)); exact BK205.out) hb); have n1_ := zq9 (below_step (by repeat (first | (with_reducible first | exact HB.out | apply zq5 | apply zq3 | apply zq4 | refine below_set ?_ GE205.out) | exact HB.out)) hb); clear BK205; clear HB; have BK205 := n0_; have HB := n1_; clear n0_ n1_; (try clear hb); (try clear hb2); (try clear hk); (try clear hi))); try go_wp2_with (first | (go_at_call 53; (with_reducible refine (impl_FieldsOk.calls kj1 _ _ l0_6 false _ ?side1 ?side2 A57.out).mono ?_); (case side1 => repeat (first | exact (Kd.C_below HR0_6.out HB.out) | (with_reducible refine Kd.C_alloc ?_ _) | (with_reducible refine Kd.C_drewN ?_ _) | (with_reducible refine Kd.C_drew ?_))); (case side2 => exact HC0_6.out); rintro e w68 ⟨rfl, hb⟩; have n0_ := zq9 (blk_below (g := gb205) (o := .cells #[.string a0_0, .int .i64 a0_1, .int .i64 a0_2, .string a0_3, .slice A0_4 l0_4.length c0_4, .slice A0_5 l0_5.length c0_5, .slice A0_6 l0_6.length c0_6] 32 (0, 0)) (by (with_reducible repeat (first | refine blk_drewN ?_ _ | refine blk_drew ?_ | refine blk_alloc ?_ _)); exact BK205.out) hb); have n1_ := zq9 (below_step (by repeat (first | (with_reducible first | exact HB.out | apply zq5 | apply zq3 | apply zq4 | refine below_set ?_ GE205.out) | exact HB.out)) hb); clear BK205; clear HB; have BK205 := n0_; have HB := n1_; clear n0_ n1_; (try clear hb); (try clear hb2); (try clear hk); (try clear hi))))
           go_ret
           exact ⟨by first | rfl | (simp [errW_none, errW_some] <;> rfl) | (simp [*, errW_none, errW_some] <;> rfl), by repeat (first | (with_reducible first | exact HB.out | apply zq5 | apply zq3 | apply zq4 | refine below_set ?_ GE205.out) | exact HB.out)⟩
         ·rw [if_neg c56] at H
          have c56b0 : decide (0 < (l0_6.length : Int)) = false := decide_eq_false c56
          have c56b1 : decide (0 < l0_6.length) = false := decide_eq_false (by omega)
          clear c56
          obtain rfl := Option.some.inj H
          have hcz69_0 : wc.cell? ⟨gb205, 0, none⟩ = some (.string a0_0) := (zq7 BK205.out 0).trans rfl
          have hcz69_1 : wc.cell? ⟨gb205, 1, none⟩ = some (.int .i64 a0_1) := (zq7 BK205.out 1).trans rfl
          have hcz69_2 : wc.cell? ⟨gb205, 2, none⟩ = some (.int .i64 a0_2) := (zq7 BK205.out 2).trans rfl
          have hcz69_3 : wc.cell? ⟨gb205, 3, none⟩ = some (.string a0_3) := (zq7 BK205.out 3).trans rfl
          have hcz69_4 : wc.cell? ⟨gb205, 4, none⟩ = some (.slice A0_4 l0_4.length c0_4) := (zq7 BK205.out 4).trans rfl
          have hcz69_5 : wc.cell? ⟨gb205, 5, none⟩ = some (.slice A0_5 l0_5.length c0_5) := (zq7 BK205.out 5).trans rfl
          have hcz69_6 : wc.cell? ⟨gb205, 6, none⟩ = some (.slice A0_6 l0_6.length c0_6) := (zq7 BK205.out 6).trans rfl
          have hfz69_0 := zq6 BK205.out 0
          have hfz69_1 := zq6 BK205.out 1
          have hfz69_2 := zq6 BK205.out 2
          have hfz69_3 := zq6 BK205.out 3
          have hfz69_4 := zq6 BK205.out 4
          have hfz69_5 := zq6 BK205.out 5
          have hfz69_6 := zq6 BK205.out 6
          go_wp2
          repeat (go_quiet (fail); try go_wp2)
          go_ret
          exact ⟨by first | rfl | (simp [errW_none, errW_some] <;> rfl) | (simp [*, errW_none, errW_some] <;> rfl), by repeat (first | (with_reducible first | exact HB.out | apply zq5 | apply zq3 | apply zq4 | refine below_set ?_ GE205.out) | exact HB.out)⟩
        ·rw [if_neg c55] at H
         have c55b0 : (a0_2 == 5) = false := beq_eq_false_iff_ne.mpr c55
         have c55b1 : (a0_2 != 5) = true := bne_iff_ne.mpr c55
         obtain rfl := Option.some.inj H
         have hcz70_0 : wc.cell? ⟨gb205, 0, none⟩ = some (.string a0_0) := (zq7 BK205.out 0).trans rfl
         have hcz70_1 : wc.cell? ⟨gb205, 1, none⟩ = some (.int .i64 a0_1) := (zq7 BK205.out 1).trans rfl
         have hcz70_2 : wc.cell? ⟨gb205, 2, none⟩ = some (.int .i64 a0_2) := (zq7 BK205.out 2).trans rfl
         have hcz70_3 : wc.cell? ⟨gb205, 3, none⟩ = some (.string a0_3) := (zq7 BK205.out 3).trans rfl
         have hcz70_4 : wc.cell? ⟨gb205, 4, none⟩ = some (.slice A0_4 l0_4.length c0_4) := (zq7 BK205.out 4).trans rfl
         have hcz70_5 : wc.cell? ⟨gb205, 5, none⟩ = some (.slice A0_5 l0_5.length c0_5) := (zq7 BK205.out 5).trans rfl
         have hcz70_6 : wc.cell? ⟨gb205, 6, none⟩ = some (.slice A0_6 l0_6.length c0_6) := (zq7 BK205.out 6).trans rfl
         have hfz70_0 := zq6 BK205.out 0
         have hfz70_1 := zq6 BK205.out 1
         have hfz70_2 := zq6 BK205.out 2
         have hfz70_3 := zq6 BK205.out 3
         have hfz70_4 := zq6 BK205.out 4
         have hfz70_5 := zq6 BK205.out 5
         have hfz70_6 := zq6 BK205.out 6
         go_wp2
         repeat (go_quiet (fail); try go_wp2)
         go_ret
         exact ⟨by first | rfl | (simp [errW_none, errW_some] <;> rfl) | (simp [*, errW_none, errW_some] <;> rfl), by repeat (first | (with_reducible first | exact HB.out | apply zq5 | apply zq3 | apply zq4 | refine below_set ?_ GE205.out) | exact HB.out)⟩
end Go.Proofs.Ytnkgmcgbbldkgaa.P
namespace Go.Proofs.Ytnkgmcgbbldkgaa.P
open Go.RowKit Go.Proofs.YtnkgmcgbbldkgaaW.PrintWords Go.Proofs.YtnkgmcgbbldkgaaW.PrintLast Go.Proofs.YtnkgmcgbbldkgaaW.PrintMore
attribute [local go_sem] max2_int min2_int max_two min_two max_three min_three max_four min_four   -- for this text's walks alone
set_option linter.unusedVariables false
set_option linter.unusedSimpArgs false
set_option maxHeartbeats 8000000 in
set_option maxRecDepth 100000 in
theorem laws_eqStringS.calls (k : Nat) (A0 : Option Addr) (c0 : Nat) (l0 : List ByteArray) (A1 : Option Addr) (c1 : Nat) (l1 : List ByteArray) (r : Bool) (w : World) (hr0 : Kd.C Kd.string w A0 l0.length l0) (hc0 : l0.length ≤ c0) (hr1 : Kd.C Kd.string w A1 l1.length l1) (hc1 : l1.length ≤ c1) (h : laws_eqStringS.f k l0 l1 = some r) :
  Calls Try.prog 23 #[.slice A0 l0.length c0, .slice A1 l1.length c1] w fun e w' => e = .returned (.bool r) ∧ Drawn0 w w' := by
 have HR0 := zq9 hr0
 have HC0 := zq9 hc0
 clear hr0 hc0
 have HR1 := zq9 hr1
 have HC1 := zq9 hc1
 clear hr1 hc1
 have H : (if (l0.length : Int) = (l1.length : Int) then (laws_eqStringS.l0 k l0 l1 0) else (some false)) = some r := h
 clear h
 by_cases c3 : (l0.length : Int) = (l1.length : Int)
 ·rw [if_pos c3] at H
  have c3b0 : ((l0.length : Int) == (l1.length : Int)) = true := beq_iff_eq.mpr c3
  have c3b1 : ((l0.length : Int) != (l1.length : Int)) = false := bne_eq_false_iff_eq.mpr c3
  have c3b2 : (l0.length == l1.length) = true := by first | simpa using c3 | (simp at c3 ⊢; omega)
  clear c3
  have H' := zq9 H
  clear H
  go_enter Try.func23, Try.ntmps23
  go_wp2
  repeat (go_quiet (fail); try go_wp2)
  go_loopg [5] k (fun kq v5 w' => ∃ (x5_1 : Int), v5 = .int .i64 x5_1 ∧ Aside0 (laws_eqStringS.l0 kq l0 l1 x5_1 = some r) ∧ Aside0 (kq ≤ k) ∧ Drawn0 w w')
  case atStart => exact ⟨(0), (by first | rfl | (simp; done) | (simp [*]; done)), H', ⟨Nat.le_refl _⟩, by repeat (first | exact Drawn0.refl _ | apply Drawn0.step)⟩
  case round =>
   clear H'
   try clear c1
   try clear c2
   try clear p2
   try clear c3
   try clear c3b0
   try clear c3b1
   try clear c3b2
   obtain ⟨x5_1, rfl, HA, HK1, ⟨m1, rfl⟩⟩ := hrel
   cases gk with
   | zero => exact absurd HA.out (by simp [laws_eqStringS.l0])
   | succ k1 =>
    have H := HA.out
    clear HA
    simp only [laws_eqStringS.l0] at H
    by_cases c4 : x5_1 < (l0.length : Int)
    ·rw [if_pos c4] at H
     have c4b0 : decide (x5_1 < (l0.length : Int)) = true := decide_eq_true c4
     clear c4
     by_cases c5 : 0 ≤ x5_1
     ·rw [if_pos c5] at H
      have c5b0 : decide (0 ≤ x5_1) = true := decide_eq_true c5
      clear c5
      by_cases c6 : x5_1 < (l1.length : Int)
      ·rw [if_pos c6] at H
       have c6b0 : decide (x5_1 < (l1.length : Int)) = true := decide_eq_true c6
       clear c6
       by_cases c7 : (rdOf ByteArray.empty l0 x5_1).toList = (rdOf ByteArray.empty l1 x5_1).toList
       ·rw [if_pos c7] at H
        have c7b0 : ((rdOf ByteArray.empty l0 x5_1).toList == (rdOf ByteArray.empty l1 x5_1).toList) = true := beq_iff_eq.mpr c7
        have c7b1 : ((rdOf ByteArray.empty l0 x5_1).toList != (rdOf ByteArray.empty l1 x5_1).toList) = false := bne_eq_false_iff_eq.mpr c7
        clear c7
        have H' := zq9 H
        clear H
        have p212 : 0 ≤ (x5_1 : Int) := of_decide_eq_true (by first | (with_reducible assumption) | assumption)
        have q212 : x5_1 < (l0.length : Int) := of_decide_eq_true (by first | (with_reducible assumption) | assumption)
        obtain ⟨ad212, e212, hx212_0⟩ := Kd.at_string HR0.out x5_1 p212 q212
        cases e212
        replace p212 := eq_true p212
        replace q212 := eq_true q212
        have p213 : 0 ≤ (x5_1 : Int) := of_decide_eq_true (by first | (with_reducible assumption) | assumption)
        have q213 : x5_1 < (l1.length : Int) := of_decide_eq_true (by first | (with_reducible assumption) | assumption)
        obtain ⟨ad213, e213, hx213_0⟩ := Kd.at_string HR1.out x5_1 p213 q213
        cases e213
        replace p213 := eq_true p213
        replace q213 := eq_true q213
        go_wp2
        repeat (go_quiet (fail); try go_wp2)
        go_roundg k1
        case measure => have := HK1.out; omega
        case rel => exact ⟨(wrap64 (x5_1 + 1)), (by first | rfl | (simp; done) | (simp [*]; done)), H', ⟨by have := HK1.out; omega⟩, by repeat (first | exact Drawn0.refl _ | apply Drawn0.step)⟩
       ·rw [if_neg c7] at H
        have c7b0 : ((rdOf ByteArray.empty l0 x5_1).toList == (rdOf ByteArray.empty l1 x5_1).toList) = false := beq_eq_false_iff_ne.mpr c7
        have c7b1 : ((rdOf ByteArray.empty l0 x5_1).toList != (rdOf ByteArray.empty l1 x5_1).toList) = true := bne_iff_ne.mpr c7
        obtain rfl := Option.some.inj H
        have p212 : 0 ≤ (x5_1 : Int) := of_decide_eq_true (by first | (with_reducible assumption) | assumption)
        have q212 : x5_1 < (l0.length : Int) := of_decide_eq_true (by first | (with_reducible assumption) | assumption)
        obtain ⟨ad212, e212, hx212_0⟩ := Kd.at_string HR0.out x5_1 p212 q212
        cases e212
        replace p212 := eq_true p212
        replace q212 := eq_true q212
        have p213 : 0 ≤ (x5_1 : Int) := of_decide_eq_true (by first | (with_reducible assumption) | assumption)
        have q213 : x5_1 < (l1.length : Int) := of_decide_eq_true (by first | (with_reducible assumption) | assumption)
        obtain ⟨ad213, e213, hx213_0⟩ := Kd.at_string HR1.out x5_1 p213 q213
        cases e213
        replace p213 := eq_true p213
        replace q213 := eq_true q213
        go_wp2
        repeat (go_quiet (fail); try go_wp2)
        go_ret
        exact ⟨by first | rfl | (simp; done) | (simp [*]; done), by repeat (first | exact Drawn0.refl _ | apply Drawn0.step)⟩
      ·rw [if_neg c6] at H
       exact absurd H (by simp)
     ·rw [if_neg c5] at H
      exact absurd H (by simp)
    ·rw [if_neg c4] at H
     have c4b0 : decide (x5_1 < (l0.length : Int)) = false := decide_eq_false c4
     clear c4
     obtain rfl := Option.some.inj H
     go_wp2
     repeat (go_quiet (fail); try go_wp2)
     go_ret
     exact ⟨by first | rfl | (simp; done) | (simp [*]; done), by repeat (first | exact Drawn0.refl _ | apply Drawn0.step)⟩
 ·rw [if_neg c3] at H
  have c3b0 : ((l0.length : Int) == (l1.length : Int)) = false := beq_eq_false_iff_ne.mpr c3
  have c3b1 : ((l0.length : Int) != (l1.length : Int)) = true := bne_iff_ne.mpr c3
  have c3b2 : (l0.length == l1.length) = false := by first | simpa using c3 | (simp at c3 ⊢; omega)
  obtain rfl := Option.some.inj H
  go_enter Try.func23, Try.ntmps23
  go_wp2
  repeat (go_quiet (fail); try go_wp2)
  go_ret
  exact ⟨by first | rfl | (simp; done) | (simp [*]; done), by repeat (first | exact Drawn0.refl _ | apply Drawn0.step)⟩
end Go.Proofs.Ytnkgmcgbbldkgaa.P
namespace Go.Proofs.Ytnkgmcgbbldkgaa.P
open Go.RowKit Go.Proofs.YtnkgmcgbbldkgaaW.PrintWords Go.Proofs.YtnkgmcgbbldkgaaW.PrintLast Go.Proofs.YtnkgmcgbbldkgaaW.PrintMore
attribute [local go_sem] max2_int min2_int max_two min_two max_three min_three max_four min_four   -- for this text's walks alone
set_option linter.unusedVariables false
set_option linter.unusedSimpArgs false
set_option maxHeartbeats 8000000 in
set_option maxRecDepth 100000 in
theorem laws_eqScore.calls (a0_0 : ByteArray) (a0_1 : Int) (a1_0 : ByteArray) (a1_1 : Int) (r : Bool) (w : World) (h : laws_eqScore.f a0_0 a0_1 a1_0 a1_1 = some r) :
    Calls Try.prog 88 #[.agg #[.string a0_0, .int .i64 a0_1], .agg #[.string a1_0, .int .i64 a1_1]] w fun e w' => e = .returned (.bool r) ∧ Below w.heap.size w w' := by
  have hu99 := Try.underlying99
  have HB := zq9 (Below.refl w.heap.size w)
  have H : (if a0_0.toList = a1_0.toList then (if a0_1 = a1_1 then (some true) else (some false)) else (some false)) = some r := h
  clear h
  by_cases c3 : a0_0.toList = a1_0.toList
  · rw [if_pos c3] at H
    have c3b0 : (a0_0.toList == a1_0.toList) = true := beq_iff_eq.mpr c3
    have c3b1 : (a0_0.toList != a1_0.toList) = false := bne_eq_false_iff_eq.mpr c3
    clear c3
    by_cases c4 : a0_1 = a1_1
    · rw [if_pos c4] at H
      have c4b0 : (a0_1 == a1_1) = true := beq_iff_eq.mpr c4
      have c4b1 : (a0_1 != a1_1) = false := bne_eq_false_iff_eq.mpr c4
      clear c4
      obtain rfl := Option.some.inj H
      go_enter Try.func88, Try.ntmps88
      go_wp2_with (first | ((with_reducible refine gate_dst (N := 2) rfl ?_); refine box_event ?hg (N := 2) ?hd (cs := #[.string a0_0, .int .i64 a0_1]) (t := 99) ?hr ?_; (case hd => rfl); (case hg => rfl); (case hr => first | (go_simp; done) | (go_simp; rfl)); intro gb214 hg w5 hbox hb; have n0_ := zq9 (below_step (by repeat (first | (with_reducible first | exact HB.out | apply zq5 | apply zq3 | apply zq4) | exact HB.out | exact Below.refl _ _)) hb); have n1_ := zq9 (hbox); have n2_ := zq9 ((by rw [hg]; exact (below_size (by repeat (first | (with_reducible first | exact HB.out | apply zq5 | apply zq3 | apply zq4) | exact HB.out | exact Below.refl _ _))) : w.heap.size ≤ gb214)); have n3_ := zq9 ((by rw [hg]; exact (below_size (by repeat (first | (with_reducible first | exact HB.out | apply zq5 | apply zq3 | apply zq4) | exact HB.out | exact Below.refl _ _))) : w.heap.size ≤ gb214)); clear HB; have HB := n0_; have BK214 := n1_; have GW214 := n2_; have GE214 := n3_; clear n0_ n1_ n2_ n3_; clear hb hbox hg) | ((with_reducible refine gate_dst (N := 3) rfl ?_); refine box_event ?hg (N := 3) ?hd (cs := #[.string a1_0, .int .i64 a1_1]) (t := 99) ?hr ?_; (case hd => rfl); (case hg => rfl); (case hr => first | (go_simp; done) | (go_simp; rfl)); intro gb215 hg w6 hbox hb; have n0_ := zq9 (blk_below (g := gb214) (o := .cells #[.string a0_0, .int .i64 a0_1] 99 (0, 0)) (by (with_reducible repeat (first | refine blk_drewN ?_ _ | refine blk_drew ?_ | refine blk_alloc ?_ _)); exact BK214.out) hb); have n1_ := zq9 (below_step (by repeat (first | (with_reducible first | exact HB.out | apply zq5 | apply zq3 | apply zq4 | refine below_set ?_ GE214.out) | exact HB.out)) hb); have n2_ := zq9 (hbox); have n3_ := zq9 ((by rw [hg]; exact (below_size (by repeat (first | (with_reducible first | exact HB.out | apply zq5 | apply zq3 | apply zq4 | refine below_set ?_ GE214.out) | exact HB.out))) : w.heap.size ≤ gb215)); have n4_ := zq9 ((by rw [hg]; exact (below_size (by repeat (first | (with_reducible first | exact HB.out | apply zq5 | apply zq3 | apply zq4 | refine below_set ?_ GE214.out) | exact HB.out))) : w.heap.size ≤ gb215)); have n5_ := zq9 ((by rw [hg]; exact Nat.ne_of_lt (blk_lt (g := gb214) (o := .cells #[.string a0_0, .int .i64 a0_1] 99 (0, 0)) (by (with_reducible repeat (first | refine blk_drewN ?_ _ | refine blk_drew ?_ | refine blk_alloc ?_ _)); exact BK214.out)) : gb214 ≠ gb215)); have n6_ := zq9 ((by rw [hg]; exact Nat.ne_of_gt (blk_lt (g := gb214) (o := .cells #[.string a0_0, .int .i64 a0_1] 99 (0, 0)) (by (with_reducible repeat (first | refine blk_drewN ?_ _ | refine blk_drew ?_ | refine blk_alloc ?_ _)); exact BK214.out)) : gb215 ≠ gb214)); clear BK214; clear HB; have BK214 := n0_; have HB := n1_; have BK215 := n2_; have GW215 := n3_; have GE215 := n4_; have NB214_215 := n5_; have NB215_214 := n6_; clear n0_ n1_ n2_ n3_ n4_ n5_ n6_; clear hb hbox hg; have hnb7 := NB214_215.out; have hnc7 := NB215_214.out; have hcz8_0 : w6.cell? ⟨gb214, 0, none⟩ = some (.string a0_0) := (zq7 BK214.out 0).trans rfl; have hcz8_1 : w6.cell? ⟨gb214, 1, none⟩ = some (.int .i64 a0_1) := (zq7 BK214.out 1).trans rfl; have hfz8_0 := zq6 BK214.out 0; have hfz8_1 := zq6 BK214.out 1; have hcz9_0 : w6.cell? ⟨gb215, 0, none⟩ = some (.string a1_0) := (zq7 BK215.out 0).trans rfl; have hcz9_1 : w6.cell? ⟨gb215, 1, none⟩ = some (.int .i64 a1_1) := (zq7 BK215.out 1).trans rfl; have hfz9_0 := zq6 BK215.out 0; have hfz9_1 := zq6 BK215.out 1))
      go_ret
      exact ⟨by first | rfl | (simp [errW_none, errW_some] <;> rfl) | (simp [*, errW_none, errW_some] <;> rfl), by repeat (first | (with_reducible first | exact HB.out | apply zq5 | apply zq3 | apply zq4 | refine below_set ?_ GE214.out | refine below_set ?_ GE215.out) | exact HB.out)⟩
    · rw [if_neg c4] at H
      have c4b0 : (a0_1 == a1_1) = false := beq_eq_false_iff_ne.mpr c4
      have c4b1 : (a0_1 != a1_1) = true := bne_iff_ne.mpr c4
      obtain rfl := Option.some.inj H
      go_enter Try.func88, Try.ntmps88
      go_wp2_with (first | ((with_reducible refine gate_dst (N := 2) rfl ?_); refine box_event ?hg (N := 2) ?hd (cs := #[.string a0_0, .int .i64 a0_1]) (t := 99) ?hr ?_; (case hd => rfl); (case hg => rfl); (case hr => first | (go_simp; done) | (go_simp; rfl)); intro gb214 hg w10 hbox hb; have n0_ := zq9 (below_step (by repeat (first | (with_reducible first | exact HB.out | apply zq5 | apply zq3 | apply zq4) | exact HB.out | exact Below.refl _ _)) hb); have n1_ := zq9 (hbox); have n2_ := zq9 ((by rw [hg]; exact (below_size (by repeat (first | (with_reducible first | exact HB.out | apply zq5 | apply zq3 | apply zq4) | exact HB.out | exact Below.refl _ _))) : w.heap.size ≤ gb214)); have n3_ := zq9 ((by rw [hg]; exact (below_size (by repeat (first | (with_reducible first | exact HB.out | apply zq5 | apply zq3 | apply zq4) | exact HB.out | exact Below.refl _ _))) : w.heap.size ≤ gb214)); clear HB; have HB := n0_; have BK214 := n1_; have GW214 := n2_; have GE214 := n3_; clear n0_ n1_ n2_ n3_; clear hb hbox hg) | ((with_reducible refine gate_dst (N := 3) rfl ?_); refine box_event ?hg (N := 3) ?hd (cs := #[.string a1_0, .int .i64 a1_1]) (t := 99) ?hr ?_; (case hd => rfl); (case hg => rfl); (case hr => first | (go_simp; done) | (go_simp; rfl)); intro gb215 hg w11 hbox hb; have n0_ := zq9 (blk_below (g := gb214) (o := .cells #[.string a0_0, .int .i64 a0_1] 99 (0, 0)) (by (with_reducible repeat (first | refine blk_drewN ?_ _ | refine blk_drew ?_ | refine blk_alloc ?_ _)); exact BK214.out) hb); have n1_ := zq9 (below_step (by repeat (first | (with_reducible first | exact HB.out | apply zq5 | apply zq3 | apply zq4 | refine below_set ?_ GE214.out) | exact HB.out)) hb); have n2_ := zq9 (hbox); have n3_ := zq9 ((by rw [hg]; exact (below_size (by repeat (first | (with_reducible first | exact HB.out | apply zq5 | apply zq3 | apply zq4 | refine below_set ?_ GE214.out) | exact HB.out))) : w.heap.size ≤ gb215)); have n4_ := zq9 ((by rw [hg]; exact (below_size (by repeat (first | (with_reducible first | exact HB.out | apply zq5 | apply zq3 | apply zq4 | refine below_set ?_ GE214.out) | exact HB.out))) : w.heap.size ≤ gb215)); have n5_ := zq9 ((by rw [hg]; exact Nat.ne_of_lt (blk_lt (g := gb214) (o := .cells #[.string a0_0, .int .i64 a0_1] 99 (0, 0)) (by (with_reducible repeat (first | refine blk_drewN ?_ _ | refine blk_drew ?_ | refine blk_alloc ?_ _)); exact BK214.out)) : gb214 ≠ gb215)); have n6_ := zq9 ((by rw [hg]; exact Nat.ne_of_gt (blk_lt (g := gb214) (o := .cells #[.string a0_0, .int .i64 a0_1] 99 (0, 0)) (by (with_reducible repeat (first | refine blk_drewN ?_ _ | refine blk_drew ?_ | refine blk_alloc ?_ _)); exact BK214.out)) : gb215 ≠ gb214)); clear BK214; clear HB; have BK214 := n0_; have HB := n1_; have BK215 := n2_; have GW215 := n3_; have GE215 := n4_; have NB214_215 := n5_; have NB215_214 := n6_; clear n0_ n1_ n2_ n3_ n4_ n5_ n6_; clear hb hbox hg; have hnb12 := NB214_215.out; have hnc12 := NB215_214.out; have hcz13_0 : w11.cell? ⟨gb214, 0, none⟩ = some (.string a0_0) := (zq7 BK214.out 0).trans rfl; have hcz13_1 : w11.cell? ⟨gb214, 1, none⟩ = some (.int .i64 a0_1) := (zq7 BK214.out 1).trans rfl; have hfz13_0 := zq6 BK214.out 0; have hfz13_1 := zq6 BK214.out 1; have hcz14_0 : w11.cell? ⟨gb215, 0, none⟩ = some (.string a1_0) := (zq7 BK215.out 0).trans rfl; have hcz14_1 : w11.cell? ⟨gb215, 1, none⟩ = some (.int .i64 a1_1) := (zq7 BK215.out 1).trans rfl; have hfz14_0 := zq6 BK215.out 0; have hfz14_1 := zq6 BK215.out 1))
      go_ret
      exact ⟨by first | rfl | (simp [errW_none, errW_some] <;> rfl) | (simp [*, errW_none, errW_some] <;> rfl), by repeat (first | (with_reducible first | exact HB.out | apply zq5 | apply zq3 | apply zq4 | refine below_set ?_ GE214.out | refine below_set ?_ GE215.out) | exact HB.out)⟩
  · rw [if_neg c3] at H
    have c3b0 : (a0_0.toList == a1_0.toList) = false := beq_eq_false_iff_ne.mpr c3
    have c3b1 : (a0_0.toList != a1_0.toList) = true := bne_iff_ne.mpr c3
    obtain rfl := Option.some.inj H
    go_enter Try.func88, Try.ntmps88
    go_wp2_with (first | ((with_reducible refine gate_dst (N := 2) rfl ?_); refine box_event ?hg (N := 2) ?hd (cs := #[.string a0_0, .int .i64 a0_1]) (t := 99) ?hr ?_; (case hd => rfl); (case hg => rfl); (case hr => first | (go_simp; done) | (go_simp; rfl)); intro gb214 hg w15 hbox hb; have n0_ := zq9 (below_step (by repeat (first | (with_reducible first | exact HB.out | apply zq5 | apply zq3 | apply zq4) | exact HB.out | exact Below.refl _ _)) hb); have n1_ := zq9 (hbox); have n2_ := zq9 ((by rw [hg]; exact (below_size (by repeat (first | (with_reducible first | exact HB.out | apply zq5 | apply zq3 | apply zq4) | exact HB.out | exact Below.refl _ _))) : w.heap.size ≤ gb214)); have n3_ := zq9 ((by rw [hg]; exact (below_size (by repeat (first | (with_reducible first | exact HB.out | apply zq5 | apply zq3 | apply zq4) | exact HB.out | exact Below.refl _ _))) : w.heap.size ≤ gb214)); clear HB; have HB := n0_; have BK214 := n1_; have GW214 := n2_; have GE214 := n3_; clear n0_ n1_ n2_ n3_; clear hb hbox hg) | ((with_reducible refine gate_dst (N := 3) rfl ?_); refine box_event ?hg (N := 3) ?hd (cs := #[.string a1_0, .int .i64 a1_1]) (t := 99) ?hr ?_; (case hd => rfl); (case hg => rfl); (case hr => first | (go_simp; done) | (go_simp; rfl)); intro gb215 hg w16 hbox hb; have n0_ := zq9 (blk_below (g := gb214) (o := .cells #[.string a0_0, .int .i64 a0_1] 99 (0, 0)) (by (with_reducible repeat (first | refine blk_drewN ?_ _ | refine blk_drew ?_ | refine blk_alloc ?_ _)); exact BK214.out) hb); have n1_ := zq9 (below_step (by repeat (first | (with_reducible first | exact HB.out | apply zq5 | apply zq3 | apply zq4 | refine below_set ?_ GE214.out) | exact HB.out)) hb); have n2_ := zq9 (hbox); have n3_ := zq9 ((by rw [hg]; exact (below_size (by repeat (first | (with_reducible first | exact HB.out | apply zq5 | apply zq3 | apply zq4 | refine below_set ?_ GE214.out) | exact HB.out))) : w.heap.size ≤ gb215)); have n4_ := zq9 ((by rw [hg]; exact (below_size (by repeat (first | (with_reducible first | exact HB.out | apply zq5 | apply zq3 | apply zq4 | refine below_set ?_ GE214.out) | exact HB.out))) : w.heap.size ≤ gb215)); have n5_ := zq9 ((by rw [hg]; exact Nat.ne_of_lt (blk_lt (g := gb214) (o := .cells #[.string a0_0, .int .i64 a0_1] 99 (0, 0)) (by (with_reducible repeat (first | refine blk_drewN ?_ _ | refine blk_drew ?_ | refine blk_alloc ?_ _)); exact BK214.out)) : gb214 ≠ gb215)); have n6_ := zq9 ((by rw [hg]; exact Nat.ne_of_gt (blk_lt (g := gb214) (o := .cells #[.string a0_0, .int .i64 a0_1] 99 (0, 0)) (by (with_reducible repeat (first | refine blk_drewN ?_ _ | refine blk_drew ?_ | refine blk_alloc ?_ _)); exact BK214.out)) : gb215 ≠ gb214)); clear BK214; clear HB; have BK214 := n0_; have HB := n1_; have BK215 := n2_; have GW215 := n3_; have GE215 := n4_; have NB214_215 := n5_; have NB215_214 := n6_; clear n0_ n1_ n2_ n3_ n4_ n5_ n6_; clear hb hbox hg; have hnb17 := NB214_215.out; have hnc17 := NB215_214.out; have hcz18_0 : w16.cell? ⟨gb214, 0, none⟩ = some (.string a0_0) := (zq7 BK214.out 0).trans rfl; have hcz18_1 : w16.cell? ⟨gb214, 1, none⟩ = some (.int .i64 a0_1) := (zq7 BK214.out 1).trans rfl; have hfz18_0 := zq6 BK214.out 0; have hfz18_1 := zq6 BK214.out 1; have hcz19_0 : w16.cell? ⟨gb215, 0, none⟩ = some (.string a1_0) := (zq7 BK215.out 0).trans rfl; have hcz19_1 : w16.cell? ⟨gb215, 1, none⟩ = some (.int .i64 a1_1) := (zq7 BK215.out 1).trans rfl; have hfz19_0 := zq6 BK215.out 0; have hfz19_1 := zq6 BK215.out 1))
    go_ret
    exact ⟨by first | rfl | (simp [errW_none, errW_some] <;> rfl) | (simp [*, errW_none, errW_some] <;> rfl), by repeat (first | (with_reducible first | exact HB.out | apply zq5 | apply zq3 | apply zq4 | refine below_set ?_ GE214.out | refine below_set ?_ GE215.out) | exact HB.out)⟩
end Go.Proofs.Ytnkgmcgbbldkgaa.P
namespace Go.Proofs.Ytnkgmcgbbldkgaa.P
open Go.RowKit Go.Proofs.YtnkgmcgbbldkgaaW.PrintWords Go.Proofs.YtnkgmcgbbldkgaaW.PrintLast Go.Proofs.YtnkgmcgbbldkgaaW.PrintMore
attribute [local go_sem] max2_int min2_int max_two min_two max_three min_three max_four min_four   -- for this text's walks alone
set_option linter.unusedVariables false
set_option linter.unusedSimpArgs false
def laws_eqScoreS.T6 : Bool × List (List Nat × List Nat) := (true, [([], []), ([], []), ([0, 1], [0, 1]), ([2], [2]), ([], []), ([], []), ([4, 5], [4, 5]), ([6], [6]), ([3, 7], [3, 7]), ([8], [8])])
def laws_eqScoreS.B6 : List Nat := [0, 0, 3, 7, 0, 0, 48, 112, 255, 511]
theorem laws_eqScoreS.tab6 : rtab .any (opsOf Try.f54 6) = laws_eqScoreS.T6 := by kernel_rfl
theorem laws_eqScoreS.bits6 : waitsOk laws_eqScoreS.T6.2 laws_eqScoreS.B6 = true := by kernel_rfl
set_option maxHeartbeats 8000000 in
set_option maxRecDepth 100000 in
theorem laws_eqScoreS.calls (k : Nat) (A0 : Option Addr) (c0 : Nat) (l0 : List (S99)) (A1 : Option Addr) (c1 : Nat) (l1 : List (S99)) (r : Bool) (w : World) (hr0 : Kd.C k99 w A0 l0.length l0) (hc0 : l0.length ≤ c0) (hr1 : Kd.C k99 w A1 l1.length l1) (hc1 : l1.length ≤ c1) (h : laws_eqScoreS.f k l0 l1 = some r) :
  Calls Try.prog 54 #[.slice A0 l0.length c0, .slice A1 l1.length c1] w fun e w' => e = .returned (.bool r) ∧ Below w.heap.size w w' := by
 have hu99 := Try.underlying99
 have HR0 := zq9 hr0
 have HC0 := zq9 hc0
 clear hr0 hc0
 have HR1 := zq9 hr1
 have HC1 := zq9 hc1
 clear hr1 hc1
 have HB := zq9 (Below.refl w.heap.size w)
 have H : (if (l0.length : Int) = (l1.length : Int) then (laws_eqScoreS.l0 k l0 l1 0) else (some false)) = some r := h
 clear h
 by_cases c3 : (l0.length : Int) = (l1.length : Int)
 ·rw [if_pos c3] at H
  have c3b0 : ((l0.length : Int) == (l1.length : Int)) = true := beq_iff_eq.mpr c3
  have c3b1 : ((l0.length : Int) != (l1.length : Int)) = false := bne_eq_false_iff_eq.mpr c3
  have c3b2 : (l0.length == l1.length) = true := by first | simpa using c3 | (simp at c3 ⊢; omega)
  clear c3
  have H' := zq9 H
  clear H
  go_enter Try.func54, Try.ntmps54
  go_wp2
  go_loopg [5] k (fun kq v5 w' => ∃ (x5_1 : Int), v5 = .int .i64 x5_1 ∧ Aside0 (laws_eqScoreS.l0 kq l0 l1 x5_1 = some r) ∧ Aside0 (kq ≤ k) ∧ Aside0 (Below w.heap.size w w'))
  case atStart => exact ⟨(0), (by first | rfl | (simp; done) | (simp [*]; done)), H', ⟨Nat.le_refl _⟩, ⟨by repeat (first | (with_reducible first | exact HB.out | apply zq5 | apply zq3 | apply zq4) | exact HB.out | exact Below.refl _ _)⟩⟩
  case round =>
   clear H'
   try clear c1
   try clear p2
   try clear c3
   try clear c3b0
   try clear c3b1
   try clear c3b2
   obtain ⟨x5_1, rfl, HA, HK1, HB⟩ := hrel
   cases gk with
   | zero => exact absurd HA.out (by simp [laws_eqScoreS.l0])
   | succ k1 =>
    have H := HA.out
    clear HA
    simp only [laws_eqScoreS.l0] at H
    by_cases c4 : x5_1 < (l0.length : Int)
    ·rw [if_pos c4] at H
     have c4b0 : decide (x5_1 < (l0.length : Int)) = true := decide_eq_true c4
     clear c4
     by_cases c5 : 0 ≤ x5_1
     ·rw [if_pos c5] at H
      have c5b0 : decide (0 ≤ x5_1) = true := decide_eq_true c5
      clear c5
      by_cases c6 : x5_1 < (l1.length : Int)
      ·rw [if_pos c6] at H
       have c6b0 : decide (x5_1 < (l1.length : Int)) = true := decide_eq_true c6
       clear c6
       replace H := Option.bind_eq_some_iff.mp H
       obtain ⟨t218, A70, H⟩ := H
       replace H : (if t218 = true then (laws_eqScoreS.l0 k1 l0 l1 (wrap64 (x5_1 + 1))) else (some false)) = some r := H
       have A7 := zq9 A70
       clear A70
       by_cases c8 : t218 = true
       ·subst c8
        have H1 : (laws_eqScoreS.l0 k1 l0 l1 (wrap64 (x5_1 + 1))) = some r := by rw [if_pos rfl] at H; exact H
        clear H
        have H := H1
        clear H1
        have H' := zq9 H
        clear H
        try go_wp2
        have n0_ := zq9 (zq4 HB.out)
        clear HB
        have HB := n0_
        clear n0_
        have p216 : 0 ≤ (x5_1 : Int) := of_decide_eq_true (by first | (with_reducible assumption) | assumption)
        have q216 : x5_1 < (l0.length : Int) := of_decide_eq_true (by first | (with_reducible assumption) | assumption)
        obtain ⟨ad216, e216, hx216_0, hx216_1⟩ := at_T99 HR0.out x5_1 p216 q216
        have hw216_1 := hx216_1
        have hw216_0 := hx216_0
        cases e216
        replace hx216_0 := (HB.out.cell (zq8 w _ hx216_0)).trans hx216_0
        replace hx216_1 := (HB.out.cell (zq8 w _ hx216_1)).trans hx216_1
        replace p216 := eq_true p216
        replace q216 := eq_true q216
        have p217 : 0 ≤ (x5_1 : Int) := of_decide_eq_true (by first | (with_reducible assumption) | assumption)
        have q217 : x5_1 < (l1.length : Int) := of_decide_eq_true (by first | (with_reducible assumption) | assumption)
        obtain ⟨ad217, e217, hx217_0, hx217_1⟩ := at_T99 HR1.out x5_1 p217 q217
        have hw217_1 := hx217_1
        have hw217_0 := hx217_0
        cases e217
        replace hx217_0 := (HB.out.cell (zq8 w _ hx217_0)).trans hx217_0
        replace hx217_1 := (HB.out.cell (zq8 w _ hx217_1)).trans hx217_1
        replace p217 := eq_true p217
        replace q217 := eq_true q217
        refine start_ (n := 10) (S := fun w' => w'.cell? (ad216.add ((x5_1).toNat * 2)) = some (.string ((rd_T99 l0 x5_1).f0)) ∧ w'.cell? ⟨(ad216.add ((x5_1).toNat * 2)).block, (ad216.add ((x5_1).toNat * 2)).off + 1, none⟩ = some (.int .i64 ((rd_T99 l0 x5_1).f1)) ∧ w'.cell? (ad217.add ((x5_1).toNat * 2)) = some (.string ((rd_T99 l1 x5_1).f0)) ∧ w'.cell? ⟨(ad217.add ((x5_1).toNat * 2)).block, (ad217.add ((x5_1).toNat * 2)).off + 1, none⟩ = some (.int .i64 ((rd_T99 l1 x5_1).f1))) (ds := []) #[false, false, false, false, false, false, false, false, false, false] (by kernel_rfl) rfl rfl ⟨((HB.out.cell (zq8 w _ hw216_0)).trans hw216_0), ((HB.out.cell (zq8 w _ hw216_1)).trans hw216_1), ((HB.out.cell (zq8 w _ hw217_0)).trans hw217_0), ((HB.out.cell (zq8 w _ hw217_1)).trans hw217_1)⟩ (fun hHeld => ?_); refine with_tabW laws_eqScoreS.tab6 laws_eqScoreS.bits6 (fun HT_ HW_ => ?_)
        generalize wr.drew = w9 at HB hx216_0 hx216_1 hx217_0 hx217_1 hHeld ⊢
        refine pure_ (i := 0) (N := some 17) (v := ?_) (a' := ?_) #[true, false, false, false, false, false, false, false, false, false] rfl rfl (any_of HT_.out (by kernel_rfl)) (fun _ _ _ h => h) (Or.inl ⟨by rfl, ?_⟩) ?_ ?_
        rotate_left
        ·intro w'
         go_simp
         with_reducible rfl
        rotate_left
        ·simp only [Act.put, zq0, zq1, zq2, i64_w, i32_w]
         rfl
        refine pure_ (i := 1) (N := some 18) (v := ?_) (a' := ?_) #[true, true, false, false, false, false, false, false, false, false] rfl rfl (any_of HT_.out (by kernel_rfl)) (fun _ _ _ h => h) (Or.inl ⟨by rfl, ?_⟩) ?_ ?_
        rotate_left
        ·intro w'
         go_simp
         with_reducible rfl
        rotate_left
        ·simp only [Act.put, zq0, zq1, zq2, i64_w, i32_w]
         rfl
        refine pure_ (i := 2) (N := some 19) (v := ?_) (a' := ?_) #[true, true, true, false, false, false, false, false, false, false] rfl rfl (any_of HT_.out (by kernel_rfl)) (fun _ _ _ h => h) (Or.inl ⟨by rfl, ?_⟩) ?_ ?_
        rotate_left
        ·intro w'
         go_simp
         with_reducible rfl
        rotate_left
        ·simp only [Act.put, zq0, zq1, zq2, i64_w, i32_w]
         rfl
        refine pure_ (i := 4) (N := some 21) (v := ?_) (a' := ?_) #[true, true, true, false, true, false, false, false, false, false] rfl rfl (any_of HT_.out (by kernel_rfl)) (fun _ _ _ h => h) (Or.inl ⟨by rfl, ?_⟩) ?_ ?_
        rotate_left
        ·intro w'
         go_simp
         with_reducible rfl
        rotate_left
        ·simp only [Act.put, zq0, zq1, zq2, i64_w, i32_w]
         rfl
        refine pure_ (i := 5) (N := some 22) (v := ?_) (a' := ?_) #[true, true, true, false, true, true, false, false, false, false] rfl rfl (any_of HT_.out (by kernel_rfl)) (fun _ _ _ h => h) (Or.inl ⟨by rfl, ?_⟩) ?_ ?_
        rotate_left
        ·intro w'
         go_simp
         with_reducible rfl
        rotate_left
        ·simp only [Act.put, zq0, zq1, zq2, i64_w, i32_w]
         rfl
        refine pure_ (i := 6) (N := some 23) (v := ?_) (a' := ?_) #[true, true, true, false, true, true, true, false, false, false] rfl rfl (any_of HT_.out (by kernel_rfl)) (fun _ _ _ h => h) (Or.inl ⟨by rfl, ?_⟩) ?_ ?_
        rotate_left
        ·intro w'
         go_simp
         with_reducible rfl
        rotate_left
        ·simp only [Act.put, zq0, zq1, zq2, i64_w, i32_w]
         rfl
        refine take_ (i := 3) (N := some 20) (v := ?_) (a' := ?_) #[true, true, true, true, true, true, true, false, false, false] rfl rfl (take_ofW HT_.out HW_.out (by kernel_rfl)) (fun _ _ _ h => h) (Or.inl ⟨by rfl, ?_⟩) hHeld ?_ ?_
        rotate_left
        ·rintro w' ⟨s0, s1, s2, s3⟩
         go_simp
         with_reducible rfl
        rotate_left
        ·simp only [Act.put, zq0, zq1, zq2, i64_w, i32_w]
         rfl
        refine take_ (i := 7) (N := some 24) (v := ?_) (a' := ?_) #[true, true, true, true, true, true, true, true, false, false] rfl rfl (take_ofW HT_.out HW_.out (by kernel_rfl)) (fun _ _ _ h => h) (Or.inl ⟨by rfl, ?_⟩) hHeld ?_ ?_
        rotate_left
        ·rintro w' ⟨s0, s1, s2, s3⟩
         go_simp
         with_reducible rfl
        rotate_left
        ·simp only [Act.put, zq0, zq1, zq2, i64_w, i32_w]
         rfl
        refine one_ (i := 8) (N := some 25) #[true, true, true, true, true, true, true, true, true, false] rfl rfl (one_of HT_.out (by kernel_rfl)) (by decide) (fun K hK => ?_)
        refine goes_ Try.func88 (by kernel_rfl) rfl #[.agg #[.string ((rd_T99 l0 x5_1).f0), .int .i64 ((rd_T99 l0 x5_1).f1)], .agg #[.string ((rd_T99 l1 x5_1).f0), .int .i64 ((rd_T99 l1 x5_1).f1)]] (by rfl) rfl rfl (by (try simp only [List.map_toArray, List.map_cons, List.map_nil]); first | done | rfl | (simp only [List.length_drop, List.length_take]; rfl)) ?_
        with_reducible refine (laws_eqScore.calls ((rd_T99 l0 x5_1).f0) ((rd_T99 l0 x5_1).f1) ((rd_T99 l1 x5_1).f0) ((rd_T99 l1 x5_1).f1) true _ A7.out).mono ?_
        rintro e w10 ⟨rfl, hb⟩
        refine ⟨_, rfl, ?_⟩
        have n0_ := zq9 (below_step (by repeat (first | (with_reducible first | exact HB.out | apply zq5 | apply zq3 | apply zq4) | exact HB.out | exact Below.refl _ _)) hb)
        clear HB
        have HB := n0_
        clear n0_
        (try clear hb)
        (try clear hb2)
        (try clear hk)
        (try clear hi)
        refine hK.out _ _ ⟨((HB.out.cell (zq8 w _ hw216_0)).trans hw216_0), ((HB.out.cell (zq8 w _ hw216_1)).trans hw216_1), ((HB.out.cell (zq8 w _ hw217_0)).trans hw217_0), ((HB.out.cell (zq8 w _ hw217_1)).trans hw217_1)⟩ (fun hHeld => ?_)
        clear hK K
        refine norm_ (a' := ?_) ?_ ?_
        rotate_left
        ·show Act.put _ (some 25) _ = _
         simp only [Act.put, zq0, zq1, zq2, i64_w, i32_w]
         rfl
        refine pure_ (i := 9) (N := some 26) (v := ?_) (a' := ?_) #[true, true, true, true, true, true, true, true, true, true] rfl rfl (any_of HT_.out (by kernel_rfl)) (fun _ _ _ h => h) (Or.inl ⟨by rfl, ?_⟩) ?_ ?_
        rotate_left
        ·intro w'
         go_simp
         with_reducible rfl
        rotate_left
        ·simp only [Act.put, zq0, zq1, zq2, i64_w, i32_w]
         rfl
        refine done_ (done_of HT_.out (by kernel_rfl)) ?_
        try go_wp2
        go_roundg k1
        case measure => have := HK1.out; omega
        case rel => exact ⟨(wrap64 (x5_1 + 1)), (by first | rfl | (simp; done) | (simp [*]; done)), H', ⟨by have := HK1.out; omega⟩, ⟨by repeat (first | (with_reducible first | exact HB.out | apply zq5 | apply zq3 | apply zq4) | exact HB.out | exact Below.refl _ _)⟩⟩
       ·replace c8 := Bool.eq_false_iff.mpr c8
        subst c8
        have H1 : (some false) = some r := by rw [if_neg (show ¬ (false = true) by decide)] at H; exact H
        clear H
        have H := H1
        clear H1
        obtain rfl := Option.some.inj H
        try go_wp2
        have n0_ := zq9 (zq4 HB.out)
        clear HB
        have HB := n0_
        clear n0_
        have p216 : 0 ≤ (x5_1 : Int) := of_decide_eq_true (by first | (with_reducible assumption) | assumption)
        have q216 : x5_1 < (l0.length : Int) := of_decide_eq_true (by first | (with_reducible assumption) | assumption)
        obtain ⟨ad216, e216, hx216_0, hx216_1⟩ := at_T99 HR0.out x5_1 p216 q216
        have hw216_1 := hx216_1
        have hw216_0 := hx216_0
        cases e216
        replace hx216_0 := (HB.out.cell (zq8 w _ hx216_0)).trans hx216_0
        replace hx216_1 := (HB.out.cell (zq8 w _ hx216_1)).trans hx216_1
        replace p216 := eq_true p216
        replace q216 := eq_true q216
        have p217 : 0 ≤ (x5_1 : Int) := of_decide_eq_true (by first | (with_reducible assumption) | assumption)
        have q217 : x5_1 < (l1.length : Int) := of_decide_eq_true (by first | (with_reducible assumption) | assumption)
        obtain ⟨ad217, e217, hx217_0, hx217_1⟩ := at_T99 HR1.out x5_1 p217 q217
        have hw217_1 := hx217_1
        have hw217_0 := hx217_0
        cases e217
        replace hx217_0 := (HB.out.cell (zq8 w _ hx217_0)).trans hx217_0
        replace hx217_1 := (HB.out.cell (zq8 w _ hx217_1)).trans hx217_1
        replace p217 := eq_true p217
        replace q217 := eq_true q217
        refine start_ (n := 10) (S := fun w' => w'.cell? (ad216.add ((x5_1).toNat * 2)) = some (.string ((rd_T99 l0 x5_1).f0)) ∧ w'.cell? ⟨(ad216.add ((x5_1).toNat * 2)).block, (ad216.add ((x5_1).toNat * 2)).off + 1, none⟩ = some (.int .i64 ((rd_T99 l0 x5_1).f1)) ∧ w'.cell? (ad217.add ((x5_1).toNat * 2)) = some (.string ((rd_T99 l1 x5_1).f0)) ∧ w'.cell? ⟨(ad217.add ((x5_1).toNat * 2)).block, (ad217.add ((x5_1).toNat * 2)).off + 1, none⟩ = some (.int .i64 ((rd_T99 l1 x5_1).f1))) (ds := []) #[false, false, false, false, false, false, false, false, false, false] (by kernel_rfl) rfl rfl ⟨((HB.out.cell (zq8 w _ hw216_0)).trans hw216_0), ((HB.out.cell (zq8 w _ hw216_1)).trans hw216_1), ((HB.out.cell (zq8 w _ hw217_0)).trans hw217_0), ((HB.out.cell (zq8 w _ hw217_1)).trans hw217_1)⟩ (fun hHeld => ?_); refine with_tabW laws_eqScoreS.tab6 laws_eqScoreS.bits6 (fun HT_ HW_ => ?_)
        generalize wr.drew = w11 at HB hx216_0 hx216_1 hx217_0 hx217_1 hHeld ⊢
        refine pure_ (i := 0) (N := some 17) (v := ?_) (a' := ?_) #[true, false, false, false, false, false, false, false, false, false] rfl rfl (any_of HT_.out (by kernel_rfl)) (fun _ _ _ h => h) (Or.inl ⟨by rfl, ?_⟩) ?_ ?_
        rotate_left
        ·intro w'
         go_simp
         with_reducible rfl
        rotate_left
        ·simp only [Act.put, zq0, zq1, zq2, i64_w, i32_w]
         rfl
        refine pure_ (i := 1) (N := some 18) (v := ?_) (a' := ?_) #[true, true, false, false, false, false, false, false, false, false] rfl rfl (any_of HT_.out (by kernel_rfl)) (fun _ _ _ h => h) (Or.inl ⟨by rfl, ?_⟩) ?_ ?_
        rotate_left
        ·intro w'
         go_simp
         with_reducible rfl
        rotate_left
        ·simp only [Act.put, zq0, zq1, zq2, i64_w, i32_w]
         rfl
        refine pure_ (i := 2) (N := some 19) (v := ?_) (a' := ?_) #[true, true, true, false, false, false, false, false, false, false] rfl rfl (any_of HT_.out (by kernel_rfl)) (fun _ _ _ h => h) (Or.inl ⟨by rfl, ?_⟩) ?_ ?_
        rotate_left
        ·intro w'
         go_simp
         with_reducible rfl
        rotate_left
        ·simp only [Act.put, zq0, zq1, zq2, i64_w, i32_w]
         rfl
        refine pure_ (i := 4) (N := some 21) (v := ?_) (a' := ?_) #[true, true, true, false, true, false, false, false, false, false] rfl rfl (any_of HT_.out (by kernel_rfl)) (fun _ _ _ h => h) (Or.inl ⟨by rfl, ?_⟩) ?_ ?_
        rotate_left
        ·intro w'
         go_simp
         with_reducible rfl
        rotate_left
        ·simp only [Act.put, zq0, zq1, zq2, i64_w, i32_w]
         rfl
        refine pure_ (i := 5) (N := some 22) (v := ?_) (a' := ?_) #[true, true, true, false, true, true, false, false, false, false] rfl rfl (any_of HT_.out (by kernel_rfl)) (fun _ _ _ h => h) (Or.inl ⟨by rfl, ?_⟩) ?_ ?_
        rotate_left
        ·intro w'
         go_simp
         with_reducible rfl
        rotate_left
        ·simp only [Act.put, zq0, zq1, zq2, i64_w, i32_w]
         rfl
        refine pure_ (i := 6) (N := some 23) (v := ?_) (a' := ?_) #[true, true, true, false, true, true, true, false, false, false] rfl rfl (any_of HT_.out (by kernel_rfl)) (fun _ _ _ h => h) (Or.inl ⟨by rfl, ?_⟩) ?_ ?_
        rotate_left
        ·intro w'
         go_simp
         with_reducible rfl
        rotate_left
        ·simp only [Act.put, zq0, zq1, zq2, i64_w, i32_w]
         rfl
        refine take_ (i := 3) (N := some 20) (v := ?_) (a' := ?_) #[true, true, true, true, true, true, true, false, false, false] rfl rfl (take_ofW HT_.out HW_.out (by kernel_rfl)) (fun _ _ _ h => h) (Or.inl ⟨by rfl, ?_⟩) hHeld ?_ ?_
        rotate_left
        ·rintro w' ⟨s0, s1, s2, s3⟩
         go_simp
         with_reducible rfl
        rotate_left
        ·simp only [Act.put, zq0, zq1, zq2, i64_w, i32_w]
         rfl
        refine take_ (i := 7) (N := some 24) (v := ?_) (a' := ?_) #[true, true, true, true, true, true, true, true, false, false] rfl rfl (take_ofW HT_.out HW_.out (by kernel_rfl)) (fun _ _ _ h => h) (Or.inl ⟨by rfl, ?_⟩) hHeld ?_ ?_
        rotate_left
        ·rintro w' ⟨s0, s1, s2, s3⟩
         go_simp
         with_reducible rfl
        rotate_left
        ·simp only [Act.put, zq0, zq1, zq2, i64_w, i32_w]
         rfl
        refine one_ (i := 8) (N := some 25) #[true, true, true, true, true, true, true, true, true, false] rfl rfl (one_of HT_.out (by kernel_rfl)) (by decide) (fun K hK => ?_)
        refine goes_ Try.func88 (by kernel_rfl) rfl #[.agg #[.string ((rd_T99 l0 x5_1).f0), .int .i64 ((rd_T99 l0 x5_1).f1)], .agg #[.string ((rd_T99 l1 x5_1).f0), .int .i64 ((rd_T99 l1 x5_1).f1)]] (by rfl) rfl rfl (by (try simp only [List.map_toArray, List.map_cons, List.map_nil]); first | done | rfl | (simp only [List.length_drop, List.length_take]; rfl)) ?_
        with_reducible refine (laws_eqScore.calls ((rd_T99 l0 x5_1).f0) ((rd_T99 l0 x5_1).f1) ((rd_T99 l1 x5_1).f0) ((rd_T99 l1 x5_1).f1) false _ A7.out).mono ?_
        rintro e w12 ⟨rfl, hb⟩
        refine ⟨_, rfl, ?_⟩
        have n0_ := zq9 (below_step (by repeat (first | (with_reducible first | exact HB.out | apply zq5 | apply zq3 | apply zq4) | exact HB.out | exact Below.refl _ _)) hb)
        clear HB
        have HB := n0_
        clear n0_
        (try clear hb)
        (try clear hb2)
        (try clear hk)
        (try clear hi)
        refine hK.out _ _ ⟨((HB.out.cell (zq8 w _ hw216_0)).trans hw216_0), ((HB.out.cell (zq8 w _ hw216_1)).trans hw216_1), ((HB.out.cell (zq8 w _ hw217_0)).trans hw217_0), ((HB.out.cell (zq8 w _ hw217_1)).trans hw217_1)⟩ (fun hHeld => ?_)
        clear hK K
        refine norm_ (a' := ?_) ?_ ?_
        rotate_left
        ·show Act.put _ (some 25) _ = _
         simp only [Act.put, zq0, zq1, zq2, i64_w, i32_w]
         rfl
        refine pure_ (i := 9) (N := some 26) (v := ?_) (a' := ?_) #[true, true, true, true, true, true, true, true, true, true] rfl rfl (any_of HT_.out (by kernel_rfl)) (fun _ _ _ h => h) (Or.inl ⟨by rfl, ?_⟩) ?_ ?_
        rotate_left
        ·intro w'
         go_simp
         with_reducible rfl
        rotate_left
        ·simp only [Act.put, zq0, zq1, zq2, i64_w, i32_w]
         rfl
        refine done_ (done_of HT_.out (by kernel_rfl)) ?_
        try go_wp2
        go_ret
        exact ⟨by first | rfl | (simp [errW_none, errW_some] <;> rfl) | (simp [*, errW_none, errW_some] <;> rfl), by repeat (first | (with_reducible first | exact HB.out | apply zq5 | apply zq3 | apply zq4) | exact HB.out | exact Below.refl _ _)⟩
      ·rw [if_neg c6] at H
       exact absurd H (by simp)
     ·rw [if_neg c5] at H
      exact absurd H (by simp)
    ·rw [if_neg c4] at H
     have c4b0 : decide (x5_1 < (l0.length : Int)) = false := decide_eq_false c4
     clear c4
     obtain rfl := Option.some.inj H
     go_wp2
     go_ret
     exact ⟨by first | rfl | (simp [errW_none, errW_some] <;> rfl) | (simp [*, errW_none, errW_some] <;> rfl), by repeat (first | (with_reducible first | exact HB.out | apply zq5 | apply zq3 | apply zq4) | exact HB.out | exact Below.refl _ _)⟩
 ·rw [if_neg c3] at H
  have c3b0 : ((l0.length : Int) == (l1.length : Int)) = false := beq_eq_false_iff_ne.mpr c3
  have c3b1 : ((l0.length : Int) != (l1.length : Int)) = true := bne_iff_ne.mpr c3
  have c3b2 : (l0.length == l1.length) = false := by first | simpa using c3 | (simp at c3 ⊢; omega)
  obtain rfl := Option.some.inj H
  go_enter Try.func54, Try.ntmps54
  go_wp2
  go_ret
  exact ⟨by first | rfl | (simp [errW_none, errW_some] <;> rfl) | (simp [*, errW_none, errW_some] <;> rfl), by repeat (first | (with_reducible first | exact HB.out | apply zq5 | apply zq3 | apply zq4) | exact HB.out | exact Below.refl _ _)⟩
end Go.Proofs.Ytnkgmcgbbldkgaa.P
namespace Go.Proofs.Ytnkgmcgbbldkgaa.P
open Go.RowKit Go.Proofs.YtnkgmcgbbldkgaaW.PrintWords Go.Proofs.YtnkgmcgbbldkgaaW.PrintLast Go.Proofs.YtnkgmcgbbldkgaaW.PrintMore
attribute [local go_sem] max2_int min2_int max_two min_two max_three min_three max_four min_four   -- for this text's walks alone
set_option linter.unusedVariables false
set_option linter.unusedSimpArgs false
set_option maxHeartbeats 8000000 in
set_option maxRecDepth 100000 in
theorem laws_eqPair.calls (a0_0 : ByteArray) (a0_1 : ByteArray) (a1_0 : ByteArray) (a1_1 : ByteArray) (r : Bool) (w : World) (h : laws_eqPair.f a0_0 a0_1 a1_0 a1_1 = some r) :
    Calls Try.prog 89 #[.agg #[.string a0_0, .string a0_1], .agg #[.string a1_0, .string a1_1]] w fun e w' => e = .returned (.bool r) ∧ Below w.heap.size w w' := by
  have hu101 := Try.underlying101
  have HB := zq9 (Below.refl w.heap.size w)
  have H : (if a0_0.toList = a1_0.toList then (if a0_1.toList = a1_1.toList then (some true) else (some false)) else (some false)) = some r := h
  clear h
  by_cases c3 : a0_0.toList = a1_0.toList
  · rw [if_pos c3] at H
    have c3b0 : (a0_0.toList == a1_0.toList) = true := beq_iff_eq.mpr c3
    have c3b1 : (a0_0.toList != a1_0.toList) = false := bne_eq_false_iff_eq.mpr c3
    clear c3
    by_cases c4 : a0_1.toList = a1_1.toList
    · rw [if_pos c4] at H
      have c4b0 : (a0_1.toList == a1_1.toList) = true := beq_iff_eq.mpr c4
      have c4b1 : (a0_1.toList != a1_1.toList) = false := bne_eq_false_iff_eq.mpr c4
      clear c4
      obtain rfl := Option.some.inj H
      go_enter Try.func89, Try.ntmps89
      go_wp2_with (first | ((with_reducible refine gate_dst (N := 2) rfl ?_); refine box_event ?hg (N := 2) ?hd (cs := #[.string a0_0, .string a0_1]) (t := 101) ?hr ?_; (case hd => rfl); (case hg => rfl); (case hr => first | (go_simp; done) | (go_simp; rfl)); intro gb219 hg w5 hbox hb; have n0_ := zq9 (below_step (by repeat (first | (with_reducible first | exact HB.out | apply zq5 | apply zq3 | apply zq4) | exact HB.out | exact Below.refl _ _)) hb); have n1_ := zq9 (hbox); have n2_ := zq9 ((by rw [hg]; exact (below_size (by repeat (first | (with_reducible first | exact HB.out | apply zq5 | apply zq3 | apply zq4) | exact HB.out | exact Below.refl _ _))) : w.heap.size ≤ gb219)); have n3_ := zq9 ((by rw [hg]; exact (below_size (by repeat (first | (with_reducible first | exact HB.out | apply zq5 | apply zq3 | apply zq4) | exact HB.out | exact Below.refl _ _))) : w.heap.size ≤ gb219)); clear HB; have HB := n0_; have BK219 := n1_; have GW219 := n2_; have GE219 := n3_; clear n0_ n1_ n2_ n3_; clear hb hbox hg) | ((with_reducible refine gate_dst (N := 3) rfl ?_); refine box_event ?hg (N := 3) ?hd (cs := #[.string a1_0, .string a1_1]) (t := 101) ?hr ?_; (case hd => rfl); (case hg => rfl); (case hr => first | (go_simp; done) | (go_simp; rfl)); intro gb220 hg w6 hbox hb; have n0_ := zq9 (blk_below (g := gb219) (o := .cells #[.string a0_0, .string a0_1] 101 (0, 0)) (by (with_reducible repeat (first | refine blk_drewN ?_ _ | refine blk_drew ?_ | refine blk_alloc ?_ _)); exact BK219.out) hb); have n1_ := zq9 (below_step (by repeat (first | (with_reducible first | exact HB.out | apply zq5 | apply zq3 | apply zq4 | refine below_set ?_ GE219.out) | exact HB.out)) hb); have n2_ := zq9 (hbox); have n3_ := zq9 ((by rw [hg]; exact (below_size (by repeat (first | (with_reducible first | exact HB.out | apply zq5 | apply zq3 | apply zq4 | refine below_set ?_ GE219.out) | exact HB.out))) : w.heap.size ≤ gb220)); have n4_ := zq9 ((by rw [hg]; exact (below_size (by repeat (first | (with_reducible first | exact HB.out | apply zq5 | apply zq3 | apply zq4 | refine below_set ?_ GE219.out) | exact HB.out))) : w.heap.size ≤ gb220)); have n5_ := zq9 ((by rw [hg]; exact Nat.ne_of_lt (blk_lt (g := gb219) (o := .cells #[.string a0_0, .string a0_1] 101 (0, 0)) (by (with_reducible repeat (first | refine blk_drewN ?_ _ | refine blk_drew ?_ | refine blk_alloc ?_ _)); exact BK219.out)) : gb219 ≠ gb220)); have n6_ := zq9 ((by rw [hg]; exact Nat.ne_of_gt (blk_lt (g := gb219) (o := .cells #[.string a0_0, .string a0_1] 101 (0, 0)) (by (with_reducible repeat (first | refine blk_drewN ?_ _ | refine blk_drew ?_ | refine blk_alloc ?_ _)); exact BK219.out)) : gb220 ≠ gb219)); clear BK219; clear HB; have BK219 := n0_; have HB := n1_; have BK220 := n2_; have GW220 := n3_; have GE220 := n4_; have NB219_220 := n5_; have NB220_219 := n6_; clear n0_ n1_ n2_ n3_ n4_ n5_ n6_; clear hb hbox hg; have hnb7 := NB219_220.out; have hnc7 := NB220_219.out; have hcz8_0 : w6.cell? ⟨gb219, 0, none⟩ = some (.string a0_0) := (zq7 BK219.out 0).trans rfl; have hcz8_1 : w6.cell? ⟨gb219, 1, none⟩ = some (.string a0_1) := (zq7 BK219.out 1).trans rfl; have hfz8_0 := zq6 BK219.out 0; have hfz8_1 := zq6 BK219.out 1; have hcz9_0 : w6.cell? ⟨gb220, 0, none⟩ = some (.string a1_0) := (zq7 BK220.out 0).trans rfl; have hcz9_1 : w6.cell? ⟨gb220, 1, none⟩ = some (.string a1_1) := (zq7 BK220.out 1).trans rfl; have hfz9_0 := zq6 BK220.out 0; have hfz9_1 := zq6 BK220.out 1))
      go_ret
      exact ⟨by first | rfl | (simp [errW_none, errW_some] <;> rfl) | (simp [*, errW_none, errW_some] <;> rfl), by repeat (first | (with_reducible first | exact HB.out | apply zq5 | apply zq3 | apply zq4 | refine below_set ?_ GE219.out | refine below_set ?_ GE220.out) | exact HB.out)⟩
    · rw [if_neg c4] at H
      have c4b0 : (a0_1.toList == a1_1.toList) = false := beq_eq_false_iff_ne.mpr c4
      have c4b1 : (a0_1.toList != a1_1.toList) = true := bne_iff_ne.mpr c4
      obtain rfl := Option.some.inj H
      go_enter Try.func89, Try.ntmps89
      go_wp2_with (first | ((with_reducible refine gate_dst (N := 2) rfl ?_); refine box_event ?hg (N := 2) ?hd (cs := #[.string a0_0, .string a0_1]) (t := 101) ?hr ?_; (case hd => rfl); (case hg => rfl); (case hr => first | (go_simp; done) | (go_simp; rfl)); intro gb219 hg w10 hbox hb; have n0_ := zq9 (below_step (by repeat (first | (with_reducible first | exact HB.out | apply zq5 | apply zq3 | apply zq4) | exact HB.out | exact Below.refl _ _)) hb); have n1_ := zq9 (hbox); have n2_ := zq9 ((by rw [hg]; exact (below_size (by repeat (first | (with_reducible first | exact HB.out | apply zq5 | apply zq3 | apply zq4) | exact HB.out | exact Below.refl _ _))) : w.heap.size ≤ gb219)); have n3_ := zq9 ((by rw [hg]; exact (below_size (by repeat (first | (with_reducible first | exact HB.out | apply zq5 | apply zq3 | apply zq4) | exact HB.out | exact Below.refl _ _))) : w.heap.size ≤ gb219)); clear HB; have HB := n0_; have BK219 := n1_; have GW219 := n2_; have GE219 := n3_; clear n0_ n1_ n2_ n3_; clear hb hbox hg) | ((with_reducible refine gate_dst (N := 3) rfl ?_); refine box_event ?hg (N := 3) ?hd (cs := #[.string a1_0, .string a1_1]) (t := 101) ?hr ?_; (case hd => rfl); (case hg => rfl); (case hr => first | (go_simp; done) | (go_simp; rfl)); intro gb220 hg w11 hbox hb; have n0_ := zq9 (blk_below (g := gb219) (o := .cells #[.string a0_0, .string a0_1] 101 (0, 0)) (by (with_reducible repeat (first | refine blk_drewN ?_ _ | refine blk_drew ?_ | refine blk_alloc ?_ _)); exact BK219.out) hb); have n1_ := zq9 (below_step (by repeat (first | (with_reducible first | exact HB.out | apply zq5 | apply zq3 | apply zq4 | refine below_set ?_ GE219.out) | exact HB.out)) hb); have n2_ := zq9 (hbox); have n3_ := zq9 ((by rw [hg]; exact (below_size (by repeat (first | (with_reducible first | exact HB.out | apply zq5 | apply zq3 | apply zq4 | refine below_set ?_ GE219.out) | exact HB.out))) : w.heap.size ≤ gb220)); have n4_ := zq9 ((by rw [hg]; exact (below_size (by repeat (first | (with_reducible first | exact HB.out | apply zq5 | apply zq3 | apply zq4 | refine below_set ?_ GE219.out) | exact HB.out))) : w.heap.size ≤ gb220)); have n5_ := zq9 ((by rw [hg]; exact Nat.ne_of_lt (blk_lt (g := gb219) (o := .cells #[.string a0_0, .string a0_1] 101 (0, 0)) (by (with_reducible repeat (first | refine blk_drewN ?_ _ | refine blk_drew ?_ | refine blk_alloc ?_ _)); exact BK219.out)) : gb219 ≠ gb220)); have n6_ := zq9 ((by rw [hg]; exact Nat.ne_of_gt (blk_lt (g := gb219) (o := .cells #[.string a0_0, .string a0_1] 101 (0, 0)) (by (with_reducible repeat (first | refine blk_drewN ?_ _ | refine blk_drew ?_ | refine blk_alloc ?_ _)); exact BK219.out)) : gb220 ≠ gb219)); clear BK219; clear HB; have BK219 := n0_; have HB := n1_; have BK220 := n2_; have GW220 := n3_; have GE220 := n4_; have NB219_220 := n5_; have NB220_219 := n6_; clear n0_ n1_ n2_ n3_ n4_ n5_ n6_; clear hb hbox hg; have hnb12 := NB219_220.out; have hnc12 := NB220_219.out; have hcz13_0 : w11.cell? ⟨gb219, 0, none⟩ = some (.string a0_0) := (zq7 BK219.out 0).trans rfl; have hcz13_1 : w11.cell? ⟨gb219, 1, none⟩ = some (.string a0_1) := (zq7 BK219.out 1).trans rfl; have hfz13_0 := zq6 BK219.out 0; have hfz13_1 := zq6 BK219.out 1; have hcz14_0 : w11.cell? ⟨gb220, 0, none⟩ = some (.string a1_0) := (zq7 BK220.out 0).trans rfl; have hcz14_1 : w11.cell? ⟨gb220, 1, none⟩ = some (.string a1_1) := (zq7 BK220.out 1).trans rfl; have hfz14_0 := zq6 BK220.out 0; have hfz14_1 := zq6 BK220.out 1))
      go_ret
      exact ⟨by first | rfl | (simp [errW_none, errW_some] <;> rfl) | (simp [*, errW_none, errW_some] <;> rfl), by repeat (first | (with_reducible first | exact HB.out | apply zq5 | apply zq3 | apply zq4 | refine below_set ?_ GE219.out | refine below_set ?_ GE220.out) | exact HB.out)⟩
  · rw [if_neg c3] at H
    have c3b0 : (a0_0.toList == a1_0.toList) = false := beq_eq_false_iff_ne.mpr c3
    have c3b1 : (a0_0.toList != a1_0.toList) = true := bne_iff_ne.mpr c3
    obtain rfl := Option.some.inj H
    go_enter Try.func89, Try.ntmps89
    go_wp2_with (first | ((with_reducible refine gate_dst (N := 2) rfl ?_); refine box_event ?hg (N := 2) ?hd (cs := #[.string a0_0, .string a0_1]) (t := 101) ?hr ?_; (case hd => rfl); (case hg => rfl); (case hr => first | (go_simp; done) | (go_simp; rfl)); intro gb219 hg w15 hbox hb; have n0_ := zq9 (below_step (by repeat (first | (with_reducible first | exact HB.out | apply zq5 | apply zq3 | apply zq4) | exact HB.out | exact Below.refl _ _)) hb); have n1_ := zq9 (hbox); have n2_ := zq9 ((by rw [hg]; exact (below_size (by repeat (first | (with_reducible first | exact HB.out | apply zq5 | apply zq3 | apply zq4) | exact HB.out | exact Below.refl _ _))) : w.heap.size ≤ gb219)); have n3_ := zq9 ((by rw [hg]; exact (below_size (by repeat (first | (with_reducible first | exact HB.out | apply zq5 | apply zq3 | apply zq4) | exact HB.out | exact Below.refl _ _))) : w.heap.size ≤ gb219)); clear HB; have HB := n0_; have BK219 := n1_; have GW219 := n2_; have GE219 := n3_; clear n0_ n1_ n2_ n3_; clear hb hbox hg) | ((with_reducible refine gate_dst (N := 3) rfl ?_); refine box_event ?hg (N := 3) ?hd (cs := #[.string a1_0, .string a1_1]) (t := 101) ?hr ?_; (case hd => rfl); (case hg => rfl); (case hr => first | (go_simp; done) | (go_simp; rfl)); intro gb220 hg w16 hbox hb; have n0_ := zq9 (blk_below (g := gb219) (o := .cells #[.string a0_0, .string a0_1] 101 (0, 0)) (by (with_reducible repeat (first | refine blk_drewN ?_ _ | refine blk_drew ?_ | refine blk_alloc ?_ _)); exact BK219.out) hb); have n1_ := zq9 (below_step (by repeat (first | (with_reducible first | exact HB.out | apply zq5 | apply zq3 | apply zq4 | refine below_set ?_ GE219.out) | exact HB.out)) hb); have n2_ := zq9 (hbox); have n3_ := zq9 ((by rw [hg]; exact (below_size (by repeat (first | (with_reducible first | exact HB.out | apply zq5 | apply zq3 | apply zq4 | refine below_set ?_ GE219.out) | exact HB.out))) : w.heap.size ≤ gb220)); have n4_ := zq9 ((by rw [hg]; exact (below_size (by repeat (first | (with_reducible first | exact HB.out | apply zq5 | apply zq3 | apply zq4 | refine below_set ?_ GE219.out) | exact HB.out))) : w.heap.size ≤ gb220)); have n5_ := zq9 ((by rw [hg]; exact Nat.ne_of_lt (blk_lt (g := gb219) (o := .cells #[.string a0_0, .string a0_1] 101 (0, 0)) (by (with_reducible repeat (first | refine blk_drewN ?_ _ | refine blk_drew ?_ | refine blk_alloc ?_ _)); exact BK219.out)) : gb219 ≠ gb220)); have n6_ := zq9 ((by rw [hg]; exact Nat.ne_of_gt (blk_lt (g := gb219) (o := .cells #[.string a0_0, .string a0_1] 101 (0, 0)) (by (with_reducible repeat (first | refine blk_drewN ?_ _ | refine blk_drew ?_ | refine blk_alloc ?_ _)); exact BK219.out)) : gb220 ≠ gb219)); clear BK219; clear HB; have BK219 := n0_; have HB := n1_; have BK220 := n2_; have GW220 := n3_; have GE220 := n4_; have NB219_220 := n5_; have NB220_219 := n6_; clear n0_ n1_ n2_ n3_ n4_ n5_ n6_; clear hb hbox hg; have hnb17 := NB219_220.out; have hnc17 := NB220_219.out; have hcz18_0 : w16.cell? ⟨gb219, 0, none⟩ = some (.string a0_0) := (zq7 BK219.out 0).trans rfl; have hcz18_1 : w16.cell? ⟨gb219, 1, none⟩ = some (.string a0_1) := (zq7 BK219.out 1).trans rfl; have hfz18_0 := zq6 BK219.out 0; have hfz18_1 := zq6 BK219.out 1; have hcz19_0 : w16.cell? ⟨gb220, 0, none⟩ = some (.string a1_0) := (zq7 BK220.out 0).trans rfl; have hcz19_1 : w16.cell? ⟨gb220, 1, none⟩ = some (.string a1_1) := (zq7 BK220.out 1).trans rfl; have hfz19_0 := zq6 BK220.out 0; have hfz19_1 := zq6 BK220.out 1))
    go_ret
    exact ⟨by first | rfl | (simp [errW_none, errW_some] <;> rfl) | (simp [*, errW_none, errW_some] <;> rfl), by repeat (first | (with_reducible first | exact HB.out | apply zq5 | apply zq3 | apply zq4 | refine below_set ?_ GE219.out | refine below_set ?_ GE220.out) | exact HB.out)⟩
end Go.Proofs.Ytnkgmcgbbldkgaa.P
namespace Go.Proofs.Ytnkgmcgbbldkgaa.P
open Go.RowKit Go.Proofs.YtnkgmcgbbldkgaaW.PrintWords Go.Proofs.YtnkgmcgbbldkgaaW.PrintLast Go.Proofs.YtnkgmcgbbldkgaaW.PrintMore
attribute [local go_sem] max2_int min2_int max_two min_two max_three min_three max_four min_four   -- for this text's walks alone
set_option linter.unusedVariables false
set_option linter.unusedSimpArgs false
def laws_eqPairS.T6 : Bool × List (List Nat × List Nat) := (true, [([], []), ([], []), ([0, 1], [0, 1]), ([2], [2]), ([], []), ([], []), ([4, 5], [4, 5]), ([6], [6]), ([3, 7], [3, 7]), ([8], [8])])
def laws_eqPairS.B6 : List Nat := [0, 0, 3, 7, 0, 0, 48, 112, 255, 511]
theorem laws_eqPairS.tab6 : rtab .any (opsOf Try.f55 6) = laws_eqPairS.T6 := by kernel_rfl
theorem laws_eqPairS.bits6 : waitsOk laws_eqPairS.T6.2 laws_eqPairS.B6 = true := by kernel_rfl
set_option maxHeartbeats 8000000 in
set_option maxRecDepth 100000 in
theorem laws_eqPairS.calls (k : Nat) (A0 : Option Addr) (c0 : Nat) (l0 : List (S101)) (A1 : Option Addr) (c1 : Nat) (l1 : List (S101)) (r : Bool) (w : World) (hr0 : Kd.C k101 w A0 l0.length l0) (hc0 : l0.length ≤ c0) (hr1 : Kd.C k101 w A1 l1.length l1) (hc1 : l1.length ≤ c1) (h : laws_eqPairS.f k l0 l1 = some r) :
  Calls Try.prog 55 #[.slice A0 l0.length c0, .slice A1 l1.length c1] w fun e w' => e = .returned (.bool r) ∧ Below w.heap.size w w' := by
 have hu101 := Try.underlying101
 have HR0 := zq9 hr0
 have HC0 := zq9 hc0
 clear hr0 hc0
 have HR1 := zq9 hr1
 have HC1 := zq9 hc1
 clear hr1 hc1
 have HB := zq9 (Below.refl w.heap.size w)
 have H : (if (l0.length : Int) = (l1.length : Int) then (laws_eqPairS.l0 k l0 l1 0) else (some false)) = some r := h
 clear h
 by_cases c3 : (l0.length : Int) = (l1.length : Int)
 ·rw [if_pos c3] at H
  have c3b0 : ((l0.length : Int) == (l1.length : Int)) = true := beq_iff_eq.mpr c3
  have c3b1 : ((l0.length : Int) != (l1.length : Int)) = false := bne_eq_false_iff_eq.mpr c3
  have c3b2 : (l0.length == l1.length) = true := by first | simpa using c3 | (simp at c3 ⊢; omega)
  clear c3
  have H' := zq9 H
  clear H
  go_enter Try.func55, Try.ntmps55
  go_wp2
  go_loopg [5] k (fun kq v5 w' => ∃ (x5_1 : Int), v5 = .int .i64 x5_1 ∧ Aside0 (laws_eqPairS.l0 kq l0 l1 x5_1 = some r) ∧ Aside0 (kq ≤ k) ∧ Aside0 (Below w.heap.size w w'))
  case atStart => exact ⟨(0), (by first | rfl | (simp; done) | (simp [*]; done)), H', ⟨Nat.le_refl _⟩, ⟨by repeat (first | (with_reducible first | exact HB.out | apply zq5 | apply zq3 | apply zq4) | exact HB.out | exact Below.refl _ _)⟩⟩
  case round =>
   clear H'
   try clear c1
   try clear p2
   try clear c3
   try clear c3b0
   try clear c3b1
   try clear c3b2
   obtain ⟨x5_1, rfl, HA, HK1, HB⟩ := hrel
   cases gk with
   | zero => exact absurd HA.out (by simp [laws_eqPairS.l0])
   | succ k1 =>
    have H := HA.out
    clear HA
    simp only [laws_eqPairS.l0] at H
    by_cases c4 : x5_1 < (l0.length : Int)
    ·rw [if_pos c4] at H
     have c4b0 : decide (x5_1 < (l0.length : Int)) = true := decide_eq_true c4
     clear c4
     by_cases c5 : 0 ≤ x5_1
     ·rw [if_pos c5] at H
      have c5b0 : decide (0 ≤ x5_1) = true := decide_eq_true c5
      clear c5
      by_cases c6 : x5_1 < (l1.length : Int)
      ·rw [if_pos c6] at H
       have c6b0 : decide (x5_1 < (l1.length : Int)) = true := decide_eq_true c6
       clear c6
       replace H := Option.bind_eq_some_iff.mp H
       obtain ⟨t223, A70, H⟩ := H
       replace H : (if t223 = true then (laws_eqPairS.l0 k1 l0 l1 (wrap64 (x5_1 + 1))) else (some false)) = some r := H
       have A7 := zq9 A70
       clear A70
       by_cases c8 : t223 = true
       ·subst c8
        have H1 : (laws_eqPairS.l0 k1 l0 l1 (wrap64 (x5_1 + 1))) = some r := by rw [if_pos rfl] at H; exact H
        clear H
        have H := H1
        clear H1
        have H' := zq9 H
        clear H
        try go_wp2
        have n0_ := zq9 (zq4 HB.out)
        clear HB
        have HB := n0_
        clear n0_
        have p221 : 0 ≤ (x5_1 : Int) := of_decide_eq_true (by first | (with_reducible assumption) | assumption)
        have q221 : x5_1 < (l0.length : Int) := of_decide_eq_true (by first | (with_reducible assumption) | assumption)
        obtain ⟨ad221, e221, hx221_0, hx221_1⟩ := at_T101 HR0.out x5_1 p221 q221
        have hw221_1 := hx221_1
        have hw221_0 := hx221_0
        cases e221
        replace hx221_0 := (HB.out.cell (zq8 w _ hx221_0)).trans hx221_0
        replace hx221_1 := (HB.out.cell (zq8 w _ hx221_1)).trans hx221_1
        replace p221 := eq_true p221
        replace q221 := eq_true q221
        have p222 : 0 ≤ (x5_1 : Int) := of_decide_eq_true (by first | (with_reducible assumption) | assumption)
        have q222 : x5_1 < (l1.length : Int) := of_decide_eq_true (by first | (with_reducible assumption) | assumption)
        obtain ⟨ad222, e222, hx222_0, hx222_1⟩ := at_T101 HR1.out x5_1 p222 q222
        have hw222_1 := hx222_1
        have hw222_0 := hx222_0
        cases e222
        replace hx222_0 := (HB.out.cell (zq8 w _ hx222_0)).trans hx222_0
        replace hx222_1 := (HB.out.cell (zq8 w _ hx222_1)).trans hx222_1
        replace p222 := eq_true p222
        replace q222 := eq_true q222
        refine start_ (n := 10) (S := fun w' => w'.cell? (ad221.add ((x5_1).toNat * 2)) = some (.string ((rd_T101 l0 x5_1).f0)) ∧ w'.cell? ⟨(ad221.add ((x5_1).toNat * 2)).block, (ad221.add ((x5_1).toNat * 2)).off + 1, none⟩ = some (.string ((rd_T101 l0 x5_1).f1)) ∧ w'.cell? (ad222.add ((x5_1).toNat * 2)) = some (.string ((rd_T101 l1 x5_1).f0)) ∧ w'.cell? ⟨(ad222.add ((x5_1).toNat * 2)).block, (ad222.add ((x5_1).toNat * 2)).off + 1, none⟩ = some (.string ((rd_T101 l1 x5_1).f1))) (ds := []) #[false, false, false, false, false, false, false, false, false, false] (by kernel_rfl) rfl rfl ⟨((HB.out.cell (zq8 w _ hw221_0)).trans hw221_0), ((HB.out.cell (zq8 w _ hw221_1)).trans hw221_1), ((HB.out.cell (zq8 w _ hw222_0)).trans hw222_0), ((HB.out.cell (zq8 w _ hw222_1)).trans hw222_1)⟩ (fun hHeld => ?_); refine with_tabW laws_eqPairS.tab6 laws_eqPairS.bits6 (fun HT_ HW_ => ?_)
        generalize wr.drew = w9 at HB hx221_0 hx221_1 hx222_0 hx222_1 hHeld ⊢
        refine pure_ (i := 0) (N := some 17) (v := ?_) (a' := ?_) #[true, false, false, false, false, false, false, false, false, false] rfl rfl (any_of HT_.out (by kernel_rfl)) (fun _ _ _ h => h) (Or.inl ⟨by rfl, ?_⟩) ?_ ?_
        rotate_left
        ·intro w'
         go_simp
         with_reducible rfl
        rotate_left
        ·simp only [Act.put, zq0, zq1, zq2, i64_w, i32_w]
         rfl
        refine pure_ (i := 1) (N := some 18) (v := ?_) (a' := ?_) #[true, true, false, false, false, false, false, false, false, false] rfl rfl (any_of HT_.out (by kernel_rfl)) (fun _ _ _ h => h) (Or.inl ⟨by rfl, ?_⟩) ?_ ?_
        rotate_left
        ·intro w'
         go_simp
         with_reducible rfl
        rotate_left
        ·simp only [Act.put, zq0, zq1, zq2, i64_w, i32_w]
         rfl
        refine pure_ (i := 2) (N := some 19) (v := ?_) (a' := ?_) #[true, true, true, false, false, false, false, false, false, false] rfl rfl (any_of HT_.out (by kernel_rfl)) (fun _ _ _ h => h) (Or.inl ⟨by rfl, ?_⟩) ?_ ?_
        rotate_left
        ·intro w'
         go_simp
         with_reducible rfl
        rotate_left
        ·simp only [Act.put, zq0, zq1, zq2, i64_w, i32_w]
         rfl
        refine pure_ (i := 4) (N := some 21) (v := ?_) (a' := ?_) #[true, true, true, false, true, false, false, false, false, false] rfl rfl (any_of HT_.out (by kernel_rfl)) (fun _ _ _ h => h) (Or.inl ⟨by rfl, ?_⟩) ?_ ?_
        rotate_left
        ·intro w'
         go_simp
         with_reducible rfl
        rotate_left
        ·simp only [Act.put, zq0, zq1, zq2, i64_w, i32_w]
         rfl
        refine pure_ (i := 5) (N := some 22) (v := ?_) (a' := ?_) #[true, true, true, false, true, true, false, false, false, false] rfl rfl (any_of HT_.out (by kernel_rfl)) (fun _ _ _ h => h) (Or.inl ⟨by rfl, ?_⟩) ?_ ?_
        rotate_left
        ·intro w'
         go_simp
         with_reducible rfl
        rotate_left
        ·simp only [Act.put, zq0, zq1, zq2, i64_w, i32_w]
         rfl
        refine pure_ (i := 6) (N := some 23) (v := ?_) (a' := ?_) #[true, true, true, false, true, true, true, false, false, false] rfl rfl (any_of HT_.out (by kernel_rfl)) (fun _ _ _ h => h) (Or.inl ⟨by rfl, ?_⟩) ?_ ?_
        rotate_left
        ·intro w'
         go_simp
         with_reducible rfl
        rotate_left
        ·simp only [Act.put, zq0, zq1, zq2, i64_w, i32_w]
         rfl
        refine take_ (i := 3) (N := some 20) (v := ?_) (a' := ?_) #[true, true, true, true, true, true, true, false, false, false] rfl rfl (take_ofW HT_.out HW_.out (by kernel_rfl)) (fun _ _ _ h => h) (Or.inl ⟨by rfl, ?_⟩) hHeld ?_ ?_
        rotate_left
        ·rintro w' ⟨s0, s1, s2, s3⟩
         go_simp
         with_reducible rfl
        rotate_left
        ·simp only [Act.put, zq0, zq1, zq2, i64_w, i32_w]
         rfl
        refine take_ (i := 7) (N := some 24) (v := ?_) (a' := ?_) #[true, true, true, true, true, true, true, true, false, false] rfl rfl (take_ofW HT_.out HW_.out (by kernel_rfl)) (fun _ _ _ h => h) (Or.inl ⟨by rfl, ?_⟩) hHeld ?_ ?_
        rotate_left
        ·rintro w' ⟨s0, s1, s2, s3⟩
         go_simp
         with_reducible rfl
        rotate_left
        ·simp only [Act.put, zq0, zq1, zq2, i64_w, i32_w]
         rfl
        refine one_ (i := 8) (N := some 25) #[true, true, true, true, true, true, true, true, true, false] rfl rfl (one_of HT_.out (by kernel_rfl)) (by decide) (fun K hK => ?_)
        refine goes_ Try.func89 (by kernel_rfl) rfl #[.agg #[.string ((rd_T101 l0 x5_1).f0), .string ((rd_T101 l0 x5_1).f1)], .agg #[.string ((rd_T101 l1 x5_1).f0), .string ((rd_T101 l1 x5_1).f1)]] (by rfl) rfl rfl (by (try simp only [List.map_toArray, List.map_cons, List.map_nil]); first | done | rfl | (simp only [List.length_drop, List.length_take]; rfl)) ?_
        with_reducible refine (laws_eqPair.calls ((rd_T101 l0 x5_1).f0) ((rd_T101 l0 x5_1).f1) ((rd_T101 l1 x5_1).f0) ((rd_T101 l1 x5_1).f1) true _ A7.out).mono ?_
        rintro e w10 ⟨rfl, hb⟩
        refine ⟨_, rfl, ?_⟩
        have n0_ := zq9 (below_step (by repeat (first | (with_reducible first | exact HB.out | apply zq5 | apply zq3 | apply zq4) | exact HB.out | exact Below.refl _ _)) hb)
        clear HB
        have HB := n0_
        clear n0_
        (try clear hb)
        (try clear hb2)
        (try clear hk)
        (try clear hi)
        refine hK.out _ _ ⟨((HB.out.cell (zq8 w _ hw221_0)).trans hw221_0), ((HB.out.cell (zq8 w _ hw221_1)).trans hw221_1), ((HB.out.cell (zq8 w _ hw222_0)).trans hw222_0), ((HB.out.cell (zq8 w _ hw222_1)).trans hw222_1)⟩ (fun hHeld => ?_)
        clear hK K
        refine norm_ (a' := ?_) ?_ ?_
        rotate_left
        ·show Act.put _ (some 25) _ = _
         simp only [Act.put, zq0, zq1, zq2, i64_w, i32_w]
         rfl
        refine pure_ (i := 9) (N := some 26) (v := ?_) (a' := ?_) #[true, true, true, true, true, true, true, true, true, true] rfl rfl (any_of HT_.out (by kernel_rfl)) (fun _ _ _ h => h) (Or.inl ⟨by rfl, ?_⟩) ?_ ?_
        rotate_left
        ·intro w'
         go_simp
         with_reducible rfl
        rotate_left
        ·simp only [Act.put, zq0, zq1, zq2, i64_w, i32_w]
         rfl
        refine done_ (done_of HT_.out (by kernel_rfl)) ?_
        try go_wp2
        go_roundg k1
        case measure => have := HK1.out; omega
        case rel => exact ⟨(wrap64 (x5_1 + 1)), (by first | rfl | (simp; done) | (simp [*]; done)), H', ⟨by have := HK1.out; omega⟩, ⟨by repeat (first | (with_reducible first | exact HB.out | apply zq5 | apply zq3 | apply zq4) | exact HB.out | exact Below.refl _ _)⟩⟩
       ·replace c8 := Bool.eq_false_iff.mpr c8
        subst c8
        have H1 : (some false) = some r := by rw [if_neg (show ¬ (false = true) by decide)] at H; exact H
        clear H
        have H := H1
        clear H1
        obtain rfl := Option.some.inj H
        try go_wp2
        have n0_ := zq9 (zq4 HB.out)
        clear HB
        have HB := n0_
        clear n0_
        have p221 : 0 ≤ (x5_1 : Int) := of_decide_eq_true (by first | (with_reducible assumption) | assumption)
        have q221 : x5_1 < (l0.length : Int) := of_decide_eq_true (by first | (with_reducible assumption) | assumption)
        obtain ⟨ad221, e221, hx221_0, hx221_1⟩ := at_T101 HR0.out x5_1 p221 q221
        have hw221_1 := hx221_1
        have hw221_0 := hx221_0
        cases e221
        replace hx221_0 := (HB.out.cell (zq8 w _ hx221_0)).trans hx221_0
        replace hx221_1 := (HB.out.cell (zq8 w _ hx221_1)).trans hx221_1
        replace p221 := eq_true p221
        replace q221 := eq_true q221
        have p222 : 0 ≤ (x5_1 : Int) := of_decide_eq_true (by first | (with_reducible assumption) | assumption)
        have q222 : x5_1 < (l1.length : Int) := of_decide_eq_true (by first | (with_reducible assumption) | assumption)
        obtain ⟨ad222, e222, hx222_0, hx222_1⟩ := at_T101 HR1.out x5_1 p222 q222
        have hw222_1 := hx222_1
        have hw222_0 := hx222_0
        cases e222
        replace hx222_0 := (HB.out.cell (zq8 w _ hx222_0)).trans hx222_0
        replace hx222_1 := (HB.out.cell (zq8 w _ hx222_1)).trans hx222_1
        replace p222 := eq_true p222
        replace q222 := eq_true q222
        refine start_ (n := 10) (S := fun w' => w'.cell? (ad221.add ((x5_1).toNat * 2)) = some (.string ((rd_T101 l0 x5_1).f0)) ∧ w'.cell? ⟨(ad221.add ((x5_1).toNat * 2)).block, (ad221.add ((x5_1).toNat * 2)).off + 1, none⟩ = some (.string ((rd_T101 l0 x5_1).f1)) ∧ w'.cell? (ad222.add ((x5_1).toNat * 2)) = some (.string ((rd_T101 l1 x5_1).f0)) ∧ w'.cell? ⟨(ad222.add ((x5_1).toNat * 2)).block, (ad222.add ((x5_1).toNat * 2)).off + 1, none⟩ = some (.string ((rd_T101 l1 x5_1).f1))) (ds := []) #[false, false, false, false, false, false, false, false, false, false] (by kernel_rfl) rfl rfl ⟨((HB.out.cell (zq8 w _ hw221_0)).trans hw221_0), ((HB.out.cell (zq8 w _ hw221_1)).trans hw221_1), ((HB.out.cell (zq8 w _ hw222_0)).trans hw222_0), ((HB.out.cell (zq8 w _ hw222_1)).trans hw222_1)⟩ (fun hHeld => ?_); refine with_tabW laws_eqPairS.tab6 laws_eqPairS.bits6 (fun HT_ HW_ => ?_)
        generalize wr.drew = w11 at HB hx221_0 hx221_1 hx222_0 hx222_1 hHeld ⊢
        refine pure_ (i := 0) (N := some 17) (v := ?_) (a' := ?_) #[true, false, false, false, false, false, false, false, false, false] rfl rfl (any_of HT_.out (by kernel_rfl)) (fun _ _ _ h => h) (Or.inl ⟨by rfl, ?_⟩) ?_ ?_
        rotate_left
        ·intro w'
         go_simp
         with_reducible rfl
        rotate_left
        ·simp only [Act.put, zq0, zq1, zq2, i64_w, i32_w]
         rfl
        refine pure_ (i := 1) (N := some 18) (v := ?_) (a' := ?_) #[true, true, false, false, false, false, false, false, false, false] rfl rfl (any_of HT_.out (by kernel_rfl)) (fun _ _ _ h => h) (Or.inl ⟨by rfl, ?_⟩) ?_ ?_
        rotate_left
        ·intro w'
         go_simp
         with_reducible rfl
        rotate_left
        ·simp only [Act.put, zq0, zq1, zq2, i64_w, i32_w]
         rfl
        refine pure_ (i := 2) (N := some 19) (v := ?_) (a' := ?_) #[true, true, true, false, false, false, false, false, false, false] rfl rfl (any_of HT_.out (by kernel_rfl)) (fun _ _ _ h => h) (Or.inl ⟨by rfl, ?_⟩) ?_ ?_
        rotate_left
        ·intro w'
         go_simp
         with_reducible rfl
        rotate_left
        ·simp only [Act.put, zq0, zq1, zq2, i64_w, i32_w]
         rfl
        refine pure_ (i := 4) (N := some 21) (v := ?_) (a' := ?_) #[true, true, true, false, true, false, false, false, false, false] rfl rfl (any_of HT_.out (by kernel_rfl)) (fun _ _ _ h => h) (Or.inl ⟨by rfl, ?_⟩) ?_ ?_
        rotate_left
        ·intro w'
         go_simp
         with_reducible rfl
        rotate_left
        ·simp only [Act.put, zq0, zq1, zq2, i64_w, i32_w]
         rfl
        refine pure_ (i := 5) (N := some 22) (v := ?_) (a' := ?_) #[true, true, true, false, true, true, false, false, false, false] rfl rfl (any_of HT_.out (by kernel_rfl)) (fun _ _ _ h => h) (Or.inl ⟨by rfl, ?_⟩) ?_ ?_
        rotate_left
        ·intro w'
         go_simp
         with_reducible rfl
        rotate_left
        ·simp only [Act.put, zq0, zq1, zq2, i64_w, i32_w]
         rfl
        refine pure_ (i := 6) (N := some 23) (v := ?_) (a' := ?_) #[true, true, true, false, true, true, true, false, false, false] rfl rfl (any_of HT_.out (by kernel_rfl)) (fun _ _ _ h => h) (Or.inl ⟨by rfl, ?_⟩) ?_ ?_
        rotate_left
        ·intro w'
         go_simp
         with_reducible rfl
        rotate_left
        ·simp only [Act.put, zq0, zq1, zq2, i64_w, i32_w]
         rfl
        refine take_ (i := 3) (N := some 20) (v := ?_) (a' := ?_) #[true, true, true, true, true, true, true, false, false, false] rfl rfl (take_ofW HT_.out HW_.out (by kernel_rfl)) (fun _ _ _ h => h) (Or.inl ⟨by rfl, ?_⟩) hHeld ?_ ?_
        rotate_left
        ·rintro w' ⟨s0, s1, s2, s3⟩
         go_simp
         with_reducible rfl
        rotate_left
        ·simp only [Act.put, zq0, zq1, zq2, i64_w, i32_w]
         rfl
        refine take_ (i := 7) (N := some 24) (v := ?_) (a' := ?_) #[true, true, true, true, true, true, true, true, false, false] rfl rfl (take_ofW HT_.out HW_.out (by kernel_rfl)) (fun _ _ _ h => h) (Or.inl ⟨by rfl, ?_⟩) hHeld ?_ ?_
        rotate_left
        ·rintro w' ⟨s0, s1, s2, s3⟩
         go_simp
         with_reducible rfl
        rotate_left
        ·simp only [Act.put, zq0, zq1, zq2, i64_w, i32_w]
         rfl
        refine one_ (i := 8) (N := some 25) #[true, true, true, true, true, true, true, true, true, false] rfl rfl (one_of HT_.out (by kernel_rfl)) (by decide) (fun K hK => ?_)
        refine goes_ Try.func89 (by kernel_rfl) rfl #[.agg #[.string ((rd_T101 l0 x5_1).f0), .string ((rd_T101 l0 x5_1).f1)], .agg #[.string ((rd_T101 l1 x5_1).f0), .string ((rd_T101 l1 x5_1).f1)]] (by rfl) rfl rfl (by (try simp only [List.map_toArray, List.map_cons, List.map_nil]); first | done | rfl | (simp only [List.length_drop, List.length_take]; rfl)) ?_
        with_reducible refine (laws_eqPair.calls ((rd_T101 l0 x5_1).f0) ((rd_T101 l0 x5_1).f1) ((rd_T101 l1 x5_1).f0) ((rd_T101 l1 x5_1).f1) false _ A7.out).mono ?_
        rintro e w12 ⟨rfl, hb⟩
        refine ⟨_, rfl, ?_⟩
        have n0_ := zq9 (below_step (by repeat (first | (with_reducible first | exact HB.out | apply zq5 | apply zq3 | apply zq4) | exact HB.out | exact Below.refl _ _)) hb)
        clear HB
        have HB := n0_
        clear n0_
        (try clear hb)
        (try clear hb2)
        (try clear hk)
        (try clear hi)
        refine hK.out _ _ ⟨((HB.out.cell (zq8 w _ hw221_0)).trans hw221_0), ((HB.out.cell (zq8 w _ hw221_1)).trans hw221_1), ((HB.out.cell (zq8 w _ hw222_0)).trans hw222_0), ((HB.out.cell (zq8 w _ hw222_1)).trans hw222_1)⟩ (fun hHeld => ?_)
        clear hK K
        refine norm_ (a' := ?_) ?_ ?_
        rotate_left
        ·show Act.put _ (some 25) _ = _
         simp only [Act.put, zq0, zq1, zq2, i64_w, i32_w]
         rfl
        refine pure_ (i := 9) (N := some 26) (v := ?_) (a' := ?_) #[true, true, true, true, true, true, true, true, true, true] rfl rfl (any_of HT_.out (by kernel_rfl)) (fun _ _ _ h => h) (Or.inl ⟨by rfl, ?_⟩) ?_ ?_
        rotate_left
        ·intro w'
         go_simp
         with_reducible rfl
        rotate_left
        ·simp only [Act.put, zq0, zq1, zq2, i64_w, i32_w]
         rfl
        refine done_ (done_of HT_.out (by kernel_rfl)) ?_
        try go_wp2
        go_ret
        exact ⟨by first | rfl | (simp [errW_none, errW_some] <;> rfl) | (simp [*, errW_none, errW_some] <;> rfl), by repeat (first | (with_reducible first | exact HB.out | apply zq5 | apply zq3 | apply zq4) | exact HB.out | exact Below.refl _ _)⟩
      ·rw [if_neg c6] at H
       exact absurd H (by simp)
     ·rw [if_neg c5] at H
      exact absurd H (by simp)
    ·rw [if_neg c4] at H
     have c4b0 : decide (x5_1 < (l0.length : Int)) = false := decide_eq_false c4
     clear c4
     obtain rfl := Option.some.inj H
     go_wp2
     go_ret
     exact ⟨by first | rfl | (simp [errW_none, errW_some] <;> rfl) | (simp [*, errW_none, errW_some] <;> rfl), by repeat (first | (with_reducible first | exact HB.out | apply zq5 | apply zq3 | apply zq4) | exact HB.out | exact Below.refl _ _)⟩
 ·rw [if_neg c3] at H
  have c3b0 : ((l0.length : Int) == (l1.length : Int)) = false := beq_eq_false_iff_ne.mpr c3
  have c3b1 : ((l0.length : Int) != (l1.length : Int)) = true := bne_iff_ne.mpr c3
  have c3b2 : (l0.length == l1.length) = false := by first | simpa using c3 | (simp at c3 ⊢; omega)
  obtain rfl := Option.some.inj H
  go_enter Try.func55, Try.ntmps55
  go_wp2
  go_ret
  exact ⟨by first | rfl | (simp [errW_none, errW_some] <;> rfl) | (simp [*, errW_none, errW_some] <;> rfl), by repeat (first | (with_reducible first | exact HB.out | apply zq5 | apply zq3 | apply zq4) | exact HB.out | exact Below.refl _ _)⟩
end Go.Proofs.Ytnkgmcgbbldkgaa.P
