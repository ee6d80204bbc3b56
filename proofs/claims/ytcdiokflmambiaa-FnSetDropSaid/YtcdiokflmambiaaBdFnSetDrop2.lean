import Derived.Test.YtcdiokflmambiaaBdFnSetDrop1
/- Texts of this claim, one behind the other: printed functions and their walks, plain lemmas. -/
-- Written by wip/px.py of this session, over the kit's print.py. Not trusted: Lean checks it.
namespace Go.Proofs.Ytcdiokflmambiaa.P
open Go.RowKit Go.Proofs.YtcdiokflmambiaaW.PrintWords Go.Proofs.YtcdiokflmambiaaW.PrintLast Go.Proofs.YtcdiokflmambiaaW.PrintMore
attribute [local go_sem] max2_int min2_int max_two min_two max_three min_three max_four min_four   -- for this text's walks alone
set_option linter.unusedVariables false
set_option linter.unusedSimpArgs false

/-! ### laws_FnSetDrop: the walk -/
set_option maxHeartbeats 8000000 in
set_option maxRecDepth 100000 in
theorem laws_FnSetDrop.calls (k : Nat) (A0 : Option Addr) (c0 : Nat) (l0 : List Int) (r : Bool) (w : World) (hr0 : Kd.C (Kd.int .u8) w A0 l0.length l0) (hc0 : l0.length ≤ c0) (h : laws_FnSetDrop.f k l0 = some r) :
    Calls Try.prog 10 #[.slice A0 l0.length c0] w fun e w' => e = .returned (.bool r) ∧ Below w.heap.size w w' := by
  have HR0 := Aside0.mk hr0
  have HC0 := Aside0.mk hc0
  clear hr0 hc0
  have HB := Aside0.mk (Below.refl w.heap.size w)
  have H : (if (l0.length : Int) > 1048576 then (some true) else ((spec_DrawSetDrop.f k l0).bind fun bt839 => ((impl_SetDrop.f k bt839.1 bt839.2).bind fun bt845 => ((spec_SetDrop.f k bt839.1 bt839.2).bind fun bt849 => (if bt845.2 = bt849.2 then ((laws_qxTexts.f k bt845.1 bt849.1).bind fun t853 => (if t853 = true then ((spec_SetOk.f k bt839.1).bind fun t854 => (laws_FnSetDrop.j0 k bt839.1 bt839.2 bt845.1 bt845.2 bt849.1 bt849.2 (!t854))) else (laws_FnSetDrop.j0 k bt839.1 bt839.2 bt845.1 bt845.2 bt849.1 bt849.2 true))) else (laws_FnSetDrop.j0 k bt839.1 bt839.2 bt845.1 bt845.2 bt849.1 bt849.2 true)))))) = some r := h
  clear h
  by_cases c2 : (l0.length : Int) > 1048576
  · rw [if_pos c2] at H
    have c2b0 : decide (1048576 < (l0.length : Int)) = true := decide_eq_true c2
    have c2b1 : decide (1048576 < l0.length) = true := decide_eq_true (by omega)
    clear c2
    obtain rfl := Option.some.inj H
    go_enter Try.func10, Try.ntmps10
    go_wp2
    repeat (go_quiet (fail); try go_wp2)
    go_ret
    exact ⟨by first | rfl | (simp [errW_none, errW_some] <;> rfl) | (simp [*, errW_none, errW_some] <;> rfl), by repeat (first | (with_reducible first | exact HB.out | apply below_alloc | apply pw_below_drewN | apply below_drew1) | exact HB.out | exact Below.refl _ _)⟩
  · rw [if_neg c2] at H
    have c2b0 : decide (1048576 < (l0.length : Int)) = false := decide_eq_false c2
    have c2b1 : decide (1048576 < l0.length) = false := decide_eq_false (by omega)
    clear c2
    replace H := Option.bind_eq_some_iff.mp H
    obtain ⟨⟨t839, t842⟩, A30, H⟩ := H
    replace H : ((impl_SetDrop.f k t839 t842).bind fun bt845 => ((spec_SetDrop.f k t839 t842).bind fun bt849 => (if bt845.2 = bt849.2 then ((laws_qxTexts.f k bt845.1 bt849.1).bind fun t853 => (if t853 = true then ((spec_SetOk.f k t839).bind fun t854 => (laws_FnSetDrop.j0 k t839 t842 bt845.1 bt845.2 bt849.1 bt849.2 (!t854))) else (laws_FnSetDrop.j0 k t839 t842 bt845.1 bt845.2 bt849.1 bt849.2 true))) else (laws_FnSetDrop.j0 k t839 t842 bt845.1 bt845.2 bt849.1 bt849.2 true)))) = some r := H
    have A3 := Aside0.mk A30
    clear A30
    replace H := Option.bind_eq_some_iff.mp H
    obtain ⟨⟨t845, t846⟩, A40, H⟩ := H
    replace H : ((spec_SetDrop.f k t839 t842).bind fun bt849 => (if t846 = bt849.2 then ((laws_qxTexts.f k t845 bt849.1).bind fun t853 => (if t853 = true then ((spec_SetOk.f k t839).bind fun t854 => (laws_FnSetDrop.j0 k t839 t842 t845 t846 bt849.1 bt849.2 (!t854))) else (laws_FnSetDrop.j0 k t839 t842 t845 t846 bt849.1 bt849.2 true))) else (laws_FnSetDrop.j0 k t839 t842 t845 t846 bt849.1 bt849.2 true))) = some r := H
    have A4 := Aside0.mk A40
    clear A40
    replace H := Option.bind_eq_some_iff.mp H
    obtain ⟨⟨t849, t850⟩, A50, H⟩ := H
    replace H : (if t846 = t850 then ((laws_qxTexts.f k t845 t849).bind fun t853 => (if t853 = true then ((spec_SetOk.f k t839).bind fun t854 => (laws_FnSetDrop.j0 k t839 t842 t845 t846 t849 t850 (!t854))) else (laws_FnSetDrop.j0 k t839 t842 t845 t846 t849 t850 true))) else (laws_FnSetDrop.j0 k t839 t842 t845 t846 t849 t850 true)) = some r := H
    have A5 := Aside0.mk A50
    clear A50
    have HC6 := Aside0.mk H
    clear H
    go_enter Try.func10, Try.ntmps10
    go_upto_region 6 with (first | (go_at_call 42; (with_reducible refine (spec_DrawSetDrop.calls k _ _ l0 t839 t842 _ ?side1 ?side2 A3.out).mono ?_); (case side1 => repeat (first | exact HR0.out | (with_reducible refine Kd.C_alloc ?_ _) | (with_reducible refine Kd.C_drewN ?_ _) | (with_reducible refine Kd.C_drew ?_))); (case side2 => exact HC0.out); rintro e w7 ⟨v840, v843, rfl, ho0, ho1, hb⟩; have n0_ := Aside0.mk (Kd.V_lower (Kd.V_mono (ok' := fun k_ => some k_ ≠ (v843 : Value).ownBlock) ho0 (fun k_ hk_ => hk_.2)) (below_size (by repeat (first | (with_reducible first | exact HB.out | apply below_alloc | apply pw_below_drewN | apply below_drew1) | exact HB.out | exact Below.refl _ _)))); have n1_ := Aside0.mk (Kd.R_lower (Kd.R_mono (ok' := fun k_ => True) ho1 (fun _ hk_ => trivial)) (below_size (by repeat (first | (with_reducible first | exact HB.out | apply below_alloc | apply pw_below_drewN | apply below_drew1) | exact HB.out | exact Below.refl _ _)))); have n2_ := Aside0.mk (below_step (by repeat (first | (with_reducible first | exact HB.out | apply below_alloc | apply pw_below_drewN | apply below_drew1) | exact HB.out | exact Below.refl _ _)) hb); clear HB; have HO841 := n0_; have HO844 := n1_; have HB := n2_; clear n0_ n1_ n2_; (try clear hb); (try clear hb2); (try clear hk); (try clear hi); (try clear ho0); (try clear ho1); obtain ⟨Ao8, co8, eo8⟩ := Kd.V_slice HO841.out; subst eo8; obtain ⟨Ao9, co9, eo9⟩ := Kd.R_slice HO844.out; subst eo9) | (go_at_call 43; (with_reducible refine (impl_SetDrop.calls k _ _ t839 _ _ t842 t845 t846 _ ?side1 ?side2 ?side3 ?side4 A4.out).mono ?_); (case side1 => repeat (first | exact (Kd.V_reads' HO841.out).2.2 | (with_reducible refine Kd.C_alloc ?_ _) | (with_reducible refine Kd.C_drewN ?_ _) | (with_reducible refine Kd.C_drew ?_))); (case side2 => exact (Kd.V_reads' HO841.out).2.1); (case side3 => repeat (first | exact (Kd.R_reads' HO844.out).2.2 | (with_reducible refine Kd.C_alloc ?_ _) | (with_reducible refine Kd.C_drewN ?_ _) | (with_reducible refine Kd.C_drew ?_))); (case side4 => exact (Kd.R_reads' HO844.out).2.1); rintro e w10 ⟨v847, rfl, ho0, hb⟩; have n0_ := Aside0.mk (Kd.V_elder' (by (with_reducible repeat (first | apply Kd.V_alloc | apply Kd.V_drewN | apply Kd.V_drew)); exact HO841.out) (Kd.R_base ho0) hb); have n1_ := Aside0.mk (Kd.R_elder' (by (with_reducible repeat (first | apply Kd.R_alloc | apply Kd.R_drewN | apply Kd.R_drew)); exact HO844.out) (Kd.R_base ho0) hb); have n2_ := Aside0.mk (Kd.R_lower (Kd.R_new' ho0 (Kd.R_lt (by (with_reducible repeat (first | apply Kd.R_alloc | apply Kd.R_drewN | apply Kd.R_drew)); exact HO844.out))) (below_size (by repeat (first | (with_reducible first | exact HB.out | apply below_alloc | apply pw_below_drewN | apply below_drew1) | exact HB.out | exact Below.refl _ _)))); have n3_ := Aside0.mk (below_step (by repeat (first | (with_reducible first | exact HB.out | apply below_alloc | apply pw_below_drewN | apply below_drew1) | exact HB.out | exact Below.refl _ _)) hb); clear HO841; clear HO844; clear HB; have HO841 := n0_; have HO844 := n1_; have HO848 := n2_; have HB := n3_; clear n0_ n1_ n2_ n3_; (try clear hb); (try clear hb2); (try clear hk); (try clear hi); (try clear ho0)) | (go_at_call 44; (with_reducible refine (spec_SetDrop.calls k _ _ t839 _ _ t842 t849 t850 _ ?side1 ?side2 ?side3 ?side4 A5.out).mono ?_); (case side1 => repeat (first | exact (Kd.V_reads' HO841.out).2.2 | (with_reducible refine Kd.C_alloc ?_ _) | (with_reducible refine Kd.C_drewN ?_ _) | (with_reducible refine Kd.C_drew ?_))); (case side2 => exact (Kd.V_reads' HO841.out).2.1); (case side3 => repeat (first | exact (Kd.R_reads' HO844.out).2.2 | (with_reducible refine Kd.C_alloc ?_ _) | (with_reducible refine Kd.C_drewN ?_ _) | (with_reducible refine Kd.C_drew ?_))); (case side4 => exact (Kd.R_reads' HO844.out).2.1); rintro e w11 ⟨v851, rfl, ho0, hb⟩; have n0_ := Aside0.mk (Kd.V_elder' (by (with_reducible repeat (first | apply Kd.V_alloc | apply Kd.V_drewN | apply Kd.V_drew)); exact HO841.out) (Kd.R_base ho0) hb); have n1_ := Aside0.mk (Kd.R_elder' (by (with_reducible repeat (first | apply Kd.R_alloc | apply Kd.R_drewN | apply Kd.R_drew)); exact HO844.out) (Kd.R_base ho0) hb); have n2_ := Aside0.mk (Kd.R_elder' (by (with_reducible repeat (first | apply Kd.R_alloc | apply Kd.R_drewN | apply Kd.R_drew)); exact HO848.out) (Kd.R_base ho0) hb); have n3_ := Aside0.mk (Kd.R_lower (Kd.R_new' (Kd.R_new' ho0 (Kd.R_lt (by (with_reducible repeat (first | apply Kd.R_alloc | apply Kd.R_drewN | apply Kd.R_drew)); exact HO844.out))) (Kd.R_lt (by (with_reducible repeat (first | apply Kd.R_alloc | apply Kd.R_drewN | apply Kd.R_drew)); exact HO848.out))) (below_size (by repeat (first | (with_reducible first | exact HB.out | apply below_alloc | apply pw_below_drewN | apply below_drew1) | exact HB.out | exact Below.refl _ _)))); have n4_ := Aside0.mk (below_step (by repeat (first | (with_reducible first | exact HB.out | apply below_alloc | apply pw_below_drewN | apply below_drew1) | exact HB.out | exact Below.refl _ _)) hb); clear HO841; clear HO844; clear HO848; clear HB; have HO841 := n0_; have HO844 := n1_; have HO848 := n2_; have HO852 := n3_; have HB := n4_; clear n0_ n1_ n2_ n3_ n4_; (try clear hb); (try clear hb2); (try clear hk); (try clear hi); (try clear ho0)))
    repeat (go_quiet (first | (go_at_call 42; (with_reducible refine (spec_DrawSetDrop.calls k _ _ l0 t839 t842 _ ?side1 ?side2 A3.out).mono ?_); (case side1 => repeat (first | exact HR0.out | (with_reducible refine Kd.C_alloc ?_ _) | (with_reducible refine Kd.C_drewN ?_ _) | (with_reducible refine Kd.C_drew ?_))); (case side2 => exact HC0.out); rintro e w7 ⟨v840, v843, rfl, ho0, ho1, hb⟩; have n0_ := Aside0.mk (Kd.V_lower (Kd.V_mono (ok' := fun k_ => some k_ ≠ (v843 : Value).ownBlock) ho0 (fun k_ hk_ => hk_.2)) (below_size (by repeat (first | (with_reducible first | exact HB.out | apply below_alloc | apply pw_below_drewN | apply below_drew1) | exact HB.out | exact Below.refl _ _)))); have n1_ := Aside0.mk (Kd.R_lower (Kd.R_mono (ok' := fun k_ => True) ho1 (fun _ hk_ => trivial)) (below_size (by repeat (first | (with_reducible first | exact HB.out | apply below_alloc | apply pw_below_drewN | apply below_drew1) | exact HB.out | exact Below.refl _ _)))); have n2_ := Aside0.mk (below_step (by repeat (first | (with_reducible first | exact HB.out | apply below_alloc | apply pw_below_drewN | apply below_drew1) | exact HB.out | exact Below.refl _ _)) hb); clear HB; have HO841 := n0_; have HO844 := n1_; have HB := n2_; clear n0_ n1_ n2_; (try clear hb); (try clear hb2); (try clear hk); (try clear hi); (try clear ho0); (try clear ho1); obtain ⟨Ao8, co8, eo8⟩ := Kd.V_slice HO841.out; subst eo8; obtain ⟨Ao9, co9, eo9⟩ := Kd.R_slice HO844.out; subst eo9) | (go_at_call 43; (with_reducible refine (impl_SetDrop.calls k _ _ t839 _ _ t842 t845 t846 _ ?side1 ?side2 ?side3 ?side4 A4.out).mono ?_); (case side1 => repeat (first | exact (Kd.V_reads' HO841.out).2.2 | (with_reducible refine Kd.C_alloc ?_ _) | (with_reducible refine Kd.C_drewN ?_ _) | (with_reducible refine Kd.C_drew ?_))); (case side2 => exact (Kd.V_reads' HO841.out).2.1); (case side3 => repeat (first | exact (Kd.R_reads' HO844.out).2.2 | (with_reducible refine Kd.C_alloc ?_ _) | (with_reducible refine Kd.C_drewN ?_ _) | (with_reducible refine Kd.C_drew ?_))); (case side4 => exact (Kd.R_reads' HO844.out).2.1); rintro e w10 ⟨v847, rfl, ho0, hb⟩; have n0_ := Aside0.mk (Kd.V_elder' (by (with_reducible repeat (first | apply Kd.V_alloc | apply Kd.V_drewN | apply Kd.V_drew)); exact HO841.out) (Kd.R_base ho0) hb); have n1_ := Aside0.mk (Kd.R_elder' (by (with_reducible repeat (first | apply Kd.R_alloc | apply Kd.R_drewN | apply Kd.R_drew)); exact HO844.out) (Kd.R_base ho0) hb); have n2_ := Aside0.mk (Kd.R_lower (Kd.R_new' ho0 (Kd.R_lt (by (with_reducible repeat (first | apply Kd.R_alloc | apply Kd.R_drewN | apply Kd.R_drew)); exact HO844.out))) (below_size (by repeat (first | (with_reducible first | exact HB.out | apply below_alloc | apply pw_below_drewN | apply below_drew1) | exact HB.out | exact Below.refl _ _)))); have n3_ := Aside0.mk (below_step (by repeat (first | (with_reducible first | exact HB.out | apply below_alloc | apply pw_below_drewN | apply below_drew1) | exact HB.out | exact Below.refl _ _)) hb); clear HO841; clear HO844; clear HB; have HO841 := n0_; have HO844 := n1_; have HO848 := n2_; have HB := n3_; clear n0_ n1_ n2_ n3_; (try clear hb); (try clear hb2); (try clear hk); (try clear hi); (try clear ho0)) | (go_at_call 44; (with_reducible refine (spec_SetDrop.calls k _ _ t839 _ _ t842 t849 t850 _ ?side1 ?side2 ?side3 ?side4 A5.out).mono ?_); (case side1 => repeat (first | exact (Kd.V_reads' HO841.out).2.2 | (with_reducible refine Kd.C_alloc ?_ _) | (with_reducible refine Kd.C_drewN ?_ _) | (with_reducible refine Kd.C_drew ?_))); (case side2 => exact (Kd.V_reads' HO841.out).2.1); (case side3 => repeat (first | exact (Kd.R_reads' HO844.out).2.2 | (with_reducible refine Kd.C_alloc ?_ _) | (with_reducible refine Kd.C_drewN ?_ _) | (with_reducible refine Kd.C_drew ?_))); (case side4 => exact (Kd.R_reads' HO844.out).2.1); rintro e w11 ⟨v851, rfl, ho0, hb⟩; have n0_ := Aside0.mk (Kd.V_elder' (by (with_reducible repeat (first | apply Kd.V_alloc | apply Kd.V_drewN | apply Kd.V_drew)); exact HO841.out) (Kd.R_base ho0) hb); have n1_ := Aside0.mk (Kd.R_elder' (by (with_reducible repeat (first | apply Kd.R_alloc | apply Kd.R_drewN | apply Kd.R_drew)); exact HO844.out) (Kd.R_base ho0) hb); have n2_ := Aside0.mk (Kd.R_elder' (by (with_reducible repeat (first | apply Kd.R_alloc | apply Kd.R_drewN | apply Kd.R_drew)); exact HO848.out) (Kd.R_base ho0) hb); have n3_ := Aside0.mk (Kd.R_lower (Kd.R_new' (Kd.R_new' ho0 (Kd.R_lt (by (with_reducible repeat (first | apply Kd.R_alloc | apply Kd.R_drewN | apply Kd.R_drew)); exact HO844.out))) (Kd.R_lt (by (with_reducible repeat (first | apply Kd.R_alloc | apply Kd.R_drewN | apply Kd.R_drew)); exact HO848.out))) (below_size (by repeat (first | (with_reducible first | exact HB.out | apply below_alloc | apply pw_below_drewN | apply below_drew1) | exact HB.out | exact Below.refl _ _)))); have n4_ := Aside0.mk (below_step (by repeat (first | (with_reducible first | exact HB.out | apply below_alloc | apply pw_below_drewN | apply below_drew1) | exact HB.out | exact Below.refl _ _)) hb); clear HO841; clear HO844; clear HO848; clear HB; have HO841 := n0_; have HO844 := n1_; have HO848 := n2_; have HO852 := n3_; have HB := n4_; clear n0_ n1_ n2_ n3_ n4_; (try clear hb); (try clear hb2); (try clear hk); (try clear hi); (try clear ho0))); go_upto_region 6 with (first | (go_at_call 42; (with_reducible refine (spec_DrawSetDrop.calls k _ _ l0 t839 t842 _ ?side1 ?side2 A3.out).mono ?_); (case side1 => repeat (first | exact HR0.out | (with_reducible refine Kd.C_alloc ?_ _) | (with_reducible refine Kd.C_drewN ?_ _) | (with_reducible refine Kd.C_drew ?_))); (case side2 => exact HC0.out); rintro e w7 ⟨v840, v843, rfl, ho0, ho1, hb⟩; have n0_ := Aside0.mk (Kd.V_lower (Kd.V_mono (ok' := fun k_ => some k_ ≠ (v843 : Value).ownBlock) ho0 (fun k_ hk_ => hk_.2)) (below_size (by repeat (first | (with_reducible first | exact HB.out | apply below_alloc | apply pw_below_drewN | apply below_drew1) | exact HB.out | exact Below.refl _ _)))); have n1_ := Aside0.mk (Kd.R_lower (Kd.R_mono (ok' := fun k_ => True) ho1 (fun _ hk_ => trivial)) (below_size (by repeat (first | (with_reducible first | exact HB.out | apply below_alloc | apply pw_below_drewN | apply below_drew1) | exact HB.out | exact Below.refl _ _)))); have n2_ := Aside0.mk (below_step (by repeat (first | (with_reducible first | exact HB.out | apply below_alloc | apply pw_below_drewN | apply below_drew1) | exact HB.out | exact Below.refl _ _)) hb); clear HB; have HO841 := n0_; have HO844 := n1_; have HB := n2_; clear n0_ n1_ n2_; (try clear hb); (try clear hb2); (try clear hk); (try clear hi); (try clear ho0); (try clear ho1); obtain ⟨Ao8, co8, eo8⟩ := Kd.V_slice HO841.out; subst eo8; obtain ⟨Ao9, co9, eo9⟩ := Kd.R_slice HO844.out; subst eo9) | (go_at_call 43; (with_reducible refine (impl_SetDrop.calls k _ _ t839 _ _ t842 t845 t846 _ ?side1 ?side2 ?side3 ?side4 A4.out).mono ?_); (case side1 => repeat (first | exact (Kd.V_reads' HO841.out).2.2 | (with_reducible refine Kd.C_alloc ?_ _) | (with_reducible refine Kd.C_drewN ?_ _) | (with_reducible refine Kd.C_drew ?_))); (case side2 => exact (Kd.V_reads' HO841.out).2.1); (case side3 => repeat (first | exact (Kd.R_reads' HO844.out).2.2 | (with_reducible refine Kd.C_alloc ?_ _) | (with_reducible refine Kd.C_drewN ?_ _) | (with_reducible refine Kd.C_drew ?_))); (case side4 => exact (Kd.R_reads' HO844.out).2.1); rintro e w10 ⟨v847, rfl, ho0, hb⟩; have n0_ := Aside0.mk (Kd.V_elder' (by (with_reducible repeat (first | apply Kd.V_alloc | apply Kd.V_drewN | apply Kd.V_drew)); exact HO841.out) (Kd.R_base ho0) hb); have n1_ := Aside0.mk (Kd.R_elder' (by (with_reducible repeat (first | apply Kd.R_alloc | apply Kd.R_drewN | apply Kd.R_drew)); exact HO844.out) (Kd.R_base ho0) hb); have n2_ := Aside0.mk (Kd.R_lower (Kd.R_new' ho0 (Kd.R_lt (by (with_reducible repeat (first | apply Kd.R_alloc | apply Kd.R_drewN | apply Kd.R_drew)); exact HO844.out))) (below_size (by repeat (first | (with_reducible first | exact HB.out | apply below_alloc | apply pw_below_drewN | apply below_drew1) | exact HB.out | exact Below.refl _ _)))); have n3_ := Aside0.mk (below_step (by repeat (first | (with_reducible first | exact HB.out | apply below_alloc | apply pw_below_drewN | apply below_drew1) | exact HB.out | exact Below.refl _ _)) hb); clear HO841; clear HO844; clear HB; have HO841 := n0_; have HO844 := n1_; have HO848 := n2_; have HB := n3_; clear n0_ n1_ n2_ n3_; (try clear hb); (try clear hb2); (try clear hk); (try clear hi); (try clear ho0)) | (go_at_call 44; (with_reducible refine (spec_SetDrop.calls k _ _ t839 _ _ t842 t849 t850 _ ?side1 ?side2 ?side3 ?side4 A5.out).mono ?_); (case side1 => repeat (first | exact (Kd.V_reads' HO841.out).2.2 | (with_reducible refine Kd.C_alloc ?_ _) | (with_reducible refine Kd.C_drewN ?_ _) | (with_reducible refine Kd.C_drew ?_))); (case side2 => exact (Kd.V_reads' HO841.out).2.1); (case side3 => repeat (first | exact (Kd.R_reads' HO844.out).2.2 | (with_reducible refine Kd.C_alloc ?_ _) | (with_reducible refine Kd.C_drewN ?_ _) | (with_reducible refine Kd.C_drew ?_))); (case side4 => exact (Kd.R_reads' HO844.out).2.1); rintro e w11 ⟨v851, rfl, ho0, hb⟩; have n0_ := Aside0.mk (Kd.V_elder' (by (with_reducible repeat (first | apply Kd.V_alloc | apply Kd.V_drewN | apply Kd.V_drew)); exact HO841.out) (Kd.R_base ho0) hb); have n1_ := Aside0.mk (Kd.R_elder' (by (with_reducible repeat (first | apply Kd.R_alloc | apply Kd.R_drewN | apply Kd.R_drew)); exact HO844.out) (Kd.R_base ho0) hb); have n2_ := Aside0.mk (Kd.R_elder' (by (with_reducible repeat (first | apply Kd.R_alloc | apply Kd.R_drewN | apply Kd.R_drew)); exact HO848.out) (Kd.R_base ho0) hb); have n3_ := Aside0.mk (Kd.R_lower (Kd.R_new' (Kd.R_new' ho0 (Kd.R_lt (by (with_reducible repeat (first | apply Kd.R_alloc | apply Kd.R_drewN | apply Kd.R_drew)); exact HO844.out))) (Kd.R_lt (by (with_reducible repeat (first | apply Kd.R_alloc | apply Kd.R_drewN | apply Kd.R_drew)); exact HO848.out))) (below_size (by repeat (first | (with_reducible first | exact HB.out | apply below_alloc | apply pw_below_drewN | apply below_drew1) | exact HB.out | exact Below.refl _ _)))); have n4_ := Aside0.mk (below_step (by repeat (first | (with_reducible first | exact HB.out | apply below_alloc | apply pw_below_drewN | apply below_drew1) | exact HB.out | exact Below.refl _ _)) hb); clear HO841; clear HO844; clear HO848; clear HB; have HO841 := n0_; have HO844 := n1_; have HO848 := n2_; have HO852 := n3_; have HB := n4_; clear n0_ n1_ n2_ n3_ n4_; (try clear hb); (try clear hb2); (try clear hk); (try clear hi); (try clear ho0))))
    (try simp only [Act.put, List.setIfInBounds_toArray, List.set_cons_zero, List.set_cons_succ])
    go_cut [43] (fun v43 wc => ∃ (kq : Nat) (x43_5 : Bool), v43 = .bool x43_5 ∧ Aside0 (laws_FnSetDrop.j0 kq t839 t842 t845 t846 t849 t850 x43_5 = some r) ∧ Aside0 (kq ≤ k) ∧ Aside0 (Kd.V Kd.string 9 wc w.heap.size (fun k_ => some k_ ≠ ((.slice Ao9 t842.length co9) : Value).ownBlock ∧ some k_ ≠ (v847 : Value).ownBlock ∧ some k_ ≠ (v851 : Value).ownBlock) (.slice Ao8 t839.length co8) t839) ∧ Aside0 (Kd.R Kd.string 9 wc w.heap.size (fun k_ => some k_ ≠ (v847 : Value).ownBlock ∧ some k_ ≠ (v851 : Value).ownBlock) (.slice Ao9 t842.length co9) t842) ∧ Aside0 (Kd.R Kd.string 9 wc w.heap.size (fun k_ => some k_ ≠ ((.slice Ao9 t842.length co9) : Value).ownBlock ∧ some k_ ≠ (v851 : Value).ownBlock) v847 t845) ∧ Aside0 (Kd.R Kd.string 9 wc w.heap.size (fun k_ => some k_ ≠ ((.slice Ao9 t842.length co9) : Value).ownBlock ∧ some k_ ≠ (v847 : Value).ownBlock) v851 t849) ∧ Aside0 (Below w.heap.size w wc))
    case first =>
      have H := HC6.out
      clear HC6
      by_cases c12 : t846 = t850
      · rw [if_pos c12] at H
        have c12b0 : (t846 == t850) = true := beq_iff_eq.mpr c12
        have c12b1 : (t846 != t850) = false := bne_eq_false_iff_eq.mpr c12
        clear c12
        (first | rw [c12b0] | (simp only [i64_w, i32_w]; rw [c12b0]) | skip)
        replace H := Option.bind_eq_some_iff.mp H
        obtain ⟨t853, A130, H⟩ := H
        replace H : (if t853 = true then ((spec_SetOk.f k t839).bind fun t854 => (laws_FnSetDrop.j0 k t839 t842 t845 t846 t849 t850 (!t854))) else (laws_FnSetDrop.j0 k t839 t842 t845 t846 t849 t850 true)) = some r := H
        have A13 := Aside0.mk A130
        clear A130
        by_cases c14 : t853 = true
        · subst c14
          have H1 : ((spec_SetOk.f k t839).bind fun t854 => (laws_FnSetDrop.j0 k t839 t842 t845 t846 t849 t850 (!t854))) = some r := by rw [if_pos rfl] at H; exact H
          clear H
          have H := H1
          clear H1
          replace H := Option.bind_eq_some_iff.mp H
          obtain ⟨t854, A150, H⟩ := H
          replace H : (laws_FnSetDrop.j0 k t839 t842 t845 t846 t849 t850 (!t854)) = some r := H
          have A15 := Aside0.mk A150
          clear A150
          have H' := Aside0.mk H
          clear H
          obtain ⟨Ao16, co16, eo16⟩ := Kd.R_slice HO848.out
          subst eo16
          obtain ⟨Ao17, co17, eo17⟩ := Kd.R_slice HO852.out
          subst eo17
          go_wp2_with (first | (go_at_call 24; (with_reducible refine (laws_qxTexts.calls k _ _ t845 _ _ t849 true _ ?side1 ?side2 ?side3 ?side4 A13.out).mono ?_); (case side1 => repeat (first | exact (Kd.R_reads' HO848.out).2.2 | (with_reducible refine Kd.C_alloc ?_ _) | (with_reducible refine Kd.C_drewN ?_ _) | (with_reducible refine Kd.C_drew ?_))); (case side2 => exact (Kd.R_reads' HO848.out).2.1); (case side3 => repeat (first | exact (Kd.R_reads' HO852.out).2.2 | (with_reducible refine Kd.C_alloc ?_ _) | (with_reducible refine Kd.C_drewN ?_ _) | (with_reducible refine Kd.C_drew ?_))); (case side4 => exact (Kd.R_reads' HO852.out).2.1); rintro e w' ⟨rfl, ⟨nd, rfl⟩⟩; (try first | exact ⟨rfl, _, World.drewN_drewN _ _ _⟩ | exact ⟨rfl, _, Eq.trans (World.drewN_drewN _ _ _) (congrArg (World.drewN _) (Nat.add_assoc _ _ _))⟩)) | (go_at_call 45; (with_reducible refine (spec_SetOk.calls k _ _ t839 t854 _ ?side1 ?side2 A15.out).mono ?_); (case side1 => repeat (first | exact (Kd.V_reads' HO841.out).2.2 | (with_reducible refine Kd.C_alloc ?_ _) | (with_reducible refine Kd.C_drewN ?_ _) | (with_reducible refine Kd.C_drew ?_))); (case side2 => exact (Kd.V_reads' HO841.out).2.1); rintro e w' ⟨rfl, ⟨nd, rfl⟩⟩; (try first | exact ⟨rfl, _, World.drewN_drewN _ _ _⟩ | exact ⟨rfl, _, Eq.trans (World.drewN_drewN _ _ _) (congrArg (World.drewN _) (Nat.add_assoc _ _ _))⟩)))
          repeat (go_quiet (first | (go_at_call 24; (with_reducible refine (laws_qxTexts.calls k _ _ t845 _ _ t849 true _ ?side1 ?side2 ?side3 ?side4 A13.out).mono ?_); (case side1 => repeat (first | exact (Kd.R_reads' HO848.out).2.2 | (with_reducible refine Kd.C_alloc ?_ _) | (with_reducible refine Kd.C_drewN ?_ _) | (with_reducible refine Kd.C_drew ?_))); (case side2 => exact (Kd.R_reads' HO848.out).2.1); (case side3 => repeat (first | exact (Kd.R_reads' HO852.out).2.2 | (with_reducible refine Kd.C_alloc ?_ _) | (with_reducible refine Kd.C_drewN ?_ _) | (with_reducible refine Kd.C_drew ?_))); (case side4 => exact (Kd.R_reads' HO852.out).2.1); rintro e w' ⟨rfl, ⟨nd, rfl⟩⟩; (try first | exact ⟨rfl, _, World.drewN_drewN _ _ _⟩ | exact ⟨rfl, _, Eq.trans (World.drewN_drewN _ _ _) (congrArg (World.drewN _) (Nat.add_assoc _ _ _))⟩)) | (go_at_call 45; (with_reducible refine (spec_SetOk.calls k _ _ t839 t854 _ ?side1 ?side2 A15.out).mono ?_); (case side1 => repeat (first | exact (Kd.V_reads' HO841.out).2.2 | (with_reducible refine Kd.C_alloc ?_ _) | (with_reducible refine Kd.C_drewN ?_ _) | (with_reducible refine Kd.C_drew ?_))); (case side2 => exact (Kd.V_reads' HO841.out).2.1); rintro e w' ⟨rfl, ⟨nd, rfl⟩⟩; (try first | exact ⟨rfl, _, World.drewN_drewN _ _ _⟩ | exact ⟨rfl, _, Eq.trans (World.drewN_drewN _ _ _) (congrArg (World.drewN _) (Nat.add_assoc _ _ _))⟩))); try go_wp2_with (first | (go_at_call 24; (with_reducible refine (laws_qxTexts.calls k _ _ t845 _ _ t849 true _ ?side1 ?side2 ?side3 ?side4 A13.out).mono ?_); (case side1 => repeat (first | exact (Kd.R_reads' HO848.out).2.2 | (with_reducible refine Kd.C_alloc ?_ _) | (with_reducible refine Kd.C_drewN ?_ _) | (with_reducible refine Kd.C_drew ?_))); (case side2 => exact (Kd.R_reads' HO848.out).2.1); (case side3 => repeat (first | exact (Kd.R_reads' HO852.out).2.2 | (with_reducible refine Kd.C_alloc ?_ _) | (with_reducible refine Kd.C_drewN ?_ _) | (with_reducible refine Kd.C_drew ?_))); (case side4 => exact (Kd.R_reads' HO852.out).2.1); rintro e w' ⟨rfl, ⟨nd, rfl⟩⟩; (try first | exact ⟨rfl, _, World.drewN_drewN _ _ _⟩ | exact ⟨rfl, _, Eq.trans (World.drewN_drewN _ _ _) (congrArg (World.drewN _) (Nat.add_assoc _ _ _))⟩)) | (go_at_call 45; (with_reducible refine (spec_SetOk.calls k _ _ t839 t854 _ ?side1 ?side2 A15.out).mono ?_); (case side1 => repeat (first | exact (Kd.V_reads' HO841.out).2.2 | (with_reducible refine Kd.C_alloc ?_ _) | (with_reducible refine Kd.C_drewN ?_ _) | (with_reducible refine Kd.C_drew ?_))); (case side2 => exact (Kd.V_reads' HO841.out).2.1); rintro e w' ⟨rfl, ⟨nd, rfl⟩⟩; (try first | exact ⟨rfl, _, World.drewN_drewN _ _ _⟩ | exact ⟨rfl, _, Eq.trans (World.drewN_drewN _ _ _) (congrArg (World.drewN _) (Nat.add_assoc _ _ _))⟩))))
          go_meet
          case rel => exact ⟨_, (!t854), (by first | rfl | (simp; done) | (simp [*]; done)), H', ⟨by first | omega | exact Nat.le_refl _⟩, ⟨by (with_reducible repeat (first | apply Kd.V_alloc | apply Kd.V_drewN | apply Kd.V_drew)); exact Kd.V_mono HO841.out (fun _ hk => ⟨hk.1.1, ⟨hk.1.2, hk.2⟩⟩)⟩, ⟨by (with_reducible repeat (first | apply Kd.R_alloc | apply Kd.R_drewN | apply Kd.R_drew)); exact Kd.R_mono HO844.out (fun _ hk => ⟨hk.1.2, hk.2⟩)⟩, ⟨by (with_reducible repeat (first | apply Kd.R_alloc | apply Kd.R_drewN | apply Kd.R_drew)); exact Kd.R_mono HO848.out (fun _ hk => ⟨hk.1.2, hk.2⟩)⟩, ⟨by (with_reducible repeat (first | apply Kd.R_alloc | apply Kd.R_drewN | apply Kd.R_drew)); exact Kd.R_mono HO852.out (fun _ hk => ⟨hk.1.2, hk.2⟩)⟩, ⟨by repeat (first | (with_reducible first | exact HB.out | apply below_alloc | apply pw_below_drewN | apply below_drew1) | exact HB.out | exact Below.refl _ _)⟩⟩
        · replace c14 := Bool.eq_false_iff.mpr c14
          subst c14
          have H1 : (laws_FnSetDrop.j0 k t839 t842 t845 t846 t849 t850 true) = some r := by rw [if_neg (show ¬ (false = true) by decide)] at H; exact H
          clear H
          have H := H1
          clear H1
          have H' := Aside0.mk H
          clear H
          obtain ⟨Ao18, co18, eo18⟩ := Kd.R_slice HO848.out
          subst eo18
          obtain ⟨Ao19, co19, eo19⟩ := Kd.R_slice HO852.out
          subst eo19
          go_wp2_with (first | (go_at_call 24; (with_reducible refine (laws_qxTexts.calls k _ _ t845 _ _ t849 false _ ?side1 ?side2 ?side3 ?side4 A13.out).mono ?_); (case side1 => repeat (first | exact (Kd.R_reads' HO848.out).2.2 | (with_reducible refine Kd.C_alloc ?_ _) | (with_reducible refine Kd.C_drewN ?_ _) | (with_reducible refine Kd.C_drew ?_))); (case side2 => exact (Kd.R_reads' HO848.out).2.1); (case side3 => repeat (first | exact (Kd.R_reads' HO852.out).2.2 | (with_reducible refine Kd.C_alloc ?_ _) | (with_reducible refine Kd.C_drewN ?_ _) | (with_reducible refine Kd.C_drew ?_))); (case side4 => exact (Kd.R_reads' HO852.out).2.1); rintro e w' ⟨rfl, ⟨nd, rfl⟩⟩; (try first | exact ⟨rfl, _, World.drewN_drewN _ _ _⟩ | exact ⟨rfl, _, Eq.trans (World.drewN_drewN _ _ _) (congrArg (World.drewN _) (Nat.add_assoc _ _ _))⟩)))
          repeat (go_quiet (first | (go_at_call 24; (with_reducible refine (laws_qxTexts.calls k _ _ t845 _ _ t849 false _ ?side1 ?side2 ?side3 ?side4 A13.out).mono ?_); (case side1 => repeat (first | exact (Kd.R_reads' HO848.out).2.2 | (with_reducible refine Kd.C_alloc ?_ _) | (with_reducible refine Kd.C_drewN ?_ _) | (with_reducible refine Kd.C_drew ?_))); (case side2 => exact (Kd.R_reads' HO848.out).2.1); (case side3 => repeat (first | exact (Kd.R_reads' HO852.out).2.2 | (with_reducible refine Kd.C_alloc ?_ _) | (with_reducible refine Kd.C_drewN ?_ _) | (with_reducible refine Kd.C_drew ?_))); (case side4 => exact (Kd.R_reads' HO852.out).2.1); rintro e w' ⟨rfl, ⟨nd, rfl⟩⟩; (try first | exact ⟨rfl, _, World.drewN_drewN _ _ _⟩ | exact ⟨rfl, _, Eq.trans (World.drewN_drewN _ _ _) (congrArg (World.drewN _) (Nat.add_assoc _ _ _))⟩))); try go_wp2_with (first | (go_at_call 24; (with_reducible refine (laws_qxTexts.calls k _ _ t845 _ _ t849 false _ ?side1 ?side2 ?side3 ?side4 A13.out).mono ?_); (case side1 => repeat (first | exact (Kd.R_reads' HO848.out).2.2 | (with_reducible refine Kd.C_alloc ?_ _) | (with_reducible refine Kd.C_drewN ?_ _) | (with_reducible refine Kd.C_drew ?_))); (case side2 => exact (Kd.R_reads' HO848.out).2.1); (case side3 => repeat (first | exact (Kd.R_reads' HO852.out).2.2 | (with_reducible refine Kd.C_alloc ?_ _) | (with_reducible refine Kd.C_drewN ?_ _) | (with_reducible refine Kd.C_drew ?_))); (case side4 => exact (Kd.R_reads' HO852.out).2.1); rintro e w' ⟨rfl, ⟨nd, rfl⟩⟩; (try first | exact ⟨rfl, _, World.drewN_drewN _ _ _⟩ | exact ⟨rfl, _, Eq.trans (World.drewN_drewN _ _ _) (congrArg (World.drewN _) (Nat.add_assoc _ _ _))⟩))))
          go_meet
          case rel => exact ⟨_, (true), (by first | rfl | (simp; done) | (simp [*]; done)), H', ⟨by first | omega | exact Nat.le_refl _⟩, ⟨by (with_reducible repeat (first | apply Kd.V_alloc | apply Kd.V_drewN | apply Kd.V_drew)); exact Kd.V_mono HO841.out (fun _ hk => ⟨hk.1.1, ⟨hk.1.2, hk.2⟩⟩)⟩, ⟨by (with_reducible repeat (first | apply Kd.R_alloc | apply Kd.R_drewN | apply Kd.R_drew)); exact Kd.R_mono HO844.out (fun _ hk => ⟨hk.1.2, hk.2⟩)⟩, ⟨by (with_reducible repeat (first | apply Kd.R_alloc | apply Kd.R_drewN | apply Kd.R_drew)); exact Kd.R_mono HO848.out (fun _ hk => ⟨hk.1.2, hk.2⟩)⟩, ⟨by (with_reducible repeat (first | apply Kd.R_alloc | apply Kd.R_drewN | apply Kd.R_drew)); exact Kd.R_mono HO852.out (fun _ hk => ⟨hk.1.2, hk.2⟩)⟩, ⟨by repeat (first | (with_reducible first | exact HB.out | apply below_alloc | apply pw_below_drewN | apply below_drew1) | exact HB.out | exact Below.refl _ _)⟩⟩
      · rw [if_neg c12] at H
        have c12b0 : (t846 == t850) = false := beq_eq_false_iff_ne.mpr c12
        have c12b1 : (t846 != t850) = true := bne_iff_ne.mpr c12
        (first | rw [c12b0] | (simp only [i64_w, i32_w]; rw [c12b0]) | skip)
        have H' := Aside0.mk H
        clear H
        go_wp2
        repeat (go_quiet (fail); try go_wp2)
        go_meet
        case rel => exact ⟨_, (true), (by first | rfl | (simp; done) | (simp [*]; done)), H', ⟨by first | omega | exact Nat.le_refl _⟩, ⟨by (with_reducible repeat (first | apply Kd.V_alloc | apply Kd.V_drewN | apply Kd.V_drew)); exact Kd.V_mono HO841.out (fun _ hk => ⟨hk.1.1, ⟨hk.1.2, hk.2⟩⟩)⟩, ⟨by (with_reducible repeat (first | apply Kd.R_alloc | apply Kd.R_drewN | apply Kd.R_drew)); exact Kd.R_mono HO844.out (fun _ hk => ⟨hk.1.2, hk.2⟩)⟩, ⟨by (with_reducible repeat (first | apply Kd.R_alloc | apply Kd.R_drewN | apply Kd.R_drew)); exact Kd.R_mono HO848.out (fun _ hk => ⟨hk.1.2, hk.2⟩)⟩, ⟨by (with_reducible repeat (first | apply Kd.R_alloc | apply Kd.R_drewN | apply Kd.R_drew)); exact Kd.R_mono HO852.out (fun _ hk => ⟨hk.1.2, hk.2⟩)⟩, ⟨by repeat (first | (with_reducible first | exact HB.out | apply below_alloc | apply pw_below_drewN | apply below_drew1) | exact HB.out | exact Below.refl _ _)⟩⟩
    case rest =>
      clear HC6
      try clear c1
      try clear c2
      try clear c2b0
      try clear c2b1
      try clear p2
      try clear c10
      try clear c12
      try clear c12b0
      try clear c12b1
      try clear c14
      obtain ⟨kq, x43_5, rfl, HA, HJ5, HO_3, HO_4, HO_5, HO_7, HB⟩ := hcut
      cases kq with
      | zero => exact absurd HA.out (by simp [laws_FnSetDrop.j0])
      | succ kj5 =>
        have H := HA.out
        clear HA
        simp only [laws_FnSetDrop.j0] at H
        by_cases c20 : x43_5 = true
        · subst c20
          have H1 : (if t846 = t850 then ((laws_qxTexts.f kj5 t845 t849).bind fun t855 => (some t855)) else (some false)) = some r := by rw [if_pos rfl] at H; exact H
          clear H
          have H := H1
          clear H1
          by_cases c21 : t846 = t850
          · rw [if_pos c21] at H
            have c21b0 : (t846 == t850) = true := beq_iff_eq.mpr c21
            have c21b1 : (t846 != t850) = false := bne_eq_false_iff_eq.mpr c21
            clear c21
            replace H := Option.bind_eq_some_iff.mp H
            obtain ⟨t855, A220, H⟩ := H
            replace H : (some t855) = some r := H
            have A22 := Aside0.mk A220
            clear A220
            obtain rfl := Option.some.inj H
            obtain ⟨Ao23, co23, eo23⟩ := Kd.R_slice HO_5.out
            subst eo23
            obtain ⟨Ao24, co24, eo24⟩ := Kd.R_slice HO_7.out
            subst eo24
            go_wp2_with (first | (go_at_call 24; (with_reducible refine (laws_qxTexts.calls kj5 _ _ t845 _ _ t849 t855 _ ?side1 ?side2 ?side3 ?side4 A22.out).mono ?_); (case side1 => repeat (first | exact (Kd.R_reads' HO_5.out).2.2 | (with_reducible refine Kd.C_alloc ?_ _) | (with_reducible refine Kd.C_drewN ?_ _) | (with_reducible refine Kd.C_drew ?_))); (case side2 => exact (Kd.R_reads' HO_5.out).2.1); (case side3 => repeat (first | exact (Kd.R_reads' HO_7.out).2.2 | (with_reducible refine Kd.C_alloc ?_ _) | (with_reducible refine Kd.C_drewN ?_ _) | (with_reducible refine Kd.C_drew ?_))); (case side4 => exact (Kd.R_reads' HO_7.out).2.1); rintro e w' ⟨rfl, ⟨nd, rfl⟩⟩; (try first | exact ⟨rfl, _, World.drewN_drewN _ _ _⟩ | exact ⟨rfl, _, Eq.trans (World.drewN_drewN _ _ _) (congrArg (World.drewN _) (Nat.add_assoc _ _ _))⟩)))
            repeat (go_quiet (first | (go_at_call 24; (with_reducible refine (laws_qxTexts.calls kj5 _ _ t845 _ _ t849 t855 _ ?side1 ?side2 ?side3 ?side4 A22.out).mono ?_); (case side1 => repeat (first | exact (Kd.R_reads' HO_5.out).2.2 | (with_reducible refine Kd.C_alloc ?_ _) | (with_reducible refine Kd.C_drewN ?_ _) | (with_reducible refine Kd.C_drew ?_))); (case side2 => exact (Kd.R_reads' HO_5.out).2.1); (case side3 => repeat (first | exact (Kd.R_reads' HO_7.out).2.2 | (with_reducible refine Kd.C_alloc ?_ _) | (with_reducible refine Kd.C_drewN ?_ _) | (with_reducible refine Kd.C_drew ?_))); (case side4 => exact (Kd.R_reads' HO_7.out).2.1); rintro e w' ⟨rfl, ⟨nd, rfl⟩⟩; (try first | exact ⟨rfl, _, World.drewN_drewN _ _ _⟩ | exact ⟨rfl, _, Eq.trans (World.drewN_drewN _ _ _) (congrArg (World.drewN _) (Nat.add_assoc _ _ _))⟩))); try go_wp2_with (first | (go_at_call 24; (with_reducible refine (laws_qxTexts.calls kj5 _ _ t845 _ _ t849 t855 _ ?side1 ?side2 ?side3 ?side4 A22.out).mono ?_); (case side1 => repeat (first | exact (Kd.R_reads' HO_5.out).2.2 | (with_reducible refine Kd.C_alloc ?_ _) | (with_reducible refine Kd.C_drewN ?_ _) | (with_reducible refine Kd.C_drew ?_))); (case side2 => exact (Kd.R_reads' HO_5.out).2.1); (case side3 => repeat (first | exact (Kd.R_reads' HO_7.out).2.2 | (with_reducible refine Kd.C_alloc ?_ _) | (with_reducible refine Kd.C_drewN ?_ _) | (with_reducible refine Kd.C_drew ?_))); (case side4 => exact (Kd.R_reads' HO_7.out).2.1); rintro e w' ⟨rfl, ⟨nd, rfl⟩⟩; (try first | exact ⟨rfl, _, World.drewN_drewN _ _ _⟩ | exact ⟨rfl, _, Eq.trans (World.drewN_drewN _ _ _) (congrArg (World.drewN _) (Nat.add_assoc _ _ _))⟩))))
            go_ret
            exact ⟨by first | rfl | (simp [errW_none, errW_some] <;> rfl) | (simp [*, errW_none, errW_some] <;> rfl), by repeat (first | (with_reducible first | exact HB.out | apply below_alloc | apply pw_below_drewN | apply below_drew1) | exact HB.out | exact Below.refl _ _)⟩
          · rw [if_neg c21] at H
            have c21b0 : (t846 == t850) = false := beq_eq_false_iff_ne.mpr c21
            have c21b1 : (t846 != t850) = true := bne_iff_ne.mpr c21
            obtain rfl := Option.some.inj H
            go_wp2
            repeat (go_quiet (fail); try go_wp2)
            go_ret
            exact ⟨by first | rfl | (simp [errW_none, errW_some] <;> rfl) | (simp [*, errW_none, errW_some] <;> rfl), by repeat (first | (with_reducible first | exact HB.out | apply below_alloc | apply pw_below_drewN | apply below_drew1) | exact HB.out | exact Below.refl _ _)⟩
        · replace c20 := Bool.eq_false_iff.mpr c20
          subst c20
          have H1 : (laws_FnSetDrop.l0 kj5 t839 t842 t845 t846 0) = some r := by rw [if_neg (show ¬ (false = true) by decide)] at H; exact H
          clear H
          have H := H1
          clear H1
          have H' := Aside0.mk H
          clear H
          go_wp2
          repeat (go_quiet (fail); try go_wp2)
          go_loopg [9] kj5 (fun kq v9 w' => ∃ (x9_2 : Int), v9 = .int .i64 x9_2 ∧ Aside0 (laws_FnSetDrop.l0 kq t839 t842 t845 t846 x9_2 = some r) ∧ Aside0 (kq ≤ kj5) ∧ Aside0 (Kd.V Kd.string 9 w' w.heap.size (fun k_ => some k_ ≠ ((.slice Ao9 t842.length co9) : Value).ownBlock ∧ some k_ ≠ (v847 : Value).ownBlock) (.slice Ao8 t839.length co8) t839) ∧ Aside0 (Kd.R Kd.string 9 w' w.heap.size (fun k_ => some k_ ≠ (v847 : Value).ownBlock) (.slice Ao9 t842.length co9) t842) ∧ Aside0 (Kd.R Kd.string 9 w' w.heap.size (fun k_ => some k_ ≠ ((.slice Ao9 t842.length co9) : Value).ownBlock) v847 t845) ∧ Aside0 (Below w.heap.size w w'))
          case atStart => exact ⟨(0), (by first | rfl | (simp; done) | (simp [*]; done)), H', ⟨Nat.le_refl _⟩, ⟨by (with_reducible repeat (first | apply Kd.V_alloc | apply Kd.V_drewN | apply Kd.V_drew)); exact Kd.V_mono HO_3.out (fun _ hk => ⟨hk.1, hk.2.1⟩)⟩, ⟨by (with_reducible repeat (first | apply Kd.R_alloc | apply Kd.R_drewN | apply Kd.R_drew)); exact Kd.R_mono HO_4.out (fun _ hk => hk.1)⟩, ⟨by (with_reducible repeat (first | apply Kd.R_alloc | apply Kd.R_drewN | apply Kd.R_drew)); exact Kd.R_mono HO_5.out (fun _ hk => hk.1)⟩, ⟨by repeat (first | (with_reducible first | exact HB.out | apply below_alloc | apply pw_below_drewN | apply below_drew1) | exact HB.out | exact Below.refl _ _)⟩⟩
          case round =>
            clear H'
            try clear c1
            try clear c2
            try clear c2b0
            try clear c2b1
            try clear p2
            try clear c10
            try clear c12
            try clear c12b0
            try clear c12b1
            try clear c14
            try clear c20
            try clear c21
            try clear c21b0
            try clear c21b1
            try clear p2
            obtain ⟨x9_2, rfl, HA, HK2, HO_3, HO_4, HO_5, HB⟩ := hrel
            cases gk with
            | zero => exact absurd HA.out (by simp [laws_FnSetDrop.l0])
            | succ k2 =>
              have H := HA.out
              clear HA
              simp only [laws_FnSetDrop.l0] at H
              by_cases c25 : x9_2 < (t839.length : Int)
              · rw [if_pos c25] at H
                have c25b0 : decide (x9_2 < (t839.length : Int)) = true := decide_eq_true c25
                clear c25
                by_cases c26 : 0 ≤ x9_2
                · rw [if_pos c26] at H
                  have c26b0 : decide (0 ≤ x9_2) = true := decide_eq_true c26
                  clear c26
                  replace H := Option.bind_eq_some_iff.mp H
                  obtain ⟨t858, A270, H⟩ := H
                  replace H : ((laws_qxHas.f k2 t842 (rdOf ByteArray.empty t839 x9_2)).bind fun t860 => (if (t858 == t860) = true then (some false) else (laws_FnSetDrop.l0 k2 t839 t842 t845 t846 (wrap64 (x9_2 + 1))))) = some r := H
                  have A27 := Aside0.mk A270
                  clear A270
                  replace H := Option.bind_eq_some_iff.mp H
                  obtain ⟨t860, A280, H⟩ := H
                  replace H : (if (t858 == t860) = true then (some false) else (laws_FnSetDrop.l0 k2 t839 t842 t845 t846 (wrap64 (x9_2 + 1)))) = some r := H
                  have A28 := Aside0.mk A280
                  clear A280
                  by_cases c29 : (t858 == t860) = true
                  · rw [if_pos c29] at H
                    have c29b0 : (t858 == t860) = true := c29
                    (try (have c29b1 : decide (t858 = t860) = true := by simpa using c29))
                    (try (have c29b2 : (t858 == t860) = true := by simpa using c29))
                    clear c29
                    obtain rfl := Option.some.inj H
                    have p857 : 0 ≤ (x9_2 : Int) := of_decide_eq_true (by first | (with_reducible assumption) | assumption)
                    have q857 : x9_2 < (t839.length : Int) := of_decide_eq_true (by first | (with_reducible assumption) | assumption)
                    obtain ⟨ad857, e857, hx857_0⟩ := Kd.at_string (Kd.V_reads' HO_3.out).2.2 x9_2 p857 q857
                    cases e857
                    replace p857 := eq_true p857
                    replace q857 := eq_true q857
                    obtain ⟨Ao30, co30, eo30⟩ := Kd.R_slice HO_5.out
                    subst eo30
                    go_wp2_with (first | (go_at_call 46; (with_reducible refine (laws_qxHas.calls k2 _ _ t845 (rdOf ByteArray.empty t839 x9_2) t858 _ ?side1 ?side2 A27.out).mono ?_); (case side1 => repeat (first | exact (Kd.R_reads' HO_5.out).2.2 | (with_reducible refine Kd.C_alloc ?_ _) | (with_reducible refine Kd.C_drewN ?_ _) | (with_reducible refine Kd.C_drew ?_))); (case side2 => exact (Kd.R_reads' HO_5.out).2.1); rintro e w' ⟨rfl, ⟨nd, rfl⟩⟩; (try first | exact ⟨rfl, _, World.drewN_drewN _ _ _⟩ | exact ⟨rfl, _, Eq.trans (World.drewN_drewN _ _ _) (congrArg (World.drewN _) (Nat.add_assoc _ _ _))⟩); have p859 : 0 ≤ (x9_2 : Int) := of_decide_eq_true (by first | (with_reducible assumption) | assumption); have q859 : x9_2 < (t839.length : Int) := of_decide_eq_true (by first | (with_reducible assumption) | assumption); obtain ⟨ad859, e859, hx859_0⟩ := Kd.at_string (Kd.V_reads' HO_3.out).2.2 x9_2 p859 q859; obtain rfl : ad857 = ad859 := (by injection e859); replace p859 := eq_true p859; replace q859 := eq_true q859) | (go_at_call 46; (with_reducible refine (laws_qxHas.calls k2 _ _ t842 (rdOf ByteArray.empty t839 x9_2) t860 _ ?side1 ?side2 A28.out).mono ?_); (case side1 => repeat (first | exact (Kd.R_reads' HO_4.out).2.2 | (with_reducible refine Kd.C_alloc ?_ _) | (with_reducible refine Kd.C_drewN ?_ _) | (with_reducible refine Kd.C_drew ?_))); (case side2 => exact (Kd.R_reads' HO_4.out).2.1); rintro e w' ⟨rfl, ⟨nd, rfl⟩⟩; (try first | exact ⟨rfl, _, World.drewN_drewN _ _ _⟩ | exact ⟨rfl, _, Eq.trans (World.drewN_drewN _ _ _) (congrArg (World.drewN _) (Nat.add_assoc _ _ _))⟩)))
                    repeat (go_quiet (first | (go_at_call 46; (with_reducible refine (laws_qxHas.calls k2 _ _ t845 (rdOf ByteArray.empty t839 x9_2) t858 _ ?side1 ?side2 A27.out).mono ?_); (case side1 => repeat (first | exact (Kd.R_reads' HO_5.out).2.2 | (with_reducible refine Kd.C_alloc ?_ _) | (with_reducible refine Kd.C_drewN ?_ _) | (with_reducible refine Kd.C_drew ?_))); (case side2 => exact (Kd.R_reads' HO_5.out).2.1); rintro e w' ⟨rfl, ⟨nd, rfl⟩⟩; (try first | exact ⟨rfl, _, World.drewN_drewN _ _ _⟩ | exact ⟨rfl, _, Eq.trans (World.drewN_drewN _ _ _) (congrArg (World.drewN _) (Nat.add_assoc _ _ _))⟩); have p859 : 0 ≤ (x9_2 : Int) := of_decide_eq_true (by first | (with_reducible assumption) | assumption); have q859 : x9_2 < (t839.length : Int) := of_decide_eq_true (by first | (with_reducible assumption) | assumption); obtain ⟨ad859, e859, hx859_0⟩ := Kd.at_string (Kd.V_reads' HO_3.out).2.2 x9_2 p859 q859; obtain rfl : ad857 = ad859 := (by injection e859); replace p859 := eq_true p859; replace q859 := eq_true q859) | (go_at_call 46; (with_reducible refine (laws_qxHas.calls k2 _ _ t842 (rdOf ByteArray.empty t839 x9_2) t860 _ ?side1 ?side2 A28.out).mono ?_); (case side1 => repeat (first | exact (Kd.R_reads' HO_4.out).2.2 | (with_reducible refine Kd.C_alloc ?_ _) | (with_reducible refine Kd.C_drewN ?_ _) | (with_reducible refine Kd.C_drew ?_))); (case side2 => exact (Kd.R_reads' HO_4.out).2.1); rintro e w' ⟨rfl, ⟨nd, rfl⟩⟩; (try first | exact ⟨rfl, _, World.drewN_drewN _ _ _⟩ | exact ⟨rfl, _, Eq.trans (World.drewN_drewN _ _ _) (congrArg (World.drewN _) (Nat.add_assoc _ _ _))⟩))); try go_wp2_with (first | (go_at_call 46; (with_reducible refine (laws_qxHas.calls k2 _ _ t845 (rdOf ByteArray.empty t839 x9_2) t858 _ ?side1 ?side2 A27.out).mono ?_); (case side1 => repeat (first | exact (Kd.R_reads' HO_5.out).2.2 | (with_reducible refine Kd.C_alloc ?_ _) | (with_reducible refine Kd.C_drewN ?_ _) | (with_reducible refine Kd.C_drew ?_))); (case side2 => exact (Kd.R_reads' HO_5.out).2.1); rintro e w' ⟨rfl, ⟨nd, rfl⟩⟩; (try first | exact ⟨rfl, _, World.drewN_drewN _ _ _⟩ | exact ⟨rfl, _, Eq.trans (World.drewN_drewN _ _ _) (congrArg (World.drewN _) (Nat.add_assoc _ _ _))⟩); have p859 : 0 ≤ (x9_2 : Int) := of_decide_eq_true (by first | (with_reducible assumption) | assumption); have q859 : x9_2 < (t839.length : Int) := of_decide_eq_true (by first | (with_reducible assumption) | assumption); obtain ⟨ad859, e859, hx859_0⟩ := Kd.at_string (Kd.V_reads' HO_3.out).2.2 x9_2 p859 q859; obtain rfl : ad857 = ad859 := (by injection e859); replace p859 := eq_true p859; replace q859 := eq_true q859) | (go_at_call 46; (with_reducible refine (laws_qxHas.calls k2 _ _ t842 (rdOf ByteArray.empty t839 x9_2) t860 _ ?side1 ?side2 A28.out).mono ?_); (case side1 => repeat (first | exact (Kd.R_reads' HO_4.out).2.2 | (with_reducible refine Kd.C_alloc ?_ _) | (with_reducible refine Kd.C_drewN ?_ _) | (with_reducible refine Kd.C_drew ?_))); (case side2 => exact (Kd.R_reads' HO_4.out).2.1); rintro e w' ⟨rfl, ⟨nd, rfl⟩⟩; (try first | exact ⟨rfl, _, World.drewN_drewN _ _ _⟩ | exact ⟨rfl, _, Eq.trans (World.drewN_drewN _ _ _) (congrArg (World.drewN _) (Nat.add_assoc _ _ _))⟩))))
                    go_ret
                    exact ⟨by first | rfl | (simp [errW_none, errW_some] <;> rfl) | (simp [*, errW_none, errW_some] <;> rfl), by repeat (first | (with_reducible first | exact HB.out | apply below_alloc | apply pw_below_drewN | apply below_drew1) | exact HB.out | exact Below.refl _ _)⟩
                  · rw [if_neg c29] at H
                    have c29b0 : (t858 == t860) = false := by simpa using c29
                    (try (have c29b1 : decide (t858 = t860) = false := by simpa using c29))
                    (try (have c29b2 : (t858 == t860) = false := by simpa using c29))
                    (try (have c29b3 : ¬ (t858 = t860) := by simpa using c29))
                    clear c29
                    have H' := Aside0.mk H
                    clear H
                    have p857 : 0 ≤ (x9_2 : Int) := of_decide_eq_true (by first | (with_reducible assumption) | assumption)
                    have q857 : x9_2 < (t839.length : Int) := of_decide_eq_true (by first | (with_reducible assumption) | assumption)
                    obtain ⟨ad857, e857, hx857_0⟩ := Kd.at_string (Kd.V_reads' HO_3.out).2.2 x9_2 p857 q857
                    cases e857
                    replace p857 := eq_true p857
                    replace q857 := eq_true q857
                    obtain ⟨Ao31, co31, eo31⟩ := Kd.R_slice HO_5.out
                    subst eo31
                    go_wp2_with (first | (go_at_call 46; (with_reducible refine (laws_qxHas.calls k2 _ _ t845 (rdOf ByteArray.empty t839 x9_2) t858 _ ?side1 ?side2 A27.out).mono ?_); (case side1 => repeat (first | exact (Kd.R_reads' HO_5.out).2.2 | (with_reducible refine Kd.C_alloc ?_ _) | (with_reducible refine Kd.C_drewN ?_ _) | (with_reducible refine Kd.C_drew ?_))); (case side2 => exact (Kd.R_reads' HO_5.out).2.1); rintro e w' ⟨rfl, ⟨nd, rfl⟩⟩; (try first | exact ⟨rfl, _, World.drewN_drewN _ _ _⟩ | exact ⟨rfl, _, Eq.trans (World.drewN_drewN _ _ _) (congrArg (World.drewN _) (Nat.add_assoc _ _ _))⟩); have p859 : 0 ≤ (x9_2 : Int) := of_decide_eq_true (by first | (with_reducible assumption) | assumption); have q859 : x9_2 < (t839.length : Int) := of_decide_eq_true (by first | (with_reducible assumption) | assumption); obtain ⟨ad859, e859, hx859_0⟩ := Kd.at_string (Kd.V_reads' HO_3.out).2.2 x9_2 p859 q859; obtain rfl : ad857 = ad859 := (by injection e859); replace p859 := eq_true p859; replace q859 := eq_true q859) | (go_at_call 46; (with_reducible refine (laws_qxHas.calls k2 _ _ t842 (rdOf ByteArray.empty t839 x9_2) t860 _ ?side1 ?side2 A28.out).mono ?_); (case side1 => repeat (first | exact (Kd.R_reads' HO_4.out).2.2 | (with_reducible refine Kd.C_alloc ?_ _) | (with_reducible refine Kd.C_drewN ?_ _) | (with_reducible refine Kd.C_drew ?_))); (case side2 => exact (Kd.R_reads' HO_4.out).2.1); rintro e w' ⟨rfl, ⟨nd, rfl⟩⟩; (try first | exact ⟨rfl, _, World.drewN_drewN _ _ _⟩ | exact ⟨rfl, _, Eq.trans (World.drewN_drewN _ _ _) (congrArg (World.drewN _) (Nat.add_assoc _ _ _))⟩)))
                    repeat (go_quiet (first | (go_at_call 46; (with_reducible refine (laws_qxHas.calls k2 _ _ t845 (rdOf ByteArray.empty t839 x9_2) t858 _ ?side1 ?side2 A27.out).mono ?_); (case side1 => repeat (first | exact (Kd.R_reads' HO_5.out).2.2 | (with_reducible refine Kd.C_alloc ?_ _) | (with_reducible refine Kd.C_drewN ?_ _) | (with_reducible refine Kd.C_drew ?_))); (case side2 => exact (Kd.R_reads' HO_5.out).2.1); rintro e w' ⟨rfl, ⟨nd, rfl⟩⟩; (try first | exact ⟨rfl, _, World.drewN_drewN _ _ _⟩ | exact ⟨rfl, _, Eq.trans (World.drewN_drewN _ _ _) (congrArg (World.drewN _) (Nat.add_assoc _ _ _))⟩); have p859 : 0 ≤ (x9_2 : Int) := of_decide_eq_true (by first | (with_reducible assumption) | assumption); have q859 : x9_2 < (t839.length : Int) := of_decide_eq_true (by first | (with_reducible assumption) | assumption); obtain ⟨ad859, e859, hx859_0⟩ := Kd.at_string (Kd.V_reads' HO_3.out).2.2 x9_2 p859 q859; obtain rfl : ad857 = ad859 := (by injection e859); replace p859 := eq_true p859; replace q859 := eq_true q859) | (go_at_call 46; (with_reducible refine (laws_qxHas.calls k2 _ _ t842 (rdOf ByteArray.empty t839 x9_2) t860 _ ?side1 ?side2 A28.out).mono ?_); (case side1 => repeat (first | exact (Kd.R_reads' HO_4.out).2.2 | (with_reducible refine Kd.C_alloc ?_ _) | (with_reducible refine Kd.C_drewN ?_ _) | (with_reducible refine Kd.C_drew ?_))); (case side2 => exact (Kd.R_reads' HO_4.out).2.1); rintro e w' ⟨rfl, ⟨nd, rfl⟩⟩; (try first | exact ⟨rfl, _, World.drewN_drewN _ _ _⟩ | exact ⟨rfl, _, Eq.trans (World.drewN_drewN _ _ _) (congrArg (World.drewN _) (Nat.add_assoc _ _ _))⟩))); try go_wp2_with (first | (go_at_call 46; (with_reducible refine (laws_qxHas.calls k2 _ _ t845 (rdOf ByteArray.empty t839 x9_2) t858 _ ?side1 ?side2 A27.out).mono ?_); (case side1 => repeat (first | exact (Kd.R_reads' HO_5.out).2.2 | (with_reducible refine Kd.C_alloc ?_ _) | (with_reducible refine Kd.C_drewN ?_ _) | (with_reducible refine Kd.C_drew ?_))); (case side2 => exact (Kd.R_reads' HO_5.out).2.1); rintro e w' ⟨rfl, ⟨nd, rfl⟩⟩; (try first | exact ⟨rfl, _, World.drewN_drewN _ _ _⟩ | exact ⟨rfl, _, Eq.trans (World.drewN_drewN _ _ _) (congrArg (World.drewN _) (Nat.add_assoc _ _ _))⟩); have p859 : 0 ≤ (x9_2 : Int) := of_decide_eq_true (by first | (with_reducible assumption) | assumption); have q859 : x9_2 < (t839.length : Int) := of_decide_eq_true (by first | (with_reducible assumption) | assumption); obtain ⟨ad859, e859, hx859_0⟩ := Kd.at_string (Kd.V_reads' HO_3.out).2.2 x9_2 p859 q859; obtain rfl : ad857 = ad859 := (by injection e859); replace p859 := eq_true p859; replace q859 := eq_true q859) | (go_at_call 46; (with_reducible refine (laws_qxHas.calls k2 _ _ t842 (rdOf ByteArray.empty t839 x9_2) t860 _ ?side1 ?side2 A28.out).mono ?_); (case side1 => repeat (first | exact (Kd.R_reads' HO_4.out).2.2 | (with_reducible refine Kd.C_alloc ?_ _) | (with_reducible refine Kd.C_drewN ?_ _) | (with_reducible refine Kd.C_drew ?_))); (case side2 => exact (Kd.R_reads' HO_4.out).2.1); rintro e w' ⟨rfl, ⟨nd, rfl⟩⟩; (try first | exact ⟨rfl, _, World.drewN_drewN _ _ _⟩ | exact ⟨rfl, _, Eq.trans (World.drewN_drewN _ _ _) (congrArg (World.drewN _) (Nat.add_assoc _ _ _))⟩))))
                    go_roundg k2
                    case measure => have := HJ5.out; have := HK2.out; omega
                    case rel => exact ⟨(wrap64 (x9_2 + 1)), (by first | rfl | (simp; done) | (simp [*]; done)), H', ⟨by have := HJ5.out; have := HK2.out; omega⟩, ⟨by (with_reducible repeat (first | apply Kd.V_alloc | apply Kd.V_drewN | apply Kd.V_drew)); exact HO_3.out⟩, ⟨by (with_reducible repeat (first | apply Kd.R_alloc | apply Kd.R_drewN | apply Kd.R_drew)); exact HO_4.out⟩, ⟨by (with_reducible repeat (first | apply Kd.R_alloc | apply Kd.R_drewN | apply Kd.R_drew)); exact HO_5.out⟩, ⟨by repeat (first | (with_reducible first | exact HB.out | apply below_alloc | apply pw_below_drewN | apply below_drew1) | exact HB.out | exact Below.refl _ _)⟩⟩
                · rw [if_neg c26] at H
                  exact absurd H (by simp)
              · rw [if_neg c25] at H
                have c25b0 : decide (x9_2 < (t839.length : Int)) = false := decide_eq_false c25
                clear c25
                replace H := Option.bind_eq_some_iff.mp H
                obtain ⟨t856, A320, H⟩ := H
                replace H : (if t856 = true then (some ((wrap64 ((t845.length : Int) + t846)) == (t839.length : Int))) else (some false)) = some r := H
                have A32 := Aside0.mk A320
                clear A320
                by_cases c33 : t856 = true
                · subst c33
                  have H1 : (some ((wrap64 ((t845.length : Int) + t846)) == (t839.length : Int))) = some r := by rw [if_pos rfl] at H; exact H
                  clear H
                  have H := H1
                  clear H1
                  obtain rfl := Option.some.inj H
                  obtain ⟨Ao34, co34, eo34⟩ := Kd.R_slice HO_5.out
                  subst eo34
                  go_wp2_with (first | (go_at_call 47; (with_reducible refine (impl_SetOk.calls k2 _ _ t845 true _ ?side1 ?side2 A32.out).mono ?_); (case side1 => repeat (first | exact (Kd.R_reads' HO_5.out).2.2 | (with_reducible refine Kd.C_alloc ?_ _) | (with_reducible refine Kd.C_drewN ?_ _) | (with_reducible refine Kd.C_drew ?_))); (case side2 => exact (Kd.R_reads' HO_5.out).2.1); rintro e w' ⟨rfl, ⟨nd, rfl⟩⟩; (try first | exact ⟨rfl, _, World.drewN_drewN _ _ _⟩ | exact ⟨rfl, _, Eq.trans (World.drewN_drewN _ _ _) (congrArg (World.drewN _) (Nat.add_assoc _ _ _))⟩)))
                  repeat (go_quiet (first | (go_at_call 47; (with_reducible refine (impl_SetOk.calls k2 _ _ t845 true _ ?side1 ?side2 A32.out).mono ?_); (case side1 => repeat (first | exact (Kd.R_reads' HO_5.out).2.2 | (with_reducible refine Kd.C_alloc ?_ _) | (with_reducible refine Kd.C_drewN ?_ _) | (with_reducible refine Kd.C_drew ?_))); (case side2 => exact (Kd.R_reads' HO_5.out).2.1); rintro e w' ⟨rfl, ⟨nd, rfl⟩⟩; (try first | exact ⟨rfl, _, World.drewN_drewN _ _ _⟩ | exact ⟨rfl, _, Eq.trans (World.drewN_drewN _ _ _) (congrArg (World.drewN _) (Nat.add_assoc _ _ _))⟩))); try go_wp2_with (first | (go_at_call 47; (with_reducible refine (impl_SetOk.calls k2 _ _ t845 true _ ?side1 ?side2 A32.out).mono ?_); (case side1 => repeat (first | exact (Kd.R_reads' HO_5.out).2.2 | (with_reducible refine Kd.C_alloc ?_ _) | (with_reducible refine Kd.C_drewN ?_ _) | (with_reducible refine Kd.C_drew ?_))); (case side2 => exact (Kd.R_reads' HO_5.out).2.1); rintro e w' ⟨rfl, ⟨nd, rfl⟩⟩; (try first | exact ⟨rfl, _, World.drewN_drewN _ _ _⟩ | exact ⟨rfl, _, Eq.trans (World.drewN_drewN _ _ _) (congrArg (World.drewN _) (Nat.add_assoc _ _ _))⟩))))
                  go_ret
                  exact ⟨by first | rfl | (simp [errW_none, errW_some] <;> rfl) | (simp [*, errW_none, errW_some] <;> rfl), by repeat (first | (with_reducible first | exact HB.out | apply below_alloc | apply pw_below_drewN | apply below_drew1) | exact HB.out | exact Below.refl _ _)⟩
                · replace c33 := Bool.eq_false_iff.mpr c33
                  subst c33
                  have H1 : (some false) = some r := by rw [if_neg (show ¬ (false = true) by decide)] at H; exact H
                  clear H
                  have H := H1
                  clear H1
                  obtain rfl := Option.some.inj H
                  obtain ⟨Ao35, co35, eo35⟩ := Kd.R_slice HO_5.out
                  subst eo35
                  go_wp2_with (first | (go_at_call 47; (with_reducible refine (impl_SetOk.calls k2 _ _ t845 false _ ?side1 ?side2 A32.out).mono ?_); (case side1 => repeat (first | exact (Kd.R_reads' HO_5.out).2.2 | (with_reducible refine Kd.C_alloc ?_ _) | (with_reducible refine Kd.C_drewN ?_ _) | (with_reducible refine Kd.C_drew ?_))); (case side2 => exact (Kd.R_reads' HO_5.out).2.1); rintro e w' ⟨rfl, ⟨nd, rfl⟩⟩; (try first | exact ⟨rfl, _, World.drewN_drewN _ _ _⟩ | exact ⟨rfl, _, Eq.trans (World.drewN_drewN _ _ _) (congrArg (World.drewN _) (Nat.add_assoc _ _ _))⟩)))
                  repeat (go_quiet (first | (go_at_call 47; (with_reducible refine (impl_SetOk.calls k2 _ _ t845 false _ ?side1 ?side2 A32.out).mono ?_); (case side1 => repeat (first | exact (Kd.R_reads' HO_5.out).2.2 | (with_reducible refine Kd.C_alloc ?_ _) | (with_reducible refine Kd.C_drewN ?_ _) | (with_reducible refine Kd.C_drew ?_))); (case side2 => exact (Kd.R_reads' HO_5.out).2.1); rintro e w' ⟨rfl, ⟨nd, rfl⟩⟩; (try first | exact ⟨rfl, _, World.drewN_drewN _ _ _⟩ | exact ⟨rfl, _, Eq.trans (World.drewN_drewN _ _ _) (congrArg (World.drewN _) (Nat.add_assoc _ _ _))⟩))); try go_wp2_with (first | (go_at_call 47; (with_reducible refine (impl_SetOk.calls k2 _ _ t845 false _ ?side1 ?side2 A32.out).mono ?_); (case side1 => repeat (first | exact (Kd.R_reads' HO_5.out).2.2 | (with_reducible refine Kd.C_alloc ?_ _) | (with_reducible refine Kd.C_drewN ?_ _) | (with_reducible refine Kd.C_drew ?_))); (case side2 => exact (Kd.R_reads' HO_5.out).2.1); rintro e w' ⟨rfl, ⟨nd, rfl⟩⟩; (try first | exact ⟨rfl, _, World.drewN_drewN _ _ _⟩ | exact ⟨rfl, _, Eq.trans (World.drewN_drewN _ _ _) (congrArg (World.drewN _) (Nat.add_assoc _ _ _))⟩))))
                  go_ret
                  exact ⟨by first | rfl | (simp [errW_none, errW_some] <;> rfl) | (simp [*, errW_none, errW_some] <;> rfl), by repeat (first | (with_reducible first | exact HB.out | apply below_alloc | apply pw_below_drewN | apply below_drew1) | exact HB.out | exact Below.refl _ _)⟩

/-- THE ONE PURE STATEMENT of laws_FnSetDrop: yours. -/
def laws_FnSetDrop.Pure : Prop := ∀ (l0 : List Int), l0.length ≤ maxLen → l0.length * 1 ≤ 140737488351232 → (∀ x ∈ l0, (Lit.int .u8 x).wf = true) → ∃ k, laws_FnSetDrop.f k l0 = some true
theorem laws_FnSetDrop.walk (P : laws_FnSetDrop.Pure) (a0 : Option Addr) (len0 cap0 : Nat) (z0 : List Int) (w : World) (w0 : (a0 = none ∧ len0 = 0 ∧ cap0 = 0 ∧ z0 = []) ∨ ∃ x, a0 = some x ∧ len0 ≤ cap0 ∧ cap0 ≤ maxLen ∧ z0.length = cap0 ∧ (∀ i, i < z0.length → w.cell? (x.add i) = some (.int .u8 (z0.getD i 0))) ∧ ∀ n ∈ z0, (Lit.int .u8 n).wf = true) (y0 : len0 * 1 ≤ 140737488351232) :
    Calls Try.prog 10 #[.slice a0 len0 cap0] w fun e w' => e = .returned (.bool true) ∧ Below w.heap.size w w' := by
  obtain ⟨l0, rfl, hr0, hm0, hw0, hc0⟩ := ReadsInt.ofRowC w0
  obtain ⟨k, h⟩ := P l0 hm0 y0 hw0
  refine (laws_FnSetDrop.calls k _ _ l0 true w (Kd.C_of_reads (d := (0 : Int)) (h1 := fun _ => rfl) hr0) hc0 h).mono ?_
  rintro e w' ⟨rfl, hd⟩
  exact ⟨rfl, hd⟩

end Go.Proofs.Ytcdiokflmambiaa.P
/- Plain lemmas: the bytewise order of texts. No program in sight. -/
namespace Go.Proofs.Ytcdiokflmambiaa.Q
open Go.RowKit Go.Proofs.YtcdiokflmambiaaW.PrintWords Go.Proofs.YtcdiokflmambiaaW.PrintLast

theorem bl_irrefl (a : List UInt8) : Op.bytesLess a a = false := by
  induction a with
  | nil => rfl
  | cons x r ih => simp [Op.bytesLess, ih]
theorem bl_trans (a : List UInt8) : ∀ (b c : List UInt8), Op.bytesLess a b = true → Op.bytesLess b c = true → Op.bytesLess a c = true := by
  induction a with
  | nil =>
    intro b c h1 h2
    cases c with
    | nil => cases b <;> simp [Op.bytesLess] at h2
    | cons z c => rfl
  | cons x a ih =>
    intro b c h1 h2
    cases b with
    | nil => simp [Op.bytesLess] at h1
    | cons y b =>
      cases c with
      | nil => simp [Op.bytesLess] at h2
      | cons z c =>
        simp only [Op.bytesLess, Bool.or_eq_true, Bool.and_eq_true, decide_eq_true_eq, beq_iff_eq] at h1 h2 ⊢
        rcases h1 with h1 | ⟨rfl, h1⟩
        · rcases h2 with h2 | ⟨rfl, h2⟩
          · exact .inl (UInt8.lt_trans h1 h2)
          · exact .inl h1
        · rcases h2 with h2 | ⟨rfl, h2⟩
          · exact .inl h2
          · exact .inr ⟨rfl, ih b c h1 h2⟩
theorem bl_tri (a : List UInt8) : ∀ (b : List UInt8), Op.bytesLess a b = true ∨ a = b ∨ Op.bytesLess b a = true := by
  induction a with
  | nil =>
    intro b
    cases b with
    | nil => exact .inr (.inl rfl)
    | cons y b => exact .inl rfl
  | cons x a ih =>
    intro b
    cases b with
    | nil => exact .inr (.inr rfl)
    | cons y b =>
      simp only [Op.bytesLess, Bool.or_eq_true, Bool.and_eq_true, decide_eq_true_eq, beq_iff_eq]
      by_cases h : x < y
      · exact .inl (.inl h)
      · by_cases h' : y < x
        · exact .inr (.inr (.inl h'))
        · obtain rfl : x = y := UInt8.le_antisymm (UInt8.not_lt.1 h') (UInt8.not_lt.1 h)
          rcases ih b with h | rfl | h
          · exact .inl (.inr ⟨rfl, h⟩)
          · exact .inr (.inl rfl)
          · exact .inr (.inr (.inr ⟨rfl, h⟩))
/-- Bytewise less. -/
def lt (a b : ByteArray) : Bool := Op.bytesLess a.toList b.toList
theorem lt_irrefl (a : ByteArray) : lt a a = false := bl_irrefl _
theorem lt_trans {a b c : ByteArray} (h : lt a b = true) (h' : lt b c = true) : lt a c = true := bl_trans _ _ _ h h'
theorem lt_tri (a b : ByteArray) : lt a b = true ∨ a = b ∨ lt b a = true := by
  rcases bl_tri a.toList b.toList with h | h | h
  · exact .inl h
  · exact .inr (.inl (toList_inj h))
  · exact .inr (.inr h)
theorem lt_ne {a b : ByteArray} (h : lt a b = true) : a ≠ b := fun e => by rw [e, lt_irrefl] at h; cases h
theorem lt_asymm {a b : ByteArray} (h : lt a b = true) : lt b a = false := by
  cases h' : lt b a with
  | false => rfl
  | true => have := lt_trans h h'; rw [lt_irrefl] at this; cases this
end Go.Proofs.Ytcdiokflmambiaa.Q
/- Plain lemmas on sets: both sides say 'ascending, and texts are ok'. -/
namespace Go.Proofs.Ytcdiokflmambiaa.Q
open Go.RowKit Go.Proofs.YtcdiokflmambiaaW.PrintWords Go.Proofs.YtcdiokflmambiaaW.PrintLast Go.Proofs.Ytcdiokflmambiaa.P

/-- Strictly ascending. -/
def ascB : List ByteArray → Bool
  | a :: b :: r => lt a b && ascB (b :: r)
  | _ => true
/-- A set. -/
def setB (l : List ByteArray) : Bool := ascB l && textsB l 16
theorem spec_SetOk_l0 (l : List ByteArray) (hl : l.length ≤ maxLen) (d : Nat) : ∀ (j : Nat), j + 1 + d = l.length → Ev (fun k => spec_SetOk.l0 k l ((j : Int) + 1)) (ascB (l.drop j) && textsB l 16) := by
  have hl' := hl
  unfold maxLen at hl'
  induction d with
  | zero =>
    intro j hj
    refine Ev.step (fun k => by rw [spec_SetOk.l0]) (neg (by omega) ?_)
    rw [List.drop_eq_getElem_cons (by omega : j < l.length), List.drop_of_length_le (by omega)]
    exact Ev.bind (l2Texts_ev l hl) (ret' (by simp [ascB]))
  | succ d ih =>
    intro j hj
    have h1 : j < l.length := by omega
    have h2 : j + 1 < l.length := by omega
    have e : (j : Int) + 1 = ((j + 1 : Nat) : Int) := by omega
    refine Ev.step (fun k => by rw [spec_SetOk.l0]) (pos (by omega) ?_)
    rw [wrap_id (x := (j : Int) + 1 - 1) (by omega) (by omega), show (j : Int) + 1 - 1 = (j : Int) by omega]
    refine pos (by omega) (pos (by omega) (pos (by omega) ?_))
    rw [rdOf_lt _ _ _ h1, e, rdOf_lt _ _ _ h2, wrap_id (by omega) (by omega)]
    have hd : l.drop j = l[j] :: l[j + 1] :: l.drop (j + 2) := by rw [List.drop_eq_getElem_cons h1, List.drop_eq_getElem_cons h2]
    have hd1 : l.drop (j + 1) = l[j + 1] :: l.drop (j + 2) := List.drop_eq_getElem_cons h2
    rw [hd]
    refine both (fun h => ?_) (fun h => ret' ?_)
    · have := ih (j + 1) (by omega)
      rw [hd1] at this
      refine of_eq this ?_
      show _ = (lt l[j] l[j + 1] && ascB (l[j + 1] :: l.drop (j + 2)) && textsB l 16)
      rw [show lt l[j] l[j + 1] = true from h, Bool.true_and]
    · show false = (lt l[j] l[j + 1] && ascB (l[j + 1] :: l.drop (j + 2)) && textsB l 16)
      rw [show lt l[j] l[j + 1] = false from Bool.eq_false_iff.2 h, Bool.false_and, Bool.false_and]
theorem spec_SetOk_ev (l : List ByteArray) (hl : l.length ≤ maxLen) : Ev (fun k => spec_SetOk.f k l) (setB l) := by
  unfold spec_SetOk.f setB
  by_cases h : l.length = 0
  · obtain rfl : l = [] := List.length_eq_zero_iff.1 h
    refine Ev.step (fun k => by rw [spec_SetOk.l0]) (neg (by simp) ?_)
    exact Ev.bind (l2Texts_ev [] (by simp)) (ret' (by simp [ascB]))
  · exact spec_SetOk_l0 l hl (l.length - 1) 0 (by omega)
theorem impl_SetOk_l0 (l : List ByteArray) (hl : l.length ≤ maxLen) (d : Nat) : ∀ (j : Nat), j + 1 + d = l.length → Ev (fun k => impl_SetOk.l0 k l ((j : Int) + 1)) (ascB (l.drop j) && textsB l 16) := by
  have hl' := hl
  unfold maxLen at hl'
  induction d with
  | zero =>
    intro j hj
    refine Ev.step (fun k => by rw [impl_SetOk.l0]) (neg (by omega) ?_)
    rw [List.drop_eq_getElem_cons (by omega : j < l.length), List.drop_of_length_le (by omega)]
    exact Ev.bind (listOk_ev l hl) (ret' (by simp [ascB]))
  | succ d ih =>
    intro j hj
    have h1 : j < l.length := by omega
    have h2 : j + 1 < l.length := by omega
    have e : (j : Int) + 1 = ((j + 1 : Nat) : Int) := by omega
    refine Ev.step (fun k => by rw [impl_SetOk.l0]) (pos (by omega) ?_)
    rw [wrap_id (x := (j : Int) + 1 - 1) (by omega) (by omega), show (j : Int) + 1 - 1 = (j : Int) by omega]
    refine pos (by omega) (pos (by omega) (pos (by omega) ?_))
    rw [rdOf_lt _ _ _ h1, e, rdOf_lt _ _ _ h2, wrap_id (by omega) (by omega)]
    have hd : l.drop j = l[j] :: l[j + 1] :: l.drop (j + 2) := by rw [List.drop_eq_getElem_cons h1, List.drop_eq_getElem_cons h2]
    have hd1 : l.drop (j + 1) = l[j + 1] :: l.drop (j + 2) := List.drop_eq_getElem_cons h2
    rw [hd]
    refine both (fun h => ?_) (fun h => ret' ?_)
    · have := ih (j + 1) (by omega)
      rw [hd1] at this
      refine of_eq this ?_
      show _ = (lt l[j] l[j + 1] && ascB (l[j + 1] :: l.drop (j + 2)) && textsB l 16)
      rw [show lt l[j] l[j + 1] = true from h, Bool.true_and]
    · show false = (lt l[j] l[j + 1] && ascB (l[j + 1] :: l.drop (j + 2)) && textsB l 16)
      rw [show lt l[j] l[j + 1] = false from Bool.eq_false_iff.2 h, Bool.false_and, Bool.false_and]
theorem impl_SetOk_ev (l : List ByteArray) (hl : l.length ≤ maxLen) : Ev (fun k => impl_SetOk.f k l) (setB l) := by
  unfold impl_SetOk.f setB
  by_cases h : l.length = 0
  · obtain rfl : l = [] := List.length_eq_zero_iff.1 h
    refine Ev.step (fun k => by rw [impl_SetOk.l0]) (neg (by simp) ?_)
    exact Ev.bind (listOk_ev [] (by simp)) (ret' (by simp [ascB]))
  · exact impl_SetOk_l0 l hl (l.length - 1) 0 (by omega)
end Go.Proofs.Ytcdiokflmambiaa.Q
/- Plain lemmas: what of a list is in another one, or is not, on both sides. -/
namespace Go.Proofs.Ytcdiokflmambiaa.Q
open Go.RowKit Go.Proofs.YtcdiokflmambiaaW.PrintWords Go.Proofs.YtcdiokflmambiaaW.PrintLast Go.Proofs.Ytcdiokflmambiaa.P

def hasB (l : List ByteArray) (s : ByteArray) : Bool := l.any (fun x => decide (x = s))
theorem toList_iff {a b : ByteArray} : a.toList = b.toList ↔ a = b := ⟨toList_inj, fun h => by rw [h]⟩
theorem l2Has_l0 (l : List ByteArray) (hl : l.length ≤ maxLen) (s : ByteArray) (d : Nat) : ∀ (i : Nat), i + d = l.length → Ev (fun k => spec_l2Has.l0 k l s (i : Int)) (hasB (l.drop i) s) := by
  unfold maxLen at hl
  induction d with
  | zero =>
    intro i hi
    refine Ev.step (g := fun k => spec_l2Has.l0 k _ _ _) (fun k => by rw [spec_l2Has.l0]) (neg (by omega) (ret' ?_))
    rw [List.drop_of_length_le (by omega)]
    rfl
  | succ d ih =>
    intro i hi
    have hlt : i < l.length := by omega
    refine Ev.step (g := fun k => spec_l2Has.l0 k _ _ _) (fun k => by rw [spec_l2Has.l0]) (pos (by omega) (pos (by omega) ?_))
    rw [rdOf_lt _ _ _ hlt, List.drop_eq_getElem_cons hlt, wrap_id (by omega) (by omega)]
    refine both (fun h => ret' ?_) (fun h => ?_)
    · simp [hasB, toList_iff.1 h]
    · have : l[i] ≠ s := fun e => h (by rw [e])
      refine of_eq (ih (i + 1) (by omega)) ?_
      show _ = (decide (l[i] = s) || hasB (l.drop (i + 1)) s)
      rw [decide_eq_false this, Bool.false_or]
theorem l2Has_ev (l : List ByteArray) (hl : l.length ≤ maxLen) (s : ByteArray) : Ev (fun k => spec_l2Has.f k l s) (hasB l s) := l2Has_l0 l hl s l.length 0 (by omega)
theorem Index_l0 (l : List ByteArray) (hl : l.length ≤ maxLen) (s : ByteArray) (d : Nat) : ∀ (i : Nat), i + d = l.length →
    ∃ r, Ev (fun k => slices_Index_string_string.l0 k l s (l.length : Int) (i : Int)) r ∧ decide (r ≥ 0) = hasB (l.drop i) s := by
  unfold maxLen at hl
  induction d with
  | zero =>
    intro i hi
    refine ⟨-1, Ev.step (g := fun k => slices_Index_string_string.l0 k _ _ _ _) (fun k => by rw [slices_Index_string_string.l0]) (neg (by omega) (ret _)), ?_⟩
    rw [List.drop_of_length_le (by omega)]
    rfl
  | succ d ih =>
    intro i hi
    have hlt : i < l.length := by omega
    by_cases h : l[i] = s
    · refine ⟨i, Ev.step (g := fun k => slices_Index_string_string.l0 k _ _ _ _) (fun k => by rw [slices_Index_string_string.l0]) (pos (by omega) (pos (by omega) (pos (by omega) ?_))), ?_⟩
      · rw [rdOf_lt _ _ _ hlt]
        exact pos (by rw [h]) (ret _)
      · rw [List.drop_eq_getElem_cons hlt]
        simp [hasB, h]
    · obtain ⟨r, hr, he⟩ := ih (i + 1) (by omega)
      refine ⟨r, Ev.step (g := fun k => slices_Index_string_string.l0 k _ _ _ _) (fun k => by rw [slices_Index_string_string.l0]) (pos (by omega) (pos (by omega) (pos (by omega) ?_))), ?_⟩
      · rw [rdOf_lt _ _ _ hlt, wrap_id (by omega) (by omega)]
        exact neg (fun e => h (toList_iff.1 e.symm)) hr
      · rw [List.drop_eq_getElem_cons hlt, he]
        show _ = (decide (l[i] = s) || hasB (l.drop (i + 1)) s)
        rw [decide_eq_false h, Bool.false_or]
theorem Contains_ev (l : List ByteArray) (hl : l.length ≤ maxLen) (s : ByteArray) : Ev (fun k => slices_Contains_string_string.f k l s) (hasB l s) := by
  obtain ⟨r, hr, he⟩ := Index_l0 l hl s l.length 0 (by omega)
  unfold slices_Contains_string_string.f
  exact Ev.bind hr (ret' he)
/-- Of a list what is in another one, or is not. -/
def chosenM (l o : List ByteArray) (b : Bool) : List ByteArray := l.filter (fun s => hasB o s == b)
theorem chosenM_cons (a : ByteArray) (l o : List ByteArray) (b : Bool) : chosenM (a :: l) o b = if (hasB o a == b) = true then a :: chosenM l o b else chosenM l o b := by simp [chosenM, List.filter_cons]
theorem chosen_l0 (l o : List ByteArray) (b : Bool) (hl : l.length ≤ 1048576) (ho : o.length ≤ maxLen) (d : Nat) : ∀ (i : Nat) (x : List ByteArray), i + d = l.length → x.length ≤ i →
    Ev (fun k => impl_chosen.l0 k o b x l (l.length : Int) (i : Int)) (x ++ chosenM (l.drop i) o b) := by
  induction d with
  | zero =>
    intro i x hi hx
    refine Ev.step (g := fun k => impl_chosen.l0 k _ _ _ _ _ _) (fun k => by rw [impl_chosen.l0]) (neg (by omega) (ret' ?_))
    rw [List.drop_of_length_le (by omega)]
    simp [chosenM]
  | succ d ih =>
    intro i x hi hx
    have hlt : i < l.length := by omega
    refine Ev.step (g := fun k => impl_chosen.l0 k _ _ _ _ _ _) (fun k => by rw [impl_chosen.l0]) (pos (by omega) (pos (by omega) (pos (by omega) ?_)))
    rw [rdOf_lt _ _ _ hlt, wrap_id (by omega) (by omega)]
    refine Ev.bind (Contains_ev o ho _) ?_
    rw [List.drop_eq_getElem_cons hlt]
    refine both (fun h => ?_) (fun h => ?_)
    · refine pos (by omega) (of_eq (ih (i + 1) _ (by omega) (by simp; omega)) ?_)
      rw [chosenM_cons, if_pos h, List.append_assoc, List.singleton_append]
    · refine of_eq (ih (i + 1) _ (by omega) (by omega)) ?_
      rw [chosenM_cons, if_neg h]
theorem chosen_ev (l o : List ByteArray) (b : Bool) (hl : l.length ≤ 1048576) (ho : o.length ≤ maxLen) : Ev (fun k => impl_chosen.f k l o b) (chosenM l o b) := by
  have := chosen_l0 l o b hl ho l.length 0 [] (by omega) (by simp)
  simpa [impl_chosen.f] using this
theorem chosenM_len (l o : List ByteArray) (b : Bool) : (chosenM l o b).length ≤ l.length := List.length_filter_le _ _
end Go.Proofs.Ytcdiokflmambiaa.Q
/- Plain lemmas: the drawing of sets; a text held against a list. -/
namespace Go.Proofs.Ytcdiokflmambiaa.Q
open Go.RowKit Go.Proofs.YtcdiokflmambiaaW.PrintWords Go.Proofs.YtcdiokflmambiaaW.PrintLast Go.Proofs.Ytcdiokflmambiaa.P

/-- A text put into a list at its place. -/
def putM (t : ByteArray) : List ByteArray → List ByteArray
  | [] => [t]
  | x :: r => if lt x t = true then x :: putM t r else if x = t then x :: r else t :: x :: r
theorem l2Put_l0 (l : List ByteArray) (hl : l.length ≤ 1048576) (t : ByteArray) (d : Nat) : ∀ (i : Nat), i + d = l.length → Ev (fun k => spec_l2Put.l0 k l t (i : Int)) (l.take i ++ putM t (l.drop i)) := by
  induction d with
  | zero =>
    intro i hi
    refine Ev.step (g := fun k => spec_l2Put.l0 k _ _ _) (fun k => by rw [spec_l2Put.l0]) (neg (by omega) ?_)
    refine Ev.bind (ret _) (pos (by omega) (pos (by omega) (Ev.bind (ret _) ?_)))
    refine pos (by simp; omega) (Ev.bind (ret _) (Ev.bind (ret _) ?_))
    refine pos (by simp; omega) (Ev.bind (ret _) (Ev.bind (ret _) ?_))
    refine pos (by simp; omega) (ret' ?_)
    rw [Int.toNat_natCast, List.drop_of_length_le (by omega)]
    simp [putM]
  | succ d ih =>
    intro i hi
    have hlt : i < l.length := by omega
    refine Ev.step (g := fun k => spec_l2Put.l0 k _ _ _) (fun k => by rw [spec_l2Put.l0]) (pos (by omega) (pos (by omega) ?_))
    rw [rdOf_lt _ _ _ hlt, wrap_id (x := (i : Int) + 1) (by omega) (by omega)]
    have hd := List.drop_eq_getElem_cons hlt
    refine both (fun h => ?_) (fun h => both (fun h' => ?_) (fun h' => ?_))
    · refine of_eq (ih (i + 1) (by omega)) ?_
      rw [hd, putM, if_pos (show lt l[i] t = true from h), List.take_succ_eq_append_getElem hlt, List.append_assoc, List.singleton_append]
    · refine ret' ?_
      rw [hd, putM, if_neg (show ¬ lt l[i] t = true from h), if_pos (toList_iff.1 h'), ← hd, List.take_append_drop]
    · refine Ev.bind (ret _) (pos (by omega) (Ev.bind (ret _) ?_))
      refine pos (by simp; omega) (Ev.bind (ret _) (Ev.bind (ret _) ?_))
      refine pos (by simp; omega) (Ev.bind (ret _) (Ev.bind (ret _) ?_))
      refine pos (by simp; omega) (ret' ?_)
      rw [Int.toNat_natCast, hd, putM, if_neg (show ¬ lt l[i] t = true from h), if_neg (fun e => h' (toList_iff.2 e))]
      simp
theorem l2Put_ev (l : List ByteArray) (hl : l.length ≤ 1048576) (t : ByteArray) : Ev (fun k => spec_l2Put.f k l t) (putM t l) := by
  have := l2Put_l0 l hl t l.length 0 (by omega)
  simpa [spec_l2Put.f] using this
theorem putM_len (t : ByteArray) (l : List ByteArray) : (putM t l).length ≤ l.length + 1 := by
  induction l with
  | nil => simp [putM]
  | cons x r ih =>
    rw [putM]
    split
    · simp; omega
    · split <;> simp
theorem putM_mem (t : ByteArray) (l : List ByteArray) (s : ByteArray) : s ∈ putM t l ↔ s = t ∨ s ∈ l := by
  induction l with
  | nil => simp [putM]
  | cons x r ih =>
    rw [putM]
    split
    · rw [List.mem_cons, ih, List.mem_cons]
      constructor
      · rintro (h | h | h)
        · exact .inr (.inl h)
        · exact .inl h
        · exact .inr (.inr h)
      · rintro (h | h | h)
        · exact .inr (.inl h)
        · exact .inl h
        · exact .inr (.inr h)
    · split
      · rename_i h
        constructor
        · exact .inr
        · rintro (e | e)
          · rw [e, ← h]; simp
          · exact e
      · simp
theorem l11Set_l0 (c : List Int) (p : Int) (l : List ByteArray) (hl : Small l 17) (d : Nat) : ∀ (i : Nat) (x : List ByteArray), i + d = l.length → Small x i → ∃ r, Ev (fun k => spec_l11Set.l0 k x l (i : Int) c p) (r, p) ∧ Small r 17 := by
  have h17 := hl.1
  induction d with
  | zero =>
    intro i x hi hx
    exact ⟨x, Ev.step (g := fun k => spec_l11Set.l0 k _ _ _ _ _) (fun k => by rw [spec_l11Set.l0]) (neg (by omega) (ret _)), hx.le (by omega)⟩
  | succ d ih =>
    intro i x hi hx
    have hlt : i < l.length := by omega
    have hx1 := hx.1
    have hw : wrap64 ((i : Int) + 1) = ((i + 1 : Nat) : Int) := by rw [wrap_id (by omega) (by omega)]; omega
    by_cases h : l[i].size ≤ 40
    · obtain ⟨r, hr, hS⟩ := ih (i + 1) (putM l[i] x) (by omega) ⟨by have := putM_len l[i] x; omega, fun s hs => by
        rcases (putM_mem _ _ _).1 hs with rfl | hs
        · omega
        · exact hx.2 s hs⟩
      refine ⟨r, Ev.step (g := fun k => spec_l11Set.l0 k _ _ _ _ _) (fun k => by rw [spec_l11Set.l0]) (pos (by omega) (pos (by omega) ?_)), hS⟩
      rw [rdOf_lt _ _ _ hlt, hw]
      exact pos (by omega) (Ev.bind (l2Put_ev x (by omega) _) hr)
    · obtain ⟨r, hr, hS⟩ := ih (i + 1) x (by omega) (hx.le (by omega))
      refine ⟨r, Ev.step (g := fun k => spec_l11Set.l0 k _ _ _ _ _) (fun k => by rw [spec_l11Set.l0]) (pos (by omega) (pos (by omega) ?_)), hS⟩
      rw [rdOf_lt _ _ _ hlt, hw]
      exact neg (by omega) hr
theorem l11AnySet_ev (c : List Int) (hc : Code c) (p : Int) (h0 : 0 ≤ p) (h1 : p ≤ 10000) : ∃ l q, Ev (fun k => spec_l11AnySet.f k c p) (l, q) ∧ Small l 17 ∧ p ≤ q ∧ q ≤ p + 101 := by
  obtain ⟨v, hv, v0, v1⟩ := pick_ev c hc p 10 h0 (by omega) (by omega) (by omega)
  obtain ⟨t, q, ht, hS, a1, a2⟩ := l11AnyTexts_ev c hc (p + 1) (by omega) (by omega)
  unfold spec_l11AnySet.f
  by_cases e : v = 0
  · refine ⟨t, q, Ev.bind hv (pos e ?_), hS, by omega, by omega⟩
    exact Ev.bind ht (ret _)
  · obtain ⟨r, hr, hS'⟩ := l11Set_l0 c q t hS t.length 0 [] (by omega) ⟨by simp, by simp⟩
    refine ⟨r, q, Ev.bind hv (neg e ?_), hS', by omega, by omega⟩
    unfold spec_l11Set.f
    refine Ev.bind (Ev.bind ht hr) (ret _)
theorem DrawSetAdd_ev (l : List Int) (hl : l.length ≤ maxLen) (hb : ∀ x ∈ l, (Lit.int .u8 x).wf = true) : ∃ a b, Ev (fun k => spec_DrawSetAdd.f k l) (a, b) ∧ Small a 17 ∧ Small b 17 := by
  obtain ⟨c, hc, hC⟩ := l1Open_ev l hl hb
  obtain ⟨a, p, ha, hA, a1, a2⟩ := l11AnySet_ev c hC 0 (by omega) (by omega)
  obtain ⟨b, q, hb', hB, b1, b2⟩ := l11AnyTexts_ev c hC p (by omega) (by omega)
  refine ⟨a, b, ?_, hA, hB⟩
  unfold spec_DrawSetAdd.f
  exact Ev.bind hc (Ev.bind ha (Ev.bind hb' (ret _)))
theorem qxHas_l0 (l : List ByteArray) (hl : l.length ≤ maxLen) (s : ByteArray) (d : Nat) : ∀ (i : Nat), i + d = l.length → Ev (fun k => laws_qxHas.l0 k l s (i : Int)) (hasB (l.drop i) s) := by
  unfold maxLen at hl
  induction d with
  | zero =>
    intro i hi
    refine Ev.step (g := fun k => laws_qxHas.l0 k _ _ _) (fun k => by rw [laws_qxHas.l0]) (neg (by omega) (ret' ?_))
    rw [List.drop_of_length_le (by omega)]
    rfl
  | succ d ih =>
    intro i hi
    have hlt : i < l.length := by omega
    refine Ev.step (g := fun k => laws_qxHas.l0 k _ _ _) (fun k => by rw [laws_qxHas.l0]) (pos (by omega) (pos (by omega) ?_))
    rw [rdOf_lt _ _ _ hlt, List.drop_eq_getElem_cons hlt, wrap_id (by omega) (by omega)]
    refine both (fun h => ret' ?_) (fun h => ?_)
    · simp [hasB, toList_iff.1 h]
    · have : l[i] ≠ s := fun e => h (by rw [e])
      refine of_eq (ih (i + 1) (by omega)) ?_
      show _ = (decide (l[i] = s) || hasB (l.drop (i + 1)) s)
      rw [decide_eq_false this, Bool.false_or]
theorem qxHas_ev (l : List ByteArray) (hl : l.length ≤ maxLen) (s : ByteArray) : Ev (fun k => laws_qxHas.f k l s) (hasB l s) := qxHas_l0 l hl s l.length 0 (by omega)
theorem hasB_iff (l : List ByteArray) (s : ByteArray) : hasB l s = true ↔ s ∈ l := by
  unfold hasB
  simp
end Go.Proofs.Ytcdiokflmambiaa.Q
/- Plain lemmas: what of a set is in another list, or is not, on both sides. -/
namespace Go.Proofs.Ytcdiokflmambiaa.Q
open Go.RowKit Go.Proofs.YtcdiokflmambiaaW.PrintWords Go.Proofs.YtcdiokflmambiaaW.PrintLast Go.Proofs.Ytcdiokflmambiaa.P

/-- What is left of a set behind a drop, and how many are gone. -/
def setDropM (l o : List ByteArray) : List ByteArray × Int := if setB l = true then (chosenM l o false, (l.length : Int) - (chosenM l o false).length) else ([], 0)
theorem setDropM_len (l o : List ByteArray) : (setDropM l o).1.length ≤ l.length := by
  unfold setDropM
  split
  · exact chosenM_len l o false
  · simp
theorem impl_SetDrop_ev (l o : List ByteArray) (hl : l.length ≤ 1048576) (ho : o.length ≤ 1048576) : Ev (fun k => impl_SetDrop.f k l o) (setDropM l o) := by
  unfold impl_SetDrop.f setDropM
  refine Ev.bind (impl_SetOk_ev l (by unfold maxLen; omega)) ?_
  have hc := chosenM_len l o false
  cases h1 : setB l with
  | false => exact neg (by decide) (ret' (by simp))
  | true => exact pos rfl (Ev.bind (chosen_ev l o false hl (by unfold maxLen; omega)) (ret' (by rw [if_pos rfl, wrap_id (by omega) (by omega)])))
theorem spec_SetDrop_l0 (l o : List ByteArray) (hl : l.length ≤ 1048576) (ho : o.length ≤ 1048576) (d : Nat) : ∀ (i : Nat) (x : List ByteArray), i + d = l.length → x.length ≤ i →
    Ev (fun k => spec_SetDrop.l0 k l o x (i : Int)) (x ++ chosenM (l.drop i) o false, (l.length : Int) - (x ++ chosenM (l.drop i) o false).length) := by
  have ho' : o.length ≤ maxLen := by unfold maxLen; omega
  induction d with
  | zero =>
    intro i x hi hx
    refine Ev.step (g := fun k => spec_SetDrop.l0 k _ _ _ _) (fun k => by rw [spec_SetDrop.l0]) (neg (by omega) (ret' ?_))
    rw [List.drop_of_length_le (by omega), wrap_id (by omega) (by omega)]
    simp [chosenM]
  | succ d ih =>
    intro i x hi hx
    have hlt : i < l.length := by omega
    refine Ev.step (g := fun k => spec_SetDrop.l0 k _ _ _ _) (fun k => by rw [spec_SetDrop.l0]) (pos (by omega) (pos (by omega) ?_))
    rw [rdOf_lt _ _ _ hlt, wrap_id (x := (i : Int) + 1) (by omega) (by omega), List.drop_eq_getElem_cons hlt]
    refine Ev.bind (l2Has_ev o ho' _) ?_
    cases h : hasB o l[i] with
    | true => exact pos rfl (of_eq (ih (i + 1) x (by omega) (by omega)) (by rw [chosenM_cons, h]; simp))
    | false => exact neg (by decide) (pos (by omega) (of_eq (ih (i + 1) (x ++ [l[i]]) (by omega) (by simp; omega)) (by rw [chosenM_cons, h]; simp)))
theorem spec_SetDrop_ev (l o : List ByteArray) (hl : l.length ≤ 1048576) (ho : o.length ≤ 1048576) : Ev (fun k => spec_SetDrop.f k l o) (setDropM l o) := by
  unfold spec_SetDrop.f setDropM
  refine Ev.bind (ret _) (Ev.bind (spec_SetOk_ev l (by unfold maxLen; omega)) ?_)
  cases h1 : setB l with
  | false => exact neg (by decide) (ret' (by simp))
  | true =>
    have := spec_SetDrop_l0 l o hl ho l.length 0 [] (by omega) (by simp)
    refine pos rfl (of_eq this (by simp))
end Go.Proofs.Ytcdiokflmambiaa.Q
/- Plain lemmas: ascending lists, as lists of which each is less than all behind it. -/
namespace Go.Proofs.Ytcdiokflmambiaa.Q
open Go.RowKit Go.Proofs.YtcdiokflmambiaaW.PrintWords Go.Proofs.YtcdiokflmambiaaW.PrintLast Go.Proofs.Ytcdiokflmambiaa.P

theorem ascB_iff (l : List ByteArray) : ascB l = true ↔ l.Pairwise (fun a b => lt a b = true) := by
  induction l with
  | nil => simp [ascB]
  | cons a r ih =>
    cases r with
    | nil => simp [ascB]
    | cons b r =>
      rw [ascB, Bool.and_eq_true, ih, List.pairwise_cons (l := b :: r)]
      constructor
      · rintro ⟨h, hp⟩
        refine ⟨fun x hx => ?_, hp⟩
        rcases List.mem_cons.1 hx with rfl | hx
        · exact h
        · exact lt_trans h ((List.pairwise_cons.1 hp).1 x hx)
      · rintro ⟨h, hp⟩
        exact ⟨h b (by simp), hp⟩
theorem setB_iff (l : List ByteArray) : setB l = true ↔ l.Pairwise (fun a b => lt a b = true) ∧ l.length ≤ 16 ∧ ∀ s ∈ l, s.size ≤ 40 := by
  unfold setB textsB
  simp only [Bool.and_eq_true, ascB_iff, List.all_eq_true, decide_eq_true_eq]
  constructor
  · rintro ⟨a, b, c⟩
    exact ⟨a, by omega, b⟩
  · rintro ⟨a, b, c⟩
    exact ⟨a, c, by omega⟩
end Go.Proofs.Ytcdiokflmambiaa.Q
/- Plain law: of a drawn set and texts, SetDrop of the program is that of the reference; what was taken away is not there, all else is. -/
namespace Go.Proofs.Ytcdiokflmambiaa.Q
open Go.RowKit Go.Proofs.YtcdiokflmambiaaW.PrintWords Go.Proofs.YtcdiokflmambiaaW.PrintLast Go.Proofs.Ytcdiokflmambiaa.P

theorem FnSetDrop_pure (l : List Int) (hl : l.length ≤ maxLen) (hb : ∀ x ∈ l, (Lit.int .u8 x).wf = true) : ∃ k, laws_FnSetDrop.f k l = some true := by
  refine exists_of (r := true) ?_
  unfold laws_FnSetDrop.f
  refine both (fun _ => ret _) (fun _ => ?_)
  obtain ⟨a, b, hD0, hA, hB⟩ := DrawSetAdd_ev l hl hb
  have hD : Ev (fun k => spec_DrawSetDrop.f k l) (a, b) := by
    unfold spec_DrawSetDrop.f
    exact Ev.bind hD0 (ret _)
  have a17 := hA.1
  have b17 := hB.1
  have hI := impl_SetDrop_ev a b (by omega) (by omega)
  have hW := spec_SetDrop_ev a b (by omega) (by omega)
  have hlen := setDropM_len a b
  have hX := qxTexts_same (setDropM a b).1 (by unfold maxLen; omega)
  have hO := spec_SetOk_ev a (by unfold maxLen; omega)
  refine Ev.bind hD (Ev.bind hI (Ev.bind hW (pos rfl (Ev.bind hX (pos rfl (Ev.bind hO ?_))))))
  refine Ev.step (g := fun k => laws_FnSetDrop.j0 k _ _ _ _ _ _ _) (fun k => by rw [laws_FnSetDrop.j0]) ?_
  dsimp only
  cases hs : setB a with
  | false => exact pos rfl (pos rfl (Ev.bind hX (ret _)))
  | true =>
    refine neg (by decide) ?_
    have e : setDropM a b = (chosenM a b false, (a.length : Int) - (chosenM a b false).length) := by unfold setDropM; rw [if_pos hs]
    rw [e] at hlen ⊢
    dsimp only at hlen ⊢
    obtain ⟨p1, p2, p3⟩ := (setB_iff a).1 hs
    have hsub : chosenM a b false = a.filter (fun s => hasB b s == false) := rfl
    have hok : setB (chosenM a b false) = true := (setB_iff _).2 ⟨by rw [hsub]; exact p1.filter _, by omega, fun s h => p3 s (by rw [hsub] at h; exact (List.mem_filter.1 h).1)⟩
    have hO2 := impl_SetOk_ev (chosenM a b false) (by unfold maxLen; omega)
    have loop : ∀ (d i : Nat), i + d = a.length → Ev (fun k => laws_FnSetDrop.l0 k a b (chosenM a b false) ((a.length : Int) - (chosenM a b false).length) (i : Int)) true := by
      intro d
      induction d with
      | zero =>
        intro i hi
        refine Ev.step (g := fun k => laws_FnSetDrop.l0 k _ _ _ _ _) (fun k => by rw [laws_FnSetDrop.l0]) (neg (by omega) (Ev.bind hO2 (pos hok (ret' ?_))))
        rw [wrap_id (by omega) (by omega)]
        simp
        omega
      | succ d ih =>
        intro i hi
        have hlt : i < a.length := by omega
        refine Ev.step (g := fun k => laws_FnSetDrop.l0 k _ _ _ _ _) (fun k => by rw [laws_FnSetDrop.l0]) (pos (by omega) (pos (by omega) ?_))
        rw [rdOf_lt _ _ _ hlt, wrap_id (x := (i : Int) + 1) (by omega) (by omega)]
        refine Ev.bind (qxHas_ev _ (by unfold maxLen; omega) _) (Ev.bind (qxHas_ev _ (by unfold maxLen; omega) _) (neg ?_ (ih (i + 1) (by omega))))
        have hm : hasB (chosenM a b false) a[i] = !hasB b a[i] := by
          rw [Bool.eq_iff_iff, hasB_iff, hsub, List.mem_filter]
          simp
        rw [hm]
        cases hasB b a[i] <;> decide
    exact loop a.length 0 (by omega)
end Go.Proofs.Ytcdiokflmambiaa.Q
