import Derived.Test.YtegelpeegbngiaaPrFnSetBoth4
import Derived.ProofKit
import Derived.SizedLaws
/- Texts of this claim, one behind the other: words on worlds and rows, printed functions and their walks, plain lemmas. -/
namespace Go.Proofs.Ytegelpeegbngiaa.P
open Go.RowKit Go.Proofs.YtegelpeegbngiaaW.PrintWords Go.Proofs.YtegelpeegbngiaaW.PrintLast Go.Proofs.YtegelpeegbngiaaW.PrintMore
attribute [local go_sem] max2_int min2_int max_two min_two max_three min_three max_four min_four   -- for this text's walks alone
set_option linter.unusedVariables false
set_option linter.unusedSimpArgs false
set_option maxHeartbeats 8000000 in
set_option maxRecDepth 100000 in
theorem laws_FnSetBoth.calls_t (k : Nat) (A0 : Option Addr) (c0 : Nat) (l0 : List Int) (r : Bool) (w : World) (hr0 : Kd.C (Kd.int .u8) w A0 l0.length l0) (hc0 : l0.length ≤ c0) (h : laws_FnSetBoth.f k l0 = some r) (hr_ : r = true) :
  Calls Try.prog 9 #[.slice A0 l0.length c0] w fun e w' => e = .returned (.bool r) ∧ Below w.heap.size w w' := by
 have HR0 := Aside0.mk hr0
 have HC0 := Aside0.mk hc0
 clear hr0 hc0
 have HB := Aside0.mk (Below.refl w.heap.size w)
 have H : (if (l0.length : Int) > 1048576 then (some true) else ((spec_DrawSetBoth.f k l0).bind fun bt987 => ((impl_SetBoth.f k bt987.1 bt987.2).bind fun t993 => ((impl_SetAny.f k bt987.1 bt987.2).bind fun t996 => ((impl_SetLess.f k bt987.1 bt987.2).bind fun t999 => ((impl_SetLess.f k bt987.2 bt987.1).bind fun t1002 => ((spec_SetBoth.f k bt987.1 bt987.2).bind fun t1005 => ((laws_qxTexts.f k t993 t1005).bind fun t1008 => (if t1008 = true then ((spec_SetAny.f k bt987.1 bt987.2).bind fun t1009 => ((laws_qxTexts.f k t996 t1009).bind fun t1012 => (if t1012 = true then ((spec_SetLess.f k bt987.1 bt987.2).bind fun t1013 => ((laws_qxTexts.f k t999 t1013).bind fun t1016 => (if t1016 = true then ((spec_SetOk.f k bt987.1).bind fun t1017 => (if t1017 = true then ((spec_SetOk.f k bt987.2).bind fun t1018 => (laws_FnSetBoth.j0 k bt987.1 bt987.2 t993 t996 t999 t1002 (!t1018))) else (laws_FnSetBoth.j0 k bt987.1 bt987.2 t993 t996 t999 t1002 true))) else (laws_FnSetBoth.j0 k bt987.1 bt987.2 t993 t996 t999 t1002 true)))) else (laws_FnSetBoth.j0 k bt987.1 bt987.2 t993 t996 t999 t1002 true)))) else (laws_FnSetBoth.j0 k bt987.1 bt987.2 t993 t996 t999 t1002 true)))))))))) = some r := h
 clear h
 by_cases c2 : (l0.length : Int) > 1048576
 ·rw [if_pos c2] at H
  have c2b0 : decide (1048576 < (l0.length : Int)) = true := decide_eq_true c2
  have c2b1 : decide (1048576 < l0.length) = true := decide_eq_true (by omega)
  clear c2
  obtain rfl := Option.some.inj H
  go_enter Try.func9, Try.ntmps9
  go_wp2
  go_ret
  exact ⟨by first | rfl | (simp [errW_none, errW_some] <;> rfl) | (simp [*, errW_none, errW_some] <;> rfl), by repeat (first | (with_reducible first | exact HB.out | apply below_alloc | apply pw_below_drewN | apply below_drew1) | exact HB.out | exact Below.refl _ _)⟩
 ·rw [if_neg c2] at H
  have c2b0 : decide (1048576 < (l0.length : Int)) = false := decide_eq_false c2
  have c2b1 : decide (1048576 < l0.length) = false := decide_eq_false (by omega)
  clear c2
  replace H := Option.bind_eq_some_iff.mp H
  obtain ⟨⟨t987, t990⟩, A30, H⟩ := H
  replace H : ((impl_SetBoth.f k t987 t990).bind fun t993 => ((impl_SetAny.f k t987 t990).bind fun t996 => ((impl_SetLess.f k t987 t990).bind fun t999 => ((impl_SetLess.f k t990 t987).bind fun t1002 => ((spec_SetBoth.f k t987 t990).bind fun t1005 => ((laws_qxTexts.f k t993 t1005).bind fun t1008 => (if t1008 = true then ((spec_SetAny.f k t987 t990).bind fun t1009 => ((laws_qxTexts.f k t996 t1009).bind fun t1012 => (if t1012 = true then ((spec_SetLess.f k t987 t990).bind fun t1013 => ((laws_qxTexts.f k t999 t1013).bind fun t1016 => (if t1016 = true then ((spec_SetOk.f k t987).bind fun t1017 => (if t1017 = true then ((spec_SetOk.f k t990).bind fun t1018 => (laws_FnSetBoth.j0 k t987 t990 t993 t996 t999 t1002 (!t1018))) else (laws_FnSetBoth.j0 k t987 t990 t993 t996 t999 t1002 true))) else (laws_FnSetBoth.j0 k t987 t990 t993 t996 t999 t1002 true)))) else (laws_FnSetBoth.j0 k t987 t990 t993 t996 t999 t1002 true)))) else (laws_FnSetBoth.j0 k t987 t990 t993 t996 t999 t1002 true)))))))) = some r := H
  have A3 := Aside0.mk A30
  clear A30
  replace H := Option.bind_eq_some_iff.mp H
  obtain ⟨t993, A40, H⟩ := H
  replace H : ((impl_SetAny.f k t987 t990).bind fun t996 => ((impl_SetLess.f k t987 t990).bind fun t999 => ((impl_SetLess.f k t990 t987).bind fun t1002 => ((spec_SetBoth.f k t987 t990).bind fun t1005 => ((laws_qxTexts.f k t993 t1005).bind fun t1008 => (if t1008 = true then ((spec_SetAny.f k t987 t990).bind fun t1009 => ((laws_qxTexts.f k t996 t1009).bind fun t1012 => (if t1012 = true then ((spec_SetLess.f k t987 t990).bind fun t1013 => ((laws_qxTexts.f k t999 t1013).bind fun t1016 => (if t1016 = true then ((spec_SetOk.f k t987).bind fun t1017 => (if t1017 = true then ((spec_SetOk.f k t990).bind fun t1018 => (laws_FnSetBoth.j0 k t987 t990 t993 t996 t999 t1002 (!t1018))) else (laws_FnSetBoth.j0 k t987 t990 t993 t996 t999 t1002 true))) else (laws_FnSetBoth.j0 k t987 t990 t993 t996 t999 t1002 true)))) else (laws_FnSetBoth.j0 k t987 t990 t993 t996 t999 t1002 true)))) else (laws_FnSetBoth.j0 k t987 t990 t993 t996 t999 t1002 true))))))) = some r := H
  have A4 := Aside0.mk A40
  clear A40
  replace H := Option.bind_eq_some_iff.mp H
  obtain ⟨t996, A50, H⟩ := H
  replace H : ((impl_SetLess.f k t987 t990).bind fun t999 => ((impl_SetLess.f k t990 t987).bind fun t1002 => ((spec_SetBoth.f k t987 t990).bind fun t1005 => ((laws_qxTexts.f k t993 t1005).bind fun t1008 => (if t1008 = true then ((spec_SetAny.f k t987 t990).bind fun t1009 => ((laws_qxTexts.f k t996 t1009).bind fun t1012 => (if t1012 = true then ((spec_SetLess.f k t987 t990).bind fun t1013 => ((laws_qxTexts.f k t999 t1013).bind fun t1016 => (if t1016 = true then ((spec_SetOk.f k t987).bind fun t1017 => (if t1017 = true then ((spec_SetOk.f k t990).bind fun t1018 => (laws_FnSetBoth.j0 k t987 t990 t993 t996 t999 t1002 (!t1018))) else (laws_FnSetBoth.j0 k t987 t990 t993 t996 t999 t1002 true))) else (laws_FnSetBoth.j0 k t987 t990 t993 t996 t999 t1002 true)))) else (laws_FnSetBoth.j0 k t987 t990 t993 t996 t999 t1002 true)))) else (laws_FnSetBoth.j0 k t987 t990 t993 t996 t999 t1002 true)))))) = some r := H
  have A5 := Aside0.mk A50
  clear A50
  replace H := Option.bind_eq_some_iff.mp H
  obtain ⟨t999, A60, H⟩ := H
  replace H : ((impl_SetLess.f k t990 t987).bind fun t1002 => ((spec_SetBoth.f k t987 t990).bind fun t1005 => ((laws_qxTexts.f k t993 t1005).bind fun t1008 => (if t1008 = true then ((spec_SetAny.f k t987 t990).bind fun t1009 => ((laws_qxTexts.f k t996 t1009).bind fun t1012 => (if t1012 = true then ((spec_SetLess.f k t987 t990).bind fun t1013 => ((laws_qxTexts.f k t999 t1013).bind fun t1016 => (if t1016 = true then ((spec_SetOk.f k t987).bind fun t1017 => (if t1017 = true then ((spec_SetOk.f k t990).bind fun t1018 => (laws_FnSetBoth.j0 k t987 t990 t993 t996 t999 t1002 (!t1018))) else (laws_FnSetBoth.j0 k t987 t990 t993 t996 t999 t1002 true))) else (laws_FnSetBoth.j0 k t987 t990 t993 t996 t999 t1002 true)))) else (laws_FnSetBoth.j0 k t987 t990 t993 t996 t999 t1002 true)))) else (laws_FnSetBoth.j0 k t987 t990 t993 t996 t999 t1002 true))))) = some r := H
  have A6 := Aside0.mk A60
  clear A60
  replace H := Option.bind_eq_some_iff.mp H
  obtain ⟨t1002, A70, H⟩ := H
  replace H : ((spec_SetBoth.f k t987 t990).bind fun t1005 => ((laws_qxTexts.f k t993 t1005).bind fun t1008 => (if t1008 = true then ((spec_SetAny.f k t987 t990).bind fun t1009 => ((laws_qxTexts.f k t996 t1009).bind fun t1012 => (if t1012 = true then ((spec_SetLess.f k t987 t990).bind fun t1013 => ((laws_qxTexts.f k t999 t1013).bind fun t1016 => (if t1016 = true then ((spec_SetOk.f k t987).bind fun t1017 => (if t1017 = true then ((spec_SetOk.f k t990).bind fun t1018 => (laws_FnSetBoth.j0 k t987 t990 t993 t996 t999 t1002 (!t1018))) else (laws_FnSetBoth.j0 k t987 t990 t993 t996 t999 t1002 true))) else (laws_FnSetBoth.j0 k t987 t990 t993 t996 t999 t1002 true)))) else (laws_FnSetBoth.j0 k t987 t990 t993 t996 t999 t1002 true)))) else (laws_FnSetBoth.j0 k t987 t990 t993 t996 t999 t1002 true)))) = some r := H
  have A7 := Aside0.mk A70
  clear A70
  have HC8 := Aside0.mk H
  clear H
  go_enter Try.func9, Try.ntmps9
  go_upto_region 8 with (first | (go_at_call 42; (with_reducible refine (spec_DrawSetBoth.calls k _ _ l0 t987 t990 _ ?side1 ?side2 A3.out).mono ?_); (case side1 => repeat (first | exact HR0.out | (with_reducible refine Kd.C_alloc ?_ _) | (with_reducible refine Kd.C_drewN ?_ _) | (with_reducible refine Kd.C_drew ?_))); (case side2 => exact HC0.out); rintro e w9 ⟨v988, v991, rfl, ho0, ho1, hb⟩; have n0_ := Aside0.mk (Kd.V_lower (Kd.V_mono (ok' := fun k_ => True) ho0 (fun k_ hk_ => trivial)) (below_size (by repeat (first | (with_reducible first | exact HB.out | apply below_alloc | apply pw_below_drewN | apply below_drew1) | exact HB.out | exact Below.refl _ _)))); have n1_ := Aside0.mk (Kd.V_lower (Kd.V_mono (ok' := fun k_ => True) ho1 (fun k_ hk_ => trivial)) (below_size (by repeat (first | (with_reducible first | exact HB.out | apply below_alloc | apply pw_below_drewN | apply below_drew1) | exact HB.out | exact Below.refl _ _)))); have n2_ := Aside0.mk (below_step (by repeat (first | (with_reducible first | exact HB.out | apply below_alloc | apply pw_below_drewN | apply below_drew1) | exact HB.out | exact Below.refl _ _)) hb); clear HB; have HO989 := n0_; have HO992 := n1_; have HB := n2_; clear n0_ n1_ n2_; (try clear hb); (try clear hb2); (try clear hk); (try clear hi); (try clear ho0); (try clear ho1); obtain ⟨Ao10, co10, eo10⟩ := Kd.V_slice HO989.out; subst eo10; obtain ⟨Ao11, co11, eo11⟩ := Kd.V_slice HO992.out; subst eo11) | (go_at_call 43; (with_reducible refine (impl_SetBoth.calls k _ _ t987 _ _ t990 t993 _ ?side1 ?side2 ?side3 ?side4 A4.out).mono ?_); (case side1 => repeat (first | exact (Kd.V_reads' HO989.out).2.2 | (with_reducible refine Kd.C_alloc ?_ _) | (with_reducible refine Kd.C_drewN ?_ _) | (with_reducible refine Kd.C_drew ?_))); (case side2 => exact (Kd.V_reads' HO989.out).2.1); (case side3 => repeat (first | exact (Kd.V_reads' HO992.out).2.2 | (with_reducible refine Kd.C_alloc ?_ _) | (with_reducible refine Kd.C_drewN ?_ _) | (with_reducible refine Kd.C_drew ?_))); (case side4 => exact (Kd.V_reads' HO992.out).2.1); rintro e w12 ⟨v994, rfl, ho0, hb⟩; have n0_ := Aside0.mk (Kd.V_elder' (by (with_reducible repeat (first | apply Kd.V_alloc | apply Kd.V_drewN | apply Kd.V_drew)); exact HO989.out) (Kd.R_base ho0) hb); have n1_ := Aside0.mk (Kd.V_elder' (by (with_reducible repeat (first | apply Kd.V_alloc | apply Kd.V_drewN | apply Kd.V_drew)); exact HO992.out) (Kd.R_base ho0) hb); have n2_ := Aside0.mk (Kd.R_lower ho0 (below_size (by repeat (first | (with_reducible first | exact HB.out | apply below_alloc | apply pw_below_drewN | apply below_drew1) | exact HB.out | exact Below.refl _ _)))); have n3_ := Aside0.mk (below_step (by repeat (first | (with_reducible first | exact HB.out | apply below_alloc | apply pw_below_drewN | apply below_drew1) | exact HB.out | exact Below.refl _ _)) hb); clear HO989; clear HO992; clear HB; have HO989 := n0_; have HO992 := n1_; have HO995 := n2_; have HB := n3_; clear n0_ n1_ n2_ n3_; (try clear hb); (try clear hb2); (try clear hk); (try clear hi); (try clear ho0)) | (go_at_call 13; (with_reducible refine (impl_SetAny.calls k _ _ t987 _ _ t990 t996 _ ?side1 ?side2 ?side3 ?side4 A5.out).mono ?_); (case side1 => repeat (first | exact (Kd.V_reads' HO989.out).2.2 | (with_reducible refine Kd.C_alloc ?_ _) | (with_reducible refine Kd.C_drewN ?_ _) | (with_reducible refine Kd.C_drew ?_))); (case side2 => exact (Kd.V_reads' HO989.out).2.1); (case side3 => repeat (first | exact (Kd.V_reads' HO992.out).2.2 | (with_reducible refine Kd.C_alloc ?_ _) | (with_reducible refine Kd.C_drewN ?_ _) | (with_reducible refine Kd.C_drew ?_))); (case side4 => exact (Kd.V_reads' HO992.out).2.1); rintro e w13 ⟨v997, rfl, ho0, hb⟩; have n0_ := Aside0.mk (Kd.V_elder' (by (with_reducible repeat (first | apply Kd.V_alloc | apply Kd.V_drewN | apply Kd.V_drew)); exact HO989.out) (Kd.R_base ho0) hb); have n1_ := Aside0.mk (Kd.V_elder' (by (with_reducible repeat (first | apply Kd.V_alloc | apply Kd.V_drewN | apply Kd.V_drew)); exact HO992.out) (Kd.R_base ho0) hb); have n2_ := Aside0.mk (Kd.R_elder' (by (with_reducible repeat (first | apply Kd.R_alloc | apply Kd.R_drewN | apply Kd.R_drew)); exact HO995.out) (Kd.R_base ho0) hb); have n3_ := Aside0.mk (Kd.R_lower (Kd.R_new' ho0 (Kd.R_lt (by (with_reducible repeat (first | apply Kd.R_alloc | apply Kd.R_drewN | apply Kd.R_drew)); exact HO995.out))) (below_size (by repeat (first | (with_reducible first | exact HB.out | apply below_alloc | apply pw_below_drewN | apply below_drew1) | exact HB.out | exact Below.refl _ _)))); have n4_ := Aside0.mk (below_step (by repeat (first | (with_reducible first | exact HB.out | apply below_alloc | apply pw_below_drewN | apply below_drew1) | exact HB.out | exact Below.refl _ _)) hb); clear HO989; clear HO992; clear HO995; clear HB; have HO989 := n0_; have HO992 := n1_; have HO995 := n2_; have HO998 := n3_; have HB := n4_; clear n0_ n1_ n2_ n3_ n4_; (try clear hb); (try clear hb2); (try clear hk); (try clear hi); (try clear ho0)) | (go_at_call 44; (with_reducible refine (impl_SetLess.calls k _ _ t987 _ _ t990 t999 _ ?side1 ?side2 ?side3 ?side4 A6.out).mono ?_); (case side1 => repeat (first | exact (Kd.V_reads' HO989.out).2.2 | (with_reducible refine Kd.C_alloc ?_ _) | (with_reducible refine Kd.C_drewN ?_ _) | (with_reducible refine Kd.C_drew ?_))); (case side2 => exact (Kd.V_reads' HO989.out).2.1); (case side3 => repeat (first | exact (Kd.V_reads' HO992.out).2.2 | (with_reducible refine Kd.C_alloc ?_ _) | (with_reducible refine Kd.C_drewN ?_ _) | (with_reducible refine Kd.C_drew ?_))); (case side4 => exact (Kd.V_reads' HO992.out).2.1); rintro e w14 ⟨v1000, rfl, ho0, hb⟩; have n0_ := Aside0.mk (Kd.V_elder' (by (with_reducible repeat (first | apply Kd.V_alloc | apply Kd.V_drewN | apply Kd.V_drew)); exact HO989.out) (Kd.R_base ho0) hb); have n1_ := Aside0.mk (Kd.V_elder' (by (with_reducible repeat (first | apply Kd.V_alloc | apply Kd.V_drewN | apply Kd.V_drew)); exact HO992.out) (Kd.R_base ho0) hb); have n2_ := Aside0.mk (Kd.R_elder' (by (with_reducible repeat (first | apply Kd.R_alloc | apply Kd.R_drewN | apply Kd.R_drew)); exact HO995.out) (Kd.R_base ho0) hb); have n3_ := Aside0.mk (Kd.R_elder' (by (with_reducible repeat (first | apply Kd.R_alloc | apply Kd.R_drewN | apply Kd.R_drew)); exact HO998.out) (Kd.R_base ho0) hb); have n4_ := Aside0.mk (Kd.R_lower (Kd.R_new' (Kd.R_new' ho0 (Kd.R_lt (by (with_reducible repeat (first | apply Kd.R_alloc | apply Kd.R_drewN | apply Kd.R_drew)); exact HO995.out))) (Kd.R_lt (by (with_reducible repeat (first | apply Kd.R_alloc | apply Kd.R_drewN | apply Kd.R_drew)); exact HO998.out))) (below_size (by repeat (first | (with_reducible first | exact HB.out | apply below_alloc | apply pw_below_drewN | apply below_drew1) | exact HB.out | exact Below.refl _ _)))); have n5_ := Aside0.mk (below_step (by repeat (first | (with_reducible first | exact HB.out | apply below_alloc | apply pw_below_drewN | apply below_drew1) | exact HB.out | exact Below.refl _ _)) hb); clear HO989; clear HO992; clear HO995; clear HO998; clear HB; have HO989 := n0_; have HO992 := n1_; have HO995 := n2_; have HO998 := n3_; have HO1001 := n4_; have HB := n5_; clear n0_ n1_ n2_ n3_ n4_ n5_; (try clear hb); (try clear hb2); (try clear hk); (try clear hi); (try clear ho0)) | (go_at_call 44; (with_reducible refine (impl_SetLess.calls k _ _ t990 _ _ t987 t1002 _ ?side1 ?side2 ?side3 ?side4 A7.out).mono ?_); (case side1 => repeat (first | exact (Kd.V_reads' HO992.out).2.2 | (with_reducible refine Kd.C_alloc ?_ _) | (with_reducible refine Kd.C_drewN ?_ _) | (with_reducible refine Kd.C_drew ?_))); (case side2 => exact (Kd.V_reads' HO992.out).2.1); (case side3 => repeat (first | exact (Kd.V_reads' HO989.out).2.2 | (with_reducible refine Kd.C_alloc ?_ _) | (with_reducible refine Kd.C_drewN ?_ _) | (with_reducible refine Kd.C_drew ?_))); (case side4 => exact (Kd.V_reads' HO989.out).2.1); rintro e w15 ⟨v1003, rfl, ho0, hb⟩; have n0_ := Aside0.mk (Kd.V_elder' (by (with_reducible repeat (first | apply Kd.V_alloc | apply Kd.V_drewN | apply Kd.V_drew)); exact HO989.out) (Kd.R_base ho0) hb); have n1_ := Aside0.mk (Kd.V_elder' (by (with_reducible repeat (first | apply Kd.V_alloc | apply Kd.V_drewN | apply Kd.V_drew)); exact HO992.out) (Kd.R_base ho0) hb); have n2_ := Aside0.mk (Kd.R_elder' (by (with_reducible repeat (first | apply Kd.R_alloc | apply Kd.R_drewN | apply Kd.R_drew)); exact HO995.out) (Kd.R_base ho0) hb); have n3_ := Aside0.mk (Kd.R_elder' (by (with_reducible repeat (first | apply Kd.R_alloc | apply Kd.R_drewN | apply Kd.R_drew)); exact HO998.out) (Kd.R_base ho0) hb); have n4_ := Aside0.mk (Kd.R_elder' (by (with_reducible repeat (first | apply Kd.R_alloc | apply Kd.R_drewN | apply Kd.R_drew)); exact HO1001.out) (Kd.R_base ho0) hb); have n5_ := Aside0.mk (Kd.R_lower (Kd.R_new' (Kd.R_new' (Kd.R_new' ho0 (Kd.R_lt (by (with_reducible repeat (first | apply Kd.R_alloc | apply Kd.R_drewN | apply Kd.R_drew)); exact HO995.out))) (Kd.R_lt (by (with_reducible repeat (first | apply Kd.R_alloc | apply Kd.R_drewN | apply Kd.R_drew)); exact HO998.out))) (Kd.R_lt (by (with_reducible repeat (first | apply Kd.R_alloc | apply Kd.R_drewN | apply Kd.R_drew)); exact HO1001.out))) (below_size (by repeat (first | (with_reducible first | exact HB.out | apply below_alloc | apply pw_below_drewN | apply below_drew1) | exact HB.out | exact Below.refl _ _)))); have n6_ := Aside0.mk (below_step (by repeat (first | (with_reducible first | exact HB.out | apply below_alloc | apply pw_below_drewN | apply below_drew1) | exact HB.out | exact Below.refl _ _)) hb); clear HO989; clear HO992; clear HO995; clear HO998; clear HO1001; clear HB; have HO989 := n0_; have HO992 := n1_; have HO995 := n2_; have HO998 := n3_; have HO1001 := n4_; have HO1004 := n5_; have HB := n6_; clear n0_ n1_ n2_ n3_ n4_ n5_ n6_; (try clear hb); (try clear hb2); (try clear hk); (try clear hi); (try clear ho0)))
  (try simp only [Act.put, List.setIfInBounds_toArray, List.set_cons_zero, List.set_cons_succ])
  go_cut [62] (fun v62 wc => ∃ (kq : Nat) (x62_7 : Bool), v62 = .bool x62_7 ∧ Aside0 (laws_FnSetBoth.j0 kq t987 t990 t993 t996 t999 t1002 x62_7 = some r) ∧ Aside0 (kq ≤ k) ∧ Aside0 (Kd.V Kd.string 9 wc w.heap.size (fun k_ => some k_ ≠ (v994 : Value).ownBlock ∧ some k_ ≠ (v997 : Value).ownBlock ∧ some k_ ≠ (v1000 : Value).ownBlock ∧ some k_ ≠ (v1003 : Value).ownBlock) (.slice Ao10 t987.length co10) t987) ∧ Aside0 (Kd.V Kd.string 9 wc w.heap.size (fun k_ => some k_ ≠ (v994 : Value).ownBlock ∧ some k_ ≠ (v997 : Value).ownBlock ∧ some k_ ≠ (v1000 : Value).ownBlock ∧ some k_ ≠ (v1003 : Value).ownBlock) (.slice Ao11 t990.length co11) t990) ∧ Aside0 (Kd.R Kd.string 9 wc w.heap.size (fun k_ => some k_ ≠ (v997 : Value).ownBlock ∧ some k_ ≠ (v1000 : Value).ownBlock ∧ some k_ ≠ (v1003 : Value).ownBlock) v994 t993) ∧ Aside0 (Kd.R Kd.string 9 wc w.heap.size (fun k_ => some k_ ≠ (v994 : Value).ownBlock ∧ some k_ ≠ (v1000 : Value).ownBlock ∧ some k_ ≠ (v1003 : Value).ownBlock) v997 t996) ∧ Aside0 (Kd.R Kd.string 9 wc w.heap.size (fun k_ => some k_ ≠ (v994 : Value).ownBlock ∧ some k_ ≠ (v997 : Value).ownBlock ∧ some k_ ≠ (v1003 : Value).ownBlock) v1000 t999) ∧ Aside0 (Kd.R Kd.string 9 wc w.heap.size (fun k_ => some k_ ≠ (v994 : Value).ownBlock ∧ some k_ ≠ (v997 : Value).ownBlock ∧ some k_ ≠ (v1000 : Value).ownBlock) v1003 t1002) ∧ Aside0 (Below w.heap.size w wc))
  case first =>
   have H := HC8.out
   clear HC8
   replace H := Option.bind_eq_some_iff.mp H
   obtain ⟨t1005, A160, H⟩ := H
   replace H : ((laws_qxTexts.f k t993 t1005).bind fun t1008 => (if t1008 = true then ((spec_SetAny.f k t987 t990).bind fun t1009 => ((laws_qxTexts.f k t996 t1009).bind fun t1012 => (if t1012 = true then ((spec_SetLess.f k t987 t990).bind fun t1013 => ((laws_qxTexts.f k t999 t1013).bind fun t1016 => (if t1016 = true then ((spec_SetOk.f k t987).bind fun t1017 => (if t1017 = true then ((spec_SetOk.f k t990).bind fun t1018 => (laws_FnSetBoth.j0 k t987 t990 t993 t996 t999 t1002 (!t1018))) else (laws_FnSetBoth.j0 k t987 t990 t993 t996 t999 t1002 true))) else (laws_FnSetBoth.j0 k t987 t990 t993 t996 t999 t1002 true)))) else (laws_FnSetBoth.j0 k t987 t990 t993 t996 t999 t1002 true)))) else (laws_FnSetBoth.j0 k t987 t990 t993 t996 t999 t1002 true))) = some r := H
   have A16 := Aside0.mk A160
   clear A160
   replace H := Option.bind_eq_some_iff.mp H
   obtain ⟨t1008, A170, H⟩ := H
   replace H : (if t1008 = true then ((spec_SetAny.f k t987 t990).bind fun t1009 => ((laws_qxTexts.f k t996 t1009).bind fun t1012 => (if t1012 = true then ((spec_SetLess.f k t987 t990).bind fun t1013 => ((laws_qxTexts.f k t999 t1013).bind fun t1016 => (if t1016 = true then ((spec_SetOk.f k t987).bind fun t1017 => (if t1017 = true then ((spec_SetOk.f k t990).bind fun t1018 => (laws_FnSetBoth.j0 k t987 t990 t993 t996 t999 t1002 (!t1018))) else (laws_FnSetBoth.j0 k t987 t990 t993 t996 t999 t1002 true))) else (laws_FnSetBoth.j0 k t987 t990 t993 t996 t999 t1002 true)))) else (laws_FnSetBoth.j0 k t987 t990 t993 t996 t999 t1002 true)))) else (laws_FnSetBoth.j0 k t987 t990 t993 t996 t999 t1002 true)) = some r := H
   have A17 := Aside0.mk A170
   clear A170
   by_cases c18 : t1008 = true
   ·subst c18
    have H1 : ((spec_SetAny.f k t987 t990).bind fun t1009 => ((laws_qxTexts.f k t996 t1009).bind fun t1012 => (if t1012 = true then ((spec_SetLess.f k t987 t990).bind fun t1013 => ((laws_qxTexts.f k t999 t1013).bind fun t1016 => (if t1016 = true then ((spec_SetOk.f k t987).bind fun t1017 => (if t1017 = true then ((spec_SetOk.f k t990).bind fun t1018 => (laws_FnSetBoth.j0 k t987 t990 t993 t996 t999 t1002 (!t1018))) else (laws_FnSetBoth.j0 k t987 t990 t993 t996 t999 t1002 true))) else (laws_FnSetBoth.j0 k t987 t990 t993 t996 t999 t1002 true)))) else (laws_FnSetBoth.j0 k t987 t990 t993 t996 t999 t1002 true)))) = some r := by rw [if_pos rfl] at H; exact H
    clear H
    have H := H1
    clear H1
    replace H := Option.bind_eq_some_iff.mp H
    obtain ⟨t1009, A190, H⟩ := H
    replace H : ((laws_qxTexts.f k t996 t1009).bind fun t1012 => (if t1012 = true then ((spec_SetLess.f k t987 t990).bind fun t1013 => ((laws_qxTexts.f k t999 t1013).bind fun t1016 => (if t1016 = true then ((spec_SetOk.f k t987).bind fun t1017 => (if t1017 = true then ((spec_SetOk.f k t990).bind fun t1018 => (laws_FnSetBoth.j0 k t987 t990 t993 t996 t999 t1002 (!t1018))) else (laws_FnSetBoth.j0 k t987 t990 t993 t996 t999 t1002 true))) else (laws_FnSetBoth.j0 k t987 t990 t993 t996 t999 t1002 true)))) else (laws_FnSetBoth.j0 k t987 t990 t993 t996 t999 t1002 true))) = some r := H
    have A19 := Aside0.mk A190
    clear A190
    replace H := Option.bind_eq_some_iff.mp H
    obtain ⟨t1012, A200, H⟩ := H
    replace H : (if t1012 = true then ((spec_SetLess.f k t987 t990).bind fun t1013 => ((laws_qxTexts.f k t999 t1013).bind fun t1016 => (if t1016 = true then ((spec_SetOk.f k t987).bind fun t1017 => (if t1017 = true then ((spec_SetOk.f k t990).bind fun t1018 => (laws_FnSetBoth.j0 k t987 t990 t993 t996 t999 t1002 (!t1018))) else (laws_FnSetBoth.j0 k t987 t990 t993 t996 t999 t1002 true))) else (laws_FnSetBoth.j0 k t987 t990 t993 t996 t999 t1002 true)))) else (laws_FnSetBoth.j0 k t987 t990 t993 t996 t999 t1002 true)) = some r := H
    have A20 := Aside0.mk A200
    clear A200
    by_cases c21 : t1012 = true
    ·subst c21
     have H1 : ((spec_SetLess.f k t987 t990).bind fun t1013 => ((laws_qxTexts.f k t999 t1013).bind fun t1016 => (if t1016 = true then ((spec_SetOk.f k t987).bind fun t1017 => (if t1017 = true then ((spec_SetOk.f k t990).bind fun t1018 => (laws_FnSetBoth.j0 k t987 t990 t993 t996 t999 t1002 (!t1018))) else (laws_FnSetBoth.j0 k t987 t990 t993 t996 t999 t1002 true))) else (laws_FnSetBoth.j0 k t987 t990 t993 t996 t999 t1002 true)))) = some r := by rw [if_pos rfl] at H; exact H
     clear H
     have H := H1
     clear H1
     replace H := Option.bind_eq_some_iff.mp H
     obtain ⟨t1013, A220, H⟩ := H
     replace H : ((laws_qxTexts.f k t999 t1013).bind fun t1016 => (if t1016 = true then ((spec_SetOk.f k t987).bind fun t1017 => (if t1017 = true then ((spec_SetOk.f k t990).bind fun t1018 => (laws_FnSetBoth.j0 k t987 t990 t993 t996 t999 t1002 (!t1018))) else (laws_FnSetBoth.j0 k t987 t990 t993 t996 t999 t1002 true))) else (laws_FnSetBoth.j0 k t987 t990 t993 t996 t999 t1002 true))) = some r := H
     have A22 := Aside0.mk A220
     clear A220
     replace H := Option.bind_eq_some_iff.mp H
     obtain ⟨t1016, A230, H⟩ := H
     replace H : (if t1016 = true then ((spec_SetOk.f k t987).bind fun t1017 => (if t1017 = true then ((spec_SetOk.f k t990).bind fun t1018 => (laws_FnSetBoth.j0 k t987 t990 t993 t996 t999 t1002 (!t1018))) else (laws_FnSetBoth.j0 k t987 t990 t993 t996 t999 t1002 true))) else (laws_FnSetBoth.j0 k t987 t990 t993 t996 t999 t1002 true)) = some r := H
     have A23 := Aside0.mk A230
     clear A230
     by_cases c24 : t1016 = true
     ·subst c24
      have H1 : ((spec_SetOk.f k t987).bind fun t1017 => (if t1017 = true then ((spec_SetOk.f k t990).bind fun t1018 => (laws_FnSetBoth.j0 k t987 t990 t993 t996 t999 t1002 (!t1018))) else (laws_FnSetBoth.j0 k t987 t990 t993 t996 t999 t1002 true))) = some r := by rw [if_pos rfl] at H; exact H
      clear H
      have H := H1
      clear H1
      replace H := Option.bind_eq_some_iff.mp H
      obtain ⟨t1017, A250, H⟩ := H
      replace H : (if t1017 = true then ((spec_SetOk.f k t990).bind fun t1018 => (laws_FnSetBoth.j0 k t987 t990 t993 t996 t999 t1002 (!t1018))) else (laws_FnSetBoth.j0 k t987 t990 t993 t996 t999 t1002 true)) = some r := H
      have A25 := Aside0.mk A250
      clear A250
      by_cases c26 : t1017 = true
      ·subst c26
       have H1 : ((spec_SetOk.f k t990).bind fun t1018 => (laws_FnSetBoth.j0 k t987 t990 t993 t996 t999 t1002 (!t1018))) = some r := by rw [if_pos rfl] at H; exact H
       clear H
       have H := H1
       clear H1
       replace H := Option.bind_eq_some_iff.mp H
       obtain ⟨t1018, A270, H⟩ := H
       replace H : (laws_FnSetBoth.j0 k t987 t990 t993 t996 t999 t1002 (!t1018)) = some r := H
       have A27 := Aside0.mk A270
       clear A270
       have H' := Aside0.mk H
       clear H
       go_wp2_with (first | (go_at_call 45; (with_reducible refine (spec_SetBoth.calls k _ _ t987 _ _ t990 t1005 _ ?side1 ?side2 ?side3 ?side4 A16.out).mono ?_); (case side1 => repeat (first | exact (Kd.V_reads' HO989.out).2.2 | (with_reducible refine Kd.C_alloc ?_ _) | (with_reducible refine Kd.C_drewN ?_ _) | (with_reducible refine Kd.C_drew ?_))); (case side2 => exact (Kd.V_reads' HO989.out).2.1); (case side3 => repeat (first | exact (Kd.V_reads' HO992.out).2.2 | (with_reducible refine Kd.C_alloc ?_ _) | (with_reducible refine Kd.C_drewN ?_ _) | (with_reducible refine Kd.C_drew ?_))); (case side4 => exact (Kd.V_reads' HO992.out).2.1); rintro e w28 ⟨v1006, rfl, ho0, hb⟩; have n0_ := Aside0.mk (Kd.V_elder' (by (with_reducible repeat (first | apply Kd.V_alloc | apply Kd.V_drewN | apply Kd.V_drew)); exact HO989.out) (Kd.R_base ho0) hb); have n1_ := Aside0.mk (Kd.V_elder' (by (with_reducible repeat (first | apply Kd.V_alloc | apply Kd.V_drewN | apply Kd.V_drew)); exact HO992.out) (Kd.R_base ho0) hb); have n2_ := Aside0.mk (Kd.R_elder' (by (with_reducible repeat (first | apply Kd.R_alloc | apply Kd.R_drewN | apply Kd.R_drew)); exact HO995.out) (Kd.R_base ho0) hb); have n3_ := Aside0.mk (Kd.R_elder' (by (with_reducible repeat (first | apply Kd.R_alloc | apply Kd.R_drewN | apply Kd.R_drew)); exact HO998.out) (Kd.R_base ho0) hb); have n4_ := Aside0.mk (Kd.R_elder' (by (with_reducible repeat (first | apply Kd.R_alloc | apply Kd.R_drewN | apply Kd.R_drew)); exact HO1001.out) (Kd.R_base ho0) hb); have n5_ := Aside0.mk (Kd.R_elder' (by (with_reducible repeat (first | apply Kd.R_alloc | apply Kd.R_drewN | apply Kd.R_drew)); exact HO1004.out) (Kd.R_base ho0) hb); have n6_ := Aside0.mk (Kd.R_lower (Kd.R_new' (Kd.R_new' (Kd.R_new' (Kd.R_new' ho0 (Kd.R_lt (by (with_reducible repeat (first | apply Kd.R_alloc | apply Kd.R_drewN | apply Kd.R_drew)); exact HO995.out))) (Kd.R_lt (by (with_reducible repeat (first | apply Kd.R_alloc | apply Kd.R_drewN | apply Kd.R_drew)); exact HO998.out))) (Kd.R_lt (by (with_reducible repeat (first | apply Kd.R_alloc | apply Kd.R_drewN | apply Kd.R_drew)); exact HO1001.out))) (Kd.R_lt (by (with_reducible repeat (first | apply Kd.R_alloc | apply Kd.R_drewN | apply Kd.R_drew)); exact HO1004.out))) (below_size (by repeat (first | (with_reducible first | exact HB.out | apply below_alloc | apply pw_below_drewN | apply below_drew1) | exact HB.out | exact Below.refl _ _)))); have n7_ := Aside0.mk (below_step (by repeat (first | (with_reducible first | exact HB.out | apply below_alloc | apply pw_below_drewN | apply below_drew1) | exact HB.out | exact Below.refl _ _)) hb); clear HO989; clear HO992; clear HO995; clear HO998; clear HO1001; clear HO1004; clear HB; have HO989 := n0_; have HO992 := n1_; have HO995 := n2_; have HO998 := n3_; have HO1001 := n4_; have HO1004 := n5_; have HO1007 := n6_; have HB := n7_; clear n0_ n1_ n2_ n3_ n4_ n5_ n6_ n7_; (try clear hb); (try clear hb2); (try clear hk); (try clear hi); (try clear ho0); obtain ⟨Ao29, co29, eo29⟩ := Kd.R_slice HO995.out; subst eo29; obtain ⟨Ao30, co30, eo30⟩ := Kd.R_slice HO1007.out; subst eo30) | (go_at_call 35; (with_reducible refine (laws_qxTexts.calls k _ _ t993 _ _ t1005 true _ ?side1 ?side2 ?side3 ?side4 A17.out).mono ?_); (case side1 => repeat (first | exact (Kd.R_reads' HO995.out).2.2 | (with_reducible refine Kd.C_alloc ?_ _) | (with_reducible refine Kd.C_drewN ?_ _) | (with_reducible refine Kd.C_drew ?_))); (case side2 => exact (Kd.R_reads' HO995.out).2.1); (case side3 => repeat (first | exact (Kd.R_reads' HO1007.out).2.2 | (with_reducible refine Kd.C_alloc ?_ _) | (with_reducible refine Kd.C_drewN ?_ _) | (with_reducible refine Kd.C_drew ?_))); (case side4 => exact (Kd.R_reads' HO1007.out).2.1); rintro e w' ⟨rfl, ⟨nd, rfl⟩⟩; (try first | exact ⟨rfl, _, World.drewN_drewN _ _ _⟩ | exact ⟨rfl, _, Eq.trans (World.drewN_drewN _ _ _) (congrArg (World.drewN _) (Nat.add_assoc _ _ _))⟩)) | (go_at_call 11; (with_reducible refine (spec_SetAny.calls k _ _ t987 _ _ t990 t1009 _ ?side1 ?side2 ?side3 ?side4 A19.out).mono ?_); (case side1 => repeat (first | exact (Kd.V_reads' HO989.out).2.2 | (with_reducible refine Kd.C_alloc ?_ _) | (with_reducible refine Kd.C_drewN ?_ _) | (with_reducible refine Kd.C_drew ?_))); (case side2 => exact (Kd.V_reads' HO989.out).2.1); (case side3 => repeat (first | exact (Kd.V_reads' HO992.out).2.2 | (with_reducible refine Kd.C_alloc ?_ _) | (with_reducible refine Kd.C_drewN ?_ _) | (with_reducible refine Kd.C_drew ?_))); (case side4 => exact (Kd.V_reads' HO992.out).2.1); rintro e w31 ⟨v1010, rfl, ho0, hb⟩; have n0_ := Aside0.mk (Kd.V_below (by (with_reducible repeat (first | apply Kd.V_alloc | apply Kd.V_drewN | apply Kd.V_drew)); exact HO989.out) hb); have n1_ := Aside0.mk (Kd.V_below (by (with_reducible repeat (first | apply Kd.V_alloc | apply Kd.V_drewN | apply Kd.V_drew)); exact HO992.out) hb); have n2_ := Aside0.mk (Kd.R_below (by (with_reducible repeat (first | apply Kd.R_alloc | apply Kd.R_drewN | apply Kd.R_drew)); exact HO995.out) hb); have n3_ := Aside0.mk (Kd.R_below (by (with_reducible repeat (first | apply Kd.R_alloc | apply Kd.R_drewN | apply Kd.R_drew)); exact HO998.out) hb); have n4_ := Aside0.mk (Kd.R_below (by (with_reducible repeat (first | apply Kd.R_alloc | apply Kd.R_drewN | apply Kd.R_drew)); exact HO1001.out) hb); have n5_ := Aside0.mk (Kd.R_below (by (with_reducible repeat (first | apply Kd.R_alloc | apply Kd.R_drewN | apply Kd.R_drew)); exact HO1004.out) hb); have n6_ := Aside0.mk (Kd.R_below (by (with_reducible repeat (first | apply Kd.R_alloc | apply Kd.R_drewN | apply Kd.R_drew)); exact HO1007.out) hb); have n7_ := Aside0.mk (Kd.V_lower (Kd.V_mono (ok' := fun k_ => some k_ ≠ (.slice Ao29 t993.length co29 : Value).ownBlock ∧ some k_ ≠ (v997 : Value).ownBlock ∧ some k_ ≠ (v1000 : Value).ownBlock ∧ some k_ ≠ (v1003 : Value).ownBlock ∧ some k_ ≠ (.slice Ao30 t1005.length co30 : Value).ownBlock) ho0 (fun k_ hk_ => ⟨(Kd.fresh' (Kd.R_lt (by (with_reducible repeat (first | apply Kd.R_alloc | apply Kd.R_drewN | apply Kd.R_drew)); exact HO995.out)) k_ hk_), (Kd.fresh' (Kd.R_lt (by (with_reducible repeat (first | apply Kd.R_alloc | apply Kd.R_drewN | apply Kd.R_drew)); exact HO998.out)) k_ hk_), (Kd.fresh' (Kd.R_lt (by (with_reducible repeat (first | apply Kd.R_alloc | apply Kd.R_drewN | apply Kd.R_drew)); exact HO1001.out)) k_ hk_), (Kd.fresh' (Kd.R_lt (by (with_reducible repeat (first | apply Kd.R_alloc | apply Kd.R_drewN | apply Kd.R_drew)); exact HO1004.out)) k_ hk_), (Kd.fresh' (Kd.R_lt (by (with_reducible repeat (first | apply Kd.R_alloc | apply Kd.R_drewN | apply Kd.R_drew)); exact HO1007.out)) k_ hk_)⟩)) (below_size (by repeat (first | (with_reducible first | exact HB.out | apply below_alloc | apply pw_below_drewN | apply below_drew1) | exact HB.out | exact Below.refl _ _)))); have n8_ := Aside0.mk (below_step (by repeat (first | (with_reducible first | exact HB.out | apply below_alloc | apply pw_below_drewN | apply below_drew1) | exact HB.out | exact Below.refl _ _)) hb); clear HO989; clear HO992; clear HO995; clear HO998; clear HO1001; clear HO1004; clear HO1007; clear HB; have HO989 := n0_; have HO992 := n1_; have HO995 := n2_; have HO998 := n3_; have HO1001 := n4_; have HO1004 := n5_; have HO1007 := n6_; have HO1011 := n7_; have HB := n8_; clear n0_ n1_ n2_ n3_ n4_ n5_ n6_ n7_ n8_; (try clear hb); (try clear hb2); (try clear hk); (try clear hi); (try clear ho0); obtain ⟨Ao32, co32, eo32⟩ := Kd.R_slice HO998.out; subst eo32; obtain ⟨Ao33, co33, eo33⟩ := Kd.V_slice HO1011.out; subst eo33) | (go_at_call 35; (with_reducible refine (laws_qxTexts.calls k _ _ t996 _ _ t1009 true _ ?side1 ?side2 ?side3 ?side4 A20.out).mono ?_); (case side1 => repeat (first | exact (Kd.R_reads' HO998.out).2.2 | (with_reducible refine Kd.C_alloc ?_ _) | (with_reducible refine Kd.C_drewN ?_ _) | (with_reducible refine Kd.C_drew ?_))); (case side2 => exact (Kd.R_reads' HO998.out).2.1); (case side3 => repeat (first | exact (Kd.V_reads' HO1011.out).2.2 | (with_reducible refine Kd.C_alloc ?_ _) | (with_reducible refine Kd.C_drewN ?_ _) | (with_reducible refine Kd.C_drew ?_))); (case side4 => exact (Kd.V_reads' HO1011.out).2.1); rintro e w' ⟨rfl, ⟨nd, rfl⟩⟩; (try first | exact ⟨rfl, _, World.drewN_drewN _ _ _⟩ | exact ⟨rfl, _, Eq.trans (World.drewN_drewN _ _ _) (congrArg (World.drewN _) (Nat.add_assoc _ _ _))⟩)) | (go_at_call 46; (with_reducible refine (spec_SetLess.calls k _ _ t987 _ _ t990 t1013 _ ?side1 ?side2 ?side3 ?side4 A22.out).mono ?_); (case side1 => repeat (first | exact (Kd.V_reads' HO989.out).2.2 | (with_reducible refine Kd.C_alloc ?_ _) | (with_reducible refine Kd.C_drewN ?_ _) | (with_reducible refine Kd.C_drew ?_))); (case side2 => exact (Kd.V_reads' HO989.out).2.1); (case side3 => repeat (first | exact (Kd.V_reads' HO992.out).2.2 | (with_reducible refine Kd.C_alloc ?_ _) | (with_reducible refine Kd.C_drewN ?_ _) | (with_reducible refine Kd.C_drew ?_))); (case side4 => exact (Kd.V_reads' HO992.out).2.1); rintro e w34 ⟨v1014, rfl, ho0, hb⟩; have n0_ := Aside0.mk (Kd.V_elder' (by (with_reducible repeat (first | apply Kd.V_alloc | apply Kd.V_drewN | apply Kd.V_drew)); exact HO989.out) (Kd.R_base ho0) hb); have n1_ := Aside0.mk (Kd.V_elder' (by (with_reducible repeat (first | apply Kd.V_alloc | apply Kd.V_drewN | apply Kd.V_drew)); exact HO992.out) (Kd.R_base ho0) hb); have n2_ := Aside0.mk (Kd.R_elder' (by (with_reducible repeat (first | apply Kd.R_alloc | apply Kd.R_drewN | apply Kd.R_drew)); exact HO995.out) (Kd.R_base ho0) hb); have n3_ := Aside0.mk (Kd.R_elder' (by (with_reducible repeat (first | apply Kd.R_alloc | apply Kd.R_drewN | apply Kd.R_drew)); exact HO998.out) (Kd.R_base ho0) hb); have n4_ := Aside0.mk (Kd.R_elder' (by (with_reducible repeat (first | apply Kd.R_alloc | apply Kd.R_drewN | apply Kd.R_drew)); exact HO1001.out) (Kd.R_base ho0) hb); have n5_ := Aside0.mk (Kd.R_elder' (by (with_reducible repeat (first | apply Kd.R_alloc | apply Kd.R_drewN | apply Kd.R_drew)); exact HO1004.out) (Kd.R_base ho0) hb); have n6_ := Aside0.mk (Kd.R_elder' (by (with_reducible repeat (first | apply Kd.R_alloc | apply Kd.R_drewN | apply Kd.R_drew)); exact HO1007.out) (Kd.R_base ho0) hb); have n7_ := Aside0.mk (Kd.V_elder' (by (with_reducible repeat (first | apply Kd.V_alloc | apply Kd.V_drewN | apply Kd.V_drew)); exact HO1011.out) (Kd.R_base ho0) hb); have n8_ := Aside0.mk (Kd.R_lower (Kd.R_new' (Kd.R_new' (Kd.R_new' (Kd.R_new' (Kd.R_new' ho0 (Kd.R_lt (by (with_reducible repeat (first | apply Kd.R_alloc | apply Kd.R_drewN | apply Kd.R_drew)); exact HO995.out))) (Kd.R_lt (by (with_reducible repeat (first | apply Kd.R_alloc | apply Kd.R_drewN | apply Kd.R_drew)); exact HO998.out))) (Kd.R_lt (by (with_reducible repeat (first | apply Kd.R_alloc | apply Kd.R_drewN | apply Kd.R_drew)); exact HO1001.out))) (Kd.R_lt (by (with_reducible repeat (first | apply Kd.R_alloc | apply Kd.R_drewN | apply Kd.R_drew)); exact HO1004.out))) (Kd.R_lt (by (with_reducible repeat (first | apply Kd.R_alloc | apply Kd.R_drewN | apply Kd.R_drew)); exact HO1007.out))) (below_size (by repeat (first | (with_reducible first | exact HB.out | apply below_alloc | apply pw_below_drewN | apply below_drew1) | exact HB.out | exact Below.refl _ _)))); have n9_ := Aside0.mk (below_step (by repeat (first | (with_reducible first | exact HB.out | apply below_alloc | apply pw_below_drewN | apply below_drew1) | exact HB.out | exact Below.refl _ _)) hb); clear HO989; clear HO992; clear HO995; clear HO998; clear HO1001; clear HO1004; clear HO1007; clear HO1011; clear HB; have HO989 := n0_; have HO992 := n1_; have HO995 := n2_; have HO998 := n3_; have HO1001 := n4_; have HO1004 := n5_; have HO1007 := n6_; have HO1011 := n7_; have HO1015 := n8_; have HB := n9_; clear n0_ n1_ n2_ n3_ n4_ n5_ n6_ n7_ n8_ n9_; (try clear hb); (try clear hb2); (try clear hk); (try clear hi); (try clear ho0); obtain ⟨Ao35, co35, eo35⟩ := Kd.R_slice HO1001.out; subst eo35; obtain ⟨Ao36, co36, eo36⟩ := Kd.R_slice HO1015.out; subst eo36) | (go_at_call 35; (with_reducible refine (laws_qxTexts.calls k _ _ t999 _ _ t1013 true _ ?side1 ?side2 ?side3 ?side4 A23.out).mono ?_); (case side1 => repeat (first | exact (Kd.R_reads' HO1001.out).2.2 | (with_reducible refine Kd.C_alloc ?_ _) | (with_reducible refine Kd.C_drewN ?_ _) | (with_reducible refine Kd.C_drew ?_))); (case side2 => exact (Kd.R_reads' HO1001.out).2.1); (case side3 => repeat (first | exact (Kd.R_reads' HO1015.out).2.2 | (with_reducible refine Kd.C_alloc ?_ _) | (with_reducible refine Kd.C_drewN ?_ _) | (with_reducible refine Kd.C_drew ?_))); (case side4 => exact (Kd.R_reads' HO1015.out).2.1); rintro e w' ⟨rfl, ⟨nd, rfl⟩⟩; (try first | exact ⟨rfl, _, World.drewN_drewN _ _ _⟩ | exact ⟨rfl, _, Eq.trans (World.drewN_drewN _ _ _) (congrArg (World.drewN _) (Nat.add_assoc _ _ _))⟩)) | (go_at_call 37; (with_reducible refine (spec_SetOk.calls k _ _ t987 true _ ?side1 ?side2 A25.out).mono ?_); (case side1 => repeat (first | exact (Kd.V_reads' HO989.out).2.2 | (with_reducible refine Kd.C_alloc ?_ _) | (with_reducible refine Kd.C_drewN ?_ _) | (with_reducible refine Kd.C_drew ?_))); (case side2 => exact (Kd.V_reads' HO989.out).2.1); rintro e w' ⟨rfl, ⟨nd, rfl⟩⟩; (try first | exact ⟨rfl, _, World.drewN_drewN _ _ _⟩ | exact ⟨rfl, _, Eq.trans (World.drewN_drewN _ _ _) (congrArg (World.drewN _) (Nat.add_assoc _ _ _))⟩)) | (go_at_call 37; (with_reducible refine (spec_SetOk.calls k _ _ t990 t1018 _ ?side1 ?side2 A27.out).mono ?_); (case side1 => repeat (first | exact (Kd.V_reads' HO992.out).2.2 | (with_reducible refine Kd.C_alloc ?_ _) | (with_reducible refine Kd.C_drewN ?_ _) | (with_reducible refine Kd.C_drew ?_))); (case side2 => exact (Kd.V_reads' HO992.out).2.1); rintro e w' ⟨rfl, ⟨nd, rfl⟩⟩; (try first | exact ⟨rfl, _, World.drewN_drewN _ _ _⟩ | exact ⟨rfl, _, Eq.trans (World.drewN_drewN _ _ _) (congrArg (World.drewN _) (Nat.add_assoc _ _ _))⟩)))
       go_meet
       case rel => exact ⟨_, (!t1018), (by first | rfl | (simp; done) | (simp [*]; done)), H', ⟨by first | omega | exact Nat.le_refl _⟩, ⟨by (with_reducible repeat (first | apply Kd.V_alloc | apply Kd.V_drewN | apply Kd.V_drew)); exact Kd.V_mono HO989.out (fun _ hk => ⟨hk.1.1.1.1.1.2, ⟨hk.1.1.1.1.2, ⟨hk.1.1.1.2, hk.1.1.2⟩⟩⟩)⟩, ⟨by (with_reducible repeat (first | apply Kd.V_alloc | apply Kd.V_drewN | apply Kd.V_drew)); exact Kd.V_mono HO992.out (fun _ hk => ⟨hk.1.1.1.1.1.2, ⟨hk.1.1.1.1.2, ⟨hk.1.1.1.2, hk.1.1.2⟩⟩⟩)⟩, ⟨by (with_reducible repeat (first | apply Kd.R_alloc | apply Kd.R_drewN | apply Kd.R_drew)); exact Kd.R_mono HO995.out (fun _ hk => ⟨hk.1.1.1.1.2, ⟨hk.1.1.1.2, hk.1.1.2⟩⟩)⟩, ⟨by (with_reducible repeat (first | apply Kd.R_alloc | apply Kd.R_drewN | apply Kd.R_drew)); exact Kd.R_mono HO998.out (fun _ hk => ⟨hk.1.1.1.1.2, ⟨hk.1.1.1.2, hk.1.1.2⟩⟩)⟩, ⟨by (with_reducible repeat (first | apply Kd.R_alloc | apply Kd.R_drewN | apply Kd.R_drew)); exact Kd.R_mono HO1001.out (fun _ hk => ⟨hk.1.1.1.1.2, ⟨hk.1.1.1.2, hk.1.1.2⟩⟩)⟩, ⟨by (with_reducible repeat (first | apply Kd.R_alloc | apply Kd.R_drewN | apply Kd.R_drew)); exact Kd.R_mono HO1004.out (fun _ hk => ⟨hk.1.1.1.1.2, ⟨hk.1.1.1.2, hk.1.1.2⟩⟩)⟩, ⟨by repeat (first | (with_reducible first | exact HB.out | apply below_alloc | apply pw_below_drewN | apply below_drew1) | exact HB.out | exact Below.refl _ _)⟩⟩
      ·replace c26 := Bool.eq_false_iff.mpr c26
       subst c26
       have H1 : (laws_FnSetBoth.j0 k t987 t990 t993 t996 t999 t1002 true) = some r := by rw [if_neg (show ¬ (false = true) by decide)] at H; exact H
       clear H
       have H := H1
       clear H1
       have H' := Aside0.mk H
       clear H
       go_wp2_with (first | (go_at_call 45; (with_reducible refine (spec_SetBoth.calls k _ _ t987 _ _ t990 t1005 _ ?side1 ?side2 ?side3 ?side4 A16.out).mono ?_); (case side1 => repeat (first | exact (Kd.V_reads' HO989.out).2.2 | (with_reducible refine Kd.C_alloc ?_ _) | (with_reducible refine Kd.C_drewN ?_ _) | (with_reducible refine Kd.C_drew ?_))); (case side2 => exact (Kd.V_reads' HO989.out).2.1); (case side3 => repeat (first | exact (Kd.V_reads' HO992.out).2.2 | (with_reducible refine Kd.C_alloc ?_ _) | (with_reducible refine Kd.C_drewN ?_ _) | (with_reducible refine Kd.C_drew ?_))); (case side4 => exact (Kd.V_reads' HO992.out).2.1); rintro e w37 ⟨v1006, rfl, ho0, hb⟩; have n0_ := Aside0.mk (Kd.V_elder' (by (with_reducible repeat (first | apply Kd.V_alloc | apply Kd.V_drewN | apply Kd.V_drew)); exact HO989.out) (Kd.R_base ho0) hb); have n1_ := Aside0.mk (Kd.V_elder' (by (with_reducible repeat (first | apply Kd.V_alloc | apply Kd.V_drewN | apply Kd.V_drew)); exact HO992.out) (Kd.R_base ho0) hb); have n2_ := Aside0.mk (Kd.R_elder' (by (with_reducible repeat (first | apply Kd.R_alloc | apply Kd.R_drewN | apply Kd.R_drew)); exact HO995.out) (Kd.R_base ho0) hb); have n3_ := Aside0.mk (Kd.R_elder' (by (with_reducible repeat (first | apply Kd.R_alloc | apply Kd.R_drewN | apply Kd.R_drew)); exact HO998.out) (Kd.R_base ho0) hb); have n4_ := Aside0.mk (Kd.R_elder' (by (with_reducible repeat (first | apply Kd.R_alloc | apply Kd.R_drewN | apply Kd.R_drew)); exact HO1001.out) (Kd.R_base ho0) hb); have n5_ := Aside0.mk (Kd.R_elder' (by (with_reducible repeat (first | apply Kd.R_alloc | apply Kd.R_drewN | apply Kd.R_drew)); exact HO1004.out) (Kd.R_base ho0) hb); have n6_ := Aside0.mk (Kd.R_lower (Kd.R_new' (Kd.R_new' (Kd.R_new' (Kd.R_new' ho0 (Kd.R_lt (by (with_reducible repeat (first | apply Kd.R_alloc | apply Kd.R_drewN | apply Kd.R_drew)); exact HO995.out))) (Kd.R_lt (by (with_reducible repeat (first | apply Kd.R_alloc | apply Kd.R_drewN | apply Kd.R_drew)); exact HO998.out))) (Kd.R_lt (by (with_reducible repeat (first | apply Kd.R_alloc | apply Kd.R_drewN | apply Kd.R_drew)); exact HO1001.out))) (Kd.R_lt (by (with_reducible repeat (first | apply Kd.R_alloc | apply Kd.R_drewN | apply Kd.R_drew)); exact HO1004.out))) (below_size (by repeat (first | (with_reducible first | exact HB.out | apply below_alloc | apply pw_below_drewN | apply below_drew1) | exact HB.out | exact Below.refl _ _)))); have n7_ := Aside0.mk (below_step (by repeat (first | (with_reducible first | exact HB.out | apply below_alloc | apply pw_below_drewN | apply below_drew1) | exact HB.out | exact Below.refl _ _)) hb); clear HO989; clear HO992; clear HO995; clear HO998; clear HO1001; clear HO1004; clear HB; have HO989 := n0_; have HO992 := n1_; have HO995 := n2_; have HO998 := n3_; have HO1001 := n4_; have HO1004 := n5_; have HO1007 := n6_; have HB := n7_; clear n0_ n1_ n2_ n3_ n4_ n5_ n6_ n7_; (try clear hb); (try clear hb2); (try clear hk); (try clear hi); (try clear ho0); obtain ⟨Ao38, co38, eo38⟩ := Kd.R_slice HO995.out; subst eo38; obtain ⟨Ao39, co39, eo39⟩ := Kd.R_slice HO1007.out; subst eo39) | (go_at_call 35; (with_reducible refine (laws_qxTexts.calls k _ _ t993 _ _ t1005 true _ ?side1 ?side2 ?side3 ?side4 A17.out).mono ?_); (case side1 => repeat (first | exact (Kd.R_reads' HO995.out).2.2 | (with_reducible refine Kd.C_alloc ?_ _) | (with_reducible refine Kd.C_drewN ?_ _) | (with_reducible refine Kd.C_drew ?_))); (case side2 => exact (Kd.R_reads' HO995.out).2.1); (case side3 => repeat (first | exact (Kd.R_reads' HO1007.out).2.2 | (with_reducible refine Kd.C_alloc ?_ _) | (with_reducible refine Kd.C_drewN ?_ _) | (with_reducible refine Kd.C_drew ?_))); (case side4 => exact (Kd.R_reads' HO1007.out).2.1); rintro e w' ⟨rfl, ⟨nd, rfl⟩⟩; (try first | exact ⟨rfl, _, World.drewN_drewN _ _ _⟩ | exact ⟨rfl, _, Eq.trans (World.drewN_drewN _ _ _) (congrArg (World.drewN _) (Nat.add_assoc _ _ _))⟩)) | (go_at_call 11; (with_reducible refine (spec_SetAny.calls k _ _ t987 _ _ t990 t1009 _ ?side1 ?side2 ?side3 ?side4 A19.out).mono ?_); (case side1 => repeat (first | exact (Kd.V_reads' HO989.out).2.2 | (with_reducible refine Kd.C_alloc ?_ _) | (with_reducible refine Kd.C_drewN ?_ _) | (with_reducible refine Kd.C_drew ?_))); (case side2 => exact (Kd.V_reads' HO989.out).2.1); (case side3 => repeat (first | exact (Kd.V_reads' HO992.out).2.2 | (with_reducible refine Kd.C_alloc ?_ _) | (with_reducible refine Kd.C_drewN ?_ _) | (with_reducible refine Kd.C_drew ?_))); (case side4 => exact (Kd.V_reads' HO992.out).2.1); rintro e w40 ⟨v1010, rfl, ho0, hb⟩; have n0_ := Aside0.mk (Kd.V_below (by (with_reducible repeat (first | apply Kd.V_alloc | apply Kd.V_drewN | apply Kd.V_drew)); exact HO989.out) hb); have n1_ := Aside0.mk (Kd.V_below (by (with_reducible repeat (first | apply Kd.V_alloc | apply Kd.V_drewN | apply Kd.V_drew)); exact HO992.out) hb); have n2_ := Aside0.mk (Kd.R_below (by (with_reducible repeat (first | apply Kd.R_alloc | apply Kd.R_drewN | apply Kd.R_drew)); exact HO995.out) hb); have n3_ := Aside0.mk (Kd.R_below (by (with_reducible repeat (first | apply Kd.R_alloc | apply Kd.R_drewN | apply Kd.R_drew)); exact HO998.out) hb); have n4_ := Aside0.mk (Kd.R_below (by (with_reducible repeat (first | apply Kd.R_alloc | apply Kd.R_drewN | apply Kd.R_drew)); exact HO1001.out) hb); have n5_ := Aside0.mk (Kd.R_below (by (with_reducible repeat (first | apply Kd.R_alloc | apply Kd.R_drewN | apply Kd.R_drew)); exact HO1004.out) hb); have n6_ := Aside0.mk (Kd.R_below (by (with_reducible repeat (first | apply Kd.R_alloc | apply Kd.R_drewN | apply Kd.R_drew)); exact HO1007.out) hb); have n7_ := Aside0.mk (Kd.V_lower (Kd.V_mono (ok' := fun k_ => some k_ ≠ (.slice Ao38 t993.length co38 : Value).ownBlock ∧ some k_ ≠ (v997 : Value).ownBlock ∧ some k_ ≠ (v1000 : Value).ownBlock ∧ some k_ ≠ (v1003 : Value).ownBlock ∧ some k_ ≠ (.slice Ao39 t1005.length co39 : Value).ownBlock) ho0 (fun k_ hk_ => ⟨(Kd.fresh' (Kd.R_lt (by (with_reducible repeat (first | apply Kd.R_alloc | apply Kd.R_drewN | apply Kd.R_drew)); exact HO995.out)) k_ hk_), (Kd.fresh' (Kd.R_lt (by (with_reducible repeat (first | apply Kd.R_alloc | apply Kd.R_drewN | apply Kd.R_drew)); exact HO998.out)) k_ hk_), (Kd.fresh' (Kd.R_lt (by (with_reducible repeat (first | apply Kd.R_alloc | apply Kd.R_drewN | apply Kd.R_drew)); exact HO1001.out)) k_ hk_), (Kd.fresh' (Kd.R_lt (by (with_reducible repeat (first | apply Kd.R_alloc | apply Kd.R_drewN | apply Kd.R_drew)); exact HO1004.out)) k_ hk_), (Kd.fresh' (Kd.R_lt (by (with_reducible repeat (first | apply Kd.R_alloc | apply Kd.R_drewN | apply Kd.R_drew)); exact HO1007.out)) k_ hk_)⟩)) (below_size (by repeat (first | (with_reducible first | exact HB.out | apply below_alloc | apply pw_below_drewN | apply below_drew1) | exact HB.out | exact Below.refl _ _)))); have n8_ := Aside0.mk (below_step (by repeat (first | (with_reducible first | exact HB.out | apply below_alloc | apply pw_below_drewN | apply below_drew1) | exact HB.out | exact Below.refl _ _)) hb); clear HO989; clear HO992; clear HO995; clear HO998; clear HO1001; clear HO1004; clear HO1007; clear HB; have HO989 := n0_; have HO992 := n1_; have HO995 := n2_; have HO998 := n3_; have HO1001 := n4_; have HO1004 := n5_; have HO1007 := n6_; have HO1011 := n7_; have HB := n8_; clear n0_ n1_ n2_ n3_ n4_ n5_ n6_ n7_ n8_; (try clear hb); (try clear hb2); (try clear hk); (try clear hi); (try clear ho0); obtain ⟨Ao41, co41, eo41⟩ := Kd.R_slice HO998.out; subst eo41; obtain ⟨Ao42, co42, eo42⟩ := Kd.V_slice HO1011.out; subst eo42) | (go_at_call 35; (with_reducible refine (laws_qxTexts.calls k _ _ t996 _ _ t1009 true _ ?side1 ?side2 ?side3 ?side4 A20.out).mono ?_); (case side1 => repeat (first | exact (Kd.R_reads' HO998.out).2.2 | (with_reducible refine Kd.C_alloc ?_ _) | (with_reducible refine Kd.C_drewN ?_ _) | (with_reducible refine Kd.C_drew ?_))); (case side2 => exact (Kd.R_reads' HO998.out).2.1); (case side3 => repeat (first | exact (Kd.V_reads' HO1011.out).2.2 | (with_reducible refine Kd.C_alloc ?_ _) | (with_reducible refine Kd.C_drewN ?_ _) | (with_reducible refine Kd.C_drew ?_))); (case side4 => exact (Kd.V_reads' HO1011.out).2.1); rintro e w' ⟨rfl, ⟨nd, rfl⟩⟩; (try first | exact ⟨rfl, _, World.drewN_drewN _ _ _⟩ | exact ⟨rfl, _, Eq.trans (World.drewN_drewN _ _ _) (congrArg (World.drewN _) (Nat.add_assoc _ _ _))⟩)) | (go_at_call 46; (with_reducible refine (spec_SetLess.calls k _ _ t987 _ _ t990 t1013 _ ?side1 ?side2 ?side3 ?side4 A22.out).mono ?_); (case side1 => repeat (first | exact (Kd.V_reads' HO989.out).2.2 | (with_reducible refine Kd.C_alloc ?_ _) | (with_reducible refine Kd.C_drewN ?_ _) | (with_reducible refine Kd.C_drew ?_))); (case side2 => exact (Kd.V_reads' HO989.out).2.1); (case side3 => repeat (first | exact (Kd.V_reads' HO992.out).2.2 | (with_reducible refine Kd.C_alloc ?_ _) | (with_reducible refine Kd.C_drewN ?_ _) | (with_reducible refine Kd.C_drew ?_))); (case side4 => exact (Kd.V_reads' HO992.out).2.1); rintro e w43 ⟨v1014, rfl, ho0, hb⟩; have n0_ := Aside0.mk (Kd.V_elder' (by (with_reducible repeat (first | apply Kd.V_alloc | apply Kd.V_drewN | apply Kd.V_drew)); exact HO989.out) (Kd.R_base ho0) hb); have n1_ := Aside0.mk (Kd.V_elder' (by (with_reducible repeat (first | apply Kd.V_alloc | apply Kd.V_drewN | apply Kd.V_drew)); exact HO992.out) (Kd.R_base ho0) hb); have n2_ := Aside0.mk (Kd.R_elder' (by (with_reducible repeat (first | apply Kd.R_alloc | apply Kd.R_drewN | apply Kd.R_drew)); exact HO995.out) (Kd.R_base ho0) hb); have n3_ := Aside0.mk (Kd.R_elder' (by (with_reducible repeat (first | apply Kd.R_alloc | apply Kd.R_drewN | apply Kd.R_drew)); exact HO998.out) (Kd.R_base ho0) hb); have n4_ := Aside0.mk (Kd.R_elder' (by (with_reducible repeat (first | apply Kd.R_alloc | apply Kd.R_drewN | apply Kd.R_drew)); exact HO1001.out) (Kd.R_base ho0) hb); have n5_ := Aside0.mk (Kd.R_elder' (by (with_reducible repeat (first | apply Kd.R_alloc | apply Kd.R_drewN | apply Kd.R_drew)); exact HO1004.out) (Kd.R_base ho0) hb); have n6_ := Aside0.mk (Kd.R_elder' (by (with_reducible repeat (first | apply Kd.R_alloc | apply Kd.R_drewN | apply Kd.R_drew)); exact HO1007.out) (Kd.R_base ho0) hb); have n7_ := Aside0.mk (Kd.V_elder' (by (with_reducible repeat (first | apply Kd.V_alloc | apply Kd.V_drewN | apply Kd.V_drew)); exact HO1011.out) (Kd.R_base ho0) hb); have n8_ := Aside0.mk (Kd.R_lower (Kd.R_new' (Kd.R_new' (Kd.R_new' (Kd.R_new' (Kd.R_new' ho0 (Kd.R_lt (by (with_reducible repeat (first | apply Kd.R_alloc | apply Kd.R_drewN | apply Kd.R_drew)); exact HO995.out))) (Kd.R_lt (by (with_reducible repeat (first | apply Kd.R_alloc | apply Kd.R_drewN | apply Kd.R_drew)); exact HO998.out))) (Kd.R_lt (by (with_reducible repeat (first | apply Kd.R_alloc | apply Kd.R_drewN | apply Kd.R_drew)); exact HO1001.out))) (Kd.R_lt (by (with_reducible repeat (first | apply Kd.R_alloc | apply Kd.R_drewN | apply Kd.R_drew)); exact HO1004.out))) (Kd.R_lt (by (with_reducible repeat (first | apply Kd.R_alloc | apply Kd.R_drewN | apply Kd.R_drew)); exact HO1007.out))) (below_size (by repeat (first | (with_reducible first | exact HB.out | apply below_alloc | apply pw_below_drewN | apply below_drew1) | exact HB.out | exact Below.refl _ _)))); have n9_ := Aside0.mk (below_step (by repeat (first | (with_reducible first | exact HB.out | apply below_alloc | apply pw_below_drewN | apply below_drew1) | exact HB.out | exact Below.refl _ _)) hb); clear HO989; clear HO992; clear HO995; clear HO998; clear HO1001; clear HO1004; clear HO1007; clear HO1011; clear HB; have HO989 := n0_; have HO992 := n1_; have HO995 := n2_; have HO998 := n3_; have HO1001 := n4_; have HO1004 := n5_; have HO1007 := n6_; have HO1011 := n7_; have HO1015 := n8_; have HB := n9_; clear n0_ n1_ n2_ n3_ n4_ n5_ n6_ n7_ n8_ n9_; (try clear hb); (try clear hb2); (try clear hk); (try clear hi); (try clear ho0); obtain ⟨Ao44, co44, eo44⟩ := Kd.R_slice HO1001.out; subst eo44; obtain ⟨Ao45, co45, eo45⟩ := Kd.R_slice HO1015.out; subst eo45) | (go_at_call 35; (with_reducible refine (laws_qxTexts.calls k _ _ t999 _ _ t1013 true _ ?side1 ?side2 ?side3 ?side4 A23.out).mono ?_); (case side1 => repeat (first | exact (Kd.R_reads' HO1001.out).2.2 | (with_reducible refine Kd.C_alloc ?_ _) | (with_reducible refine Kd.C_drewN ?_ _) | (with_reducible refine Kd.C_drew ?_))); (case side2 => exact (Kd.R_reads' HO1001.out).2.1); (case side3 => repeat (first | exact (Kd.R_reads' HO1015.out).2.2 | (with_reducible refine Kd.C_alloc ?_ _) | (with_reducible refine Kd.C_drewN ?_ _) | (with_reducible refine Kd.C_drew ?_))); (case side4 => exact (Kd.R_reads' HO1015.out).2.1); rintro e w' ⟨rfl, ⟨nd, rfl⟩⟩; (try first | exact ⟨rfl, _, World.drewN_drewN _ _ _⟩ | exact ⟨rfl, _, Eq.trans (World.drewN_drewN _ _ _) (congrArg (World.drewN _) (Nat.add_assoc _ _ _))⟩)) | (go_at_call 37; (with_reducible refine (spec_SetOk.calls k _ _ t987 false _ ?side1 ?side2 A25.out).mono ?_); (case side1 => repeat (first | exact (Kd.V_reads' HO989.out).2.2 | (with_reducible refine Kd.C_alloc ?_ _) | (with_reducible refine Kd.C_drewN ?_ _) | (with_reducible refine Kd.C_drew ?_))); (case side2 => exact (Kd.V_reads' HO989.out).2.1); rintro e w' ⟨rfl, ⟨nd, rfl⟩⟩; (try first | exact ⟨rfl, _, World.drewN_drewN _ _ _⟩ | exact ⟨rfl, _, Eq.trans (World.drewN_drewN _ _ _) (congrArg (World.drewN _) (Nat.add_assoc _ _ _))⟩)))
       go_meet
       case rel => exact ⟨_, (true), (by first | rfl | (simp; done) | (simp [*]; done)), H', ⟨by first | omega | exact Nat.le_refl _⟩, ⟨by (with_reducible repeat (first | apply Kd.V_alloc | apply Kd.V_drewN | apply Kd.V_drew)); exact Kd.V_mono HO989.out (fun _ hk => ⟨hk.1.1.1.1.1.2, ⟨hk.1.1.1.1.2, ⟨hk.1.1.1.2, hk.1.1.2⟩⟩⟩)⟩, ⟨by (with_reducible repeat (first | apply Kd.V_alloc | apply Kd.V_drewN | apply Kd.V_drew)); exact Kd.V_mono HO992.out (fun _ hk => ⟨hk.1.1.1.1.1.2, ⟨hk.1.1.1.1.2, ⟨hk.1.1.1.2, hk.1.1.2⟩⟩⟩)⟩, ⟨by (with_reducible repeat (first | apply Kd.R_alloc | apply Kd.R_drewN | apply Kd.R_drew)); exact Kd.R_mono HO995.out (fun _ hk => ⟨hk.1.1.1.1.2, ⟨hk.1.1.1.2, hk.1.1.2⟩⟩)⟩, ⟨by (with_reducible repeat (first | apply Kd.R_alloc | apply Kd.R_drewN | apply Kd.R_drew)); exact Kd.R_mono HO998.out (fun _ hk => ⟨hk.1.1.1.1.2, ⟨hk.1.1.1.2, hk.1.1.2⟩⟩)⟩, ⟨by (with_reducible repeat (first | apply Kd.R_alloc | apply Kd.R_drewN | apply Kd.R_drew)); exact Kd.R_mono HO1001.out (fun _ hk => ⟨hk.1.1.1.1.2, ⟨hk.1.1.1.2, hk.1.1.2⟩⟩)⟩, ⟨by (with_reducible repeat (first | apply Kd.R_alloc | apply Kd.R_drewN | apply Kd.R_drew)); exact Kd.R_mono HO1004.out (fun _ hk => ⟨hk.1.1.1.1.2, ⟨hk.1.1.1.2, hk.1.1.2⟩⟩)⟩, ⟨by repeat (first | (with_reducible first | exact HB.out | apply below_alloc | apply pw_below_drewN | apply below_drew1) | exact HB.out | exact Below.refl _ _)⟩⟩
     ·replace c24 := Bool.eq_false_iff.mpr c24
      subst c24
      have H1 : (laws_FnSetBoth.j0 k t987 t990 t993 t996 t999 t1002 true) = some r := by rw [if_neg (show ¬ (false = true) by decide)] at H; exact H
      clear H
      have H := H1
      clear H1
      have H' := Aside0.mk H
      clear H
      go_wp2_with (first | (go_at_call 45; (with_reducible refine (spec_SetBoth.calls k _ _ t987 _ _ t990 t1005 _ ?side1 ?side2 ?side3 ?side4 A16.out).mono ?_); (case side1 => repeat (first | exact (Kd.V_reads' HO989.out).2.2 | (with_reducible refine Kd.C_alloc ?_ _) | (with_reducible refine Kd.C_drewN ?_ _) | (with_reducible refine Kd.C_drew ?_))); (case side2 => exact (Kd.V_reads' HO989.out).2.1); (case side3 => repeat (first | exact (Kd.V_reads' HO992.out).2.2 | (with_reducible refine Kd.C_alloc ?_ _) | (with_reducible refine Kd.C_drewN ?_ _) | (with_reducible refine Kd.C_drew ?_))); (case side4 => exact (Kd.V_reads' HO992.out).2.1); rintro e w46 ⟨v1006, rfl, ho0, hb⟩; have n0_ := Aside0.mk (Kd.V_elder' (by (with_reducible repeat (first | apply Kd.V_alloc | apply Kd.V_drewN | apply Kd.V_drew)); exact HO989.out) (Kd.R_base ho0) hb); have n1_ := Aside0.mk (Kd.V_elder' (by (with_reducible repeat (first | apply Kd.V_alloc | apply Kd.V_drewN | apply Kd.V_drew)); exact HO992.out) (Kd.R_base ho0) hb); have n2_ := Aside0.mk (Kd.R_elder' (by (with_reducible repeat (first | apply Kd.R_alloc | apply Kd.R_drewN | apply Kd.R_drew)); exact HO995.out) (Kd.R_base ho0) hb); have n3_ := Aside0.mk (Kd.R_elder' (by (with_reducible repeat (first | apply Kd.R_alloc | apply Kd.R_drewN | apply Kd.R_drew)); exact HO998.out) (Kd.R_base ho0) hb); have n4_ := Aside0.mk (Kd.R_elder' (by (with_reducible repeat (first | apply Kd.R_alloc | apply Kd.R_drewN | apply Kd.R_drew)); exact HO1001.out) (Kd.R_base ho0) hb); have n5_ := Aside0.mk (Kd.R_elder' (by (with_reducible repeat (first | apply Kd.R_alloc | apply Kd.R_drewN | apply Kd.R_drew)); exact HO1004.out) (Kd.R_base ho0) hb); have n6_ := Aside0.mk (Kd.R_lower (Kd.R_new' (Kd.R_new' (Kd.R_new' (Kd.R_new' ho0 (Kd.R_lt (by (with_reducible repeat (first | apply Kd.R_alloc | apply Kd.R_drewN | apply Kd.R_drew)); exact HO995.out))) (Kd.R_lt (by (with_reducible repeat (first | apply Kd.R_alloc | apply Kd.R_drewN | apply Kd.R_drew)); exact HO998.out))) (Kd.R_lt (by (with_reducible repeat (first | apply Kd.R_alloc | apply Kd.R_drewN | apply Kd.R_drew)); exact HO1001.out))) (Kd.R_lt (by (with_reducible repeat (first | apply Kd.R_alloc | apply Kd.R_drewN | apply Kd.R_drew)); exact HO1004.out))) (below_size (by repeat (first | (with_reducible first | exact HB.out | apply below_alloc | apply pw_below_drewN | apply below_drew1) | exact HB.out | exact Below.refl _ _)))); have n7_ := Aside0.mk (below_step (by repeat (first | (with_reducible first | exact HB.out | apply below_alloc | apply pw_below_drewN | apply below_drew1) | exact HB.out | exact Below.refl _ _)) hb); clear HO989; clear HO992; clear HO995; clear HO998; clear HO1001; clear HO1004; clear HB; have HO989 := n0_; have HO992 := n1_; have HO995 := n2_; have HO998 := n3_; have HO1001 := n4_; have HO1004 := n5_; have HO1007 := n6_; have HB := n7_; clear n0_ n1_ n2_ n3_ n4_ n5_ n6_ n7_; (try clear hb); (try clear hb2); (try clear hk); (try clear hi); (try clear ho0); obtain ⟨Ao47, co47, eo47⟩ := Kd.R_slice HO995.out; subst eo47; obtain ⟨Ao48, co48, eo48⟩ := Kd.R_slice HO1007.out; subst eo48) | (go_at_call 35; (with_reducible refine (laws_qxTexts.calls k _ _ t993 _ _ t1005 true _ ?side1 ?side2 ?side3 ?side4 A17.out).mono ?_); (case side1 => repeat (first | exact (Kd.R_reads' HO995.out).2.2 | (with_reducible refine Kd.C_alloc ?_ _) | (with_reducible refine Kd.C_drewN ?_ _) | (with_reducible refine Kd.C_drew ?_))); (case side2 => exact (Kd.R_reads' HO995.out).2.1); (case side3 => repeat (first | exact (Kd.R_reads' HO1007.out).2.2 | (with_reducible refine Kd.C_alloc ?_ _) | (with_reducible refine Kd.C_drewN ?_ _) | (with_reducible refine Kd.C_drew ?_))); (case side4 => exact (Kd.R_reads' HO1007.out).2.1); rintro e w' ⟨rfl, ⟨nd, rfl⟩⟩; (try first | exact ⟨rfl, _, World.drewN_drewN _ _ _⟩ | exact ⟨rfl, _, Eq.trans (World.drewN_drewN _ _ _) (congrArg (World.drewN _) (Nat.add_assoc _ _ _))⟩)) | (go_at_call 11; (with_reducible refine (spec_SetAny.calls k _ _ t987 _ _ t990 t1009 _ ?side1 ?side2 ?side3 ?side4 A19.out).mono ?_); (case side1 => repeat (first | exact (Kd.V_reads' HO989.out).2.2 | (with_reducible refine Kd.C_alloc ?_ _) | (with_reducible refine Kd.C_drewN ?_ _) | (with_reducible refine Kd.C_drew ?_))); (case side2 => exact (Kd.V_reads' HO989.out).2.1); (case side3 => repeat (first | exact (Kd.V_reads' HO992.out).2.2 | (with_reducible refine Kd.C_alloc ?_ _) | (with_reducible refine Kd.C_drewN ?_ _) | (with_reducible refine Kd.C_drew ?_))); (case side4 => exact (Kd.V_reads' HO992.out).2.1); rintro e w49 ⟨v1010, rfl, ho0, hb⟩; have n0_ := Aside0.mk (Kd.V_below (by (with_reducible repeat (first | apply Kd.V_alloc | apply Kd.V_drewN | apply Kd.V_drew)); exact HO989.out) hb); have n1_ := Aside0.mk (Kd.V_below (by (with_reducible repeat (first | apply Kd.V_alloc | apply Kd.V_drewN | apply Kd.V_drew)); exact HO992.out) hb); have n2_ := Aside0.mk (Kd.R_below (by (with_reducible repeat (first | apply Kd.R_alloc | apply Kd.R_drewN | apply Kd.R_drew)); exact HO995.out) hb); have n3_ := Aside0.mk (Kd.R_below (by (with_reducible repeat (first | apply Kd.R_alloc | apply Kd.R_drewN | apply Kd.R_drew)); exact HO998.out) hb); have n4_ := Aside0.mk (Kd.R_below (by (with_reducible repeat (first | apply Kd.R_alloc | apply Kd.R_drewN | apply Kd.R_drew)); exact HO1001.out) hb); have n5_ := Aside0.mk (Kd.R_below (by (with_reducible repeat (first | apply Kd.R_alloc | apply Kd.R_drewN | apply Kd.R_drew)); exact HO1004.out) hb); have n6_ := Aside0.mk (Kd.R_below (by (with_reducible repeat (first | apply Kd.R_alloc | apply Kd.R_drewN | apply Kd.R_drew)); exact HO1007.out) hb); have n7_ := Aside0.mk (Kd.V_lower (Kd.V_mono (ok' := fun k_ => some k_ ≠ (.slice Ao47 t993.length co47 : Value).ownBlock ∧ some k_ ≠ (v997 : Value).ownBlock ∧ some k_ ≠ (v1000 : Value).ownBlock ∧ some k_ ≠ (v1003 : Value).ownBlock ∧ some k_ ≠ (.slice Ao48 t1005.length co48 : Value).ownBlock) ho0 (fun k_ hk_ => ⟨(Kd.fresh' (Kd.R_lt (by (with_reducible repeat (first | apply Kd.R_alloc | apply Kd.R_drewN | apply Kd.R_drew)); exact HO995.out)) k_ hk_), (Kd.fresh' (Kd.R_lt (by (with_reducible repeat (first | apply Kd.R_alloc | apply Kd.R_drewN | apply Kd.R_drew)); exact HO998.out)) k_ hk_), (Kd.fresh' (Kd.R_lt (by (with_reducible repeat (first | apply Kd.R_alloc | apply Kd.R_drewN | apply Kd.R_drew)); exact HO1001.out)) k_ hk_), (Kd.fresh' (Kd.R_lt (by (with_reducible repeat (first | apply Kd.R_alloc | apply Kd.R_drewN | apply Kd.R_drew)); exact HO1004.out)) k_ hk_), (Kd.fresh' (Kd.R_lt (by (with_reducible repeat (first | apply Kd.R_alloc | apply Kd.R_drewN | apply Kd.R_drew)); exact HO1007.out)) k_ hk_)⟩)) (below_size (by repeat (first | (with_reducible first | exact HB.out | apply below_alloc | apply pw_below_drewN | apply below_drew1) | exact HB.out | exact Below.refl _ _)))); have n8_ := Aside0.mk (below_step (by repeat (first | (with_reducible first | exact HB.out | apply below_alloc | apply pw_below_drewN | apply below_drew1) | exact HB.out | exact Below.refl _ _)) hb); clear HO989; clear HO992; clear HO995; clear HO998; clear HO1001; clear HO1004; clear HO1007; clear HB; have HO989 := n0_; have HO992 := n1_; have HO995 := n2_; have HO998 := n3_; have HO1001 := n4_; have HO1004 := n5_; have HO1007 := n6_; have HO1011 := n7_; have HB := n8_; clear n0_ n1_ n2_ n3_ n4_ n5_ n6_ n7_ n8_; (try clear hb); (try clear hb2); (try clear hk); (try clear hi); (try clear ho0); obtain ⟨Ao50, co50, eo50⟩ := Kd.R_slice HO998.out; subst eo50; obtain ⟨Ao51, co51, eo51⟩ := Kd.V_slice HO1011.out; subst eo51) | (go_at_call 35; (with_reducible refine (laws_qxTexts.calls k _ _ t996 _ _ t1009 true _ ?side1 ?side2 ?side3 ?side4 A20.out).mono ?_); (case side1 => repeat (first | exact (Kd.R_reads' HO998.out).2.2 | (with_reducible refine Kd.C_alloc ?_ _) | (with_reducible refine Kd.C_drewN ?_ _) | (with_reducible refine Kd.C_drew ?_))); (case side2 => exact (Kd.R_reads' HO998.out).2.1); (case side3 => repeat (first | exact (Kd.V_reads' HO1011.out).2.2 | (with_reducible refine Kd.C_alloc ?_ _) | (with_reducible refine Kd.C_drewN ?_ _) | (with_reducible refine Kd.C_drew ?_))); (case side4 => exact (Kd.V_reads' HO1011.out).2.1); rintro e w' ⟨rfl, ⟨nd, rfl⟩⟩; (try first | exact ⟨rfl, _, World.drewN_drewN _ _ _⟩ | exact ⟨rfl, _, Eq.trans (World.drewN_drewN _ _ _) (congrArg (World.drewN _) (Nat.add_assoc _ _ _))⟩)) | (go_at_call 46; (with_reducible refine (spec_SetLess.calls k _ _ t987 _ _ t990 t1013 _ ?side1 ?side2 ?side3 ?side4 A22.out).mono ?_); (case side1 => repeat (first | exact (Kd.V_reads' HO989.out).2.2 | (with_reducible refine Kd.C_alloc ?_ _) | (with_reducible refine Kd.C_drewN ?_ _) | (with_reducible refine Kd.C_drew ?_))); (case side2 => exact (Kd.V_reads' HO989.out).2.1); (case side3 => repeat (first | exact (Kd.V_reads' HO992.out).2.2 | (with_reducible refine Kd.C_alloc ?_ _) | (with_reducible refine Kd.C_drewN ?_ _) | (with_reducible refine Kd.C_drew ?_))); (case side4 => exact (Kd.V_reads' HO992.out).2.1); rintro e w52 ⟨v1014, rfl, ho0, hb⟩; have n0_ := Aside0.mk (Kd.V_elder' (by (with_reducible repeat (first | apply Kd.V_alloc | apply Kd.V_drewN | apply Kd.V_drew)); exact HO989.out) (Kd.R_base ho0) hb); have n1_ := Aside0.mk (Kd.V_elder' (by (with_reducible repeat (first | apply Kd.V_alloc | apply Kd.V_drewN | apply Kd.V_drew)); exact HO992.out) (Kd.R_base ho0) hb); have n2_ := Aside0.mk (Kd.R_elder' (by (with_reducible repeat (first | apply Kd.R_alloc | apply Kd.R_drewN | apply Kd.R_drew)); exact HO995.out) (Kd.R_base ho0) hb); have n3_ := Aside0.mk (Kd.R_elder' (by (with_reducible repeat (first | apply Kd.R_alloc | apply Kd.R_drewN | apply Kd.R_drew)); exact HO998.out) (Kd.R_base ho0) hb); have n4_ := Aside0.mk (Kd.R_elder' (by (with_reducible repeat (first | apply Kd.R_alloc | apply Kd.R_drewN | apply Kd.R_drew)); exact HO1001.out) (Kd.R_base ho0) hb); have n5_ := Aside0.mk (Kd.R_elder' (by (with_reducible repeat (first | apply Kd.R_alloc | apply Kd.R_drewN | apply Kd.R_drew)); exact HO1004.out) (Kd.R_base ho0) hb); have n6_ := Aside0.mk (Kd.R_elder' (by (with_reducible repeat (first | apply Kd.R_alloc | apply Kd.R_drewN | apply Kd.R_drew)); exact HO1007.out) (Kd.R_base ho0) hb); have n7_ := Aside0.mk (Kd.V_elder' (by (with_reducible repeat (first | apply Kd.V_alloc | apply Kd.V_drewN | apply Kd.V_drew)); exact HO1011.out) (Kd.R_base ho0) hb); have n8_ := Aside0.mk (Kd.R_lower (Kd.R_new' (Kd.R_new' (Kd.R_new' (Kd.R_new' (Kd.R_new' ho0 (Kd.R_lt (by (with_reducible repeat (first | apply Kd.R_alloc | apply Kd.R_drewN | apply Kd.R_drew)); exact HO995.out))) (Kd.R_lt (by (with_reducible repeat (first | apply Kd.R_alloc | apply Kd.R_drewN | apply Kd.R_drew)); exact HO998.out))) (Kd.R_lt (by (with_reducible repeat (first | apply Kd.R_alloc | apply Kd.R_drewN | apply Kd.R_drew)); exact HO1001.out))) (Kd.R_lt (by (with_reducible repeat (first | apply Kd.R_alloc | apply Kd.R_drewN | apply Kd.R_drew)); exact HO1004.out))) (Kd.R_lt (by (with_reducible repeat (first | apply Kd.R_alloc | apply Kd.R_drewN | apply Kd.R_drew)); exact HO1007.out))) (below_size (by repeat (first | (with_reducible first | exact HB.out | apply below_alloc | apply pw_below_drewN | apply below_drew1) | exact HB.out | exact Below.refl _ _)))); have n9_ := Aside0.mk (below_step (by repeat (first | (with_reducible first | exact HB.out | apply below_alloc | apply pw_below_drewN | apply below_drew1) | exact HB.out | exact Below.refl _ _)) hb); clear HO989; clear HO992; clear HO995; clear HO998; clear HO1001; clear HO1004; clear HO1007; clear HO1011; clear HB; have HO989 := n0_; have HO992 := n1_; have HO995 := n2_; have HO998 := n3_; have HO1001 := n4_; have HO1004 := n5_; have HO1007 := n6_; have HO1011 := n7_; have HO1015 := n8_; have HB := n9_; clear n0_ n1_ n2_ n3_ n4_ n5_ n6_ n7_ n8_ n9_; (try clear hb); (try clear hb2); (try clear hk); (try clear hi); (try clear ho0); obtain ⟨Ao53, co53, eo53⟩ := Kd.R_slice HO1001.out; subst eo53; obtain ⟨Ao54, co54, eo54⟩ := Kd.R_slice HO1015.out; subst eo54) | (go_at_call 35; (with_reducible refine (laws_qxTexts.calls k _ _ t999 _ _ t1013 false _ ?side1 ?side2 ?side3 ?side4 A23.out).mono ?_); (case side1 => repeat (first | exact (Kd.R_reads' HO1001.out).2.2 | (with_reducible refine Kd.C_alloc ?_ _) | (with_reducible refine Kd.C_drewN ?_ _) | (with_reducible refine Kd.C_drew ?_))); (case side2 => exact (Kd.R_reads' HO1001.out).2.1); (case side3 => repeat (first | exact (Kd.R_reads' HO1015.out).2.2 | (with_reducible refine Kd.C_alloc ?_ _) | (with_reducible refine Kd.C_drewN ?_ _) | (with_reducible refine Kd.C_drew ?_))); (case side4 => exact (Kd.R_reads' HO1015.out).2.1); rintro e w' ⟨rfl, ⟨nd, rfl⟩⟩; (try first | exact ⟨rfl, _, World.drewN_drewN _ _ _⟩ | exact ⟨rfl, _, Eq.trans (World.drewN_drewN _ _ _) (congrArg (World.drewN _) (Nat.add_assoc _ _ _))⟩)))
      go_meet
      case rel => exact ⟨_, (true), (by first | rfl | (simp; done) | (simp [*]; done)), H', ⟨by first | omega | exact Nat.le_refl _⟩, ⟨by (with_reducible repeat (first | apply Kd.V_alloc | apply Kd.V_drewN | apply Kd.V_drew)); exact Kd.V_mono HO989.out (fun _ hk => ⟨hk.1.1.1.1.1.2, ⟨hk.1.1.1.1.2, ⟨hk.1.1.1.2, hk.1.1.2⟩⟩⟩)⟩, ⟨by (with_reducible repeat (first | apply Kd.V_alloc | apply Kd.V_drewN | apply Kd.V_drew)); exact Kd.V_mono HO992.out (fun _ hk => ⟨hk.1.1.1.1.1.2, ⟨hk.1.1.1.1.2, ⟨hk.1.1.1.2, hk.1.1.2⟩⟩⟩)⟩, ⟨by (with_reducible repeat (first | apply Kd.R_alloc | apply Kd.R_drewN | apply Kd.R_drew)); exact Kd.R_mono HO995.out (fun _ hk => ⟨hk.1.1.1.1.2, ⟨hk.1.1.1.2, hk.1.1.2⟩⟩)⟩, ⟨by (with_reducible repeat (first | apply Kd.R_alloc | apply Kd.R_drewN | apply Kd.R_drew)); exact Kd.R_mono HO998.out (fun _ hk => ⟨hk.1.1.1.1.2, ⟨hk.1.1.1.2, hk.1.1.2⟩⟩)⟩, ⟨by (with_reducible repeat (first | apply Kd.R_alloc | apply Kd.R_drewN | apply Kd.R_drew)); exact Kd.R_mono HO1001.out (fun _ hk => ⟨hk.1.1.1.1.2, ⟨hk.1.1.1.2, hk.1.1.2⟩⟩)⟩, ⟨by (with_reducible repeat (first | apply Kd.R_alloc | apply Kd.R_drewN | apply Kd.R_drew)); exact Kd.R_mono HO1004.out (fun _ hk => ⟨hk.1.1.1.1.2, ⟨hk.1.1.1.2, hk.1.1.2⟩⟩)⟩, ⟨by repeat (first | (with_reducible first | exact HB.out | apply below_alloc | apply pw_below_drewN | apply below_drew1) | exact HB.out | exact Below.refl _ _)⟩⟩
    ·replace c21 := Bool.eq_false_iff.mpr c21
     subst c21
     have H1 : (laws_FnSetBoth.j0 k t987 t990 t993 t996 t999 t1002 true) = some r := by rw [if_neg (show ¬ (false = true) by decide)] at H; exact H
     clear H
     have H := H1
     clear H1
     have H' := Aside0.mk H
     clear H
     go_wp2_with (first | (go_at_call 45; (with_reducible refine (spec_SetBoth.calls k _ _ t987 _ _ t990 t1005 _ ?side1 ?side2 ?side3 ?side4 A16.out).mono ?_); (case side1 => repeat (first | exact (Kd.V_reads' HO989.out).2.2 | (with_reducible refine Kd.C_alloc ?_ _) | (with_reducible refine Kd.C_drewN ?_ _) | (with_reducible refine Kd.C_drew ?_))); (case side2 => exact (Kd.V_reads' HO989.out).2.1); (case side3 => repeat (first | exact (Kd.V_reads' HO992.out).2.2 | (with_reducible refine Kd.C_alloc ?_ _) | (with_reducible refine Kd.C_drewN ?_ _) | (with_reducible refine Kd.C_drew ?_))); (case side4 => exact (Kd.V_reads' HO992.out).2.1); rintro e w55 ⟨v1006, rfl, ho0, hb⟩; have n0_ := Aside0.mk (Kd.V_elder' (by (with_reducible repeat (first | apply Kd.V_alloc | apply Kd.V_drewN | apply Kd.V_drew)); exact HO989.out) (Kd.R_base ho0) hb); have n1_ := Aside0.mk (Kd.V_elder' (by (with_reducible repeat (first | apply Kd.V_alloc | apply Kd.V_drewN | apply Kd.V_drew)); exact HO992.out) (Kd.R_base ho0) hb); have n2_ := Aside0.mk (Kd.R_elder' (by (with_reducible repeat (first | apply Kd.R_alloc | apply Kd.R_drewN | apply Kd.R_drew)); exact HO995.out) (Kd.R_base ho0) hb); have n3_ := Aside0.mk (Kd.R_elder' (by (with_reducible repeat (first | apply Kd.R_alloc | apply Kd.R_drewN | apply Kd.R_drew)); exact HO998.out) (Kd.R_base ho0) hb); have n4_ := Aside0.mk (Kd.R_elder' (by (with_reducible repeat (first | apply Kd.R_alloc | apply Kd.R_drewN | apply Kd.R_drew)); exact HO1001.out) (Kd.R_base ho0) hb); have n5_ := Aside0.mk (Kd.R_elder' (by (with_reducible repeat (first | apply Kd.R_alloc | apply Kd.R_drewN | apply Kd.R_drew)); exact HO1004.out) (Kd.R_base ho0) hb); have n6_ := Aside0.mk (Kd.R_lower (Kd.R_new' (Kd.R_new' (Kd.R_new' (Kd.R_new' ho0 (Kd.R_lt (by (with_reducible repeat (first | apply Kd.R_alloc | apply Kd.R_drewN | apply Kd.R_drew)); exact HO995.out))) (Kd.R_lt (by (with_reducible repeat (first | apply Kd.R_alloc | apply Kd.R_drewN | apply Kd.R_drew)); exact HO998.out))) (Kd.R_lt (by (with_reducible repeat (first | apply Kd.R_alloc | apply Kd.R_drewN | apply Kd.R_drew)); exact HO1001.out))) (Kd.R_lt (by (with_reducible repeat (first | apply Kd.R_alloc | apply Kd.R_drewN | apply Kd.R_drew)); exact HO1004.out))) (below_size (by repeat (first | (with_reducible first | exact HB.out | apply below_alloc | apply pw_below_drewN | apply below_drew1) | exact HB.out | exact Below.refl _ _)))); have n7_ := Aside0.mk (below_step (by repeat (first | (with_reducible first | exact HB.out | apply below_alloc | apply pw_below_drewN | apply below_drew1) | exact HB.out | exact Below.refl _ _)) hb); clear HO989; clear HO992; clear HO995; clear HO998; clear HO1001; clear HO1004; clear HB; have HO989 := n0_; have HO992 := n1_; have HO995 := n2_; have HO998 := n3_; have HO1001 := n4_; have HO1004 := n5_; have HO1007 := n6_; have HB := n7_; clear n0_ n1_ n2_ n3_ n4_ n5_ n6_ n7_; (try clear hb); (try clear hb2); (try clear hk); (try clear hi); (try clear ho0); obtain ⟨Ao56, co56, eo56⟩ := Kd.R_slice HO995.out; subst eo56; obtain ⟨Ao57, co57, eo57⟩ := Kd.R_slice HO1007.out; subst eo57) | (go_at_call 35; (with_reducible refine (laws_qxTexts.calls k _ _ t993 _ _ t1005 true _ ?side1 ?side2 ?side3 ?side4 A17.out).mono ?_); (case side1 => repeat (first | exact (Kd.R_reads' HO995.out).2.2 | (with_reducible refine Kd.C_alloc ?_ _) | (with_reducible refine Kd.C_drewN ?_ _) | (with_reducible refine Kd.C_drew ?_))); (case side2 => exact (Kd.R_reads' HO995.out).2.1); (case side3 => repeat (first | exact (Kd.R_reads' HO1007.out).2.2 | (with_reducible refine Kd.C_alloc ?_ _) | (with_reducible refine Kd.C_drewN ?_ _) | (with_reducible refine Kd.C_drew ?_))); (case side4 => exact (Kd.R_reads' HO1007.out).2.1); rintro e w' ⟨rfl, ⟨nd, rfl⟩⟩; (try first | exact ⟨rfl, _, World.drewN_drewN _ _ _⟩ | exact ⟨rfl, _, Eq.trans (World.drewN_drewN _ _ _) (congrArg (World.drewN _) (Nat.add_assoc _ _ _))⟩)) | (go_at_call 11; (with_reducible refine (spec_SetAny.calls k _ _ t987 _ _ t990 t1009 _ ?side1 ?side2 ?side3 ?side4 A19.out).mono ?_); (case side1 => repeat (first | exact (Kd.V_reads' HO989.out).2.2 | (with_reducible refine Kd.C_alloc ?_ _) | (with_reducible refine Kd.C_drewN ?_ _) | (with_reducible refine Kd.C_drew ?_))); (case side2 => exact (Kd.V_reads' HO989.out).2.1); (case side3 => repeat (first | exact (Kd.V_reads' HO992.out).2.2 | (with_reducible refine Kd.C_alloc ?_ _) | (with_reducible refine Kd.C_drewN ?_ _) | (with_reducible refine Kd.C_drew ?_))); (case side4 => exact (Kd.V_reads' HO992.out).2.1); rintro e w58 ⟨v1010, rfl, ho0, hb⟩; have n0_ := Aside0.mk (Kd.V_below (by (with_reducible repeat (first | apply Kd.V_alloc | apply Kd.V_drewN | apply Kd.V_drew)); exact HO989.out) hb); have n1_ := Aside0.mk (Kd.V_below (by (with_reducible repeat (first | apply Kd.V_alloc | apply Kd.V_drewN | apply Kd.V_drew)); exact HO992.out) hb); have n2_ := Aside0.mk (Kd.R_below (by (with_reducible repeat (first | apply Kd.R_alloc | apply Kd.R_drewN | apply Kd.R_drew)); exact HO995.out) hb); have n3_ := Aside0.mk (Kd.R_below (by (with_reducible repeat (first | apply Kd.R_alloc | apply Kd.R_drewN | apply Kd.R_drew)); exact HO998.out) hb); have n4_ := Aside0.mk (Kd.R_below (by (with_reducible repeat (first | apply Kd.R_alloc | apply Kd.R_drewN | apply Kd.R_drew)); exact HO1001.out) hb); have n5_ := Aside0.mk (Kd.R_below (by (with_reducible repeat (first | apply Kd.R_alloc | apply Kd.R_drewN | apply Kd.R_drew)); exact HO1004.out) hb); have n6_ := Aside0.mk (Kd.R_below (by (with_reducible repeat (first | apply Kd.R_alloc | apply Kd.R_drewN | apply Kd.R_drew)); exact HO1007.out) hb); have n7_ := Aside0.mk (Kd.V_lower (Kd.V_mono (ok' := fun k_ => some k_ ≠ (.slice Ao56 t993.length co56 : Value).ownBlock ∧ some k_ ≠ (v997 : Value).ownBlock ∧ some k_ ≠ (v1000 : Value).ownBlock ∧ some k_ ≠ (v1003 : Value).ownBlock ∧ some k_ ≠ (.slice Ao57 t1005.length co57 : Value).ownBlock) ho0 (fun k_ hk_ => ⟨(Kd.fresh' (Kd.R_lt (by (with_reducible repeat (first | apply Kd.R_alloc | apply Kd.R_drewN | apply Kd.R_drew)); exact HO995.out)) k_ hk_), (Kd.fresh' (Kd.R_lt (by (with_reducible repeat (first | apply Kd.R_alloc | apply Kd.R_drewN | apply Kd.R_drew)); exact HO998.out)) k_ hk_), (Kd.fresh' (Kd.R_lt (by (with_reducible repeat (first | apply Kd.R_alloc | apply Kd.R_drewN | apply Kd.R_drew)); exact HO1001.out)) k_ hk_), (Kd.fresh' (Kd.R_lt (by (with_reducible repeat (first | apply Kd.R_alloc | apply Kd.R_drewN | apply Kd.R_drew)); exact HO1004.out)) k_ hk_), (Kd.fresh' (Kd.R_lt (by (with_reducible repeat (first | apply Kd.R_alloc | apply Kd.R_drewN | apply Kd.R_drew)); exact HO1007.out)) k_ hk_)⟩)) (below_size (by repeat (first | (with_reducible first | exact HB.out | apply below_alloc | apply pw_below_drewN | apply below_drew1) | exact HB.out | exact Below.refl _ _)))); have n8_ := Aside0.mk (below_step (by repeat (first | (with_reducible first | exact HB.out | apply below_alloc | apply pw_below_drewN | apply below_drew1) | exact HB.out | exact Below.refl _ _)) hb); clear HO989; clear HO992; clear HO995; clear HO998; clear HO1001; clear HO1004; clear HO1007; clear HB; have HO989 := n0_; have HO992 := n1_; have HO995 := n2_; have HO998 := n3_; have HO1001 := n4_; have HO1004 := n5_; have HO1007 := n6_; have HO1011 := n7_; have HB := n8_; clear n0_ n1_ n2_ n3_ n4_ n5_ n6_ n7_ n8_; (try clear hb); (try clear hb2); (try clear hk); (try clear hi); (try clear ho0); obtain ⟨Ao59, co59, eo59⟩ := Kd.R_slice HO998.out; subst eo59; obtain ⟨Ao60, co60, eo60⟩ := Kd.V_slice HO1011.out; subst eo60) | (go_at_call 35; (with_reducible refine (laws_qxTexts.calls k _ _ t996 _ _ t1009 false _ ?side1 ?side2 ?side3 ?side4 A20.out).mono ?_); (case side1 => repeat (first | exact (Kd.R_reads' HO998.out).2.2 | (with_reducible refine Kd.C_alloc ?_ _) | (with_reducible refine Kd.C_drewN ?_ _) | (with_reducible refine Kd.C_drew ?_))); (case side2 => exact (Kd.R_reads' HO998.out).2.1); (case side3 => repeat (first | exact (Kd.V_reads' HO1011.out).2.2 | (with_reducible refine Kd.C_alloc ?_ _) | (with_reducible refine Kd.C_drewN ?_ _) | (with_reducible refine Kd.C_drew ?_))); (case side4 => exact (Kd.V_reads' HO1011.out).2.1); rintro e w' ⟨rfl, ⟨nd, rfl⟩⟩; (try first | exact ⟨rfl, _, World.drewN_drewN _ _ _⟩ | exact ⟨rfl, _, Eq.trans (World.drewN_drewN _ _ _) (congrArg (World.drewN _) (Nat.add_assoc _ _ _))⟩)))
     go_meet
     case rel => exact ⟨_, (true), (by first | rfl | (simp; done) | (simp [*]; done)), H', ⟨by first | omega | exact Nat.le_refl _⟩, ⟨by (with_reducible repeat (first | apply Kd.V_alloc | apply Kd.V_drewN | apply Kd.V_drew)); exact Kd.V_mono HO989.out (fun _ hk => ⟨hk.1.1.1.1.2, ⟨hk.1.1.1.2, ⟨hk.1.1.2, hk.1.2⟩⟩⟩)⟩, ⟨by (with_reducible repeat (first | apply Kd.V_alloc | apply Kd.V_drewN | apply Kd.V_drew)); exact Kd.V_mono HO992.out (fun _ hk => ⟨hk.1.1.1.1.2, ⟨hk.1.1.1.2, ⟨hk.1.1.2, hk.1.2⟩⟩⟩)⟩, ⟨by (with_reducible repeat (first | apply Kd.R_alloc | apply Kd.R_drewN | apply Kd.R_drew)); exact Kd.R_mono HO995.out (fun _ hk => ⟨hk.1.1.1.2, ⟨hk.1.1.2, hk.1.2⟩⟩)⟩, ⟨by (with_reducible repeat (first | apply Kd.R_alloc | apply Kd.R_drewN | apply Kd.R_drew)); exact Kd.R_mono HO998.out (fun _ hk => ⟨hk.1.1.1.2, ⟨hk.1.1.2, hk.1.2⟩⟩)⟩, ⟨by (with_reducible repeat (first | apply Kd.R_alloc | apply Kd.R_drewN | apply Kd.R_drew)); exact Kd.R_mono HO1001.out (fun _ hk => ⟨hk.1.1.1.2, ⟨hk.1.1.2, hk.1.2⟩⟩)⟩, ⟨by (with_reducible repeat (first | apply Kd.R_alloc | apply Kd.R_drewN | apply Kd.R_drew)); exact Kd.R_mono HO1004.out (fun _ hk => ⟨hk.1.1.1.2, ⟨hk.1.1.2, hk.1.2⟩⟩)⟩, ⟨by repeat (first | (with_reducible first | exact HB.out | apply below_alloc | apply pw_below_drewN | apply below_drew1) | exact HB.out | exact Below.refl _ _)⟩⟩
   ·replace c18 := Bool.eq_false_iff.mpr c18
    subst c18
    have H1 : (laws_FnSetBoth.j0 k t987 t990 t993 t996 t999 t1002 true) = some r := by rw [if_neg (show ¬ (false = true) by decide)] at H; exact H
    clear H
    have H := H1
    clear H1
    have H' := Aside0.mk H
    clear H
    go_wp2_with (first | (go_at_call 45; (with_reducible refine (spec_SetBoth.calls k _ _ t987 _ _ t990 t1005 _ ?side1 ?side2 ?side3 ?side4 A16.out).mono ?_); (case side1 => repeat (first | exact (Kd.V_reads' HO989.out).2.2 | (with_reducible refine Kd.C_alloc ?_ _) | (with_reducible refine Kd.C_drewN ?_ _) | (with_reducible refine Kd.C_drew ?_))); (case side2 => exact (Kd.V_reads' HO989.out).2.1); (case side3 => repeat (first | exact (Kd.V_reads' HO992.out).2.2 | (with_reducible refine Kd.C_alloc ?_ _) | (with_reducible refine Kd.C_drewN ?_ _) | (with_reducible refine Kd.C_drew ?_))); (case side4 => exact (Kd.V_reads' HO992.out).2.1); rintro e w61 ⟨v1006, rfl, ho0, hb⟩; have n0_ := Aside0.mk (Kd.V_elder' (by (with_reducible repeat (first | apply Kd.V_alloc | apply Kd.V_drewN | apply Kd.V_drew)); exact HO989.out) (Kd.R_base ho0) hb); have n1_ := Aside0.mk (Kd.V_elder' (by (with_reducible repeat (first | apply Kd.V_alloc | apply Kd.V_drewN | apply Kd.V_drew)); exact HO992.out) (Kd.R_base ho0) hb); have n2_ := Aside0.mk (Kd.R_elder' (by (with_reducible repeat (first | apply Kd.R_alloc | apply Kd.R_drewN | apply Kd.R_drew)); exact HO995.out) (Kd.R_base ho0) hb); have n3_ := Aside0.mk (Kd.R_elder' (by (with_reducible repeat (first | apply Kd.R_alloc | apply Kd.R_drewN | apply Kd.R_drew)); exact HO998.out) (Kd.R_base ho0) hb); have n4_ := Aside0.mk (Kd.R_elder' (by (with_reducible repeat (first | apply Kd.R_alloc | apply Kd.R_drewN | apply Kd.R_drew)); exact HO1001.out) (Kd.R_base ho0) hb); have n5_ := Aside0.mk (Kd.R_elder' (by (with_reducible repeat (first | apply Kd.R_alloc | apply Kd.R_drewN | apply Kd.R_drew)); exact HO1004.out) (Kd.R_base ho0) hb); have n6_ := Aside0.mk (Kd.R_lower (Kd.R_new' (Kd.R_new' (Kd.R_new' (Kd.R_new' ho0 (Kd.R_lt (by (with_reducible repeat (first | apply Kd.R_alloc | apply Kd.R_drewN | apply Kd.R_drew)); exact HO995.out))) (Kd.R_lt (by (with_reducible repeat (first | apply Kd.R_alloc | apply Kd.R_drewN | apply Kd.R_drew)); exact HO998.out))) (Kd.R_lt (by (with_reducible repeat (first | apply Kd.R_alloc | apply Kd.R_drewN | apply Kd.R_drew)); exact HO1001.out))) (Kd.R_lt (by (with_reducible repeat (first | apply Kd.R_alloc | apply Kd.R_drewN | apply Kd.R_drew)); exact HO1004.out))) (below_size (by repeat (first | (with_reducible first | exact HB.out | apply below_alloc | apply pw_below_drewN | apply below_drew1) | exact HB.out | exact Below.refl _ _)))); have n7_ := Aside0.mk (below_step (by repeat (first | (with_reducible first | exact HB.out | apply below_alloc | apply pw_below_drewN | apply below_drew1) | exact HB.out | exact Below.refl _ _)) hb); clear HO989; clear HO992; clear HO995; clear HO998; clear HO1001; clear HO1004; clear HB; have HO989 := n0_; have HO992 := n1_; have HO995 := n2_; have HO998 := n3_; have HO1001 := n4_; have HO1004 := n5_; have HO1007 := n6_; have HB := n7_; clear n0_ n1_ n2_ n3_ n4_ n5_ n6_ n7_; (try clear hb); (try clear hb2); (try clear hk); (try clear hi); (try clear ho0); obtain ⟨Ao62, co62, eo62⟩ := Kd.R_slice HO995.out; subst eo62; obtain ⟨Ao63, co63, eo63⟩ := Kd.R_slice HO1007.out; subst eo63) | (go_at_call 35; (with_reducible refine (laws_qxTexts.calls k _ _ t993 _ _ t1005 false _ ?side1 ?side2 ?side3 ?side4 A17.out).mono ?_); (case side1 => repeat (first | exact (Kd.R_reads' HO995.out).2.2 | (with_reducible refine Kd.C_alloc ?_ _) | (with_reducible refine Kd.C_drewN ?_ _) | (with_reducible refine Kd.C_drew ?_))); (case side2 => exact (Kd.R_reads' HO995.out).2.1); (case side3 => repeat (first | exact (Kd.R_reads' HO1007.out).2.2 | (with_reducible refine Kd.C_alloc ?_ _) | (with_reducible refine Kd.C_drewN ?_ _) | (with_reducible refine Kd.C_drew ?_))); (case side4 => exact (Kd.R_reads' HO1007.out).2.1); rintro e w' ⟨rfl, ⟨nd, rfl⟩⟩; (try first | exact ⟨rfl, _, World.drewN_drewN _ _ _⟩ | exact ⟨rfl, _, Eq.trans (World.drewN_drewN _ _ _) (congrArg (World.drewN _) (Nat.add_assoc _ _ _))⟩)))
    go_meet
    case rel => exact ⟨_, (true), (by first | rfl | (simp; done) | (simp [*]; done)), H', ⟨by first | omega | exact Nat.le_refl _⟩, ⟨by (with_reducible repeat (first | apply Kd.V_alloc | apply Kd.V_drewN | apply Kd.V_drew)); exact Kd.V_mono HO989.out (fun _ hk => ⟨hk.1.1.1.1.2, ⟨hk.1.1.1.2, ⟨hk.1.1.2, hk.1.2⟩⟩⟩)⟩, ⟨by (with_reducible repeat (first | apply Kd.V_alloc | apply Kd.V_drewN | apply Kd.V_drew)); exact Kd.V_mono HO992.out (fun _ hk => ⟨hk.1.1.1.1.2, ⟨hk.1.1.1.2, ⟨hk.1.1.2, hk.1.2⟩⟩⟩)⟩, ⟨by (with_reducible repeat (first | apply Kd.R_alloc | apply Kd.R_drewN | apply Kd.R_drew)); exact Kd.R_mono HO995.out (fun _ hk => ⟨hk.1.1.1.2, ⟨hk.1.1.2, hk.1.2⟩⟩)⟩, ⟨by (with_reducible repeat (first | apply Kd.R_alloc | apply Kd.R_drewN | apply Kd.R_drew)); exact Kd.R_mono HO998.out (fun _ hk => ⟨hk.1.1.1.2, ⟨hk.1.1.2, hk.1.2⟩⟩)⟩, ⟨by (with_reducible repeat (first | apply Kd.R_alloc | apply Kd.R_drewN | apply Kd.R_drew)); exact Kd.R_mono HO1001.out (fun _ hk => ⟨hk.1.1.1.2, ⟨hk.1.1.2, hk.1.2⟩⟩)⟩, ⟨by (with_reducible repeat (first | apply Kd.R_alloc | apply Kd.R_drewN | apply Kd.R_drew)); exact Kd.R_mono HO1004.out (fun _ hk => ⟨hk.1.1.1.2, ⟨hk.1.1.2, hk.1.2⟩⟩)⟩, ⟨by repeat (first | (with_reducible first | exact HB.out | apply below_alloc | apply pw_below_drewN | apply below_drew1) | exact HB.out | exact Below.refl _ _)⟩⟩
  case rest =>
   clear HC8
   try clear c1
   try clear c2
   try clear c2b0
   try clear c2b1
   try clear p2
   try clear c9
   try clear c18
   try clear c21
   try clear c24
   try clear c26
   obtain ⟨kq, x62_7, rfl, HA, HJ7, HO_3, HO_4, HO_5, HO_6, HO_7, HO_8, HB⟩ := hcut
   cases kq with
   | zero => exact absurd HA.out (by simp [laws_FnSetBoth.j0])
   | succ kj7 =>
    have H := HA.out
    clear HA
    simp only [laws_FnSetBoth.j0] at H
    by_cases c64 : x62_7 = true
    ·subst c64
     have H1 : ((spec_SetBoth.f kj7 t987 t990).bind fun t1019 => ((laws_qxTexts.f kj7 t993 t1019).bind fun t1022 => (if t1022 = true then ((spec_SetAny.f kj7 t987 t990).bind fun t1023 => ((laws_qxTexts.f kj7 t996 t1023).bind fun t1026 => (if t1026 = true then ((spec_SetLess.f kj7 t987 t990).bind fun t1027 => ((laws_qxTexts.f kj7 t999 t1027).bind fun t1030 => (some t1030))) else (some false)))) else (some false)))) = some r := by rw [if_pos rfl] at H; exact H
     clear H
     have H := H1
     clear H1
     replace H := Option.bind_eq_some_iff.mp H
     obtain ⟨t1019, A650, H⟩ := H
     replace H : ((laws_qxTexts.f kj7 t993 t1019).bind fun t1022 => (if t1022 = true then ((spec_SetAny.f kj7 t987 t990).bind fun t1023 => ((laws_qxTexts.f kj7 t996 t1023).bind fun t1026 => (if t1026 = true then ((spec_SetLess.f kj7 t987 t990).bind fun t1027 => ((laws_qxTexts.f kj7 t999 t1027).bind fun t1030 => (some t1030))) else (some false)))) else (some false))) = some r := H
     have A65 := Aside0.mk A650
     clear A650
     replace H := Option.bind_eq_some_iff.mp H
     obtain ⟨t1022, A660, H⟩ := H
     replace H : (if t1022 = true then ((spec_SetAny.f kj7 t987 t990).bind fun t1023 => ((laws_qxTexts.f kj7 t996 t1023).bind fun t1026 => (if t1026 = true then ((spec_SetLess.f kj7 t987 t990).bind fun t1027 => ((laws_qxTexts.f kj7 t999 t1027).bind fun t1030 => (some t1030))) else (some false)))) else (some false)) = some r := H
     have A66 := Aside0.mk A660
     clear A660
     by_cases c67 : t1022 = true
     ·subst c67
      have H1 : ((spec_SetAny.f kj7 t987 t990).bind fun t1023 => ((laws_qxTexts.f kj7 t996 t1023).bind fun t1026 => (if t1026 = true then ((spec_SetLess.f kj7 t987 t990).bind fun t1027 => ((laws_qxTexts.f kj7 t999 t1027).bind fun t1030 => (some t1030))) else (some false)))) = some r := by rw [if_pos rfl] at H; exact H
      clear H
      have H := H1
      clear H1
      replace H := Option.bind_eq_some_iff.mp H
      obtain ⟨t1023, A680, H⟩ := H
      replace H : ((laws_qxTexts.f kj7 t996 t1023).bind fun t1026 => (if t1026 = true then ((spec_SetLess.f kj7 t987 t990).bind fun t1027 => ((laws_qxTexts.f kj7 t999 t1027).bind fun t1030 => (some t1030))) else (some false))) = some r := H
      have A68 := Aside0.mk A680
      clear A680
      replace H := Option.bind_eq_some_iff.mp H
      obtain ⟨t1026, A690, H⟩ := H
      replace H : (if t1026 = true then ((spec_SetLess.f kj7 t987 t990).bind fun t1027 => ((laws_qxTexts.f kj7 t999 t1027).bind fun t1030 => (some t1030))) else (some false)) = some r := H
      have A69 := Aside0.mk A690
      clear A690
      by_cases c70 : t1026 = true
      ·subst c70
       have H1 : ((spec_SetLess.f kj7 t987 t990).bind fun t1027 => ((laws_qxTexts.f kj7 t999 t1027).bind fun t1030 => (some t1030))) = some r := by rw [if_pos rfl] at H; exact H
       clear H
       have H := H1
       clear H1
       replace H := Option.bind_eq_some_iff.mp H
       obtain ⟨t1027, A710, H⟩ := H
       replace H : ((laws_qxTexts.f kj7 t999 t1027).bind fun t1030 => (some t1030)) = some r := H
       have A71 := Aside0.mk A710
       clear A710
       replace H := Option.bind_eq_some_iff.mp H
       obtain ⟨t1030, A720, H⟩ := H
       replace H : (some t1030) = some r := H
       have A72 := Aside0.mk A720
       clear A720
       obtain rfl := Option.some.inj H
       go_wp2_with (first | (go_at_call 45; (with_reducible refine (spec_SetBoth.calls kj7 _ _ t987 _ _ t990 t1019 _ ?side1 ?side2 ?side3 ?side4 A65.out).mono ?_); (case side1 => repeat (first | exact (Kd.V_reads' HO_3.out).2.2 | (with_reducible refine Kd.C_alloc ?_ _) | (with_reducible refine Kd.C_drewN ?_ _) | (with_reducible refine Kd.C_drew ?_))); (case side2 => exact (Kd.V_reads' HO_3.out).2.1); (case side3 => repeat (first | exact (Kd.V_reads' HO_4.out).2.2 | (with_reducible refine Kd.C_alloc ?_ _) | (with_reducible refine Kd.C_drewN ?_ _) | (with_reducible refine Kd.C_drew ?_))); (case side4 => exact (Kd.V_reads' HO_4.out).2.1); rintro e w73 ⟨v1020, rfl, ho0, hb⟩; have n0_ := Aside0.mk (Kd.V_elder' (by (with_reducible repeat (first | apply Kd.V_alloc | apply Kd.V_drewN | apply Kd.V_drew)); exact HO_3.out) (Kd.R_base ho0) hb); have n1_ := Aside0.mk (Kd.V_elder' (by (with_reducible repeat (first | apply Kd.V_alloc | apply Kd.V_drewN | apply Kd.V_drew)); exact HO_4.out) (Kd.R_base ho0) hb); have n2_ := Aside0.mk (Kd.R_elder' (by (with_reducible repeat (first | apply Kd.R_alloc | apply Kd.R_drewN | apply Kd.R_drew)); exact HO_5.out) (Kd.R_base ho0) hb); have n3_ := Aside0.mk (Kd.R_elder' (by (with_reducible repeat (first | apply Kd.R_alloc | apply Kd.R_drewN | apply Kd.R_drew)); exact HO_6.out) (Kd.R_base ho0) hb); have n4_ := Aside0.mk (Kd.R_elder' (by (with_reducible repeat (first | apply Kd.R_alloc | apply Kd.R_drewN | apply Kd.R_drew)); exact HO_7.out) (Kd.R_base ho0) hb); have n5_ := Aside0.mk (Kd.R_elder' (by (with_reducible repeat (first | apply Kd.R_alloc | apply Kd.R_drewN | apply Kd.R_drew)); exact HO_8.out) (Kd.R_base ho0) hb); have n6_ := Aside0.mk (Kd.R_lower (Kd.R_new' (Kd.R_new' (Kd.R_new' (Kd.R_new' ho0 (Kd.R_lt (by (with_reducible repeat (first | apply Kd.R_alloc | apply Kd.R_drewN | apply Kd.R_drew)); exact HO_5.out))) (Kd.R_lt (by (with_reducible repeat (first | apply Kd.R_alloc | apply Kd.R_drewN | apply Kd.R_drew)); exact HO_6.out))) (Kd.R_lt (by (with_reducible repeat (first | apply Kd.R_alloc | apply Kd.R_drewN | apply Kd.R_drew)); exact HO_7.out))) (Kd.R_lt (by (with_reducible repeat (first | apply Kd.R_alloc | apply Kd.R_drewN | apply Kd.R_drew)); exact HO_8.out))) (below_size (by repeat (first | (with_reducible first | exact HB.out | apply below_alloc | apply pw_below_drewN | apply below_drew1) | exact HB.out | exact Below.refl _ _)))); have n7_ := Aside0.mk (below_step (by repeat (first | (with_reducible first | exact HB.out | apply below_alloc | apply pw_below_drewN | apply below_drew1) | exact HB.out | exact Below.refl _ _)) hb); clear HO_3; clear HO_4; clear HO_5; clear HO_6; clear HO_7; clear HO_8; clear HB; have HO_3 := n0_; have HO_4 := n1_; have HO_5 := n2_; have HO_6 := n3_; have HO_7 := n4_; have HO_8 := n5_; have HO1021 := n6_; have HB := n7_; clear n0_ n1_ n2_ n3_ n4_ n5_ n6_ n7_; (try clear hb); (try clear hb2); (try clear hk); (try clear hi); (try clear ho0); obtain ⟨Ao74, co74, eo74⟩ := Kd.R_slice HO_5.out; subst eo74; obtain ⟨Ao75, co75, eo75⟩ := Kd.R_slice HO1021.out; subst eo75) | (go_at_call 35; (with_reducible refine (laws_qxTexts.calls kj7 _ _ t993 _ _ t1019 true _ ?side1 ?side2 ?side3 ?side4 A66.out).mono ?_); (case side1 => repeat (first | exact (Kd.R_reads' HO_5.out).2.2 | (with_reducible refine Kd.C_alloc ?_ _) | (with_reducible refine Kd.C_drewN ?_ _) | (with_reducible refine Kd.C_drew ?_))); (case side2 => exact (Kd.R_reads' HO_5.out).2.1); (case side3 => repeat (first | exact (Kd.R_reads' HO1021.out).2.2 | (with_reducible refine Kd.C_alloc ?_ _) | (with_reducible refine Kd.C_drewN ?_ _) | (with_reducible refine Kd.C_drew ?_))); (case side4 => exact (Kd.R_reads' HO1021.out).2.1); rintro e w' ⟨rfl, ⟨nd, rfl⟩⟩; (try first | exact ⟨rfl, _, World.drewN_drewN _ _ _⟩ | exact ⟨rfl, _, Eq.trans (World.drewN_drewN _ _ _) (congrArg (World.drewN _) (Nat.add_assoc _ _ _))⟩)) | (go_at_call 11; (with_reducible refine (spec_SetAny.calls kj7 _ _ t987 _ _ t990 t1023 _ ?side1 ?side2 ?side3 ?side4 A68.out).mono ?_); (case side1 => repeat (first | exact (Kd.V_reads' HO_3.out).2.2 | (with_reducible refine Kd.C_alloc ?_ _) | (with_reducible refine Kd.C_drewN ?_ _) | (with_reducible refine Kd.C_drew ?_))); (case side2 => exact (Kd.V_reads' HO_3.out).2.1); (case side3 => repeat (first | exact (Kd.V_reads' HO_4.out).2.2 | (with_reducible refine Kd.C_alloc ?_ _) | (with_reducible refine Kd.C_drewN ?_ _) | (with_reducible refine Kd.C_drew ?_))); (case side4 => exact (Kd.V_reads' HO_4.out).2.1); rintro e w76 ⟨v1024, rfl, ho0, hb⟩; have n0_ := Aside0.mk (Kd.V_below (by (with_reducible repeat (first | apply Kd.V_alloc | apply Kd.V_drewN | apply Kd.V_drew)); exact HO_3.out) hb); have n1_ := Aside0.mk (Kd.V_below (by (with_reducible repeat (first | apply Kd.V_alloc | apply Kd.V_drewN | apply Kd.V_drew)); exact HO_4.out) hb); have n2_ := Aside0.mk (Kd.R_below (by (with_reducible repeat (first | apply Kd.R_alloc | apply Kd.R_drewN | apply Kd.R_drew)); exact HO_5.out) hb); have n3_ := Aside0.mk (Kd.R_below (by (with_reducible repeat (first | apply Kd.R_alloc | apply Kd.R_drewN | apply Kd.R_drew)); exact HO_6.out) hb); have n4_ := Aside0.mk (Kd.R_below (by (with_reducible repeat (first | apply Kd.R_alloc | apply Kd.R_drewN | apply Kd.R_drew)); exact HO_7.out) hb); have n5_ := Aside0.mk (Kd.R_below (by (with_reducible repeat (first | apply Kd.R_alloc | apply Kd.R_drewN | apply Kd.R_drew)); exact HO_8.out) hb); have n6_ := Aside0.mk (Kd.R_below (by (with_reducible repeat (first | apply Kd.R_alloc | apply Kd.R_drewN | apply Kd.R_drew)); exact HO1021.out) hb); have n7_ := Aside0.mk (Kd.V_lower (Kd.V_mono (ok' := fun k_ => some k_ ≠ (.slice Ao74 t993.length co74 : Value).ownBlock ∧ some k_ ≠ (v997 : Value).ownBlock ∧ some k_ ≠ (v1000 : Value).ownBlock ∧ some k_ ≠ (v1003 : Value).ownBlock ∧ some k_ ≠ (.slice Ao75 t1019.length co75 : Value).ownBlock) ho0 (fun k_ hk_ => ⟨(Kd.fresh' (Kd.R_lt (by (with_reducible repeat (first | apply Kd.R_alloc | apply Kd.R_drewN | apply Kd.R_drew)); exact HO_5.out)) k_ hk_), (Kd.fresh' (Kd.R_lt (by (with_reducible repeat (first | apply Kd.R_alloc | apply Kd.R_drewN | apply Kd.R_drew)); exact HO_6.out)) k_ hk_), (Kd.fresh' (Kd.R_lt (by (with_reducible repeat (first | apply Kd.R_alloc | apply Kd.R_drewN | apply Kd.R_drew)); exact HO_7.out)) k_ hk_), (Kd.fresh' (Kd.R_lt (by (with_reducible repeat (first | apply Kd.R_alloc | apply Kd.R_drewN | apply Kd.R_drew)); exact HO_8.out)) k_ hk_), (Kd.fresh' (Kd.R_lt (by (with_reducible repeat (first | apply Kd.R_alloc | apply Kd.R_drewN | apply Kd.R_drew)); exact HO1021.out)) k_ hk_)⟩)) (below_size (by repeat (first | (with_reducible first | exact HB.out | apply below_alloc | apply pw_below_drewN | apply below_drew1) | exact HB.out | exact Below.refl _ _)))); have n8_ := Aside0.mk (below_step (by repeat (first | (with_reducible first | exact HB.out | apply below_alloc | apply pw_below_drewN | apply below_drew1) | exact HB.out | exact Below.refl _ _)) hb); clear HO_3; clear HO_4; clear HO_5; clear HO_6; clear HO_7; clear HO_8; clear HO1021; clear HB; have HO_3 := n0_; have HO_4 := n1_; have HO_5 := n2_; have HO_6 := n3_; have HO_7 := n4_; have HO_8 := n5_; have HO1021 := n6_; have HO1025 := n7_; have HB := n8_; clear n0_ n1_ n2_ n3_ n4_ n5_ n6_ n7_ n8_; (try clear hb); (try clear hb2); (try clear hk); (try clear hi); (try clear ho0); obtain ⟨Ao77, co77, eo77⟩ := Kd.R_slice HO_6.out; subst eo77; obtain ⟨Ao78, co78, eo78⟩ := Kd.V_slice HO1025.out; subst eo78) | (go_at_call 35; (with_reducible refine (laws_qxTexts.calls kj7 _ _ t996 _ _ t1023 true _ ?side1 ?side2 ?side3 ?side4 A69.out).mono ?_); (case side1 => repeat (first | exact (Kd.R_reads' HO_6.out).2.2 | (with_reducible refine Kd.C_alloc ?_ _) | (with_reducible refine Kd.C_drewN ?_ _) | (with_reducible refine Kd.C_drew ?_))); (case side2 => exact (Kd.R_reads' HO_6.out).2.1); (case side3 => repeat (first | exact (Kd.V_reads' HO1025.out).2.2 | (with_reducible refine Kd.C_alloc ?_ _) | (with_reducible refine Kd.C_drewN ?_ _) | (with_reducible refine Kd.C_drew ?_))); (case side4 => exact (Kd.V_reads' HO1025.out).2.1); rintro e w' ⟨rfl, ⟨nd, rfl⟩⟩; (try first | exact ⟨rfl, _, World.drewN_drewN _ _ _⟩ | exact ⟨rfl, _, Eq.trans (World.drewN_drewN _ _ _) (congrArg (World.drewN _) (Nat.add_assoc _ _ _))⟩)) | (go_at_call 46; (with_reducible refine (spec_SetLess.calls kj7 _ _ t987 _ _ t990 t1027 _ ?side1 ?side2 ?side3 ?side4 A71.out).mono ?_); (case side1 => repeat (first | exact (Kd.V_reads' HO_3.out).2.2 | (with_reducible refine Kd.C_alloc ?_ _) | (with_reducible refine Kd.C_drewN ?_ _) | (with_reducible refine Kd.C_drew ?_))); (case side2 => exact (Kd.V_reads' HO_3.out).2.1); (case side3 => repeat (first | exact (Kd.V_reads' HO_4.out).2.2 | (with_reducible refine Kd.C_alloc ?_ _) | (with_reducible refine Kd.C_drewN ?_ _) | (with_reducible refine Kd.C_drew ?_))); (case side4 => exact (Kd.V_reads' HO_4.out).2.1); rintro e w79 ⟨v1028, rfl, ho0, hb⟩; have n0_ := Aside0.mk (Kd.V_elder' (by (with_reducible repeat (first | apply Kd.V_alloc | apply Kd.V_drewN | apply Kd.V_drew)); exact HO_3.out) (Kd.R_base ho0) hb); have n1_ := Aside0.mk (Kd.V_elder' (by (with_reducible repeat (first | apply Kd.V_alloc | apply Kd.V_drewN | apply Kd.V_drew)); exact HO_4.out) (Kd.R_base ho0) hb); have n2_ := Aside0.mk (Kd.R_elder' (by (with_reducible repeat (first | apply Kd.R_alloc | apply Kd.R_drewN | apply Kd.R_drew)); exact HO_5.out) (Kd.R_base ho0) hb); have n3_ := Aside0.mk (Kd.R_elder' (by (with_reducible repeat (first | apply Kd.R_alloc | apply Kd.R_drewN | apply Kd.R_drew)); exact HO_6.out) (Kd.R_base ho0) hb); have n4_ := Aside0.mk (Kd.R_elder' (by (with_reducible repeat (first | apply Kd.R_alloc | apply Kd.R_drewN | apply Kd.R_drew)); exact HO_7.out) (Kd.R_base ho0) hb); have n5_ := Aside0.mk (Kd.R_elder' (by (with_reducible repeat (first | apply Kd.R_alloc | apply Kd.R_drewN | apply Kd.R_drew)); exact HO_8.out) (Kd.R_base ho0) hb); have n6_ := Aside0.mk (Kd.R_elder' (by (with_reducible repeat (first | apply Kd.R_alloc | apply Kd.R_drewN | apply Kd.R_drew)); exact HO1021.out) (Kd.R_base ho0) hb); have n7_ := Aside0.mk (Kd.V_elder' (by (with_reducible repeat (first | apply Kd.V_alloc | apply Kd.V_drewN | apply Kd.V_drew)); exact HO1025.out) (Kd.R_base ho0) hb); have n8_ := Aside0.mk (Kd.R_lower (Kd.R_new' (Kd.R_new' (Kd.R_new' (Kd.R_new' (Kd.R_new' ho0 (Kd.R_lt (by (with_reducible repeat (first | apply Kd.R_alloc | apply Kd.R_drewN | apply Kd.R_drew)); exact HO_5.out))) (Kd.R_lt (by (with_reducible repeat (first | apply Kd.R_alloc | apply Kd.R_drewN | apply Kd.R_drew)); exact HO_6.out))) (Kd.R_lt (by (with_reducible repeat (first | apply Kd.R_alloc | apply Kd.R_drewN | apply Kd.R_drew)); exact HO_7.out))) (Kd.R_lt (by (with_reducible repeat (first | apply Kd.R_alloc | apply Kd.R_drewN | apply Kd.R_drew)); exact HO_8.out))) (Kd.R_lt (by (with_reducible repeat (first | apply Kd.R_alloc | apply Kd.R_drewN | apply Kd.R_drew)); exact HO1021.out))) (below_size (by repeat (first | (with_reducible first | exact HB.out | apply below_alloc | apply pw_below_drewN | apply below_drew1) | exact HB.out | exact Below.refl _ _)))); have n9_ := Aside0.mk (below_step (by repeat (first | (with_reducible first | exact HB.out | apply below_alloc | apply pw_below_drewN | apply below_drew1) | exact HB.out | exact Below.refl _ _)) hb); clear HO_3; clear HO_4; clear HO_5; clear HO_6; clear HO_7; clear HO_8; clear HO1021; clear HO1025; clear HB; have HO_3 := n0_; have HO_4 := n1_; have HO_5 := n2_; have HO_6 := n3_; have HO_7 := n4_; have HO_8 := n5_; have HO1021 := n6_; have HO1025 := n7_; have HO1029 := n8_; have HB := n9_; clear n0_ n1_ n2_ n3_ n4_ n5_ n6_ n7_ n8_ n9_; (try clear hb); (try clear hb2); (try clear hk); (try clear hi); (try clear ho0); obtain ⟨Ao80, co80, eo80⟩ := Kd.R_slice HO_7.out; subst eo80; obtain ⟨Ao81, co81, eo81⟩ := Kd.R_slice HO1029.out; subst eo81) | (go_at_call 35; (with_reducible refine (laws_qxTexts.calls kj7 _ _ t999 _ _ t1027 t1030 _ ?side1 ?side2 ?side3 ?side4 A72.out).mono ?_); (case side1 => repeat (first | exact (Kd.R_reads' HO_7.out).2.2 | (with_reducible refine Kd.C_alloc ?_ _) | (with_reducible refine Kd.C_drewN ?_ _) | (with_reducible refine Kd.C_drew ?_))); (case side2 => exact (Kd.R_reads' HO_7.out).2.1); (case side3 => repeat (first | exact (Kd.R_reads' HO1029.out).2.2 | (with_reducible refine Kd.C_alloc ?_ _) | (with_reducible refine Kd.C_drewN ?_ _) | (with_reducible refine Kd.C_drew ?_))); (case side4 => exact (Kd.R_reads' HO1029.out).2.1); rintro e w' ⟨rfl, ⟨nd, rfl⟩⟩; (try first | exact ⟨rfl, _, World.drewN_drewN _ _ _⟩ | exact ⟨rfl, _, Eq.trans (World.drewN_drewN _ _ _) (congrArg (World.drewN _) (Nat.add_assoc _ _ _))⟩)))
       go_ret
       exact ⟨by first | rfl | (simp [errW_none, errW_some] <;> rfl) | (simp [*, errW_none, errW_some] <;> rfl), by repeat (first | (with_reducible first | exact HB.out | apply below_alloc | apply pw_below_drewN | apply below_drew1) | exact HB.out | exact Below.refl _ _)⟩
      ·replace c70 := Bool.eq_false_iff.mpr c70
       subst c70
       have H1 : (some false) = some r := by rw [if_neg (show ¬ (false = true) by decide)] at H; exact H
       clear H
       have H := H1
       clear H1
       obtain rfl := Option.some.inj H
       cases hr_
     ·replace c67 := Bool.eq_false_iff.mpr c67
      subst c67
      have H1 : (some false) = some r := by rw [if_neg (show ¬ (false = true) by decide)] at H; exact H
      clear H
      have H := H1
      clear H1
      obtain rfl := Option.some.inj H
      cases hr_
    ·replace c64 := Bool.eq_false_iff.mpr c64
     subst c64
     have H1 : (laws_FnSetBoth.l0 kj7 t987 t990 t993 t996 t999 t1002 0) = some r := by rw [if_neg (show ¬ (false = true) by decide)] at H; exact H
     clear H
     have H := H1
     clear H1
     have H' := Aside0.mk H
     clear H
     go_wp2
     go_loopg [9] kj7 (fun kq v9 w' => ∃ (x9_2 : Int), v9 = .int .i64 x9_2 ∧ Aside0 (laws_FnSetBoth.l0 kq t987 t990 t993 t996 t999 t1002 x9_2 = some r) ∧ Aside0 (kq ≤ kj7) ∧ Aside0 (Kd.V Kd.string 9 w' w.heap.size (fun k_ => some k_ ≠ (v994 : Value).ownBlock ∧ some k_ ≠ (v997 : Value).ownBlock ∧ some k_ ≠ (v1000 : Value).ownBlock ∧ some k_ ≠ (v1003 : Value).ownBlock) (.slice Ao10 t987.length co10) t987) ∧ Aside0 (Kd.V Kd.string 9 w' w.heap.size (fun k_ => some k_ ≠ (v994 : Value).ownBlock ∧ some k_ ≠ (v997 : Value).ownBlock ∧ some k_ ≠ (v1000 : Value).ownBlock ∧ some k_ ≠ (v1003 : Value).ownBlock) (.slice Ao11 t990.length co11) t990) ∧ Aside0 (Kd.R Kd.string 9 w' w.heap.size (fun k_ => some k_ ≠ (v997 : Value).ownBlock ∧ some k_ ≠ (v1000 : Value).ownBlock ∧ some k_ ≠ (v1003 : Value).ownBlock) v994 t993) ∧ Aside0 (Kd.R Kd.string 9 w' w.heap.size (fun k_ => some k_ ≠ (v994 : Value).ownBlock ∧ some k_ ≠ (v1000 : Value).ownBlock ∧ some k_ ≠ (v1003 : Value).ownBlock) v997 t996) ∧ Aside0 (Kd.R Kd.string 9 w' w.heap.size (fun k_ => some k_ ≠ (v994 : Value).ownBlock ∧ some k_ ≠ (v997 : Value).ownBlock ∧ some k_ ≠ (v1003 : Value).ownBlock) v1000 t999) ∧ Aside0 (Kd.R Kd.string 9 w' w.heap.size (fun k_ => some k_ ≠ (v994 : Value).ownBlock ∧ some k_ ≠ (v997 : Value).ownBlock ∧ some k_ ≠ (v1000 : Value).ownBlock) v1003 t1002) ∧ Aside0 (Below w.heap.size w w'))
     case atStart => exact ⟨(0), (by first | rfl | (simp; done) | (simp [*]; done)), H', ⟨Nat.le_refl _⟩, ⟨by (with_reducible repeat (first | apply Kd.V_alloc | apply Kd.V_drewN | apply Kd.V_drew)); exact HO_3.out⟩, ⟨by (with_reducible repeat (first | apply Kd.V_alloc | apply Kd.V_drewN | apply Kd.V_drew)); exact HO_4.out⟩, ⟨by (with_reducible repeat (first | apply Kd.R_alloc | apply Kd.R_drewN | apply Kd.R_drew)); exact HO_5.out⟩, ⟨by (with_reducible repeat (first | apply Kd.R_alloc | apply Kd.R_drewN | apply Kd.R_drew)); exact HO_6.out⟩, ⟨by (with_reducible repeat (first | apply Kd.R_alloc | apply Kd.R_drewN | apply Kd.R_drew)); exact HO_7.out⟩, ⟨by (with_reducible repeat (first | apply Kd.R_alloc | apply Kd.R_drewN | apply Kd.R_drew)); exact HO_8.out⟩, ⟨by repeat (first | (with_reducible first | exact HB.out | apply below_alloc | apply pw_below_drewN | apply below_drew1) | exact HB.out | exact Below.refl _ _)⟩⟩
     case round =>
      clear H'
      try clear c1
      try clear c2
      try clear c2b0
      try clear c2b1
      try clear p2
      try clear c6
      try clear c7
      try clear c9
      try clear c18
      try clear c21
      try clear c24
      try clear c26
      try clear c64
      try clear c67
      try clear c70
      try clear p2
      obtain ⟨x9_2, rfl, HA, HK2, HO_3, HO_4, HO_5, HO_6, HO_7, HO_8, HB⟩ := hrel
      cases gk with
      | zero => exact absurd HA.out (by simp [laws_FnSetBoth.l0])
      | succ k2 =>
       have H := HA.out
       clear HA
       simp only [laws_FnSetBoth.l0] at H
       by_cases c91 : x9_2 < (t996.length : Int)
       ·rw [if_pos c91] at H
        have c91b0 : decide (x9_2 < (t996.length : Int)) = true := decide_eq_true c91
        clear c91
        by_cases c92 : 0 ≤ x9_2
        ·rw [if_pos c92] at H
         have c92b0 : decide (0 ≤ x9_2) = true := decide_eq_true c92
         clear c92
         replace H := Option.bind_eq_some_iff.mp H
         obtain ⟨t1032, A930, H⟩ := H
         replace H : (if t1032 = true then (laws_FnSetBoth.j2 k2 t987 t990 t993 t996 t999 t1002 x9_2 (0 + 1)) else (laws_FnSetBoth.j2 k2 t987 t990 t993 t996 t999 t1002 x9_2 0)) = some r := H
         have A93 := Aside0.mk A930
         clear A930
         have HC94 := Aside0.mk H
         clear H
         obtain ⟨Ao95, co95, eo95⟩ := Kd.R_slice HO_6.out
         subst eo95
         have p1031 : 0 ≤ (x9_2 : Int) := of_decide_eq_true (by first | (with_reducible assumption) | assumption)
         have q1031 : x9_2 < (t996.length : Int) := of_decide_eq_true (by first | (with_reducible assumption) | assumption)
         obtain ⟨ad1031, e1031, hx1031_0⟩ := Kd.at_string (Kd.R_reads' HO_6.out).2.2 x9_2 p1031 q1031
         cases e1031
         replace p1031 := eq_true p1031
         replace q1031 := eq_true q1031
         obtain ⟨Ao96, co96, eo96⟩ := Kd.R_slice HO_5.out
         subst eo96
         go_upto_if 93 with (first | (go_at_call 38; (with_reducible refine (laws_qxHas.calls k2 _ _ t993 (rdOf ByteArray.empty t996 x9_2) t1032 _ ?side1 ?side2 A93.out).mono ?_); (case side1 => repeat (first | exact (Kd.R_reads' HO_5.out).2.2 | (with_reducible refine Kd.C_alloc ?_ _) | (with_reducible refine Kd.C_drewN ?_ _) | (with_reducible refine Kd.C_drew ?_))); (case side2 => exact (Kd.R_reads' HO_5.out).2.1); rintro e w' ⟨rfl, ⟨nd, rfl⟩⟩; (try first | exact ⟨rfl, _, World.drewN_drewN _ _ _⟩ | exact ⟨rfl, _, Eq.trans (World.drewN_drewN _ _ _) (congrArg (World.drewN _) (Nat.add_assoc _ _ _))⟩)))
         (try simp only [Act.put, List.setIfInBounds_toArray, List.set_cons_zero, List.set_cons_succ])
         go_cut [10] (fun v10 wc => ∃ (kq : Nat) (x10_93 : Int), v10 = .int .i64 x10_93 ∧ Aside0 (laws_FnSetBoth.j2 kq t987 t990 t993 t996 t999 t1002 x9_2 x10_93 = some r) ∧ Aside0 (kq ≤ k2) ∧ Aside0 (Kd.V Kd.string 9 wc w.heap.size (fun k_ => some k_ ≠ ((.slice Ao96 t993.length co96) : Value).ownBlock ∧ some k_ ≠ ((.slice (some ad1031) t996.length co95) : Value).ownBlock ∧ some k_ ≠ (v1000 : Value).ownBlock ∧ some k_ ≠ (v1003 : Value).ownBlock) (.slice Ao10 t987.length co10) t987) ∧ Aside0 (Kd.V Kd.string 9 wc w.heap.size (fun k_ => some k_ ≠ ((.slice Ao96 t993.length co96) : Value).ownBlock ∧ some k_ ≠ ((.slice (some ad1031) t996.length co95) : Value).ownBlock ∧ some k_ ≠ (v1000 : Value).ownBlock ∧ some k_ ≠ (v1003 : Value).ownBlock) (.slice Ao11 t990.length co11) t990) ∧ Aside0 (Kd.R Kd.string 9 wc w.heap.size (fun k_ => some k_ ≠ ((.slice (some ad1031) t996.length co95) : Value).ownBlock ∧ some k_ ≠ (v1000 : Value).ownBlock ∧ some k_ ≠ (v1003 : Value).ownBlock) (.slice Ao96 t993.length co96) t993) ∧ Aside0 (Kd.R Kd.string 9 wc w.heap.size (fun k_ => some k_ ≠ ((.slice Ao96 t993.length co96) : Value).ownBlock ∧ some k_ ≠ (v1000 : Value).ownBlock ∧ some k_ ≠ (v1003 : Value).ownBlock) (.slice (some ad1031) t996.length co95) t996) ∧ Aside0 (Kd.R Kd.string 9 wc w.heap.size (fun k_ => some k_ ≠ ((.slice Ao96 t993.length co96) : Value).ownBlock ∧ some k_ ≠ ((.slice (some ad1031) t996.length co95) : Value).ownBlock ∧ some k_ ≠ (v1003 : Value).ownBlock) v1000 t999) ∧ Aside0 (Kd.R Kd.string 9 wc w.heap.size (fun k_ => some k_ ≠ ((.slice Ao96 t993.length co96) : Value).ownBlock ∧ some k_ ≠ ((.slice (some ad1031) t996.length co95) : Value).ownBlock ∧ some k_ ≠ (v1000 : Value).ownBlock) v1003 t1002) ∧ Aside0 (Below w.heap.size w wc))
         case first =>
          have H := HC94.out
          clear HC94
          by_cases c97 : t1032 = true
          ·subst c97
           have H1 : (laws_FnSetBoth.j2 k2 t987 t990 t993 t996 t999 t1002 x9_2 (0 + 1)) = some r := by rw [if_pos rfl] at H; exact H
           clear H
           have H := H1
           clear H1
           have H' := Aside0.mk H
           clear H
           go_wp2
           go_meet
           case rel => exact ⟨_, (0 + 1), (by first | rfl | (simp; done) | (simp [*]; done)), H', ⟨by have := HJ7.out; have := HK2.out; first | omega | exact Nat.le_refl _⟩, ⟨by (with_reducible repeat (first | apply Kd.V_alloc | apply Kd.V_drewN | apply Kd.V_drew)); exact HO_3.out⟩, ⟨by (with_reducible repeat (first | apply Kd.V_alloc | apply Kd.V_drewN | apply Kd.V_drew)); exact HO_4.out⟩, ⟨by (with_reducible repeat (first | apply Kd.R_alloc | apply Kd.R_drewN | apply Kd.R_drew)); exact HO_5.out⟩, ⟨by (with_reducible repeat (first | apply Kd.R_alloc | apply Kd.R_drewN | apply Kd.R_drew)); exact HO_6.out⟩, ⟨by (with_reducible repeat (first | apply Kd.R_alloc | apply Kd.R_drewN | apply Kd.R_drew)); exact HO_7.out⟩, ⟨by (with_reducible repeat (first | apply Kd.R_alloc | apply Kd.R_drewN | apply Kd.R_drew)); exact HO_8.out⟩, ⟨by repeat (first | (with_reducible first | exact HB.out | apply below_alloc | apply pw_below_drewN | apply below_drew1) | exact HB.out | exact Below.refl _ _)⟩⟩
          ·replace c97 := Bool.eq_false_iff.mpr c97
           subst c97
           have H1 : (laws_FnSetBoth.j2 k2 t987 t990 t993 t996 t999 t1002 x9_2 0) = some r := by rw [if_neg (show ¬ (false = true) by decide)] at H; exact H
           clear H
           have H := H1
           clear H1
           have H' := Aside0.mk H
           clear H
           go_wp2
           go_meet
           case rel => exact ⟨_, (0), (by first | rfl | (simp; done) | (simp [*]; done)), H', ⟨by have := HJ7.out; have := HK2.out; first | omega | exact Nat.le_refl _⟩, ⟨by (with_reducible repeat (first | apply Kd.V_alloc | apply Kd.V_drewN | apply Kd.V_drew)); exact HO_3.out⟩, ⟨by (with_reducible repeat (first | apply Kd.V_alloc | apply Kd.V_drewN | apply Kd.V_drew)); exact HO_4.out⟩, ⟨by (with_reducible repeat (first | apply Kd.R_alloc | apply Kd.R_drewN | apply Kd.R_drew)); exact HO_5.out⟩, ⟨by (with_reducible repeat (first | apply Kd.R_alloc | apply Kd.R_drewN | apply Kd.R_drew)); exact HO_6.out⟩, ⟨by (with_reducible repeat (first | apply Kd.R_alloc | apply Kd.R_drewN | apply Kd.R_drew)); exact HO_7.out⟩, ⟨by (with_reducible repeat (first | apply Kd.R_alloc | apply Kd.R_drewN | apply Kd.R_drew)); exact HO_8.out⟩, ⟨by repeat (first | (with_reducible first | exact HB.out | apply below_alloc | apply pw_below_drewN | apply below_drew1) | exact HB.out | exact Below.refl _ _)⟩⟩
         case rest =>
          clear HC94
          try clear c1
          try clear p1
          try clear q1
          try clear hx1
          try clear c2
          try clear c2b0
          try clear c2b1
          try clear p2
          try clear c6
          try clear c7
          try clear c9
          try clear p10
          try clear q10
          try clear hx10
          try clear c18
          try clear c21
          try clear c24
          try clear c26
          try clear c64
          try clear c67
          try clear c70
          try clear c91
          try clear c91b0
          try clear c92
          try clear c92b0
          try clear c97
          try clear hx1031_0
          try clear p1031
          try clear p2
          try clear q1031
          obtain ⟨kq, x10_93, rfl, HA, HJ93, HO_3, HO_4, HO_5, HO_6, HO_7, HO_8, HB⟩ := hcut
          cases kq with
          | zero => exact absurd HA.out (by simp [laws_FnSetBoth.j2])
          | succ kj93 =>
           have H := HA.out
           clear HA
           simp only [laws_FnSetBoth.j2] at H
           by_cases c98 : 0 ≤ x9_2
           ·rw [if_pos c98] at H
            have c98b0 : decide (0 ≤ x9_2) = true := decide_eq_true c98
            clear c98
            by_cases c99 : x9_2 < (t996.length : Int)
            ·rw [if_pos c99] at H
             have c99b0 : decide (x9_2 < (t996.length : Int)) = true := decide_eq_true c99
             clear c99
             replace H := Option.bind_eq_some_iff.mp H
             obtain ⟨t1034, A1000, H⟩ := H
             replace H : (if t1034 = true then (laws_FnSetBoth.j3 kj93 t987 t990 t993 t996 t999 t1002 x9_2 (wrap64 (x10_93 + 1))) else (laws_FnSetBoth.j3 kj93 t987 t990 t993 t996 t999 t1002 x9_2 x10_93)) = some r := H
             have A100 := Aside0.mk A1000
             clear A1000
             have HC101 := Aside0.mk H
             clear H
             have p1033 : 0 ≤ (x9_2 : Int) := of_decide_eq_true (by first | (with_reducible assumption) | assumption)
             have q1033 : x9_2 < (t996.length : Int) := of_decide_eq_true (by first | (with_reducible assumption) | assumption)
             obtain ⟨ad1033, e1033, hx1033_0⟩ := Kd.at_string (Kd.R_reads' HO_6.out).2.2 x9_2 p1033 q1033
             obtain rfl : ad1031 = ad1033 := (by injection e1033)
             replace p1033 := eq_true p1033
             replace q1033 := eq_true q1033
             obtain ⟨Ao102, co102, eo102⟩ := Kd.R_slice HO_7.out
             subst eo102
             go_upto_if 101 with (first | (go_at_call 38; (with_reducible refine (laws_qxHas.calls kj93 _ _ t999 (rdOf ByteArray.empty t996 x9_2) t1034 _ ?side1 ?side2 A100.out).mono ?_); (case side1 => repeat (first | exact (Kd.R_reads' HO_7.out).2.2 | (with_reducible refine Kd.C_alloc ?_ _) | (with_reducible refine Kd.C_drewN ?_ _) | (with_reducible refine Kd.C_drew ?_))); (case side2 => exact (Kd.R_reads' HO_7.out).2.1); rintro e w' ⟨rfl, ⟨nd, rfl⟩⟩; (try first | exact ⟨rfl, _, World.drewN_drewN _ _ _⟩ | exact ⟨rfl, _, Eq.trans (World.drewN_drewN _ _ _) (congrArg (World.drewN _) (Nat.add_assoc _ _ _))⟩)))
             (try simp only [Act.put, List.setIfInBounds_toArray, List.set_cons_zero, List.set_cons_succ])
             go_cut [10] (fun v10 wc => ∃ (kq : Nat) (x10_100 : Int), v10 = .int .i64 x10_100 ∧ Aside0 (laws_FnSetBoth.j3 kq t987 t990 t993 t996 t999 t1002 x9_2 x10_100 = some r) ∧ Aside0 (kq ≤ kj93) ∧ Aside0 (Kd.V Kd.string 9 wc w.heap.size (fun k_ => some k_ ≠ ((.slice Ao96 t993.length co96) : Value).ownBlock ∧ some k_ ≠ ((.slice (some ad1031) t996.length co95) : Value).ownBlock ∧ some k_ ≠ ((.slice Ao102 t999.length co102) : Value).ownBlock ∧ some k_ ≠ (v1003 : Value).ownBlock) (.slice Ao10 t987.length co10) t987) ∧ Aside0 (Kd.V Kd.string 9 wc w.heap.size (fun k_ => some k_ ≠ ((.slice Ao96 t993.length co96) : Value).ownBlock ∧ some k_ ≠ ((.slice (some ad1031) t996.length co95) : Value).ownBlock ∧ some k_ ≠ ((.slice Ao102 t999.length co102) : Value).ownBlock ∧ some k_ ≠ (v1003 : Value).ownBlock) (.slice Ao11 t990.length co11) t990) ∧ Aside0 (Kd.R Kd.string 9 wc w.heap.size (fun k_ => some k_ ≠ ((.slice (some ad1031) t996.length co95) : Value).ownBlock ∧ some k_ ≠ ((.slice Ao102 t999.length co102) : Value).ownBlock ∧ some k_ ≠ (v1003 : Value).ownBlock) (.slice Ao96 t993.length co96) t993) ∧ Aside0 (Kd.R Kd.string 9 wc w.heap.size (fun k_ => some k_ ≠ ((.slice Ao96 t993.length co96) : Value).ownBlock ∧ some k_ ≠ ((.slice Ao102 t999.length co102) : Value).ownBlock ∧ some k_ ≠ (v1003 : Value).ownBlock) (.slice (some ad1031) t996.length co95) t996) ∧ Aside0 (Kd.R Kd.string 9 wc w.heap.size (fun k_ => some k_ ≠ ((.slice Ao96 t993.length co96) : Value).ownBlock ∧ some k_ ≠ ((.slice (some ad1031) t996.length co95) : Value).ownBlock ∧ some k_ ≠ (v1003 : Value).ownBlock) (.slice Ao102 t999.length co102) t999) ∧ Aside0 (Kd.R Kd.string 9 wc w.heap.size (fun k_ => some k_ ≠ ((.slice Ao96 t993.length co96) : Value).ownBlock ∧ some k_ ≠ ((.slice (some ad1031) t996.length co95) : Value).ownBlock ∧ some k_ ≠ ((.slice Ao102 t999.length co102) : Value).ownBlock) v1003 t1002) ∧ Aside0 (Below w.heap.size w wc))
             case first =>
              have H := HC101.out
              clear HC101
              by_cases c103 : t1034 = true
              ·subst c103
               have H1 : (laws_FnSetBoth.j3 kj93 t987 t990 t993 t996 t999 t1002 x9_2 (wrap64 (x10_93 + 1))) = some r := by rw [if_pos rfl] at H; exact H
               clear H
               have H := H1
               clear H1
               have H' := Aside0.mk H
               clear H
               go_wp2
               go_meet
               case rel => exact ⟨_, (wrap64 (x10_93 + 1)), (by first | rfl | (simp; done) | (simp [*]; done)), H', ⟨by have := HJ7.out; have := HK2.out; have := HJ93.out; first | omega | exact Nat.le_refl _⟩, ⟨by (with_reducible repeat (first | apply Kd.V_alloc | apply Kd.V_drewN | apply Kd.V_drew)); exact HO_3.out⟩, ⟨by (with_reducible repeat (first | apply Kd.V_alloc | apply Kd.V_drewN | apply Kd.V_drew)); exact HO_4.out⟩, ⟨by (with_reducible repeat (first | apply Kd.R_alloc | apply Kd.R_drewN | apply Kd.R_drew)); exact HO_5.out⟩, ⟨by (with_reducible repeat (first | apply Kd.R_alloc | apply Kd.R_drewN | apply Kd.R_drew)); exact HO_6.out⟩, ⟨by (with_reducible repeat (first | apply Kd.R_alloc | apply Kd.R_drewN | apply Kd.R_drew)); exact HO_7.out⟩, ⟨by (with_reducible repeat (first | apply Kd.R_alloc | apply Kd.R_drewN | apply Kd.R_drew)); exact HO_8.out⟩, ⟨by repeat (first | (with_reducible first | exact HB.out | apply below_alloc | apply pw_below_drewN | apply below_drew1) | exact HB.out | exact Below.refl _ _)⟩⟩
              ·replace c103 := Bool.eq_false_iff.mpr c103
               subst c103
               have H1 : (laws_FnSetBoth.j3 kj93 t987 t990 t993 t996 t999 t1002 x9_2 x10_93) = some r := by rw [if_neg (show ¬ (false = true) by decide)] at H; exact H
               clear H
               have H := H1
               clear H1
               have H' := Aside0.mk H
               clear H
               go_wp2
               go_meet
               case rel => exact ⟨_, (x10_93), (by first | rfl | (simp; done) | (simp [*]; done)), H', ⟨by have := HJ7.out; have := HK2.out; have := HJ93.out; first | omega | exact Nat.le_refl _⟩, ⟨by (with_reducible repeat (first | apply Kd.V_alloc | apply Kd.V_drewN | apply Kd.V_drew)); exact HO_3.out⟩, ⟨by (with_reducible repeat (first | apply Kd.V_alloc | apply Kd.V_drewN | apply Kd.V_drew)); exact HO_4.out⟩, ⟨by (with_reducible repeat (first | apply Kd.R_alloc | apply Kd.R_drewN | apply Kd.R_drew)); exact HO_5.out⟩, ⟨by (with_reducible repeat (first | apply Kd.R_alloc | apply Kd.R_drewN | apply Kd.R_drew)); exact HO_6.out⟩, ⟨by (with_reducible repeat (first | apply Kd.R_alloc | apply Kd.R_drewN | apply Kd.R_drew)); exact HO_7.out⟩, ⟨by (with_reducible repeat (first | apply Kd.R_alloc | apply Kd.R_drewN | apply Kd.R_drew)); exact HO_8.out⟩, ⟨by repeat (first | (with_reducible first | exact HB.out | apply below_alloc | apply pw_below_drewN | apply below_drew1) | exact HB.out | exact Below.refl _ _)⟩⟩
             case rest =>
              clear HC101
              try clear c1
              try clear p1
              try clear q1
              try clear hx1
              try clear c2
              try clear c2b0
              try clear c2b1
              try clear p2
              try clear c6
              try clear p6
              try clear c7
              try clear c9
              try clear c10
              try clear p10
              try clear q10
              try clear hx10
              try clear c18
              try clear c21
              try clear c24
              try clear c26
              try clear c64
              try clear p64
              try clear c67
              try clear c70
              try clear c91
              try clear c91b0
              try clear c92
              try clear c92b0
              try clear c97
              try clear c98
              try clear c98b0
              try clear c99
              try clear c99b0
              try clear c103
              try clear p103
              try clear q103
              try clear hx103
              try clear hx1031_0
              try clear hx1033_0
              try clear p1
              try clear p10
              try clear p1031
              try clear p1033
              try clear p2
              try clear q1
              try clear q10
              try clear q1031
              try clear q1033
              obtain ⟨kq, x10_100, rfl, HA, HJ100, HO_3, HO_4, HO_5, HO_6, HO_7, HO_8, HB⟩ := hcut
              cases kq with
              | zero => exact absurd HA.out (by simp [laws_FnSetBoth.j3])
              | succ kj100 =>
               have H := HA.out
               clear HA
               simp only [laws_FnSetBoth.j3] at H
               by_cases c104 : 0 ≤ x9_2
               ·rw [if_pos c104] at H
                have c104b0 : decide (0 ≤ x9_2) = true := decide_eq_true c104
                clear c104
                by_cases c105 : x9_2 < (t996.length : Int)
                ·rw [if_pos c105] at H
                 have c105b0 : decide (x9_2 < (t996.length : Int)) = true := decide_eq_true c105
                 clear c105
                 replace H := Option.bind_eq_some_iff.mp H
                 obtain ⟨t1036, A1060, H⟩ := H
                 replace H : (if t1036 = true then (if (wrap64 (x10_100 + 1)) = 1 then (if x9_2 > 0 then (if 0 ≤ (wrap64 (x9_2 - 1)) then (if (wrap64 (x9_2 - 1)) < (t996.length : Int) then (if ((Op.bytesLess ((rdOf ByteArray.empty t996 (wrap64 (x9_2 - 1))).toList) ((rdOf ByteArray.empty t996 x9_2).toList)) = true) then (laws_FnSetBoth.l0 kj100 t987 t990 t993 t996 t999 t1002 (wrap64 (x9_2 + 1))) else (some false)) else (none)) else (none)) else (laws_FnSetBoth.l0 kj100 t987 t990 t993 t996 t999 t1002 (wrap64 (x9_2 + 1)))) else (some false)) else (if x10_100 = 1 then (if x9_2 > 0 then (if 0 ≤ (wrap64 (x9_2 - 1)) then (if (wrap64 (x9_2 - 1)) < (t996.length : Int) then (if ((Op.bytesLess ((rdOf ByteArray.empty t996 (wrap64 (x9_2 - 1))).toList) ((rdOf ByteArray.empty t996 x9_2).toList)) = true) then (laws_FnSetBoth.l0 kj100 t987 t990 t993 t996 t999 t1002 (wrap64 (x9_2 + 1))) else (some false)) else (none)) else (none)) else (laws_FnSetBoth.l0 kj100 t987 t990 t993 t996 t999 t1002 (wrap64 (x9_2 + 1)))) else (some false))) = some r := H
                 have A106 := Aside0.mk A1060
                 clear A1060
                 by_cases c107 : t1036 = true
                 ·subst c107
                  have H1 : (if (wrap64 (x10_100 + 1)) = 1 then (if x9_2 > 0 then (if 0 ≤ (wrap64 (x9_2 - 1)) then (if (wrap64 (x9_2 - 1)) < (t996.length : Int) then (if ((Op.bytesLess ((rdOf ByteArray.empty t996 (wrap64 (x9_2 - 1))).toList) ((rdOf ByteArray.empty t996 x9_2).toList)) = true) then (laws_FnSetBoth.l0 kj100 t987 t990 t993 t996 t999 t1002 (wrap64 (x9_2 + 1))) else (some false)) else (none)) else (none)) else (laws_FnSetBoth.l0 kj100 t987 t990 t993 t996 t999 t1002 (wrap64 (x9_2 + 1)))) else (some false)) = some r := by rw [if_pos rfl] at H; exact H
                  clear H
                  have H := H1
                  clear H1
                  by_cases c108 : (wrap64 (x10_100 + 1)) = 1
                  ·rw [if_pos c108] at H
                   have c108b0 : ((wrap64 (x10_100 + 1)) == 1) = true := beq_iff_eq.mpr c108
                   have c108b1 : ((wrap64 (x10_100 + 1)) != 1) = false := bne_eq_false_iff_eq.mpr c108
                   clear c108
                   by_cases c109 : x9_2 > 0
                   ·rw [if_pos c109] at H
                    have c109b0 : decide (0 < x9_2) = true := decide_eq_true c109
                    clear c109
                    obtain ⟨ji110, hji110⟩ : ∃ j_ : Int, (wrap64 (x9_2 - 1)) = j_ := ⟨_, rfl⟩
                    replace H : (if 0 ≤ (ji110) then (if (ji110) < (t996.length : Int) then (if ((Op.bytesLess ((rdOf ByteArray.empty t996 (ji110)).toList) ((rdOf ByteArray.empty t996 x9_2).toList)) = true) then (laws_FnSetBoth.l0 kj100 t987 t990 t993 t996 t999 t1002 (wrap64 (x9_2 + 1))) else (some false)) else (none)) else (none)) = some r := by first | (rw [hji110] at H; exact H) | (simp only [hji110] at H ⊢; exact H)
                    (try rw [hji110] at A106)
                    have hji110w : (IntKind.i64.wrap (x9_2 - 1)) = ji110 := (i64_w _).trans hji110
                    by_cases c111 : 0 ≤ (ji110)
                    ·rw [if_pos c111] at H
                     have c111b0 : decide (0 ≤ (ji110)) = true := decide_eq_true c111
                     clear c111
                     by_cases c112 : (ji110) < (t996.length : Int)
                     ·rw [if_pos c112] at H
                      have c112b0 : decide ((ji110) < (t996.length : Int)) = true := decide_eq_true c112
                      clear c112
                      by_cases c113 : ((Op.bytesLess ((rdOf ByteArray.empty t996 (ji110)).toList) ((rdOf ByteArray.empty t996 x9_2).toList)) = true)
                      ·rw [if_pos c113] at H
                       have c113b0 : (Op.bytesLess ((rdOf ByteArray.empty t996 (ji110)).toList) ((rdOf ByteArray.empty t996 x9_2).toList)) = true := c113
                       clear c113
                       have H' := Aside0.mk H
                       clear H
                       have p1035 : 0 ≤ (x9_2 : Int) := of_decide_eq_true (by first | (with_reducible assumption) | assumption)
                       have q1035 : x9_2 < (t996.length : Int) := of_decide_eq_true (by first | (with_reducible assumption) | assumption)
                       obtain ⟨ad1035, e1035, hx1035_0⟩ := Kd.at_string (Kd.R_reads' HO_6.out).2.2 x9_2 p1035 q1035
                       obtain rfl : ad1031 = ad1035 := (by injection e1035)
                       replace p1035 := eq_true p1035
                       replace q1035 := eq_true q1035
                       obtain ⟨Ao114, co114, eo114⟩ := Kd.R_slice HO_8.out
                       subst eo114
                       go_wp2_with (first | (go_at_call 38; (with_reducible refine (laws_qxHas.calls kj100 _ _ t1002 (rdOf ByteArray.empty t996 x9_2) true _ ?side1 ?side2 A106.out).mono ?_); (case side1 => repeat (first | exact (Kd.R_reads' HO_8.out).2.2 | (with_reducible refine Kd.C_alloc ?_ _) | (with_reducible refine Kd.C_drewN ?_ _) | (with_reducible refine Kd.C_drew ?_))); (case side2 => exact (Kd.R_reads' HO_8.out).2.1); rintro e w' ⟨rfl, ⟨nd, rfl⟩⟩; (try first | exact ⟨rfl, _, World.drewN_drewN _ _ _⟩ | exact ⟨rfl, _, Eq.trans (World.drewN_drewN _ _ _) (congrArg (World.drewN _) (Nat.add_assoc _ _ _))⟩); have p1037 : 0 ≤ ((ji110) : Int) := of_decide_eq_true (by first | (with_reducible assumption) | assumption); have q1037 : (ji110) < (t996.length : Int) := of_decide_eq_true (by first | (with_reducible assumption) | assumption); obtain ⟨ad1037, e1037, hx1037_0⟩ := Kd.at_string (Kd.R_reads' HO_6.out).2.2 (ji110) p1037 q1037; obtain rfl : ad1031 = ad1037 := (by injection e1037); replace p1037 := eq_true p1037; replace q1037 := eq_true q1037; have p1038 : 0 ≤ (x9_2 : Int) := of_decide_eq_true (by first | (with_reducible assumption) | assumption); have q1038 : x9_2 < (t996.length : Int) := of_decide_eq_true (by first | (with_reducible assumption) | assumption); obtain ⟨ad1038, e1038, hx1038_0⟩ := Kd.at_string (Kd.R_reads' HO_6.out).2.2 x9_2 p1038 q1038; obtain rfl : ad1031 = ad1038 := (by injection e1038); replace p1038 := eq_true p1038; replace q1038 := eq_true q1038))
                       repeat (go_quiet (first | (go_at_call 38; (with_reducible refine (laws_qxHas.calls kj100 _ _ t1002 (rdOf ByteArray.empty t996 x9_2) true _ ?side1 ?side2 A106.out).mono ?_); (case side1 => repeat (first | exact (Kd.R_reads' HO_8.out).2.2 | (with_reducible refine Kd.C_alloc ?_ _) | (with_reducible refine Kd.C_drewN ?_ _) | (with_reducible refine Kd.C_drew ?_))); (case side2 => exact (Kd.R_reads' HO_8.out).2.1); rintro e w' ⟨rfl, ⟨nd, rfl⟩⟩; (try first | exact ⟨rfl, _, World.drewN_drewN _ _ _⟩ | exact ⟨rfl, _, Eq.trans (World.drewN_drewN _ _ _) (congrArg (World.drewN _) (Nat.add_assoc _ _ _))⟩); have p1037 : 0 ≤ ((ji110) : Int) := of_decide_eq_true (by first | (with_reducible assumption) | assumption); have q1037 : (ji110) < (t996.length : Int) := of_decide_eq_true (by first | (with_reducible assumption) | assumption); obtain ⟨ad1037, e1037, hx1037_0⟩ := Kd.at_string (Kd.R_reads' HO_6.out).2.2 (ji110) p1037 q1037; obtain rfl : ad1031 = ad1037 := (by injection e1037); replace p1037 := eq_true p1037; replace q1037 := eq_true q1037; have p1038 : 0 ≤ (x9_2 : Int) := of_decide_eq_true (by first | (with_reducible assumption) | assumption); have q1038 : x9_2 < (t996.length : Int) := of_decide_eq_true (by first | (with_reducible assumption) | assumption); obtain ⟨ad1038, e1038, hx1038_0⟩ := Kd.at_string (Kd.R_reads' HO_6.out).2.2 x9_2 p1038 q1038; obtain rfl : ad1031 = ad1038 := (by injection e1038); replace p1038 := eq_true p1038; replace q1038 := eq_true q1038)); try go_wp2_with (first | (go_at_call 38; (with_reducible refine (laws_qxHas.calls kj100 _ _ t1002 (rdOf ByteArray.empty t996 x9_2) true _ ?side1 ?side2 A106.out).mono ?_); (case side1 => repeat (first | exact (Kd.R_reads' HO_8.out).2.2 | (with_reducible refine Kd.C_alloc ?_ _) | (with_reducible refine Kd.C_drewN ?_ _) | (with_reducible refine Kd.C_drew ?_))); (case side2 => exact (Kd.R_reads' HO_8.out).2.1); rintro e w' ⟨rfl, ⟨nd, rfl⟩⟩; (try first | exact ⟨rfl, _, World.drewN_drewN _ _ _⟩ | exact ⟨rfl, _, Eq.trans (World.drewN_drewN _ _ _) (congrArg (World.drewN _) (Nat.add_assoc _ _ _))⟩); have p1037 : 0 ≤ ((ji110) : Int) := of_decide_eq_true (by first | (with_reducible assumption) | assumption); have q1037 : (ji110) < (t996.length : Int) := of_decide_eq_true (by first | (with_reducible assumption) | assumption); obtain ⟨ad1037, e1037, hx1037_0⟩ := Kd.at_string (Kd.R_reads' HO_6.out).2.2 (ji110) p1037 q1037; obtain rfl : ad1031 = ad1037 := (by injection e1037); replace p1037 := eq_true p1037; replace q1037 := eq_true q1037; have p1038 : 0 ≤ (x9_2 : Int) := of_decide_eq_true (by first | (with_reducible assumption) | assumption); have q1038 : x9_2 < (t996.length : Int) := of_decide_eq_true (by first | (with_reducible assumption) | assumption); obtain ⟨ad1038, e1038, hx1038_0⟩ := Kd.at_string (Kd.R_reads' HO_6.out).2.2 x9_2 p1038 q1038; obtain rfl : ad1031 = ad1038 := (by injection e1038); replace p1038 := eq_true p1038; replace q1038 := eq_true q1038)))
                       go_roundg kj100
                       case measure => have := HJ7.out; have := HK2.out; have := HJ93.out; have := HJ100.out; omega
                       case rel => exact ⟨(wrap64 (x9_2 + 1)), (by first | rfl | (simp; done) | (simp [*]; done)), H', ⟨by have := HJ7.out; have := HK2.out; have := HJ93.out; have := HJ100.out; omega⟩, ⟨by (with_reducible repeat (first | apply Kd.V_alloc | apply Kd.V_drewN | apply Kd.V_drew)); exact HO_3.out⟩, ⟨by (with_reducible repeat (first | apply Kd.V_alloc | apply Kd.V_drewN | apply Kd.V_drew)); exact HO_4.out⟩, ⟨by (with_reducible repeat (first | apply Kd.R_alloc | apply Kd.R_drewN | apply Kd.R_drew)); exact HO_5.out⟩, ⟨by (with_reducible repeat (first | apply Kd.R_alloc | apply Kd.R_drewN | apply Kd.R_drew)); exact HO_6.out⟩, ⟨by (with_reducible repeat (first | apply Kd.R_alloc | apply Kd.R_drewN | apply Kd.R_drew)); exact HO_7.out⟩, ⟨by (with_reducible repeat (first | apply Kd.R_alloc | apply Kd.R_drewN | apply Kd.R_drew)); exact HO_8.out⟩, ⟨by repeat (first | (with_reducible first | exact HB.out | apply below_alloc | apply pw_below_drewN | apply below_drew1) | exact HB.out | exact Below.refl _ _)⟩⟩
                      ·rw [if_neg c113] at H
                       have c113b0 : (Op.bytesLess ((rdOf ByteArray.empty t996 (ji110)).toList) ((rdOf ByteArray.empty t996 x9_2).toList)) = false := by simpa using c113
                       clear c113
                       obtain rfl := Option.some.inj H
                       cases hr_
                     ·rw [if_neg c112] at H
                      exact absurd H (by simp)
                    ·rw [if_neg c111] at H
                     exact absurd H (by simp)
                   ·rw [if_neg c109] at H
                    have c109b0 : decide (0 < x9_2) = false := decide_eq_false c109
                    clear c109
                    have H' := Aside0.mk H
                    clear H
                    have p1035 : 0 ≤ (x9_2 : Int) := of_decide_eq_true (by first | (with_reducible assumption) | assumption)
                    have q1035 : x9_2 < (t996.length : Int) := of_decide_eq_true (by first | (with_reducible assumption) | assumption)
                    obtain ⟨ad1035, e1035, hx1035_0⟩ := Kd.at_string (Kd.R_reads' HO_6.out).2.2 x9_2 p1035 q1035
                    obtain rfl : ad1031 = ad1035 := (by injection e1035)
                    replace p1035 := eq_true p1035
                    replace q1035 := eq_true q1035
                    obtain ⟨Ao116, co116, eo116⟩ := Kd.R_slice HO_8.out
                    subst eo116
                    go_wp2_with (first | (go_at_call 38; (with_reducible refine (laws_qxHas.calls kj100 _ _ t1002 (rdOf ByteArray.empty t996 x9_2) true _ ?side1 ?side2 A106.out).mono ?_); (case side1 => repeat (first | exact (Kd.R_reads' HO_8.out).2.2 | (with_reducible refine Kd.C_alloc ?_ _) | (with_reducible refine Kd.C_drewN ?_ _) | (with_reducible refine Kd.C_drew ?_))); (case side2 => exact (Kd.R_reads' HO_8.out).2.1); rintro e w' ⟨rfl, ⟨nd, rfl⟩⟩; (try first | exact ⟨rfl, _, World.drewN_drewN _ _ _⟩ | exact ⟨rfl, _, Eq.trans (World.drewN_drewN _ _ _) (congrArg (World.drewN _) (Nat.add_assoc _ _ _))⟩)))
                    repeat (go_quiet (first | (go_at_call 38; (with_reducible refine (laws_qxHas.calls kj100 _ _ t1002 (rdOf ByteArray.empty t996 x9_2) true _ ?side1 ?side2 A106.out).mono ?_); (case side1 => repeat (first | exact (Kd.R_reads' HO_8.out).2.2 | (with_reducible refine Kd.C_alloc ?_ _) | (with_reducible refine Kd.C_drewN ?_ _) | (with_reducible refine Kd.C_drew ?_))); (case side2 => exact (Kd.R_reads' HO_8.out).2.1); rintro e w' ⟨rfl, ⟨nd, rfl⟩⟩; (try first | exact ⟨rfl, _, World.drewN_drewN _ _ _⟩ | exact ⟨rfl, _, Eq.trans (World.drewN_drewN _ _ _) (congrArg (World.drewN _) (Nat.add_assoc _ _ _))⟩))); try go_wp2_with (first | (go_at_call 38; (with_reducible refine (laws_qxHas.calls kj100 _ _ t1002 (rdOf ByteArray.empty t996 x9_2) true _ ?side1 ?side2 A106.out).mono ?_); (case side1 => repeat (first | exact (Kd.R_reads' HO_8.out).2.2 | (with_reducible refine Kd.C_alloc ?_ _) | (with_reducible refine Kd.C_drewN ?_ _) | (with_reducible refine Kd.C_drew ?_))); (case side2 => exact (Kd.R_reads' HO_8.out).2.1); rintro e w' ⟨rfl, ⟨nd, rfl⟩⟩; (try first | exact ⟨rfl, _, World.drewN_drewN _ _ _⟩ | exact ⟨rfl, _, Eq.trans (World.drewN_drewN _ _ _) (congrArg (World.drewN _) (Nat.add_assoc _ _ _))⟩))))
                    go_roundg kj100
                    case measure => have := HJ7.out; have := HK2.out; have := HJ93.out; have := HJ100.out; omega
                    case rel => exact ⟨(wrap64 (x9_2 + 1)), (by first | rfl | (simp; done) | (simp [*]; done)), H', ⟨by have := HJ7.out; have := HK2.out; have := HJ93.out; have := HJ100.out; omega⟩, ⟨by (with_reducible repeat (first | apply Kd.V_alloc | apply Kd.V_drewN | apply Kd.V_drew)); exact HO_3.out⟩, ⟨by (with_reducible repeat (first | apply Kd.V_alloc | apply Kd.V_drewN | apply Kd.V_drew)); exact HO_4.out⟩, ⟨by (with_reducible repeat (first | apply Kd.R_alloc | apply Kd.R_drewN | apply Kd.R_drew)); exact HO_5.out⟩, ⟨by (with_reducible repeat (first | apply Kd.R_alloc | apply Kd.R_drewN | apply Kd.R_drew)); exact HO_6.out⟩, ⟨by (with_reducible repeat (first | apply Kd.R_alloc | apply Kd.R_drewN | apply Kd.R_drew)); exact HO_7.out⟩, ⟨by (with_reducible repeat (first | apply Kd.R_alloc | apply Kd.R_drewN | apply Kd.R_drew)); exact HO_8.out⟩, ⟨by repeat (first | (with_reducible first | exact HB.out | apply below_alloc | apply pw_below_drewN | apply below_drew1) | exact HB.out | exact Below.refl _ _)⟩⟩
                  ·rw [if_neg c108] at H
                   have c108b0 : ((wrap64 (x10_100 + 1)) == 1) = false := beq_eq_false_iff_ne.mpr c108
                   have c108b1 : ((wrap64 (x10_100 + 1)) != 1) = true := bne_iff_ne.mpr c108
                   obtain rfl := Option.some.inj H
                   cases hr_
                 ·replace c107 := Bool.eq_false_iff.mpr c107
                  subst c107
                  have H1 : (if x10_100 = 1 then (if x9_2 > 0 then (if 0 ≤ (wrap64 (x9_2 - 1)) then (if (wrap64 (x9_2 - 1)) < (t996.length : Int) then (if ((Op.bytesLess ((rdOf ByteArray.empty t996 (wrap64 (x9_2 - 1))).toList) ((rdOf ByteArray.empty t996 x9_2).toList)) = true) then (laws_FnSetBoth.l0 kj100 t987 t990 t993 t996 t999 t1002 (wrap64 (x9_2 + 1))) else (some false)) else (none)) else (none)) else (laws_FnSetBoth.l0 kj100 t987 t990 t993 t996 t999 t1002 (wrap64 (x9_2 + 1)))) else (some false)) = some r := by rw [if_neg (show ¬ (false = true) by decide)] at H; exact H
                  clear H
                  have H := H1
                  clear H1
                  by_cases c118 : x10_100 = 1
                  ·rw [if_pos c118] at H
                   have c118b0 : (x10_100 == 1) = true := beq_iff_eq.mpr c118
                   have c118b1 : (x10_100 != 1) = false := bne_eq_false_iff_eq.mpr c118
                   clear c118
                   by_cases c119 : x9_2 > 0
                   ·rw [if_pos c119] at H
                    have c119b0 : decide (0 < x9_2) = true := decide_eq_true c119
                    clear c119
                    obtain ⟨ji120, hji120⟩ : ∃ j_ : Int, (wrap64 (x9_2 - 1)) = j_ := ⟨_, rfl⟩
                    replace H : (if 0 ≤ (ji120) then (if (ji120) < (t996.length : Int) then (if ((Op.bytesLess ((rdOf ByteArray.empty t996 (ji120)).toList) ((rdOf ByteArray.empty t996 x9_2).toList)) = true) then (laws_FnSetBoth.l0 kj100 t987 t990 t993 t996 t999 t1002 (wrap64 (x9_2 + 1))) else (some false)) else (none)) else (none)) = some r := by first | (rw [hji120] at H; exact H) | (simp only [hji120] at H ⊢; exact H)
                    (try rw [hji120] at A106)
                    have hji120w : (IntKind.i64.wrap (x9_2 - 1)) = ji120 := (i64_w _).trans hji120
                    by_cases c121 : 0 ≤ (ji120)
                    ·rw [if_pos c121] at H
                     have c121b0 : decide (0 ≤ (ji120)) = true := decide_eq_true c121
                     clear c121
                     by_cases c122 : (ji120) < (t996.length : Int)
                     ·rw [if_pos c122] at H
                      have c122b0 : decide ((ji120) < (t996.length : Int)) = true := decide_eq_true c122
                      clear c122
                      by_cases c123 : ((Op.bytesLess ((rdOf ByteArray.empty t996 (ji120)).toList) ((rdOf ByteArray.empty t996 x9_2).toList)) = true)
                      ·rw [if_pos c123] at H
                       have c123b0 : (Op.bytesLess ((rdOf ByteArray.empty t996 (ji120)).toList) ((rdOf ByteArray.empty t996 x9_2).toList)) = true := c123
                       clear c123
                       have H' := Aside0.mk H
                       clear H
                       have p1035 : 0 ≤ (x9_2 : Int) := of_decide_eq_true (by first | (with_reducible assumption) | assumption)
                       have q1035 : x9_2 < (t996.length : Int) := of_decide_eq_true (by first | (with_reducible assumption) | assumption)
                       obtain ⟨ad1035, e1035, hx1035_0⟩ := Kd.at_string (Kd.R_reads' HO_6.out).2.2 x9_2 p1035 q1035
                       obtain rfl : ad1031 = ad1035 := (by injection e1035)
                       replace p1035 := eq_true p1035
                       replace q1035 := eq_true q1035
                       obtain ⟨Ao124, co124, eo124⟩ := Kd.R_slice HO_8.out
                       subst eo124
                       go_wp2_with (first | (go_at_call 38; (with_reducible refine (laws_qxHas.calls kj100 _ _ t1002 (rdOf ByteArray.empty t996 x9_2) false _ ?side1 ?side2 A106.out).mono ?_); (case side1 => repeat (first | exact (Kd.R_reads' HO_8.out).2.2 | (with_reducible refine Kd.C_alloc ?_ _) | (with_reducible refine Kd.C_drewN ?_ _) | (with_reducible refine Kd.C_drew ?_))); (case side2 => exact (Kd.R_reads' HO_8.out).2.1); rintro e w' ⟨rfl, ⟨nd, rfl⟩⟩; (try first | exact ⟨rfl, _, World.drewN_drewN _ _ _⟩ | exact ⟨rfl, _, Eq.trans (World.drewN_drewN _ _ _) (congrArg (World.drewN _) (Nat.add_assoc _ _ _))⟩); have p1039 : 0 ≤ ((ji120) : Int) := of_decide_eq_true (by first | (with_reducible assumption) | assumption); have q1039 : (ji120) < (t996.length : Int) := of_decide_eq_true (by first | (with_reducible assumption) | assumption); obtain ⟨ad1039, e1039, hx1039_0⟩ := Kd.at_string (Kd.R_reads' HO_6.out).2.2 (ji120) p1039 q1039; obtain rfl : ad1031 = ad1039 := (by injection e1039); replace p1039 := eq_true p1039; replace q1039 := eq_true q1039; have p1040 : 0 ≤ (x9_2 : Int) := of_decide_eq_true (by first | (with_reducible assumption) | assumption); have q1040 : x9_2 < (t996.length : Int) := of_decide_eq_true (by first | (with_reducible assumption) | assumption); obtain ⟨ad1040, e1040, hx1040_0⟩ := Kd.at_string (Kd.R_reads' HO_6.out).2.2 x9_2 p1040 q1040; obtain rfl : ad1031 = ad1040 := (by injection e1040); replace p1040 := eq_true p1040; replace q1040 := eq_true q1040))
                       repeat (go_quiet (first | (go_at_call 38; (with_reducible refine (laws_qxHas.calls kj100 _ _ t1002 (rdOf ByteArray.empty t996 x9_2) false _ ?side1 ?side2 A106.out).mono ?_); (case side1 => repeat (first | exact (Kd.R_reads' HO_8.out).2.2 | (with_reducible refine Kd.C_alloc ?_ _) | (with_reducible refine Kd.C_drewN ?_ _) | (with_reducible refine Kd.C_drew ?_))); (case side2 => exact (Kd.R_reads' HO_8.out).2.1); rintro e w' ⟨rfl, ⟨nd, rfl⟩⟩; (try first | exact ⟨rfl, _, World.drewN_drewN _ _ _⟩ | exact ⟨rfl, _, Eq.trans (World.drewN_drewN _ _ _) (congrArg (World.drewN _) (Nat.add_assoc _ _ _))⟩); have p1039 : 0 ≤ ((ji120) : Int) := of_decide_eq_true (by first | (with_reducible assumption) | assumption); have q1039 : (ji120) < (t996.length : Int) := of_decide_eq_true (by first | (with_reducible assumption) | assumption); obtain ⟨ad1039, e1039, hx1039_0⟩ := Kd.at_string (Kd.R_reads' HO_6.out).2.2 (ji120) p1039 q1039; obtain rfl : ad1031 = ad1039 := (by injection e1039); replace p1039 := eq_true p1039; replace q1039 := eq_true q1039; have p1040 : 0 ≤ (x9_2 : Int) := of_decide_eq_true (by first | (with_reducible assumption) | assumption); have q1040 : x9_2 < (t996.length : Int) := of_decide_eq_true (by first | (with_reducible assumption) | assumption); obtain ⟨ad1040, e1040, hx1040_0⟩ := Kd.at_string (Kd.R_reads' HO_6.out).2.2 x9_2 p1040 q1040; obtain rfl : ad1031 = ad1040 := (by injection e1040); replace p1040 := eq_true p1040; replace q1040 := eq_true q1040)); try go_wp2_with (first | (go_at_call 38; (with_reducible refine (laws_qxHas.calls kj100 _ _ t1002 (rdOf ByteArray.empty t996 x9_2) false _ ?side1 ?side2 A106.out).mono ?_); (case side1 => repeat (first | exact (Kd.R_reads' HO_8.out).2.2 | (with_reducible refine Kd.C_alloc ?_ _) | (with_reducible refine Kd.C_drewN ?_ _) | (with_reducible refine Kd.C_drew ?_))); (case side2 => exact (Kd.R_reads' HO_8.out).2.1); rintro e w' ⟨rfl, ⟨nd, rfl⟩⟩; (try first | exact ⟨rfl, _, World.drewN_drewN _ _ _⟩ | exact ⟨rfl, _, Eq.trans (World.drewN_drewN _ _ _) (congrArg (World.drewN _) (Nat.add_assoc _ _ _))⟩); have p1039 : 0 ≤ ((ji120) : Int) := of_decide_eq_true (by first | (with_reducible assumption) | assumption); have q1039 : (ji120) < (t996.length : Int) := of_decide_eq_true (by first | (with_reducible assumption) | assumption); obtain ⟨ad1039, e1039, hx1039_0⟩ := Kd.at_string (Kd.R_reads' HO_6.out).2.2 (ji120) p1039 q1039; obtain rfl : ad1031 = ad1039 := (by injection e1039); replace p1039 := eq_true p1039; replace q1039 := eq_true q1039; have p1040 : 0 ≤ (x9_2 : Int) := of_decide_eq_true (by first | (with_reducible assumption) | assumption); have q1040 : x9_2 < (t996.length : Int) := of_decide_eq_true (by first | (with_reducible assumption) | assumption); obtain ⟨ad1040, e1040, hx1040_0⟩ := Kd.at_string (Kd.R_reads' HO_6.out).2.2 x9_2 p1040 q1040; obtain rfl : ad1031 = ad1040 := (by injection e1040); replace p1040 := eq_true p1040; replace q1040 := eq_true q1040)))
                       go_roundg kj100
                       case measure => have := HJ7.out; have := HK2.out; have := HJ93.out; have := HJ100.out; omega
                       case rel => exact ⟨(wrap64 (x9_2 + 1)), (by first | rfl | (simp; done) | (simp [*]; done)), H', ⟨by have := HJ7.out; have := HK2.out; have := HJ93.out; have := HJ100.out; omega⟩, ⟨by (with_reducible repeat (first | apply Kd.V_alloc | apply Kd.V_drewN | apply Kd.V_drew)); exact HO_3.out⟩, ⟨by (with_reducible repeat (first | apply Kd.V_alloc | apply Kd.V_drewN | apply Kd.V_drew)); exact HO_4.out⟩, ⟨by (with_reducible repeat (first | apply Kd.R_alloc | apply Kd.R_drewN | apply Kd.R_drew)); exact HO_5.out⟩, ⟨by (with_reducible repeat (first | apply Kd.R_alloc | apply Kd.R_drewN | apply Kd.R_drew)); exact HO_6.out⟩, ⟨by (with_reducible repeat (first | apply Kd.R_alloc | apply Kd.R_drewN | apply Kd.R_drew)); exact HO_7.out⟩, ⟨by (with_reducible repeat (first | apply Kd.R_alloc | apply Kd.R_drewN | apply Kd.R_drew)); exact HO_8.out⟩, ⟨by repeat (first | (with_reducible first | exact HB.out | apply below_alloc | apply pw_below_drewN | apply below_drew1) | exact HB.out | exact Below.refl _ _)⟩⟩
                      ·rw [if_neg c123] at H
                       have c123b0 : (Op.bytesLess ((rdOf ByteArray.empty t996 (ji120)).toList) ((rdOf ByteArray.empty t996 x9_2).toList)) = false := by simpa using c123
                       clear c123
                       obtain rfl := Option.some.inj H
                       cases hr_
                     ·rw [if_neg c122] at H
                      exact absurd H (by simp)
                    ·rw [if_neg c121] at H
                     exact absurd H (by simp)
                   ·rw [if_neg c119] at H
                    have c119b0 : decide (0 < x9_2) = false := decide_eq_false c119
                    clear c119
                    have H' := Aside0.mk H
                    clear H
                    have p1035 : 0 ≤ (x9_2 : Int) := of_decide_eq_true (by first | (with_reducible assumption) | assumption)
                    have q1035 : x9_2 < (t996.length : Int) := of_decide_eq_true (by first | (with_reducible assumption) | assumption)
                    obtain ⟨ad1035, e1035, hx1035_0⟩ := Kd.at_string (Kd.R_reads' HO_6.out).2.2 x9_2 p1035 q1035
                    obtain rfl : ad1031 = ad1035 := (by injection e1035)
                    replace p1035 := eq_true p1035
                    replace q1035 := eq_true q1035
                    obtain ⟨Ao126, co126, eo126⟩ := Kd.R_slice HO_8.out
                    subst eo126
                    go_wp2_with (first | (go_at_call 38; (with_reducible refine (laws_qxHas.calls kj100 _ _ t1002 (rdOf ByteArray.empty t996 x9_2) false _ ?side1 ?side2 A106.out).mono ?_); (case side1 => repeat (first | exact (Kd.R_reads' HO_8.out).2.2 | (with_reducible refine Kd.C_alloc ?_ _) | (with_reducible refine Kd.C_drewN ?_ _) | (with_reducible refine Kd.C_drew ?_))); (case side2 => exact (Kd.R_reads' HO_8.out).2.1); rintro e w' ⟨rfl, ⟨nd, rfl⟩⟩; (try first | exact ⟨rfl, _, World.drewN_drewN _ _ _⟩ | exact ⟨rfl, _, Eq.trans (World.drewN_drewN _ _ _) (congrArg (World.drewN _) (Nat.add_assoc _ _ _))⟩)))
                    repeat (go_quiet (first | (go_at_call 38; (with_reducible refine (laws_qxHas.calls kj100 _ _ t1002 (rdOf ByteArray.empty t996 x9_2) false _ ?side1 ?side2 A106.out).mono ?_); (case side1 => repeat (first | exact (Kd.R_reads' HO_8.out).2.2 | (with_reducible refine Kd.C_alloc ?_ _) | (with_reducible refine Kd.C_drewN ?_ _) | (with_reducible refine Kd.C_drew ?_))); (case side2 => exact (Kd.R_reads' HO_8.out).2.1); rintro e w' ⟨rfl, ⟨nd, rfl⟩⟩; (try first | exact ⟨rfl, _, World.drewN_drewN _ _ _⟩ | exact ⟨rfl, _, Eq.trans (World.drewN_drewN _ _ _) (congrArg (World.drewN _) (Nat.add_assoc _ _ _))⟩))); try go_wp2_with (first | (go_at_call 38; (with_reducible refine (laws_qxHas.calls kj100 _ _ t1002 (rdOf ByteArray.empty t996 x9_2) false _ ?side1 ?side2 A106.out).mono ?_); (case side1 => repeat (first | exact (Kd.R_reads' HO_8.out).2.2 | (with_reducible refine Kd.C_alloc ?_ _) | (with_reducible refine Kd.C_drewN ?_ _) | (with_reducible refine Kd.C_drew ?_))); (case side2 => exact (Kd.R_reads' HO_8.out).2.1); rintro e w' ⟨rfl, ⟨nd, rfl⟩⟩; (try first | exact ⟨rfl, _, World.drewN_drewN _ _ _⟩ | exact ⟨rfl, _, Eq.trans (World.drewN_drewN _ _ _) (congrArg (World.drewN _) (Nat.add_assoc _ _ _))⟩))))
                    go_roundg kj100
                    case measure => have := HJ7.out; have := HK2.out; have := HJ93.out; have := HJ100.out; omega
                    case rel => exact ⟨(wrap64 (x9_2 + 1)), (by first | rfl | (simp; done) | (simp [*]; done)), H', ⟨by have := HJ7.out; have := HK2.out; have := HJ93.out; have := HJ100.out; omega⟩, ⟨by (with_reducible repeat (first | apply Kd.V_alloc | apply Kd.V_drewN | apply Kd.V_drew)); exact HO_3.out⟩, ⟨by (with_reducible repeat (first | apply Kd.V_alloc | apply Kd.V_drewN | apply Kd.V_drew)); exact HO_4.out⟩, ⟨by (with_reducible repeat (first | apply Kd.R_alloc | apply Kd.R_drewN | apply Kd.R_drew)); exact HO_5.out⟩, ⟨by (with_reducible repeat (first | apply Kd.R_alloc | apply Kd.R_drewN | apply Kd.R_drew)); exact HO_6.out⟩, ⟨by (with_reducible repeat (first | apply Kd.R_alloc | apply Kd.R_drewN | apply Kd.R_drew)); exact HO_7.out⟩, ⟨by (with_reducible repeat (first | apply Kd.R_alloc | apply Kd.R_drewN | apply Kd.R_drew)); exact HO_8.out⟩, ⟨by repeat (first | (with_reducible first | exact HB.out | apply below_alloc | apply pw_below_drewN | apply below_drew1) | exact HB.out | exact Below.refl _ _)⟩⟩
                  ·rw [if_neg c118] at H
                   have c118b0 : (x10_100 == 1) = false := beq_eq_false_iff_ne.mpr c118
                   have c118b1 : (x10_100 != 1) = true := bne_iff_ne.mpr c118
                   obtain rfl := Option.some.inj H
                   cases hr_
                ·rw [if_neg c105] at H
                 exact absurd H (by simp)
               ·rw [if_neg c104] at H
                exact absurd H (by simp)
            ·rw [if_neg c99] at H
             exact absurd H (by simp)
           ·rw [if_neg c98] at H
            exact absurd H (by simp)
        ·rw [if_neg c92] at H
         exact absurd H (by simp)
       ·rw [if_neg c91] at H
        have c91b0 : decide (x9_2 < (t996.length : Int)) = false := decide_eq_false c91
        clear c91
        replace H := Option.bind_eq_some_iff.mp H
        obtain ⟨t1041, A1280, H⟩ := H
        replace H : ((laws_qxTexts.f k2 t1041 t993).bind fun t1044 => (if t1044 = true then ((impl_SetAny.f k2 t990 t987).bind fun t1045 => ((laws_qxTexts.f k2 t1045 t996).bind fun t1048 => (if t1048 = true then (some ((t996.length : Int) == (wrap64 ((wrap64 ((t993.length : Int) + (t999.length : Int))) + (t1002.length : Int))))) else (some false)))) else (some false))) = some r := H
        have A128 := Aside0.mk A1280
        clear A1280
        replace H := Option.bind_eq_some_iff.mp H
        obtain ⟨t1044, A1290, H⟩ := H
        replace H : (if t1044 = true then ((impl_SetAny.f k2 t990 t987).bind fun t1045 => ((laws_qxTexts.f k2 t1045 t996).bind fun t1048 => (if t1048 = true then (some ((t996.length : Int) == (wrap64 ((wrap64 ((t993.length : Int) + (t999.length : Int))) + (t1002.length : Int))))) else (some false)))) else (some false)) = some r := H
        have A129 := Aside0.mk A1290
        clear A1290
        by_cases c130 : t1044 = true
        ·subst c130
         have H1 : ((impl_SetAny.f k2 t990 t987).bind fun t1045 => ((laws_qxTexts.f k2 t1045 t996).bind fun t1048 => (if t1048 = true then (some ((t996.length : Int) == (wrap64 ((wrap64 ((t993.length : Int) + (t999.length : Int))) + (t1002.length : Int))))) else (some false)))) = some r := by rw [if_pos rfl] at H; exact H
         clear H
         have H := H1
         clear H1
         replace H := Option.bind_eq_some_iff.mp H
         obtain ⟨t1045, A1310, H⟩ := H
         replace H : ((laws_qxTexts.f k2 t1045 t996).bind fun t1048 => (if t1048 = true then (some ((t996.length : Int) == (wrap64 ((wrap64 ((t993.length : Int) + (t999.length : Int))) + (t1002.length : Int))))) else (some false))) = some r := H
         have A131 := Aside0.mk A1310
         clear A1310
         replace H := Option.bind_eq_some_iff.mp H
         obtain ⟨t1048, A1320, H⟩ := H
         replace H : (if t1048 = true then (some ((t996.length : Int) == (wrap64 ((wrap64 ((t993.length : Int) + (t999.length : Int))) + (t1002.length : Int))))) else (some false)) = some r := H
         have A132 := Aside0.mk A1320
         clear A1320
         by_cases c133 : t1048 = true
         ·subst c133
          have H1 : (some ((t996.length : Int) == (wrap64 ((wrap64 ((t993.length : Int) + (t999.length : Int))) + (t1002.length : Int))))) = some r := by rw [if_pos rfl] at H; exact H
          clear H
          have H := H1
          clear H1
          obtain rfl := Option.some.inj H
          obtain ⟨Ao134, co134, eo134⟩ := Kd.R_slice HO_6.out
          subst eo134
          go_wp2_with (first | (go_at_call 43; (with_reducible refine (impl_SetBoth.calls k2 _ _ t990 _ _ t987 t1041 _ ?side1 ?side2 ?side3 ?side4 A128.out).mono ?_); (case side1 => repeat (first | exact (Kd.V_reads' HO_4.out).2.2 | (with_reducible refine Kd.C_alloc ?_ _) | (with_reducible refine Kd.C_drewN ?_ _) | (with_reducible refine Kd.C_drew ?_))); (case side2 => exact (Kd.V_reads' HO_4.out).2.1); (case side3 => repeat (first | exact (Kd.V_reads' HO_3.out).2.2 | (with_reducible refine Kd.C_alloc ?_ _) | (with_reducible refine Kd.C_drewN ?_ _) | (with_reducible refine Kd.C_drew ?_))); (case side4 => exact (Kd.V_reads' HO_3.out).2.1); rintro e w135 ⟨v1042, rfl, ho0, hb⟩; have n0_ := Aside0.mk (Kd.V_elder' (by (with_reducible repeat (first | apply Kd.V_alloc | apply Kd.V_drewN | apply Kd.V_drew)); exact HO_3.out) (Kd.R_base ho0) hb); have n1_ := Aside0.mk (Kd.V_elder' (by (with_reducible repeat (first | apply Kd.V_alloc | apply Kd.V_drewN | apply Kd.V_drew)); exact HO_4.out) (Kd.R_base ho0) hb); have n2_ := Aside0.mk (Kd.R_elder' (by (with_reducible repeat (first | apply Kd.R_alloc | apply Kd.R_drewN | apply Kd.R_drew)); exact HO_5.out) (Kd.R_base ho0) hb); have n3_ := Aside0.mk (Kd.R_elder' (by (with_reducible repeat (first | apply Kd.R_alloc | apply Kd.R_drewN | apply Kd.R_drew)); exact HO_6.out) (Kd.R_base ho0) hb); have n4_ := Aside0.mk (Kd.R_elder' (by (with_reducible repeat (first | apply Kd.R_alloc | apply Kd.R_drewN | apply Kd.R_drew)); exact HO_7.out) (Kd.R_base ho0) hb); have n5_ := Aside0.mk (Kd.R_elder' (by (with_reducible repeat (first | apply Kd.R_alloc | apply Kd.R_drewN | apply Kd.R_drew)); exact HO_8.out) (Kd.R_base ho0) hb); have n6_ := Aside0.mk (Kd.R_lower (Kd.R_new' (Kd.R_new' (Kd.R_new' (Kd.R_new' ho0 (Kd.R_lt (by (with_reducible repeat (first | apply Kd.R_alloc | apply Kd.R_drewN | apply Kd.R_drew)); exact HO_5.out))) (Kd.R_lt (by (with_reducible repeat (first | apply Kd.R_alloc | apply Kd.R_drewN | apply Kd.R_drew)); exact HO_6.out))) (Kd.R_lt (by (with_reducible repeat (first | apply Kd.R_alloc | apply Kd.R_drewN | apply Kd.R_drew)); exact HO_7.out))) (Kd.R_lt (by (with_reducible repeat (first | apply Kd.R_alloc | apply Kd.R_drewN | apply Kd.R_drew)); exact HO_8.out))) (below_size (by repeat (first | (with_reducible first | exact HB.out | apply below_alloc | apply pw_below_drewN | apply below_drew1) | exact HB.out | exact Below.refl _ _)))); have n7_ := Aside0.mk (below_step (by repeat (first | (with_reducible first | exact HB.out | apply below_alloc | apply pw_below_drewN | apply below_drew1) | exact HB.out | exact Below.refl _ _)) hb); clear HO_3; clear HO_4; clear HO_5; clear HO_6; clear HO_7; clear HO_8; clear HB; have HO_3 := n0_; have HO_4 := n1_; have HO_5 := n2_; have HO_6 := n3_; have HO_7 := n4_; have HO_8 := n5_; have HO1043 := n6_; have HB := n7_; clear n0_ n1_ n2_ n3_ n4_ n5_ n6_ n7_; (try clear hb); (try clear hb2); (try clear hk); (try clear hi); (try clear ho0); obtain ⟨Ao136, co136, eo136⟩ := Kd.R_slice HO1043.out; subst eo136; obtain ⟨Ao137, co137, eo137⟩ := Kd.R_slice HO_5.out; subst eo137) | (go_at_call 35; (with_reducible refine (laws_qxTexts.calls k2 _ _ t1041 _ _ t993 true _ ?side1 ?side2 ?side3 ?side4 A129.out).mono ?_); (case side1 => repeat (first | exact (Kd.R_reads' HO1043.out).2.2 | (with_reducible refine Kd.C_alloc ?_ _) | (with_reducible refine Kd.C_drewN ?_ _) | (with_reducible refine Kd.C_drew ?_))); (case side2 => exact (Kd.R_reads' HO1043.out).2.1); (case side3 => repeat (first | exact (Kd.R_reads' HO_5.out).2.2 | (with_reducible refine Kd.C_alloc ?_ _) | (with_reducible refine Kd.C_drewN ?_ _) | (with_reducible refine Kd.C_drew ?_))); (case side4 => exact (Kd.R_reads' HO_5.out).2.1); rintro e w' ⟨rfl, ⟨nd, rfl⟩⟩; (try first | exact ⟨rfl, _, World.drewN_drewN _ _ _⟩ | exact ⟨rfl, _, Eq.trans (World.drewN_drewN _ _ _) (congrArg (World.drewN _) (Nat.add_assoc _ _ _))⟩)) | (go_at_call 13; (with_reducible refine (impl_SetAny.calls k2 _ _ t990 _ _ t987 t1045 _ ?side1 ?side2 ?side3 ?side4 A131.out).mono ?_); (case side1 => repeat (first | exact (Kd.V_reads' HO_4.out).2.2 | (with_reducible refine Kd.C_alloc ?_ _) | (with_reducible refine Kd.C_drewN ?_ _) | (with_reducible refine Kd.C_drew ?_))); (case side2 => exact (Kd.V_reads' HO_4.out).2.1); (case side3 => repeat (first | exact (Kd.V_reads' HO_3.out).2.2 | (with_reducible refine Kd.C_alloc ?_ _) | (with_reducible refine Kd.C_drewN ?_ _) | (with_reducible refine Kd.C_drew ?_))); (case side4 => exact (Kd.V_reads' HO_3.out).2.1); rintro e w138 ⟨v1046, rfl, ho0, hb⟩; have n0_ := Aside0.mk (Kd.V_elder' (by (with_reducible repeat (first | apply Kd.V_alloc | apply Kd.V_drewN | apply Kd.V_drew)); exact HO_3.out) (Kd.R_base ho0) hb); have n1_ := Aside0.mk (Kd.V_elder' (by (with_reducible repeat (first | apply Kd.V_alloc | apply Kd.V_drewN | apply Kd.V_drew)); exact HO_4.out) (Kd.R_base ho0) hb); have n2_ := Aside0.mk (Kd.R_elder' (by (with_reducible repeat (first | apply Kd.R_alloc | apply Kd.R_drewN | apply Kd.R_drew)); exact HO_5.out) (Kd.R_base ho0) hb); have n3_ := Aside0.mk (Kd.R_elder' (by (with_reducible repeat (first | apply Kd.R_alloc | apply Kd.R_drewN | apply Kd.R_drew)); exact HO_6.out) (Kd.R_base ho0) hb); have n4_ := Aside0.mk (Kd.R_elder' (by (with_reducible repeat (first | apply Kd.R_alloc | apply Kd.R_drewN | apply Kd.R_drew)); exact HO_7.out) (Kd.R_base ho0) hb); have n5_ := Aside0.mk (Kd.R_elder' (by (with_reducible repeat (first | apply Kd.R_alloc | apply Kd.R_drewN | apply Kd.R_drew)); exact HO_8.out) (Kd.R_base ho0) hb); have n6_ := Aside0.mk (Kd.R_elder' (by (with_reducible repeat (first | apply Kd.R_alloc | apply Kd.R_drewN | apply Kd.R_drew)); exact HO1043.out) (Kd.R_base ho0) hb); have n7_ := Aside0.mk (Kd.R_lower (Kd.R_new' (Kd.R_new' (Kd.R_new' (Kd.R_new' (Kd.R_new' ho0 (Kd.R_lt (by (with_reducible repeat (first | apply Kd.R_alloc | apply Kd.R_drewN | apply Kd.R_drew)); exact HO_5.out))) (Kd.R_lt (by (with_reducible repeat (first | apply Kd.R_alloc | apply Kd.R_drewN | apply Kd.R_drew)); exact HO_6.out))) (Kd.R_lt (by (with_reducible repeat (first | apply Kd.R_alloc | apply Kd.R_drewN | apply Kd.R_drew)); exact HO_7.out))) (Kd.R_lt (by (with_reducible repeat (first | apply Kd.R_alloc | apply Kd.R_drewN | apply Kd.R_drew)); exact HO_8.out))) (Kd.R_lt (by (with_reducible repeat (first | apply Kd.R_alloc | apply Kd.R_drewN | apply Kd.R_drew)); exact HO1043.out))) (below_size (by repeat (first | (with_reducible first | exact HB.out | apply below_alloc | apply pw_below_drewN | apply below_drew1) | exact HB.out | exact Below.refl _ _)))); have n8_ := Aside0.mk (below_step (by repeat (first | (with_reducible first | exact HB.out | apply below_alloc | apply pw_below_drewN | apply below_drew1) | exact HB.out | exact Below.refl _ _)) hb); clear HO_3; clear HO_4; clear HO_5; clear HO_6; clear HO_7; clear HO_8; clear HO1043; clear HB; have HO_3 := n0_; have HO_4 := n1_; have HO_5 := n2_; have HO_6 := n3_; have HO_7 := n4_; have HO_8 := n5_; have HO1043 := n6_; have HO1047 := n7_; have HB := n8_; clear n0_ n1_ n2_ n3_ n4_ n5_ n6_ n7_ n8_; (try clear hb); (try clear hb2); (try clear hk); (try clear hi); (try clear ho0); obtain ⟨Ao139, co139, eo139⟩ := Kd.R_slice HO1047.out; subst eo139) | (go_at_call 35; (with_reducible refine (laws_qxTexts.calls k2 _ _ t1045 _ _ t996 true _ ?side1 ?side2 ?side3 ?side4 A132.out).mono ?_); (case side1 => repeat (first | exact (Kd.R_reads' HO1047.out).2.2 | (with_reducible refine Kd.C_alloc ?_ _) | (with_reducible refine Kd.C_drewN ?_ _) | (with_reducible refine Kd.C_drew ?_))); (case side2 => exact (Kd.R_reads' HO1047.out).2.1); (case side3 => repeat (first | exact (Kd.R_reads' HO_6.out).2.2 | (with_reducible refine Kd.C_alloc ?_ _) | (with_reducible refine Kd.C_drewN ?_ _) | (with_reducible refine Kd.C_drew ?_))); (case side4 => exact (Kd.R_reads' HO_6.out).2.1); rintro e w' ⟨rfl, ⟨nd, rfl⟩⟩; (try first | exact ⟨rfl, _, World.drewN_drewN _ _ _⟩ | exact ⟨rfl, _, Eq.trans (World.drewN_drewN _ _ _) (congrArg (World.drewN _) (Nat.add_assoc _ _ _))⟩); obtain ⟨Ao140, co140, eo140⟩ := Kd.R_slice HO_7.out; subst eo140; obtain ⟨Ao141, co141, eo141⟩ := Kd.R_slice HO_8.out; subst eo141))
          go_ret
          exact ⟨by first | rfl | (simp [errW_none, errW_some] <;> rfl) | (simp [*, errW_none, errW_some] <;> rfl), by repeat (first | (with_reducible first | exact HB.out | apply below_alloc | apply pw_below_drewN | apply below_drew1) | exact HB.out | exact Below.refl _ _)⟩
         ·replace c133 := Bool.eq_false_iff.mpr c133
          subst c133
          have H1 : (some false) = some r := by rw [if_neg (show ¬ (false = true) by decide)] at H; exact H
          clear H
          have H := H1
          clear H1
          obtain rfl := Option.some.inj H
          cases hr_
        ·replace c130 := Bool.eq_false_iff.mpr c130
         subst c130
         have H1 : (some false) = some r := by rw [if_neg (show ¬ (false = true) by decide)] at H; exact H
         clear H
         have H := H1
         clear H1
         obtain rfl := Option.some.inj H
         cases hr_
end Go.Proofs.Ytegelpeegbngiaa.P
namespace Go.Proofs.Ytegelpeegbngiaa.Q
open Go.RowKit Go.Proofs.YtegelpeegbngiaaW.PrintWords Go.Proofs.YtegelpeegbngiaaW.PrintLast
def Opens {α H : Type} (enc : TypeId × Value → H) (P : Program) (W : World) (t : TypeId) (d : Kd α) (ok : α → Prop) : Prop :=
  ∀ (fuel : Nat) (cs : List Value) (y : DataW H × List MemPlace), DataW.trod enc P W 0 (fun _ => true) true fuel t cs = some y → ∃ x : α, d.K W x cs ∧ ok x
section
variable {α β H : Type} {enc : TypeId × Value → H} {P : Program} {W : World} {t e : TypeId}
theorem Opens.int {k : IntKind} (ht : P.underlying t = some (.int k)) : Opens enc P W t (Kd.int k) (fun x => (Lit.int k x).wf = true) := by
  intro fuel cs y h
  obtain ⟨n, rfl, _, hn⟩ := DataW.trod_int ht h
  exact ⟨n, rfl, hn⟩
theorem Opens.string (ht : P.underlying t = some .string) : Opens enc P W t Kd.string (fun x => x.size ≤ maxLen) := by
  intro fuel cs y h
  obtain ⟨s, rfl, _, hs⟩ := DataW.trod_string ht h
  exact ⟨s, rfl, hs⟩
theorem cells_len {b : Nat} {a : Addr} {n : Nat} {cs : List Value} (h : W.cells? b a n = some cs) : cs.length = n := by
  unfold World.cells? at h
  split at h
  · simpa using mapM_some_length h
  · cases h
theorem cells_get {b : Nat} {a : Addr} {n : Nat} {cs : List Value} (h : W.cells? b a n = some cs) (i : Nat) (u : Value) (hu : cs[i]? = some u) : W.cell? (a.add i) = some u := by
  have hl := cells_len h
  have hi : i < n := by rw [← hl]; exact (List.getElem?_eq_some_iff.1 hu).1
  unfold World.cells? at h
  split at h
  · rw [← hu]; exact mapM_some_get h i i (by simp [hi])
  · cases h
theorem each_of {γ : Type} {Q : Nat → γ → Prop} (n : Nat) (h : ∀ i, i < n → ∃ x, Q i x) : ∃ l : List γ, l.length = n ∧ ∀ i x, l[i]? = some x → Q i x := by
  induction n with
  | zero => exact ⟨[], rfl, fun i x hx => by simp at hx⟩
  | succ n ih =>
    obtain ⟨l, hl, hq⟩ := ih (fun i hi => h i (by omega))
    obtain ⟨x, hx⟩ := h n (by omega)
    refine ⟨l ++ [x], by simp [hl], fun i y hy => ?_⟩
    rcases Nat.lt_or_ge i l.length with hi | hi
    · rw [List.getElem?_append_left hi] at hy
      exact hq i y hy
    · rw [List.getElem?_append_right hi] at hy
      have : i - l.length = 0 := by
        have := (List.getElem?_eq_some_iff.1 hy).1
        simp at this
        omega
      rw [this] at hy
      injection hy with hy
      obtain rfl : i = n := by omega
      exact hy ▸ hx
theorem Opens.slice {d : Kd α} {ok : α → Prop} (ht : P.underlying t = some (.slice e)) (hc : P.cellsOf e = d.sz) (h : Opens enc P W e d ok) :
    Opens enc P W t (Kd.slice e d) (fun xs => xs.length ≤ maxLen ∧ ∀ x ∈ xs, ok x) := by
  intro fuel cs y hy
  rcases DataW.trod_slice ht hy with ⟨rfl, _⟩ | ⟨a, len, cap, elems, rest, n, _, rfl, _, hb, hl, hm, hlen, hel, _, _⟩
  · exact ⟨[], ⟨none, 0, rfl, Nat.le_refl _, rfl, by simp, fun h => by simp at h⟩, by simp, by simp⟩
  · have each : ∀ i, i < len → ∃ x : α, (∃ c, c.length = d.sz ∧ d.K W x c ∧ ∀ j u, c[j]? = some u → W.cell? (a.add (i * d.sz + j)) = some u) ∧ ok x := by
      intro i hi
      have h1 := hel i hi
      rw [List.getElem?_eq_getElem (by omega)] at h1
      obtain ⟨c, h2, h3⟩ := Option.bind_eq_some_iff.1 h1
      obtain ⟨x, hK, hx⟩ := h _ _ _ h3
      rw [hc] at h2
      refine ⟨x, ⟨c, d.K_len hK, hK, fun j u hu => ?_⟩, hx⟩
      have h4 := cells_get h2 j u hu
      rwa [add_add] at h4
    obtain ⟨l, hll, hq⟩ := each_of len each
    subst hll
    refine ⟨l, ⟨some a, cap, rfl, hl, rfl, ?_, fun _ => ⟨a, rfl, fun j p hp => (hq j p hp).1⟩⟩, by omega, fun x hx => ?_⟩
    · unfold maxLen at hm; omega
    · obtain ⟨i, hi, rfl⟩ := List.getElem_of_mem hx
      exact (hq i _ (List.getElem?_eq_getElem hi)).2
theorem Opens.imp {d : Kd α} {ok ok' : α → Prop} (h : Opens enc P W t d ok) (hi : ∀ x, ok x → ok' x) : Opens enc P W t d ok' := fun fuel cs y hy => by
  obtain ⟨x, hK, hx⟩ := h _ _ _ hy
  exact ⟨x, hK, hi x hx⟩
def OpensF {α H : Type} (enc : TypeId × Value → H) (P : Program) (W : World) (fs : List Field) (o : Nat) (d : Kd α) (ok : α → Prop) : Prop :=
  ∀ (n : Nat) (cs : List Value) (xs : List (DataW H × List MemPlace)), cs.length = o + d.sz → xs.length = fs.length →
    (∀ (i : Nat) (f : Field), fs[i]? = some f → DataW.trod enc P W 0 (fun _ => true) true n f.type ((cs.drop f.offset).take (P.cellsOf f.type)) = xs[i]?) → ∃ x : α, d.K W x (cs.drop o) ∧ ok x
theorem OpensF.one {d : Kd α} {ok : α → Prop} {f : Field} {o : Nat} (ho : f.offset = o) (hc : P.cellsOf f.type = d.sz) (h : Opens enc P W f.type d ok) : OpensF enc P W [f] o d ok := by
  intro n cs xs hl hx hf
  match xs, hx with
  | [x0], _ =>
    have h0 := hf 0 f rfl
    rw [ho, hc, List.take_of_length_le (by rw [List.length_drop]; omega)] at h0
    exact h n _ x0 (by simpa using h0)
theorem OpensF.cons {d : Kd α} {ok : α → Prop} {d' : Kd β} {ok' : β → Prop} {f : Field} {fs : List Field} {o : Nat} (ho : f.offset = o) (hc : P.cellsOf f.type = d.sz) (h : Opens enc P W f.type d ok)
    (hs : OpensF enc P W fs (o + d.sz) d' ok') : OpensF enc P W (f :: fs) o (Kd.pair d d') (fun x => ok x.1 ∧ ok' x.2) := by
  intro n cs xs hl hx hf
  have hsz : (Kd.pair d d').sz = d.sz + d'.sz := rfl
  match xs, hx with
  | x0 :: xs', hx =>
    have h0 := hf 0 f rfl
    rw [ho, hc] at h0
    obtain ⟨a, ha, oka⟩ := h n _ x0 (by simpa using h0)
    obtain ⟨b, hb, okb⟩ := hs n cs xs' (by omega) (by simpa using hx) (fun i g hg => by simpa using hf (i + 1) g (by simpa using hg))
    refine ⟨(a, b), ⟨(cs.drop o).take d.sz, cs.drop (o + d.sz), ?_, ha, hb⟩, oka, okb⟩
    rw [← List.drop_drop, List.take_append_drop]
theorem Opens.struct {d : Kd α} {ok : α → Prop} {fs : Array Field} (ht : P.underlying t = some (.struct fs)) (hc : P.cellsOf t = d.sz) (h : OpensF enc P W fs.toList 0 d ok) : Opens enc P W t d ok := by
  intro fuel cs y hy
  obtain ⟨xs, n, _, _, hl, hx, hf⟩ := DataW.trod_struct ht hy
  have := h n cs xs (by omega) (by simpa using hx) (fun i f hf' => hf i f (by simpa using hf'))
  simpa using this
end
end Go.Proofs.Ytegelpeegbngiaa.Q
namespace Go.Proofs.Ytegelpeegbngiaa.Q
open Go.RowKit Go.Proofs.YtegelpeegbngiaaW.PrintWords Go.Proofs.YtegelpeegbngiaaW.PrintLast
theorem pos {α : Type} {c : Prop} [Decidable c] {t e : Nat → Option α} {r : α} (h : c) (x : Ev t r) : Ev (fun k => if c then t k else e k) r := by
  obtain ⟨K, hK⟩ := x
  exact ⟨K, fun k hk => (if_pos h).trans (hK k hk)⟩
theorem neg {α : Type} {c : Prop} [Decidable c] {t e : Nat → Option α} {r : α} (h : ¬ c) (x : Ev e r) : Ev (fun k => if c then t k else e k) r := by
  obtain ⟨K, hK⟩ := x
  exact ⟨K, fun k hk => (if_neg h).trans (hK k hk)⟩
theorem both {α : Type} {c : Prop} [Decidable c] {t e : Nat → Option α} {r : α} (x : c → Ev t r) (y : ¬ c → Ev e r) : Ev (fun k => if c then t k else e k) r := by
  by_cases h : c
  · exact pos h (x h)
  · exact neg h (y h)
theorem ret {α : Type} (r : α) : Ev (fun _ => some r) r := Ev.now r
theorem ret' {α : Type} {r q : α} (h : r = q) : Ev (fun _ => some r) q := h ▸ Ev.now r
theorem val {α : Type} {g : Option α} {r : α} (h : g = some r) : Ev (fun _ => g) r := ⟨0, fun _ _ => h⟩
theorem of_eq {α : Type} {g : Nat → Option α} {r q : α} (h : Ev g r) (e : r = q) : Ev g q := e ▸ h
theorem exists_of {α : Type} {g : Nat → Option α} {r : α} (h : Ev g r) : ∃ k, g k = some r := by
  obtain ⟨K, hK⟩ := h
  exact ⟨K, hK K (Nat.le_refl _)⟩
theorem wrap_id {x : Int} (h1 : -9223372036854775808 ≤ x) (h2 : x ≤ 9223372036854775807) : wrap64 x = x := by
  unfold wrap64
  omega
theorem rdOf_lt {α : Type} (d : α) (l : List α) (i : Nat) (h : i < l.length) : rdOf d l (i : Int) = l[i] := by
  simp [rdOf, List.getD_eq_getElem?_getD, h]
theorem toList_inj {a b : ByteArray} (h : a.toList = b.toList) : a = b := by
  rw [ByteArray.toList_eq, ByteArray.toList_eq] at h
  cases a with
  | mk x => cases b with
    | mk y =>
      congr
      exact Array.toList_inj.1 h
end Go.Proofs.Ytegelpeegbngiaa.Q
namespace Go.Proofs.Ytegelpeegbngiaa.Q
open Go.RowKit Go.Proofs.YtegelpeegbngiaaW.PrintWords Go.Proofs.YtegelpeegbngiaaW.PrintLast Go.Proofs.Ytegelpeegbngiaa.P
def textsB (l : List ByteArray) (m : Int) : Bool := l.all (fun s => decide (s.size ≤ 40)) && decide ((l.length : Int) ≤ m)
theorem l2Texts_l0 (l : List ByteArray) (hl : l.length ≤ maxLen) (d : Nat) : ∀ (i : Nat), i + d = l.length → Ev (fun k => spec_l2Texts.l0 k l (i : Int)) ((l.drop i).all (fun s => decide (s.size ≤ 40)) && decide ((l.length : Int) ≤ 16)) := by
  unfold maxLen at hl
  induction d with
  | zero =>
    intro i hi
    refine Ev.step (fun k => by rw [spec_l2Texts.l0]) (neg (by omega) (ret' ?_))
    rw [List.drop_of_length_le (by omega)]
    simp
  | succ d ih =>
    intro i hi
    have hlt : i < l.length := by omega
    refine Ev.step (fun k => by rw [spec_l2Texts.l0]) (pos (by omega) (pos (by omega) ?_))
    rw [rdOf_lt _ _ _ hlt, List.drop_eq_getElem_cons hlt, List.all_cons, wrap_id (by omega) (by omega)]
    refine both (fun h => ret' ?_) (fun h => ?_)
    · have : ¬ l[i].size ≤ 40 := by omega
      simp [this]
    · have : l[i].size ≤ 40 := by omega
      simp only [this, decide_true, Bool.true_and]
      exact ih (i + 1) (by omega)
theorem l2Texts_ev (l : List ByteArray) (hl : l.length ≤ maxLen) : Ev (fun k => spec_l2Texts.f k l) (textsB l 16) := l2Texts_l0 l hl l.length 0 (by omega)
theorem textsOk_l0 (l : List ByteArray) (hl : l.length ≤ maxLen) (m : Int) (d : Nat) : ∀ (i : Nat), i + d = l.length → Ev (fun k => impl_textsOk.l0 k l m l (l.length : Int) (i : Int)) ((l.drop i).all (fun s => decide (s.size ≤ 40)) && decide ((l.length : Int) ≤ m)) := by
  unfold maxLen at hl
  induction d with
  | zero =>
    intro i hi
    refine Ev.step (fun k => by rw [impl_textsOk.l0]) (neg (by omega) (ret' ?_))
    rw [List.drop_of_length_le (by omega)]
    simp
  | succ d ih =>
    intro i hi
    have hlt : i < l.length := by omega
    refine Ev.step (fun k => by rw [impl_textsOk.l0]) (pos (by omega) (pos (by omega) (pos (by omega) ?_)))
    rw [rdOf_lt _ _ _ hlt, List.drop_eq_getElem_cons hlt, List.all_cons, wrap_id (by omega) (by omega)]
    refine both (fun h => ret' ?_) (fun h => ?_)
    · have : ¬ l[i].size ≤ 40 := by omega
      simp [this]
    · have : l[i].size ≤ 40 := by omega
      simp only [this, decide_true, Bool.true_and]
      exact ih (i + 1) (by omega)
theorem textsOk_ev (l : List ByteArray) (hl : l.length ≤ maxLen) (m : Int) : Ev (fun k => impl_textsOk.f k l m) (textsB l m) := textsOk_l0 l hl m l.length 0 (by omega)
theorem listOk_ev (l : List ByteArray) (hl : l.length ≤ maxLen) : Ev (fun k => impl_listOk.f k l) (textsB l 16) := by
  unfold impl_listOk.f
  exact Ev.bind (textsOk_ev l hl 16) (ret _)
end Go.Proofs.Ytegelpeegbngiaa.Q
namespace Go.Proofs.Ytegelpeegbngiaa.Q
open Go.RowKit Go.Proofs.YtegelpeegbngiaaW.PrintWords Go.Proofs.YtegelpeegbngiaaW.PrintLast
theorem bl_irrefl (a : List UInt8) : Op.bytesLess a a = false := by
  induction a with
  | nil => rfl
  | cons x r ih => simp [Op.bytesLess, ih]
theorem bl_trans (a : List UInt8) : ∀ (b c : List UInt8), Op.bytesLess a b = true → Op.bytesLess b c = true → Op.bytesLess a c = true := by
  induction a with
  | nil =>
    intro b c h1 h2
    cases c with
    | nil => cases b <;> simp [Op.bytesLess] at h2
    | cons z c => rfl
  | cons x a ih =>
    intro b c h1 h2
    cases b with
    | nil => simp [Op.bytesLess] at h1
    | cons y b =>
      cases c with
      | nil => simp [Op.bytesLess] at h2
      | cons z c =>
        simp only [Op.bytesLess, Bool.or_eq_true, Bool.and_eq_true, decide_eq_true_eq, beq_iff_eq] at h1 h2 ⊢
        rcases h1 with h1 | ⟨rfl, h1⟩
        · rcases h2 with h2 | ⟨rfl, h2⟩
          · exact .inl (UInt8.lt_trans h1 h2)
          · exact .inl h1
        · rcases h2 with h2 | ⟨rfl, h2⟩
          · exact .inl h2
          · exact .inr ⟨rfl, ih b c h1 h2⟩
theorem bl_tri (a : List UInt8) : ∀ (b : List UInt8), Op.bytesLess a b = true ∨ a = b ∨ Op.bytesLess b a = true := by
  induction a with
  | nil =>
    intro b
    cases b with
    | nil => exact .inr (.inl rfl)
    | cons y b => exact .inl rfl
  | cons x a ih =>
    intro b
    cases b with
    | nil => exact .inr (.inr rfl)
    | cons y b =>
      simp only [Op.bytesLess, Bool.or_eq_true, Bool.and_eq_true, decide_eq_true_eq, beq_iff_eq]
      by_cases h : x < y
      · exact .inl (.inl h)
      · by_cases h' : y < x
        · exact .inr (.inr (.inl h'))
        · obtain rfl : x = y := UInt8.le_antisymm (UInt8.not_lt.1 h') (UInt8.not_lt.1 h)
          rcases ih b with h | rfl | h
          · exact .inl (.inr ⟨rfl, h⟩)
          · exact .inr (.inl rfl)
          · exact .inr (.inr (.inr ⟨rfl, h⟩))
def lt (a b : ByteArray) : Bool := Op.bytesLess a.toList b.toList
theorem lt_irrefl (a : ByteArray) : lt a a = false := bl_irrefl _
theorem lt_trans {a b c : ByteArray} (h : lt a b = true) (h' : lt b c = true) : lt a c = true := bl_trans _ _ _ h h'
theorem lt_tri (a b : ByteArray) : lt a b = true ∨ a = b ∨ lt b a = true := by
  rcases bl_tri a.toList b.toList with h | h | h
  · exact .inl h
  · exact .inr (.inl (toList_inj h))
  · exact .inr (.inr h)
theorem lt_ne {a b : ByteArray} (h : lt a b = true) : a ≠ b := fun e => by rw [e, lt_irrefl] at h; cases h
end Go.Proofs.Ytegelpeegbngiaa.Q
namespace Go.Proofs.Ytegelpeegbngiaa.Q
open Go.RowKit Go.Proofs.YtegelpeegbngiaaW.PrintWords Go.Proofs.YtegelpeegbngiaaW.PrintLast Go.Proofs.Ytegelpeegbngiaa.P
def ascB : List ByteArray → Bool
  | a :: b :: r => lt a b && ascB (b :: r)
  | _ => true
def setB (l : List ByteArray) : Bool := ascB l && textsB l 16
theorem spec_SetOk_l0 (l : List ByteArray) (hl : l.length ≤ maxLen) (d : Nat) : ∀ (j : Nat), j + 1 + d = l.length → Ev (fun k => spec_SetOk.l0 k l ((j : Int) + 1)) (ascB (l.drop j) && textsB l 16) := by
  have hl' := hl
  unfold maxLen at hl'
  induction d with
  | zero =>
    intro j hj
    refine Ev.step (fun k => by rw [spec_SetOk.l0]) (neg (by omega) ?_)
    rw [List.drop_eq_getElem_cons (by omega : j < l.length), List.drop_of_length_le (by omega)]
    exact Ev.bind (l2Texts_ev l hl) (ret' (by simp [ascB]))
  | succ d ih =>
    intro j hj
    have h1 : j < l.length := by omega
    have h2 : j + 1 < l.length := by omega
    have e : (j : Int) + 1 = ((j + 1 : Nat) : Int) := by omega
    refine Ev.step (fun k => by rw [spec_SetOk.l0]) (pos (by omega) ?_)
    rw [wrap_id (x := (j : Int) + 1 - 1) (by omega) (by omega), show (j : Int) + 1 - 1 = (j : Int) by omega]
    refine pos (by omega) (pos (by omega) (pos (by omega) ?_))
    rw [rdOf_lt _ _ _ h1, e, rdOf_lt _ _ _ h2, wrap_id (by omega) (by omega)]
    have hd : l.drop j = l[j] :: l[j + 1] :: l.drop (j + 2) := by rw [List.drop_eq_getElem_cons h1, List.drop_eq_getElem_cons h2]
    have hd1 : l.drop (j + 1) = l[j + 1] :: l.drop (j + 2) := List.drop_eq_getElem_cons h2
    rw [hd]
    refine both (fun h => ?_) (fun h => ret' ?_)
    · have := ih (j + 1) (by omega)
      rw [hd1] at this
      refine of_eq this ?_
      show _ = (lt l[j] l[j + 1] && ascB (l[j + 1] :: l.drop (j + 2)) && textsB l 16)
      rw [show lt l[j] l[j + 1] = true from h, Bool.true_and]
    · show false = (lt l[j] l[j + 1] && ascB (l[j + 1] :: l.drop (j + 2)) && textsB l 16)
      rw [show lt l[j] l[j + 1] = false from Bool.eq_false_iff.2 h, Bool.false_and, Bool.false_and]
theorem spec_SetOk_ev (l : List ByteArray) (hl : l.length ≤ maxLen) : Ev (fun k => spec_SetOk.f k l) (setB l) := by
  unfold spec_SetOk.f setB
  by_cases h : l.length = 0
  · obtain rfl : l = [] := List.length_eq_zero_iff.1 h
    refine Ev.step (fun k => by rw [spec_SetOk.l0]) (neg (by simp) ?_)
    exact Ev.bind (l2Texts_ev [] (by simp)) (ret' (by simp [ascB]))
  · exact spec_SetOk_l0 l hl (l.length - 1) 0 (by omega)
theorem impl_SetOk_l0 (l : List ByteArray) (hl : l.length ≤ maxLen) (d : Nat) : ∀ (j : Nat), j + 1 + d = l.length → Ev (fun k => impl_SetOk.l0 k l ((j : Int) + 1)) (ascB (l.drop j) && textsB l 16) := by
  have hl' := hl
  unfold maxLen at hl'
  induction d with
  | zero =>
    intro j hj
    refine Ev.step (fun k => by rw [impl_SetOk.l0]) (neg (by omega) ?_)
    rw [List.drop_eq_getElem_cons (by omega : j < l.length), List.drop_of_length_le (by omega)]
    exact Ev.bind (listOk_ev l hl) (ret' (by simp [ascB]))
  | succ d ih =>
    intro j hj
    have h1 : j < l.length := by omega
    have h2 : j + 1 < l.length := by omega
    have e : (j : Int) + 1 = ((j + 1 : Nat) : Int) := by omega
    refine Ev.step (fun k => by rw [impl_SetOk.l0]) (pos (by omega) ?_)
    rw [wrap_id (x := (j : Int) + 1 - 1) (by omega) (by omega), show (j : Int) + 1 - 1 = (j : Int) by omega]
    refine pos (by omega) (pos (by omega) (pos (by omega) ?_))
    rw [rdOf_lt _ _ _ h1, e, rdOf_lt _ _ _ h2, wrap_id (by omega) (by omega)]
    have hd : l.drop j = l[j] :: l[j + 1] :: l.drop (j + 2) := by rw [List.drop_eq_getElem_cons h1, List.drop_eq_getElem_cons h2]
    have hd1 : l.drop (j + 1) = l[j + 1] :: l.drop (j + 2) := List.drop_eq_getElem_cons h2
    rw [hd]
    refine both (fun h => ?_) (fun h => ret' ?_)
    · have := ih (j + 1) (by omega)
      rw [hd1] at this
      refine of_eq this ?_
      show _ = (lt l[j] l[j + 1] && ascB (l[j + 1] :: l.drop (j + 2)) && textsB l 16)
      rw [show lt l[j] l[j + 1] = true from h, Bool.true_and]
    · show false = (lt l[j] l[j + 1] && ascB (l[j + 1] :: l.drop (j + 2)) && textsB l 16)
      rw [show lt l[j] l[j + 1] = false from Bool.eq_false_iff.2 h, Bool.false_and, Bool.false_and]
theorem impl_SetOk_ev (l : List ByteArray) (hl : l.length ≤ maxLen) : Ev (fun k => impl_SetOk.f k l) (setB l) := by
  unfold impl_SetOk.f setB
  by_cases h : l.length = 0
  · obtain rfl : l = [] := List.length_eq_zero_iff.1 h
    refine Ev.step (fun k => by rw [impl_SetOk.l0]) (neg (by simp) ?_)
    exact Ev.bind (listOk_ev [] (by simp)) (ret' (by simp [ascB]))
  · exact impl_SetOk_l0 l hl (l.length - 1) 0 (by omega)
end Go.Proofs.Ytegelpeegbngiaa.Q
namespace Go.Proofs.Ytegelpeegbngiaa.Q
open Go.RowKit Go.Proofs.YtegelpeegbngiaaW.PrintWords Go.Proofs.YtegelpeegbngiaaW.PrintLast Go.Proofs.Ytegelpeegbngiaa.P
theorem ascB_iff (l : List ByteArray) : ascB l = true ↔ l.Pairwise (fun a b => lt a b = true) := by
  induction l with
  | nil => simp [ascB]
  | cons a r ih =>
    cases r with
    | nil => simp [ascB]
    | cons b r =>
      rw [ascB, Bool.and_eq_true, ih, List.pairwise_cons (l := b :: r)]
      constructor
      · rintro ⟨h, hp⟩
        refine ⟨fun x hx => ?_, hp⟩
        rcases List.mem_cons.1 hx with rfl | hx
        · exact h
        · exact lt_trans h ((List.pairwise_cons.1 hp).1 x hx)
      · rintro ⟨h, hp⟩
        exact ⟨h b (by simp), hp⟩
theorem setB_iff (l : List ByteArray) : setB l = true ↔ l.Pairwise (fun a b => lt a b = true) ∧ l.length ≤ 16 ∧ ∀ s ∈ l, s.size ≤ 40 := by
  unfold setB textsB
  simp only [Bool.and_eq_true, ascB_iff, List.all_eq_true, decide_eq_true_eq]
  constructor
  · rintro ⟨a, b, c⟩
    exact ⟨a, by omega, b⟩
  · rintro ⟨a, b, c⟩
    exact ⟨a, c, by omega⟩
end Go.Proofs.Ytegelpeegbngiaa.Q
namespace Go.Proofs.Ytegelpeegbngiaa.Q
open Go.RowKit Go.Proofs.YtegelpeegbngiaaW.PrintWords Go.Proofs.YtegelpeegbngiaaW.PrintLast Go.Proofs.Ytegelpeegbngiaa.P
theorem l2Copy_ev (l : List ByteArray) (h : l.length < 8796093022208) : Ev (fun _ => spec_l2Copy.f l) l := by
  unfold spec_l2Copy.f
  refine Ev.bind (ret _) (pos ?_ (ret' rfl))
  simpa using h
theorem copied_ev (l : List ByteArray) (h : l.length < 8796093022208) : Ev (fun _ => impl_copied.f l) l := by
  unfold impl_copied.f
  refine Ev.bind (ret _) (pos ?_ (ret' rfl))
  simpa using h
end Go.Proofs.Ytegelpeegbngiaa.Q
namespace Go.Proofs.Ytegelpeegbngiaa.Q
open Go.RowKit Go.Proofs.YtegelpeegbngiaaW.PrintWords Go.Proofs.YtegelpeegbngiaaW.PrintLast Go.Proofs.Ytegelpeegbngiaa.P
def hasB (l : List ByteArray) (s : ByteArray) : Bool := l.any (fun x => decide (x = s))
theorem toList_iff {a b : ByteArray} : a.toList = b.toList ↔ a = b := ⟨toList_inj, fun h => by rw [h]⟩
theorem l2Has_l0 (l : List ByteArray) (hl : l.length ≤ maxLen) (s : ByteArray) (d : Nat) : ∀ (i : Nat), i + d = l.length → Ev (fun k => spec_l2Has.l0 k l s (i : Int)) (hasB (l.drop i) s) := by
  unfold maxLen at hl
  induction d with
  | zero =>
    intro i hi
    refine Ev.step (g := fun k => spec_l2Has.l0 k _ _ _) (fun k => by rw [spec_l2Has.l0]) (neg (by omega) (ret' ?_))
    rw [List.drop_of_length_le (by omega)]
    rfl
  | succ d ih =>
    intro i hi
    have hlt : i < l.length := by omega
    refine Ev.step (g := fun k => spec_l2Has.l0 k _ _ _) (fun k => by rw [spec_l2Has.l0]) (pos (by omega) (pos (by omega) ?_))
    rw [rdOf_lt _ _ _ hlt, List.drop_eq_getElem_cons hlt, wrap_id (by omega) (by omega)]
    refine both (fun h => ret' ?_) (fun h => ?_)
    · simp [hasB, toList_iff.1 h]
    · have : l[i] ≠ s := fun e => h (by rw [e])
      refine of_eq (ih (i + 1) (by omega)) ?_
      show _ = (decide (l[i] = s) || hasB (l.drop (i + 1)) s)
      rw [decide_eq_false this, Bool.false_or]
theorem l2Has_ev (l : List ByteArray) (hl : l.length ≤ maxLen) (s : ByteArray) : Ev (fun k => spec_l2Has.f k l s) (hasB l s) := l2Has_l0 l hl s l.length 0 (by omega)
theorem Index_l0 (l : List ByteArray) (hl : l.length ≤ maxLen) (s : ByteArray) (d : Nat) : ∀ (i : Nat), i + d = l.length →
    ∃ r, Ev (fun k => slices_Index_string_string.l0 k l s (l.length : Int) (i : Int)) r ∧ decide (r ≥ 0) = hasB (l.drop i) s := by
  unfold maxLen at hl
  induction d with
  | zero =>
    intro i hi
    refine ⟨-1, Ev.step (g := fun k => slices_Index_string_string.l0 k _ _ _ _) (fun k => by rw [slices_Index_string_string.l0]) (neg (by omega) (ret _)), ?_⟩
    rw [List.drop_of_length_le (by omega)]
    rfl
  | succ d ih =>
    intro i hi
    have hlt : i < l.length := by omega
    by_cases h : l[i] = s
    · refine ⟨i, Ev.step (g := fun k => slices_Index_string_string.l0 k _ _ _ _) (fun k => by rw [slices_Index_string_string.l0]) (pos (by omega) (pos (by omega) (pos (by omega) ?_))), ?_⟩
      · rw [rdOf_lt _ _ _ hlt]
        exact pos (by rw [h]) (ret _)
      · rw [List.drop_eq_getElem_cons hlt]
        simp [hasB, h]
    · obtain ⟨r, hr, he⟩ := ih (i + 1) (by omega)
      refine ⟨r, Ev.step (g := fun k => slices_Index_string_string.l0 k _ _ _ _) (fun k => by rw [slices_Index_string_string.l0]) (pos (by omega) (pos (by omega) (pos (by omega) ?_))), ?_⟩
      · rw [rdOf_lt _ _ _ hlt, wrap_id (by omega) (by omega)]
        exact neg (fun e => h (toList_iff.1 e.symm)) hr
      · rw [List.drop_eq_getElem_cons hlt, he]
        show _ = (decide (l[i] = s) || hasB (l.drop (i + 1)) s)
        rw [decide_eq_false h, Bool.false_or]
theorem Contains_ev (l : List ByteArray) (hl : l.length ≤ maxLen) (s : ByteArray) : Ev (fun k => slices_Contains_string_string.f k l s) (hasB l s) := by
  obtain ⟨r, hr, he⟩ := Index_l0 l hl s l.length 0 (by omega)
  unfold slices_Contains_string_string.f
  exact Ev.bind hr (ret' he)
def chosenM (l o : List ByteArray) (b : Bool) : List ByteArray := l.filter (fun s => hasB o s == b)
theorem chosenM_cons (a : ByteArray) (l o : List ByteArray) (b : Bool) : chosenM (a :: l) o b = if (hasB o a == b) = true then a :: chosenM l o b else chosenM l o b := by simp [chosenM, List.filter_cons]
theorem chosen_l0 (l o : List ByteArray) (b : Bool) (hl : l.length ≤ 1048576) (ho : o.length ≤ maxLen) (d : Nat) : ∀ (i : Nat) (x : List ByteArray), i + d = l.length → x.length ≤ i →
    Ev (fun k => impl_chosen.l0 k o b x l (l.length : Int) (i : Int)) (x ++ chosenM (l.drop i) o b) := by
  induction d with
  | zero =>
    intro i x hi hx
    refine Ev.step (g := fun k => impl_chosen.l0 k _ _ _ _ _ _) (fun k => by rw [impl_chosen.l0]) (neg (by omega) (ret' ?_))
    rw [List.drop_of_length_le (by omega)]
    simp [chosenM]
  | succ d ih =>
    intro i x hi hx
    have hlt : i < l.length := by omega
    refine Ev.step (g := fun k => impl_chosen.l0 k _ _ _ _ _ _) (fun k => by rw [impl_chosen.l0]) (pos (by omega) (pos (by omega) (pos (by omega) ?_)))
    rw [rdOf_lt _ _ _ hlt, wrap_id (by omega) (by omega)]
    refine Ev.bind (Contains_ev o ho _) ?_
    rw [List.drop_eq_getElem_cons hlt]
    refine both (fun h => ?_) (fun h => ?_)
    · refine pos (by omega) (of_eq (ih (i + 1) _ (by omega) (by simp; omega)) ?_)
      rw [chosenM_cons, if_pos h, List.append_assoc, List.singleton_append]
    · refine of_eq (ih (i + 1) _ (by omega) (by omega)) ?_
      rw [chosenM_cons, if_neg h]
theorem chosen_ev (l o : List ByteArray) (b : Bool) (hl : l.length ≤ 1048576) (ho : o.length ≤ maxLen) : Ev (fun k => impl_chosen.f k l o b) (chosenM l o b) := by
  have := chosen_l0 l o b hl ho l.length 0 [] (by omega) (by simp)
  simpa [impl_chosen.f] using this
theorem chosenM_len (l o : List ByteArray) (b : Bool) : (chosenM l o b).length ≤ l.length := List.length_filter_le _ _
end Go.Proofs.Ytegelpeegbngiaa.Q
namespace Go.Proofs.Ytegelpeegbngiaa.Q
open Go.RowKit Go.Proofs.YtegelpeegbngiaaW.PrintWords Go.Proofs.YtegelpeegbngiaaW.PrintLast Go.Proofs.Ytegelpeegbngiaa.P
def leL (a b : List UInt8) : Prop := Op.bytesLess b a = false
theorem leL_trans {a b c : List UInt8} (h : leL a b) (h' : leL b c) : leL a c := by
  unfold leL at h h' ⊢
  cases e : Op.bytesLess c a with
  | false => rfl
  | true =>
    rcases bl_tri a b with q | q | q
    · rw [bl_trans _ _ _ e q] at h'; cases h'
    · rw [← q, e] at h'; cases h'
    · rw [q] at h; cases h
theorem leL_lt {a b c : List UInt8} (h : leL a b) (h' : Op.bytesLess b c = true) : Op.bytesLess a c = true := by
  unfold leL at h
  rcases bl_tri a b with q | q | q
  · exact bl_trans _ _ _ q h'
  · rw [q]; exact h'
  · rw [q] at h; cases h
theorem leL_ne {a b : List UInt8} (h : leL a b) (h' : a ≠ b) : Op.bytesLess a b = true := by
  unfold leL at h
  rcases bl_tri a b with q | q | q
  · exact q
  · exact absurd q h'
  · rw [q] at h; cases h
theorem le_leL (a b : List UInt8) : decide (a ≤ b) = true ↔ leL a b := by
  unfold leL
  rw [bytesLess_eq, decide_eq_true_iff, decide_eq_false_iff_not]
  exact Iff.rfl
theorem leL_refl (a : List UInt8) : leL a a := bl_irrefl a
theorem mergeSort_le (l : List (List UInt8)) : (l.mergeSort fun x y => decide (x ≤ y)).Pairwise leL := by
  have := List.pairwise_mergeSort (le := fun x y : List UInt8 => decide (x ≤ y)) (fun a b c h h' => (le_leL a c).2 (leL_trans ((le_leL a b).1 h) ((le_leL b c).1 h'))) (fun a b => by
    rw [Bool.or_eq_true, le_leL, le_leL]
    unfold leL
    rcases bl_tri a b with q | q | q
    · left
      cases e : Op.bytesLess b a with
      | false => rfl
      | true => have := bl_trans _ _ _ q e; rw [bl_irrefl] at this; cases this
    · left; rw [q]; exact bl_irrefl _
    · right
      cases e : Op.bytesLess a b with
      | false => rfl
      | true => have := bl_trans _ _ _ q e; rw [bl_irrefl] at this; cases this) l
  exact this.imp (fun h => (le_leL _ _).1 h)
theorem compactUpTo_facts (zs : List (List UInt8)) (hs : zs.Pairwise leL) (m : Nat) : m ≤ zs.length → (Go.Lib.compactUpTo zs.toArray m).Pairwise (fun a b => Op.bytesLess a b = true) ∧ ∀ x, x ∈ Go.Lib.compactUpTo zs.toArray m ↔ ∃ (j : Nat) (h : j < zs.length), j < m ∧ zs[j] = x := by
  have get : ∀ (j : Nat) (h : j < zs.length), zs.toArray[j]! = zs[j] := fun j h => by simp [getElem!_pos, h]
  induction m with
  | zero => intro _; exact ⟨by simp [Go.Lib.compactUpTo], fun x => by simp [Go.Lib.compactUpTo]⟩
  | succ m ih =>
    intro hm
    obtain ⟨i1, i2⟩ := ih (by omega)
    rw [Go.Lib.compactUpTo_succ]
    cases hk : Go.Lib.keeps zs.toArray m with
    | true =>
      rw [if_pos rfl]
      refine ⟨?_, fun x => ?_⟩
      · rw [List.pairwise_append]
        refine ⟨i1, by simp, fun a ha b hb => ?_⟩
        rw [List.mem_singleton.1 hb, get m (by omega)]
        obtain ⟨j, hj, hjm, rfl⟩ := (i2 a).1 ha
        have hm0 : m ≠ 0 := by omega
        have hne : zs[m - 1] ≠ zs[m] := by
          intro e
          unfold Go.Lib.keeps at hk
          simp only [decide_eq_true_eq] at hk
          rcases hk with hk | hk
          · exact hm0 hk
          · rw [get m (by omega), get (m - 1) (by omega)] at hk
            exact hk e.symm
        have h1 : leL zs[j] zs[m - 1] := by
          rcases Nat.lt_or_ge j (m - 1) with q | q
          · exact List.pairwise_iff_getElem.1 hs j (m - 1) hj (by omega) q
          · have e : j = m - 1 := by omega
            subst e
            exact leL_refl _
        exact leL_lt h1 (leL_ne (List.pairwise_iff_getElem.1 hs (m - 1) m (by omega) (by omega) (by omega)) hne)
      · rw [List.mem_append, i2, List.mem_singleton, get m (by omega)]
        constructor
        · rintro (⟨j, hj, h1, h2⟩ | h)
          · exact ⟨j, hj, by omega, h2⟩
          · exact ⟨m, by omega, by omega, h.symm⟩
        · rintro ⟨j, hj, h1, h2⟩
          rcases Nat.lt_or_ge j m with q | q
          · exact .inl ⟨j, hj, q, h2⟩
          · have e : j = m := by omega
            subst e
            exact .inr h2.symm
    | false =>
      rw [if_neg (by decide), List.append_nil]
      refine ⟨i1, fun x => ?_⟩
      rw [i2]
      have hk' : m ≠ 0 ∧ zs[m]'(by omega) = zs[m - 1]'(by omega) := by
        unfold Go.Lib.keeps at hk
        simp only [decide_eq_false_iff_not, not_or, Decidable.not_not] at hk
        rw [get m (by omega), get (m - 1) (by omega)] at hk
        exact hk
      constructor
      · rintro ⟨j, hj, h1, h2⟩
        exact ⟨j, hj, by omega, h2⟩
      · rintro ⟨j, hj, h1, h2⟩
        rcases Nat.lt_or_ge j m with q | q
        · exact ⟨j, hj, q, h2⟩
        · have e : j = m := by omega
          subst e
          exact ⟨j - 1, by omega, by omega, by rw [← hk'.2]; exact h2⟩
def unionM (l o : List ByteArray) : List ByteArray := slices_Compact_string_string.compact (slices_Sort_string_string.sorted (l ++ o))
theorem dataL (s : ByteArray) : s.toList = s.data.toList := ByteArray.toList_eq s
theorem unionM_data (l o : List ByteArray) : (unionM l o).map (·.data.toList) = Go.Lib.compact (((l ++ o).map (·.data.toList)).mergeSort fun x y => decide (x ≤ y)) := by
  unfold unionM
  rw [slices_Compact_string_string.compact_data, slices_Sort_string_string.sorted_data]
theorem unionM_asc (l o : List ByteArray) : (unionM l o).Pairwise (fun a b => lt a b = true) := by
  have h := (compactUpTo_facts _ (mergeSort_le ((l ++ o).map (·.data.toList))) _ (Nat.le_refl _)).1
  have e : Go.Lib.compactUpTo (((l ++ o).map (·.data.toList)).mergeSort fun x y => decide (x ≤ y)).toArray _ = (unionM l o).map (·.data.toList) := (unionM_data l o).symm
  rw [e, List.pairwise_map] at h
  refine h.imp (fun {a b} q => ?_)
  unfold lt
  rw [dataL, dataL]
  exact q
theorem data_inj {a b : ByteArray} (h : a.data.toList = b.data.toList) : a = b := toList_inj (by rw [dataL, dataL, h])
theorem unionM_mem (l o : List ByteArray) (s : ByteArray) : s ∈ unionM l o ↔ s ∈ l ∨ s ∈ o := by
  have h := (compactUpTo_facts _ (mergeSort_le ((l ++ o).map (·.data.toList))) _ (Nat.le_refl _)).2 s.data.toList
  have e : Go.Lib.compactUpTo (((l ++ o).map (·.data.toList)).mergeSort fun x y => decide (x ≤ y)).toArray _ = (unionM l o).map (·.data.toList) := (unionM_data l o).symm
  rw [e] at h
  have h1 : s ∈ unionM l o ↔ s.data.toList ∈ (unionM l o).map (·.data.toList) := by
    rw [List.mem_map]
    exact ⟨fun q => ⟨s, q, rfl⟩, fun ⟨a, q, w⟩ => by rw [← data_inj w]; exact q⟩
  rw [h1, h]
  have h2 : (∃ (j : Nat) (q : j < (((l ++ o).map (·.data.toList)).mergeSort fun x y => decide (x ≤ y)).length), j < (((l ++ o).map (·.data.toList)).mergeSort fun x y => decide (x ≤ y)).length ∧ (((l ++ o).map (·.data.toList)).mergeSort fun x y => decide (x ≤ y))[j] = s.data.toList) ↔ s.data.toList ∈ ((l ++ o).map (·.data.toList)).mergeSort fun x y => decide (x ≤ y) := by
    rw [List.mem_iff_getElem]
    exact ⟨fun ⟨j, q, _, w⟩ => ⟨j, q, w⟩, fun ⟨j, q, w⟩ => ⟨j, q, q, w⟩⟩
  rw [h2, List.mem_mergeSort, List.mem_map, ← List.mem_append]
  exact ⟨fun ⟨a, q, w⟩ => by rw [← data_inj w]; exact q, fun q => ⟨s, q, rfl⟩⟩
theorem unionM_len (l o : List ByteArray) : (unionM l o).length ≤ l.length + o.length := by
  have h := congrArg List.length (unionM_data l o)
  rw [List.length_map] at h
  rw [h]
  refine Nat.le_trans (Go.Lib.compact_length_le _) ?_
  simp
theorem union_ev (l o : List ByteArray) (hl : l.length ≤ 1048576) (ho : o.length ≤ 1048576) : Ev (fun _ => impl_union.f l o) (unionM l o) := by
  have h := unionM_len l o
  unfold impl_union.f
  refine Ev.bind (copied_ev l (by omega)) (pos (by omega) ?_)
  have hs : slices_Sort_string_string.f (l ++ o) = some (slices_Sort_string_string.sorted (l ++ o)) := by
    unfold slices_Sort_string_string.f
    rw [if_pos (by simp; omega)]
  refine Ev.bind (val hs) (Ev.bind (val rfl) ?_)
  exact Ev.bind (copied_ev (unionM l o) (by omega)) (ret _)
theorem asc_unique (l : List ByteArray) : ∀ (o : List ByteArray), l.Pairwise (fun a b => lt a b = true) → o.Pairwise (fun a b => lt a b = true) → (∀ s, s ∈ l ↔ s ∈ o) → l = o := by
  induction l with
  | nil =>
    intro o _ _ h
    cases o with
    | nil => rfl
    | cons y o => exact absurd ((h y).2 (by simp)) (by simp)
  | cons x l ih =>
    intro o hl ho h
    cases o with
    | nil => exact absurd ((h x).1 (by simp)) (by simp)
    | cons y o =>
      obtain ⟨l1, l2⟩ := List.pairwise_cons.1 hl
      obtain ⟨o1, o2⟩ := List.pairwise_cons.1 ho
      have e : x = y := by
        rcases List.mem_cons.1 ((h x).1 (by simp)) with q | q
        · exact q
        · rcases List.mem_cons.1 ((h y).2 (by simp)) with q' | q'
          · exact q'.symm
          · have := lt_trans (o1 x q) (l1 y q'); rw [lt_irrefl] at this; cases this
      subst e
      congr 1
      refine ih o l2 o2 (fun s => ?_)
      constructor
      · intro q
        rcases List.mem_cons.1 ((h s).1 (by simp [q])) with q' | q'
        · exact absurd (l1 s q) (by rw [q', lt_irrefl]; decide)
        · exact q'
      · intro q
        rcases List.mem_cons.1 ((h s).2 (by simp [q])) with q' | q'
        · exact absurd (o1 s q) (by rw [q', lt_irrefl]; decide)
        · exact q'
end Go.Proofs.Ytegelpeegbngiaa.Q
namespace Go.Proofs.Ytegelpeegbngiaa.Q
open Go.RowKit Go.Proofs.YtegelpeegbngiaaW.PrintWords Go.Proofs.YtegelpeegbngiaaW.PrintLast Go.Proofs.Ytegelpeegbngiaa.P
def Code (l : List Int) : Prop := l.length ≤ 2000 ∧ ∀ x ∈ l, 0 ≤ x ∧ x ≤ 255
theorem xor_nonneg (x y : Int) (hx : 0 ≤ x) (hx' : x < 9223372036854775808) (hy : 0 ≤ y) (hy' : y < 9223372036854775808) : 0 ≤ Go.bits .xor .i64 x y := by
  have h1 : (BitVec.ofInt 64 x) = BitVec.ofNat 64 x.toNat := by
    apply BitVec.eq_of_toNat_eq
    rw [BitVec.toNat_ofInt, BitVec.toNat_ofNat]
    omega
  have h2 : (BitVec.ofInt 64 y) = BitVec.ofNat 64 y.toNat := by
    apply BitVec.eq_of_toNat_eq
    rw [BitVec.toNat_ofInt, BitVec.toNat_ofNat]
    omega
  have h3 : (BitVec.ofNat 64 x.toNat ^^^ BitVec.ofNat 64 y.toNat).toNat < 2 ^ 63 := by
    rw [BitVec.toNat_xor, BitVec.toNat_ofNat, BitVec.toNat_ofNat, Nat.mod_eq_of_lt (by omega), Nat.mod_eq_of_lt (by omega)]
    exact Nat.xor_lt_two_pow (by omega) (by omega)
  show 0 ≤ IntKind.i64.wrap ((BitVec.ofInt 64 x ^^^ BitVec.ofInt 64 y).toNat : Int)
  rw [h1, h2]
  generalize (BitVec.ofNat 64 x.toNat ^^^ BitVec.ofNat 64 y.toNat).toNat = m at h3
  have h4 : IntKind.i64.wrap (m : Int) = wrap64 (m : Int) := i64_w _
  rw [h4, wrap_id (by omega) (by omega)]
  omega
theorem l1Open_ev (l : List Int) (hl : l.length ≤ maxLen) (hb : ∀ x ∈ l, (Lit.int .u8 x).wf = true) : ∃ c, Ev (fun _ => spec_l1Open.f l) (c, 0) ∧ Code c := by
  unfold maxLen at hl
  have hb' : ∀ x ∈ l, 0 ≤ x ∧ x ≤ 255 := by
    intro x hx
    have := hb x hx
    simp only [Lit.wf, Bool.and_eq_true, decide_eq_true_eq] at this
    exact this
  unfold spec_l1Open.f
  by_cases h : (l.length : Int) > 2000
  · refine ⟨l.take 2000, pos h (pos (by omega) (ret _)), by simp; omega, fun x hx => hb' x (List.mem_of_mem_take hx)⟩
  · exact ⟨l, neg h (ret _), by omega, hb'⟩
theorem rd_code {l : List Int} (hl : Code l) (i : Int) (h0 : 0 ≤ i) (h1 : i < l.length) : 0 ≤ rd l i ∧ rd l i ≤ 255 := by
  obtain ⟨n, rfl⟩ := Int.eq_ofNat_of_zero_le h0
  have hn : n < l.length := by omega
  have : rd l (n : Int) = l[n] := by simp [rd, List.getD_eq_getElem?_getD, hn]
  rw [this]
  exact hl.2 _ (List.getElem_mem hn)
theorem tmod_bd (a n : Int) (ha : 0 ≤ a) (hn : 0 < n) : 0 ≤ Int.tmod a n ∧ Int.tmod a n < n := ⟨Int.tmod_nonneg _ ha, Int.tmod_lt_of_pos _ hn⟩
theorem tdiv_bd (a n : Int) (ha : 0 ≤ a) (hn : 0 < n) : 0 ≤ Int.tdiv a n ∧ Int.tdiv a n ≤ a := by
  rw [Int.tdiv_eq_ediv_of_nonneg ha]
  exact ⟨Int.ediv_nonneg ha (by omega), Int.ediv_le_self _ ha⟩
theorem pick_ev (l : List Int) (hl : Code l) (p n : Int) (h0 : 0 ≤ p) (h1 : p ≤ 1000000000) (hn : 1 ≤ n) (hn' : n ≤ 4294967296) : ∃ v, Ev (fun k => spec_l1Rd_pick.f k l p n) (v, p + 1) ∧ 0 ≤ v ∧ v < n := by
  have hlen := hl.1
  have e1 : wrap64 (p + 1) = p + 1 := wrap_id (by omega) (by omega)
  have e2 : wrap64 (p + 1 - 1) = p := by rw [wrap_id (by omega) (by omega)]; omega
  unfold spec_l1Rd_pick.f
  rw [e1]
  by_cases hz : l.length = 0
  · have e : ((l.length : Int) == 0) = true := by simp [hz]
    refine ⟨0, neg (by omega) ?_, by omega, by omega⟩
    rw [e]
    refine Ev.step (g := fun k => spec_l1Rd_pick.j0 k _ _ _ _) (fun k => by rw [spec_l1Rd_pick.j0]) ?_
    exact pos rfl (ret _)
  · have e : ((l.length : Int) == 0) = false := by simp; exact fun h => hz (by simp [h])
    rw [e]
    by_cases hlt : p < l.length
    · obtain ⟨b0, b1⟩ := rd_code hl p h0 hlt
      have e3 : wrap64 (rd l p) = rd l p := wrap_id (by omega) (by omega)
      obtain ⟨c0, c1⟩ := tmod_bd (rd l p) n b0 (by omega)
      refine ⟨Int.tmod (rd l p) n, neg (by omega) ?_, c0, c1⟩
      refine Ev.step (g := fun k => spec_l1Rd_pick.j0 k _ _ _ _) (fun k => by rw [spec_l1Rd_pick.j0]) (neg (by decide) ?_)
      rw [e2, e3]
      exact pos hlt (pos h0 (neg (by omega) (ret _)))
    · have hpos : (0 : Int) < l.length := by omega
      obtain ⟨m0, m1⟩ := tmod_bd p l.length h0 hpos
      have e7 : wrap64 (p * 7) = p * 7 := wrap_id (by omega) (by omega)
      have e73 : wrap64 (p * 7 + 3) = p * 7 + 3 := wrap_id (by omega) (by omega)
      obtain ⟨q0, q1⟩ := tmod_bd (p * 7 + 3) l.length (by omega) hpos
      obtain ⟨d0, d1⟩ := tdiv_bd p l.length h0 hpos
      obtain ⟨b0, b1⟩ := rd_code hl _ m0 m1
      obtain ⟨b2, b3⟩ := rd_code hl _ q0 q1
      generalize hA : rd l (Int.tmod p (l.length : Int)) = A at b0 b1
      generalize hB : rd l (Int.tmod (p * 7 + 3) (l.length : Int)) = B at b2 b3
      generalize hD : Int.tdiv p (l.length : Int) = D at d0 d1
      have f1 : wrap64 A = A := wrap_id (by omega) (by omega)
      have f2 : wrap64 (A * 131) = A * 131 := wrap_id (by omega) (by omega)
      have f3 : wrap64 B = B := wrap_id (by omega) (by omega)
      have f4 : wrap64 (B * 1117) = B * 1117 := wrap_id (by omega) (by omega)
      have f5 : wrap64 (A * 131 + B * 1117) = A * 131 + B * 1117 := wrap_id (by omega) (by omega)
      have f6 : wrap64 (p * 29) = p * 29 := wrap_id (by omega) (by omega)
      have f7 : wrap64 (A * 131 + B * 1117 + p * 29) = A * 131 + B * 1117 + p * 29 := wrap_id (by omega) (by omega)
      have f8 : wrap64 D = D := wrap_id (by omega) (by omega)
      have f9 : wrap64 (D * 53) = D * 53 := wrap_id (by omega) (by omega)
      have f10 : wrap64 (A * 131 + B * 1117 + p * 29 + D * 53) = A * 131 + B * 1117 + p * 29 + D * 53 := wrap_id (by omega) (by omega)
      generalize hX : A * 131 + B * 1117 + p * 29 + D * 53 = X at f10
      have x0 : 0 ≤ X := by omega
      have x1 : X ≤ 1000000000000 := by omega
      obtain ⟨y0, y1⟩ := tdiv_bd X 64 x0 (by omega)
      have f11 : wrap64 (Int.tdiv X 64) = Int.tdiv X 64 := wrap_id (by omega) (by omega)
      have z0 := xor_nonneg X (Int.tdiv X 64) x0 (by omega) y0 (by omega)
      obtain ⟨c0, c1⟩ := tmod_bd _ n z0 (by omega)
      refine ⟨_, neg (by omega) ?_, c0, c1⟩
      refine Ev.step (g := fun k => spec_l1Rd_pick.j0 k _ _ _ _) (fun k => by rw [spec_l1Rd_pick.j0]) (neg (by decide) ?_)
      rw [e2, e7, e73, hA, hB, hD, f1, f2, f3, f4, f5, f6, f7, f8, f9, hX, f10, f11]
      exact neg hlt (neg (by omega) (pos m0 (pos m1 (pos q0 (pos q1 (neg (by omega) (ret _)))))))
theorem of_ev (l : List Int) (hl : Code l) (p : Int) (t : List ByteArray) (h0 : 0 ≤ p) (h1 : p ≤ 1000000000) (ht : 0 < t.length) (ht' : t.length ≤ 1000) : ∃ s, Ev (fun k => spec_l1Rd_of.f k l p t) (s, p + 1) ∧ s ∈ t := by
  obtain ⟨v, hv, v0, v1⟩ := pick_ev l hl p t.length h0 h1 (by omega) (by omega)
  obtain ⟨n, rfl⟩ := Int.eq_ofNat_of_zero_le v0
  have hn : n < t.length := by omega
  refine ⟨t[n], ?_, List.getElem_mem hn⟩
  unfold spec_l1Rd_of.f
  refine Ev.bind hv (pos v0 (pos v1 (ret' ?_)))
  rw [rdOf_lt _ _ _ hn]
end Go.Proofs.Ytegelpeegbngiaa.Q
namespace Go.Proofs.Ytegelpeegbngiaa.Q
open Go.RowKit Go.Proofs.YtegelpeegbngiaaW.PrintWords Go.Proofs.YtegelpeegbngiaaW.PrintLast Go.Proofs.Ytegelpeegbngiaa.P
theorem l1Many_l0 (d : Nat) : ∀ (n : Nat) (x y : ByteArray), n ≤ d → n ≤ 1000000 → y.size + x.size * n ≤ 1000000 → ∃ s, Ev (fun k => spec_l1Many.l0 k x (n : Int) y) s ∧ s.size = y.size + x.size * n := by
  induction d with
  | zero =>
    intro n x y hn _ h
    obtain rfl : n = 0 := by omega
    exact ⟨y, Ev.step (g := fun k => spec_l1Many.l0 k _ _ _) (fun k => by rw [spec_l1Many.l0]) (neg (by omega) (ret _)), by simp⟩
  | succ d ih =>
    intro n x y hn hb h
    by_cases h0 : n = 0
    · subst h0
      exact ⟨y, Ev.step (g := fun k => spec_l1Many.l0 k _ _ _) (fun k => by rw [spec_l1Many.l0]) (neg (by omega) (ret _)), by simp⟩
    · have e1 : Int.tmod (n : Int) 2 = (n : Int) % 2 := Int.tmod_eq_emod_of_nonneg (by omega)
      have e2 : Int.tdiv (n : Int) 2 = ((n / 2 : Nat) : Int) := by rw [Int.tdiv_eq_ediv_of_nonneg (by omega)]; omega
      have hx : x.size ≤ x.size * n := Nat.le_mul_of_pos_right _ (by omega)
      have sq : (x ++ x).size = x.size + x.size := ByteArray.size_append
      have hm : x.size * n = (x.size + x.size) * (n / 2) + x.size * (n % 2) := by
        have : n = 2 * (n / 2) + n % 2 := by omega
        conv => lhs; rw [this, Nat.mul_add, ← Nat.mul_assoc, Nat.mul_two]
      rcases (show n % 2 = 1 ∨ n % 2 = 0 by omega) with ho | ho
      · have sy : (y ++ x).size = y.size + x.size := ByteArray.size_append
        rw [ho, Nat.mul_one] at hm
        obtain ⟨s, hs, hz⟩ := ih (n / 2) (x ++ x) (y ++ x) (by omega) (by omega) (by rw [sq, sy]; omega)
        rw [sq, sy] at hz
        refine ⟨s, Ev.step (g := fun k => spec_l1Many.l0 k _ _ _) (fun k => by rw [spec_l1Many.l0]) (pos (by omega) ?_), by omega⟩
        rw [e1, e2, wrap_id (by omega) (by omega)]
        exact pos (by omega) (pos (by omega) (pos (by omega) hs))
      · rw [ho, Nat.mul_zero, Nat.add_zero] at hm
        obtain ⟨s, hs, hz⟩ := ih (n / 2) (x ++ x) y (by omega) (by omega) (by rw [sq]; omega)
        rw [sq] at hz
        refine ⟨s, Ev.step (g := fun k => spec_l1Many.l0 k _ _ _) (fun k => by rw [spec_l1Many.l0]) (pos (by omega) ?_), by omega⟩
        rw [e1, e2, wrap_id (by omega) (by omega)]
        exact neg (by omega) (pos (by omega) hs)
theorem l1Many_ev (x : ByteArray) (n : Nat) (h : n ≤ 1000) (hx : x.size = 1) : ∃ s, Ev (fun k => spec_l1Many.f k x (n : Int)) s ∧ s.size = n := by
  obtain ⟨s, hs, hz⟩ := l1Many_l0 n n x (⟨#[]⟩ : ByteArray) (Nat.le_refl _) (by omega) (by rw [hx]; show 0 + 1 * n ≤ _; omega)
  refine ⟨s, hs, ?_⟩
  rw [hz, hx]
  show 0 + 1 * n = n
  omega
theorem l11Text_ev (l : List Int) (hl : Code l) (p : Int) (h0 : 0 ≤ p) (h1 : p ≤ 1000000000) : ∃ s, Ev (fun k => spec_l11Text.f k l p) (s, p + 1) ∧ s.size ≤ 40 := by
  obtain ⟨m, hm, hz⟩ := l1Many_ev (⟨#[120]⟩ : ByteArray) 40 (by omega) rfl
  obtain ⟨s, hs, hmem⟩ := of_ev l hl p (([(⟨#[]⟩ : ByteArray), (⟨#[97]⟩ : ByteArray), (⟨#[98]⟩ : ByteArray), (⟨#[99]⟩ : ByteArray), (⟨#[53]⟩ : ByteArray), (⟨#[45, 51]⟩ : ByteArray), (⟨#[104, 101, 108, 108, 111]⟩ : ByteArray), (⟨#[13, 10]⟩ : ByteArray), (⟨#[255]⟩ : ByteArray), m, (⟨#[57, 57, 57, 57, 57, 57, 57, 57, 57]⟩ : ByteArray)] : List ByteArray)) h0 h1 (by simp) (by simp)
  refine ⟨s, ?_, ?_⟩
  · unfold spec_l11Text.f
    exact Ev.bind hm (Ev.bind hs (ret _))
  · simp only [List.mem_cons, List.not_mem_nil, or_false] at hmem
    rcases hmem with rfl | rfl | rfl | rfl | rfl | rfl | rfl | rfl | rfl | rfl | rfl <;> first | decide | omega
end Go.Proofs.Ytegelpeegbngiaa.Q
namespace Go.Proofs.Ytegelpeegbngiaa.Q
open Go.RowKit Go.Proofs.YtegelpeegbngiaaW.PrintWords Go.Proofs.YtegelpeegbngiaaW.PrintLast Go.Proofs.Ytegelpeegbngiaa.P
theorem strOfNums_one' (x : Int) : (strOfNums [x]).size = 1 := rfl
theorem l1Dec_ev (n : Nat) (h : n < 100) : ∃ s, Ev (fun k => spec_l1Dec.f k (n : Int)) s ∧ s.size ≤ 2 := by
  have small : ∀ m : Nat, m < 10 → Ev (fun k => spec_l1Dec.f k (m : Int)) (strOfNums (([(wrap64 (48 + (m : Int))) % 256] : List Int))) := fun m hm =>
    Ev.step (g := fun k => spec_l1Dec.f k _) (fun k => by rw [spec_l1Dec.f]) (neg (by omega) (neg (by omega) (pos (by omega) (ret _))))
  by_cases h10 : n < 10
  · exact ⟨_, small n h10, by rw [strOfNums_one']; omega⟩
  · have e2 : Int.tdiv (n : Int) 10 = ((n / 10 : Nat) : Int) := by rw [Int.tdiv_eq_ediv_of_nonneg (by omega)]; omega
    refine ⟨strOfNums (([(wrap64 (48 + ((n / 10 : Nat) : Int))) % 256] : List Int)) ++ strOfNums (([(wrap64 (48 + (Int.tmod (n : Int) 10))) % 256] : List Int)), Ev.step (g := fun k => spec_l1Dec.f k _) (fun k => by rw [spec_l1Dec.f]) (neg (by omega) (neg (by omega) (neg (by omega) ?_))), ?_⟩
    · rw [e2, wrap_id (by omega) (by omega)]
      refine Ev.bind (small (n / 10) (by omega)) (Ev.bind (ret _) (pos ?_ (ret _)))
      rw [strOfNums_one', strOfNums_one']
      omega
    · rw [ByteArray.size_append, strOfNums_one', strOfNums_one']
      omega
def Small (l : List ByteArray) (n : Nat) : Prop := l.length ≤ n ∧ ∀ s ∈ l, s.size ≤ 41
theorem Small.app {l : List ByteArray} {n : Nat} (h : Small l n) {s : ByteArray} (hs : s.size ≤ 41) : Small (l ++ [s]) (n + 1) :=
  ⟨by rw [List.length_append]; have := h.1; simp; omega, fun t ht => by
    rcases List.mem_append.1 ht with ht | ht
    · exact h.2 t ht
    · rw [List.mem_singleton.1 ht]; exact hs⟩
theorem Small.le {l : List ByteArray} {n m : Nat} (h : Small l n) (hm : n ≤ m) : Small l m := ⟨Nat.le_trans h.1 hm, h.2⟩
theorem l11Texts_l0 (c : List Int) (hc : Code c) (n : Nat) : ∀ (x : List ByteArray) (p : Int) (m : Nat), 0 ≤ p → p + n ≤ 1000000 → m + n ≤ 1000 → Small x m →
    ∃ l, Ev (fun k => spec_l11Texts.l0 k x (n : Int) c p) (l, p + n) ∧ Small l (m + n) := by
  induction n with
  | zero =>
    intro x p m h0 h1 hm hx
    exact ⟨x, Ev.step (g := fun k => spec_l11Texts.l0 k _ _ _ _) (fun k => by rw [spec_l11Texts.l0]) (neg (by omega) (ret' (by simp))), hx⟩
  | succ n ih =>
    intro x p m h0 h1 hm hx
    obtain ⟨s, hs, hz⟩ := l11Text_ev c hc p h0 (by omega)
    obtain ⟨l, hl, hS⟩ := ih (x ++ [s]) (p + 1) (m + 1) (by omega) (by omega) (by omega) (hx.app (by omega))
    have hx1 := hx.1
    refine ⟨l, Ev.step (g := fun k => spec_l11Texts.l0 k _ _ _ _) (fun k => by rw [spec_l11Texts.l0]) (pos (by omega) (Ev.bind hs ?_)), hS.le (by omega)⟩
    rw [show wrap64 (((n + 1 : Nat) : Int) - 1) = (n : Int) by rw [wrap_id (by omega) (by omega)]; omega]
    refine pos (by omega) (of_eq hl ?_)
    rw [show p + 1 + (n : Int) = p + ((n + 1 : Nat) : Int) by omega]
theorem l11Texts_ev (c : List Int) (hc : Code c) (p : Int) (n : Nat) (h0 : 0 ≤ p) (h1 : p ≤ 900000) (hn : n ≤ 900) : ∃ l q, Ev (fun k => spec_l11Texts.f k c p (n : Int)) (l, q) ∧ Small l n ∧ p ≤ q ∧ q ≤ p + 1 + n := by
  obtain ⟨v, hv, v0, v1⟩ := pick_ev c hc p ((n : Int) + 1) h0 (by omega) (by omega) (by omega)
  obtain ⟨m, rfl⟩ := Int.eq_ofNat_of_zero_le v0
  obtain ⟨l, hl, hS⟩ := l11Texts_l0 c hc m [] (p + 1) 0 (by omega) (by omega) (by omega) ⟨by simp, by simp⟩
  refine ⟨l, p + 1 + m, ?_, hS.le (by omega), by omega, by omega⟩
  unfold spec_l11Texts.f
  rw [wrap_id (by omega) (by omega)]
  exact Ev.bind hv hl
theorem l11AnyTexts_l0 (c : List Int) (hc : Code c) (d : Nat) : ∀ (x : List ByteArray) (p : Int), 0 ≤ p → p ≤ 1000000 - d → x.length + d = 17 → d ≤ 17 → Small x 17 →
    ∃ l q, Ev (fun k => spec_l11AnyTexts.l0 k x c p) (l, q) ∧ Small l 17 ∧ p ≤ q ∧ q ≤ p + d + 1 := by
  induction d with
  | zero =>
    intro x p h0 h1 hx _ hS
    obtain ⟨v, hv, v0, v1⟩ := pick_ev c hc p 2 h0 (by omega) (by omega) (by omega)
    refine ⟨x, p + 1, Ev.step (g := fun k => spec_l11AnyTexts.l0 k _ _ _) (fun k => by rw [spec_l11AnyTexts.l0]) (Ev.bind hv ?_), hS, by omega, by omega⟩
    dsimp only
    rw [wrap_id (by omega) (by omega)]
    exact neg (by omega) (ret _)
  | succ d ih =>
    intro x p h0 h1 hx _ hS
    obtain ⟨v, hv, v0, v1⟩ := pick_ev c hc p 2 h0 (by omega) (by omega) (by omega)
    by_cases hlt : (x.length : Int) < 16 + v
    · obtain ⟨s, hs, hz⟩ := l1Dec_ev x.length (by omega)
      have hz1 : ((⟨#[110]⟩ : ByteArray) ++ s).size ≤ 41 := by
        rw [ByteArray.size_append]
        show 1 + s.size ≤ 41
        omega
      obtain ⟨l, q, hl, hS', h2, h3⟩ := ih (x ++ [(⟨#[110]⟩ : ByteArray) ++ s]) (p + 1) (by omega) (by omega) (by simp; omega) (by omega) ⟨by simp; omega, (hS.app hz1).2⟩
      refine ⟨l, q, Ev.step (g := fun k => spec_l11AnyTexts.l0 k _ _ _) (fun k => by rw [spec_l11AnyTexts.l0]) (Ev.bind hv ?_), hS', by omega, by omega⟩
      dsimp only
      rw [wrap_id (by omega) (by omega)]
      exact pos hlt (Ev.bind hs (pos (by omega) (pos (by omega) hl)))
    · refine ⟨x, p + 1, Ev.step (g := fun k => spec_l11AnyTexts.l0 k _ _ _) (fun k => by rw [spec_l11AnyTexts.l0]) (Ev.bind hv ?_), hS, by omega, by omega⟩
      dsimp only
      rw [wrap_id (by omega) (by omega)]
      exact neg hlt (ret _)
theorem l11AnyTexts_ev (c : List Int) (hc : Code c) (p : Int) (h0 : 0 ≤ p) (h1 : p ≤ 100000) : ∃ l q, Ev (fun k => spec_l11AnyTexts.f k c p) (l, q) ∧ Small l 17 ∧ p ≤ q ∧ q ≤ p + 100 := by
  obtain ⟨x, p1, hx, hS, a1, a2⟩ := l11Texts_ev c hc p 6 h0 (by omega) (by omega)
  obtain ⟨v, hv, v0, v1⟩ := pick_ev c hc p1 16 (by omega) (by omega) (by omega) (by omega)
  obtain ⟨m, hm, hz⟩ := l1Many_ev (⟨#[121]⟩ : ByteArray) 41 (by omega) rfl
  have h6 := hS.1
  by_cases e0 : v = 0
  · refine ⟨x ++ [m], p1 + 1, ?_, (hS.app (by omega)).le (by omega), by omega, by omega⟩
    unfold spec_l11AnyTexts.f
    refine Ev.bind hx (Ev.bind hv (pos e0 (Ev.bind hm (pos (by dsimp only; omega) (ret _)))))
  · by_cases e1 : v = 1
    · obtain ⟨l, q, hl, hS', h2, h3⟩ := l11AnyTexts_l0 c hc (17 - x.length) x (p1 + 1) (by omega) (by omega) (by omega) (by omega) (hS.le (by omega))
      refine ⟨l, q, ?_, hS', by omega, by omega⟩
      unfold spec_l11AnyTexts.f
      exact Ev.bind hx (Ev.bind hv (neg e0 (pos e1 hl)))
    · refine ⟨x, p1 + 1, ?_, hS.le (by omega), by omega, by omega⟩
      unfold spec_l11AnyTexts.f
      exact Ev.bind hx (Ev.bind hv (neg e0 (neg e1 (ret _))))
theorem qxTexts_l0 (l l' : List ByteArray) (hl : l.length ≤ maxLen) (he : l.length = l'.length) (d : Nat) : ∀ (i : Nat), i + d = l.length → Ev (fun k => laws_qxTexts.l0 k l l' (i : Int)) (decide (l.drop i = l'.drop i)) := by
  unfold maxLen at hl
  induction d with
  | zero =>
    intro i hi
    refine Ev.step (g := fun k => laws_qxTexts.l0 k _ _ _) (fun k => by rw [laws_qxTexts.l0]) (neg (by omega) (ret' ?_))
    rw [List.drop_of_length_le (by omega), List.drop_of_length_le (by omega)]
    simp
  | succ d ih =>
    intro i hi
    have hlt : i < l.length := by omega
    have hlt' : i < l'.length := by omega
    refine Ev.step (g := fun k => laws_qxTexts.l0 k _ _ _) (fun k => by rw [laws_qxTexts.l0]) (pos (by omega) (pos (by omega) (pos (by omega) ?_)))
    rw [rdOf_lt _ _ _ hlt, rdOf_lt _ _ _ hlt', wrap_id (by omega) (by omega), List.drop_eq_getElem_cons hlt, List.drop_eq_getElem_cons hlt']
    refine both (fun h => ?_) (fun h => ret' ?_)
    · refine of_eq (ih (i + 1) (by omega)) ?_
      rw [toList_inj h]
      exact decide_eq_decide.2 (by simp only [List.cons.injEq, true_and])
    · exact (decide_eq_false (fun e => h (by rw [(List.cons.inj e).1]))).symm
theorem qxTexts_ev (l l' : List ByteArray) (hl : l.length ≤ maxLen) : Ev (fun k => laws_qxTexts.f k l l') (decide (l = l')) := by
  unfold laws_qxTexts.f
  refine both (fun h => ?_) (fun h => ret' ?_)
  · exact qxTexts_l0 l l' hl (by omega) l.length 0 (by omega)
  · have : l ≠ l' := fun e => h (by rw [e])
    simp [this]
theorem qxTexts_same (l : List ByteArray) (hl : l.length ≤ maxLen) : Ev (fun k => laws_qxTexts.f k l l) true := of_eq (qxTexts_ev l l hl) (by simp)
end Go.Proofs.Ytegelpeegbngiaa.Q
namespace Go.Proofs.Ytegelpeegbngiaa.Q
open Go.RowKit Go.Proofs.YtegelpeegbngiaaW.PrintWords Go.Proofs.YtegelpeegbngiaaW.PrintLast Go.Proofs.Ytegelpeegbngiaa.P
def putM (t : ByteArray) : List ByteArray → List ByteArray
  | [] => [t]
  | x :: r => if lt x t = true then x :: putM t r else if x = t then x :: r else t :: x :: r
theorem l2Put_l0 (l : List ByteArray) (hl : l.length ≤ 1048576) (t : ByteArray) (d : Nat) : ∀ (i : Nat), i + d = l.length → Ev (fun k => spec_l2Put.l0 k l t (i : Int)) (l.take i ++ putM t (l.drop i)) := by
  induction d with
  | zero =>
    intro i hi
    refine Ev.step (g := fun k => spec_l2Put.l0 k _ _ _) (fun k => by rw [spec_l2Put.l0]) (neg (by omega) ?_)
    refine Ev.bind (ret _) (pos (by omega) (pos (by omega) (Ev.bind (ret _) ?_)))
    refine pos (by simp; omega) (Ev.bind (ret _) (Ev.bind (ret _) ?_))
    refine pos (by simp; omega) (Ev.bind (ret _) (Ev.bind (ret _) ?_))
    refine pos (by simp; omega) (ret' ?_)
    rw [Int.toNat_natCast, List.drop_of_length_le (by omega)]
    simp [putM]
  | succ d ih =>
    intro i hi
    have hlt : i < l.length := by omega
    refine Ev.step (g := fun k => spec_l2Put.l0 k _ _ _) (fun k => by rw [spec_l2Put.l0]) (pos (by omega) (pos (by omega) ?_))
    rw [rdOf_lt _ _ _ hlt, wrap_id (x := (i : Int) + 1) (by omega) (by omega)]
    have hd := List.drop_eq_getElem_cons hlt
    refine both (fun h => ?_) (fun h => both (fun h' => ?_) (fun h' => ?_))
    · refine of_eq (ih (i + 1) (by omega)) ?_
      rw [hd, putM, if_pos (show lt l[i] t = true from h), List.take_succ_eq_append_getElem hlt, List.append_assoc, List.singleton_append]
    · refine ret' ?_
      rw [hd, putM, if_neg (show ¬ lt l[i] t = true from h), if_pos (toList_iff.1 h'), ← hd, List.take_append_drop]
    · refine Ev.bind (ret _) (pos (by omega) (Ev.bind (ret _) ?_))
      refine pos (by simp; omega) (Ev.bind (ret _) (Ev.bind (ret _) ?_))
      refine pos (by simp; omega) (Ev.bind (ret _) (Ev.bind (ret _) ?_))
      refine pos (by simp; omega) (ret' ?_)
      rw [Int.toNat_natCast, hd, putM, if_neg (show ¬ lt l[i] t = true from h), if_neg (fun e => h' (toList_iff.2 e))]
      simp
theorem l2Put_ev (l : List ByteArray) (hl : l.length ≤ 1048576) (t : ByteArray) : Ev (fun k => spec_l2Put.f k l t) (putM t l) := by
  have := l2Put_l0 l hl t l.length 0 (by omega)
  simpa [spec_l2Put.f] using this
theorem putM_len (t : ByteArray) (l : List ByteArray) : (putM t l).length ≤ l.length + 1 := by
  induction l with
  | nil => simp [putM]
  | cons x r ih =>
    rw [putM]
    split
    · simp; omega
    · split <;> simp
theorem putM_mem (t : ByteArray) (l : List ByteArray) (s : ByteArray) : s ∈ putM t l ↔ s = t ∨ s ∈ l := by
  induction l with
  | nil => simp [putM]
  | cons x r ih =>
    rw [putM]
    split
    · rw [List.mem_cons, ih, List.mem_cons]
      constructor
      · rintro (h | h | h)
        · exact .inr (.inl h)
        · exact .inl h
        · exact .inr (.inr h)
      · rintro (h | h | h)
        · exact .inr (.inl h)
        · exact .inl h
        · exact .inr (.inr h)
    · split
      · rename_i h
        constructor
        · exact .inr
        · rintro (e | e)
          · rw [e, ← h]; simp
          · exact e
      · simp
theorem l11Set_l0 (c : List Int) (p : Int) (l : List ByteArray) (hl : Small l 17) (d : Nat) : ∀ (i : Nat) (x : List ByteArray), i + d = l.length → Small x i → ∃ r, Ev (fun k => spec_l11Set.l0 k x l (i : Int) c p) (r, p) ∧ Small r 17 := by
  have h17 := hl.1
  induction d with
  | zero =>
    intro i x hi hx
    exact ⟨x, Ev.step (g := fun k => spec_l11Set.l0 k _ _ _ _ _) (fun k => by rw [spec_l11Set.l0]) (neg (by omega) (ret _)), hx.le (by omega)⟩
  | succ d ih =>
    intro i x hi hx
    have hlt : i < l.length := by omega
    have hx1 := hx.1
    have hw : wrap64 ((i : Int) + 1) = ((i + 1 : Nat) : Int) := by rw [wrap_id (by omega) (by omega)]; omega
    by_cases h : l[i].size ≤ 40
    · obtain ⟨r, hr, hS⟩ := ih (i + 1) (putM l[i] x) (by omega) ⟨by have := putM_len l[i] x; omega, fun s hs => by
        rcases (putM_mem _ _ _).1 hs with rfl | hs
        · omega
        · exact hx.2 s hs⟩
      refine ⟨r, Ev.step (g := fun k => spec_l11Set.l0 k _ _ _ _ _) (fun k => by rw [spec_l11Set.l0]) (pos (by omega) (pos (by omega) ?_)), hS⟩
      rw [rdOf_lt _ _ _ hlt, hw]
      exact pos (by omega) (Ev.bind (l2Put_ev x (by omega) _) hr)
    · obtain ⟨r, hr, hS⟩ := ih (i + 1) x (by omega) (hx.le (by omega))
      refine ⟨r, Ev.step (g := fun k => spec_l11Set.l0 k _ _ _ _ _) (fun k => by rw [spec_l11Set.l0]) (pos (by omega) (pos (by omega) ?_)), hS⟩
      rw [rdOf_lt _ _ _ hlt, hw]
      exact neg (by omega) hr
theorem l11AnySet_ev (c : List Int) (hc : Code c) (p : Int) (h0 : 0 ≤ p) (h1 : p ≤ 10000) : ∃ l q, Ev (fun k => spec_l11AnySet.f k c p) (l, q) ∧ Small l 17 ∧ p ≤ q ∧ q ≤ p + 101 := by
  obtain ⟨v, hv, v0, v1⟩ := pick_ev c hc p 10 h0 (by omega) (by omega) (by omega)
  obtain ⟨t, q, ht, hS, a1, a2⟩ := l11AnyTexts_ev c hc (p + 1) (by omega) (by omega)
  unfold spec_l11AnySet.f
  by_cases e : v = 0
  · refine ⟨t, q, Ev.bind hv (pos e ?_), hS, by omega, by omega⟩
    exact Ev.bind ht (ret _)
  · obtain ⟨r, hr, hS'⟩ := l11Set_l0 c q t hS t.length 0 [] (by omega) ⟨by simp, by simp⟩
    refine ⟨r, q, Ev.bind hv (neg e ?_), hS', by omega, by omega⟩
    unfold spec_l11Set.f
    refine Ev.bind (Ev.bind ht hr) (ret _)
theorem qxHas_l0 (l : List ByteArray) (hl : l.length ≤ maxLen) (s : ByteArray) (d : Nat) : ∀ (i : Nat), i + d = l.length → Ev (fun k => laws_qxHas.l0 k l s (i : Int)) (hasB (l.drop i) s) := by
  unfold maxLen at hl
  induction d with
  | zero =>
    intro i hi
    refine Ev.step (g := fun k => laws_qxHas.l0 k _ _ _) (fun k => by rw [laws_qxHas.l0]) (neg (by omega) (ret' ?_))
    rw [List.drop_of_length_le (by omega)]
    rfl
  | succ d ih =>
    intro i hi
    have hlt : i < l.length := by omega
    refine Ev.step (g := fun k => laws_qxHas.l0 k _ _ _) (fun k => by rw [laws_qxHas.l0]) (pos (by omega) (pos (by omega) ?_))
    rw [rdOf_lt _ _ _ hlt, List.drop_eq_getElem_cons hlt, wrap_id (by omega) (by omega)]
    refine both (fun h => ret' ?_) (fun h => ?_)
    · simp [hasB, toList_iff.1 h]
    · have : l[i] ≠ s := fun e => h (by rw [e])
      refine of_eq (ih (i + 1) (by omega)) ?_
      show _ = (decide (l[i] = s) || hasB (l.drop (i + 1)) s)
      rw [decide_eq_false this, Bool.false_or]
theorem qxHas_ev (l : List ByteArray) (hl : l.length ≤ maxLen) (s : ByteArray) : Ev (fun k => laws_qxHas.f k l s) (hasB l s) := qxHas_l0 l hl s l.length 0 (by omega)
theorem hasB_iff (l : List ByteArray) (s : ByteArray) : hasB l s = true ↔ s ∈ l := by
  unfold hasB
  simp
end Go.Proofs.Ytegelpeegbngiaa.Q
namespace Go.Proofs.Ytegelpeegbngiaa.Q
open Go.RowKit Go.Proofs.YtegelpeegbngiaaW.PrintWords Go.Proofs.YtegelpeegbngiaaW.PrintLast Go.Proofs.Ytegelpeegbngiaa.P
theorem putM_asc (t : ByteArray) (l : List ByteArray) (h : l.Pairwise (fun a b => lt a b = true)) : (putM t l).Pairwise (fun a b => lt a b = true) := by
  induction l with
  | nil => simp [putM]
  | cons x r ih =>
    obtain ⟨h1, h2⟩ := List.pairwise_cons.1 h
    rw [putM]
    by_cases hx : lt x t = true
    · rw [if_pos hx, List.pairwise_cons]
      refine ⟨fun s hs => ?_, ih h2⟩
      rcases (putM_mem t r s).1 hs with rfl | hs
      · exact hx
      · exact h1 s hs
    · rw [if_neg hx]
      by_cases e : x = t
      · rw [if_pos e]; exact h
      · rw [if_neg e, List.pairwise_cons]
        have ht : lt t x = true := by
          rcases lt_tri x t with q | q | q
          · exact absurd q hx
          · exact absurd q e
          · exact q
        refine ⟨fun s hs => ?_, h⟩
        rcases List.mem_cons.1 hs with rfl | hs
        · exact ht
        · exact lt_trans ht (h1 s hs)
def putAll (l o : List ByteArray) : List ByteArray := o.foldl (fun a t => putM t a) l
theorem putAll_asc (o : List ByteArray) : ∀ l : List ByteArray, l.Pairwise (fun a b => lt a b = true) → (putAll l o).Pairwise (fun a b => lt a b = true) := by
  induction o with
  | nil => intro l h; exact h
  | cons t o ih => intro l h; exact ih (putM t l) (putM_asc t l h)
theorem putAll_mem (o : List ByteArray) : ∀ (l : List ByteArray) (s : ByteArray), s ∈ putAll l o ↔ s ∈ l ∨ s ∈ o := by
  induction o with
  | nil => intro l s; simp [putAll]
  | cons t o ih =>
    intro l s
    show s ∈ putAll (putM t l) o ↔ _
    rw [ih, putM_mem, List.mem_cons]
    constructor
    · rintro ((h | h) | h)
      · exact .inr (.inl h)
      · exact .inl h
      · exact .inr (.inr h)
    · rintro (h | h | h)
      · exact .inl (.inr h)
      · exact .inl (.inl h)
      · exact .inr h
theorem putAll_union {l : List ByteArray} (o : List ByteArray) (h : l.Pairwise (fun a b => lt a b = true)) : putAll l o = unionM l o :=
  asc_unique _ _ (putAll_asc o l h) (unionM_asc l o) (fun s => by rw [putAll_mem, unionM_mem])
def setAnyM (l o : List ByteArray) : List ByteArray := if setB l = true ∧ setB o = true then unionM l o else []
theorem setAnyM_len (l o : List ByteArray) : (setAnyM l o).length ≤ l.length + o.length := by
  unfold setAnyM
  split
  · exact unionM_len l o
  · simp
theorem setB_len {l : List ByteArray} (h : setB l = true) : l.length ≤ 16 := ((setB_iff l).1 h).2.1
theorem impl_SetAny_ev (l o : List ByteArray) (hl : l.length ≤ 1048576) (ho : o.length ≤ 1048576) : Ev (fun k => impl_SetAny.f k l o) (setAnyM l o) := by
  unfold impl_SetAny.f setAnyM
  refine Ev.bind (impl_SetOk_ev l (by unfold maxLen; omega)) ?_
  cases h1 : setB l with
  | false => exact neg (by decide) (ret' (by simp))
  | true =>
    refine pos rfl (Ev.bind (impl_SetOk_ev o (by unfold maxLen; omega)) ?_)
    cases h2 : setB o with
    | false => exact neg (by decide) (ret' (by simp))
    | true =>
      refine pos rfl (Ev.bind (union_ev l o hl ho) (ret' (by simp)))
theorem spec_SetAny_l0 (o : List ByteArray) (ho : o.length ≤ 1048576) (d : Nat) : ∀ (i : Nat) (x : List ByteArray), i + d = o.length → x.length + d ≤ 1048576 → Ev (fun k => spec_SetAny.l0 k o x (i : Int)) (putAll x (o.drop i)) := by
  induction d with
  | zero =>
    intro i x hi hx
    refine Ev.step (g := fun k => spec_SetAny.l0 k _ _ _) (fun k => by rw [spec_SetAny.l0]) (neg (by omega) (ret' ?_))
    rw [List.drop_of_length_le (by omega)]
    rfl
  | succ d ih =>
    intro i x hi hx
    have hlt : i < o.length := by omega
    refine Ev.step (g := fun k => spec_SetAny.l0 k _ _ _) (fun k => by rw [spec_SetAny.l0]) (pos (by omega) (pos (by omega) ?_))
    rw [rdOf_lt _ _ _ hlt, wrap_id (by omega) (by omega), List.drop_eq_getElem_cons hlt]
    have := putM_len o[i] x
    exact Ev.bind (l2Put_ev x (by omega) _) (ih (i + 1) _ (by omega) (by omega))
theorem spec_SetAny_ev (l o : List ByteArray) (hl : l.length ≤ 1048576) (ho : o.length ≤ 1048576) : Ev (fun k => spec_SetAny.f k l o) (setAnyM l o) := by
  unfold spec_SetAny.f setAnyM
  refine Ev.bind (spec_SetOk_ev l (by unfold maxLen; omega)) ?_
  cases h1 : setB l with
  | false =>
    refine neg (by decide) ?_
    refine Ev.step (g := fun k => spec_SetAny.j0 k _ _ _) (fun k => by rw [spec_SetAny.j0]) ?_
    exact pos rfl (ret' (by simp))
  | true =>
    refine pos rfl (Ev.bind (spec_SetOk_ev o (by unfold maxLen; omega)) ?_)
    cases h2 : setB o with
    | false =>
      refine Ev.step (g := fun k => spec_SetAny.j0 k _ _ _) (fun k => by rw [spec_SetAny.j0]) ?_
      exact pos rfl (ret' (by simp))
    | true =>
      have a16 := setB_len h1
      have b16 := setB_len h2
      refine Ev.step (g := fun k => spec_SetAny.j0 k _ _ _) (fun k => by rw [spec_SetAny.j0]) (neg (by decide) ?_)
      refine Ev.bind (l2Copy_ev l (by omega)) ?_
      have := spec_SetAny_l0 o ho o.length 0 l (by omega) (by omega)
      rw [if_pos ⟨rfl, rfl⟩, ← putAll_union o ((setB_iff l).1 h1).1]
      exact this
end Go.Proofs.Ytegelpeegbngiaa.Q
namespace Go.Proofs.Ytegelpeegbngiaa.Q
open Go.RowKit Go.Proofs.YtegelpeegbngiaaW.PrintWords Go.Proofs.YtegelpeegbngiaaW.PrintLast Go.Proofs.Ytegelpeegbngiaa.P
def setBothM (l o : List ByteArray) (b : Bool) : List ByteArray := if setB l = true ∧ setB o = true then chosenM l o b else []
theorem setBothM_len (l o : List ByteArray) (b : Bool) : (setBothM l o b).length ≤ l.length := by
  unfold setBothM
  split
  · exact chosenM_len l o b
  · simp
theorem impl_SetBoth_ev (l o : List ByteArray) (hl : l.length ≤ 1048576) (ho : o.length ≤ 1048576) : Ev (fun k => impl_SetBoth.f k l o) (setBothM l o true) := by
  unfold impl_SetBoth.f setBothM
  refine Ev.bind (impl_SetOk_ev l (by unfold maxLen; omega)) ?_
  cases h1 : setB l with
  | false => exact neg (by decide) (ret' (by simp))
  | true =>
    refine pos rfl (Ev.bind (impl_SetOk_ev o (by unfold maxLen; omega)) ?_)
    cases h2 : setB o with
    | false => exact neg (by decide) (ret' (by simp))
    | true => exact pos rfl (Ev.bind (chosen_ev l o true hl (by unfold maxLen; omega)) (ret' (by simp)))
theorem impl_SetLess_ev (l o : List ByteArray) (hl : l.length ≤ 1048576) (ho : o.length ≤ 1048576) : Ev (fun k => impl_SetLess.f k l o) (setBothM l o false) := by
  unfold impl_SetLess.f setBothM
  refine Ev.bind (impl_SetOk_ev l (by unfold maxLen; omega)) ?_
  cases h1 : setB l with
  | false => exact neg (by decide) (ret' (by simp))
  | true =>
    refine pos rfl (Ev.bind (impl_SetOk_ev o (by unfold maxLen; omega)) ?_)
    cases h2 : setB o with
    | false => exact neg (by decide) (ret' (by simp))
    | true => exact pos rfl (Ev.bind (chosen_ev l o false hl (by unfold maxLen; omega)) (ret' (by simp)))
theorem spec_SetBoth_l0 (l o : List ByteArray) (hl : l.length ≤ 1048576) (ho : o.length ≤ 1048576) (d : Nat) : ∀ (i : Nat) (x : List ByteArray), i + d = l.length → x.length ≤ i →
    Ev (fun k => spec_SetBoth.l0 k l o x (i : Int)) (if setB l = true ∧ setB o = true then x ++ chosenM (l.drop i) o true else x) := by
  have hl' : l.length ≤ maxLen := by unfold maxLen; omega
  have ho' : o.length ≤ maxLen := by unfold maxLen; omega
  induction d with
  | zero =>
    intro i x hi hx
    refine Ev.step (g := fun k => spec_SetBoth.l0 k _ _ _ _) (fun k => by rw [spec_SetBoth.l0]) (neg (by omega) ?_)
    refine Ev.step (g := fun k => spec_SetBoth.j1 k _ _ _ _ _) (fun k => by rw [spec_SetBoth.j1]) (neg (by decide) (ret' ?_))
    rw [List.drop_of_length_le (by omega)]
    simp [chosenM]
  | succ d ih =>
    intro i x hi hx
    have hlt : i < l.length := by omega
    refine Ev.step (g := fun k => spec_SetBoth.l0 k _ _ _ _) (fun k => by rw [spec_SetBoth.l0]) (pos (by omega) (Ev.bind (spec_SetOk_ev l hl') ?_))
    cases h1 : setB l with
    | false =>
      refine neg (by decide) ?_
      exact Ev.step (g := fun k => spec_SetBoth.j1 k _ _ _ _ _) (f := fun _ => some x) (fun k => by rw [spec_SetBoth.j1]; rfl) (ret' (by simp))
    | true =>
      refine pos rfl (Ev.bind (spec_SetOk_ev o ho') ?_)
      cases h2 : setB o with
      | false => exact Ev.step (g := fun k => spec_SetBoth.j1 k _ _ _ _ _) (f := fun _ => some x) (fun k => by rw [spec_SetBoth.j1]; rfl) (ret' (by simp))
      | true =>
        refine Ev.step (g := fun k => spec_SetBoth.j1 k _ _ _ _ _) (fun k => by rw [spec_SetBoth.j1]) (pos rfl (pos (by omega) (pos (by omega) ?_)))
        rw [rdOf_lt _ _ _ hlt, wrap_id (by omega) (by omega), List.drop_eq_getElem_cons hlt]
        refine Ev.bind (l2Has_ev o ho' _) ?_
        have ih0 := ih (i + 1) x (by omega) (by omega)
        have ih1 := ih (i + 1) (x ++ [l[i]]) (by omega) (by simp; omega)
        rw [h1, h2] at ih0 ih1
        cases h : hasB o l[i] with
        | true =>
          refine pos rfl ?_
          first
            | exact pos (by omega) (of_eq ih1 (by rw [chosenM_cons, h]; simp))
            | exact of_eq ih0 (by rw [chosenM_cons, h]; simp)
        | false =>
          refine neg (by decide) ?_
          first
            | exact pos (by omega) (of_eq ih1 (by rw [chosenM_cons, h]; simp))
            | exact of_eq ih0 (by rw [chosenM_cons, h]; simp)
theorem spec_SetBoth_ev (l o : List ByteArray) (hl : l.length ≤ 1048576) (ho : o.length ≤ 1048576) : Ev (fun k => spec_SetBoth.f k l o) (setBothM l o true) := by
  have := spec_SetBoth_l0 l o hl ho l.length 0 [] (by omega) (by simp)
  simpa [spec_SetBoth.f, setBothM] using this
theorem spec_SetLess_l0 (l o : List ByteArray) (hl : l.length ≤ 1048576) (ho : o.length ≤ 1048576) (d : Nat) : ∀ (i : Nat) (x : List ByteArray), i + d = l.length → x.length ≤ i →
    Ev (fun k => spec_SetLess.l0 k l o x (i : Int)) (if setB l = true ∧ setB o = true then x ++ chosenM (l.drop i) o false else x) := by
  have hl' : l.length ≤ maxLen := by unfold maxLen; omega
  have ho' : o.length ≤ maxLen := by unfold maxLen; omega
  induction d with
  | zero =>
    intro i x hi hx
    refine Ev.step (g := fun k => spec_SetLess.l0 k _ _ _ _) (fun k => by rw [spec_SetLess.l0]) (neg (by omega) ?_)
    refine Ev.step (g := fun k => spec_SetLess.j1 k _ _ _ _ _) (fun k => by rw [spec_SetLess.j1]) (neg (by decide) (ret' ?_))
    rw [List.drop_of_length_le (by omega)]
    simp [chosenM]
  | succ d ih =>
    intro i x hi hx
    have hlt : i < l.length := by omega
    refine Ev.step (g := fun k => spec_SetLess.l0 k _ _ _ _) (fun k => by rw [spec_SetLess.l0]) (pos (by omega) (Ev.bind (spec_SetOk_ev l hl') ?_))
    cases h1 : setB l with
    | false =>
      refine neg (by decide) ?_
      exact Ev.step (g := fun k => spec_SetLess.j1 k _ _ _ _ _) (f := fun _ => some x) (fun k => by rw [spec_SetLess.j1]; rfl) (ret' (by simp))
    | true =>
      refine pos rfl (Ev.bind (spec_SetOk_ev o ho') ?_)
      cases h2 : setB o with
      | false => exact Ev.step (g := fun k => spec_SetLess.j1 k _ _ _ _ _) (f := fun _ => some x) (fun k => by rw [spec_SetLess.j1]; rfl) (ret' (by simp))
      | true =>
        refine Ev.step (g := fun k => spec_SetLess.j1 k _ _ _ _ _) (fun k => by rw [spec_SetLess.j1]) (pos rfl (pos (by omega) (pos (by omega) ?_)))
        rw [rdOf_lt _ _ _ hlt, wrap_id (by omega) (by omega), List.drop_eq_getElem_cons hlt]
        refine Ev.bind (l2Has_ev o ho' _) ?_
        have ih0 := ih (i + 1) x (by omega) (by omega)
        have ih1 := ih (i + 1) (x ++ [l[i]]) (by omega) (by simp; omega)
        rw [h1, h2] at ih0 ih1
        cases h : hasB o l[i] with
        | true =>
          refine pos rfl ?_
          first
            | exact pos (by omega) (of_eq ih1 (by rw [chosenM_cons, h]; simp))
            | exact of_eq ih0 (by rw [chosenM_cons, h]; simp)
        | false =>
          refine neg (by decide) ?_
          first
            | exact pos (by omega) (of_eq ih1 (by rw [chosenM_cons, h]; simp))
            | exact of_eq ih0 (by rw [chosenM_cons, h]; simp)
theorem spec_SetLess_ev (l o : List ByteArray) (hl : l.length ≤ 1048576) (ho : o.length ≤ 1048576) : Ev (fun k => spec_SetLess.f k l o) (setBothM l o false) := by
  have := spec_SetLess_l0 l o hl ho l.length 0 [] (by omega) (by simp)
  simpa [spec_SetLess.f, setBothM] using this
end Go.Proofs.Ytegelpeegbngiaa.Q
namespace Go.Proofs.Ytegelpeegbngiaa.Q
open Go.RowKit Go.Proofs.YtegelpeegbngiaaW.PrintWords Go.Proofs.YtegelpeegbngiaaW.PrintLast Go.Proofs.Ytegelpeegbngiaa.P
theorem DrawSetBoth_ev (l : List Int) (hl : l.length ≤ maxLen) (hb : ∀ x ∈ l, (Lit.int .u8 x).wf = true) : ∃ a b, Ev (fun k => spec_DrawSetBoth.f k l) (a, b) ∧ Small a 17 ∧ Small b 17 := by
  obtain ⟨c, hc, hC⟩ := l1Open_ev l hl hb
  obtain ⟨a, p1, ha, hA, a1, a2⟩ := l11AnySet_ev c hC 0 (by omega) (by omega)
  obtain ⟨b, p2, hb', hB, b1, b2⟩ := l11AnySet_ev c hC p1 (by omega) (by omega)
  refine ⟨a, b, ?_, hA, hB⟩
  unfold spec_DrawSetBoth.f
  exact Ev.bind hc (Ev.bind ha (Ev.bind hb' (ret _)))
theorem chosenM_mem (l o : List ByteArray) (s : ByteArray) : (s ∈ chosenM l o true ↔ s ∈ l ∧ s ∈ o) ∧ (s ∈ chosenM l o false ↔ s ∈ l ∧ ¬ s ∈ o) := by
  have h := hasB_iff o s
  unfold chosenM
  simp only [List.mem_filter, beq_iff_eq]
  refine ⟨by rw [h], ?_⟩
  cases q : hasB o s with
  | true => simp [← h, q]
  | false => simp [← h, q]
theorem asc_nodup {l : List ByteArray} (h : l.Pairwise fun a b => lt a b = true) : l.Nodup := h.imp fun q => lt_ne q
theorem chosenM_asc (l o : List ByteArray) (b : Bool) (h : l.Pairwise fun a b => lt a b = true) : (chosenM l o b).Pairwise fun a b => lt a b = true := h.filter _
theorem chosenM_parts (l o : List ByteArray) : (chosenM l o true).length + (chosenM l o false).length = l.length := by
  induction l with
  | nil => rfl
  | cons x r ih =>
    rw [chosenM_cons, chosenM_cons]
    cases hasB o x <;> simp <;> omega
theorem unionM_parts (a b : List ByteArray) (ha : a.Pairwise fun a b => lt a b = true) (hb : b.Pairwise fun a b => lt a b = true) : (unionM a b).length = (chosenM a b true).length + (chosenM a b false).length + (chosenM b a false).length := by
  have hp : (unionM a b).Perm (a ++ chosenM b a false) := (List.perm_ext_iff_of_nodup (asc_nodup (unionM_asc a b)) (List.nodup_append.2 ⟨asc_nodup ha, asc_nodup (chosenM_asc b a false hb), fun x hx y hy e => ((chosenM_mem b a y).2.1 hy).2 (e ▸ hx)⟩)).2 (fun s => by
    rw [unionM_mem, List.mem_append, (chosenM_mem b a s).2]
    by_cases h : s ∈ a <;> simp [h])
  rw [hp.length_eq, List.length_append, chosenM_parts]
theorem FnSetBoth_l0 (a b x y z w : List ByteArray) (h34 : y.length ≤ 34) (hx : x.length ≤ 34) (hz : z.length ≤ 34) (hw : w.length ≤ 34) (hup : y.Pairwise fun a b => lt a b = true)
    (hone : ∀ s ∈ y, (hasB x s = true ∧ hasB z s = false ∧ hasB w s = false) ∨ (hasB x s = false ∧ hasB z s = true ∧ hasB w s = false) ∨ (hasB x s = false ∧ hasB z s = false ∧ hasB w s = true))
    (hI : Ev (fun k => impl_SetBoth.f k b a) x) (hJ : Ev (fun k => impl_SetAny.f k b a) y) (hlen : y.length = x.length + z.length + w.length) (d : Nat) : ∀ (i : Nat), i + d = y.length → Ev (fun k => laws_FnSetBoth.l0 k a b x y z w (i : Int)) true := by
  induction d with
  | zero =>
    intro i hi
    refine Ev.step (g := fun k => laws_FnSetBoth.l0 k _ _ _ _ _ _ _) (fun k => by rw [laws_FnSetBoth.l0]) (neg (by omega) ?_)
    refine Ev.bind hI (Ev.bind (qxTexts_same x (by unfold maxLen; omega)) (pos rfl (Ev.bind hJ (Ev.bind (qxTexts_same y (by unfold maxLen; omega)) (pos rfl (ret' ?_))))))
    rw [wrap_id (x := (x.length : Int) + z.length) (by omega) (by omega), wrap_id (by omega) (by omega)]
    simp; omega
  | succ d ih =>
    intro i hi
    have hlt : i < y.length := by omega
    have ih := ih (i + 1) (by omega)
    have hw1 : wrap64 ((i : Int) + 1) = ((i + 1 : Nat) : Int) := wrap_id (by omega) (by omega)
    have tail : Ev (fun k => if (i : Int) > 0 then (if 0 ≤ (wrap64 ((i : Int) - 1)) then (if (wrap64 ((i : Int) - 1)) < (y.length : Int) then (if ((Op.bytesLess ((rdOf ByteArray.empty y (wrap64 ((i : Int) - 1))).toList) ((rdOf ByteArray.empty y (i : Int)).toList)) = true) then (laws_FnSetBoth.l0 k a b x y z w (wrap64 ((i : Int) + 1))) else (some false)) else (none)) else (none)) else (laws_FnSetBoth.l0 k a b x y z w (wrap64 ((i : Int) + 1)))) true := by
      rw [hw1]
      by_cases h0 : i = 0
      · exact neg (by omega) ih
      · have hlt1 : i - 1 < y.length := by omega
        have e : wrap64 ((i : Int) - 1) = ((i - 1 : Nat) : Int) := by rw [wrap_id (by omega) (by omega)]; omega
        rw [e, rdOf_lt _ _ _ hlt1, rdOf_lt _ _ _ hlt]
        exact pos (by omega) (pos (by omega) (pos (by omega) (pos (List.pairwise_iff_getElem.1 hup (i - 1) i hlt1 hlt (by omega)) ih)))
    have w01 : wrap64 (0 + 1) = 1 := wrap_id (by omega) (by omega)
    have qx := qxHas_ev x (by unfold maxLen; omega) (rdOf ByteArray.empty y (i : Int))
    have qz := qxHas_ev z (by unfold maxLen; omega) (rdOf ByteArray.empty y (i : Int))
    have qw := qxHas_ev w (by unfold maxLen; omega) (rdOf ByteArray.empty y (i : Int))
    have hm := hone y[i] (List.getElem_mem hlt)
    rw [rdOf_lt _ _ _ hlt] at qx qz qw
    refine Ev.step (g := fun k => laws_FnSetBoth.l0 k _ _ _ _ _ _ _) (fun k => by rw [laws_FnSetBoth.l0]) (pos (by omega) (pos (by omega) ?_))
    have hrd := rdOf_lt ByteArray.empty y i hlt
    rcases hm with ⟨m1, m2, m3⟩ | ⟨m1, m2, m3⟩ | ⟨m1, m2, m3⟩
    all_goals
      rw [m1] at qx
      rw [m2] at qz
      rw [m3] at qw
      rw [← hrd] at qx qz qw
    · refine Ev.bind qx (pos rfl (Ev.step (g := fun k => laws_FnSetBoth.j2 k _ _ _ _ _ _ _ _) (fun k => by rw [laws_FnSetBoth.j2]) (pos (by omega) (pos (by omega) (Ev.bind qz (neg Bool.false_ne_true ?_))))))
      refine Ev.step (g := fun k => laws_FnSetBoth.j3 k _ _ _ _ _ _ _ _) (fun k => by rw [laws_FnSetBoth.j3]) (pos (by omega) (pos (by omega) (Ev.bind qw (neg Bool.false_ne_true (pos (Int.zero_add 1) tail)))))
    · refine Ev.bind qx (neg Bool.false_ne_true (Ev.step (g := fun k => laws_FnSetBoth.j2 k _ _ _ _ _ _ _ _) (fun k => by rw [laws_FnSetBoth.j2]) (pos (by omega) (pos (by omega) (Ev.bind qz (pos rfl ?_))))))
      rw [w01]
      refine Ev.step (g := fun k => laws_FnSetBoth.j3 k _ _ _ _ _ _ _ _) (fun k => by rw [laws_FnSetBoth.j3]) (pos (by omega) (pos (by omega) (Ev.bind qw (neg Bool.false_ne_true (pos rfl tail)))))
    · refine Ev.bind qx (neg Bool.false_ne_true (Ev.step (g := fun k => laws_FnSetBoth.j2 k _ _ _ _ _ _ _ _) (fun k => by rw [laws_FnSetBoth.j2]) (pos (by omega) (pos (by omega) (Ev.bind qz (neg Bool.false_ne_true ?_))))))
      refine Ev.step (g := fun k => laws_FnSetBoth.j3 k _ _ _ _ _ _ _ _) (fun k => by rw [laws_FnSetBoth.j3]) (pos (by omega) (pos (by omega) (Ev.bind qw (pos rfl (pos w01 tail)))))
theorem FnSetBoth_pure (l : List Int) (hl : l.length ≤ maxLen) (hb : ∀ x ∈ l, (Lit.int .u8 x).wf = true) : ∃ k, laws_FnSetBoth.f k l = some true := by
  refine exists_of (r := true) ?_
  unfold laws_FnSetBoth.f
  refine both (fun _ => ret _) (fun _ => ?_)
  obtain ⟨a, b, hD, hA, hB⟩ := DrawSetBoth_ev l hl hb
  have a17 := hA.1
  have b17 := hB.1
  have i1 := impl_SetBoth_ev a b (by omega) (by omega)
  have i2 := impl_SetAny_ev a b (by omega) (by omega)
  have i3 := impl_SetLess_ev a b (by omega) (by omega)
  have i4 := impl_SetLess_ev b a (by omega) (by omega)
  have s1 := spec_SetBoth_ev a b (by omega) (by omega)
  have s2 := spec_SetAny_ev a b (by omega) (by omega)
  have s3 := spec_SetLess_ev a b (by omega) (by omega)
  have n1 := setBothM_len a b true
  have n2 := setAnyM_len a b
  have n3 := setBothM_len a b false
  have n4 := setBothM_len b a false
  have x1 := qxTexts_same (setBothM a b true) (by unfold maxLen; omega)
  have x2 := qxTexts_same (setAnyM a b) (by unfold maxLen; omega)
  have x3 := qxTexts_same (setBothM a b false) (by unfold maxLen; omega)
  have oa := spec_SetOk_ev a (by unfold maxLen; omega)
  have ob := spec_SetOk_ev b (by unfold maxLen; omega)
  have no : Ev (fun k => laws_FnSetBoth.j0 k a b (setBothM a b true) (setAnyM a b) (setBothM a b false) (setBothM b a false) true) true := by
    refine Ev.step (g := fun k => laws_FnSetBoth.j0 k _ _ _ _ _ _ _) (fun k => by rw [laws_FnSetBoth.j0]) (pos rfl ?_)
    exact Ev.bind s1 (Ev.bind x1 (pos rfl (Ev.bind s2 (Ev.bind x2 (pos rfl (Ev.bind s3 (Ev.bind x3 (ret _))))))))
  refine Ev.bind hD (Ev.bind i1 (Ev.bind i2 (Ev.bind i3 (Ev.bind i4 (Ev.bind s1 (Ev.bind x1 (pos rfl (Ev.bind s2 (Ev.bind x2 (pos rfl (Ev.bind s3 (Ev.bind x3 (pos rfl (Ev.bind oa ?_))))))))))))))
  cases ka : setB a with
  | false => exact neg (by decide) no
  | true =>
    refine pos rfl (Ev.bind ob ?_)
    cases kb : setB b with
    | false => exact no
    | true =>
      have e1 : ∀ q, setBothM a b q = chosenM a b q := fun q => by unfold setBothM; rw [if_pos ⟨ka, kb⟩]
      have e2 : ∀ q, setBothM b a q = chosenM b a q := fun q => by unfold setBothM; rw [if_pos ⟨kb, ka⟩]
      have e3 : setAnyM a b = unionM a b := by unfold setAnyM; rw [if_pos ⟨ka, kb⟩]
      have e4 : setAnyM b a = unionM b a := by unfold setAnyM; rw [if_pos ⟨kb, ka⟩]
      obtain ⟨pa, _, _⟩ := (setB_iff a).1 ka
      obtain ⟨pb, _, _⟩ := (setB_iff b).1 kb
      have j1 := impl_SetBoth_ev b a (by omega) (by omega)
      have j2 := impl_SetAny_ev b a (by omega) (by omega)
      have e5 : chosenM b a true = chosenM a b true := asc_unique _ _ (chosenM_asc b a true pb) (chosenM_asc a b true pa) (fun s => by rw [(chosenM_mem b a s).1, (chosenM_mem a b s).1, and_comm])
      have e6 : unionM b a = unionM a b := asc_unique _ _ (unionM_asc _ _) (unionM_asc _ _) (fun s => by rw [unionM_mem, unionM_mem, or_comm])
      rw [e2, e5] at j1
      rw [e4, e6] at j2
      rw [e1] at n1 n3
      rw [e2] at n4
      rw [e3] at n2
      rw [e1, e1, e2, e3]
      refine Ev.step (g := fun k => laws_FnSetBoth.j0 k _ _ _ _ _ _ _) (fun k => by rw [laws_FnSetBoth.j0]) (neg (by decide) ?_)
      refine FnSetBoth_l0 a b _ _ _ _ (by omega) (by omega) (by omega) (by omega) (unionM_asc a b) (fun s hs => ?_) j1 j2 (unionM_parts a b pa pb) (unionM a b).length 0 (by omega)
      have f : ∀ (l : List ByteArray), ¬ s ∈ l → hasB l s = false := fun l h => by
        cases q : hasB l s with
        | false => rfl
        | true => exact absurd ((hasB_iff l s).1 q) h
      rw [unionM_mem] at hs
      by_cases ha : s ∈ a
      · by_cases hb' : s ∈ b
        · exact .inl ⟨(hasB_iff _ _).2 ((chosenM_mem a b s).1.2 ⟨ha, hb'⟩), f _ (fun h => ((chosenM_mem a b s).2.1 h).2 hb'), f _ (fun h => ((chosenM_mem b a s).2.1 h).2 ha)⟩
        · exact .inr (.inl ⟨f _ (fun h => hb' ((chosenM_mem a b s).1.1 h).2), (hasB_iff _ _).2 ((chosenM_mem a b s).2.2 ⟨ha, hb'⟩), f _ (fun h => ((chosenM_mem b a s).2.1 h).2 ha)⟩)
      · have hb' : s ∈ b := hs.resolve_left ha
        exact .inr (.inr ⟨f _ (fun h => ha ((chosenM_mem a b s).1.1 h).1), f _ (fun h => ha ((chosenM_mem a b s).2.1 h).1), (hasB_iff _ _).2 ((chosenM_mem b a s).2.2 ⟨hb', ha⟩)⟩)
end Go.Proofs.Ytegelpeegbngiaa.Q
