import Derived.Test.YtcpnekdhdmncfaaPrFnScoresBy6
import Derived.ProofKit
import Derived.SizedLaws
/- Texts of this claim, one behind the other: words on worlds and rows, printed functions and their walks, plain lemmas. -/
namespace Go.Proofs.Ytcpnekdhdmncfaa.P
open Go.RowKit Go.Proofs.YtcpnekdhdmncfaaW.PrintWords Go.Proofs.YtcpnekdhdmncfaaW.PrintLast Go.Proofs.YtcpnekdhdmncfaaW.PrintMore
attribute [local go_sem] max2_int min2_int max_two min_two max_three min_three max_four min_four   -- for this text's walks alone
set_option linter.unusedVariables false
set_option linter.unusedSimpArgs false
set_option maxHeartbeats 8000000 in
set_option maxRecDepth 100000 in
theorem spec_DrawScoresBy.calls (k : Nat) (A0 : Option Addr) (c0 : Nat) (l0 : List Int) (r1 : List (S40)) (r2 : Int) (r3 : Int) (w : World) (hr0 : Kd.C (Kd.int .u8) w A0 l0.length l0) (hc0 : l0.length ≤ c0) (h : spec_DrawScoresBy.f k l0 = some (r1, r2, r3)) :
    Calls Try.prog 32 #[.slice A0 l0.length c0] w fun e w' => ∃ v0_ : Value, e = .returned (.tuple #[v0_, .int .i64 r2, .int .i64 r3]) ∧ Kd.R k40 40 w' w.heap.size (fun _ => True) v0_ r1 ∧ Below w.heap.size w w' := by
  have HR0 := Aside0.mk hr0
  have HC0 := Aside0.mk hc0
  clear hr0 hc0
  have HB := Aside0.mk (Below.refl w.heap.size w)
  have H : ((spec_l1Open.f l0).bind fun bt590 => ((spec_l11AnyScores.f k bt590.1 bt590.2).bind fun bt593 => ((spec_l1Rd_pick.f k bt590.1 bt593.2 6).bind fun bt597 => ((spec_l1Rd_pick.f k bt590.1 bt597.2 10).bind fun bt599 => (some (bt593.1, wrap64 (bt597.1 - 3), wrap64 (bt599.1 - 3))))))) = some (r1, r2, r3) := h
  clear h
  replace H := Option.bind_eq_some_iff.mp H
  obtain ⟨⟨t590, t591⟩, A20, H⟩ := H
  replace H : ((spec_l11AnyScores.f k t590 t591).bind fun bt593 => ((spec_l1Rd_pick.f k t590 bt593.2 6).bind fun bt597 => ((spec_l1Rd_pick.f k t590 bt597.2 10).bind fun bt599 => (some (bt593.1, wrap64 (bt597.1 - 3), wrap64 (bt599.1 - 3)))))) = some (r1, r2, r3) := H
  have A2 := Aside0.mk A20
  clear A20
  replace H := Option.bind_eq_some_iff.mp H
  obtain ⟨⟨t593, t596⟩, A30, H⟩ := H
  replace H : ((spec_l1Rd_pick.f k t590 t596 6).bind fun bt597 => ((spec_l1Rd_pick.f k t590 bt597.2 10).bind fun bt599 => (some (t593, wrap64 (bt597.1 - 3), wrap64 (bt599.1 - 3))))) = some (r1, r2, r3) := H
  have A3 := Aside0.mk A30
  clear A30
  replace H := Option.bind_eq_some_iff.mp H
  obtain ⟨⟨t597, t598⟩, A40, H⟩ := H
  replace H : ((spec_l1Rd_pick.f k t590 t598 10).bind fun bt599 => (some (t593, wrap64 (t597 - 3), wrap64 (bt599.1 - 3)))) = some (r1, r2, r3) := H
  have A4 := Aside0.mk A40
  clear A40
  replace H := Option.bind_eq_some_iff.mp H
  obtain ⟨⟨t599, t600⟩, A50, H⟩ := H
  replace H : (some (t593, wrap64 (t597 - 3), wrap64 (t599 - 3))) = some (r1, r2, r3) := H
  have A5 := Aside0.mk A50
  clear A50
  simp only [Option.some.injEq, Prod.mk.injEq] at H
  obtain ⟨rfl, rfl, rfl⟩ := H
  go_enter Try.func32, Try.ntmps32
  go_wp2_with (first | ((with_reducible refine gate_callee (f := 54) rfl ?_); refine goesL_ (some 7) rfl rfl Try.func54 (by kernel_rfl) rfl #[.slice A0 l0.length c0] rfl (by (try simp only [List.map_toArray, List.map_cons, List.map_nil]); first | done | rfl | (simp only [List.length_drop, List.length_take]; rfl)) ?_; (with_reducible refine (spec_l1Open.calls _ _ l0 t590 t591 w _ ?side1 ?side2 ?side3 A2.out).mono ?_); (case side1 => repeat (first | (with_reducible first | exact HB.out | apply below_alloc | apply pw_below_drewN | apply below_drew1) | exact HB.out | exact Below.refl _ _)); (case side2 => exact HR0.out); (case side3 => exact HC0.out); rintro e w6 ⟨g592, rfl, hi, hb, hb2⟩; refine ⟨_, rfl, ?_⟩; have n0_ := Aside0.mk (hb); have n1_ := Aside0.mk (hi); clear HB; have HB := n0_; have HI592 := n1_; clear n0_ n1_; (try clear hb); (try clear hb2); (try clear hk); (try clear hi)) | ((with_reducible refine gate_callee (f := 55) rfl ?_); refine goesL_ (some 9) rfl rfl Try.func55 (by kernel_rfl) rfl #[.pointer (some ⟨g592, 0, none⟩)] rfl (by (try simp only [List.map_toArray, List.map_cons, List.map_nil]); first | done | rfl | (simp only [List.length_drop, List.length_take]; rfl)) ?_; (with_reducible refine (spec_l11AnyScores.calls k g592 t590 t591 t593 t596 w _ ?side1 ?side2 A3.out).mono ?_); (case side1 => repeat (first | (with_reducible first | exact HI592.out | apply IsS82.alloc | apply IsS82.drewN | apply IsS82.drew | apply IsS82.set_1) | exact HI592.out)); (case side2 => repeat (first | (with_reducible first | exact HB.out | apply below_alloc | apply pw_below_drewN | apply below_drew1 | refine below_set ?_ (IsS82.ge HI592.out)) | exact HB.out)); rintro e w7 ⟨v594, rfl, ho0, hi, hb, hk⟩; refine ⟨_, rfl, ?_⟩; have n0_ := Aside0.mk (Kd.R_lower ho0 (below_size (by repeat (first | (with_reducible first | exact HB.out | apply below_alloc | apply pw_below_drewN | apply below_drew1 | refine below_set ?_ (IsS82.ge HI592.out)) | exact HB.out)))); have n1_ := Aside0.mk (hb); have n2_ := Aside0.mk (hi); clear HB; clear HI592; have HO595 := n0_; have HB := n1_; have HI592 := n2_; clear n0_ n1_ n2_; (try clear hb); (try clear hb2); (try clear hk); (try clear hi); (try clear ho0)) | ((with_reducible refine gate_callee (f := 57) rfl ?_); refine goesL_ (some 11) rfl rfl Try.func57 (by kernel_rfl) rfl #[.pointer (some ⟨g592, 0, none⟩), .int .i64 6] rfl (by (try simp only [List.map_toArray, List.map_cons, List.map_nil]); first | done | rfl | (simp only [List.length_drop, List.length_take]; rfl)) ?_; (with_reducible refine (spec_l1Rd_pick.calls k g592 t590 t596 6 t597 t598 w _ ?side1 ?side2 A4.out).mono ?_); (case side1 => repeat (first | (with_reducible first | exact HI592.out | apply IsS82.alloc | apply IsS82.drewN | apply IsS82.drew | apply IsS82.set_1) | exact HI592.out)); (case side2 => repeat (first | (with_reducible first | exact HB.out | apply below_alloc | apply pw_below_drewN | apply below_drew1 | refine below_set ?_ (IsS82.ge HI592.out)) | exact HB.out)); rintro e w8 ⟨rfl, hi, hb, hk⟩; refine ⟨_, rfl, ?_⟩; have n0_ := Aside0.mk (Kd.R_mono (Kd.R_keep (IsS82.apart (show IsS82 w _ g592 t590 t596 from by repeat (first | (with_reducible first | exact HI592.out | apply IsS82.alloc | apply IsS82.drewN | apply IsS82.drew | apply IsS82.set_1) | exact HI592.out)) (by (with_reducible repeat (first | apply Kd.R_alloc | apply Kd.R_drewN | apply Kd.R_drew)); exact HO595.out) (by decide)) hk (fun _ h => h.2)) (fun _ h => h.1)); have n1_ := Aside0.mk (hb); have n2_ := Aside0.mk (hi); clear HO595; clear HB; clear HI592; have HO595 := n0_; have HB := n1_; have HI592 := n2_; clear n0_ n1_ n2_; (try clear hb); (try clear hb2); (try clear hk); (try clear hi)) | ((with_reducible refine gate_callee (f := 57) rfl ?_); refine goesL_ (some 14) rfl rfl Try.func57 (by kernel_rfl) rfl #[.pointer (some ⟨g592, 0, none⟩), .int .i64 10] rfl (by (try simp only [List.map_toArray, List.map_cons, List.map_nil]); first | done | rfl | (simp only [List.length_drop, List.length_take]; rfl)) ?_; (with_reducible refine (spec_l1Rd_pick.calls k g592 t590 t598 10 t599 t600 w _ ?side1 ?side2 A5.out).mono ?_); (case side1 => repeat (first | (with_reducible first | exact HI592.out | apply IsS82.alloc | apply IsS82.drewN | apply IsS82.drew | apply IsS82.set_1) | exact HI592.out)); (case side2 => repeat (first | (with_reducible first | exact HB.out | apply below_alloc | apply pw_below_drewN | apply below_drew1 | refine below_set ?_ (IsS82.ge HI592.out)) | exact HB.out)); rintro e w9 ⟨rfl, hi, hb, hk⟩; refine ⟨_, rfl, ?_⟩; have n0_ := Aside0.mk (Kd.R_mono (Kd.R_keep (IsS82.apart (show IsS82 w _ g592 t590 t598 from by repeat (first | (with_reducible first | exact HI592.out | apply IsS82.alloc | apply IsS82.drewN | apply IsS82.drew | apply IsS82.set_1) | exact HI592.out)) (by (with_reducible repeat (first | apply Kd.R_alloc | apply Kd.R_drewN | apply Kd.R_drew)); exact HO595.out) (by decide)) hk (fun _ h => h.2)) (fun _ h => h.1)); have n1_ := Aside0.mk (hb); have n2_ := Aside0.mk (hi); clear HO595; clear HB; clear HI592; have HO595 := n0_; have HB := n1_; have HI592 := n2_; clear n0_ n1_ n2_; (try clear hb); (try clear hb2); (try clear hk); (try clear hi)))
  go_ret3
  exact ⟨_, by first | rfl | (simp [errW_none, errW_some] <;> rfl) | (simp [*, errW_none, errW_some] <;> rfl), by (with_reducible repeat (first | apply Kd.R_alloc | apply Kd.R_drewN | apply Kd.R_drew)); exact HO595.out, by repeat (first | (with_reducible first | exact HB.out | apply below_alloc | apply pw_below_drewN | apply below_drew1 | refine below_set ?_ (IsS82.ge HI592.out)) | exact HB.out)⟩
end Go.Proofs.Ytcpnekdhdmncfaa.P
namespace Go.Proofs.Ytcpnekdhdmncfaa.P
open Go.RowKit Go.Proofs.YtcpnekdhdmncfaaW.PrintWords Go.Proofs.YtcpnekdhdmncfaaW.PrintLast Go.Proofs.YtcpnekdhdmncfaaW.PrintMore
attribute [local go_sem] max2_int min2_int max_two min_two max_three min_three max_four min_four   -- for this text's walks alone
set_option linter.unusedVariables false
set_option linter.unusedSimpArgs false
set_option maxHeartbeats 8000000 in
set_option maxRecDepth 100000 in
theorem laws_FnScoresBy.calls (k : Nat) (A0 : Option Addr) (c0 : Nat) (l0 : List Int) (r : Bool) (w : World) (hr0 : Kd.C (Kd.int .u8) w A0 l0.length l0) (hc0 : l0.length ≤ c0) (h : laws_FnScoresBy.f k l0 = some r) :
  Calls Try.prog 10 #[.slice A0 l0.length c0] w fun e w' => e = .returned (.bool r) ∧ Below w.heap.size w w' := by
 have HR0 := Aside0.mk hr0
 have HC0 := Aside0.mk hc0
 clear hr0 hc0
 have HB := Aside0.mk (Below.refl w.heap.size w)
 have H : (if (l0.length : Int) > 1048576 then (some true) else ((spec_DrawScoresBy.f k l0).bind fun bt601 => ((impl_ScoresBy.f k bt601.1 bt601.2.1 bt601.2.2).bind fun t606 => ((spec_ScoresBy.f k bt601.1 bt601.2.1 bt601.2.2).bind fun t609 => ((laws_qxScores.f k t606 t609).bind fun t612 => (if t612 = true then ((spec_ScoresOk.f k bt601.1).bind fun t613 => (laws_FnScoresBy.j0 k bt601.1 bt601.2.1 bt601.2.2 t606 (!t613))) else (laws_FnScoresBy.j0 k bt601.1 bt601.2.1 bt601.2.2 t606 true))))))) = some r := h
 clear h
 by_cases c2 : (l0.length : Int) > 1048576
 ·rw [if_pos c2] at H
  have c2b0 : decide (1048576 < (l0.length : Int)) = true := decide_eq_true c2
  have c2b1 : decide (1048576 < l0.length) = true := decide_eq_true (by omega)
  clear c2
  obtain rfl := Option.some.inj H
  go_enter Try.func10, Try.ntmps10
  go_wp2
  go_ret
  exact ⟨by first | rfl | (simp [errW_none, errW_some] <;> rfl) | (simp [*, errW_none, errW_some] <;> rfl), by repeat (first | (with_reducible first | exact HB.out | apply below_alloc | apply pw_below_drewN | apply below_drew1) | exact HB.out | exact Below.refl _ _)⟩
 ·rw [if_neg c2] at H
  have c2b0 : decide (1048576 < (l0.length : Int)) = false := decide_eq_false c2
  have c2b1 : decide (1048576 < l0.length) = false := decide_eq_false (by omega)
  clear c2
  replace H := Option.bind_eq_some_iff.mp H
  obtain ⟨⟨t601, t602, t603⟩, A30, H⟩ := H
  replace H : ((impl_ScoresBy.f k t601 t602 t603).bind fun t606 => ((spec_ScoresBy.f k t601 t602 t603).bind fun t609 => ((laws_qxScores.f k t606 t609).bind fun t612 => (if t612 = true then ((spec_ScoresOk.f k t601).bind fun t613 => (laws_FnScoresBy.j0 k t601 t602 t603 t606 (!t613))) else (laws_FnScoresBy.j0 k t601 t602 t603 t606 true))))) = some r := H
  have A3 := Aside0.mk A30
  clear A30
  replace H := Option.bind_eq_some_iff.mp H
  obtain ⟨t606, A40, H⟩ := H
  replace H : ((spec_ScoresBy.f k t601 t602 t603).bind fun t609 => ((laws_qxScores.f k t606 t609).bind fun t612 => (if t612 = true then ((spec_ScoresOk.f k t601).bind fun t613 => (laws_FnScoresBy.j0 k t601 t602 t603 t606 (!t613))) else (laws_FnScoresBy.j0 k t601 t602 t603 t606 true)))) = some r := H
  have A4 := Aside0.mk A40
  clear A40
  have HC5 := Aside0.mk H
  clear H
  go_enter Try.func10, Try.ntmps10
  go_upto_region 5 with (first | ((with_reducible refine gate_callee (f := 32) rfl ?_); refine goesL_ (some 15) rfl rfl Try.func32 (by kernel_rfl) rfl #[.slice A0 l0.length c0] rfl (by (try simp only [List.map_toArray, List.map_cons, List.map_nil]); first | done | rfl | (simp only [List.length_drop, List.length_take]; rfl)) ?_; (with_reducible refine (spec_DrawScoresBy.calls k _ _ l0 t601 t602 t603 _ ?side1 ?side2 A3.out).mono ?_); (case side1 => repeat (first | exact HR0.out | (with_reducible refine Kd.C_alloc ?_ _) | (with_reducible refine Kd.C_drewN ?_ _) | (with_reducible refine Kd.C_drew ?_))); (case side2 => exact HC0.out); rintro e w6 ⟨v604, rfl, ho0, hb⟩; refine ⟨_, rfl, ?_⟩; have n0_ := Aside0.mk (Kd.R_lower ho0 (below_size (by repeat (first | (with_reducible first | exact HB.out | apply below_alloc | apply pw_below_drewN | apply below_drew1) | exact HB.out | exact Below.refl _ _)))); have n1_ := Aside0.mk (below_step (by repeat (first | (with_reducible first | exact HB.out | apply below_alloc | apply pw_below_drewN | apply below_drew1) | exact HB.out | exact Below.refl _ _)) hb); clear HB; have HO605 := n0_; have HB := n1_; clear n0_ n1_; (try clear hb); (try clear hb2); (try clear hk); (try clear hi); (try clear ho0); obtain ⟨Ao7, co7, eo7⟩ := Kd.R_slice HO605.out; subst eo7) | ((with_reducible refine gate_callee (f := 22) rfl ?_); refine goesL_ (some 22) rfl rfl Try.func22 (by kernel_rfl) rfl #[.slice Ao7 t601.length co7, .int .i64 t602, .int .i64 t603] rfl (by (try simp only [List.map_toArray, List.map_cons, List.map_nil]); first | done | rfl | (simp only [List.length_drop, List.length_take]; rfl)) ?_; (with_reducible refine (impl_ScoresBy.calls k _ _ t601 t602 t603 t606 _ ?side1 ?side2 A4.out).mono ?_); (case side1 => repeat (first | exact (Kd.R_reads' HO605.out).2.2 | (with_reducible refine Kd.C_alloc ?_ _) | (with_reducible refine Kd.C_drewN ?_ _) | (with_reducible refine Kd.C_drew ?_))); (case side2 => exact (Kd.R_reads' HO605.out).2.1); rintro e w8 ⟨v607, rfl, ho0, hb⟩; refine ⟨_, rfl, ?_⟩; have n0_ := Aside0.mk (Kd.R_elder' (by (with_reducible repeat (first | apply Kd.R_alloc | apply Kd.R_drewN | apply Kd.R_drew)); exact HO605.out) (Kd.R_base ho0) hb); have n1_ := Aside0.mk (Kd.R_lower (Kd.R_new' ho0 (Kd.R_lt (by (with_reducible repeat (first | apply Kd.R_alloc | apply Kd.R_drewN | apply Kd.R_drew)); exact HO605.out))) (below_size (by repeat (first | (with_reducible first | exact HB.out | apply below_alloc | apply pw_below_drewN | apply below_drew1) | exact HB.out | exact Below.refl _ _)))); have n2_ := Aside0.mk (below_step (by repeat (first | (with_reducible first | exact HB.out | apply below_alloc | apply pw_below_drewN | apply below_drew1) | exact HB.out | exact Below.refl _ _)) hb); clear HO605; clear HB; have HO605 := n0_; have HO608 := n1_; have HB := n2_; clear n0_ n1_ n2_; (try clear hb); (try clear hb2); (try clear hk); (try clear hi); (try clear ho0)))
  (try simp only [Act.put, List.setIfInBounds_toArray, List.set_cons_zero, List.set_cons_succ])
  go_cut [34] (fun v34 wc => ∃ (kq : Nat) (x34_4 : Bool), v34 = .bool x34_4 ∧ Aside0 (laws_FnScoresBy.j0 kq t601 t602 t603 t606 x34_4 = some r) ∧ Aside0 (kq ≤ k) ∧ Aside0 (Kd.R k40 40 wc w.heap.size (fun k_ => some k_ ≠ (v607 : Value).ownBlock) (.slice Ao7 t601.length co7) t601) ∧ Aside0 (Kd.R k40 40 wc w.heap.size (fun k_ => some k_ ≠ ((.slice Ao7 t601.length co7) : Value).ownBlock) v607 t606) ∧ Aside0 (Below w.heap.size w wc))
  case first =>
   have H := HC5.out
   clear HC5
   replace H := Option.bind_eq_some_iff.mp H
   obtain ⟨t609, A90, H⟩ := H
   replace H : ((laws_qxScores.f k t606 t609).bind fun t612 => (if t612 = true then ((spec_ScoresOk.f k t601).bind fun t613 => (laws_FnScoresBy.j0 k t601 t602 t603 t606 (!t613))) else (laws_FnScoresBy.j0 k t601 t602 t603 t606 true))) = some r := H
   have A9 := Aside0.mk A90
   clear A90
   replace H := Option.bind_eq_some_iff.mp H
   obtain ⟨t612, A100, H⟩ := H
   replace H : (if t612 = true then ((spec_ScoresOk.f k t601).bind fun t613 => (laws_FnScoresBy.j0 k t601 t602 t603 t606 (!t613))) else (laws_FnScoresBy.j0 k t601 t602 t603 t606 true)) = some r := H
   have A10 := Aside0.mk A100
   clear A100
   by_cases c11 : t612 = true
   ·subst c11
    have H1 : ((spec_ScoresOk.f k t601).bind fun t613 => (laws_FnScoresBy.j0 k t601 t602 t603 t606 (!t613))) = some r := by rw [if_pos rfl] at H; exact H
    clear H
    have H := H1
    clear H1
    replace H := Option.bind_eq_some_iff.mp H
    obtain ⟨t613, A120, H⟩ := H
    replace H : (laws_FnScoresBy.j0 k t601 t602 t603 t606 (!t613)) = some r := H
    have A12 := Aside0.mk A120
    clear A120
    have H' := Aside0.mk H
    clear H
    go_wp2_with (first | ((with_reducible refine gate_callee (f := 21) rfl ?_); refine goesL_ (some 27) rfl rfl Try.func21 (by kernel_rfl) rfl #[.slice Ao7 t601.length co7, .int .i64 t602, .int .i64 t603] rfl (by (try simp only [List.map_toArray, List.map_cons, List.map_nil]); first | done | rfl | (simp only [List.length_drop, List.length_take]; rfl)) ?_; (with_reducible refine (spec_ScoresBy.calls k _ _ t601 t602 t603 t609 _ ?side1 ?side2 A9.out).mono ?_); (case side1 => repeat (first | exact (Kd.R_reads' HO605.out).2.2 | (with_reducible refine Kd.C_alloc ?_ _) | (with_reducible refine Kd.C_drewN ?_ _) | (with_reducible refine Kd.C_drew ?_))); (case side2 => exact (Kd.R_reads' HO605.out).2.1); rintro e w13 ⟨v610, rfl, ho0, hb⟩; refine ⟨_, rfl, ?_⟩; have n0_ := Aside0.mk (Kd.R_elder' (by (with_reducible repeat (first | apply Kd.R_alloc | apply Kd.R_drewN | apply Kd.R_drew)); exact HO605.out) (Kd.R_base ho0) hb); have n1_ := Aside0.mk (Kd.R_elder' (by (with_reducible repeat (first | apply Kd.R_alloc | apply Kd.R_drewN | apply Kd.R_drew)); exact HO608.out) (Kd.R_base ho0) hb); have n2_ := Aside0.mk (Kd.R_lower (Kd.R_new' (Kd.R_new' ho0 (Kd.R_lt (by (with_reducible repeat (first | apply Kd.R_alloc | apply Kd.R_drewN | apply Kd.R_drew)); exact HO605.out))) (Kd.R_lt (by (with_reducible repeat (first | apply Kd.R_alloc | apply Kd.R_drewN | apply Kd.R_drew)); exact HO608.out))) (below_size (by repeat (first | (with_reducible first | exact HB.out | apply below_alloc | apply pw_below_drewN | apply below_drew1) | exact HB.out | exact Below.refl _ _)))); have n3_ := Aside0.mk (below_step (by repeat (first | (with_reducible first | exact HB.out | apply below_alloc | apply pw_below_drewN | apply below_drew1) | exact HB.out | exact Below.refl _ _)) hb); clear HO605; clear HO608; clear HB; have HO605 := n0_; have HO608 := n1_; have HO611 := n2_; have HB := n3_; clear n0_ n1_ n2_ n3_; (try clear hb); (try clear hb2); (try clear hk); (try clear hi); (try clear ho0); obtain ⟨Ao14, co14, eo14⟩ := Kd.R_slice HO608.out; subst eo14; obtain ⟨Ao15, co15, eo15⟩ := Kd.R_slice HO611.out; subst eo15) | ((with_reducible refine gate_callee (f := 31) rfl ?_); refine goesL_ (some 28) rfl rfl Try.func31 (by kernel_rfl) rfl #[.slice Ao14 t606.length co14, .slice Ao15 t609.length co15] rfl (by (try simp only [List.map_toArray, List.map_cons, List.map_nil]); first | done | rfl | (simp only [List.length_drop, List.length_take]; rfl)) ?_; (with_reducible refine (laws_qxScores.calls k _ _ t606 _ _ t609 true _ ?side1 ?side2 ?side3 ?side4 A10.out).mono ?_); (case side1 => repeat (first | exact (Kd.R_reads' HO608.out).2.2 | (with_reducible refine Kd.C_alloc ?_ _) | (with_reducible refine Kd.C_drewN ?_ _) | (with_reducible refine Kd.C_drew ?_))); (case side2 => exact (Kd.R_reads' HO608.out).2.1); (case side3 => repeat (first | exact (Kd.R_reads' HO611.out).2.2 | (with_reducible refine Kd.C_alloc ?_ _) | (with_reducible refine Kd.C_drewN ?_ _) | (with_reducible refine Kd.C_drew ?_))); (case side4 => exact (Kd.R_reads' HO611.out).2.1); rintro e w' ⟨rfl, ⟨nd, rfl⟩⟩; refine ⟨_, rfl, ?_⟩) | (go_at_call 15; (with_reducible refine (spec_ScoresOk.calls k _ _ t601 t613 _ ?side1 ?side2 A12.out).mono ?_); (case side1 => repeat (first | exact (Kd.R_reads' HO605.out).2.2 | (with_reducible refine Kd.C_alloc ?_ _) | (with_reducible refine Kd.C_drewN ?_ _) | (with_reducible refine Kd.C_drew ?_))); (case side2 => exact (Kd.R_reads' HO605.out).2.1); rintro e w16 ⟨rfl, hb⟩; have n0_ := Aside0.mk (Kd.R_below (by (with_reducible repeat (first | apply Kd.R_alloc | apply Kd.R_drewN | apply Kd.R_drew)); exact HO605.out) hb); have n1_ := Aside0.mk (Kd.R_below (by (with_reducible repeat (first | apply Kd.R_alloc | apply Kd.R_drewN | apply Kd.R_drew)); exact HO608.out) hb); have n2_ := Aside0.mk (Kd.R_below (by (with_reducible repeat (first | apply Kd.R_alloc | apply Kd.R_drewN | apply Kd.R_drew)); exact HO611.out) hb); have n3_ := Aside0.mk (below_step (by repeat (first | (with_reducible first | exact HB.out | apply below_alloc | apply pw_below_drewN | apply below_drew1) | exact HB.out | exact Below.refl _ _)) hb); clear HO605; clear HO608; clear HO611; clear HB; have HO605 := n0_; have HO608 := n1_; have HO611 := n2_; have HB := n3_; clear n0_ n1_ n2_ n3_; (try clear hb); (try clear hb2); (try clear hk); (try clear hi)))
    go_meet
    case rel => exact ⟨_, (!t613), (by first | rfl | (simp; done) | (simp [*]; done)), H', ⟨by first | omega | exact Nat.le_refl _⟩, ⟨by (with_reducible repeat (first | apply Kd.R_alloc | apply Kd.R_drewN | apply Kd.R_drew)); exact Kd.R_mono HO605.out (fun _ hk => hk.1.2)⟩, ⟨by (with_reducible repeat (first | apply Kd.R_alloc | apply Kd.R_drewN | apply Kd.R_drew)); exact Kd.R_mono HO608.out (fun _ hk => hk.1.2)⟩, ⟨by repeat (first | (with_reducible first | exact HB.out | apply below_alloc | apply pw_below_drewN | apply below_drew1) | exact HB.out | exact Below.refl _ _)⟩⟩
   ·replace c11 := Bool.eq_false_iff.mpr c11
    subst c11
    have H1 : (laws_FnScoresBy.j0 k t601 t602 t603 t606 true) = some r := by rw [if_neg (show ¬ (false = true) by decide)] at H; exact H
    clear H
    have H := H1
    clear H1
    have H' := Aside0.mk H
    clear H
    go_wp2_with (first | ((with_reducible refine gate_callee (f := 21) rfl ?_); refine goesL_ (some 27) rfl rfl Try.func21 (by kernel_rfl) rfl #[.slice Ao7 t601.length co7, .int .i64 t602, .int .i64 t603] rfl (by (try simp only [List.map_toArray, List.map_cons, List.map_nil]); first | done | rfl | (simp only [List.length_drop, List.length_take]; rfl)) ?_; (with_reducible refine (spec_ScoresBy.calls k _ _ t601 t602 t603 t609 _ ?side1 ?side2 A9.out).mono ?_); (case side1 => repeat (first | exact (Kd.R_reads' HO605.out).2.2 | (with_reducible refine Kd.C_alloc ?_ _) | (with_reducible refine Kd.C_drewN ?_ _) | (with_reducible refine Kd.C_drew ?_))); (case side2 => exact (Kd.R_reads' HO605.out).2.1); rintro e w17 ⟨v610, rfl, ho0, hb⟩; refine ⟨_, rfl, ?_⟩; have n0_ := Aside0.mk (Kd.R_elder' (by (with_reducible repeat (first | apply Kd.R_alloc | apply Kd.R_drewN | apply Kd.R_drew)); exact HO605.out) (Kd.R_base ho0) hb); have n1_ := Aside0.mk (Kd.R_elder' (by (with_reducible repeat (first | apply Kd.R_alloc | apply Kd.R_drewN | apply Kd.R_drew)); exact HO608.out) (Kd.R_base ho0) hb); have n2_ := Aside0.mk (Kd.R_lower (Kd.R_new' (Kd.R_new' ho0 (Kd.R_lt (by (with_reducible repeat (first | apply Kd.R_alloc | apply Kd.R_drewN | apply Kd.R_drew)); exact HO605.out))) (Kd.R_lt (by (with_reducible repeat (first | apply Kd.R_alloc | apply Kd.R_drewN | apply Kd.R_drew)); exact HO608.out))) (below_size (by repeat (first | (with_reducible first | exact HB.out | apply below_alloc | apply pw_below_drewN | apply below_drew1) | exact HB.out | exact Below.refl _ _)))); have n3_ := Aside0.mk (below_step (by repeat (first | (with_reducible first | exact HB.out | apply below_alloc | apply pw_below_drewN | apply below_drew1) | exact HB.out | exact Below.refl _ _)) hb); clear HO605; clear HO608; clear HB; have HO605 := n0_; have HO608 := n1_; have HO611 := n2_; have HB := n3_; clear n0_ n1_ n2_ n3_; (try clear hb); (try clear hb2); (try clear hk); (try clear hi); (try clear ho0); obtain ⟨Ao18, co18, eo18⟩ := Kd.R_slice HO608.out; subst eo18; obtain ⟨Ao19, co19, eo19⟩ := Kd.R_slice HO611.out; subst eo19) | ((with_reducible refine gate_callee (f := 31) rfl ?_); refine goesL_ (some 28) rfl rfl Try.func31 (by kernel_rfl) rfl #[.slice Ao18 t606.length co18, .slice Ao19 t609.length co19] rfl (by (try simp only [List.map_toArray, List.map_cons, List.map_nil]); first | done | rfl | (simp only [List.length_drop, List.length_take]; rfl)) ?_; (with_reducible refine (laws_qxScores.calls k _ _ t606 _ _ t609 false _ ?side1 ?side2 ?side3 ?side4 A10.out).mono ?_); (case side1 => repeat (first | exact (Kd.R_reads' HO608.out).2.2 | (with_reducible refine Kd.C_alloc ?_ _) | (with_reducible refine Kd.C_drewN ?_ _) | (with_reducible refine Kd.C_drew ?_))); (case side2 => exact (Kd.R_reads' HO608.out).2.1); (case side3 => repeat (first | exact (Kd.R_reads' HO611.out).2.2 | (with_reducible refine Kd.C_alloc ?_ _) | (with_reducible refine Kd.C_drewN ?_ _) | (with_reducible refine Kd.C_drew ?_))); (case side4 => exact (Kd.R_reads' HO611.out).2.1); rintro e w' ⟨rfl, ⟨nd, rfl⟩⟩; refine ⟨_, rfl, ?_⟩))
    go_meet
    case rel => exact ⟨_, (true), (by first | rfl | (simp; done) | (simp [*]; done)), H', ⟨by first | omega | exact Nat.le_refl _⟩, ⟨by (with_reducible repeat (first | apply Kd.R_alloc | apply Kd.R_drewN | apply Kd.R_drew)); exact Kd.R_mono HO605.out (fun _ hk => hk.1.2)⟩, ⟨by (with_reducible repeat (first | apply Kd.R_alloc | apply Kd.R_drewN | apply Kd.R_drew)); exact Kd.R_mono HO608.out (fun _ hk => hk.1.2)⟩, ⟨by repeat (first | (with_reducible first | exact HB.out | apply below_alloc | apply pw_below_drewN | apply below_drew1) | exact HB.out | exact Below.refl _ _)⟩⟩
  case rest =>
   clear HC5
   try clear c1
   try clear c2
   try clear c2b0
   try clear c2b1
   try clear p2
   try clear c3
   try clear c10
   try clear c11
   obtain ⟨kq, x34_4, rfl, HA, HJ4, HO_3, HO_6, HB⟩ := hcut
   cases kq with
   | zero => exact absurd HA.out (by simp [laws_FnScoresBy.j0])
   | succ kj4 =>
    have H := HA.out
    clear HA
    simp only [laws_FnScoresBy.j0] at H
    by_cases c20 : x34_4 = true
    ·subst c20
     have H1 : ((spec_ScoresBy.f kj4 t601 t602 t603).bind fun t614 => ((laws_qxScores.f kj4 t606 t614).bind fun t617 => (some t617))) = some r := by rw [if_pos rfl] at H; exact H
     clear H
     have H := H1
     clear H1
     replace H := Option.bind_eq_some_iff.mp H
     obtain ⟨t614, A210, H⟩ := H
     replace H : ((laws_qxScores.f kj4 t606 t614).bind fun t617 => (some t617)) = some r := H
     have A21 := Aside0.mk A210
     clear A210
     replace H := Option.bind_eq_some_iff.mp H
     obtain ⟨t617, A220, H⟩ := H
     replace H : (some t617) = some r := H
     have A22 := Aside0.mk A220
     clear A220
     obtain rfl := Option.some.inj H
     go_wp2_with (first | ((with_reducible refine gate_callee (f := 21) rfl ?_); refine goesL_ (some 39) rfl rfl Try.func21 (by kernel_rfl) rfl #[.slice Ao7 t601.length co7, .int .i64 t602, .int .i64 t603] rfl (by (try simp only [List.map_toArray, List.map_cons, List.map_nil]); first | done | rfl | (simp only [List.length_drop, List.length_take]; rfl)) ?_; (with_reducible refine (spec_ScoresBy.calls kj4 _ _ t601 t602 t603 t614 _ ?side1 ?side2 A21.out).mono ?_); (case side1 => repeat (first | exact (Kd.R_reads' HO_3.out).2.2 | (with_reducible refine Kd.C_alloc ?_ _) | (with_reducible refine Kd.C_drewN ?_ _) | (with_reducible refine Kd.C_drew ?_))); (case side2 => exact (Kd.R_reads' HO_3.out).2.1); rintro e w23 ⟨v615, rfl, ho0, hb⟩; refine ⟨_, rfl, ?_⟩; have n0_ := Aside0.mk (Kd.R_elder' (by (with_reducible repeat (first | apply Kd.R_alloc | apply Kd.R_drewN | apply Kd.R_drew)); exact HO_3.out) (Kd.R_base ho0) hb); have n1_ := Aside0.mk (Kd.R_elder' (by (with_reducible repeat (first | apply Kd.R_alloc | apply Kd.R_drewN | apply Kd.R_drew)); exact HO_6.out) (Kd.R_base ho0) hb); have n2_ := Aside0.mk (Kd.R_lower (Kd.R_new' (Kd.R_new' ho0 (Kd.R_lt (by (with_reducible repeat (first | apply Kd.R_alloc | apply Kd.R_drewN | apply Kd.R_drew)); exact HO_3.out))) (Kd.R_lt (by (with_reducible repeat (first | apply Kd.R_alloc | apply Kd.R_drewN | apply Kd.R_drew)); exact HO_6.out))) (below_size (by repeat (first | (with_reducible first | exact HB.out | apply below_alloc | apply pw_below_drewN | apply below_drew1) | exact HB.out | exact Below.refl _ _)))); have n3_ := Aside0.mk (below_step (by repeat (first | (with_reducible first | exact HB.out | apply below_alloc | apply pw_below_drewN | apply below_drew1) | exact HB.out | exact Below.refl _ _)) hb); clear HO_3; clear HO_6; clear HB; have HO_3 := n0_; have HO_6 := n1_; have HO616 := n2_; have HB := n3_; clear n0_ n1_ n2_ n3_; (try clear hb); (try clear hb2); (try clear hk); (try clear hi); (try clear ho0); obtain ⟨Ao24, co24, eo24⟩ := Kd.R_slice HO_6.out; subst eo24; obtain ⟨Ao25, co25, eo25⟩ := Kd.R_slice HO616.out; subst eo25) | ((with_reducible refine gate_callee (f := 31) rfl ?_); refine goesL_ (some 40) rfl rfl Try.func31 (by kernel_rfl) rfl #[.slice Ao24 t606.length co24, .slice Ao25 t614.length co25] rfl (by (try simp only [List.map_toArray, List.map_cons, List.map_nil]); first | done | rfl | (simp only [List.length_drop, List.length_take]; rfl)) ?_; (with_reducible refine (laws_qxScores.calls kj4 _ _ t606 _ _ t614 t617 _ ?side1 ?side2 ?side3 ?side4 A22.out).mono ?_); (case side1 => repeat (first | exact (Kd.R_reads' HO_6.out).2.2 | (with_reducible refine Kd.C_alloc ?_ _) | (with_reducible refine Kd.C_drewN ?_ _) | (with_reducible refine Kd.C_drew ?_))); (case side2 => exact (Kd.R_reads' HO_6.out).2.1); (case side3 => repeat (first | exact (Kd.R_reads' HO616.out).2.2 | (with_reducible refine Kd.C_alloc ?_ _) | (with_reducible refine Kd.C_drewN ?_ _) | (with_reducible refine Kd.C_drew ?_))); (case side4 => exact (Kd.R_reads' HO616.out).2.1); rintro e w' ⟨rfl, ⟨nd, rfl⟩⟩; refine ⟨_, rfl, ?_⟩))
     go_ret
     exact ⟨by first | rfl | (simp [errW_none, errW_some] <;> rfl) | (simp [*, errW_none, errW_some] <;> rfl), by repeat (first | (with_reducible first | exact HB.out | apply below_alloc | apply pw_below_drewN | apply below_drew1) | exact HB.out | exact Below.refl _ _)⟩
    ·replace c20 := Bool.eq_false_iff.mpr c20
     subst c20
     have H1 : (laws_FnScoresBy.l0 kj4 t601 t602 t603 t606 0 (-1) 0) = some r := by rw [if_neg (show ¬ (false = true) by decide)] at H; exact H
     clear H
     have H := H1
     clear H1
     have H' := Aside0.mk H
     clear H
     go_wp2
     go_loopg [7, 8, 9] kj4 (fun kq v7 v8 v9 w' => ∃ (x7_2 : Int) (x8_2 : Int) (x9_2 : Int), v7 = .int .i64 x7_2 ∧ v8 = .int .i64 x8_2 ∧ v9 = .int .i64 x9_2 ∧ Aside0 (laws_FnScoresBy.l0 kq t601 t602 t603 t606 x7_2 x8_2 x9_2 = some r) ∧ Aside0 (kq ≤ kj4) ∧ Aside0 (Kd.R k40 40 w' w.heap.size (fun k_ => some k_ ≠ (v607 : Value).ownBlock) (.slice Ao7 t601.length co7) t601) ∧ Aside0 (Kd.R k40 40 w' w.heap.size (fun k_ => some k_ ≠ ((.slice Ao7 t601.length co7) : Value).ownBlock) v607 t606) ∧ Aside0 (Below w.heap.size w w'))
     case atStart => exact ⟨(0), ((-1)), (0), (by first | rfl | (simp; done) | (simp [*]; done)), (by first | rfl | (simp; done) | (simp [*]; done)), (by first | rfl | (simp; done) | (simp [*]; done)), H', ⟨Nat.le_refl _⟩, ⟨by (with_reducible repeat (first | apply Kd.R_alloc | apply Kd.R_drewN | apply Kd.R_drew)); exact HO_3.out⟩, ⟨by (with_reducible repeat (first | apply Kd.R_alloc | apply Kd.R_drewN | apply Kd.R_drew)); exact HO_6.out⟩, ⟨by repeat (first | (with_reducible first | exact HB.out | apply below_alloc | apply pw_below_drewN | apply below_drew1) | exact HB.out | exact Below.refl _ _)⟩⟩
     case round =>
      clear H'
      try clear c1
      try clear c2
      try clear c2b0
      try clear c2b1
      try clear p2
      try clear c3
      try clear c10
      try clear c11
      try clear c20
      try clear c21
      try clear c22
      try clear p2
      obtain ⟨x7_2, x8_2, x9_2, rfl, rfl, rfl, HA, HK2, HO_3, HO_6, HB⟩ := hrel
      cases gk with
      | zero => exact absurd HA.out (by simp [laws_FnScoresBy.l0])
      | succ k2 =>
       have H := HA.out
       clear HA
       simp only [laws_FnScoresBy.l0] at H
       by_cases c26 : x9_2 < (t601.length : Int)
       ·rw [if_pos c26] at H
        have c26b0 : decide (x9_2 < (t601.length : Int)) = true := decide_eq_true c26
        clear c26
        have HC27 := Aside0.mk H
        clear H
        go_upto_region 12 with (fail)
        go_cut [62] (fun v62 wc => ∃ (kq : Nat) (x62_26 : Bool), v62 = .bool x62_26 ∧ Aside0 (laws_FnScoresBy.j2 kq t601 t602 t603 t606 x7_2 x8_2 x9_2 x62_26 = some r) ∧ Aside0 (kq ≤ k2) ∧ Aside0 (Kd.R k40 40 wc w.heap.size (fun k_ => some k_ ≠ (v607 : Value).ownBlock) (.slice Ao7 t601.length co7) t601) ∧ Aside0 (Kd.R k40 40 wc w.heap.size (fun k_ => some k_ ≠ ((.slice Ao7 t601.length co7) : Value).ownBlock) v607 t606) ∧ Aside0 (Below w.heap.size w wc))
        case first =>
         have H := HC27.out
         clear HC27
         by_cases c28 : 0 ≤ x9_2
         ·rw [if_pos c28] at H
          have c28b0 : decide (0 ≤ x9_2) = true := decide_eq_true c28
          clear c28
          (first | rw [c28b0] | (simp only [i64_w, i32_w]; rw [c28b0]) | skip)
          by_cases c29 : ((rd_T40 t601 x9_2).f1) ≥ t602
          ·rw [if_pos c29] at H
           have c29b0 : decide (t602 ≤ ((rd_T40 t601 x9_2).f1)) = true := decide_eq_true c29
           clear c29
           have H' := Aside0.mk H
           clear H
           have p618 : 0 ≤ (x9_2 : Int) := of_decide_eq_true (by first | (with_reducible assumption) | assumption)
           have q618 : x9_2 < (t601.length : Int) := of_decide_eq_true (by first | (with_reducible assumption) | assumption)
           obtain ⟨ad618, e618, hx618_0, hx618_1⟩ := at_T40 (Kd.R_reads' HO_3.out).2.2 x9_2 p618 q618
           cases e618
           replace p618 := eq_true p618
           replace q618 := eq_true q618
           have p619 : 0 ≤ (x9_2 : Int) := of_decide_eq_true (by first | (with_reducible assumption) | assumption)
           have q619 : x9_2 < (t601.length : Int) := of_decide_eq_true (by first | (with_reducible assumption) | assumption)
           obtain ⟨ad619, e619, hx619_0, hx619_1⟩ := at_T40 (Kd.R_reads' HO_3.out).2.2 x9_2 p619 q619
           obtain rfl : ad618 = ad619 := (by injection e619)
           replace p619 := eq_true p619
           replace q619 := eq_true q619
           go_wp2
           go_meet
           case rel => exact ⟨_, (decide (((rd_T40 t601 x9_2).f1) ≤ t603)), (by first | rfl | (simp; done) | (simp [*]; done)), H', ⟨by have := HJ4.out; have := HK2.out; first | omega | exact Nat.le_refl _⟩, ⟨by (with_reducible repeat (first | apply Kd.R_alloc | apply Kd.R_drewN | apply Kd.R_drew)); exact HO_3.out⟩, ⟨by (with_reducible repeat (first | apply Kd.R_alloc | apply Kd.R_drewN | apply Kd.R_drew)); exact HO_6.out⟩, ⟨by repeat (first | (with_reducible first | exact HB.out | apply below_alloc | apply pw_below_drewN | apply below_drew1) | exact HB.out | exact Below.refl _ _)⟩⟩
          ·rw [if_neg c29] at H
           have c29b0 : decide (t602 ≤ ((rd_T40 t601 x9_2).f1)) = false := decide_eq_false c29
           clear c29
           have H' := Aside0.mk H
           clear H
           have p618 : 0 ≤ (x9_2 : Int) := of_decide_eq_true (by first | (with_reducible assumption) | assumption)
           have q618 : x9_2 < (t601.length : Int) := of_decide_eq_true (by first | (with_reducible assumption) | assumption)
           obtain ⟨ad618, e618, hx618_0, hx618_1⟩ := at_T40 (Kd.R_reads' HO_3.out).2.2 x9_2 p618 q618
           cases e618
           replace p618 := eq_true p618
           replace q618 := eq_true q618
           go_wp2
           go_meet
           case rel => exact ⟨_, (false), (by first | rfl | (simp; done) | (simp [*]; done)), H', ⟨by have := HJ4.out; have := HK2.out; first | omega | exact Nat.le_refl _⟩, ⟨by (with_reducible repeat (first | apply Kd.R_alloc | apply Kd.R_drewN | apply Kd.R_drew)); exact HO_3.out⟩, ⟨by (with_reducible repeat (first | apply Kd.R_alloc | apply Kd.R_drewN | apply Kd.R_drew)); exact HO_6.out⟩, ⟨by repeat (first | (with_reducible first | exact HB.out | apply below_alloc | apply pw_below_drewN | apply below_drew1) | exact HB.out | exact Below.refl _ _)⟩⟩
         ·rw [if_neg c28] at H
          exact absurd H (by simp)
        case rest =>
         clear HC27
         try clear c1
         try clear c2
         try clear c2b0
         try clear c2b1
         try clear p2
         try clear c3
         try clear p6
         try clear q6
         try clear hx6
         try clear c10
         try clear c11
         try clear c20
         try clear c21
         try clear c22
         try clear c26
         try clear c26b0
         try clear c28
         try clear c28b0
         try clear c29
         try clear c29b0
         try clear hx618_0
         try clear hx618_1
         try clear hx619_0
         try clear hx619_1
         try clear p2
         try clear p618
         try clear p619
         try clear q618
         try clear q619
         obtain ⟨kq, x62_26, rfl, HA, HJ26, HO_3, HO_6, HB⟩ := hcut
         cases kq with
         | zero => exact absurd HA.out (by simp [laws_FnScoresBy.j2])
         | succ kj26 =>
          have H := HA.out
          clear HA
          simp only [laws_FnScoresBy.j2] at H
          by_cases c30 : x62_26 = true
          ·subst c30
           have H1 : (if x8_2 < 0 then (laws_FnScoresBy.l0 kj26 t601 t602 t603 t606 (wrap64 (x7_2 + 1)) x9_2 (wrap64 (x9_2 + 1))) else (laws_FnScoresBy.l0 kj26 t601 t602 t603 t606 (wrap64 (x7_2 + 1)) x8_2 (wrap64 (x9_2 + 1)))) = some r := by rw [if_pos rfl] at H; exact H
           clear H
           have H := H1
           clear H1
           by_cases c31 : x8_2 < 0
           ·rw [if_pos c31] at H
            have c31b0 : decide (x8_2 < 0) = true := decide_eq_true c31
            clear c31
            have H' := Aside0.mk H
            clear H
            go_wp2
            go_roundg kj26
            case measure => have := HJ4.out; have := HK2.out; have := HJ26.out; omega
            case rel => exact ⟨(wrap64 (x7_2 + 1)), (x9_2), (wrap64 (x9_2 + 1)), (by first | rfl | (simp; done) | (simp [*]; done)), (by first | rfl | (simp; done) | (simp [*]; done)), (by first | rfl | (simp; done) | (simp [*]; done)), H', ⟨by have := HJ4.out; have := HK2.out; have := HJ26.out; omega⟩, ⟨by (with_reducible repeat (first | apply Kd.R_alloc | apply Kd.R_drewN | apply Kd.R_drew)); exact HO_3.out⟩, ⟨by (with_reducible repeat (first | apply Kd.R_alloc | apply Kd.R_drewN | apply Kd.R_drew)); exact HO_6.out⟩, ⟨by repeat (first | (with_reducible first | exact HB.out | apply below_alloc | apply pw_below_drewN | apply below_drew1) | exact HB.out | exact Below.refl _ _)⟩⟩
           ·rw [if_neg c31] at H
            have c31b0 : decide (x8_2 < 0) = false := decide_eq_false c31
            clear c31
            have H' := Aside0.mk H
            clear H
            go_wp2
            go_roundg kj26
            case measure => have := HJ4.out; have := HK2.out; have := HJ26.out; omega
            case rel => exact ⟨(wrap64 (x7_2 + 1)), (x8_2), (wrap64 (x9_2 + 1)), (by first | rfl | (simp; done) | (simp [*]; done)), (by first | rfl | (simp; done) | (simp [*]; done)), (by first | rfl | (simp; done) | (simp [*]; done)), H', ⟨by have := HJ4.out; have := HK2.out; have := HJ26.out; omega⟩, ⟨by (with_reducible repeat (first | apply Kd.R_alloc | apply Kd.R_drewN | apply Kd.R_drew)); exact HO_3.out⟩, ⟨by (with_reducible repeat (first | apply Kd.R_alloc | apply Kd.R_drewN | apply Kd.R_drew)); exact HO_6.out⟩, ⟨by repeat (first | (with_reducible first | exact HB.out | apply below_alloc | apply pw_below_drewN | apply below_drew1) | exact HB.out | exact Below.refl _ _)⟩⟩
          ·replace c30 := Bool.eq_false_iff.mpr c30
           subst c30
           have H1 : (laws_FnScoresBy.l0 kj26 t601 t602 t603 t606 x7_2 x8_2 (wrap64 (x9_2 + 1))) = some r := by rw [if_neg (show ¬ (false = true) by decide)] at H; exact H
           clear H
           have H := H1
           clear H1
           have H' := Aside0.mk H
           clear H
           go_wp2
           go_roundg kj26
           case measure => have := HJ4.out; have := HK2.out; have := HJ26.out; omega
           case rel => exact ⟨(x7_2), (x8_2), (wrap64 (x9_2 + 1)), (by first | rfl | (simp; done) | (simp [*]; done)), (by first | rfl | (simp; done) | (simp [*]; done)), (by first | rfl | (simp; done) | (simp [*]; done)), H', ⟨by have := HJ4.out; have := HK2.out; have := HJ26.out; omega⟩, ⟨by (with_reducible repeat (first | apply Kd.R_alloc | apply Kd.R_drewN | apply Kd.R_drew)); exact HO_3.out⟩, ⟨by (with_reducible repeat (first | apply Kd.R_alloc | apply Kd.R_drewN | apply Kd.R_drew)); exact HO_6.out⟩, ⟨by repeat (first | (with_reducible first | exact HB.out | apply below_alloc | apply pw_below_drewN | apply below_drew1) | exact HB.out | exact Below.refl _ _)⟩⟩
       ·rw [if_neg c26] at H
        have c26b0 : decide (x9_2 < (t601.length : Int)) = false := decide_eq_false c26
        clear c26
        have HC32 := Aside0.mk H
        clear H
        go_upto_region 16 with (fail)
        go_cut [78] (fun v78 wc => ∃ (kq : Nat) (x78_31 : Bool), v78 = .bool x78_31 ∧ Aside0 (laws_FnScoresBy.j3 kq t601 t606 x7_2 x8_2 x78_31 = some r) ∧ Aside0 (kq ≤ k2) ∧ Aside0 (Kd.R k40 40 wc w.heap.size (fun k_ => some k_ ≠ (v607 : Value).ownBlock) (.slice Ao7 t601.length co7) t601) ∧ Aside0 (Kd.R k40 40 wc w.heap.size (fun k_ => some k_ ≠ ((.slice Ao7 t601.length co7) : Value).ownBlock) v607 t606) ∧ Aside0 (Below w.heap.size w wc))
        case first =>
         have H := HC32.out
         clear HC32
         by_cases c33 : x7_2 = (t606.length : Int)
         ·rw [if_pos c33] at H
          have c33b0 : (x7_2 == (t606.length : Int)) = true := beq_iff_eq.mpr c33
          have c33b1 : (x7_2 != (t606.length : Int)) = false := bne_eq_false_iff_eq.mpr c33
          clear c33
          (first | rw [c33b0] | (simp only [i64_w, i32_w]; rw [c33b0]) | skip)
          replace H := Option.bind_eq_some_iff.mp H
          obtain ⟨t620, A340, H⟩ := H
          replace H : ((laws_qxScores.f k2 t620 t601).bind fun t623 => (laws_FnScoresBy.j3 k2 t601 t606 x7_2 x8_2 (!t623))) = some r := H
          have A34 := Aside0.mk A340
          clear A340
          replace H := Option.bind_eq_some_iff.mp H
          obtain ⟨t623, A350, H⟩ := H
          replace H : (laws_FnScoresBy.j3 k2 t601 t606 x7_2 x8_2 (!t623)) = some r := H
          have A35 := Aside0.mk A350
          clear A350
          have H' := Aside0.mk H
          clear H
          obtain ⟨Ao36, co36, eo36⟩ := Kd.R_slice HO_6.out
          subst eo36
          go_wp2_with (first | (go_at_call 28; (with_reducible refine (impl_ScoresAt.calls k2 _ _ t601 0 (-1) t620 _ ?side1 ?side2 A34.out).mono ?_); (case side1 => repeat (first | exact (Kd.R_reads' HO_3.out).2.2 | (with_reducible refine Kd.C_alloc ?_ _) | (with_reducible refine Kd.C_drewN ?_ _) | (with_reducible refine Kd.C_drew ?_))); (case side2 => exact (Kd.R_reads' HO_3.out).2.1); rintro e w37 ⟨v621, rfl, ho0, hb⟩; have n0_ := Aside0.mk (Kd.R_elder' (by (with_reducible repeat (first | apply Kd.R_alloc | apply Kd.R_drewN | apply Kd.R_drew)); exact HO_3.out) (Kd.R_base ho0) hb); have n1_ := Aside0.mk (Kd.R_elder' (by (with_reducible repeat (first | apply Kd.R_alloc | apply Kd.R_drewN | apply Kd.R_drew)); exact HO_6.out) (Kd.R_base ho0) hb); have n2_ := Aside0.mk (Kd.R_lower (Kd.R_new' (Kd.R_new' ho0 (Kd.R_lt (by (with_reducible repeat (first | apply Kd.R_alloc | apply Kd.R_drewN | apply Kd.R_drew)); exact HO_3.out))) (Kd.R_lt (by (with_reducible repeat (first | apply Kd.R_alloc | apply Kd.R_drewN | apply Kd.R_drew)); exact HO_6.out))) (below_size (by repeat (first | (with_reducible first | exact HB.out | apply below_alloc | apply pw_below_drewN | apply below_drew1) | exact HB.out | exact Below.refl _ _)))); have n3_ := Aside0.mk (below_step (by repeat (first | (with_reducible first | exact HB.out | apply below_alloc | apply pw_below_drewN | apply below_drew1) | exact HB.out | exact Below.refl _ _)) hb); clear HO_3; clear HO_6; clear HB; have HO_3 := n0_; have HO_6 := n1_; have HO622 := n2_; have HB := n3_; clear n0_ n1_ n2_ n3_; (try clear hb); (try clear hb2); (try clear hk); (try clear hi); (try clear ho0); obtain ⟨Ao38, co38, eo38⟩ := Kd.R_slice HO622.out; subst eo38) | (go_at_call 31; (with_reducible refine (laws_qxScores.calls k2 _ _ t620 _ _ t601 t623 _ ?side1 ?side2 ?side3 ?side4 A35.out).mono ?_); (case side1 => repeat (first | exact (Kd.R_reads' HO622.out).2.2 | (with_reducible refine Kd.C_alloc ?_ _) | (with_reducible refine Kd.C_drewN ?_ _) | (with_reducible refine Kd.C_drew ?_))); (case side2 => exact (Kd.R_reads' HO622.out).2.1); (case side3 => repeat (first | exact (Kd.R_reads' HO_3.out).2.2 | (with_reducible refine Kd.C_alloc ?_ _) | (with_reducible refine Kd.C_drewN ?_ _) | (with_reducible refine Kd.C_drew ?_))); (case side4 => exact (Kd.R_reads' HO_3.out).2.1); rintro e w' ⟨rfl, ⟨nd, rfl⟩⟩))
          go_meet
          case rel => exact ⟨_, (!t623), (by first | rfl | (simp; done) | (simp [*]; done)), H', ⟨by have := HJ4.out; have := HK2.out; first | omega | exact Nat.le_refl _⟩, ⟨by (with_reducible repeat (first | apply Kd.R_alloc | apply Kd.R_drewN | apply Kd.R_drew)); exact Kd.R_mono HO_3.out (fun _ hk => hk.1)⟩, ⟨by (with_reducible repeat (first | apply Kd.R_alloc | apply Kd.R_drewN | apply Kd.R_drew)); exact Kd.R_mono HO_6.out (fun _ hk => hk.1)⟩, ⟨by repeat (first | (with_reducible first | exact HB.out | apply below_alloc | apply pw_below_drewN | apply below_drew1) | exact HB.out | exact Below.refl _ _)⟩⟩
         ·rw [if_neg c33] at H
          have c33b0 : (x7_2 == (t606.length : Int)) = false := beq_eq_false_iff_ne.mpr c33
          have c33b1 : (x7_2 != (t606.length : Int)) = true := bne_iff_ne.mpr c33
          (first | rw [c33b0] | (simp only [i64_w, i32_w]; rw [c33b0]) | skip)
          have H' := Aside0.mk H
          clear H
          obtain ⟨Ao39, co39, eo39⟩ := Kd.R_slice HO_6.out
          subst eo39
          go_wp2
          go_meet
          case rel => exact ⟨_, (true), (by first | rfl | (simp; done) | (simp [*]; done)), H', ⟨by have := HJ4.out; have := HK2.out; first | omega | exact Nat.le_refl _⟩, ⟨by (with_reducible repeat (first | apply Kd.R_alloc | apply Kd.R_drewN | apply Kd.R_drew)); exact HO_3.out⟩, ⟨by (with_reducible repeat (first | apply Kd.R_alloc | apply Kd.R_drewN | apply Kd.R_drew)); exact HO_6.out⟩, ⟨by repeat (first | (with_reducible first | exact HB.out | apply below_alloc | apply pw_below_drewN | apply below_drew1) | exact HB.out | exact Below.refl _ _)⟩⟩
        case rest =>
         clear HC32
         try clear c1
         try clear c2
         try clear c2b0
         try clear c2b1
         try clear p2
         try clear c3
         try clear p6
         try clear q6
         try clear hx6
         try clear c10
         try clear c11
         try clear c20
         try clear c21
         try clear c22
         try clear c26
         try clear c26b0
         try clear c28
         try clear c28b0
         try clear c29
         try clear c29b0
         try clear c30
         try clear c31
         try clear c31b0
         try clear c32
         try clear c33
         try clear c33b0
         try clear c33b1
         try clear hx618_0
         try clear hx618_1
         try clear hx619_0
         try clear hx619_1
         try clear p2
         try clear p6
         try clear p618
         try clear p619
         try clear q6
         try clear q618
         try clear q619
         obtain ⟨kq, x78_31, rfl, HA, HJ31, HO_3, HO_6, HB⟩ := hcut
         cases kq with
         | zero => exact absurd HA.out (by simp [laws_FnScoresBy.j3])
         | succ kj31 =>
          have H := HA.out
          clear HA
          simp only [laws_FnScoresBy.j3] at H
          by_cases c40 : x78_31 = true
          ·subst c40
           have H1 : (some false) = some r := by rw [if_pos rfl] at H; exact H
           clear H
           have H := H1
           clear H1
           obtain rfl := Option.some.inj H
           go_wp2
           go_ret
           exact ⟨by first | rfl | (simp [errW_none, errW_some] <;> rfl) | (simp [*, errW_none, errW_some] <;> rfl), by repeat (first | (with_reducible first | exact HB.out | apply below_alloc | apply pw_below_drewN | apply below_drew1) | exact HB.out | exact Below.refl _ _)⟩
          ·replace c40 := Bool.eq_false_iff.mpr c40
           subst c40
           have H1 : (if x7_2 = 0 then (some true) else ((impl_ScoresAt.f kj31 t601 x8_2 (wrap64 ((wrap64 (x8_2 + x7_2)) - 1))).bind fun t624 => ((laws_qxScores.f kj31 t624 t606).bind fun t627 => (some t627)))) = some r := by rw [if_neg (show ¬ (false = true) by decide)] at H; exact H
           clear H
           have H := H1
           clear H1
           by_cases c41 : x7_2 = 0
           ·rw [if_pos c41] at H
            have c41b0 : (x7_2 == 0) = true := beq_iff_eq.mpr c41
            have c41b1 : (x7_2 != 0) = false := bne_eq_false_iff_eq.mpr c41
            clear c41
            obtain rfl := Option.some.inj H
            go_wp2
            go_ret
            exact ⟨by first | rfl | (simp [errW_none, errW_some] <;> rfl) | (simp [*, errW_none, errW_some] <;> rfl), by repeat (first | (with_reducible first | exact HB.out | apply below_alloc | apply pw_below_drewN | apply below_drew1) | exact HB.out | exact Below.refl _ _)⟩
           ·rw [if_neg c41] at H
            have c41b0 : (x7_2 == 0) = false := beq_eq_false_iff_ne.mpr c41
            have c41b1 : (x7_2 != 0) = true := bne_iff_ne.mpr c41
            replace H := Option.bind_eq_some_iff.mp H
            obtain ⟨t624, A420, H⟩ := H
            replace H : ((laws_qxScores.f kj31 t624 t606).bind fun t627 => (some t627)) = some r := H
            have A42 := Aside0.mk A420
            clear A420
            replace H := Option.bind_eq_some_iff.mp H
            obtain ⟨t627, A430, H⟩ := H
            replace H : (some t627) = some r := H
            have A43 := Aside0.mk A430
            clear A430
            obtain rfl := Option.some.inj H
            go_wp2_with (first | (go_at_call 28; (with_reducible refine (impl_ScoresAt.calls kj31 _ _ t601 x8_2 (wrap64 ((wrap64 (x8_2 + x7_2)) - 1)) t624 _ ?side1 ?side2 A42.out).mono ?_); (case side1 => repeat (first | exact (Kd.R_reads' HO_3.out).2.2 | (with_reducible refine Kd.C_alloc ?_ _) | (with_reducible refine Kd.C_drewN ?_ _) | (with_reducible refine Kd.C_drew ?_))); (case side2 => exact (Kd.R_reads' HO_3.out).2.1); rintro e w44 ⟨v625, rfl, ho0, hb⟩; have n0_ := Aside0.mk (Kd.R_elder' (by (with_reducible repeat (first | apply Kd.R_alloc | apply Kd.R_drewN | apply Kd.R_drew)); exact HO_3.out) (Kd.R_base ho0) hb); have n1_ := Aside0.mk (Kd.R_elder' (by (with_reducible repeat (first | apply Kd.R_alloc | apply Kd.R_drewN | apply Kd.R_drew)); exact HO_6.out) (Kd.R_base ho0) hb); have n2_ := Aside0.mk (Kd.R_lower (Kd.R_new' (Kd.R_new' ho0 (Kd.R_lt (by (with_reducible repeat (first | apply Kd.R_alloc | apply Kd.R_drewN | apply Kd.R_drew)); exact HO_3.out))) (Kd.R_lt (by (with_reducible repeat (first | apply Kd.R_alloc | apply Kd.R_drewN | apply Kd.R_drew)); exact HO_6.out))) (below_size (by repeat (first | (with_reducible first | exact HB.out | apply below_alloc | apply pw_below_drewN | apply below_drew1) | exact HB.out | exact Below.refl _ _)))); have n3_ := Aside0.mk (below_step (by repeat (first | (with_reducible first | exact HB.out | apply below_alloc | apply pw_below_drewN | apply below_drew1) | exact HB.out | exact Below.refl _ _)) hb); clear HO_3; clear HO_6; clear HB; have HO_3 := n0_; have HO_6 := n1_; have HO626 := n2_; have HB := n3_; clear n0_ n1_ n2_ n3_; (try clear hb); (try clear hb2); (try clear hk); (try clear hi); (try clear ho0); obtain ⟨Ao45, co45, eo45⟩ := Kd.R_slice HO626.out; subst eo45; obtain ⟨Ao46, co46, eo46⟩ := Kd.R_slice HO_6.out; subst eo46) | (go_at_call 31; (with_reducible refine (laws_qxScores.calls kj31 _ _ t624 _ _ t606 t627 _ ?side1 ?side2 ?side3 ?side4 A43.out).mono ?_); (case side1 => repeat (first | exact (Kd.R_reads' HO626.out).2.2 | (with_reducible refine Kd.C_alloc ?_ _) | (with_reducible refine Kd.C_drewN ?_ _) | (with_reducible refine Kd.C_drew ?_))); (case side2 => exact (Kd.R_reads' HO626.out).2.1); (case side3 => repeat (first | exact (Kd.R_reads' HO_6.out).2.2 | (with_reducible refine Kd.C_alloc ?_ _) | (with_reducible refine Kd.C_drewN ?_ _) | (with_reducible refine Kd.C_drew ?_))); (case side4 => exact (Kd.R_reads' HO_6.out).2.1); rintro e w' ⟨rfl, ⟨nd, rfl⟩⟩))
            go_ret
            exact ⟨by first | rfl | (simp [errW_none, errW_some] <;> rfl) | (simp [*, errW_none, errW_some] <;> rfl), by repeat (first | (with_reducible first | exact HB.out | apply below_alloc | apply pw_below_drewN | apply below_drew1) | exact HB.out | exact Below.refl _ _)⟩
end Go.Proofs.Ytcpnekdhdmncfaa.P
namespace Go.Proofs.Ytcpnekdhdmncfaa.Q
open Go.RowKit Go.Proofs.YtcpnekdhdmncfaaW.PrintWords Go.Proofs.YtcpnekdhdmncfaaW.PrintLast
def Opens {α H : Type} (enc : TypeId × Value → H) (P : Program) (W : World) (t : TypeId) (d : Kd α) (ok : α → Prop) : Prop :=
  ∀ (fuel : Nat) (cs : List Value) (y : DataW H × List MemPlace), DataW.trod enc P W 0 (fun _ => true) true fuel t cs = some y → ∃ x : α, d.K W x cs ∧ ok x
section
variable {α β H : Type} {enc : TypeId × Value → H} {P : Program} {W : World} {t e : TypeId}
theorem Opens.int {k : IntKind} (ht : P.underlying t = some (.int k)) : Opens enc P W t (Kd.int k) (fun x => (Lit.int k x).wf = true) := by
  intro fuel cs y h
  obtain ⟨n, rfl, _, hn⟩ := DataW.trod_int ht h
  exact ⟨n, rfl, hn⟩
theorem Opens.string (ht : P.underlying t = some .string) : Opens enc P W t Kd.string (fun x => x.size ≤ maxLen) := by
  intro fuel cs y h
  obtain ⟨s, rfl, _, hs⟩ := DataW.trod_string ht h
  exact ⟨s, rfl, hs⟩
theorem cells_len {b : Nat} {a : Addr} {n : Nat} {cs : List Value} (h : W.cells? b a n = some cs) : cs.length = n := by
  unfold World.cells? at h
  split at h
  · simpa using mapM_some_length h
  · cases h
theorem cells_get {b : Nat} {a : Addr} {n : Nat} {cs : List Value} (h : W.cells? b a n = some cs) (i : Nat) (u : Value) (hu : cs[i]? = some u) : W.cell? (a.add i) = some u := by
  have hl := cells_len h
  have hi : i < n := by rw [← hl]; exact (List.getElem?_eq_some_iff.1 hu).1
  unfold World.cells? at h
  split at h
  · rw [← hu]; exact mapM_some_get h i i (by simp [hi])
  · cases h
theorem each_of {γ : Type} {Q : Nat → γ → Prop} (n : Nat) (h : ∀ i, i < n → ∃ x, Q i x) : ∃ l : List γ, l.length = n ∧ ∀ i x, l[i]? = some x → Q i x := by
  induction n with
  | zero => exact ⟨[], rfl, fun i x hx => by simp at hx⟩
  | succ n ih =>
    obtain ⟨l, hl, hq⟩ := ih (fun i hi => h i (by omega))
    obtain ⟨x, hx⟩ := h n (by omega)
    refine ⟨l ++ [x], by simp [hl], fun i y hy => ?_⟩
    rcases Nat.lt_or_ge i l.length with hi | hi
    · rw [List.getElem?_append_left hi] at hy
      exact hq i y hy
    · rw [List.getElem?_append_right hi] at hy
      have : i - l.length = 0 := by
        have := (List.getElem?_eq_some_iff.1 hy).1
        simp at this
        omega
      rw [this] at hy
      injection hy with hy
      obtain rfl : i = n := by omega
      exact hy ▸ hx
theorem Opens.slice {d : Kd α} {ok : α → Prop} (ht : P.underlying t = some (.slice e)) (hc : P.cellsOf e = d.sz) (h : Opens enc P W e d ok) :
    Opens enc P W t (Kd.slice e d) (fun xs => xs.length ≤ maxLen ∧ ∀ x ∈ xs, ok x) := by
  intro fuel cs y hy
  rcases DataW.trod_slice ht hy with ⟨rfl, _⟩ | ⟨a, len, cap, elems, rest, n, _, rfl, _, hb, hl, hm, hlen, hel, _, _⟩
  · exact ⟨[], ⟨none, 0, rfl, Nat.le_refl _, rfl, by simp, fun h => by simp at h⟩, by simp, by simp⟩
  · have each : ∀ i, i < len → ∃ x : α, (∃ c, c.length = d.sz ∧ d.K W x c ∧ ∀ j u, c[j]? = some u → W.cell? (a.add (i * d.sz + j)) = some u) ∧ ok x := by
      intro i hi
      have h1 := hel i hi
      rw [List.getElem?_eq_getElem (by omega)] at h1
      obtain ⟨c, h2, h3⟩ := Option.bind_eq_some_iff.1 h1
      obtain ⟨x, hK, hx⟩ := h _ _ _ h3
      rw [hc] at h2
      refine ⟨x, ⟨c, d.K_len hK, hK, fun j u hu => ?_⟩, hx⟩
      have h4 := cells_get h2 j u hu
      rwa [add_add] at h4
    obtain ⟨l, hll, hq⟩ := each_of len each
    subst hll
    refine ⟨l, ⟨some a, cap, rfl, hl, rfl, ?_, fun _ => ⟨a, rfl, fun j p hp => (hq j p hp).1⟩⟩, by omega, fun x hx => ?_⟩
    · unfold maxLen at hm; omega
    · obtain ⟨i, hi, rfl⟩ := List.getElem_of_mem hx
      exact (hq i _ (List.getElem?_eq_getElem hi)).2
theorem Opens.iso {d : Kd α} {ok : α → Prop} (f : β → α) (g : α → β) (hfg : ∀ a, f (g a) = a) (h : Opens enc P W t d ok) : Opens enc P W t (Kd.iso d f) (fun x => ok (f x)) := by
  intro fuel cs y hy
  obtain ⟨x, hK, hx⟩ := h _ _ _ hy
  exact ⟨g x, by show d.K W (f (g x)) cs; rw [hfg]; exact hK, by show ok (f (g x)); rw [hfg]; exact hx⟩
def OpensF {α H : Type} (enc : TypeId × Value → H) (P : Program) (W : World) (fs : List Field) (o : Nat) (d : Kd α) (ok : α → Prop) : Prop :=
  ∀ (n : Nat) (cs : List Value) (xs : List (DataW H × List MemPlace)), cs.length = o + d.sz → xs.length = fs.length →
    (∀ (i : Nat) (f : Field), fs[i]? = some f → DataW.trod enc P W 0 (fun _ => true) true n f.type ((cs.drop f.offset).take (P.cellsOf f.type)) = xs[i]?) → ∃ x : α, d.K W x (cs.drop o) ∧ ok x
theorem OpensF.one {d : Kd α} {ok : α → Prop} {f : Field} {o : Nat} (ho : f.offset = o) (hc : P.cellsOf f.type = d.sz) (h : Opens enc P W f.type d ok) : OpensF enc P W [f] o d ok := by
  intro n cs xs hl hx hf
  match xs, hx with
  | [x0], _ =>
    have h0 := hf 0 f rfl
    rw [ho, hc, List.take_of_length_le (by rw [List.length_drop]; omega)] at h0
    exact h n _ x0 (by simpa using h0)
theorem OpensF.cons {d : Kd α} {ok : α → Prop} {d' : Kd β} {ok' : β → Prop} {f : Field} {fs : List Field} {o : Nat} (ho : f.offset = o) (hc : P.cellsOf f.type = d.sz) (h : Opens enc P W f.type d ok)
    (hs : OpensF enc P W fs (o + d.sz) d' ok') : OpensF enc P W (f :: fs) o (Kd.pair d d') (fun x => ok x.1 ∧ ok' x.2) := by
  intro n cs xs hl hx hf
  have hsz : (Kd.pair d d').sz = d.sz + d'.sz := rfl
  match xs, hx with
  | x0 :: xs', hx =>
    have h0 := hf 0 f rfl
    rw [ho, hc] at h0
    obtain ⟨a, ha, oka⟩ := h n _ x0 (by simpa using h0)
    obtain ⟨b, hb, okb⟩ := hs n cs xs' (by omega) (by simpa using hx) (fun i g hg => by simpa using hf (i + 1) g (by simpa using hg))
    refine ⟨(a, b), ⟨(cs.drop o).take d.sz, cs.drop (o + d.sz), ?_, ha, hb⟩, oka, okb⟩
    rw [← List.drop_drop, List.take_append_drop]
theorem Opens.struct {d : Kd α} {ok : α → Prop} {fs : Array Field} (ht : P.underlying t = some (.struct fs)) (hc : P.cellsOf t = d.sz) (h : OpensF enc P W fs.toList 0 d ok) : Opens enc P W t d ok := by
  intro fuel cs y hy
  obtain ⟨xs, n, _, _, hl, hx, hf⟩ := DataW.trod_struct ht hy
  have := h n cs xs (by omega) (by simpa using hx) (fun i f hf' => hf i f (by simpa using hf'))
  simpa using this
end
end Go.Proofs.Ytcpnekdhdmncfaa.Q
namespace Go.Proofs.Ytcpnekdhdmncfaa.Q
open Go.RowKit Go.Proofs.YtcpnekdhdmncfaaW.PrintWords Go.Proofs.YtcpnekdhdmncfaaW.PrintLast
theorem pos {α : Type} {c : Prop} [Decidable c] {t e : Nat → Option α} {r : α} (h : c) (x : Ev t r) : Ev (fun k => if c then t k else e k) r := by
  obtain ⟨K, hK⟩ := x
  exact ⟨K, fun k hk => (if_pos h).trans (hK k hk)⟩
theorem neg {α : Type} {c : Prop} [Decidable c] {t e : Nat → Option α} {r : α} (h : ¬ c) (x : Ev e r) : Ev (fun k => if c then t k else e k) r := by
  obtain ⟨K, hK⟩ := x
  exact ⟨K, fun k hk => (if_neg h).trans (hK k hk)⟩
theorem both {α : Type} {c : Prop} [Decidable c] {t e : Nat → Option α} {r : α} (x : c → Ev t r) (y : ¬ c → Ev e r) : Ev (fun k => if c then t k else e k) r := by
  by_cases h : c
  · exact pos h (x h)
  · exact neg h (y h)
theorem ret {α : Type} (r : α) : Ev (fun _ => some r) r := Ev.now r
theorem ret' {α : Type} {r q : α} (h : r = q) : Ev (fun _ => some r) q := h ▸ Ev.now r
theorem val {α : Type} {g : Option α} {r : α} (h : g = some r) : Ev (fun _ => g) r := ⟨0, fun _ _ => h⟩
theorem of_eq {α : Type} {g : Nat → Option α} {r q : α} (h : Ev g r) (e : r = q) : Ev g q := e ▸ h
theorem exists_of {α : Type} {g : Nat → Option α} {r : α} (h : Ev g r) : ∃ k, g k = some r := by
  obtain ⟨K, hK⟩ := h
  exact ⟨K, hK K (Nat.le_refl _)⟩
theorem wrap_id {x : Int} (h1 : -9223372036854775808 ≤ x) (h2 : x ≤ 9223372036854775807) : wrap64 x = x := by
  unfold wrap64
  omega
theorem rdOf_lt {α : Type} (d : α) (l : List α) (i : Nat) (h : i < l.length) : rdOf d l (i : Int) = l[i] := by
  simp [rdOf, List.getD_eq_getElem?_getD, h]
theorem toList_inj {a b : ByteArray} (h : a.toList = b.toList) : a = b := by
  rw [ByteArray.toList_eq, ByteArray.toList_eq] at h
  cases a with
  | mk x => cases b with
    | mk y =>
      congr
      exact Array.toList_inj.1 h
end Go.Proofs.Ytcpnekdhdmncfaa.Q
namespace Go.Proofs.Ytcpnekdhdmncfaa.Q
open Go.RowKit Go.Proofs.YtcpnekdhdmncfaaW.PrintWords Go.Proofs.YtcpnekdhdmncfaaW.PrintLast Go.Proofs.Ytcpnekdhdmncfaa.P
abbrev Score := S40
instance : DecidableEq Score := fun a b => decidable_of_iff (a.f0 = b.f0 ∧ a.f1 = b.f1) ⟨fun h => by cases a; cases b; simp at h; simp [h], fun h => by rw [h]; exact ⟨rfl, rfl⟩⟩
theorem rdScore_lt (l : List Score) (i : Nat) (h : i < l.length) : rd_T40 l (i : Int) = l[i] := by
  simp [rd_T40, List.getD_eq_getElem?_getD, h]
end Go.Proofs.Ytcpnekdhdmncfaa.Q
namespace Go.Proofs.Ytcpnekdhdmncfaa.Q
open Go.RowKit Go.Proofs.YtcpnekdhdmncfaaW.PrintWords Go.Proofs.YtcpnekdhdmncfaaW.PrintLast
theorem bl_irrefl (a : List UInt8) : Op.bytesLess a a = false := by
  induction a with
  | nil => rfl
  | cons x r ih => simp [Op.bytesLess, ih]
theorem bl_trans (a : List UInt8) : ∀ (b c : List UInt8), Op.bytesLess a b = true → Op.bytesLess b c = true → Op.bytesLess a c = true := by
  induction a with
  | nil =>
    intro b c h1 h2
    cases c with
    | nil => cases b <;> simp [Op.bytesLess] at h2
    | cons z c => rfl
  | cons x a ih =>
    intro b c h1 h2
    cases b with
    | nil => simp [Op.bytesLess] at h1
    | cons y b =>
      cases c with
      | nil => simp [Op.bytesLess] at h2
      | cons z c =>
        simp only [Op.bytesLess, Bool.or_eq_true, Bool.and_eq_true, decide_eq_true_eq, beq_iff_eq] at h1 h2 ⊢
        rcases h1 with h1 | ⟨rfl, h1⟩
        · rcases h2 with h2 | ⟨rfl, h2⟩
          · exact .inl (UInt8.lt_trans h1 h2)
          · exact .inl h1
        · rcases h2 with h2 | ⟨rfl, h2⟩
          · exact .inl h2
          · exact .inr ⟨rfl, ih b c h1 h2⟩
theorem bl_tri (a : List UInt8) : ∀ (b : List UInt8), Op.bytesLess a b = true ∨ a = b ∨ Op.bytesLess b a = true := by
  induction a with
  | nil =>
    intro b
    cases b with
    | nil => exact .inr (.inl rfl)
    | cons y b => exact .inl rfl
  | cons x a ih =>
    intro b
    cases b with
    | nil => exact .inr (.inr rfl)
    | cons y b =>
      simp only [Op.bytesLess, Bool.or_eq_true, Bool.and_eq_true, decide_eq_true_eq, beq_iff_eq]
      by_cases h : x < y
      · exact .inl (.inl h)
      · by_cases h' : y < x
        · exact .inr (.inr (.inl h'))
        · obtain rfl : x = y := UInt8.le_antisymm (UInt8.not_lt.1 h') (UInt8.not_lt.1 h)
          rcases ih b with h | rfl | h
          · exact .inl (.inr ⟨rfl, h⟩)
          · exact .inr (.inl rfl)
          · exact .inr (.inr (.inr ⟨rfl, h⟩))
def lt (a b : ByteArray) : Bool := Op.bytesLess a.toList b.toList
theorem lt_irrefl (a : ByteArray) : lt a a = false := bl_irrefl _
theorem lt_trans {a b c : ByteArray} (h : lt a b = true) (h' : lt b c = true) : lt a c = true := bl_trans _ _ _ h h'
theorem lt_tri (a b : ByteArray) : lt a b = true ∨ a = b ∨ lt b a = true := by
  rcases bl_tri a.toList b.toList with h | h | h
  · exact .inl h
  · exact .inr (.inl (toList_inj h))
  · exact .inr (.inr h)
end Go.Proofs.Ytcpnekdhdmncfaa.Q
namespace Go.Proofs.Ytcpnekdhdmncfaa.Q
open Go.RowKit Go.Proofs.YtcpnekdhdmncfaaW.PrintWords Go.Proofs.YtcpnekdhdmncfaaW.PrintLast Go.Proofs.Ytcpnekdhdmncfaa.P
def inB (n low high : Int) : Bool := decide (low ≤ n) && decide (n ≤ high)
def placeB (n : Int) : Bool := inB n (-1000000000) 1000000000
theorem inB_iff {n low high : Int} : inB n low high = true ↔ low ≤ n ∧ n ≤ high := by simp [inB]
theorem l1In_eq (n low high : Int) : spec_l1In.f n low high = some (inB n low high) := by
  unfold spec_l1In.f inB
  by_cases h : low ≤ n
  · rw [if_pos (show n ≥ low from h)]; simp [h]
  · rw [if_neg (show ¬ n ≥ low from h)]; simp [h]
theorem within_eq (n low high : Int) : impl_within.f n low high = some (inB n low high) := by
  unfold impl_within.f inB
  by_cases h : low ≤ n
  · rw [if_pos (show n ≥ low from h)]; simp [h]
  · rw [if_neg (show ¬ n ≥ low from h)]; simp [h]
theorem position_eq (n : Int) : impl_position.f n = some (placeB n) := by
  unfold impl_position.f
  rw [within_eq]
  rfl
theorem l1In_ev (n low high : Int) : Ev (fun _ => spec_l1In.f n low high) (inB n low high) := val (l1In_eq n low high)
theorem within_ev (n low high : Int) : Ev (fun _ => impl_within.f n low high) (inB n low high) := val (within_eq n low high)
theorem position_ev (n : Int) : Ev (fun _ => impl_position.f n) (placeB n) := val (position_eq n)
theorem place_bd {n : Int} (h : placeB n = true) : -1000000000 ≤ n ∧ n ≤ 1000000000 := inB_iff.1 h
end Go.Proofs.Ytcpnekdhdmncfaa.Q
namespace Go.Proofs.Ytcpnekdhdmncfaa.Q
open Go.RowKit Go.Proofs.YtcpnekdhdmncfaaW.PrintWords Go.Proofs.YtcpnekdhdmncfaaW.PrintLast Go.Proofs.Ytcpnekdhdmncfaa.P
def ahd (a b : Score) : Bool := decide (a.f1 < b.f1) || (decide (a.f1 = b.f1) && lt a.f0 b.f0)
theorem l3Ahead_eq (a b : Score) : spec_l3Ahead.f a.f0 a.f1 b.f0 b.f1 = some (ahd a b) := by
  unfold spec_l3Ahead.f ahd
  by_cases h : a.f1 < b.f1
  · rw [if_pos h]; simp [h]
  · rw [if_neg h]
    by_cases h' : a.f1 = b.f1
    · rw [if_pos h']; simp [h', lt]
    · rw [if_neg h']; simp [h, h']
theorem Compare_int_eq (a b : Int) : cmp_Compare_int.f a b = some (if a < b then -1 else if a > b then 1 else 0) := by
  unfold cmp_Compare_int.f cmp_isNaN_int.f
  simp
  split
  · rfl
  · split <;> rfl
theorem Compare_string_eq (a b : ByteArray) : cmp_Compare_string.f a b = some (if lt a b = true then -1 else if lt b a = true then 1 else 0) := by
  unfold cmp_Compare_string.f cmp_isNaN_string.f lt
  simp
  split
  · rfl
  · split <;> rfl
theorem Or_ev (a b : Int) : Ev (fun k => cmp_Or_int.f k [a, b]) (if a = 0 then b else a) := by
  unfold cmp_Or_int.f
  refine Ev.step (g := fun k => cmp_Or_int.l0 k _ _ _ _) (fun k => by rw [cmp_Or_int.l0]) (pos (by simp) (pos (by omega) (pos (by simp) ?_)))
  rw [show rd [a, b] 0 = a by rfl]
  refine both (fun h => ?_) (fun h => ret' (if_neg h).symm)
  rw [if_pos h, show wrap64 (0 + 1) = 1 by unfold wrap64; decide]
  refine Ev.step (g := fun k => cmp_Or_int.l0 k _ _ _ _) (fun k => by rw [cmp_Or_int.l0]) (pos (by simp) (pos (by omega) (pos (by simp) ?_)))
  rw [show rd [a, b] 1 = b by rfl, show wrap64 (1 + 1) = 2 by unfold wrap64; decide]
  refine both (fun h' => ?_) (fun h' => ret _)
  exact Ev.step (g := fun k => cmp_Or_int.l0 k _ _ _ _) (fun k => by rw [cmp_Or_int.l0]) (neg (by simp) (ret' h'.symm))
def ordM (a b : Score) : Int := if a.f1 < b.f1 then -1 else if a.f1 > b.f1 then 1 else if lt a.f0 b.f0 = true then -1 else if lt b.f0 a.f0 = true then 1 else 0
theorem scoreOrder_ev (a b : Score) : Ev (fun k => impl_scoreOrder.f k a.f0 a.f1 b.f0 b.f1) (ordM a b) := by
  unfold impl_scoreOrder.f
  refine Ev.bind (val (Compare_int_eq _ _)) (Ev.bind (val (Compare_string_eq _ _)) (Ev.bind (Or_ev _ _) (ret' ?_)))
  unfold ordM
  by_cases h : a.f1 < b.f1
  · simp [h]
  · by_cases h' : a.f1 > b.f1
    · simp [h, h']
    · simp [h, h']
theorem ordM_ahd (a b : Score) : ordM a b ≥ 0 ↔ ahd a b = false := by
  unfold ordM ahd
  by_cases h : a.f1 < b.f1
  · simp [h]
  · by_cases h' : a.f1 > b.f1
    · have : ¬ a.f1 = b.f1 := by omega
      simp [h, h', this]
    · have : a.f1 = b.f1 := by omega
      cases hl : lt a.f0 b.f0 with
      | true => simp [this]
      | false => simp [this]; split <;> decide
def fresh (l : List Score) (i : Nat) : Bool := (List.range i).all (fun k => !decide ((rd_T40 l (k : Int)).f0 = (rd_T40 l (i : Int)).f0))
def sOk (l : List Score) (i : Nat) : Bool :=
  decide ((rd_T40 l (i : Int)).f0.size ≤ 40) && (placeB (rd_T40 l (i : Int)).f1 && ((decide (i = 0) || ahd (rd_T40 l ((i - 1 : Nat) : Int)) (rd_T40 l (i : Int))) && fresh l i))
theorem sOk_eq {l : List Score} {i : Nat} (h40 : (rd_T40 l (i : Int)).f0.size ≤ 40) (hp : placeB (rd_T40 l (i : Int)).f1 = true) (ha : i = 0 ∨ ahd (rd_T40 l ((i - 1 : Nat) : Int)) (rd_T40 l (i : Int)) = true) : sOk l i = fresh l i := by
  unfold sOk
  rw [decide_eq_true h40, hp, Bool.true_and, Bool.true_and]
  rcases ha with ha | ha
  · rw [decide_eq_true ha, Bool.true_or, Bool.true_and]
  · rw [ha, Bool.or_true, Bool.true_and]
theorem sOk_no {l : List Score} {i : Nat} (h : ¬ (rd_T40 l (i : Int)).f0.size ≤ 40 ∨ placeB (rd_T40 l (i : Int)).f1 = false ∨ (¬ i = 0 ∧ ahd (rd_T40 l ((i - 1 : Nat) : Int)) (rd_T40 l (i : Int)) = false) ∨ fresh l i = false) : sOk l i = false := by
  unfold sOk
  rcases h with h | h | ⟨h, h'⟩ | h
  · rw [decide_eq_false h, Bool.false_and]
  · rw [h, Bool.false_and, Bool.and_false]
  · rw [decide_eq_false h, h', Bool.false_or, Bool.false_and, Bool.and_false, Bool.and_false]
  · rw [h, Bool.and_false, Bool.and_false, Bool.and_false]
def scoresB (l : List Score) : Bool := (List.range' 0 l.length).all (sOk l) && decide ((l.length : Int) ≤ 16)
theorem spec_ScoresOk_l1 (l : List Score) (hl : l.length ≤ maxLen) (i : Nat) (hi : i < l.length) (r : Bool) (hr : Ev (fun k => spec_ScoresOk.l0 k l (wrap64 ((i : Int) + 1))) r) (d : Nat) : ∀ (j : Nat), j + d = i →
    Ev (fun k => spec_ScoresOk.l1 k l (i : Int) (j : Int)) ((List.range' j d).all (fun k => !decide ((rd_T40 l (k : Int)).f0 = (rd_T40 l (i : Int)).f0)) && r) := by
  unfold maxLen at hl
  induction d with
  | zero =>
    intro j hj
    refine Ev.step (g := fun k => spec_ScoresOk.l1 k _ _ _) (fun k => by rw [spec_ScoresOk.l1]) (neg (by omega) ?_)
    simpa using hr
  | succ d ih =>
    intro j hj
    refine Ev.step (g := fun k => spec_ScoresOk.l1 k _ _ _) (fun k => by rw [spec_ScoresOk.l1]) (pos (by omega) (pos (by omega) (pos (by omega) (pos (by omega) (pos (by omega) ?_)))))
    rw [wrap_id (x := (j : Int) + 1) (by omega) (by omega), List.range'_succ, List.all_cons]
    refine both (fun h => ret' ?_) (fun h => ?_)
    · simp [toList_inj h]
    · have : ¬ (rd_T40 l (j : Int)).f0 = (rd_T40 l (i : Int)).f0 := fun e => h (by rw [e])
      refine of_eq (ih (j + 1) (by omega)) ?_
      simp [this]
theorem spec_ScoresOk_l0 (l : List Score) (hl : l.length ≤ maxLen) (d : Nat) : ∀ (i : Nat), i + d = l.length → Ev (fun k => spec_ScoresOk.l0 k l (i : Int)) ((List.range' i d).all (sOk l) && decide ((l.length : Int) ≤ 16)) := by
  have hl' := hl
  unfold maxLen at hl'
  induction d with
  | zero =>
    intro i hi
    refine Ev.step (g := fun k => spec_ScoresOk.l0 k _ _) (fun k => by rw [spec_ScoresOk.l0]) (neg (by omega) (ret' ?_))
    simp
  | succ d ih =>
    intro i hi
    have hw : wrap64 ((i : Int) + 1) = ((i + 1 : Nat) : Int) := by rw [wrap_id (by omega) (by omega)]; omega
    have ih' := ih (i + 1) (by omega)
    have hin := spec_ScoresOk_l1 l hl i (by omega) _ (by rw [hw]; exact ih') i 0 (by omega)
    rw [← List.range_eq_range'] at hin
    refine Ev.step (g := fun k => spec_ScoresOk.l0 k _ _) (fun k => by rw [spec_ScoresOk.l0]) (pos (by omega) (pos (by omega) ?_))
    rw [List.range'_succ, List.all_cons]
    refine both (fun h => ?_) (fun h => ?_)
    · refine Ev.step (g := fun k => spec_ScoresOk.j1 k _ _ _) (fun k => by rw [spec_ScoresOk.j1]) ?_
      exact pos rfl (ret' (by rw [sOk_no (.inl (by omega))]; rfl))
    · have h40 : (rd_T40 l (i : Int)).f0.size ≤ 40 := by omega
      refine Ev.bind (l1In_ev _ _ _) ?_
      rw [show inB (rd_T40 l (i : Int)).f1 (-1000000000) 1000000000 = placeB (rd_T40 l (i : Int)).f1 from rfl]
      cases hp : placeB (rd_T40 l (i : Int)).f1 with
      | false =>
        refine neg (by decide) ?_
        refine Ev.step (g := fun k => spec_ScoresOk.j1 k _ _ _) (fun k => by rw [spec_ScoresOk.j1]) ?_
        exact pos rfl (ret' (by rw [sOk_no (.inr (.inl hp))]; rfl))
      | true =>
        refine pos rfl ?_
        by_cases h0 : i = 0
        · refine neg (by omega) ?_
          refine Ev.step (g := fun k => spec_ScoresOk.j1 k _ _ _) (fun k => by rw [spec_ScoresOk.j1]) ?_
          exact neg (by decide) (of_eq hin (by rw [sOk_eq h40 hp (.inl h0), Bool.and_assoc]; rfl))
        · refine pos (by omega) ?_
          rw [show wrap64 ((i : Int) - 1) = ((i - 1 : Nat) : Int) by rw [wrap_id (by omega) (by omega)]; omega]
          refine pos (by omega) (pos (by omega) (Ev.bind (val (l3Ahead_eq _ _)) ?_))
          cases ha : ahd (rd_T40 l ((i - 1 : Nat) : Int)) (rd_T40 l (i : Int)) with
          | false =>
            refine Ev.step (g := fun k => spec_ScoresOk.j1 k _ _ _) (fun k => by rw [spec_ScoresOk.j1]) ?_
            exact pos rfl (ret' (by rw [sOk_no (.inr (.inr (.inl ⟨h0, ha⟩)))]; rfl))
          | true =>
            refine Ev.step (g := fun k => spec_ScoresOk.j1 k _ _ _) (fun k => by rw [spec_ScoresOk.j1]) ?_
            exact neg (by decide) (of_eq hin (by rw [sOk_eq h40 hp (.inr ha), Bool.and_assoc]; rfl))
theorem spec_ScoresOk_ev (l : List Score) (hl : l.length ≤ maxLen) : Ev (fun k => spec_ScoresOk.f k l) (scoresB l) := spec_ScoresOk_l0 l hl l.length 0 (by omega)
theorem from_ge (t : ByteArray) (r : List Score) : ∀ o : Nat, impl_scoreAt.from t r o = -1 ∨ (o : Int) ≤ impl_scoreAt.from t r o ∧ impl_scoreAt.from t r o < o + r.length := by
  induction r with
  | nil => intro o; exact .inl rfl
  | cons x r ih =>
    intro o
    rw [impl_scoreAt.from]
    by_cases h : x.f0.toList = t.toList
    · rw [if_pos h]; right; simp; omega
    · rw [if_neg h]
      rcases ih (o + 1) with h | h
      · exact .inl h
      · right; simp; omega
theorem from_iff (t : ByteArray) (r : List Score) : ∀ (o j : Nat), impl_scoreAt.from t r o = ((o + j : Nat) : Int) ↔ ∃ h : j < r.length, r[j].f0 = t ∧ ∀ k (hk : k < j), (r[k]'(by omega)).f0 ≠ t := by
  induction r with
  | nil =>
    intro o j
    refine ⟨fun h => ?_, fun ⟨h, _⟩ => ?_⟩
    · have : (-1 : Int) = ((o + j : Nat) : Int) := h
      omega
    · simp at h
  | cons x r ih =>
    intro o j
    rw [impl_scoreAt.from]
    by_cases h : x.f0.toList = t.toList
    · rw [if_pos h]
      refine ⟨fun e => ?_, fun ⟨h1, h2, h3⟩ => ?_⟩
      · obtain rfl : j = 0 := by omega
        exact ⟨by simp, toList_inj h, fun k hk => by omega⟩
      · cases j with
        | zero => rfl
        | succ j => exact absurd (toList_inj h) (h3 0 (by omega))
    · rw [if_neg h]
      cases j with
      | zero =>
        refine ⟨fun e => ?_, fun ⟨h1, h2, h3⟩ => ?_⟩
        · rcases from_ge t r (o + 1) with q | q <;> omega
        · exact absurd (by rw [← h2]; rfl) h
      | succ j =>
        rw [show o + (j + 1) = (o + 1) + j by omega, ih (o + 1) j]
        refine ⟨fun ⟨h1, h2, h3⟩ => ⟨by simp; omega, h2, fun k hk => ?_⟩, fun ⟨h1, h2, h3⟩ => ⟨by simp at h1; omega, h2, fun k hk => h3 (k + 1) (by omega)⟩⟩
        cases k with
        | zero => exact fun e => h (by rw [← e]; rfl)
        | succ k => exact h3 k (by omega)
theorem from_fresh (l : List Score) (i : Nat) (hi : i < l.length) : decide (impl_scoreAt.from (rd_T40 l (i : Int)).f0 l 0 = (i : Int)) = fresh l i := by
  have := from_iff (rd_T40 l (i : Int)).f0 l 0 i
  rw [Nat.zero_add] at this
  rw [Bool.eq_iff_iff, decide_eq_true_iff, this]
  unfold fresh
  simp only [List.all_eq_true, List.mem_range, Bool.not_eq_true', decide_eq_false_iff_not]
  rw [rdScore_lt _ _ hi]
  refine ⟨fun ⟨_, _, h⟩ k hk => ?_, fun h => ⟨hi, rfl, fun k hk => ?_⟩⟩
  · rw [rdScore_lt _ _ (by omega)]; exact h k hk
  · have := h k hk
    rw [rdScore_lt _ _ (by omega)] at this
    exact this
theorem impl_ScoresOk_l0 (l : List Score) (hl : l.length ≤ maxLen) (d : Nat) : ∀ (i : Nat), i + d = l.length → Ev (fun k => impl_ScoresOk.l0 k l l (l.length : Int) (i : Int)) ((List.range' i d).all (sOk l) && decide ((l.length : Int) ≤ 16)) := by
  have hl' := hl
  unfold maxLen at hl'
  induction d with
  | zero =>
    intro i hi
    refine Ev.step (g := fun k => impl_ScoresOk.l0 k _ _ _ _) (fun k => by rw [impl_ScoresOk.l0]) (neg (by omega) (ret' ?_))
    simp
  | succ d ih =>
    intro i hi
    have ih' := ih (i + 1) (by omega)
    have hf := from_fresh l i (by omega)
    refine Ev.step (g := fun k => impl_ScoresOk.l0 k _ _ _ _) (fun k => by rw [impl_ScoresOk.l0]) (pos (by omega) (pos (by omega) (pos (by omega) ?_)))
    rw [List.range'_succ, List.all_cons, wrap_id (x := (i : Int) + 1) (by omega) (by omega)]
    refine both (fun h => ret' (by rw [sOk_no (.inl (by omega))]; rfl)) (fun h => ?_)
    · have h40 : (rd_T40 l (i : Int)).f0.size ≤ 40 := by omega
      refine Ev.bind (position_ev _) ?_
      cases hp : placeB (rd_T40 l (i : Int)).f1 with
      | false => exact neg (by decide) (ret' (by rw [sOk_no (.inr (.inl hp))]; rfl))
      | true =>
        refine pos rfl ?_
        by_cases h0 : i = 0
        · refine neg (by omega) (Ev.bind (val rfl) ?_)
          refine both (fun q => ?_) (fun q => ret' ?_)
          · rw [decide_eq_true q] at hf
            exact of_eq ih' (by rw [sOk_eq h40 hp (.inl h0), ← hf, Bool.true_and])
          · rw [decide_eq_false q] at hf
            rw [sOk_no (.inr (.inr (.inr hf.symm)))]; rfl
        · refine pos (by omega) ?_
          rw [show wrap64 ((i : Int) - 1) = ((i - 1 : Nat) : Int) by rw [wrap_id (by omega) (by omega)]; omega]
          refine pos (by omega) (pos (by omega) (Ev.bind (scoreOrder_ev _ _) ?_))
          refine both (fun q => ret' ?_) (fun q => ?_)
          · rw [sOk_no (.inr (.inr (.inl ⟨h0, (ordM_ahd _ _).1 q⟩)))]; rfl
          · have ha : ahd (rd_T40 l ((i - 1 : Nat) : Int)) (rd_T40 l (i : Int)) = true := by
              cases e : ahd (rd_T40 l ((i - 1 : Nat) : Int)) (rd_T40 l (i : Int)) with
              | true => rfl
              | false => exact absurd ((ordM_ahd _ _).2 e) q
            refine Ev.bind (val rfl) ?_
            refine both (fun q => ?_) (fun q => ret' ?_)
            · rw [decide_eq_true q] at hf
              exact of_eq ih' (by rw [sOk_eq h40 hp (.inr ha), ← hf, Bool.true_and])
            · rw [decide_eq_false q] at hf
              rw [sOk_no (.inr (.inr (.inr hf.symm)))]; rfl
theorem impl_ScoresOk_ev (l : List Score) (hl : l.length ≤ maxLen) : Ev (fun k => impl_ScoresOk.f k l) (scoresB l) := impl_ScoresOk_l0 l hl l.length 0 (by omega)
end Go.Proofs.Ytcpnekdhdmncfaa.Q
namespace Go.Proofs.Ytcpnekdhdmncfaa.Q
open Go.RowKit Go.Proofs.YtcpnekdhdmncfaaW.PrintWords Go.Proofs.YtcpnekdhdmncfaaW.PrintLast Go.Proofs.YtcpnekdhdmncfaaW.PrintMore Go.Proofs.Ytcpnekdhdmncfaa.P
def endsM (n : Nat) (a b : Int) : Int × Int :=
  let a1 := if a < 0 then a + n else a
  let b1 := if b < 0 then b + n else b
  let a2 := if a1 < 0 then 0 else a1
  let b2 := if b1 ≥ n then (n : Int) - 1 else b1
  if a2 > b2 then (0, 0) else (a2, b2 + 1)
theorem endsM_bd (n : Nat) (a b : Int) : 0 ≤ (endsM n a b).1 ∧ (endsM n a b).1 ≤ (endsM n a b).2 ∧ (endsM n a b).2 ≤ n := by
  unfold endsM
  dsimp only
  split <;> (try dsimp only) <;> (repeat' split) <;> omega
def spanM (n : Nat) (a b : Int) : Int × Int := if placeB a = true ∧ placeB b = true then endsM n a b else (0, 0)
theorem spanM_bd (n : Nat) (a b : Int) : 0 ≤ (spanM n a b).1 ∧ (spanM n a b).1 ≤ (spanM n a b).2 ∧ (spanM n a b).2 ≤ n := by
  unfold spanM
  split
  · exact endsM_bd n a b
  · exact ⟨Int.le_refl _, Int.le_refl _, by show (0 : Int) ≤ n; omega⟩
theorem span_ev (n : Nat) (hn : n ≤ 1048576) (a b : Int) : Ev (fun k => impl_span.f k (n : Int) a b) (spanM n a b) := by
  unfold impl_span.f spanM
  refine Ev.bind (position_ev a) ?_
  cases hp : placeB a with
  | false =>
    refine neg (by decide) ?_
    refine Ev.step (g := fun k => impl_span.j0 k _ _ _ _) (fun k => by rw [impl_span.j0]) ?_
    refine pos rfl (ret' ?_)
    rw [if_neg (by simp)]
  | true =>
    refine pos rfl (Ev.bind (position_ev b) ?_)
    cases hq : placeB b with
    | false =>
      refine Ev.step (g := fun k => impl_span.j0 k _ _ _ _) (fun k => by rw [impl_span.j0]) ?_
      refine pos rfl (ret' ?_)
      rw [if_neg (by simp)]
    | true =>
      have ha := place_bd hp
      have hb := place_bd hq
      have e1 : wrap64 (a + (n : Int)) = a + n := wrap_id (by omega) (by omega)
      have e2 : wrap64 (b + (n : Int)) = b + n := wrap_id (by omega) (by omega)
      have e3 : wrap64 ((n : Int) - 1) = n - 1 := wrap_id (by omega) (by omega)
      rw [if_pos ⟨rfl, rfl⟩]
      have last : ∀ x1 x2 : Int, -1000000000 ≤ x2 → x2 ≤ 1001048576 → Ev (fun _ => if (mx x1 0) > (mn x2 ((n : Int) - 1)) then (some ((0, 0) : Int × Int)) else (some (mx x1 0, wrap64 ((mn x2 ((n : Int) - 1)) + 1)))) (if (if x1 < 0 then 0 else x1) > (if x2 ≥ n then (n : Int) - 1 else x2) then ((0, 0) : Int × Int) else ((if x1 < 0 then 0 else x1), (if x2 ≥ n then (n : Int) - 1 else x2) + 1)) := by
        intro x1 x2 h2 h3
        have m1 : mx x1 0 = if x1 < 0 then 0 else x1 := by unfold mx; rfl
        have m2 : mn x2 ((n : Int) - 1) = if x2 ≥ n then (n : Int) - 1 else x2 := by
          unfold mn
          by_cases h : x2 ≥ n
          · rw [if_pos h, if_pos (by omega)]
          · rw [if_neg h, if_neg (by omega)]
        have m3 : wrap64 ((if x2 ≥ n then (n : Int) - 1 else x2) + 1) = (if x2 ≥ n then (n : Int) - 1 else x2) + 1 := by
          split
          · exact wrap_id (by omega) (by omega)
          · exact wrap_id (by omega) (by omega)
        rw [m1, m2, m3]
        exact both (fun h' => ret' (if_pos h').symm) (fun h' => ret' (if_neg h').symm)
      have j1 : ∀ x1 : Int, Ev (fun k => impl_span.j1 k (n : Int) x1 b) (if (if x1 < 0 then 0 else x1) > (if (if b < 0 then b + n else b) ≥ n then (n : Int) - 1 else (if b < 0 then b + n else b)) then ((0, 0) : Int × Int) else ((if x1 < 0 then 0 else x1), (if (if b < 0 then b + n else b) ≥ n then (n : Int) - 1 else (if b < 0 then b + n else b)) + 1)) := by
        intro x1
        refine Ev.step (g := fun k => impl_span.j1 k _ _ _) (fun k => by rw [impl_span.j1]) ?_
        rw [e2, e3]
        refine both (fun h => ?_) (fun h => ?_)
        · rw [if_pos h]; exact last x1 _ (by omega) (by omega)
        · rw [if_neg h]; exact last x1 _ (by omega) (by omega)
      refine Ev.step (g := fun k => impl_span.j0 k _ _ _ _) (fun k => by rw [impl_span.j0]) ?_
      refine neg (by decide) ?_
      unfold endsM
      rw [e1]
      refine both (fun h => ?_) (fun h => ?_)
      · rw [if_pos h]; exact j1 _
      · rw [if_neg h]; exact j1 _
end Go.Proofs.Ytcpnekdhdmncfaa.Q
namespace Go.Proofs.Ytcpnekdhdmncfaa.Q
open Go.RowKit Go.Proofs.YtcpnekdhdmncfaaW.PrintWords Go.Proofs.YtcpnekdhdmncfaaW.PrintLast Go.Proofs.YtcpnekdhdmncfaaW.PrintMore Go.Proofs.Ytcpnekdhdmncfaa.P
theorem scoresB_len {l : List Score} (h : scoresB l = true) : l.length ≤ 16 := by
  simp only [scoresB, Bool.and_eq_true, decide_eq_true_eq] at h
  omega
theorem scoresB_fresh {l : List Score} (h : scoresB l = true) (i : Nat) (hi : i < l.length) : fresh l i = true := by
  simp only [scoresB, Bool.and_eq_true, List.all_eq_true] at h
  have := h.1 i (by simp [List.mem_range'_1]; exact hi)
  unfold sOk at this
  simp only [Bool.and_eq_true] at this
  exact this.2.2.2
theorem scoresB_apart {l : List Score} (h : scoresB l = true) : l.Pairwise (fun a b => a.f0 ≠ b.f0) := by
  rw [List.pairwise_iff_getElem]
  intro i j hi hj hij
  have := scoresB_fresh h j hj
  unfold fresh at this
  simp only [List.all_eq_true, List.mem_range, Bool.not_eq_true', decide_eq_false_iff_not] at this
  have := this i hij
  rw [rdScore_lt _ _ hi, rdScore_lt _ _ hj] at this
  exact this
def byM (l : List Score) (a b : Int) : List Score := if scoresB l = true then l.filter (fun s => inB s.f1 a b) else []
theorem byM_len (l : List Score) (a b : Int) : (byM l a b).length ≤ l.length := by
  unfold byM
  split
  · exact List.length_filter_le _ _
  · simp
theorem filter_cons' (p : Score → Bool) (x : Score) (r : List Score) : (x :: r).filter p = if p x = true then x :: r.filter p else r.filter p := by
  by_cases h : p x = true <;> simp [h]
theorem spec_ScoresBy_l0 (l : List Score) (hl : l.length ≤ 1048576) (a b : Int) (d : Nat) : ∀ (i : Nat) (x : List Score), i + d = l.length → x.length ≤ i → Ev (fun k => spec_ScoresBy.l0 k l a b x (i : Int)) (if scoresB l = true then x ++ (l.drop i).filter (fun s => inB s.f1 a b) else x) := by
  induction d with
  | zero =>
    intro i x hi hx
    refine Ev.step (g := fun k => spec_ScoresBy.l0 k _ _ _ _ _) (fun k => by rw [spec_ScoresBy.l0]) (neg (by omega) ?_)
    refine Ev.step (g := fun k => spec_ScoresBy.j1 k _ _ _ _ _ _) (fun k => by rw [spec_ScoresBy.j1]) (neg (by decide) (ret' ?_))
    rw [List.drop_of_length_le (by omega)]
    simp
  | succ d ih =>
    intro i x hi hx
    have hlt : i < l.length := by omega
    refine Ev.step (g := fun k => spec_ScoresBy.l0 k _ _ _ _ _) (fun k => by rw [spec_ScoresBy.l0]) (pos (by omega) (Ev.bind (spec_ScoresOk_ev l (by unfold maxLen; omega)) ?_))
    refine Ev.step (g := fun k => spec_ScoresBy.j1 k _ _ _ _ _ _) (fun k => by rw [spec_ScoresBy.j1]) (both (fun h => ?_) (fun h => ?_))
    · rw [if_pos h]
      refine pos (by omega) (pos (by omega) (Ev.bind (l1In_ev _ _ _) ?_))
      rw [rdScore_lt _ _ hlt, List.drop_eq_getElem_cons hlt, wrap_id (by omega) (by omega), filter_cons']
      have ih0 := ih (i + 1) x (by omega) (by omega)
      have ih1 := ih (i + 1) (x ++ [l[i]]) (by omega) (by simp; omega)
      rw [if_pos h] at ih0 ih1
      refine both (fun q => ?_) (fun q => ?_)
      · rw [if_pos q]
        refine pos (by omega) (of_eq ih1 (by simp))
      · rw [if_neg q]
        exact ih0
    · rw [if_neg h]; exact ret _
theorem spec_ScoresBy_ev (l : List Score) (hl : l.length ≤ 1048576) (a b : Int) : Ev (fun k => spec_ScoresBy.f k l a b) (byM l a b) := by
  have := spec_ScoresBy_l0 l hl a b l.length 0 [] (by omega) (by simp)
  simpa [spec_ScoresBy.f, byM] using this
theorem impl_ScoresBy_l0 (l : List Score) (hl : l.length ≤ 1048576) (a b : Int) (d : Nat) : ∀ (i : Nat) (x : List Score), i + d = l.length → x.length ≤ i → Ev (fun k => impl_ScoresBy.l0 k a b x l (l.length : Int) (i : Int)) (x ++ (l.drop i).filter (fun s => inB s.f1 a b)) := by
  induction d with
  | zero =>
    intro i x hi hx
    refine Ev.step (g := fun k => impl_ScoresBy.l0 k _ _ _ _ _ _) (fun k => by rw [impl_ScoresBy.l0]) (neg (by omega) (ret' ?_))
    rw [List.drop_of_length_le (by omega)]
    simp
  | succ d ih =>
    intro i x hi hx
    have hlt : i < l.length := by omega
    refine Ev.step (g := fun k => impl_ScoresBy.l0 k _ _ _ _ _ _) (fun k => by rw [impl_ScoresBy.l0]) (pos (by omega) (pos (by omega) (pos (by omega) (Ev.bind (within_ev _ _ _) ?_))))
    rw [rdScore_lt _ _ hlt, List.drop_eq_getElem_cons hlt, wrap_id (by omega) (by omega), filter_cons']
    refine both (fun q => ?_) (fun q => ?_)
    · rw [if_pos q]
      exact pos (by omega) (of_eq (ih (i + 1) (x ++ [l[i]]) (by omega) (by simp; omega)) (by simp))
    · rw [if_neg q]
      exact ih (i + 1) x (by omega) (by omega)
theorem impl_ScoresBy_ev (l : List Score) (hl : l.length ≤ 1048576) (a b : Int) : Ev (fun k => impl_ScoresBy.f k l a b) (byM l a b) := by
  unfold impl_ScoresBy.f byM
  refine Ev.bind (ret _) (Ev.bind (impl_ScoresOk_ev l (by unfold maxLen; omega)) (both (fun h => ?_) (fun h => ?_)))
  · rw [if_pos h]
    have := impl_ScoresBy_l0 l hl a b l.length 0 [] (by omega) (by simp)
    simpa using this
  · rw [if_neg h]; exact ret _
def withoutM (l : List Score) (t : ByteArray) : List Score := l.filter (fun s => !decide (s.f0 = t))
theorem withoutM_cons (x : Score) (r : List Score) (t : ByteArray) : withoutM (x :: r) t = if x.f0 = t then withoutM r t else x :: withoutM r t := by
  unfold withoutM
  by_cases h : x.f0 = t <;> simp [h]
theorem l3Without_l0 (l : List Score) (hl : l.length ≤ 1048576) (t : ByteArray) (d : Nat) : ∀ (i : Nat) (x : List Score), i + d = l.length → x.length ≤ i → Ev (fun k => spec_l3Without.l0 k l t x (i : Int)) (x ++ withoutM (l.drop i) t) := by
  induction d with
  | zero =>
    intro i x hi hx
    refine Ev.step (g := fun k => spec_l3Without.l0 k _ _ _ _) (fun k => by rw [spec_l3Without.l0]) (neg (by omega) (ret' ?_))
    rw [List.drop_of_length_le (by omega)]
    simp [withoutM]
  | succ d ih =>
    intro i x hi hx
    have hlt : i < l.length := by omega
    refine Ev.step (g := fun k => spec_l3Without.l0 k _ _ _ _) (fun k => by rw [spec_l3Without.l0]) (pos (by omega) (pos (by omega) ?_))
    rw [rdScore_lt _ _ hlt, List.drop_eq_getElem_cons hlt, wrap_id (by omega) (by omega), withoutM_cons]
    refine both (fun q => ?_) (fun q => ?_)
    · rw [if_pos (toList_inj q)]
      exact ih (i + 1) x (by omega) (by omega)
    · rw [if_neg (fun e => q (by rw [e]))]
      exact pos (by omega) (of_eq (ih (i + 1) (x ++ [l[i]]) (by omega) (by simp; omega)) (by simp))
theorem l3Without_ev (l : List Score) (hl : l.length ≤ 1048576) (t : ByteArray) : Ev (fun k => spec_l3Without.f k l t) (withoutM l t) := by
  have := l3Without_l0 l hl t l.length 0 [] (by omega) (by simp)
  simpa [spec_l3Without.f] using this
theorem withoutM_len (l : List Score) (t : ByteArray) : (withoutM l t).length ≤ l.length := List.length_filter_le _ _
theorem withoutM_all {l : List Score} {t : ByteArray} (h : ∀ s ∈ l, s.f0 ≠ t) : withoutM l t = l := by
  unfold withoutM
  rw [List.filter_eq_self]
  intro s hs
  simp [h s hs]
theorem copiedScores_ev (l : List Score) (hl : l.length ≤ 1048576) : Ev (fun _ => impl_copiedScores.f l) l := by
  unfold impl_copiedScores.f
  refine Ev.bind (ret _) (pos ?_ (ret' rfl))
  simp; omega
def atsM (l : List Score) (a b : Int) : List Score := if scoresB l = true then (l.take (spanM l.length a b).2.toNat).drop (spanM l.length a b).1.toNat else []
theorem atsM_len (l : List Score) (a b : Int) : (atsM l a b).length ≤ l.length := by
  unfold atsM
  split
  · simp [List.length_take]; omega
  · simp
theorem impl_ScoresAt_ev (l : List Score) (hl : l.length ≤ 1048576) (a b : Int) : Ev (fun k => impl_ScoresAt.f k l a b) (atsM l a b) := by
  unfold impl_ScoresAt.f atsM
  refine Ev.bind (impl_ScoresOk_ev l (by unfold maxLen; omega)) (both (fun h => ?_) (fun h => ?_))
  · rw [if_pos h]
    refine Ev.bind (span_ev l.length (by omega) a b) ?_
    obtain ⟨b1, b2, b3⟩ := spanM_bd l.length a b
    exact pos b1 (pos b2 (pos b3 (Ev.bind (copiedScores_ev _ (by simp [List.length_take]; omega)) (ret _))))
  · rw [if_neg h]; exact ret _
end Go.Proofs.Ytcpnekdhdmncfaa.Q
namespace Go.Proofs.Ytcpnekdhdmncfaa.Q
open Go.RowKit Go.Proofs.YtcpnekdhdmncfaaW.PrintWords Go.Proofs.YtcpnekdhdmncfaaW.PrintLast Go.Proofs.Ytcpnekdhdmncfaa.P
theorem ahd_iff {a b : Score} : ahd a b = true ↔ a.f1 < b.f1 ∨ (a.f1 = b.f1 ∧ lt a.f0 b.f0 = true) := by simp [ahd]
theorem ahd_trans {a b c : Score} (h : ahd a b = true) (h' : ahd b c = true) : ahd a c = true := by
  rw [ahd_iff] at h h' ⊢
  rcases h with h | ⟨h, g⟩ <;> rcases h' with h' | ⟨h', g'⟩
  · left; omega
  · left; omega
  · left; omega
  · right; exact ⟨by omega, lt_trans g g'⟩
theorem ahd_total {a b : Score} (h : a.f0 ≠ b.f0) (h' : ¬ ahd a b = true) : ahd b a = true := by
  rw [ahd_iff] at h' ⊢
  rcases Int.lt_trichotomy a.f1 b.f1 with q | q | q
  · exact absurd (.inl q) h'
  · rcases lt_tri a.f0 b.f0 with w | w | w
    · exact absurd (.inr ⟨q, w⟩) h'
    · exact absurd w h
    · exact .inr ⟨q.symm, w⟩
  · exact .inl q
theorem scoresB_iff (l : List Score) : scoresB l = true ↔ (∀ x ∈ l, x.f0.size ≤ 40 ∧ placeB x.f1 = true) ∧ l.Pairwise (fun a b => ahd a b = true) ∧ l.Pairwise (fun a b => a.f0 ≠ b.f0) ∧ l.length ≤ 16 := by
  constructor
  · intro h
    have hf := scoresB_apart h
    have h16 := scoresB_len h
    have hs : ∀ i (hi : i < l.length), sOk l i = true := by
      intro i hi
      simp only [scoresB, Bool.and_eq_true, List.all_eq_true] at h
      exact h.1 i (by simp [List.mem_range'_1]; exact hi)
    have hadj : ∀ i (hi : i + 1 < l.length), ahd l[i] l[i + 1] = true := by
      intro i hi
      have := hs (i + 1) hi
      unfold sOk at this
      simp only [Bool.and_eq_true, Bool.or_eq_true, decide_eq_true_eq] at this
      obtain ⟨_, _, h3, _⟩ := this
      rcases h3 with h3 | h3
      · omega
      · rw [show i + 1 - 1 = i by omega, rdScore_lt _ _ (by omega), rdScore_lt _ _ hi] at h3
        exact h3
    refine ⟨fun x hx => ?_, ?_, hf, h16⟩
    · obtain ⟨i, hi, rfl⟩ := List.getElem_of_mem hx
      have := hs i hi
      unfold sOk at this
      simp only [Bool.and_eq_true, decide_eq_true_eq] at this
      rw [rdScore_lt _ _ hi] at this
      exact ⟨this.1, this.2.1⟩
    · rw [List.pairwise_iff_getElem]
      intro i j hi hj hij
      obtain ⟨d, rfl⟩ : ∃ d, j = i + 1 + d := ⟨j - (i + 1), by omega⟩
      clear hij
      induction d with
      | zero => exact hadj i hj
      | succ d ih => exact ahd_trans (ih (by omega)) (hadj (i + 1 + d) hj)
  · rintro ⟨h1, h2, h3, h4⟩
    simp only [scoresB, Bool.and_eq_true, List.all_eq_true, decide_eq_true_eq]
    refine ⟨fun i hi => ?_, by omega⟩
    have hi : i < l.length := by simpa [List.mem_range'_1] using hi
    obtain ⟨a, b⟩ := h1 _ (List.getElem_mem hi)
    rw [sOk_eq (by rw [rdScore_lt _ _ hi]; exact a) (by rw [rdScore_lt _ _ hi]; exact b)]
    · unfold fresh
      simp only [List.all_eq_true, List.mem_range, Bool.not_eq_true', decide_eq_false_iff_not]
      intro k hk
      rw [rdScore_lt _ _ (show k < l.length by omega), rdScore_lt _ _ hi]
      exact List.pairwise_iff_getElem.1 h3 k i (by omega) hi hk
    · by_cases h0 : i = 0
      · exact .inl h0
      · right
        rw [rdScore_lt _ _ (show i - 1 < l.length by omega), rdScore_lt _ _ hi]
        exact List.pairwise_iff_getElem.1 h2 (i - 1) i (by omega) hi (by omega)
def insM (s : Score) : List Score → List Score
  | [] => [s]
  | x :: r => if ahd x s = true then x :: insM s r else s :: x :: r
theorem insM_len (s : Score) (l : List Score) : (insM s l).length = l.length + 1 := by
  induction l with
  | nil => rfl
  | cons x r ih =>
    rw [insM]
    split
    · simp [ih]
    · rfl
theorem insM_mem (s : Score) (l : List Score) (x : Score) : x ∈ insM s l ↔ x = s ∨ x ∈ l := by
  induction l with
  | nil => simp [insM]
  | cons y r ih =>
    rw [insM]
    split
    · rw [List.mem_cons, ih, List.mem_cons]
      constructor
      · rintro (h | h | h)
        · exact .inr (.inl h)
        · exact .inl h
        · exact .inr (.inr h)
      · rintro (h | h | h)
        · exact .inr (.inl h)
        · exact .inl h
        · exact .inr (.inr h)
    · simp
theorem insM_asc (s : Score) (l : List Score) (h : l.Pairwise (fun a b => ahd a b = true)) (hs : ∀ x ∈ l, x.f0 ≠ s.f0) : (insM s l).Pairwise (fun a b => ahd a b = true) := by
  induction l with
  | nil => simp [insM]
  | cons x r ih =>
    obtain ⟨h1, h2⟩ := List.pairwise_cons.1 h
    rw [insM]
    by_cases hx : ahd x s = true
    · rw [if_pos hx, List.pairwise_cons]
      refine ⟨fun y hy => ?_, ih h2 (fun y hy => hs y (List.mem_cons_of_mem _ hy))⟩
      rcases (insM_mem s r y).1 hy with rfl | hy
      · exact hx
      · exact h1 y hy
    · rw [if_neg hx, List.pairwise_cons]
      have ht : ahd s x = true := ahd_total (hs x (by simp)) hx
      refine ⟨fun y hy => ?_, h⟩
      rcases List.mem_cons.1 hy with rfl | hy
      · exact ht
      · exact ahd_trans ht (h1 y hy)
theorem insM_apart (s : Score) (l : List Score) (h : l.Pairwise (fun a b => a.f0 ≠ b.f0)) (hs : ∀ x ∈ l, x.f0 ≠ s.f0) : (insM s l).Pairwise (fun a b => a.f0 ≠ b.f0) := by
  induction l with
  | nil => simp [insM]
  | cons x r ih =>
    obtain ⟨h1, h2⟩ := List.pairwise_cons.1 h
    rw [insM]
    by_cases hx : ahd x s = true
    · rw [if_pos hx, List.pairwise_cons]
      refine ⟨fun y hy => ?_, ih h2 (fun y hy => hs y (List.mem_cons_of_mem _ hy))⟩
      rcases (insM_mem s r y).1 hy with rfl | hy
      · exact hs x (by simp)
      · exact h1 y hy
    · rw [if_neg hx, List.pairwise_cons]
      refine ⟨fun y hy => ?_, h⟩
      rcases List.mem_cons.1 hy with rfl | hy
      · exact fun e => hs y (by simp) e.symm
      · exact fun e => hs y (List.mem_cons_of_mem _ hy) e.symm
theorem without_mem {l : List Score} {t : ByteArray} {x : Score} (h : x ∈ withoutM l t) : x ∈ l ∧ x.f0 ≠ t := by
  have := List.mem_filter.1 h
  exact ⟨this.1, by simpa using this.2⟩
def scoresPutM (l : List Score) (s : Score) : List Score × Bool × Bool :=
  if scoresB l = true then (if scoresB (insM s (withoutM l s.f0)) = true then (insM s (withoutM l s.f0), (((withoutM l s.f0).length : Int) == (l.length : Int)), true) else (l, false, false)) else ([], false, false)
theorem scoresPutM_len (l : List Score) (s : Score) : (scoresPutM l s).1.length ≤ l.length + 1 := by
  have := withoutM_len l s.f0
  unfold scoresPutM
  split
  · split
    · rw [insM_len]; omega
    · simp
  · simp
theorem scoresPutM_ok {l : List Score} (s : Score) (h : scoresB l = true) : scoresB (scoresPutM l s).1 = true := by
  unfold scoresPutM
  rw [if_pos h]
  split
  · assumption
  · exact h
theorem scoresPutM_mem {l : List Score} {s x : Score} (hx : x ∈ (scoresPutM l s).1) : x = s ∨ x ∈ l := by
  unfold scoresPutM at hx
  split at hx
  · split at hx
    · rcases (insM_mem _ _ _).1 hx with h | h
      · exact .inl h
      · exact .inr (without_mem h).1
    · exact .inr hx
  · simp at hx
theorem scoresPutM_new {l : List Score} {s : Score} (h : scoresB l = true) (hn : ∀ x ∈ l, x.f0 ≠ s.f0) (hl : l.length < 16) (hs : s.f0.size ≤ 40) (hp : placeB s.f1 = true) : (scoresPutM l s).1 = insM s l ∧ scoresB (insM s l) = true := by
  obtain ⟨h1, h2, h3, h4⟩ := (scoresB_iff l).1 h
  have hw : withoutM l s.f0 = l := withoutM_all hn
  have hok : scoresB (insM s l) = true := (scoresB_iff _).2 ⟨fun x hx => by
    rcases (insM_mem _ _ _).1 hx with rfl | hx
    · exact ⟨hs, hp⟩
    · exact h1 x hx, insM_asc s l h2 hn, insM_apart s l h3 hn, by rw [insM_len]; omega⟩
  refine ⟨?_, hok⟩
  unfold scoresPutM
  rw [if_pos h, hw, if_pos hok]
theorem spec_ScoresPut_l0 (l0 : List Score) (hl0 : l0.length ≤ 1048576) (l : List Score) (hl : l.length ≤ 1048576) (s : Score) (d : Nat) : ∀ (i : Nat), i + d = l.length →
    Ev (fun k => spec_ScoresPut.l0 k l0 l (i : Int) s.f0 s.f1) (if scoresB (l.take i ++ insM s (l.drop i)) = true then (l.take i ++ insM s (l.drop i), ((l.length : Int) == (l0.length : Int)), true) else (l0, false, false)) := by
  have last : ∀ (i : Nat) (o : List Score), i ≤ l.length → l.take i ++ [s] ++ l.drop i = o → Ev (fun k => (spec_ScoresOk.f k o).bind fun t434 => (if t434 = true then (some (o, ((l.length : Int) == (l0.length : Int)), true)) else ((some (([] : List Score) : List Score)).bind fun y435 => (if y435.length + l0.length < 5864062014805 then (some ((y435 ++ l0), false, false)) else (none))))) (if scoresB o = true then (o, ((l.length : Int) == (l0.length : Int)), true) else (l0, false, false)) := by
    intro i o hi e
    have hlen : o.length ≤ maxLen := by
      rw [← e]
      unfold maxLen
      simp
      omega
    refine Ev.bind (spec_ScoresOk_ev o hlen) (both (fun h => ?_) (fun h => ?_))
    · rw [if_pos h]; exact ret _
    · rw [if_neg h]
      exact Ev.bind (ret _) (pos (by simp; omega) (ret' (by simp)))
  induction d with
  | zero =>
    intro i hi
    refine Ev.step (g := fun k => spec_ScoresPut.l0 k _ _ _ _ _) (fun k => by rw [spec_ScoresPut.l0]) (neg (by omega) ?_)
    refine Ev.bind (ret _) (pos (by omega) (pos (by omega) (Ev.bind (ret _) ?_)))
    refine pos (by simp; omega) (Ev.bind (ret _) (Ev.bind (ret _) ?_))
    refine pos (by simp; omega) (Ev.bind (ret _) (Ev.bind (ret _) ?_))
    refine pos (by simp; omega) (Ev.bind (ret _) ?_)
    have e : l.take i ++ insM s (l.drop i) = [] ++ l.take (i : Int).toNat ++ [(⟨s.f0, s.f1⟩ : Score)] ++ l.drop (i : Int).toNat := by
      rw [Int.toNat_natCast, List.drop_of_length_le (by omega)]
      simp [insM]
    rw [e]
    refine last i _ (by omega) ?_
    rw [Int.toNat_natCast]
    rfl
  | succ d ih =>
    intro i hi
    have hlt : i < l.length := by omega
    have hd := List.drop_eq_getElem_cons hlt
    refine Ev.step (g := fun k => spec_ScoresPut.l0 k _ _ _ _ _) (fun k => by rw [spec_ScoresPut.l0]) (pos (by omega) (pos (by omega) ?_))
    refine Ev.bind (val (l3Ahead_eq _ s)) ?_
    rw [rdScore_lt _ _ hlt, wrap_id (x := (i : Int) + 1) (by omega) (by omega)]
    refine both (fun h => ?_) (fun h => ?_)
    · have e : l.take i ++ insM s (l.drop i) = l.take (i + 1) ++ insM s (l.drop (i + 1)) := by
        rw [hd, insM, if_pos h, List.take_succ_eq_append_getElem hlt, List.append_assoc, List.singleton_append]
      rw [e]
      exact ih (i + 1) (by omega)
    · refine Ev.bind (ret _) (pos (by omega) (Ev.bind (ret _) ?_))
      refine pos (by simp; omega) (Ev.bind (ret _) (Ev.bind (ret _) ?_))
      refine pos (by simp; omega) (Ev.bind (ret _) (Ev.bind (ret _) ?_))
      refine pos (by simp; omega) (Ev.bind (ret _) ?_)
      have e : l.take i ++ insM s (l.drop i) = [] ++ l.take (i : Int).toNat ++ [(⟨s.f0, s.f1⟩ : Score)] ++ l.drop (i : Int).toNat := by
        rw [Int.toNat_natCast, hd, insM, if_neg h]
        simp
      rw [e]
      refine last i _ (by omega) ?_
      rw [Int.toNat_natCast]
      rfl
theorem spec_ScoresPut_ev (l : List Score) (hl : l.length ≤ 1048576) (s : Score) : Ev (fun k => spec_ScoresPut.f k l s.f0 s.f1) (scoresPutM l s) := by
  unfold spec_ScoresPut.f scoresPutM
  refine Ev.bind (spec_ScoresOk_ev l (by unfold maxLen; omega)) (both (fun h => ?_) (fun h => ?_))
  · rw [if_pos h]
    have hw := withoutM_len l s.f0
    refine Ev.bind (l3Without_ev l hl s.f0) ?_
    have := spec_ScoresPut_l0 l hl (withoutM l s.f0) (by omega) s (withoutM l s.f0).length 0 (by omega)
    exact this
  · rw [if_neg h]; exact ret _
end Go.Proofs.Ytcpnekdhdmncfaa.Q
namespace Go.Proofs.Ytcpnekdhdmncfaa.Q
open Go.RowKit Go.Proofs.YtcpnekdhdmncfaaW.PrintWords Go.Proofs.YtcpnekdhdmncfaaW.PrintLast Go.Proofs.Ytcpnekdhdmncfaa.P
def Code (l : List Int) : Prop := l.length ≤ 2000 ∧ ∀ x ∈ l, 0 ≤ x ∧ x ≤ 255
theorem xor_nonneg (x y : Int) (hx : 0 ≤ x) (hx' : x < 9223372036854775808) (hy : 0 ≤ y) (hy' : y < 9223372036854775808) : 0 ≤ Go.bits .xor .i64 x y := by
  have h1 : (BitVec.ofInt 64 x) = BitVec.ofNat 64 x.toNat := by
    apply BitVec.eq_of_toNat_eq
    rw [BitVec.toNat_ofInt, BitVec.toNat_ofNat]
    omega
  have h2 : (BitVec.ofInt 64 y) = BitVec.ofNat 64 y.toNat := by
    apply BitVec.eq_of_toNat_eq
    rw [BitVec.toNat_ofInt, BitVec.toNat_ofNat]
    omega
  have h3 : (BitVec.ofNat 64 x.toNat ^^^ BitVec.ofNat 64 y.toNat).toNat < 2 ^ 63 := by
    rw [BitVec.toNat_xor, BitVec.toNat_ofNat, BitVec.toNat_ofNat, Nat.mod_eq_of_lt (by omega), Nat.mod_eq_of_lt (by omega)]
    exact Nat.xor_lt_two_pow (by omega) (by omega)
  show 0 ≤ IntKind.i64.wrap ((BitVec.ofInt 64 x ^^^ BitVec.ofInt 64 y).toNat : Int)
  rw [h1, h2]
  generalize (BitVec.ofNat 64 x.toNat ^^^ BitVec.ofNat 64 y.toNat).toNat = m at h3
  have h4 : IntKind.i64.wrap (m : Int) = wrap64 (m : Int) := i64_w _
  rw [h4, wrap_id (by omega) (by omega)]
  omega
theorem l1Open_ev (l : List Int) (hl : l.length ≤ maxLen) (hb : ∀ x ∈ l, (Lit.int .u8 x).wf = true) : ∃ c, Ev (fun _ => spec_l1Open.f l) (c, 0) ∧ Code c := by
  unfold maxLen at hl
  have hb' : ∀ x ∈ l, 0 ≤ x ∧ x ≤ 255 := by
    intro x hx
    have := hb x hx
    simp only [Lit.wf, Bool.and_eq_true, decide_eq_true_eq] at this
    exact this
  unfold spec_l1Open.f
  by_cases h : (l.length : Int) > 2000
  · refine ⟨l.take 2000, pos h (pos (by omega) (ret _)), by simp; omega, fun x hx => hb' x (List.mem_of_mem_take hx)⟩
  · exact ⟨l, neg h (ret _), by omega, hb'⟩
theorem rd_code {l : List Int} (hl : Code l) (i : Int) (h0 : 0 ≤ i) (h1 : i < l.length) : 0 ≤ rd l i ∧ rd l i ≤ 255 := by
  obtain ⟨n, rfl⟩ := Int.eq_ofNat_of_zero_le h0
  have hn : n < l.length := by omega
  have : rd l (n : Int) = l[n] := by simp [rd, List.getD_eq_getElem?_getD, hn]
  rw [this]
  exact hl.2 _ (List.getElem_mem hn)
theorem tmod_bd (a n : Int) (ha : 0 ≤ a) (hn : 0 < n) : 0 ≤ Int.tmod a n ∧ Int.tmod a n < n := ⟨Int.tmod_nonneg _ ha, Int.tmod_lt_of_pos _ hn⟩
theorem tdiv_bd (a n : Int) (ha : 0 ≤ a) (hn : 0 < n) : 0 ≤ Int.tdiv a n ∧ Int.tdiv a n ≤ a := by
  rw [Int.tdiv_eq_ediv_of_nonneg ha]
  exact ⟨Int.ediv_nonneg ha (by omega), Int.ediv_le_self _ ha⟩
theorem pick_ev (l : List Int) (hl : Code l) (p n : Int) (h0 : 0 ≤ p) (h1 : p ≤ 1000000000) (hn : 1 ≤ n) (hn' : n ≤ 4294967296) : ∃ v, Ev (fun k => spec_l1Rd_pick.f k l p n) (v, p + 1) ∧ 0 ≤ v ∧ v < n := by
  have hlen := hl.1
  have e1 : wrap64 (p + 1) = p + 1 := wrap_id (by omega) (by omega)
  have e2 : wrap64 (p + 1 - 1) = p := by rw [wrap_id (by omega) (by omega)]; omega
  unfold spec_l1Rd_pick.f
  rw [e1]
  by_cases hz : l.length = 0
  · have e : ((l.length : Int) == 0) = true := by simp [hz]
    refine ⟨0, neg (by omega) ?_, by omega, by omega⟩
    rw [e]
    refine Ev.step (g := fun k => spec_l1Rd_pick.j0 k _ _ _ _) (fun k => by rw [spec_l1Rd_pick.j0]) ?_
    exact pos rfl (ret _)
  · have e : ((l.length : Int) == 0) = false := by simp; exact fun h => hz (by simp [h])
    rw [e]
    by_cases hlt : p < l.length
    · obtain ⟨b0, b1⟩ := rd_code hl p h0 hlt
      have e3 : wrap64 (rd l p) = rd l p := wrap_id (by omega) (by omega)
      obtain ⟨c0, c1⟩ := tmod_bd (rd l p) n b0 (by omega)
      refine ⟨Int.tmod (rd l p) n, neg (by omega) ?_, c0, c1⟩
      refine Ev.step (g := fun k => spec_l1Rd_pick.j0 k _ _ _ _) (fun k => by rw [spec_l1Rd_pick.j0]) (neg (by decide) ?_)
      rw [e2, e3]
      exact pos hlt (pos h0 (neg (by omega) (ret _)))
    · have hpos : (0 : Int) < l.length := by omega
      obtain ⟨m0, m1⟩ := tmod_bd p l.length h0 hpos
      have e7 : wrap64 (p * 7) = p * 7 := wrap_id (by omega) (by omega)
      have e73 : wrap64 (p * 7 + 3) = p * 7 + 3 := wrap_id (by omega) (by omega)
      obtain ⟨q0, q1⟩ := tmod_bd (p * 7 + 3) l.length (by omega) hpos
      obtain ⟨d0, d1⟩ := tdiv_bd p l.length h0 hpos
      obtain ⟨b0, b1⟩ := rd_code hl _ m0 m1
      obtain ⟨b2, b3⟩ := rd_code hl _ q0 q1
      generalize hA : rd l (Int.tmod p (l.length : Int)) = A at b0 b1
      generalize hB : rd l (Int.tmod (p * 7 + 3) (l.length : Int)) = B at b2 b3
      generalize hD : Int.tdiv p (l.length : Int) = D at d0 d1
      have f1 : wrap64 A = A := wrap_id (by omega) (by omega)
      have f2 : wrap64 (A * 131) = A * 131 := wrap_id (by omega) (by omega)
      have f3 : wrap64 B = B := wrap_id (by omega) (by omega)
      have f4 : wrap64 (B * 1117) = B * 1117 := wrap_id (by omega) (by omega)
      have f5 : wrap64 (A * 131 + B * 1117) = A * 131 + B * 1117 := wrap_id (by omega) (by omega)
      have f6 : wrap64 (p * 29) = p * 29 := wrap_id (by omega) (by omega)
      have f7 : wrap64 (A * 131 + B * 1117 + p * 29) = A * 131 + B * 1117 + p * 29 := wrap_id (by omega) (by omega)
      have f8 : wrap64 D = D := wrap_id (by omega) (by omega)
      have f9 : wrap64 (D * 53) = D * 53 := wrap_id (by omega) (by omega)
      have f10 : wrap64 (A * 131 + B * 1117 + p * 29 + D * 53) = A * 131 + B * 1117 + p * 29 + D * 53 := wrap_id (by omega) (by omega)
      generalize hX : A * 131 + B * 1117 + p * 29 + D * 53 = X at f10
      have x0 : 0 ≤ X := by omega
      have x1 : X ≤ 1000000000000 := by omega
      obtain ⟨y0, y1⟩ := tdiv_bd X 64 x0 (by omega)
      have f11 : wrap64 (Int.tdiv X 64) = Int.tdiv X 64 := wrap_id (by omega) (by omega)
      have z0 := xor_nonneg X (Int.tdiv X 64) x0 (by omega) y0 (by omega)
      obtain ⟨c0, c1⟩ := tmod_bd _ n z0 (by omega)
      refine ⟨_, neg (by omega) ?_, c0, c1⟩
      refine Ev.step (g := fun k => spec_l1Rd_pick.j0 k _ _ _ _) (fun k => by rw [spec_l1Rd_pick.j0]) (neg (by decide) ?_)
      rw [e2, e7, e73, hA, hB, hD, f1, f2, f3, f4, f5, f6, f7, f8, f9, hX, f10, f11]
      exact neg hlt (neg (by omega) (pos m0 (pos m1 (pos q0 (pos q1 (neg (by omega) (ret _)))))))
theorem of_ev (l : List Int) (hl : Code l) (p : Int) (t : List ByteArray) (h0 : 0 ≤ p) (h1 : p ≤ 1000000000) (ht : 0 < t.length) (ht' : t.length ≤ 1000) : ∃ s, Ev (fun k => spec_l1Rd_of.f k l p t) (s, p + 1) ∧ s ∈ t := by
  obtain ⟨v, hv, v0, v1⟩ := pick_ev l hl p t.length h0 h1 (by omega) (by omega)
  obtain ⟨n, rfl⟩ := Int.eq_ofNat_of_zero_le v0
  have hn : n < t.length := by omega
  refine ⟨t[n], ?_, List.getElem_mem hn⟩
  unfold spec_l1Rd_of.f
  refine Ev.bind hv (pos v0 (pos v1 (ret' ?_)))
  rw [rdOf_lt _ _ _ hn]
end Go.Proofs.Ytcpnekdhdmncfaa.Q
namespace Go.Proofs.Ytcpnekdhdmncfaa.Q
open Go.RowKit Go.Proofs.YtcpnekdhdmncfaaW.PrintWords Go.Proofs.YtcpnekdhdmncfaaW.PrintLast Go.Proofs.Ytcpnekdhdmncfaa.P
theorem l1Many_l0 (d : Nat) : ∀ (n : Nat) (x y : ByteArray), n ≤ d → n ≤ 1000000 → y.size + x.size * n ≤ 1000000 → ∃ s, Ev (fun k => spec_l1Many.l0 k x (n : Int) y) s ∧ s.size = y.size + x.size * n := by
  induction d with
  | zero =>
    intro n x y hn _ h
    obtain rfl : n = 0 := by omega
    exact ⟨y, Ev.step (g := fun k => spec_l1Many.l0 k _ _ _) (fun k => by rw [spec_l1Many.l0]) (neg (by omega) (ret _)), by simp⟩
  | succ d ih =>
    intro n x y hn hb h
    by_cases h0 : n = 0
    · subst h0
      exact ⟨y, Ev.step (g := fun k => spec_l1Many.l0 k _ _ _) (fun k => by rw [spec_l1Many.l0]) (neg (by omega) (ret _)), by simp⟩
    · have e1 : Int.tmod (n : Int) 2 = (n : Int) % 2 := Int.tmod_eq_emod_of_nonneg (by omega)
      have e2 : Int.tdiv (n : Int) 2 = ((n / 2 : Nat) : Int) := by rw [Int.tdiv_eq_ediv_of_nonneg (by omega)]; omega
      have hx : x.size ≤ x.size * n := Nat.le_mul_of_pos_right _ (by omega)
      have sq : (x ++ x).size = x.size + x.size := ByteArray.size_append
      have hm : x.size * n = (x.size + x.size) * (n / 2) + x.size * (n % 2) := by
        have : n = 2 * (n / 2) + n % 2 := by omega
        conv => lhs; rw [this, Nat.mul_add, ← Nat.mul_assoc, Nat.mul_two]
      rcases (show n % 2 = 1 ∨ n % 2 = 0 by omega) with ho | ho
      · have sy : (y ++ x).size = y.size + x.size := ByteArray.size_append
        rw [ho, Nat.mul_one] at hm
        obtain ⟨s, hs, hz⟩ := ih (n / 2) (x ++ x) (y ++ x) (by omega) (by omega) (by rw [sq, sy]; omega)
        rw [sq, sy] at hz
        refine ⟨s, Ev.step (g := fun k => spec_l1Many.l0 k _ _ _) (fun k => by rw [spec_l1Many.l0]) (pos (by omega) ?_), by omega⟩
        rw [e1, e2, wrap_id (by omega) (by omega)]
        exact pos (by omega) (pos (by omega) (pos (by omega) hs))
      · rw [ho, Nat.mul_zero, Nat.add_zero] at hm
        obtain ⟨s, hs, hz⟩ := ih (n / 2) (x ++ x) y (by omega) (by omega) (by rw [sq]; omega)
        rw [sq] at hz
        refine ⟨s, Ev.step (g := fun k => spec_l1Many.l0 k _ _ _) (fun k => by rw [spec_l1Many.l0]) (pos (by omega) ?_), by omega⟩
        rw [e1, e2, wrap_id (by omega) (by omega)]
        exact neg (by omega) (pos (by omega) hs)
theorem l1Many_ev (x : ByteArray) (n : Nat) (h : n ≤ 1000) (hx : x.size = 1) : ∃ s, Ev (fun k => spec_l1Many.f k x (n : Int)) s ∧ s.size = n := by
  obtain ⟨s, hs, hz⟩ := l1Many_l0 n n x (⟨#[]⟩ : ByteArray) (Nat.le_refl _) (by omega) (by rw [hx]; show 0 + 1 * n ≤ _; omega)
  refine ⟨s, hs, ?_⟩
  rw [hz, hx]
  show 0 + 1 * n = n
  omega
theorem l11Text_ev (l : List Int) (hl : Code l) (p : Int) (h0 : 0 ≤ p) (h1 : p ≤ 1000000000) : ∃ s, Ev (fun k => spec_l11Text.f k l p) (s, p + 1) ∧ s.size ≤ 40 := by
  obtain ⟨m, hm, hz⟩ := l1Many_ev (⟨#[120]⟩ : ByteArray) 40 (by omega) rfl
  obtain ⟨s, hs, hmem⟩ := of_ev l hl p (([(⟨#[]⟩ : ByteArray), (⟨#[97]⟩ : ByteArray), (⟨#[98]⟩ : ByteArray), (⟨#[99]⟩ : ByteArray), (⟨#[53]⟩ : ByteArray), (⟨#[45, 51]⟩ : ByteArray), (⟨#[104, 101, 108, 108, 111]⟩ : ByteArray), (⟨#[13, 10]⟩ : ByteArray), (⟨#[255]⟩ : ByteArray), m, (⟨#[57, 57, 57, 57, 57, 57, 57, 57, 57]⟩ : ByteArray)] : List ByteArray)) h0 h1 (by simp) (by simp)
  refine ⟨s, ?_, ?_⟩
  · unfold spec_l11Text.f
    exact Ev.bind hm (Ev.bind hs (ret _))
  · simp only [List.mem_cons, List.not_mem_nil, or_false] at hmem
    rcases hmem with rfl | rfl | rfl | rfl | rfl | rfl | rfl | rfl | rfl | rfl | rfl <;> first | decide | omega
end Go.Proofs.Ytcpnekdhdmncfaa.Q
namespace Go.Proofs.Ytcpnekdhdmncfaa.Q
open Go.RowKit Go.Proofs.YtcpnekdhdmncfaaW.PrintWords Go.Proofs.YtcpnekdhdmncfaaW.PrintLast Go.Proofs.Ytcpnekdhdmncfaa.P
def decS (n : Nat) : ByteArray := if n < 10 then strOfNums (([(wrap64 (48 + (n : Int))) % 256] : List Int)) else strOfNums (([(wrap64 (48 + ((n / 10 : Nat) : Int))) % 256] : List Int)) ++ strOfNums (([(wrap64 (48 + (Int.tmod (n : Int) 10))) % 256] : List Int))
def nT (n : Nat) : ByteArray := (⟨#[110]⟩ : ByteArray) ++ decS n
theorem one_size (x : Int) : (strOfNums [x]).size = 1 := rfl
theorem decS_size (n : Nat) : (decS n).size ≤ 2 := by
  unfold decS
  split
  · rw [one_size]; omega
  · rw [ByteArray.size_append, one_size, one_size]; omega
theorem nT_size (n : Nat) : (nT n).size ≤ 3 := by
  have := decS_size n
  unfold nT
  rw [ByteArray.size_append]
  show 1 + (decS n).size ≤ 3
  omega
theorem decS_ev (n : Nat) (h : n < 100) : Ev (fun k => spec_l1Dec.f k (n : Int)) (decS n) := by
  have small : ∀ m : Nat, m < 10 → Ev (fun k => spec_l1Dec.f k (m : Int)) (strOfNums (([(wrap64 (48 + (m : Int))) % 256] : List Int))) := fun m hm =>
    Ev.step (g := fun k => spec_l1Dec.f k _) (fun k => by rw [spec_l1Dec.f]) (neg (by omega) (neg (by omega) (pos (by omega) (ret _))))
  unfold decS
  by_cases h10 : n < 10
  · rw [if_pos h10]; exact small n h10
  · rw [if_neg h10]
    have e2 : Int.tdiv (n : Int) 10 = ((n / 10 : Nat) : Int) := by rw [Int.tdiv_eq_ediv_of_nonneg (by omega)]; omega
    refine Ev.step (g := fun k => spec_l1Dec.f k _) (fun k => by rw [spec_l1Dec.f]) (neg (by omega) (neg (by omega) (neg (by omega) ?_)))
    rw [e2, wrap_id (by omega) (by omega)]
    refine Ev.bind (small (n / 10) (by omega)) (Ev.bind (ret _) (pos ?_ (ret _)))
    rw [one_size, one_size]
    omega
theorem nT_inj (i j : Nat) (hi : i < 17) (hj : j < 17) (hn : i ≠ j) : nT i ≠ nT j := by
  have : ∀ i : Fin 17, ∀ j : Fin 17, i ≠ j → nT i.1 ≠ nT j.1 := by decide +kernel
  exact this ⟨i, hi⟩ ⟨j, hj⟩ (fun e => hn (by injection e))
theorem nT_other : ∀ s ∈ (([(⟨#[]⟩ : ByteArray), (⟨#[97]⟩ : ByteArray), (⟨#[98]⟩ : ByteArray), (⟨#[99]⟩ : ByteArray), (⟨#[53]⟩ : ByteArray), (⟨#[45, 51]⟩ : ByteArray), (⟨#[104, 101, 108, 108, 111]⟩ : ByteArray), (⟨#[13, 10]⟩ : ByteArray), (⟨#[255]⟩ : ByteArray), (⟨#[57, 57, 57, 57, 57, 57, 57, 57, 57]⟩ : ByteArray)] : List ByteArray)), ∀ k, k < 17 → s ≠ nT k := by
  have : ∀ s ∈ (([(⟨#[]⟩ : ByteArray), (⟨#[97]⟩ : ByteArray), (⟨#[98]⟩ : ByteArray), (⟨#[99]⟩ : ByteArray), (⟨#[53]⟩ : ByteArray), (⟨#[45, 51]⟩ : ByteArray), (⟨#[104, 101, 108, 108, 111]⟩ : ByteArray), (⟨#[13, 10]⟩ : ByteArray), (⟨#[255]⟩ : ByteArray), (⟨#[57, 57, 57, 57, 57, 57, 57, 57, 57]⟩ : ByteArray)] : List ByteArray)), ∀ k : Fin 17, s ≠ nT k.1 := by decide +kernel
  exact fun s hs k hk => this s hs ⟨k, hk⟩
theorem l11TextN_ev (l : List Int) (hl : Code l) (p : Int) (h0 : 0 ≤ p) (h1 : p ≤ 1000000000) : ∃ s, Ev (fun k => spec_l11Text.f k l p) (s, p + 1) ∧ s.size ≤ 40 ∧ ∀ k, k < 17 → s ≠ nT k := by
  obtain ⟨m, hm, hz⟩ := l1Many_ev (⟨#[120]⟩ : ByteArray) 40 (by omega) rfl
  obtain ⟨s, hs, hmem⟩ := of_ev l hl p (([(⟨#[]⟩ : ByteArray), (⟨#[97]⟩ : ByteArray), (⟨#[98]⟩ : ByteArray), (⟨#[99]⟩ : ByteArray), (⟨#[53]⟩ : ByteArray), (⟨#[45, 51]⟩ : ByteArray), (⟨#[104, 101, 108, 108, 111]⟩ : ByteArray), (⟨#[13, 10]⟩ : ByteArray), (⟨#[255]⟩ : ByteArray), m, (⟨#[57, 57, 57, 57, 57, 57, 57, 57, 57]⟩ : ByteArray)] : List ByteArray)) h0 h1 (by simp) (by simp)
  refine ⟨s, ?_, ?_, ?_⟩
  · unfold spec_l11Text.f
    exact Ev.bind hm (Ev.bind hs (ret _))
  · simp only [List.mem_cons, List.not_mem_nil, or_false] at hmem
    rcases hmem with rfl | rfl | rfl | rfl | rfl | rfl | rfl | rfl | rfl | rfl | rfl <;> first | decide | omega
  · intro k hk
    by_cases e : s = m
    · intro q
      have := nT_size k
      rw [← q, e] at this
      omega
    · refine nT_other s ?_ k hk
      simp only [List.mem_cons, List.not_mem_nil, or_false] at hmem ⊢
      rcases hmem with h | h | h | h | h | h | h | h | h | h | h
      all_goals first | exact absurd h e | simp [h]
end Go.Proofs.Ytcpnekdhdmncfaa.Q
namespace Go.Proofs.Ytcpnekdhdmncfaa.Q
open Go.RowKit Go.Proofs.YtcpnekdhdmncfaaW.PrintWords Go.Proofs.YtcpnekdhdmncfaaW.PrintLast Go.Proofs.Ytcpnekdhdmncfaa.P
theorem one_ev (l : List Int) (hl : Code l) (p : Int) (t : List Int) (h0 : 0 ≤ p) (h1 : p ≤ 1000000000) (ht : 0 < t.length) (ht' : t.length ≤ 1000) : ∃ s, Ev (fun k => spec_l1Rd_one.f k l p t) (s, p + 1) ∧ s ∈ t := by
  obtain ⟨v, hv, v0, v1⟩ := pick_ev l hl p t.length h0 h1 (by omega) (by omega)
  obtain ⟨n, rfl⟩ := Int.eq_ofNat_of_zero_le v0
  have hn : n < t.length := by omega
  refine ⟨t[n], ?_, List.getElem_mem hn⟩
  unfold spec_l1Rd_one.f
  refine Ev.bind hv (pos v0 (pos v1 (ret' ?_)))
  have : rd t (n : Int) = t[n] := by simp [rd, List.getD_eq_getElem?_getD, hn]
  rw [this]
end Go.Proofs.Ytcpnekdhdmncfaa.Q
namespace Go.Proofs.Ytcpnekdhdmncfaa.Q
open Go.RowKit Go.Proofs.YtcpnekdhdmncfaaW.PrintWords Go.Proofs.YtcpnekdhdmncfaaW.PrintLast Go.Proofs.Ytcpnekdhdmncfaa.P
def Free (l : List Score) (j : Nat) : Prop := scoresB l = true ∧ ∀ x ∈ l, ∀ k, j ≤ k → k < 17 → x.f0 ≠ nT k
theorem l11Scores_l1 (c : List Int) (p : Int) (d : Nat) : ∀ (x : List Score) (j : Nat), x.length + d = 16 → j + d ≤ 16 → Free x j → ∃ l, Ev (fun k => spec_l11Scores.l1 k x (j : Int) c p) (l, p) ∧ scoresB l = true := by
  induction d with
  | zero =>
    intro x j hx _ hF
    exact ⟨x, Ev.step (g := fun k => spec_l11Scores.l1 k _ _ _ _) (fun k => by rw [spec_l11Scores.l1]) (neg (by omega) (ret _)), hF.1⟩
  | succ d ih =>
    intro x j hx hj hF
    have hmod : Int.tmod (j : Int) 3 = (j : Int) % 3 := Int.tmod_eq_emod_of_nonneg (by omega)
    have hp : placeB (Int.tmod (j : Int) 3) = true := inB_iff.2 (by omega)
    obtain ⟨e, hok⟩ := scoresPutM_new (s := ⟨nT j, Int.tmod (j : Int) 3⟩) hF.1 (fun y hy => hF.2 y hy j (Nat.le_refl _) (by omega)) (by omega) (by have := nT_size j; show (nT j).size ≤ 40; omega) hp
    have hP := spec_ScoresPut_ev x (by omega) ⟨nT j, Int.tmod (j : Int) 3⟩
    obtain ⟨l, hl, hS⟩ := ih (insM ⟨nT j, Int.tmod (j : Int) 3⟩ x) (j + 1) (by rw [insM_len]; omega) (by omega) ⟨hok, fun y hy k hk hk' => by
      rcases (insM_mem _ _ _).1 hy with rfl | hy
      · exact fun q => nT_inj j k (by omega) hk' (by omega) q
      · exact hF.2 y hy k (by omega) hk'⟩
    refine ⟨l, Ev.step (g := fun k => spec_l11Scores.l1 k _ _ _ _) (fun k => by rw [spec_l11Scores.l1]) (pos (by omega) ?_), hS⟩
    have hsz := nT_size j
    refine Ev.bind (decS_ev j (by omega)) (pos ?_ (Ev.bind hP ?_))
    · have : (nT j).size = 1 + (decS j).size := by unfold nT; rw [ByteArray.size_append]; rfl
      omega
    · rw [e, wrap_id (by omega) (by omega)]
      exact hl
theorem l11Scores_l0 (c : List Int) (hc : Code c) (n : Nat) : ∀ (x : List Score) (p : Int), 0 ≤ p → p + 2 * n ≤ 10000 → x.length + n ≤ 6 → Free x 0 →
    ∃ l q, Ev (fun k => spec_l11Scores.l0 k x (n : Int) c p) (l, q) ∧ scoresB l = true ∧ p ≤ q ∧ q ≤ p + 2 * n + 1 := by
  induction n with
  | zero =>
    intro x p h0 h1 hx hF
    obtain ⟨v, hv, v0, v1⟩ := pick_ev c hc p 30 h0 (by omega) (by omega) (by omega)
    by_cases e : v = 0
    · obtain ⟨l, hl, hS⟩ := l11Scores_l1 c (p + 1) (16 - x.length) x 0 (by omega) (by omega) hF
      refine ⟨l, p + 1, Ev.step (g := fun k => spec_l11Scores.l0 k _ _ _ _) (fun k => by rw [spec_l11Scores.l0]) (neg (by omega) ?_), hS, by omega, by omega⟩
      exact Ev.bind hv (pos e hl)
    · refine ⟨x, p + 1, Ev.step (g := fun k => spec_l11Scores.l0 k _ _ _ _) (fun k => by rw [spec_l11Scores.l0]) (neg (by omega) ?_), hF.1, by omega, by omega⟩
      exact Ev.bind hv (neg e (ret _))
  | succ n ih =>
    intro x p h0 h1 hx hF
    obtain ⟨s, hs, hz, hn⟩ := l11TextN_ev c hc p h0 (by omega)
    obtain ⟨v, hv, hmem⟩ := one_ev c hc (p + 1) ([0, 1, 1, 2, (-5), 7, 1000000000] : List Int) (by omega) (by omega) (by simp) (by simp)
    have hlen := scoresPutM_len x ⟨s, v⟩
    obtain ⟨l, q, hl, hS, q0, q1⟩ := ih (scoresPutM x ⟨s, v⟩).1 (p + 1 + 1) (by omega) (by omega) (by omega) ⟨scoresPutM_ok _ hF.1, fun y hy k hk hk' => by
      rcases scoresPutM_mem hy with rfl | hy
      · exact hn k hk'
      · exact hF.2 y hy k hk hk'⟩
    refine ⟨l, q, Ev.step (g := fun k => spec_l11Scores.l0 k _ _ _ _) (fun k => by rw [spec_l11Scores.l0]) (pos (by omega) ?_), hS, by omega, by omega⟩
    refine Ev.bind hs (Ev.bind hv ?_)
    refine Ev.bind (spec_ScoresPut_ev x (by omega) ⟨s, v⟩) ?_
    rw [show wrap64 (((n + 1 : Nat) : Int) - 1) = (n : Int) by rw [wrap_id (by omega) (by omega)]; omega]
    exact hl
theorem l11AnyScores_ev (c : List Int) (hc : Code c) (p : Int) (h0 : 0 ≤ p) (h1 : p ≤ 1000) : ∃ l q, Ev (fun k => spec_l11AnyScores.f k c p) (l, q) ∧ l.length ≤ 17 ∧ p ≤ q ∧ q ≤ p + 30 := by
  obtain ⟨v, hv, v0, v1⟩ := pick_ev c hc p 7 h0 (by omega) (by omega) (by omega)
  obtain ⟨n, rfl⟩ := Int.eq_ofNat_of_zero_le v0
  have hnil : scoresB ([] : List Score) = true := (scoresB_iff _).2 ⟨by simp, by simp, by simp, by simp⟩
  obtain ⟨l, q, hl, hS, q0, q1⟩ := l11Scores_l0 c hc n [] (p + 1) (by omega) (by omega) (by simp; omega) ⟨hnil, by simp⟩
  have h16 := scoresB_len hS
  have hL : Ev (fun k => spec_l11Scores.f k c p) (l, q) := by
    unfold spec_l11Scores.f
    exact Ev.bind hv hl
  obtain ⟨u, hu, u0, u1⟩ := pick_ev c hc q 10 (by omega) (by omega) (by omega) (by omega)
  obtain ⟨s, hs, z⟩ := l11Text_ev c hc (q + 1) (by omega) (by omega)
  obtain ⟨w, hw, hmem⟩ := one_ev c hc (q + 1 + 1) ([0, 1000000001] : List Int) (by omega) (by omega) (by simp) (by simp)
  unfold spec_l11AnyScores.f
  by_cases e : u = 0
  · refine ⟨l ++ [⟨s, w⟩], q + 1 + 1 + 1, Ev.bind hL (Ev.bind hu (pos e ?_)), by simp; omega, by omega, by omega⟩
    refine Ev.bind hs (Ev.bind hw (pos (by dsimp only; omega) (ret _)))
  · exact ⟨l, q + 1, Ev.bind hL (Ev.bind hu (neg e (ret _))), by omega, by omega, by omega⟩
theorem qxScores_l0 (l : List Score) (hl : l.length ≤ maxLen) (d : Nat) : ∀ (i : Nat), i + d = l.length → Ev (fun k => laws_qxScores.l0 k l l (i : Int)) true := by
  unfold maxLen at hl
  induction d with
  | zero =>
    intro i hi
    exact Ev.step (g := fun k => laws_qxScores.l0 k _ _ _) (fun k => by rw [laws_qxScores.l0]) (neg (by omega) (ret _))
  | succ d ih =>
    intro i hi
    refine Ev.step (g := fun k => laws_qxScores.l0 k _ _ _) (fun k => by rw [laws_qxScores.l0]) (pos (by omega) (pos (by omega) (pos (by omega) (neg (by simp) ?_))))
    rw [wrap_id (by omega) (by omega)]
    exact ih (i + 1) (by omega)
theorem qxScores_same (l : List Score) (hl : l.length ≤ maxLen) : Ev (fun k => laws_qxScores.f k l l) true := by
  unfold laws_qxScores.f
  exact pos rfl (qxScores_l0 l hl l.length 0 (by omega))
end Go.Proofs.Ytcpnekdhdmncfaa.Q
namespace Go.Proofs.Ytcpnekdhdmncfaa.Q
open Go.RowKit Go.Proofs.YtcpnekdhdmncfaaW.PrintWords Go.Proofs.YtcpnekdhdmncfaaW.PrintLast Go.Proofs.Ytcpnekdhdmncfaa.P
theorem DrawScoresBy_ev (l : List Int) (hl : l.length ≤ maxLen) (hb : ∀ x ∈ l, (Lit.int .u8 x).wf = true) : ∃ m a b, Ev (fun k => spec_DrawScoresBy.f k l) (m, a, b) ∧ m.length ≤ 17 ∧ -3 ≤ a ∧ a ≤ 9 ∧ -3 ≤ b ∧ b ≤ 9 := by
  obtain ⟨c, hc, hC⟩ := l1Open_ev l hl hb
  obtain ⟨m, p, hm, h17, a1, a2⟩ := l11AnyScores_ev c hC 0 (by omega) (by omega)
  obtain ⟨v, hv, v0, v1⟩ := pick_ev c hC p 6 (by omega) (by omega) (by omega) (by omega)
  obtain ⟨u, hu, u0, u1⟩ := pick_ev c hC (p + 1) 10 (by omega) (by omega) (by omega) (by omega)
  refine ⟨m, v - 3, u - 3, ?_, h17, by omega, by omega, by omega, by omega⟩
  unfold spec_DrawScoresBy.f
  refine Ev.bind hc (Ev.bind hm (Ev.bind hv (Ev.bind hu (ret' ?_))))
  dsimp only
  rw [wrap_id (x := v - 3) (by omega) (by omega), wrap_id (x := u - 3) (by omega) (by omega)]
theorem atsM_ends (l : List Score) (h : scoresB l = true) (f n : Nat) (hn : 0 < n) (hl : f + n ≤ l.length) : atsM l (f : Int) ((f : Int) + n - 1) = (l.take (f + n)).drop f := by
  have h16 := scoresB_len h
  unfold atsM spanM
  have hp : placeB (f : Int) = true := inB_iff.2 (by omega)
  have hp2 : placeB ((f : Int) + n - 1) = true := inB_iff.2 (by omega)
  rw [if_pos h, if_pos ⟨hp, hp2⟩]
  unfold endsM
  dsimp only
  rw [if_neg (show ¬ (f : Int) < 0 by omega), if_neg (show ¬ (f : Int) < 0 by omega), if_neg (show ¬ (f : Int) + n - 1 < 0 by omega), if_neg (show ¬ (f : Int) + n - 1 ≥ (l.length : Int) by omega), if_neg (show ¬ (f : Int) > (f : Int) + n - 1 by omega)]
  dsimp only
  rw [Int.toNat_natCast, show ((f : Int) + n - 1 + 1).toNat = f + n by omega]
theorem atsM_all (l : List Score) (h : scoresB l = true) : atsM l 0 (-1) = l := by
  have h16 := scoresB_len h
  by_cases h0 : l.length = 0
  · obtain rfl : l = [] := List.length_eq_zero_iff.1 h0
    have := atsM_len [] 0 (-1)
    exact List.length_eq_zero_iff.1 (by simpa using this)
  · unfold atsM spanM
    rw [if_pos h, if_pos ⟨by decide, by decide⟩]
    unfold endsM
    dsimp only
    rw [if_neg (show ¬ (0 : Int) < 0 by decide), if_neg (show ¬ (0 : Int) < 0 by decide), if_pos (show (-1 : Int) < 0 by decide), if_neg (show ¬ (-1 + (l.length : Int) ≥ l.length) by omega), if_neg (show ¬ (0 : Int) > -1 + (l.length : Int) by omega)]
    dsimp only
    rw [show (-1 + (l.length : Int) + 1).toNat = l.length by omega]
    simp
theorem asc_num {l : List Score} (h : l.Pairwise (fun a b => ahd a b = true)) (i : Nat) (hi : i < l.length) : ∀ x ∈ l.take i, x.f1 ≤ l[i].f1 := by
  intro x hx
  obtain ⟨j, hj, rfl⟩ := List.getElem_of_mem hx
  have hji : j < i := by simp at hj; omega
  rw [List.getElem_take]
  rcases ahd_iff.1 (List.pairwise_iff_getElem.1 h j i (by omega) hi hji) with q | ⟨q, _⟩ <;> omega
structure Seen (a b : Int) (p A B C : List Score) : Prop where
  all : p = A ++ B ++ C
  low : ∀ x ∈ A, x.f1 < a
  mid : ∀ x ∈ B, inB x.f1 a b = true
  top : ∀ x ∈ C, b < x.f1
theorem Seen.filter {a b : Int} {p A B C : List Score} (h : Seen a b p A B C) : p.filter (fun s => inB s.f1 a b) = B := by
  rw [h.all, List.filter_append, List.filter_append, List.filter_eq_nil_iff.2 (fun x hx => by have := h.low x hx; rw [inB_iff]; omega), List.filter_eq_self.2 (fun x hx => h.mid x hx), List.filter_eq_nil_iff.2 (fun x hx => by have := h.top x hx; rw [inB_iff]; omega)]
  simp
theorem FnScoresBy_l0 (l : List Score) (hok : scoresB l = true) (a b : Int) (_ha : -3 ≤ a ∧ a ≤ 9) (_hb : -3 ≤ b ∧ b ≤ 9) (d : Nat) : ∀ (i : Nat) (A B C : List Score), i + d = l.length → Seen a b (l.take i) A B C →
    Ev (fun k => laws_FnScoresBy.l0 k l a b (byM l a b) (B.length : Int) (if B = [] then -1 else (A.length : Int)) (i : Int)) true := by
  have h16 := scoresB_len hok
  obtain ⟨_, hasc, _, _⟩ := (scoresB_iff l).1 hok
  induction d with
  | zero =>
    intro i A B C hi hS
    have hB : byM l a b = B := by
      unfold byM
      rw [if_pos hok]
      rw [List.take_of_length_le (by omega)] at hS
      exact hS.filter
    rw [List.take_of_length_le (by omega)] at hS
    have hlen := congrArg List.length hS.all
    simp only [List.length_append] at hlen
    refine Ev.step (g := fun k => laws_FnScoresBy.l0 k _ _ _ _ _ _ _) (fun k => by rw [laws_FnScoresBy.l0]) (neg (by omega) ?_)
    rw [hB]
    have hA := impl_ScoresAt_ev l (by omega) 0 (-1)
    rw [atsM_all l hok] at hA
    refine pos rfl (Ev.bind hA (Ev.bind (qxScores_same l (by unfold maxLen; omega)) ?_))
    refine Ev.step (g := fun k => laws_FnScoresBy.j3 k _ _ _ _ _) (fun k => by rw [laws_FnScoresBy.j3]) (neg (by decide) ?_)
    by_cases h0 : B = []
    · exact pos (by rw [h0]; rfl) (ret _)
    · have hpos : 0 < B.length := List.length_pos_iff.2 h0
      refine neg (by omega) ?_
      rw [if_neg h0, wrap_id (x := (A.length : Int) + B.length) (by omega) (by omega), wrap_id (x := (A.length : Int) + B.length - 1) (by omega) (by omega)]
      have hE := impl_ScoresAt_ev l (by omega) (A.length : Int) ((A.length : Int) + B.length - 1)
      have e : (l.take (A.length + B.length)).drop A.length = B := by
        rw [hS.all, ← List.length_append, List.take_left, List.drop_left]
      rw [atsM_ends l hok A.length B.length hpos (by omega), e] at hE
      exact Ev.bind hE (Ev.bind (qxScores_same B (by unfold maxLen; omega)) (ret _))
  | succ d ih =>
    intro i A B C hi hS
    have hlt : i < l.length := by omega
    have hall := congrArg List.length hS.all
    simp only [List.length_append, List.length_take] at hall
    have htake : l.take (i + 1) = l.take i ++ [l[i]] := List.take_succ_eq_append_getElem hlt
    have hge := asc_num hasc i hlt
    refine Ev.step (g := fun k => laws_FnScoresBy.l0 k _ _ _ _ _ _ _) (fun k => by rw [laws_FnScoresBy.l0]) (pos (by omega) (pos (by omega) ?_))
    rw [rdScore_lt _ _ hlt]
    have out : ¬ inB l[i].f1 a b = true → Ev (fun k => laws_FnScoresBy.j2 k l a b (byM l a b) (B.length : Int) (if B = [] then -1 else (A.length : Int)) (i : Int) false) true := by
      intro hno
      refine Ev.step (g := fun k => laws_FnScoresBy.j2 k _ _ _ _ _ _ _ _) (fun k => by rw [laws_FnScoresBy.j2]) (neg (by decide) ?_)
      rw [wrap_id (x := (i : Int) + 1) (by omega) (by omega)]
      by_cases hnew : B = [] ∧ C = [] ∧ l[i].f1 < a
      · obtain ⟨rfl, rfl, hlow⟩ := hnew
        exact ih (i + 1) (A ++ [l[i]]) [] [] (by omega) ⟨by rw [htake, hS.all]; simp, fun x hx => by
          rcases List.mem_append.1 hx with h | h
          · exact hS.low x h
          · rw [List.mem_singleton.1 h]; exact hlow, by simp, by simp⟩
      · have htop : b < l[i].f1 := by
          by_cases hB0 : B = []
          · by_cases hC0 : C = []
            · have : ¬ l[i].f1 < a := fun q => hnew ⟨hB0, hC0, q⟩
              rw [inB_iff] at hno
              omega
            · obtain ⟨x, hx⟩ := List.exists_mem_of_ne_nil C hC0
              have h1 := hS.top x hx
              have h2 := hge x (by rw [hS.all]; simp [hx])
              omega
          · obtain ⟨x, hx⟩ := List.exists_mem_of_ne_nil B hB0
            have h1 := inB_iff.1 (hS.mid x hx)
            have h2 := hge x (by rw [hS.all]; simp [hx])
            rw [inB_iff] at hno
            omega
        exact ih (i + 1) A B (C ++ [l[i]]) (by omega) ⟨by rw [htake, hS.all]; simp, hS.low, hS.mid, fun x hx => by
          rcases List.mem_append.1 hx with h | h
          · exact hS.top x h
          · rw [List.mem_singleton.1 h]; exact htop⟩
    refine both (fun h1 => ?_) (fun h1 => ?_)
    · by_cases h2 : l[i].f1 ≤ b
      · rw [decide_eq_true h2]
        have hin : inB l[i].f1 a b = true := inB_iff.2 ⟨h1, h2⟩
        have hC0 : C = [] := by
          by_cases q : C = []
          · exact q
          · obtain ⟨x, hx⟩ := List.exists_mem_of_ne_nil C q
            have w1 := hS.top x hx
            have w2 := hge x (by rw [hS.all]; simp [hx])
            omega
        subst hC0
        have next := ih (i + 1) A (B ++ [l[i]]) [] (by omega) ⟨by rw [htake, hS.all]; simp, hS.low, fun x hx => by
          rcases List.mem_append.1 hx with h | h
          · exact hS.mid x h
          · rw [List.mem_singleton.1 h]; exact hin, by simp⟩
        rw [if_neg (by simp)] at next
        refine Ev.step (g := fun k => laws_FnScoresBy.j2 k _ _ _ _ _ _ _ _) (fun k => by rw [laws_FnScoresBy.j2]) (pos rfl ?_)
        rw [wrap_id (x := (i : Int) + 1) (by omega) (by omega), wrap_id (x := (B.length : Int) + 1) (by omega) (by omega)]
        have e1 : ((B ++ [l[i]]).length : Int) = (B.length : Int) + 1 := by simp
        rw [e1] at next
        by_cases hB0 : B = []
        · subst hB0
          have e2 : A.length = i := by simp at hall; omega
          rw [e2] at next
          exact pos (by simp) next
        · rw [if_neg hB0]
          exact neg (by omega) next
      · rw [decide_eq_false h2]
        exact out (by rw [inB_iff]; omega)
    · exact out (by rw [inB_iff]; omega)
theorem FnScoresBy_pure (l : List Int) (hl : l.length ≤ maxLen) (hb : ∀ x ∈ l, (Lit.int .u8 x).wf = true) : ∃ k, laws_FnScoresBy.f k l = some true := by
  refine exists_of (r := true) ?_
  unfold laws_FnScoresBy.f
  refine both (fun _ => ret _) (fun _ => ?_)
  obtain ⟨m, a, b, hD, h17, a0, a1, b0, b1⟩ := DrawScoresBy_ev l hl hb
  have hm : m.length ≤ maxLen := by unfold maxLen; omega
  have hI := impl_ScoresBy_ev m (by omega) a b
  have hW := spec_ScoresBy_ev m (by omega) a b
  have hlen := byM_len m a b
  have hX := qxScores_same (byM m a b) (by omega)
  have hO := spec_ScoresOk_ev m hm
  refine Ev.bind hD (Ev.bind hI (Ev.bind hW (Ev.bind hX (pos rfl (Ev.bind hO ?_)))))
  refine Ev.step (g := fun k => laws_FnScoresBy.j0 k _ _ _ _ _) (fun k => by rw [laws_FnScoresBy.j0]) ?_
  dsimp only
  cases hok : scoresB m with
  | false => exact pos rfl (Ev.bind hW (Ev.bind hX (ret _)))
  | true =>
    refine neg (by decide) ?_
    have := FnScoresBy_l0 m hok a b ⟨a0, a1⟩ ⟨b0, b1⟩ m.length 0 [] [] [] (by omega) ⟨by simp, by simp, by simp, by simp⟩
    rw [if_pos rfl] at this
    exact this
end Go.Proofs.Ytcpnekdhdmncfaa.Q
