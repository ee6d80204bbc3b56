import Derived.Test.YtegelpeegbngiaaBdFnSetAdd1
/- Texts of this claim, one behind the other: printed functions and their walks, plain lemmas. -/
-- Written by wip/px.py of this session, over the kit's print.py. Not trusted: Lean checks it.
namespace Go.Proofs.Ytegelpeegbngiaa.P
open Go.RowKit Go.Proofs.YtegelpeegbngiaaW.PrintWords Go.Proofs.YtegelpeegbngiaaW.PrintLast Go.Proofs.YtegelpeegbngiaaW.PrintMore
attribute [local go_sem] max2_int min2_int max_two min_two max_three min_three max_four min_four   -- for this text's walks alone
set_option linter.unusedVariables false
set_option linter.unusedSimpArgs false

/-! ### laws_FnSetAdd: the walk -/
set_option maxHeartbeats 8000000 in
set_option maxRecDepth 100000 in
theorem laws_FnSetAdd.calls (k : Nat) (A0 : Option Addr) (c0 : Nat) (l0 : List Int) (r : Bool) (w : World) (hr0 : Kd.C (Kd.int .u8) w A0 l0.length l0) (hc0 : l0.length ≤ c0) (h : laws_FnSetAdd.f k l0 = some r) :
    Calls Try.prog 7 #[.slice A0 l0.length c0] w fun e w' => e = .returned (.bool r) ∧ Below w.heap.size w w' := by
  have HR0 := Aside0.mk hr0
  have HC0 := Aside0.mk hc0
  clear hr0 hc0
  have HB := Aside0.mk (Below.refl w.heap.size w)
  have H : (if (l0.length : Int) > 1048576 then (some true) else ((spec_DrawSetAdd.f k l0).bind fun bt757 => ((impl_SetAdd.f k bt757.1 bt757.2).bind fun bt763 => ((spec_SetAdd.f k bt757.1 bt757.2).bind fun bt768 => (if (bt763.2.2 != bt768.2.2) = true then (laws_FnSetAdd.j0 k bt757.1 bt757.2 bt763.1 bt763.2.1 bt763.2.2 bt768.1 bt768.2.1 bt768.2.2 true) else (if bt763.2.1 = bt768.2.1 then ((laws_qxTexts.f k bt763.1 bt768.1).bind fun t773 => (if t773 = true then ((impl_SetOk.f k bt757.1).bind fun t774 => ((spec_SetOk.f k bt757.1).bind fun t775 => (if (t774 != t775) = true then (laws_FnSetAdd.j0 k bt757.1 bt757.2 bt763.1 bt763.2.1 bt763.2.2 bt768.1 bt768.2.1 bt768.2.2 true) else (laws_FnSetAdd.j0 k bt757.1 bt757.2 bt763.1 bt763.2.1 bt763.2.2 bt768.1 bt768.2.1 bt768.2.2 (!bt763.2.2))))) else (laws_FnSetAdd.j0 k bt757.1 bt757.2 bt763.1 bt763.2.1 bt763.2.2 bt768.1 bt768.2.1 bt768.2.2 true))) else (laws_FnSetAdd.j0 k bt757.1 bt757.2 bt763.1 bt763.2.1 bt763.2.2 bt768.1 bt768.2.1 bt768.2.2 true))))))) = some r := h
  clear h
  by_cases c2 : (l0.length : Int) > 1048576
  · rw [if_pos c2] at H
    have c2b0 : decide (1048576 < (l0.length : Int)) = true := decide_eq_true c2
    have c2b1 : decide (1048576 < l0.length) = true := decide_eq_true (by omega)
    clear c2
    obtain rfl := Option.some.inj H
    go_enter Try.func7, Try.ntmps7
    go_wp2
    go_ret
    exact ⟨by first | rfl | (simp [errW_none, errW_some] <;> rfl) | (simp [*, errW_none, errW_some] <;> rfl), by repeat (first | (with_reducible first | exact HB.out | apply below_alloc | apply pw_below_drewN | apply below_drew1) | exact HB.out | exact Below.refl _ _)⟩
  · rw [if_neg c2] at H
    have c2b0 : decide (1048576 < (l0.length : Int)) = false := decide_eq_false c2
    have c2b1 : decide (1048576 < l0.length) = false := decide_eq_false (by omega)
    clear c2
    replace H := Option.bind_eq_some_iff.mp H
    obtain ⟨⟨t757, t760⟩, A30, H⟩ := H
    replace H : ((impl_SetAdd.f k t757 t760).bind fun bt763 => ((spec_SetAdd.f k t757 t760).bind fun bt768 => (if (bt763.2.2 != bt768.2.2) = true then (laws_FnSetAdd.j0 k t757 t760 bt763.1 bt763.2.1 bt763.2.2 bt768.1 bt768.2.1 bt768.2.2 true) else (if bt763.2.1 = bt768.2.1 then ((laws_qxTexts.f k bt763.1 bt768.1).bind fun t773 => (if t773 = true then ((impl_SetOk.f k t757).bind fun t774 => ((spec_SetOk.f k t757).bind fun t775 => (if (t774 != t775) = true then (laws_FnSetAdd.j0 k t757 t760 bt763.1 bt763.2.1 bt763.2.2 bt768.1 bt768.2.1 bt768.2.2 true) else (laws_FnSetAdd.j0 k t757 t760 bt763.1 bt763.2.1 bt763.2.2 bt768.1 bt768.2.1 bt768.2.2 (!bt763.2.2))))) else (laws_FnSetAdd.j0 k t757 t760 bt763.1 bt763.2.1 bt763.2.2 bt768.1 bt768.2.1 bt768.2.2 true))) else (laws_FnSetAdd.j0 k t757 t760 bt763.1 bt763.2.1 bt763.2.2 bt768.1 bt768.2.1 bt768.2.2 true))))) = some r := H
    have A3 := Aside0.mk A30
    clear A30
    replace H := Option.bind_eq_some_iff.mp H
    obtain ⟨⟨t763, t764, t765⟩, A40, H⟩ := H
    replace H : ((spec_SetAdd.f k t757 t760).bind fun bt768 => (if (t765 != bt768.2.2) = true then (laws_FnSetAdd.j0 k t757 t760 t763 t764 t765 bt768.1 bt768.2.1 bt768.2.2 true) else (if t764 = bt768.2.1 then ((laws_qxTexts.f k t763 bt768.1).bind fun t773 => (if t773 = true then ((impl_SetOk.f k t757).bind fun t774 => ((spec_SetOk.f k t757).bind fun t775 => (if (t774 != t775) = true then (laws_FnSetAdd.j0 k t757 t760 t763 t764 t765 bt768.1 bt768.2.1 bt768.2.2 true) else (laws_FnSetAdd.j0 k t757 t760 t763 t764 t765 bt768.1 bt768.2.1 bt768.2.2 (!t765))))) else (laws_FnSetAdd.j0 k t757 t760 t763 t764 t765 bt768.1 bt768.2.1 bt768.2.2 true))) else (laws_FnSetAdd.j0 k t757 t760 t763 t764 t765 bt768.1 bt768.2.1 bt768.2.2 true)))) = some r := H
    have A4 := Aside0.mk A40
    clear A40
    replace H := Option.bind_eq_some_iff.mp H
    obtain ⟨⟨t768, t771, t772⟩, A50, H⟩ := H
    replace H : (if (t765 != t772) = true then (laws_FnSetAdd.j0 k t757 t760 t763 t764 t765 t768 t771 t772 true) else (if t764 = t771 then ((laws_qxTexts.f k t763 t768).bind fun t773 => (if t773 = true then ((impl_SetOk.f k t757).bind fun t774 => ((spec_SetOk.f k t757).bind fun t775 => (if (t774 != t775) = true then (laws_FnSetAdd.j0 k t757 t760 t763 t764 t765 t768 t771 t772 true) else (laws_FnSetAdd.j0 k t757 t760 t763 t764 t765 t768 t771 t772 (!t765))))) else (laws_FnSetAdd.j0 k t757 t760 t763 t764 t765 t768 t771 t772 true))) else (laws_FnSetAdd.j0 k t757 t760 t763 t764 t765 t768 t771 t772 true))) = some r := H
    have A5 := Aside0.mk A50
    clear A50
    have HC6 := Aside0.mk H
    clear H
    go_enter Try.func7, Try.ntmps7
    go_upto_region 6 with (first | ((with_reducible refine gate_callee (f := 34) rfl ?_); refine goesL_ (some 21) rfl rfl Try.func34 (by kernel_rfl) rfl #[.slice A0 l0.length c0] rfl (by (try simp only [List.map_toArray, List.map_cons, List.map_nil]); first | done | rfl | (simp only [List.length_drop, List.length_take]; rfl)) ?_; (with_reducible refine (spec_DrawSetAdd.calls k _ _ l0 t757 t760 _ ?side1 ?side2 A3.out).mono ?_); (case side1 => repeat (first | exact HR0.out | (with_reducible refine Kd.C_alloc ?_ _) | (with_reducible refine Kd.C_drewN ?_ _) | (with_reducible refine Kd.C_drew ?_))); (case side2 => exact HC0.out); rintro e w7 ⟨v758, v761, rfl, ho0, ho1, hb⟩; refine ⟨_, rfl, ?_⟩; have n0_ := Aside0.mk (Kd.V_lower (Kd.V_mono (ok' := fun k_ => some k_ ≠ (v761 : Value).ownBlock) ho0 (fun k_ hk_ => hk_.2)) (below_size (by repeat (first | (with_reducible first | exact HB.out | apply below_alloc | apply pw_below_drewN | apply below_drew1) | exact HB.out | exact Below.refl _ _)))); have n1_ := Aside0.mk (Kd.R_lower (Kd.R_mono (ok' := fun k_ => True) ho1 (fun _ hk_ => trivial)) (below_size (by repeat (first | (with_reducible first | exact HB.out | apply below_alloc | apply pw_below_drewN | apply below_drew1) | exact HB.out | exact Below.refl _ _)))); have n2_ := Aside0.mk (below_step (by repeat (first | (with_reducible first | exact HB.out | apply below_alloc | apply pw_below_drewN | apply below_drew1) | exact HB.out | exact Below.refl _ _)) hb); clear HB; have HO759 := n0_; have HO762 := n1_; have HB := n2_; clear n0_ n1_ n2_; (try clear hb); (try clear hb2); (try clear hk); (try clear hi); (try clear ho0); (try clear ho1); obtain ⟨Ao8, co8, eo8⟩ := Kd.V_slice HO759.out; subst eo8; obtain ⟨Ao9, co9, eo9⟩ := Kd.R_slice HO762.out; subst eo9) | ((with_reducible refine gate_callee (f := 18) rfl ?_); refine goesL_ (some 27) rfl rfl Try.func18 (by kernel_rfl) rfl #[.slice Ao8 t757.length co8, .slice Ao9 t760.length co9] rfl (by (try simp only [List.map_toArray, List.map_cons, List.map_nil]); first | done | rfl | (simp only [List.length_drop, List.length_take]; rfl)) ?_; (with_reducible refine (impl_SetAdd.calls k _ _ t757 _ _ t760 t763 t764 t765 _ ?side1 ?side2 ?side3 ?side4 A4.out).mono ?_); (case side1 => repeat (first | exact (Kd.V_reads' HO759.out).2.2 | (with_reducible refine Kd.C_alloc ?_ _) | (with_reducible refine Kd.C_drewN ?_ _) | (with_reducible refine Kd.C_drew ?_))); (case side2 => exact (Kd.V_reads' HO759.out).2.1); (case side3 => repeat (first | exact (Kd.R_reads' HO762.out).2.2 | (with_reducible refine Kd.C_alloc ?_ _) | (with_reducible refine Kd.C_drewN ?_ _) | (with_reducible refine Kd.C_drew ?_))); (case side4 => exact (Kd.R_reads' HO762.out).2.1); rintro e w10 ⟨v766, rfl, ho0, hb⟩; refine ⟨_, rfl, ?_⟩; have n0_ := Aside0.mk (Kd.V_elder' (by (with_reducible repeat (first | apply Kd.V_alloc | apply Kd.V_drewN | apply Kd.V_drew)); exact HO759.out) (Kd.R_base ho0) hb); have n1_ := Aside0.mk (Kd.R_elder' (by (with_reducible repeat (first | apply Kd.R_alloc | apply Kd.R_drewN | apply Kd.R_drew)); exact HO762.out) (Kd.R_base ho0) hb); have n2_ := Aside0.mk (Kd.R_lower (Kd.R_new' ho0 (Kd.R_lt (by (with_reducible repeat (first | apply Kd.R_alloc | apply Kd.R_drewN | apply Kd.R_drew)); exact HO762.out))) (below_size (by repeat (first | (with_reducible first | exact HB.out | apply below_alloc | apply pw_below_drewN | apply below_drew1) | exact HB.out | exact Below.refl _ _)))); have n3_ := Aside0.mk (below_step (by repeat (first | (with_reducible first | exact HB.out | apply below_alloc | apply pw_below_drewN | apply below_drew1) | exact HB.out | exact Below.refl _ _)) hb); clear HO759; clear HO762; clear HB; have HO759 := n0_; have HO762 := n1_; have HO767 := n2_; have HB := n3_; clear n0_ n1_ n2_ n3_; (try clear hb); (try clear hb2); (try clear hk); (try clear hi); (try clear ho0)) | ((with_reducible refine gate_callee (f := 17) rfl ?_); refine goesL_ (some 34) rfl rfl Try.func17 (by kernel_rfl) rfl #[.slice Ao8 t757.length co8, .slice Ao9 t760.length co9] rfl (by (try simp only [List.map_toArray, List.map_cons, List.map_nil]); first | done | rfl | (simp only [List.length_drop, List.length_take]; rfl)) ?_; (with_reducible refine (spec_SetAdd.calls k _ _ t757 _ _ t760 t768 t771 t772 _ ?side1 ?side2 ?side3 ?side4 A5.out).mono ?_); (case side1 => repeat (first | exact (Kd.V_reads' HO759.out).2.2 | (with_reducible refine Kd.C_alloc ?_ _) | (with_reducible refine Kd.C_drewN ?_ _) | (with_reducible refine Kd.C_drew ?_))); (case side2 => exact (Kd.V_reads' HO759.out).2.1); (case side3 => repeat (first | exact (Kd.R_reads' HO762.out).2.2 | (with_reducible refine Kd.C_alloc ?_ _) | (with_reducible refine Kd.C_drewN ?_ _) | (with_reducible refine Kd.C_drew ?_))); (case side4 => exact (Kd.R_reads' HO762.out).2.1); rintro e w11 ⟨v769, rfl, ho0, hb⟩; refine ⟨_, rfl, ?_⟩; have n0_ := Aside0.mk (Kd.V_below (by (with_reducible repeat (first | apply Kd.V_alloc | apply Kd.V_drewN | apply Kd.V_drew)); exact HO759.out) hb); have n1_ := Aside0.mk (Kd.R_below (by (with_reducible repeat (first | apply Kd.R_alloc | apply Kd.R_drewN | apply Kd.R_drew)); exact HO762.out) hb); have n2_ := Aside0.mk (Kd.R_below (by (with_reducible repeat (first | apply Kd.R_alloc | apply Kd.R_drewN | apply Kd.R_drew)); exact HO767.out) hb); have n3_ := Aside0.mk (Kd.V_lower (Kd.V_mono (ok' := fun k_ => some k_ ≠ (.slice Ao9 t760.length co9 : Value).ownBlock ∧ some k_ ≠ (v766 : Value).ownBlock) ho0 (fun k_ hk_ => ⟨(Kd.fresh' (Kd.R_lt (by (with_reducible repeat (first | apply Kd.R_alloc | apply Kd.R_drewN | apply Kd.R_drew)); exact HO762.out)) k_ hk_), (Kd.fresh' (Kd.R_lt (by (with_reducible repeat (first | apply Kd.R_alloc | apply Kd.R_drewN | apply Kd.R_drew)); exact HO767.out)) k_ hk_)⟩)) (below_size (by repeat (first | (with_reducible first | exact HB.out | apply below_alloc | apply pw_below_drewN | apply below_drew1) | exact HB.out | exact Below.refl _ _)))); have n4_ := Aside0.mk (below_step (by repeat (first | (with_reducible first | exact HB.out | apply below_alloc | apply pw_below_drewN | apply below_drew1) | exact HB.out | exact Below.refl _ _)) hb); clear HO759; clear HO762; clear HO767; clear HB; have HO759 := n0_; have HO762 := n1_; have HO767 := n2_; have HO770 := n3_; have HB := n4_; clear n0_ n1_ n2_ n3_ n4_; (try clear hb); (try clear hb2); (try clear hk); (try clear hi); (try clear ho0)))
    (try simp only [Act.put, List.setIfInBounds_toArray, List.set_cons_zero, List.set_cons_succ])
    go_cut [62] (fun v62 wc => ∃ (kq : Nat) (x62_5 : Bool), v62 = .bool x62_5 ∧ Aside0 (laws_FnSetAdd.j0 kq t757 t760 t763 t764 t765 t768 t771 t772 x62_5 = some r) ∧ Aside0 (kq ≤ k) ∧ Aside0 (Kd.V Kd.string 9 wc w.heap.size (fun k_ => some k_ ≠ ((.slice Ao9 t760.length co9) : Value).ownBlock ∧ some k_ ≠ (v766 : Value).ownBlock) (.slice Ao8 t757.length co8) t757) ∧ Aside0 (Kd.R Kd.string 9 wc w.heap.size (fun k_ => some k_ ≠ (v766 : Value).ownBlock) (.slice Ao9 t760.length co9) t760) ∧ Aside0 (Kd.R Kd.string 9 wc w.heap.size (fun k_ => some k_ ≠ ((.slice Ao9 t760.length co9) : Value).ownBlock) v766 t763) ∧ Aside0 (Kd.V Kd.string 9 wc w.heap.size (fun k_ => some k_ ≠ ((.slice Ao9 t760.length co9) : Value).ownBlock ∧ some k_ ≠ (v766 : Value).ownBlock) v769 t768) ∧ Aside0 (Below w.heap.size w wc))
    case first =>
      have H := HC6.out
      clear HC6
      by_cases c12 : (t765 != t772) = true
      · rw [if_pos c12] at H
        have c12b0 : (t765 != t772) = true := c12
        (try (have c12b1 : decide (t765 = t772) = false := by simpa using c12))
        (try (have c12b2 : (t765 == t772) = false := by simpa using c12))
        (try (have c12b3 : ¬ (t765 = t772) := by simpa using c12))
        clear c12
        (first | rw [c12b0] | (simp only [i64_w, i32_w]; rw [c12b0]) | skip)
        have H' := Aside0.mk H
        clear H
        go_wp2
        go_meet
        case rel => exact ⟨_, (true), (by first | rfl | (simp; done) | (simp [*]; done)), H', ⟨by first | omega | exact Nat.le_refl _⟩, ⟨by (with_reducible repeat (first | apply Kd.V_alloc | apply Kd.V_drewN | apply Kd.V_drew)); exact HO759.out⟩, ⟨by (with_reducible repeat (first | apply Kd.R_alloc | apply Kd.R_drewN | apply Kd.R_drew)); exact Kd.R_mono HO762.out (fun _ hk => hk.2)⟩, ⟨by (with_reducible repeat (first | apply Kd.R_alloc | apply Kd.R_drewN | apply Kd.R_drew)); exact Kd.R_mono HO767.out (fun _ hk => hk.2)⟩, ⟨by (with_reducible repeat (first | apply Kd.V_alloc | apply Kd.V_drewN | apply Kd.V_drew)); exact HO770.out⟩, ⟨by repeat (first | (with_reducible first | exact HB.out | apply below_alloc | apply pw_below_drewN | apply below_drew1) | exact HB.out | exact Below.refl _ _)⟩⟩
      · rw [if_neg c12] at H
        have c12b0 : (t765 != t772) = false := by simpa using c12
        (try (have c12b1 : decide (t765 = t772) = true := by simpa using c12))
        (try (have c12b2 : (t765 == t772) = true := by simpa using c12))
        clear c12
        (first | rw [c12b0] | (simp only [i64_w, i32_w]; rw [c12b0]) | skip)
        by_cases c13 : t764 = t771
        · rw [if_pos c13] at H
          have c13b0 : (t764 == t771) = true := beq_iff_eq.mpr c13
          have c13b1 : (t764 != t771) = false := bne_eq_false_iff_eq.mpr c13
          clear c13
          replace H := Option.bind_eq_some_iff.mp H
          obtain ⟨t773, A140, H⟩ := H
          replace H : (if t773 = true then ((impl_SetOk.f k t757).bind fun t774 => ((spec_SetOk.f k t757).bind fun t775 => (if (t774 != t775) = true then (laws_FnSetAdd.j0 k t757 t760 t763 t764 t765 t768 t771 t772 true) else (laws_FnSetAdd.j0 k t757 t760 t763 t764 t765 t768 t771 t772 (!t765))))) else (laws_FnSetAdd.j0 k t757 t760 t763 t764 t765 t768 t771 t772 true)) = some r := H
          have A14 := Aside0.mk A140
          clear A140
          by_cases c15 : t773 = true
          · subst c15
            have H1 : ((impl_SetOk.f k t757).bind fun t774 => ((spec_SetOk.f k t757).bind fun t775 => (if (t774 != t775) = true then (laws_FnSetAdd.j0 k t757 t760 t763 t764 t765 t768 t771 t772 true) else (laws_FnSetAdd.j0 k t757 t760 t763 t764 t765 t768 t771 t772 (!t765))))) = some r := by rw [if_pos rfl] at H; exact H
            clear H
            have H := H1
            clear H1
            replace H := Option.bind_eq_some_iff.mp H
            obtain ⟨t774, A160, H⟩ := H
            replace H : ((spec_SetOk.f k t757).bind fun t775 => (if (t774 != t775) = true then (laws_FnSetAdd.j0 k t757 t760 t763 t764 t765 t768 t771 t772 true) else (laws_FnSetAdd.j0 k t757 t760 t763 t764 t765 t768 t771 t772 (!t765)))) = some r := H
            have A16 := Aside0.mk A160
            clear A160
            replace H := Option.bind_eq_some_iff.mp H
            obtain ⟨t775, A170, H⟩ := H
            replace H : (if (t774 != t775) = true then (laws_FnSetAdd.j0 k t757 t760 t763 t764 t765 t768 t771 t772 true) else (laws_FnSetAdd.j0 k t757 t760 t763 t764 t765 t768 t771 t772 (!t765))) = some r := H
            have A17 := Aside0.mk A170
            clear A170
            by_cases c18 : (t774 != t775) = true
            · rw [if_pos c18] at H
              have c18b0 : (t774 != t775) = true := c18
              (try (have c18b1 : decide (t774 = t775) = false := by simpa using c18))
              (try (have c18b2 : (t774 == t775) = false := by simpa using c18))
              (try (have c18b3 : ¬ (t774 = t775) := by simpa using c18))
              clear c18
              have H' := Aside0.mk H
              clear H
              obtain ⟨Ao19, co19, eo19⟩ := Kd.R_slice HO767.out
              subst eo19
              obtain ⟨Ao20, co20, eo20⟩ := Kd.V_slice HO770.out
              subst eo20
              go_wp2_with (first | (go_at_call 35; (with_reducible refine (laws_qxTexts.calls k _ _ t763 _ _ t768 true _ ?side1 ?side2 ?side3 ?side4 A14.out).mono ?_); (case side1 => repeat (first | exact (Kd.R_reads' HO767.out).2.2 | (with_reducible refine Kd.C_alloc ?_ _) | (with_reducible refine Kd.C_drewN ?_ _) | (with_reducible refine Kd.C_drew ?_))); (case side2 => exact (Kd.R_reads' HO767.out).2.1); (case side3 => repeat (first | exact (Kd.V_reads' HO770.out).2.2 | (with_reducible refine Kd.C_alloc ?_ _) | (with_reducible refine Kd.C_drewN ?_ _) | (with_reducible refine Kd.C_drew ?_))); (case side4 => exact (Kd.V_reads' HO770.out).2.1); rintro e w' ⟨rfl, ⟨nd, rfl⟩⟩) | (go_at_call 36; (with_reducible refine (impl_SetOk.calls k _ _ t757 t774 _ ?side1 ?side2 A16.out).mono ?_); (case side1 => repeat (first | exact (Kd.V_reads' HO759.out).2.2 | (with_reducible refine Kd.C_alloc ?_ _) | (with_reducible refine Kd.C_drewN ?_ _) | (with_reducible refine Kd.C_drew ?_))); (case side2 => exact (Kd.V_reads' HO759.out).2.1); rintro e w' ⟨rfl, ⟨nd, rfl⟩⟩) | (go_at_call 37; (with_reducible refine (spec_SetOk.calls k _ _ t757 t775 _ ?side1 ?side2 A17.out).mono ?_); (case side1 => repeat (first | exact (Kd.V_reads' HO759.out).2.2 | (with_reducible refine Kd.C_alloc ?_ _) | (with_reducible refine Kd.C_drewN ?_ _) | (with_reducible refine Kd.C_drew ?_))); (case side2 => exact (Kd.V_reads' HO759.out).2.1); rintro e w' ⟨rfl, ⟨nd, rfl⟩⟩))
              go_meet
              case rel => exact ⟨_, (true), (by first | rfl | (simp; done) | (simp [*]; done)), H', ⟨by first | omega | exact Nat.le_refl _⟩, ⟨by (with_reducible repeat (first | apply Kd.V_alloc | apply Kd.V_drewN | apply Kd.V_drew)); exact HO759.out⟩, ⟨by (with_reducible repeat (first | apply Kd.R_alloc | apply Kd.R_drewN | apply Kd.R_drew)); exact Kd.R_mono HO762.out (fun _ hk => hk.2)⟩, ⟨by (with_reducible repeat (first | apply Kd.R_alloc | apply Kd.R_drewN | apply Kd.R_drew)); exact Kd.R_mono HO767.out (fun _ hk => hk.2)⟩, ⟨by (with_reducible repeat (first | apply Kd.V_alloc | apply Kd.V_drewN | apply Kd.V_drew)); exact HO770.out⟩, ⟨by repeat (first | (with_reducible first | exact HB.out | apply below_alloc | apply pw_below_drewN | apply below_drew1) | exact HB.out | exact Below.refl _ _)⟩⟩
            · rw [if_neg c18] at H
              have c18b0 : (t774 != t775) = false := by simpa using c18
              (try (have c18b1 : decide (t774 = t775) = true := by simpa using c18))
              (try (have c18b2 : (t774 == t775) = true := by simpa using c18))
              clear c18
              have H' := Aside0.mk H
              clear H
              obtain ⟨Ao21, co21, eo21⟩ := Kd.R_slice HO767.out
              subst eo21
              obtain ⟨Ao22, co22, eo22⟩ := Kd.V_slice HO770.out
              subst eo22
              go_wp2_with (first | (go_at_call 35; (with_reducible refine (laws_qxTexts.calls k _ _ t763 _ _ t768 true _ ?side1 ?side2 ?side3 ?side4 A14.out).mono ?_); (case side1 => repeat (first | exact (Kd.R_reads' HO767.out).2.2 | (with_reducible refine Kd.C_alloc ?_ _) | (with_reducible refine Kd.C_drewN ?_ _) | (with_reducible refine Kd.C_drew ?_))); (case side2 => exact (Kd.R_reads' HO767.out).2.1); (case side3 => repeat (first | exact (Kd.V_reads' HO770.out).2.2 | (with_reducible refine Kd.C_alloc ?_ _) | (with_reducible refine Kd.C_drewN ?_ _) | (with_reducible refine Kd.C_drew ?_))); (case side4 => exact (Kd.V_reads' HO770.out).2.1); rintro e w' ⟨rfl, ⟨nd, rfl⟩⟩) | (go_at_call 36; (with_reducible refine (impl_SetOk.calls k _ _ t757 t774 _ ?side1 ?side2 A16.out).mono ?_); (case side1 => repeat (first | exact (Kd.V_reads' HO759.out).2.2 | (with_reducible refine Kd.C_alloc ?_ _) | (with_reducible refine Kd.C_drewN ?_ _) | (with_reducible refine Kd.C_drew ?_))); (case side2 => exact (Kd.V_reads' HO759.out).2.1); rintro e w' ⟨rfl, ⟨nd, rfl⟩⟩) | (go_at_call 37; (with_reducible refine (spec_SetOk.calls k _ _ t757 t775 _ ?side1 ?side2 A17.out).mono ?_); (case side1 => repeat (first | exact (Kd.V_reads' HO759.out).2.2 | (with_reducible refine Kd.C_alloc ?_ _) | (with_reducible refine Kd.C_drewN ?_ _) | (with_reducible refine Kd.C_drew ?_))); (case side2 => exact (Kd.V_reads' HO759.out).2.1); rintro e w' ⟨rfl, ⟨nd, rfl⟩⟩))
              go_meet
              case rel => exact ⟨_, (!t765), (by first | rfl | (simp; done) | (simp [*]; done)), H', ⟨by first | omega | exact Nat.le_refl _⟩, ⟨by (with_reducible repeat (first | apply Kd.V_alloc | apply Kd.V_drewN | apply Kd.V_drew)); exact HO759.out⟩, ⟨by (with_reducible repeat (first | apply Kd.R_alloc | apply Kd.R_drewN | apply Kd.R_drew)); exact Kd.R_mono HO762.out (fun _ hk => hk.2)⟩, ⟨by (with_reducible repeat (first | apply Kd.R_alloc | apply Kd.R_drewN | apply Kd.R_drew)); exact Kd.R_mono HO767.out (fun _ hk => hk.2)⟩, ⟨by (with_reducible repeat (first | apply Kd.V_alloc | apply Kd.V_drewN | apply Kd.V_drew)); exact HO770.out⟩, ⟨by repeat (first | (with_reducible first | exact HB.out | apply below_alloc | apply pw_below_drewN | apply below_drew1) | exact HB.out | exact Below.refl _ _)⟩⟩
          · replace c15 := Bool.eq_false_iff.mpr c15
            subst c15
            have H1 : (laws_FnSetAdd.j0 k t757 t760 t763 t764 t765 t768 t771 t772 true) = some r := by rw [if_neg (show ¬ (false = true) by decide)] at H; exact H
            clear H
            have H := H1
            clear H1
            have H' := Aside0.mk H
            clear H
            obtain ⟨Ao23, co23, eo23⟩ := Kd.R_slice HO767.out
            subst eo23
            obtain ⟨Ao24, co24, eo24⟩ := Kd.V_slice HO770.out
            subst eo24
            go_wp2_with (first | (go_at_call 35; (with_reducible refine (laws_qxTexts.calls k _ _ t763 _ _ t768 false _ ?side1 ?side2 ?side3 ?side4 A14.out).mono ?_); (case side1 => repeat (first | exact (Kd.R_reads' HO767.out).2.2 | (with_reducible refine Kd.C_alloc ?_ _) | (with_reducible refine Kd.C_drewN ?_ _) | (with_reducible refine Kd.C_drew ?_))); (case side2 => exact (Kd.R_reads' HO767.out).2.1); (case side3 => repeat (first | exact (Kd.V_reads' HO770.out).2.2 | (with_reducible refine Kd.C_alloc ?_ _) | (with_reducible refine Kd.C_drewN ?_ _) | (with_reducible refine Kd.C_drew ?_))); (case side4 => exact (Kd.V_reads' HO770.out).2.1); rintro e w' ⟨rfl, ⟨nd, rfl⟩⟩))
            go_meet
            case rel => exact ⟨_, (true), (by first | rfl | (simp; done) | (simp [*]; done)), H', ⟨by first | omega | exact Nat.le_refl _⟩, ⟨by (with_reducible repeat (first | apply Kd.V_alloc | apply Kd.V_drewN | apply Kd.V_drew)); exact HO759.out⟩, ⟨by (with_reducible repeat (first | apply Kd.R_alloc | apply Kd.R_drewN | apply Kd.R_drew)); exact Kd.R_mono HO762.out (fun _ hk => hk.2)⟩, ⟨by (with_reducible repeat (first | apply Kd.R_alloc | apply Kd.R_drewN | apply Kd.R_drew)); exact Kd.R_mono HO767.out (fun _ hk => hk.2)⟩, ⟨by (with_reducible repeat (first | apply Kd.V_alloc | apply Kd.V_drewN | apply Kd.V_drew)); exact HO770.out⟩, ⟨by repeat (first | (with_reducible first | exact HB.out | apply below_alloc | apply pw_below_drewN | apply below_drew1) | exact HB.out | exact Below.refl _ _)⟩⟩
        · rw [if_neg c13] at H
          have c13b0 : (t764 == t771) = false := beq_eq_false_iff_ne.mpr c13
          have c13b1 : (t764 != t771) = true := bne_iff_ne.mpr c13
          have H' := Aside0.mk H
          clear H
          go_wp2
          go_meet
          case rel => exact ⟨_, (true), (by first | rfl | (simp; done) | (simp [*]; done)), H', ⟨by first | omega | exact Nat.le_refl _⟩, ⟨by (with_reducible repeat (first | apply Kd.V_alloc | apply Kd.V_drewN | apply Kd.V_drew)); exact HO759.out⟩, ⟨by (with_reducible repeat (first | apply Kd.R_alloc | apply Kd.R_drewN | apply Kd.R_drew)); exact Kd.R_mono HO762.out (fun _ hk => hk.2)⟩, ⟨by (with_reducible repeat (first | apply Kd.R_alloc | apply Kd.R_drewN | apply Kd.R_drew)); exact Kd.R_mono HO767.out (fun _ hk => hk.2)⟩, ⟨by (with_reducible repeat (first | apply Kd.V_alloc | apply Kd.V_drewN | apply Kd.V_drew)); exact HO770.out⟩, ⟨by repeat (first | (with_reducible first | exact HB.out | apply below_alloc | apply pw_below_drewN | apply below_drew1) | exact HB.out | exact Below.refl _ _)⟩⟩
    case rest =>
      clear HC6
      try clear c1
      try clear c2
      try clear c2b0
      try clear c2b1
      try clear p2
      try clear c3
      try clear c7
      try clear c12
      try clear c12b0
      try clear c12b1
      try clear c12b2
      try clear c13
      try clear c13b0
      try clear c13b1
      try clear c15
      try clear c17
      try clear c18
      try clear c18b0
      try clear c18b1
      try clear c18b2
      obtain ⟨kq, x62_5, rfl, HA, HJ5, HO_3, HO_4, HO_5, HO_8, HB⟩ := hcut
      cases kq with
      | zero => exact absurd HA.out (by simp [laws_FnSetAdd.j0])
      | succ kj5 =>
        have H := HA.out
        clear HA
        simp only [laws_FnSetAdd.j0] at H
        by_cases c25 : x62_5 = true
        · subst c25
          have H1 : (if (t765 == t772) = true then (if t764 = t771 then ((laws_qxTexts.f kj5 t763 t768).bind fun t776 => (if t776 = true then ((impl_SetOk.f kj5 t757).bind fun t777 => ((spec_SetOk.f kj5 t757).bind fun t778 => (some (t777 == t778)))) else (some false))) else (some false)) else (some false)) = some r := by rw [if_pos rfl] at H; exact H
          clear H
          have H := H1
          clear H1
          by_cases c26 : (t765 == t772) = true
          · rw [if_pos c26] at H
            have c26b0 : (t765 == t772) = true := c26
            (try (have c26b1 : decide (t765 = t772) = true := by simpa using c26))
            (try (have c26b2 : (t765 == t772) = true := by simpa using c26))
            clear c26
            by_cases c27 : t764 = t771
            · rw [if_pos c27] at H
              have c27b0 : (t764 == t771) = true := beq_iff_eq.mpr c27
              have c27b1 : (t764 != t771) = false := bne_eq_false_iff_eq.mpr c27
              clear c27
              replace H := Option.bind_eq_some_iff.mp H
              obtain ⟨t776, A280, H⟩ := H
              replace H : (if t776 = true then ((impl_SetOk.f kj5 t757).bind fun t777 => ((spec_SetOk.f kj5 t757).bind fun t778 => (some (t777 == t778)))) else (some false)) = some r := H
              have A28 := Aside0.mk A280
              clear A280
              by_cases c29 : t776 = true
              · subst c29
                have H1 : ((impl_SetOk.f kj5 t757).bind fun t777 => ((spec_SetOk.f kj5 t757).bind fun t778 => (some (t777 == t778)))) = some r := by rw [if_pos rfl] at H; exact H
                clear H
                have H := H1
                clear H1
                replace H := Option.bind_eq_some_iff.mp H
                obtain ⟨t777, A300, H⟩ := H
                replace H : ((spec_SetOk.f kj5 t757).bind fun t778 => (some (t777 == t778))) = some r := H
                have A30 := Aside0.mk A300
                clear A300
                replace H := Option.bind_eq_some_iff.mp H
                obtain ⟨t778, A310, H⟩ := H
                replace H : (some (t777 == t778)) = some r := H
                have A31 := Aside0.mk A310
                clear A310
                obtain rfl := Option.some.inj H
                obtain ⟨Ao32, co32, eo32⟩ := Kd.R_slice HO_5.out
                subst eo32
                obtain ⟨Ao33, co33, eo33⟩ := Kd.V_slice HO_8.out
                subst eo33
                go_wp2_with (first | (go_at_call 35; (with_reducible refine (laws_qxTexts.calls kj5 _ _ t763 _ _ t768 true _ ?side1 ?side2 ?side3 ?side4 A28.out).mono ?_); (case side1 => repeat (first | exact (Kd.R_reads' HO_5.out).2.2 | (with_reducible refine Kd.C_alloc ?_ _) | (with_reducible refine Kd.C_drewN ?_ _) | (with_reducible refine Kd.C_drew ?_))); (case side2 => exact (Kd.R_reads' HO_5.out).2.1); (case side3 => repeat (first | exact (Kd.V_reads' HO_8.out).2.2 | (with_reducible refine Kd.C_alloc ?_ _) | (with_reducible refine Kd.C_drewN ?_ _) | (with_reducible refine Kd.C_drew ?_))); (case side4 => exact (Kd.V_reads' HO_8.out).2.1); rintro e w' ⟨rfl, ⟨nd, rfl⟩⟩) | (go_at_call 36; (with_reducible refine (impl_SetOk.calls kj5 _ _ t757 t777 _ ?side1 ?side2 A30.out).mono ?_); (case side1 => repeat (first | exact (Kd.V_reads' HO_3.out).2.2 | (with_reducible refine Kd.C_alloc ?_ _) | (with_reducible refine Kd.C_drewN ?_ _) | (with_reducible refine Kd.C_drew ?_))); (case side2 => exact (Kd.V_reads' HO_3.out).2.1); rintro e w' ⟨rfl, ⟨nd, rfl⟩⟩) | (go_at_call 37; (with_reducible refine (spec_SetOk.calls kj5 _ _ t757 t778 _ ?side1 ?side2 A31.out).mono ?_); (case side1 => repeat (first | exact (Kd.V_reads' HO_3.out).2.2 | (with_reducible refine Kd.C_alloc ?_ _) | (with_reducible refine Kd.C_drewN ?_ _) | (with_reducible refine Kd.C_drew ?_))); (case side2 => exact (Kd.V_reads' HO_3.out).2.1); rintro e w' ⟨rfl, ⟨nd, rfl⟩⟩))
                go_ret
                exact ⟨by first | rfl | (simp [errW_none, errW_some] <;> rfl) | (simp [*, errW_none, errW_some] <;> rfl), by repeat (first | (with_reducible first | exact HB.out | apply below_alloc | apply pw_below_drewN | apply below_drew1) | exact HB.out | exact Below.refl _ _)⟩
              · replace c29 := Bool.eq_false_iff.mpr c29
                subst c29
                have H1 : (some false) = some r := by rw [if_neg (show ¬ (false = true) by decide)] at H; exact H
                clear H
                have H := H1
                clear H1
                obtain rfl := Option.some.inj H
                obtain ⟨Ao34, co34, eo34⟩ := Kd.R_slice HO_5.out
                subst eo34
                obtain ⟨Ao35, co35, eo35⟩ := Kd.V_slice HO_8.out
                subst eo35
                go_wp2_with (first | (go_at_call 35; (with_reducible refine (laws_qxTexts.calls kj5 _ _ t763 _ _ t768 false _ ?side1 ?side2 ?side3 ?side4 A28.out).mono ?_); (case side1 => repeat (first | exact (Kd.R_reads' HO_5.out).2.2 | (with_reducible refine Kd.C_alloc ?_ _) | (with_reducible refine Kd.C_drewN ?_ _) | (with_reducible refine Kd.C_drew ?_))); (case side2 => exact (Kd.R_reads' HO_5.out).2.1); (case side3 => repeat (first | exact (Kd.V_reads' HO_8.out).2.2 | (with_reducible refine Kd.C_alloc ?_ _) | (with_reducible refine Kd.C_drewN ?_ _) | (with_reducible refine Kd.C_drew ?_))); (case side4 => exact (Kd.V_reads' HO_8.out).2.1); rintro e w' ⟨rfl, ⟨nd, rfl⟩⟩))
                go_ret
                exact ⟨by first | rfl | (simp [errW_none, errW_some] <;> rfl) | (simp [*, errW_none, errW_some] <;> rfl), by repeat (first | (with_reducible first | exact HB.out | apply below_alloc | apply pw_below_drewN | apply below_drew1) | exact HB.out | exact Below.refl _ _)⟩
            · rw [if_neg c27] at H
              have c27b0 : (t764 == t771) = false := beq_eq_false_iff_ne.mpr c27
              have c27b1 : (t764 != t771) = true := bne_iff_ne.mpr c27
              obtain rfl := Option.some.inj H
              go_wp2
              go_ret
              exact ⟨by first | rfl | (simp [errW_none, errW_some] <;> rfl) | (simp [*, errW_none, errW_some] <;> rfl), by repeat (first | (with_reducible first | exact HB.out | apply below_alloc | apply pw_below_drewN | apply below_drew1) | exact HB.out | exact Below.refl _ _)⟩
          · rw [if_neg c26] at H
            have c26b0 : (t765 == t772) = false := by simpa using c26
            (try (have c26b1 : decide (t765 = t772) = false := by simpa using c26))
            (try (have c26b2 : (t765 == t772) = false := by simpa using c26))
            (try (have c26b3 : ¬ (t765 = t772) := by simpa using c26))
            clear c26
            obtain rfl := Option.some.inj H
            go_wp2
            go_ret
            exact ⟨by first | rfl | (simp [errW_none, errW_some] <;> rfl) | (simp [*, errW_none, errW_some] <;> rfl), by repeat (first | (with_reducible first | exact HB.out | apply below_alloc | apply pw_below_drewN | apply below_drew1) | exact HB.out | exact Below.refl _ _)⟩
        · replace c25 := Bool.eq_false_iff.mpr c25
          subst c25
          have H1 : (laws_FnSetAdd.l0 kj5 t757 t760 t763 t764 0) = some r := by rw [if_neg (show ¬ (false = true) by decide)] at H; exact H
          clear H
          have H := H1
          clear H1
          have H' := Aside0.mk H
          clear H
          go_wp2
          go_loopg [11] kj5 (fun kq v11 w' => ∃ (x11_2 : Int), v11 = .int .i64 x11_2 ∧ Aside0 (laws_FnSetAdd.l0 kq t757 t760 t763 t764 x11_2 = some r) ∧ Aside0 (kq ≤ kj5) ∧ Aside0 (Kd.V Kd.string 9 w' w.heap.size (fun k_ => some k_ ≠ ((.slice Ao9 t760.length co9) : Value).ownBlock ∧ some k_ ≠ (v766 : Value).ownBlock) (.slice Ao8 t757.length co8) t757) ∧ Aside0 (Kd.R Kd.string 9 w' w.heap.size (fun k_ => some k_ ≠ (v766 : Value).ownBlock) (.slice Ao9 t760.length co9) t760) ∧ Aside0 (Kd.R Kd.string 9 w' w.heap.size (fun k_ => some k_ ≠ ((.slice Ao9 t760.length co9) : Value).ownBlock) v766 t763) ∧ Aside0 (Below w.heap.size w w'))
          case atStart => exact ⟨(0), (by first | rfl | (simp; done) | (simp [*]; done)), H', ⟨Nat.le_refl _⟩, ⟨by (with_reducible repeat (first | apply Kd.V_alloc | apply Kd.V_drewN | apply Kd.V_drew)); exact HO_3.out⟩, ⟨by (with_reducible repeat (first | apply Kd.R_alloc | apply Kd.R_drewN | apply Kd.R_drew)); exact HO_4.out⟩, ⟨by (with_reducible repeat (first | apply Kd.R_alloc | apply Kd.R_drewN | apply Kd.R_drew)); exact HO_5.out⟩, ⟨by repeat (first | (with_reducible first | exact HB.out | apply below_alloc | apply pw_below_drewN | apply below_drew1) | exact HB.out | exact Below.refl _ _)⟩⟩
          case round =>
            clear H'
            try clear c1
            try clear c2
            try clear c2b0
            try clear c2b1
            try clear p2
            try clear c3
            try clear c7
            try clear c12
            try clear c12b0
            try clear c12b1
            try clear c12b2
            try clear c13
            try clear c13b0
            try clear c13b1
            try clear c15
            try clear c17
            try clear c18
            try clear c18b0
            try clear c18b1
            try clear c18b2
            try clear c25
            try clear c26
            try clear c26b0
            try clear c26b1
            try clear c26b2
            try clear c27
            try clear c27b0
            try clear c27b1
            try clear c29
            try clear c34
            try clear p2
            obtain ⟨x11_2, rfl, HA, HK2, HO_3, HO_4, HO_5, HB⟩ := hrel
            cases gk with
            | zero => exact absurd HA.out (by simp [laws_FnSetAdd.l0])
            | succ k2 =>
              have H := HA.out
              clear HA
              simp only [laws_FnSetAdd.l0] at H
              by_cases c36 : x11_2 < (t760.length : Int)
              · rw [if_pos c36] at H
                have c36b0 : decide (x11_2 < (t760.length : Int)) = true := decide_eq_true c36
                clear c36
                by_cases c37 : 0 ≤ x11_2
                · rw [if_pos c37] at H
                  have c37b0 : decide (0 ≤ x11_2) = true := decide_eq_true c37
                  clear c37
                  replace H := Option.bind_eq_some_iff.mp H
                  obtain ⟨t780, A380, H⟩ := H
                  replace H : (if t780 = true then (laws_FnSetAdd.l0 k2 t757 t760 t763 t764 (wrap64 (x11_2 + 1))) else (some false)) = some r := H
                  have A38 := Aside0.mk A380
                  clear A380
                  by_cases c39 : t780 = true
                  · subst c39
                    have H1 : (laws_FnSetAdd.l0 k2 t757 t760 t763 t764 (wrap64 (x11_2 + 1))) = some r := by rw [if_pos rfl] at H; exact H
                    clear H
                    have H := H1
                    clear H1
                    have H' := Aside0.mk H
                    clear H
                    have p779 : 0 ≤ (x11_2 : Int) := of_decide_eq_true (by first | (with_reducible assumption) | assumption)
                    have q779 : x11_2 < (t760.length : Int) := of_decide_eq_true (by first | (with_reducible assumption) | assumption)
                    obtain ⟨ad779, e779, hx779_0⟩ := Kd.at_string (Kd.R_reads' HO_4.out).2.2 x11_2 p779 q779
                    cases e779
                    replace p779 := eq_true p779
                    replace q779 := eq_true q779
                    obtain ⟨Ao40, co40, eo40⟩ := Kd.R_slice HO_5.out
                    subst eo40
                    go_wp2_with (first | ((with_reducible refine gate_callee (f := 38) rfl ?_); refine goesL_ (some 94) rfl rfl Try.func38 (by kernel_rfl) rfl #[.slice Ao40 t763.length co40, .string (rdOf ByteArray.empty t760 x11_2)] rfl (by (try simp only [List.map_toArray, List.map_cons, List.map_nil]); first | done | rfl | (simp only [List.length_drop, List.length_take]; rfl)) ?_; (with_reducible refine (laws_qxHas.calls k2 _ _ t763 (rdOf ByteArray.empty t760 x11_2) true _ ?side1 ?side2 A38.out).mono ?_); (case side1 => repeat (first | exact (Kd.R_reads' HO_5.out).2.2 | (with_reducible refine Kd.C_alloc ?_ _) | (with_reducible refine Kd.C_drewN ?_ _) | (with_reducible refine Kd.C_drew ?_))); (case side2 => exact (Kd.R_reads' HO_5.out).2.1); rintro e w' ⟨rfl, ⟨nd, rfl⟩⟩; refine ⟨_, rfl, ?_⟩))
                    go_roundg k2
                    case measure => have := HJ5.out; have := HK2.out; omega
                    case rel => exact ⟨(wrap64 (x11_2 + 1)), (by first | rfl | (simp; done) | (simp [*]; done)), H', ⟨by have := HJ5.out; have := HK2.out; omega⟩, ⟨by (with_reducible repeat (first | apply Kd.V_alloc | apply Kd.V_drewN | apply Kd.V_drew)); exact HO_3.out⟩, ⟨by (with_reducible repeat (first | apply Kd.R_alloc | apply Kd.R_drewN | apply Kd.R_drew)); exact HO_4.out⟩, ⟨by (with_reducible repeat (first | apply Kd.R_alloc | apply Kd.R_drewN | apply Kd.R_drew)); exact HO_5.out⟩, ⟨by repeat (first | (with_reducible first | exact HB.out | apply below_alloc | apply pw_below_drewN | apply below_drew1) | exact HB.out | exact Below.refl _ _)⟩⟩
                  · replace c39 := Bool.eq_false_iff.mpr c39
                    subst c39
                    have H1 : (some false) = some r := by rw [if_neg (show ¬ (false = true) by decide)] at H; exact H
                    clear H
                    have H := H1
                    clear H1
                    obtain rfl := Option.some.inj H
                    have p779 : 0 ≤ (x11_2 : Int) := of_decide_eq_true (by first | (with_reducible assumption) | assumption)
                    have q779 : x11_2 < (t760.length : Int) := of_decide_eq_true (by first | (with_reducible assumption) | assumption)
                    obtain ⟨ad779, e779, hx779_0⟩ := Kd.at_string (Kd.R_reads' HO_4.out).2.2 x11_2 p779 q779
                    cases e779
                    replace p779 := eq_true p779
                    replace q779 := eq_true q779
                    obtain ⟨Ao41, co41, eo41⟩ := Kd.R_slice HO_5.out
                    subst eo41
                    go_wp2_with (first | ((with_reducible refine gate_callee (f := 38) rfl ?_); refine goesL_ (some 94) rfl rfl Try.func38 (by kernel_rfl) rfl #[.slice Ao41 t763.length co41, .string (rdOf ByteArray.empty t760 x11_2)] rfl (by (try simp only [List.map_toArray, List.map_cons, List.map_nil]); first | done | rfl | (simp only [List.length_drop, List.length_take]; rfl)) ?_; (with_reducible refine (laws_qxHas.calls k2 _ _ t763 (rdOf ByteArray.empty t760 x11_2) false _ ?side1 ?side2 A38.out).mono ?_); (case side1 => repeat (first | exact (Kd.R_reads' HO_5.out).2.2 | (with_reducible refine Kd.C_alloc ?_ _) | (with_reducible refine Kd.C_drewN ?_ _) | (with_reducible refine Kd.C_drew ?_))); (case side2 => exact (Kd.R_reads' HO_5.out).2.1); rintro e w' ⟨rfl, ⟨nd, rfl⟩⟩; refine ⟨_, rfl, ?_⟩))
                    go_ret
                    exact ⟨by first | rfl | (simp [errW_none, errW_some] <;> rfl) | (simp [*, errW_none, errW_some] <;> rfl), by repeat (first | (with_reducible first | exact HB.out | apply below_alloc | apply pw_below_drewN | apply below_drew1) | exact HB.out | exact Below.refl _ _)⟩
                · rw [if_neg c37] at H
                  exact absurd H (by simp)
              · rw [if_neg c36] at H
                have c36b0 : decide (x11_2 < (t760.length : Int)) = false := decide_eq_false c36
                clear c36
                have H' := Aside0.mk H
                clear H
                go_wp2
                go_loopg [12] k2 (fun kq v12 w' => ∃ (x12_3 : Int), v12 = .int .i64 x12_3 ∧ Aside0 (laws_FnSetAdd.l1 kq t757 t760 t763 t764 x12_3 = some r) ∧ Aside0 (kq ≤ k2) ∧ Aside0 (Kd.V Kd.string 9 w' w.heap.size (fun k_ => some k_ ≠ ((.slice Ao9 t760.length co9) : Value).ownBlock ∧ some k_ ≠ (v766 : Value).ownBlock) (.slice Ao8 t757.length co8) t757) ∧ Aside0 (Kd.R Kd.string 9 w' w.heap.size (fun k_ => some k_ ≠ (v766 : Value).ownBlock) (.slice Ao9 t760.length co9) t760) ∧ Aside0 (Kd.R Kd.string 9 w' w.heap.size (fun k_ => some k_ ≠ ((.slice Ao9 t760.length co9) : Value).ownBlock) v766 t763) ∧ Aside0 (Below w.heap.size w w'))
                case atStart => exact ⟨(0), (by first | rfl | (simp; done) | (simp [*]; done)), H', ⟨Nat.le_refl _⟩, ⟨by (with_reducible repeat (first | apply Kd.V_alloc | apply Kd.V_drewN | apply Kd.V_drew)); exact HO_3.out⟩, ⟨by (with_reducible repeat (first | apply Kd.R_alloc | apply Kd.R_drewN | apply Kd.R_drew)); exact HO_4.out⟩, ⟨by (with_reducible repeat (first | apply Kd.R_alloc | apply Kd.R_drewN | apply Kd.R_drew)); exact HO_5.out⟩, ⟨by repeat (first | (with_reducible first | exact HB.out | apply below_alloc | apply pw_below_drewN | apply below_drew1) | exact HB.out | exact Below.refl _ _)⟩⟩
                case round =>
                  clear H'
                  try clear c1
                  try clear c2
                  try clear c2b0
                  try clear c2b1
                  try clear p2
                  try clear c3
                  try clear p6
                  try clear c7
                  try clear p7
                  try clear q7
                  try clear hx7
                  try clear c12
                  try clear c12b0
                  try clear c12b1
                  try clear c12b2
                  try clear c13
                  try clear c13b0
                  try clear c13b1
                  try clear c15
                  try clear c17
                  try clear c18
                  try clear c18b0
                  try clear c18b1
                  try clear c18b2
                  try clear c25
                  try clear c26
                  try clear c26b0
                  try clear c26b1
                  try clear c26b2
                  try clear c27
                  try clear c27b0
                  try clear c27b1
                  try clear c29
                  try clear c34
                  try clear c36
                  try clear c36b0
                  try clear c37
                  try clear c37b0
                  try clear c38
                  try clear c39
                  try clear hx779_0
                  try clear p2
                  try clear p779
                  try clear q779
                  obtain ⟨x12_3, rfl, HA, HK3, HO_3, HO_4, HO_5, HB⟩ := hrel
                  cases gk with
                  | zero => exact absurd HA.out (by simp [laws_FnSetAdd.l1])
                  | succ k3 =>
                    have H := HA.out
                    clear HA
                    simp only [laws_FnSetAdd.l1] at H
                    by_cases c42 : x12_3 < (t763.length : Int)
                    · rw [if_pos c42] at H
                      have c42b0 : decide (x12_3 < (t763.length : Int)) = true := decide_eq_true c42
                      clear c42
                      by_cases c43 : 0 ≤ x12_3
                      · rw [if_pos c43] at H
                        have c43b0 : decide (0 ≤ x12_3) = true := decide_eq_true c43
                        clear c43
                        replace H := Option.bind_eq_some_iff.mp H
                        obtain ⟨t789, A440, H⟩ := H
                        replace H : (if t789 = true then (laws_FnSetAdd.l1 k3 t757 t760 t763 t764 (wrap64 (x12_3 + 1))) else ((laws_qxHas.f k3 t760 (rdOf ByteArray.empty t763 x12_3)).bind fun t791 => (if t791 = true then (laws_FnSetAdd.l1 k3 t757 t760 t763 t764 (wrap64 (x12_3 + 1))) else (some false)))) = some r := H
                        have A44 := Aside0.mk A440
                        clear A440
                        by_cases c45 : t789 = true
                        · subst c45
                          have H1 : (laws_FnSetAdd.l1 k3 t757 t760 t763 t764 (wrap64 (x12_3 + 1))) = some r := by rw [if_pos rfl] at H; exact H
                          clear H
                          have H := H1
                          clear H1
                          have H' := Aside0.mk H
                          clear H
                          obtain ⟨Ao46, co46, eo46⟩ := Kd.R_slice HO_5.out
                          subst eo46
                          have p788 : 0 ≤ (x12_3 : Int) := of_decide_eq_true (by first | (with_reducible assumption) | assumption)
                          have q788 : x12_3 < (t763.length : Int) := of_decide_eq_true (by first | (with_reducible assumption) | assumption)
                          obtain ⟨ad788, e788, hx788_0⟩ := Kd.at_string (Kd.R_reads' HO_5.out).2.2 x12_3 p788 q788
                          cases e788
                          replace p788 := eq_true p788
                          replace q788 := eq_true q788
                          go_wp2_with (first | ((with_reducible refine gate_callee (f := 38) rfl ?_); refine goesL_ (some 107) rfl rfl Try.func38 (by kernel_rfl) rfl #[.slice Ao8 t757.length co8, .string (rdOf ByteArray.empty t763 x12_3)] rfl (by (try simp only [List.map_toArray, List.map_cons, List.map_nil]); first | done | rfl | (simp only [List.length_drop, List.length_take]; rfl)) ?_; (with_reducible refine (laws_qxHas.calls k3 _ _ t757 (rdOf ByteArray.empty t763 x12_3) true _ ?side1 ?side2 A44.out).mono ?_); (case side1 => repeat (first | exact (Kd.V_reads' HO_3.out).2.2 | (with_reducible refine Kd.C_alloc ?_ _) | (with_reducible refine Kd.C_drewN ?_ _) | (with_reducible refine Kd.C_drew ?_))); (case side2 => exact (Kd.V_reads' HO_3.out).2.1); rintro e w' ⟨rfl, ⟨nd, rfl⟩⟩; refine ⟨_, rfl, ?_⟩))
                          go_roundg k3
                          case measure => have := HJ5.out; have := HK2.out; have := HK3.out; omega
                          case rel => exact ⟨(wrap64 (x12_3 + 1)), (by first | rfl | (simp; done) | (simp [*]; done)), H', ⟨by have := HJ5.out; have := HK2.out; have := HK3.out; omega⟩, ⟨by (with_reducible repeat (first | apply Kd.V_alloc | apply Kd.V_drewN | apply Kd.V_drew)); exact HO_3.out⟩, ⟨by (with_reducible repeat (first | apply Kd.R_alloc | apply Kd.R_drewN | apply Kd.R_drew)); exact HO_4.out⟩, ⟨by (with_reducible repeat (first | apply Kd.R_alloc | apply Kd.R_drewN | apply Kd.R_drew)); exact HO_5.out⟩, ⟨by repeat (first | (with_reducible first | exact HB.out | apply below_alloc | apply pw_below_drewN | apply below_drew1) | exact HB.out | exact Below.refl _ _)⟩⟩
                        · replace c45 := Bool.eq_false_iff.mpr c45
                          subst c45
                          have H1 : ((laws_qxHas.f k3 t760 (rdOf ByteArray.empty t763 x12_3)).bind fun t791 => (if t791 = true then (laws_FnSetAdd.l1 k3 t757 t760 t763 t764 (wrap64 (x12_3 + 1))) else (some false))) = some r := by rw [if_neg (show ¬ (false = true) by decide)] at H; exact H
                          clear H
                          have H := H1
                          clear H1
                          replace H := Option.bind_eq_some_iff.mp H
                          obtain ⟨t791, A470, H⟩ := H
                          replace H : (if t791 = true then (laws_FnSetAdd.l1 k3 t757 t760 t763 t764 (wrap64 (x12_3 + 1))) else (some false)) = some r := H
                          have A47 := Aside0.mk A470
                          clear A470
                          by_cases c48 : t791 = true
                          · subst c48
                            have H1 : (laws_FnSetAdd.l1 k3 t757 t760 t763 t764 (wrap64 (x12_3 + 1))) = some r := by rw [if_pos rfl] at H; exact H
                            clear H
                            have H := H1
                            clear H1
                            have H' := Aside0.mk H
                            clear H
                            obtain ⟨Ao49, co49, eo49⟩ := Kd.R_slice HO_5.out
                            subst eo49
                            have p788 : 0 ≤ (x12_3 : Int) := of_decide_eq_true (by first | (with_reducible assumption) | assumption)
                            have q788 : x12_3 < (t763.length : Int) := of_decide_eq_true (by first | (with_reducible assumption) | assumption)
                            obtain ⟨ad788, e788, hx788_0⟩ := Kd.at_string (Kd.R_reads' HO_5.out).2.2 x12_3 p788 q788
                            cases e788
                            replace p788 := eq_true p788
                            replace q788 := eq_true q788
                            go_wp2_with (first | ((with_reducible refine gate_callee (f := 38) rfl ?_); refine goesL_ (some 107) rfl rfl Try.func38 (by kernel_rfl) rfl #[.slice Ao8 t757.length co8, .string (rdOf ByteArray.empty t763 x12_3)] rfl (by (try simp only [List.map_toArray, List.map_cons, List.map_nil]); first | done | rfl | (simp only [List.length_drop, List.length_take]; rfl)) ?_; (with_reducible refine (laws_qxHas.calls k3 _ _ t757 (rdOf ByteArray.empty t763 x12_3) false _ ?side1 ?side2 A44.out).mono ?_); (case side1 => repeat (first | exact (Kd.V_reads' HO_3.out).2.2 | (with_reducible refine Kd.C_alloc ?_ _) | (with_reducible refine Kd.C_drewN ?_ _) | (with_reducible refine Kd.C_drew ?_))); (case side2 => exact (Kd.V_reads' HO_3.out).2.1); rintro e w' ⟨rfl, ⟨nd, rfl⟩⟩; refine ⟨_, rfl, ?_⟩; have p790 : 0 ≤ (x12_3 : Int) := of_decide_eq_true (by first | (with_reducible assumption) | assumption); have q790 : x12_3 < (t763.length : Int) := of_decide_eq_true (by first | (with_reducible assumption) | assumption); obtain ⟨ad790, e790, hx790_0⟩ := Kd.at_string (Kd.R_reads' HO_5.out).2.2 x12_3 p790 q790; obtain rfl : ad788 = ad790 := (by injection e790); replace p790 := eq_true p790; replace q790 := eq_true q790) | (go_at_call 38; (with_reducible refine (laws_qxHas.calls k3 _ _ t760 (rdOf ByteArray.empty t763 x12_3) true _ ?side1 ?side2 A47.out).mono ?_); (case side1 => repeat (first | exact (Kd.R_reads' HO_4.out).2.2 | (with_reducible refine Kd.C_alloc ?_ _) | (with_reducible refine Kd.C_drewN ?_ _) | (with_reducible refine Kd.C_drew ?_))); (case side2 => exact (Kd.R_reads' HO_4.out).2.1); rintro e w' ⟨rfl, ⟨nd, rfl⟩⟩))
                            go_roundg k3
                            case measure => have := HJ5.out; have := HK2.out; have := HK3.out; omega
                            case rel => exact ⟨(wrap64 (x12_3 + 1)), (by first | rfl | (simp; done) | (simp [*]; done)), H', ⟨by have := HJ5.out; have := HK2.out; have := HK3.out; omega⟩, ⟨by (with_reducible repeat (first | apply Kd.V_alloc | apply Kd.V_drewN | apply Kd.V_drew)); exact HO_3.out⟩, ⟨by (with_reducible repeat (first | apply Kd.R_alloc | apply Kd.R_drewN | apply Kd.R_drew)); exact HO_4.out⟩, ⟨by (with_reducible repeat (first | apply Kd.R_alloc | apply Kd.R_drewN | apply Kd.R_drew)); exact HO_5.out⟩, ⟨by repeat (first | (with_reducible first | exact HB.out | apply below_alloc | apply pw_below_drewN | apply below_drew1) | exact HB.out | exact Below.refl _ _)⟩⟩
                          · replace c48 := Bool.eq_false_iff.mpr c48
                            subst c48
                            have H1 : (some false) = some r := by rw [if_neg (show ¬ (false = true) by decide)] at H; exact H
                            clear H
                            have H := H1
                            clear H1
                            obtain rfl := Option.some.inj H
                            obtain ⟨Ao50, co50, eo50⟩ := Kd.R_slice HO_5.out
                            subst eo50
                            have p788 : 0 ≤ (x12_3 : Int) := of_decide_eq_true (by first | (with_reducible assumption) | assumption)
                            have q788 : x12_3 < (t763.length : Int) := of_decide_eq_true (by first | (with_reducible assumption) | assumption)
                            obtain ⟨ad788, e788, hx788_0⟩ := Kd.at_string (Kd.R_reads' HO_5.out).2.2 x12_3 p788 q788
                            cases e788
                            replace p788 := eq_true p788
                            replace q788 := eq_true q788
                            go_wp2_with (first | ((with_reducible refine gate_callee (f := 38) rfl ?_); refine goesL_ (some 107) rfl rfl Try.func38 (by kernel_rfl) rfl #[.slice Ao8 t757.length co8, .string (rdOf ByteArray.empty t763 x12_3)] rfl (by (try simp only [List.map_toArray, List.map_cons, List.map_nil]); first | done | rfl | (simp only [List.length_drop, List.length_take]; rfl)) ?_; (with_reducible refine (laws_qxHas.calls k3 _ _ t757 (rdOf ByteArray.empty t763 x12_3) false _ ?side1 ?side2 A44.out).mono ?_); (case side1 => repeat (first | exact (Kd.V_reads' HO_3.out).2.2 | (with_reducible refine Kd.C_alloc ?_ _) | (with_reducible refine Kd.C_drewN ?_ _) | (with_reducible refine Kd.C_drew ?_))); (case side2 => exact (Kd.V_reads' HO_3.out).2.1); rintro e w' ⟨rfl, ⟨nd, rfl⟩⟩; refine ⟨_, rfl, ?_⟩; have p790 : 0 ≤ (x12_3 : Int) := of_decide_eq_true (by first | (with_reducible assumption) | assumption); have q790 : x12_3 < (t763.length : Int) := of_decide_eq_true (by first | (with_reducible assumption) | assumption); obtain ⟨ad790, e790, hx790_0⟩ := Kd.at_string (Kd.R_reads' HO_5.out).2.2 x12_3 p790 q790; obtain rfl : ad788 = ad790 := (by injection e790); replace p790 := eq_true p790; replace q790 := eq_true q790) | (go_at_call 38; (with_reducible refine (laws_qxHas.calls k3 _ _ t760 (rdOf ByteArray.empty t763 x12_3) false _ ?side1 ?side2 A47.out).mono ?_); (case side1 => repeat (first | exact (Kd.R_reads' HO_4.out).2.2 | (with_reducible refine Kd.C_alloc ?_ _) | (with_reducible refine Kd.C_drewN ?_ _) | (with_reducible refine Kd.C_drew ?_))); (case side2 => exact (Kd.R_reads' HO_4.out).2.1); rintro e w' ⟨rfl, ⟨nd, rfl⟩⟩))
                            go_ret
                            exact ⟨by first | rfl | (simp [errW_none, errW_some] <;> rfl) | (simp [*, errW_none, errW_some] <;> rfl), by repeat (first | (with_reducible first | exact HB.out | apply below_alloc | apply pw_below_drewN | apply below_drew1) | exact HB.out | exact Below.refl _ _)⟩
                      · rw [if_neg c43] at H
                        exact absurd H (by simp)
                    · rw [if_neg c42] at H
                      have c42b0 : decide (x12_3 < (t763.length : Int)) = false := decide_eq_false c42
                      clear c42
                      replace H := Option.bind_eq_some_iff.mp H
                      obtain ⟨⟨t781, t782, t783⟩, A510, H⟩ := H
                      replace H : ((impl_SetOk.f k3 t763).bind fun t786 => (if t786 = true then (if (t763.length : Int) = (wrap64 ((t757.length : Int) + t764)) then (if t782 = 0 then ((laws_qxTexts.f k3 t781 t763).bind fun t787 => (some t787)) else (some false)) else (some false)) else (some false))) = some r := H
                      have A51 := Aside0.mk A510
                      clear A510
                      replace H := Option.bind_eq_some_iff.mp H
                      obtain ⟨t786, A520, H⟩ := H
                      replace H : (if t786 = true then (if (t763.length : Int) = (wrap64 ((t757.length : Int) + t764)) then (if t782 = 0 then ((laws_qxTexts.f k3 t781 t763).bind fun t787 => (some t787)) else (some false)) else (some false)) else (some false)) = some r := H
                      have A52 := Aside0.mk A520
                      clear A520
                      by_cases c53 : t786 = true
                      · subst c53
                        have H1 : (if (t763.length : Int) = (wrap64 ((t757.length : Int) + t764)) then (if t782 = 0 then ((laws_qxTexts.f k3 t781 t763).bind fun t787 => (some t787)) else (some false)) else (some false)) = some r := by rw [if_pos rfl] at H; exact H
                        clear H
                        have H := H1
                        clear H1
                        by_cases c54 : (t763.length : Int) = (wrap64 ((t757.length : Int) + t764))
                        · rw [if_pos c54] at H
                          have c54b0 : ((t763.length : Int) == (wrap64 ((t757.length : Int) + t764))) = true := beq_iff_eq.mpr c54
                          have c54b1 : ((t763.length : Int) != (wrap64 ((t757.length : Int) + t764))) = false := bne_eq_false_iff_eq.mpr c54
                          clear c54
                          by_cases c55 : t782 = 0
                          · rw [if_pos c55] at H
                            have c55b0 : (t782 == 0) = true := beq_iff_eq.mpr c55
                            have c55b1 : (t782 != 0) = false := bne_eq_false_iff_eq.mpr c55
                            clear c55
                            replace H := Option.bind_eq_some_iff.mp H
                            obtain ⟨t787, A560, H⟩ := H
                            replace H : (some t787) = some r := H
                            have A56 := Aside0.mk A560
                            clear A560
                            obtain rfl := Option.some.inj H
                            obtain ⟨Ao57, co57, eo57⟩ := Kd.R_slice HO_5.out
                            subst eo57
                            go_wp2_with (first | ((with_reducible refine gate_callee (f := 18) rfl ?_); refine goesL_ (some 121) rfl rfl Try.func18 (by kernel_rfl) rfl #[.slice Ao57 t763.length co57, .slice Ao9 t760.length co9] rfl (by (try simp only [List.map_toArray, List.map_cons, List.map_nil]); first | done | rfl | (simp only [List.length_drop, List.length_take]; rfl)) ?_; (with_reducible refine (impl_SetAdd.calls k3 _ _ t763 _ _ t760 t781 t782 t783 _ ?side1 ?side2 ?side3 ?side4 A51.out).mono ?_); (case side1 => repeat (first | exact (Kd.R_reads' HO_5.out).2.2 | (with_reducible refine Kd.C_alloc ?_ _) | (with_reducible refine Kd.C_drewN ?_ _) | (with_reducible refine Kd.C_drew ?_))); (case side2 => exact (Kd.R_reads' HO_5.out).2.1); (case side3 => repeat (first | exact (Kd.R_reads' HO_4.out).2.2 | (with_reducible refine Kd.C_alloc ?_ _) | (with_reducible refine Kd.C_drewN ?_ _) | (with_reducible refine Kd.C_drew ?_))); (case side4 => exact (Kd.R_reads' HO_4.out).2.1); rintro e w58 ⟨v784, rfl, ho0, hb⟩; refine ⟨_, rfl, ?_⟩; have n0_ := Aside0.mk (Kd.V_elder' (by (with_reducible repeat (first | apply Kd.V_alloc | apply Kd.V_drewN | apply Kd.V_drew)); exact HO_3.out) (Kd.R_base ho0) hb); have n1_ := Aside0.mk (Kd.R_elder' (by (with_reducible repeat (first | apply Kd.R_alloc | apply Kd.R_drewN | apply Kd.R_drew)); exact HO_4.out) (Kd.R_base ho0) hb); have n2_ := Aside0.mk (Kd.R_elder' (by (with_reducible repeat (first | apply Kd.R_alloc | apply Kd.R_drewN | apply Kd.R_drew)); exact HO_5.out) (Kd.R_base ho0) hb); have n3_ := Aside0.mk (Kd.R_lower (Kd.R_new' (Kd.R_new' ho0 (Kd.R_lt (by (with_reducible repeat (first | apply Kd.R_alloc | apply Kd.R_drewN | apply Kd.R_drew)); exact HO_4.out))) (Kd.R_lt (by (with_reducible repeat (first | apply Kd.R_alloc | apply Kd.R_drewN | apply Kd.R_drew)); exact HO_5.out))) (below_size (by repeat (first | (with_reducible first | exact HB.out | apply below_alloc | apply pw_below_drewN | apply below_drew1) | exact HB.out | exact Below.refl _ _)))); have n4_ := Aside0.mk (below_step (by repeat (first | (with_reducible first | exact HB.out | apply below_alloc | apply pw_below_drewN | apply below_drew1) | exact HB.out | exact Below.refl _ _)) hb); clear HO_3; clear HO_4; clear HO_5; clear HB; have HO_3 := n0_; have HO_4 := n1_; have HO_5 := n2_; have HO785 := n3_; have HB := n4_; clear n0_ n1_ n2_ n3_ n4_; (try clear hb); (try clear hb2); (try clear hk); (try clear hi); (try clear ho0)) | ((with_reducible refine gate_callee (f := 36) rfl ?_); refine goesL_ (some 126) rfl rfl Try.func36 (by kernel_rfl) rfl #[.slice Ao57 t763.length co57] rfl (by (try simp only [List.map_toArray, List.map_cons, List.map_nil]); first | done | rfl | (simp only [List.length_drop, List.length_take]; rfl)) ?_; (with_reducible refine (impl_SetOk.calls k3 _ _ t763 true _ ?side1 ?side2 A52.out).mono ?_); (case side1 => repeat (first | exact (Kd.R_reads' HO_5.out).2.2 | (with_reducible refine Kd.C_alloc ?_ _) | (with_reducible refine Kd.C_drewN ?_ _) | (with_reducible refine Kd.C_drew ?_))); (case side2 => exact (Kd.R_reads' HO_5.out).2.1); rintro e w' ⟨rfl, ⟨nd, rfl⟩⟩; refine ⟨_, rfl, ?_⟩; obtain ⟨Ao59, co59, eo59⟩ := Kd.R_slice HO785.out; subst eo59) | (go_at_call 35; (with_reducible refine (laws_qxTexts.calls k3 _ _ t781 _ _ t763 t787 _ ?side1 ?side2 ?side3 ?side4 A56.out).mono ?_); (case side1 => repeat (first | exact (Kd.R_reads' HO785.out).2.2 | (with_reducible refine Kd.C_alloc ?_ _) | (with_reducible refine Kd.C_drewN ?_ _) | (with_reducible refine Kd.C_drew ?_))); (case side2 => exact (Kd.R_reads' HO785.out).2.1); (case side3 => repeat (first | exact (Kd.R_reads' HO_5.out).2.2 | (with_reducible refine Kd.C_alloc ?_ _) | (with_reducible refine Kd.C_drewN ?_ _) | (with_reducible refine Kd.C_drew ?_))); (case side4 => exact (Kd.R_reads' HO_5.out).2.1); rintro e w' ⟨rfl, ⟨nd, rfl⟩⟩))
                            go_ret
                            exact ⟨by first | rfl | (simp [errW_none, errW_some] <;> rfl) | (simp [*, errW_none, errW_some] <;> rfl), by repeat (first | (with_reducible first | exact HB.out | apply below_alloc | apply pw_below_drewN | apply below_drew1) | exact HB.out | exact Below.refl _ _)⟩
                          · rw [if_neg c55] at H
                            have c55b0 : (t782 == 0) = false := beq_eq_false_iff_ne.mpr c55
                            have c55b1 : (t782 != 0) = true := bne_iff_ne.mpr c55
                            obtain rfl := Option.some.inj H
                            obtain ⟨Ao60, co60, eo60⟩ := Kd.R_slice HO_5.out
                            subst eo60
                            go_wp2_with (first | ((with_reducible refine gate_callee (f := 18) rfl ?_); refine goesL_ (some 121) rfl rfl Try.func18 (by kernel_rfl) rfl #[.slice Ao60 t763.length co60, .slice Ao9 t760.length co9] rfl (by (try simp only [List.map_toArray, List.map_cons, List.map_nil]); first | done | rfl | (simp only [List.length_drop, List.length_take]; rfl)) ?_; (with_reducible refine (impl_SetAdd.calls k3 _ _ t763 _ _ t760 t781 t782 t783 _ ?side1 ?side2 ?side3 ?side4 A51.out).mono ?_); (case side1 => repeat (first | exact (Kd.R_reads' HO_5.out).2.2 | (with_reducible refine Kd.C_alloc ?_ _) | (with_reducible refine Kd.C_drewN ?_ _) | (with_reducible refine Kd.C_drew ?_))); (case side2 => exact (Kd.R_reads' HO_5.out).2.1); (case side3 => repeat (first | exact (Kd.R_reads' HO_4.out).2.2 | (with_reducible refine Kd.C_alloc ?_ _) | (with_reducible refine Kd.C_drewN ?_ _) | (with_reducible refine Kd.C_drew ?_))); (case side4 => exact (Kd.R_reads' HO_4.out).2.1); rintro e w61 ⟨v784, rfl, ho0, hb⟩; refine ⟨_, rfl, ?_⟩; have n0_ := Aside0.mk (Kd.V_elder' (by (with_reducible repeat (first | apply Kd.V_alloc | apply Kd.V_drewN | apply Kd.V_drew)); exact HO_3.out) (Kd.R_base ho0) hb); have n1_ := Aside0.mk (Kd.R_elder' (by (with_reducible repeat (first | apply Kd.R_alloc | apply Kd.R_drewN | apply Kd.R_drew)); exact HO_4.out) (Kd.R_base ho0) hb); have n2_ := Aside0.mk (Kd.R_elder' (by (with_reducible repeat (first | apply Kd.R_alloc | apply Kd.R_drewN | apply Kd.R_drew)); exact HO_5.out) (Kd.R_base ho0) hb); have n3_ := Aside0.mk (Kd.R_lower (Kd.R_new' (Kd.R_new' ho0 (Kd.R_lt (by (with_reducible repeat (first | apply Kd.R_alloc | apply Kd.R_drewN | apply Kd.R_drew)); exact HO_4.out))) (Kd.R_lt (by (with_reducible repeat (first | apply Kd.R_alloc | apply Kd.R_drewN | apply Kd.R_drew)); exact HO_5.out))) (below_size (by repeat (first | (with_reducible first | exact HB.out | apply below_alloc | apply pw_below_drewN | apply below_drew1) | exact HB.out | exact Below.refl _ _)))); have n4_ := Aside0.mk (below_step (by repeat (first | (with_reducible first | exact HB.out | apply below_alloc | apply pw_below_drewN | apply below_drew1) | exact HB.out | exact Below.refl _ _)) hb); clear HO_3; clear HO_4; clear HO_5; clear HB; have HO_3 := n0_; have HO_4 := n1_; have HO_5 := n2_; have HO785 := n3_; have HB := n4_; clear n0_ n1_ n2_ n3_ n4_; (try clear hb); (try clear hb2); (try clear hk); (try clear hi); (try clear ho0)) | ((with_reducible refine gate_callee (f := 36) rfl ?_); refine goesL_ (some 126) rfl rfl Try.func36 (by kernel_rfl) rfl #[.slice Ao60 t763.length co60] rfl (by (try simp only [List.map_toArray, List.map_cons, List.map_nil]); first | done | rfl | (simp only [List.length_drop, List.length_take]; rfl)) ?_; (with_reducible refine (impl_SetOk.calls k3 _ _ t763 true _ ?side1 ?side2 A52.out).mono ?_); (case side1 => repeat (first | exact (Kd.R_reads' HO_5.out).2.2 | (with_reducible refine Kd.C_alloc ?_ _) | (with_reducible refine Kd.C_drewN ?_ _) | (with_reducible refine Kd.C_drew ?_))); (case side2 => exact (Kd.R_reads' HO_5.out).2.1); rintro e w' ⟨rfl, ⟨nd, rfl⟩⟩; refine ⟨_, rfl, ?_⟩))
                            go_ret
                            exact ⟨by first | rfl | (simp [errW_none, errW_some] <;> rfl) | (simp [*, errW_none, errW_some] <;> rfl), by repeat (first | (with_reducible first | exact HB.out | apply below_alloc | apply pw_below_drewN | apply below_drew1) | exact HB.out | exact Below.refl _ _)⟩
                        · rw [if_neg c54] at H
                          have c54b0 : ((t763.length : Int) == (wrap64 ((t757.length : Int) + t764))) = false := beq_eq_false_iff_ne.mpr c54
                          have c54b1 : ((t763.length : Int) != (wrap64 ((t757.length : Int) + t764))) = true := bne_iff_ne.mpr c54
                          obtain rfl := Option.some.inj H
                          obtain ⟨Ao62, co62, eo62⟩ := Kd.R_slice HO_5.out
                          subst eo62
                          go_wp2_with (first | ((with_reducible refine gate_callee (f := 18) rfl ?_); refine goesL_ (some 121) rfl rfl Try.func18 (by kernel_rfl) rfl #[.slice Ao62 t763.length co62, .slice Ao9 t760.length co9] rfl (by (try simp only [List.map_toArray, List.map_cons, List.map_nil]); first | done | rfl | (simp only [List.length_drop, List.length_take]; rfl)) ?_; (with_reducible refine (impl_SetAdd.calls k3 _ _ t763 _ _ t760 t781 t782 t783 _ ?side1 ?side2 ?side3 ?side4 A51.out).mono ?_); (case side1 => repeat (first | exact (Kd.R_reads' HO_5.out).2.2 | (with_reducible refine Kd.C_alloc ?_ _) | (with_reducible refine Kd.C_drewN ?_ _) | (with_reducible refine Kd.C_drew ?_))); (case side2 => exact (Kd.R_reads' HO_5.out).2.1); (case side3 => repeat (first | exact (Kd.R_reads' HO_4.out).2.2 | (with_reducible refine Kd.C_alloc ?_ _) | (with_reducible refine Kd.C_drewN ?_ _) | (with_reducible refine Kd.C_drew ?_))); (case side4 => exact (Kd.R_reads' HO_4.out).2.1); rintro e w63 ⟨v784, rfl, ho0, hb⟩; refine ⟨_, rfl, ?_⟩; have n0_ := Aside0.mk (Kd.V_elder' (by (with_reducible repeat (first | apply Kd.V_alloc | apply Kd.V_drewN | apply Kd.V_drew)); exact HO_3.out) (Kd.R_base ho0) hb); have n1_ := Aside0.mk (Kd.R_elder' (by (with_reducible repeat (first | apply Kd.R_alloc | apply Kd.R_drewN | apply Kd.R_drew)); exact HO_4.out) (Kd.R_base ho0) hb); have n2_ := Aside0.mk (Kd.R_elder' (by (with_reducible repeat (first | apply Kd.R_alloc | apply Kd.R_drewN | apply Kd.R_drew)); exact HO_5.out) (Kd.R_base ho0) hb); have n3_ := Aside0.mk (Kd.R_lower (Kd.R_new' (Kd.R_new' ho0 (Kd.R_lt (by (with_reducible repeat (first | apply Kd.R_alloc | apply Kd.R_drewN | apply Kd.R_drew)); exact HO_4.out))) (Kd.R_lt (by (with_reducible repeat (first | apply Kd.R_alloc | apply Kd.R_drewN | apply Kd.R_drew)); exact HO_5.out))) (below_size (by repeat (first | (with_reducible first | exact HB.out | apply below_alloc | apply pw_below_drewN | apply below_drew1) | exact HB.out | exact Below.refl _ _)))); have n4_ := Aside0.mk (below_step (by repeat (first | (with_reducible first | exact HB.out | apply below_alloc | apply pw_below_drewN | apply below_drew1) | exact HB.out | exact Below.refl _ _)) hb); clear HO_3; clear HO_4; clear HO_5; clear HB; have HO_3 := n0_; have HO_4 := n1_; have HO_5 := n2_; have HO785 := n3_; have HB := n4_; clear n0_ n1_ n2_ n3_ n4_; (try clear hb); (try clear hb2); (try clear hk); (try clear hi); (try clear ho0)) | ((with_reducible refine gate_callee (f := 36) rfl ?_); refine goesL_ (some 126) rfl rfl Try.func36 (by kernel_rfl) rfl #[.slice Ao62 t763.length co62] rfl (by (try simp only [List.map_toArray, List.map_cons, List.map_nil]); first | done | rfl | (simp only [List.length_drop, List.length_take]; rfl)) ?_; (with_reducible refine (impl_SetOk.calls k3 _ _ t763 true _ ?side1 ?side2 A52.out).mono ?_); (case side1 => repeat (first | exact (Kd.R_reads' HO_5.out).2.2 | (with_reducible refine Kd.C_alloc ?_ _) | (with_reducible refine Kd.C_drewN ?_ _) | (with_reducible refine Kd.C_drew ?_))); (case side2 => exact (Kd.R_reads' HO_5.out).2.1); rintro e w' ⟨rfl, ⟨nd, rfl⟩⟩; refine ⟨_, rfl, ?_⟩))
                          go_ret
                          exact ⟨by first | rfl | (simp [errW_none, errW_some] <;> rfl) | (simp [*, errW_none, errW_some] <;> rfl), by repeat (first | (with_reducible first | exact HB.out | apply below_alloc | apply pw_below_drewN | apply below_drew1) | exact HB.out | exact Below.refl _ _)⟩
                      · replace c53 := Bool.eq_false_iff.mpr c53
                        subst c53
                        have H1 : (some false) = some r := by rw [if_neg (show ¬ (false = true) by decide)] at H; exact H
                        clear H
                        have H := H1
                        clear H1
                        obtain rfl := Option.some.inj H
                        obtain ⟨Ao64, co64, eo64⟩ := Kd.R_slice HO_5.out
                        subst eo64
                        go_wp2_with (first | ((with_reducible refine gate_callee (f := 18) rfl ?_); refine goesL_ (some 121) rfl rfl Try.func18 (by kernel_rfl) rfl #[.slice Ao64 t763.length co64, .slice Ao9 t760.length co9] rfl (by (try simp only [List.map_toArray, List.map_cons, List.map_nil]); first | done | rfl | (simp only [List.length_drop, List.length_take]; rfl)) ?_; (with_reducible refine (impl_SetAdd.calls k3 _ _ t763 _ _ t760 t781 t782 t783 _ ?side1 ?side2 ?side3 ?side4 A51.out).mono ?_); (case side1 => repeat (first | exact (Kd.R_reads' HO_5.out).2.2 | (with_reducible refine Kd.C_alloc ?_ _) | (with_reducible refine Kd.C_drewN ?_ _) | (with_reducible refine Kd.C_drew ?_))); (case side2 => exact (Kd.R_reads' HO_5.out).2.1); (case side3 => repeat (first | exact (Kd.R_reads' HO_4.out).2.2 | (with_reducible refine Kd.C_alloc ?_ _) | (with_reducible refine Kd.C_drewN ?_ _) | (with_reducible refine Kd.C_drew ?_))); (case side4 => exact (Kd.R_reads' HO_4.out).2.1); rintro e w65 ⟨v784, rfl, ho0, hb⟩; refine ⟨_, rfl, ?_⟩; have n0_ := Aside0.mk (Kd.V_elder' (by (with_reducible repeat (first | apply Kd.V_alloc | apply Kd.V_drewN | apply Kd.V_drew)); exact HO_3.out) (Kd.R_base ho0) hb); have n1_ := Aside0.mk (Kd.R_elder' (by (with_reducible repeat (first | apply Kd.R_alloc | apply Kd.R_drewN | apply Kd.R_drew)); exact HO_4.out) (Kd.R_base ho0) hb); have n2_ := Aside0.mk (Kd.R_elder' (by (with_reducible repeat (first | apply Kd.R_alloc | apply Kd.R_drewN | apply Kd.R_drew)); exact HO_5.out) (Kd.R_base ho0) hb); have n3_ := Aside0.mk (Kd.R_lower (Kd.R_new' (Kd.R_new' ho0 (Kd.R_lt (by (with_reducible repeat (first | apply Kd.R_alloc | apply Kd.R_drewN | apply Kd.R_drew)); exact HO_4.out))) (Kd.R_lt (by (with_reducible repeat (first | apply Kd.R_alloc | apply Kd.R_drewN | apply Kd.R_drew)); exact HO_5.out))) (below_size (by repeat (first | (with_reducible first | exact HB.out | apply below_alloc | apply pw_below_drewN | apply below_drew1) | exact HB.out | exact Below.refl _ _)))); have n4_ := Aside0.mk (below_step (by repeat (first | (with_reducible first | exact HB.out | apply below_alloc | apply pw_below_drewN | apply below_drew1) | exact HB.out | exact Below.refl _ _)) hb); clear HO_3; clear HO_4; clear HO_5; clear HB; have HO_3 := n0_; have HO_4 := n1_; have HO_5 := n2_; have HO785 := n3_; have HB := n4_; clear n0_ n1_ n2_ n3_ n4_; (try clear hb); (try clear hb2); (try clear hk); (try clear hi); (try clear ho0)) | ((with_reducible refine gate_callee (f := 36) rfl ?_); refine goesL_ (some 126) rfl rfl Try.func36 (by kernel_rfl) rfl #[.slice Ao64 t763.length co64] rfl (by (try simp only [List.map_toArray, List.map_cons, List.map_nil]); first | done | rfl | (simp only [List.length_drop, List.length_take]; rfl)) ?_; (with_reducible refine (impl_SetOk.calls k3 _ _ t763 false _ ?side1 ?side2 A52.out).mono ?_); (case side1 => repeat (first | exact (Kd.R_reads' HO_5.out).2.2 | (with_reducible refine Kd.C_alloc ?_ _) | (with_reducible refine Kd.C_drewN ?_ _) | (with_reducible refine Kd.C_drew ?_))); (case side2 => exact (Kd.R_reads' HO_5.out).2.1); rintro e w' ⟨rfl, ⟨nd, rfl⟩⟩; refine ⟨_, rfl, ?_⟩))
                        go_ret
                        exact ⟨by first | rfl | (simp [errW_none, errW_some] <;> rfl) | (simp [*, errW_none, errW_some] <;> rfl), by repeat (first | (with_reducible first | exact HB.out | apply below_alloc | apply pw_below_drewN | apply below_drew1) | exact HB.out | exact Below.refl _ _)⟩

/-- THE ONE PURE STATEMENT of laws_FnSetAdd: yours. -/
def laws_FnSetAdd.Pure : Prop := ∀ (l0 : List Int), l0.length ≤ maxLen → l0.length * 1 ≤ 140737488351232 → (∀ x ∈ l0, (Lit.int .u8 x).wf = true) → ∃ k, laws_FnSetAdd.f k l0 = some true
theorem laws_FnSetAdd.walk (P : laws_FnSetAdd.Pure) (a0 : Option Addr) (len0 cap0 : Nat) (z0 : List Int) (w : World) (w0 : (a0 = none ∧ len0 = 0 ∧ cap0 = 0 ∧ z0 = []) ∨ ∃ x, a0 = some x ∧ len0 ≤ cap0 ∧ cap0 ≤ maxLen ∧ z0.length = cap0 ∧ (∀ i, i < z0.length → w.cell? (x.add i) = some (.int .u8 (z0.getD i 0))) ∧ ∀ n ∈ z0, (Lit.int .u8 n).wf = true) (y0 : len0 * 1 ≤ 140737488351232) :
    Calls Try.prog 7 #[.slice a0 len0 cap0] w fun e w' => e = .returned (.bool true) ∧ Below w.heap.size w w' := by
  obtain ⟨l0, rfl, hr0, hm0, hw0, hc0⟩ := ReadsInt.ofRowC w0
  obtain ⟨k, h⟩ := P l0 hm0 y0 hw0
  refine (laws_FnSetAdd.calls k _ _ l0 true w (Kd.C_of_reads (d := (0 : Int)) (h1 := fun _ => rfl) hr0) hc0 h).mono ?_
  rintro e w' ⟨rfl, hd⟩
  exact ⟨rfl, hd⟩

end Go.Proofs.Ytegelpeegbngiaa.P
/- Plain law: of a drawn set and texts, SetAdd of the program is that of the reference; what was added is there, and all that was; added again nothing changes. -/
namespace Go.Proofs.Ytegelpeegbngiaa.Q
open Go.RowKit Go.Proofs.YtegelpeegbngiaaW.PrintWords Go.Proofs.YtegelpeegbngiaaW.PrintLast Go.Proofs.Ytegelpeegbngiaa.P

theorem FnSetAdd_pure (l : List Int) (hl : l.length ≤ maxLen) (hb : ∀ x ∈ l, (Lit.int .u8 x).wf = true) : ∃ k, laws_FnSetAdd.f k l = some true := by
  refine exists_of (r := true) ?_
  unfold laws_FnSetAdd.f
  refine both (fun _ => ret _) (fun _ => ?_)
  obtain ⟨a, b, hD, hA, hB⟩ := DrawSetAdd_ev l hl hb
  have a17 := hA.1
  have b17 := hB.1
  have hI := impl_SetAdd_ev a b (by omega) (by omega)
  have hW := spec_SetAdd_ev a b (by omega) (by omega)
  have hlen := setAddM_len a b
  have hX := qxTexts_same (setAddM a b).1 (by unfold maxLen; omega)
  have hO := spec_SetOk_ev a (by unfold maxLen; omega)
  have hO' := impl_SetOk_ev a (by unfold maxLen; omega)
  refine Ev.bind hD (Ev.bind hI (Ev.bind hW (neg (by simp) (pos rfl (Ev.bind hX (pos rfl (Ev.bind hO' (Ev.bind hO (neg (by simp) ?_)))))))))
  refine Ev.step (g := fun k => laws_FnSetAdd.j0 k _ _ _ _ _ _ _ _ _) (fun k => by rw [laws_FnSetAdd.j0]) ?_
  dsimp only
  by_cases hk : setB a = true ∧ textsB b 16 = true ∧ ¬ (unionM a b).length > 16
  · obtain ⟨k1, k2, k3⟩ := hk
    have e : setAddM a b = (unionM a b, ((unionM a b).length : Int) - a.length, true) := by unfold setAddM; rw [if_pos k1, if_pos k2, if_neg k3]
    rw [e]
    dsimp only
    refine neg (by decide) ?_
    obtain ⟨p1, p2, p3⟩ := (setB_iff a).1 k1
    have hok : setB (unionM a b) = true := (setB_iff _).2 ⟨unionM_asc a b, by omega, fun s h => by
      rcases (unionM_mem a b s).1 h with h | h
      · exact p3 s h
      · exact (textsB_le k2).2 s h⟩
    have hsame : unionM (unionM a b) b = unionM a b := asc_unique _ _ (unionM_asc _ _) (unionM_asc _ _) (fun s => by
      rw [unionM_mem, unionM_mem]
      exact ⟨fun h => h.elim id .inr, .inl⟩)
    have e2 : setAddM (unionM a b) b = (unionM a b, 0, true) := by
      unfold setAddM
      rw [if_pos hok, if_pos k2, hsame, if_neg k3, Int.sub_self]
    have hI2 := impl_SetAdd_ev (unionM a b) b (by omega) (by omega)
    rw [e2] at hI2
    have hO2 := impl_SetOk_ev (unionM a b) (by unfold maxLen; omega)
    have hX2 := qxTexts_same (unionM a b) (by unfold maxLen; omega)
    have loop1 : ∀ (d i : Nat), i + d = (unionM a b).length → Ev (fun k => laws_FnSetAdd.l1 k a b (unionM a b) (((unionM a b).length : Int) - a.length) (i : Int)) true := by
      intro d
      induction d with
      | zero =>
        intro i hi
        refine Ev.step (g := fun k => laws_FnSetAdd.l1 k _ _ _ _ _) (fun k => by rw [laws_FnSetAdd.l1]) (neg (by omega) ?_)
        refine Ev.bind hI2 (Ev.bind hO2 (pos hok (pos ?_ (pos rfl (Ev.bind hX2 (ret _))))))
        rw [wrap_id (by omega) (by omega)]
        omega
      | succ d ih =>
        intro i hi
        have hlt : i < (unionM a b).length := by omega
        refine Ev.step (g := fun k => laws_FnSetAdd.l1 k _ _ _ _ _) (fun k => by rw [laws_FnSetAdd.l1]) (pos (by omega) (pos (by omega) ?_))
        rw [rdOf_lt _ _ _ hlt, wrap_id (x := (i : Int) + 1) (by omega) (by omega)]
        refine Ev.bind (qxHas_ev _ (by unfold maxLen; omega) _) (both (fun _ => ih (i + 1) (by omega)) (fun h => ?_))
        refine Ev.bind (qxHas_ev _ (by unfold maxLen; omega) _) (pos ?_ (ih (i + 1) (by omega)))
        rw [hasB_iff]
        rcases (unionM_mem a b _).1 (List.getElem_mem hlt) with q | q
        · exact absurd ((hasB_iff _ _).2 q) h
        · exact q
    have loop0 : ∀ (d i : Nat), i + d = b.length → Ev (fun k => laws_FnSetAdd.l0 k a b (unionM a b) (((unionM a b).length : Int) - a.length) (i : Int)) true := by
      intro d
      induction d with
      | zero =>
        intro i hi
        refine Ev.step (g := fun k => laws_FnSetAdd.l0 k _ _ _ _ _) (fun k => by rw [laws_FnSetAdd.l0]) (neg (by omega) ?_)
        exact loop1 (unionM a b).length 0 (by omega)
      | succ d ih =>
        intro i hi
        have hlt : i < b.length := by omega
        refine Ev.step (g := fun k => laws_FnSetAdd.l0 k _ _ _ _ _) (fun k => by rw [laws_FnSetAdd.l0]) (pos (by omega) (pos (by omega) ?_))
        rw [rdOf_lt _ _ _ hlt, wrap_id (x := (i : Int) + 1) (by omega) (by omega)]
        refine Ev.bind (qxHas_ev _ (by unfold maxLen; omega) _) (pos ?_ (ih (i + 1) (by omega)))
        rw [hasB_iff, unionM_mem]
        exact .inr (List.getElem_mem hlt)
    exact loop0 b.length 0 (by omega)
  · have e : (setAddM a b).2.2 = false := by
      unfold setAddM
      by_cases k1 : setB a = true
      · by_cases k2 : textsB b 16 = true
        · by_cases k3 : (unionM a b).length > 16
          · rw [if_pos k1, if_pos k2, if_pos k3]
          · exact absurd ⟨k1, k2, k3⟩ hk
        · rw [if_pos k1, if_neg k2]
      · rw [if_neg k1]
    rw [e]
    refine pos rfl (pos rfl (pos rfl (Ev.bind hX (pos rfl (Ev.bind hO' (Ev.bind hO (ret' ?_)))))))
    simp
end Go.Proofs.Ytegelpeegbngiaa.Q
