import Derived.Test.YtegelpeegbngiaaBdFnFieldsPut1
/- Texts of this claim, one behind the other: printed functions and their walks, plain lemmas. -/
-- Written by wip/px.py of this session, over the kit's print.py. Not trusted: Lean checks it.
namespace Go.Proofs.Ytegelpeegbngiaa.P
open Go.RowKit Go.Proofs.YtegelpeegbngiaaW.PrintWords Go.Proofs.YtegelpeegbngiaaW.PrintLast Go.Proofs.YtegelpeegbngiaaW.PrintMore
attribute [local go_sem] max2_int min2_int max_two min_two max_three min_three max_four min_four   -- for this text's walks alone
set_option linter.unusedVariables false
set_option linter.unusedSimpArgs false

/-! ### laws_FnFieldsPut: the walk -/
set_option maxHeartbeats 8000000 in
set_option maxRecDepth 100000 in
theorem laws_FnFieldsPut.calls (k : Nat) (A0 : Option Addr) (c0 : Nat) (l0 : List Int) (r : Bool) (w : World) (hr0 : Kd.C (Kd.int .u8) w A0 l0.length l0) (hc0 : l0.length ≤ c0) (h : laws_FnFieldsPut.f k l0 = some r) :
    Calls Try.prog 6 #[.slice A0 l0.length c0] w fun e w' => e = .returned (.bool r) ∧ Below w.heap.size w w' := by
  have hu38 := Try.underlying38
  have HR0 := Aside0.mk hr0
  have HC0 := Aside0.mk hc0
  clear hr0 hc0
  have HB := Aside0.mk (Below.refl w.heap.size w)
  have H : (if (l0.length : Int) > 1048576 then (some true) else ((spec_DrawFieldsPut.f k l0).bind fun bt718 => ((impl_FieldsPut.f k bt718.1 bt718.2.1 bt718.2.2).bind fun bt724 => ((spec_FieldsPut.f k bt718.1 bt718.2.1 bt718.2.2).bind fun bt729 => (if (bt724.2.2 != bt729.2.2) = true then (laws_FnFieldsPut.j0 k bt718.1 bt724.1 bt724.2.1 bt724.2.2 bt729.1 bt729.2.1 bt729.2.2 true bt718.2.1 bt718.2.2) else (if (bt724.2.1 != bt729.2.1) = true then (laws_FnFieldsPut.j0 k bt718.1 bt724.1 bt724.2.1 bt724.2.2 bt729.1 bt729.2.1 bt729.2.2 true bt718.2.1 bt718.2.2) else ((laws_qxFields.f k bt724.1 bt729.1).bind fun t734 => (if t734 = true then ((impl_FieldsOk.f k bt718.1).bind fun t735 => ((spec_FieldsOk.f k bt718.1).bind fun t736 => (if (t735 != t736) = true then (laws_FnFieldsPut.j0 k bt718.1 bt724.1 bt724.2.1 bt724.2.2 bt729.1 bt729.2.1 bt729.2.2 true bt718.2.1 bt718.2.2) else (laws_FnFieldsPut.j0 k bt718.1 bt724.1 bt724.2.1 bt724.2.2 bt729.1 bt729.2.1 bt729.2.2 (!bt724.2.2) bt718.2.1 bt718.2.2)))) else (laws_FnFieldsPut.j0 k bt718.1 bt724.1 bt724.2.1 bt724.2.2 bt729.1 bt729.2.1 bt729.2.2 true bt718.2.1 bt718.2.2))))))))) = some r := h
  clear h
  by_cases c2 : (l0.length : Int) > 1048576
  · rw [if_pos c2] at H
    have c2b0 : decide (1048576 < (l0.length : Int)) = true := decide_eq_true c2
    have c2b1 : decide (1048576 < l0.length) = true := decide_eq_true (by omega)
    clear c2
    obtain rfl := Option.some.inj H
    go_enter Try.func6, Try.ntmps6
    go_wp2
    go_ret
    exact ⟨by first | rfl | (simp [errW_none, errW_some] <;> rfl) | (simp [*, errW_none, errW_some] <;> rfl), by repeat (first | (with_reducible first | exact HB.out | apply below_alloc | apply pw_below_drewN | apply below_drew1) | exact HB.out | exact Below.refl _ _)⟩
  · rw [if_neg c2] at H
    have c2b0 : decide (1048576 < (l0.length : Int)) = false := decide_eq_false c2
    have c2b1 : decide (1048576 < l0.length) = false := decide_eq_false (by omega)
    clear c2
    replace H := Option.bind_eq_some_iff.mp H
    obtain ⟨⟨t718, t721, t722⟩, A30, H⟩ := H
    replace H : ((impl_FieldsPut.f k t718 t721 t722).bind fun bt724 => ((spec_FieldsPut.f k t718 t721 t722).bind fun bt729 => (if (bt724.2.2 != bt729.2.2) = true then (laws_FnFieldsPut.j0 k t718 bt724.1 bt724.2.1 bt724.2.2 bt729.1 bt729.2.1 bt729.2.2 true t721 t722) else (if (bt724.2.1 != bt729.2.1) = true then (laws_FnFieldsPut.j0 k t718 bt724.1 bt724.2.1 bt724.2.2 bt729.1 bt729.2.1 bt729.2.2 true t721 t722) else ((laws_qxFields.f k bt724.1 bt729.1).bind fun t734 => (if t734 = true then ((impl_FieldsOk.f k t718).bind fun t735 => ((spec_FieldsOk.f k t718).bind fun t736 => (if (t735 != t736) = true then (laws_FnFieldsPut.j0 k t718 bt724.1 bt724.2.1 bt724.2.2 bt729.1 bt729.2.1 bt729.2.2 true t721 t722) else (laws_FnFieldsPut.j0 k t718 bt724.1 bt724.2.1 bt724.2.2 bt729.1 bt729.2.1 bt729.2.2 (!bt724.2.2) t721 t722)))) else (laws_FnFieldsPut.j0 k t718 bt724.1 bt724.2.1 bt724.2.2 bt729.1 bt729.2.1 bt729.2.2 true t721 t722))))))) = some r := H
    have A3 := Aside0.mk A30
    clear A30
    replace H := Option.bind_eq_some_iff.mp H
    obtain ⟨⟨t724, t727, t728⟩, A40, H⟩ := H
    replace H : ((spec_FieldsPut.f k t718 t721 t722).bind fun bt729 => (if (t728 != bt729.2.2) = true then (laws_FnFieldsPut.j0 k t718 t724 t727 t728 bt729.1 bt729.2.1 bt729.2.2 true t721 t722) else (if (t727 != bt729.2.1) = true then (laws_FnFieldsPut.j0 k t718 t724 t727 t728 bt729.1 bt729.2.1 bt729.2.2 true t721 t722) else ((laws_qxFields.f k t724 bt729.1).bind fun t734 => (if t734 = true then ((impl_FieldsOk.f k t718).bind fun t735 => ((spec_FieldsOk.f k t718).bind fun t736 => (if (t735 != t736) = true then (laws_FnFieldsPut.j0 k t718 t724 t727 t728 bt729.1 bt729.2.1 bt729.2.2 true t721 t722) else (laws_FnFieldsPut.j0 k t718 t724 t727 t728 bt729.1 bt729.2.1 bt729.2.2 (!t728) t721 t722)))) else (laws_FnFieldsPut.j0 k t718 t724 t727 t728 bt729.1 bt729.2.1 bt729.2.2 true t721 t722)))))) = some r := H
    have A4 := Aside0.mk A40
    clear A40
    replace H := Option.bind_eq_some_iff.mp H
    obtain ⟨⟨t729, t732, t733⟩, A50, H⟩ := H
    replace H : (if (t728 != t733) = true then (laws_FnFieldsPut.j0 k t718 t724 t727 t728 t729 t732 t733 true t721 t722) else (if (t727 != t732) = true then (laws_FnFieldsPut.j0 k t718 t724 t727 t728 t729 t732 t733 true t721 t722) else ((laws_qxFields.f k t724 t729).bind fun t734 => (if t734 = true then ((impl_FieldsOk.f k t718).bind fun t735 => ((spec_FieldsOk.f k t718).bind fun t736 => (if (t735 != t736) = true then (laws_FnFieldsPut.j0 k t718 t724 t727 t728 t729 t732 t733 true t721 t722) else (laws_FnFieldsPut.j0 k t718 t724 t727 t728 t729 t732 t733 (!t728) t721 t722)))) else (laws_FnFieldsPut.j0 k t718 t724 t727 t728 t729 t732 t733 true t721 t722))))) = some r := H
    have A5 := Aside0.mk A50
    clear A50
    have HC6 := Aside0.mk H
    clear H
    go_enter Try.func6, Try.ntmps6
    go_upto_region 6 with (first | ((with_reducible refine gate_callee (f := 28) rfl ?_); refine goesL_ (some 24) rfl rfl Try.func28 (by kernel_rfl) rfl #[.slice A0 l0.length c0] rfl (by (try simp only [List.map_toArray, List.map_cons, List.map_nil]); first | done | rfl | (simp only [List.length_drop, List.length_take]; rfl)) ?_; (with_reducible refine (spec_DrawFieldsPut.calls k _ _ l0 t718 t721 t722 _ ?side1 ?side2 A3.out).mono ?_); (case side1 => repeat (first | exact HR0.out | (with_reducible refine Kd.C_alloc ?_ _) | (with_reducible refine Kd.C_drewN ?_ _) | (with_reducible refine Kd.C_drew ?_))); (case side2 => exact HC0.out); rintro e w7 ⟨v719, rfl, ho0, hb⟩; refine ⟨_, rfl, ?_⟩; have n0_ := Aside0.mk (Kd.R_lower ho0 (below_size (by repeat (first | (with_reducible first | exact HB.out | apply below_alloc | apply pw_below_drewN | apply below_drew1) | exact HB.out | exact Below.refl _ _)))); have n1_ := Aside0.mk (below_step (by repeat (first | (with_reducible first | exact HB.out | apply below_alloc | apply pw_below_drewN | apply below_drew1) | exact HB.out | exact Below.refl _ _)) hb); clear HB; have HO720 := n0_; have HB := n1_; clear n0_ n1_; (try clear hb); (try clear hb2); (try clear hk); (try clear hi); (try clear ho0)) | ((with_reducible refine gate_dst (N := 4) rfl ?_); refine box_event ?hg (N := 4) ?hd (cs := #[.string (⟨#[]⟩ : ByteArray), .string (⟨#[]⟩ : ByteArray)]) (t := 38) ?hr ?_; (case hd => rfl); (case hg => rfl); (case hr => first | (go_simp; done) | (go_simp; rfl)); intro gb723 hg w8 hbox hb; have n0_ := Aside0.mk (Kd.R_below (Kd.R_elderB (by (with_reducible repeat (first | apply Kd.R_alloc | apply Kd.R_drewN | apply Kd.R_drew)); exact HO720.out) gb723 (Nat.le_of_eq hg.symm)) hb); have n1_ := Aside0.mk (below_step (by repeat (first | (with_reducible first | exact HB.out | apply below_alloc | apply pw_below_drewN | apply below_drew1) | exact HB.out | exact Below.refl _ _)) hb); have n2_ := Aside0.mk (hbox); have n3_ := Aside0.mk ((by rw [hg]; exact (below_size (by repeat (first | (with_reducible first | exact HB.out | apply below_alloc | apply pw_below_drewN | apply below_drew1) | exact HB.out | exact Below.refl _ _))) : w.heap.size ≤ gb723)); have n4_ := Aside0.mk ((by rw [hg]; exact (below_size (by repeat (first | (with_reducible first | exact HB.out | apply below_alloc | apply pw_below_drewN | apply below_drew1) | exact HB.out | exact Below.refl _ _))) : w.heap.size ≤ gb723)); clear HO720; clear HB; have HO720 := n0_; have HB := n1_; have BK723 := n2_; have GW723 := n3_; have GE723 := n4_; clear n0_ n1_ n2_ n3_ n4_; clear hb hbox hg; have hcz9_0 : w8.cell? ⟨gb723, 0, none⟩ = some (.string (⟨#[]⟩ : ByteArray)) := (blk_cell BK723.out 0).trans rfl; have hcz9_1 : w8.cell? ⟨gb723, 1, none⟩ = some (.string (⟨#[]⟩ : ByteArray)) := (blk_cell BK723.out 1).trans rfl; have hfz9_0 := blk_frozen BK723.out 0; have hfz9_1 := blk_frozen BK723.out 1; obtain ⟨Ao10, co10, eo10⟩ := Kd.R_slice HO720.out; subst eo10) | ((with_reducible refine gate_callee (f := 24) rfl ?_); refine goesL_ (some 30) rfl rfl Try.func24 (by kernel_rfl) rfl #[.slice Ao10 t718.length co10, .agg #[.string t721, .string t722]] rfl (by (try simp only [List.map_toArray, List.map_cons, List.map_nil]); first | done | rfl | (simp only [List.length_drop, List.length_take]; rfl)) ?_; (with_reducible refine (impl_FieldsPut.calls k _ _ t718 t721 t722 t724 t727 t728 _ ?side1 ?side2 A4.out).mono ?_); (case side1 => refine (Kd.R_reads' (e := 38) (base := w.heap.size) (ok := fun k_ => (True ∧ k_ ≠ gb723)) (n := t718.length) (c := co10) ?_).2.2; exact (by (with_reducible repeat (first | apply Kd.R_alloc | apply Kd.R_drewN | apply Kd.R_drew)); exact (Kd.R_mono (Kd.R_far (p := ⟨gb723, 1, none⟩) (Kd.R_far (p := ⟨gb723, 0, none⟩) (Kd.R_mono HO720.out (fun k_ hk => (⟨hk, by first | exact hk.2 | exact hk | exact hk.1⟩ : _ ∧ k_ ≠ gb723))) (fun _ hk => hk.2) (.string t721)) (fun _ hk => hk.2) (.string t722)) (fun _ h_ => h_.1)))); (case side2 => exact (Kd.R_reads' HO720.out).2.1); rintro e w11 ⟨v725, rfl, ho0, hb⟩; refine ⟨_, rfl, ?_⟩; have n0_ := Aside0.mk (Kd.R_elder' (by (with_reducible repeat (first | apply Kd.R_alloc | apply Kd.R_drewN | apply Kd.R_drew)); exact (Kd.R_mono (Kd.R_far (p := ⟨gb723, 1, none⟩) (Kd.R_far (p := ⟨gb723, 0, none⟩) (Kd.R_mono HO720.out (fun k_ hk => (⟨hk, by first | exact hk.2 | exact hk | exact hk.1⟩ : _ ∧ k_ ≠ gb723))) (fun _ hk => hk.2) (.string t721)) (fun _ hk => hk.2) (.string t722)) (fun _ h_ => h_.1))) (Kd.R_base ho0) hb); have n1_ := Aside0.mk (Kd.R_lower (Kd.R_newB (Kd.R_new' ho0 (Kd.R_lt (by (with_reducible repeat (first | apply Kd.R_alloc | apply Kd.R_drewN | apply Kd.R_drew)); exact (Kd.R_mono (Kd.R_far (p := ⟨gb723, 1, none⟩) (Kd.R_far (p := ⟨gb723, 0, none⟩) (Kd.R_mono HO720.out (fun k_ hk => (⟨hk, by first | exact hk.2 | exact hk | exact hk.1⟩ : _ ∧ k_ ≠ gb723))) (fun _ hk => hk.2) (.string t721)) (fun _ hk => hk.2) (.string t722)) (fun _ h_ => h_.1))))) (g := gb723) (o := .cells #[.string t721, .string t722] 38 (0, 0)) (by (with_reducible repeat (first | refine blk_drewN ?_ _ | refine blk_drew ?_ | refine blk_alloc ?_ _)); refine blk_put (cs := #[.string t721, .string (⟨#[]⟩ : ByteArray)]) ?_ 1 _ rfl; (with_reducible repeat (first | refine blk_drewN ?_ _ | refine blk_drew ?_ | refine blk_alloc ?_ _)); refine blk_put (cs := #[.string (⟨#[]⟩ : ByteArray), .string (⟨#[]⟩ : ByteArray)]) ?_ 0 _ rfl; (with_reducible repeat (first | refine blk_drewN ?_ _ | refine blk_drew ?_ | refine blk_alloc ?_ _)); exact BK723.out)) (below_size (by repeat (first | (with_reducible first | exact HB.out | apply below_alloc | apply pw_below_drewN | apply below_drew1 | refine below_set ?_ GE723.out) | exact HB.out)))); have n2_ := Aside0.mk (blk_below (g := gb723) (o := .cells #[.string t721, .string t722] 38 (0, 0)) (by (with_reducible repeat (first | refine blk_drewN ?_ _ | refine blk_drew ?_ | refine blk_alloc ?_ _)); refine blk_put (cs := #[.string t721, .string (⟨#[]⟩ : ByteArray)]) ?_ 1 _ rfl; (with_reducible repeat (first | refine blk_drewN ?_ _ | refine blk_drew ?_ | refine blk_alloc ?_ _)); refine blk_put (cs := #[.string (⟨#[]⟩ : ByteArray), .string (⟨#[]⟩ : ByteArray)]) ?_ 0 _ rfl; (with_reducible repeat (first | refine blk_drewN ?_ _ | refine blk_drew ?_ | refine blk_alloc ?_ _)); exact BK723.out) hb); have n3_ := Aside0.mk (below_step (by repeat (first | (with_reducible first | exact HB.out | apply below_alloc | apply pw_below_drewN | apply below_drew1 | refine below_set ?_ GE723.out) | exact HB.out)) hb); clear HO720; clear BK723; clear HB; have HO720 := n0_; have HO726 := n1_; have BK723 := n2_; have HB := n3_; clear n0_ n1_ n2_ n3_; (try clear hb); (try clear hb2); (try clear hk); (try clear hi); (try clear ho0); have hcz12_0 : w11.cell? ⟨gb723, 0, none⟩ = some (.string t721) := (blk_cell BK723.out 0).trans rfl; have hcz12_1 : w11.cell? ⟨gb723, 1, none⟩ = some (.string t722) := (blk_cell BK723.out 1).trans rfl; have hfz12_0 := blk_frozen BK723.out 0; have hfz12_1 := blk_frozen BK723.out 1) | ((with_reducible refine gate_callee (f := 21) rfl ?_); refine goesL_ (some 37) rfl rfl Try.func21 (by kernel_rfl) rfl #[.slice Ao10 t718.length co10, .agg #[.string t721, .string t722]] rfl (by (try simp only [List.map_toArray, List.map_cons, List.map_nil]); first | done | rfl | (simp only [List.length_drop, List.length_take]; rfl)) ?_; (with_reducible refine (spec_FieldsPut.calls k _ _ t718 t721 t722 t729 t732 t733 _ ?side1 ?side2 A5.out).mono ?_); (case side1 => repeat (first | exact (Kd.R_reads' HO720.out).2.2 | (with_reducible refine Kd.C_alloc ?_ _) | (with_reducible refine Kd.C_drewN ?_ _) | (with_reducible refine Kd.C_drew ?_))); (case side2 => exact (Kd.R_reads' HO720.out).2.1); rintro e w13 ⟨v730, rfl, ho0, hb⟩; refine ⟨_, rfl, ?_⟩; have n0_ := Aside0.mk (Kd.R_elder' (by (with_reducible repeat (first | apply Kd.R_alloc | apply Kd.R_drewN | apply Kd.R_drew)); exact HO720.out) (Kd.R_base ho0) hb); have n1_ := Aside0.mk (Kd.R_elder' (by (with_reducible repeat (first | apply Kd.R_alloc | apply Kd.R_drewN | apply Kd.R_drew)); exact HO726.out) (Kd.R_base ho0) hb); have n2_ := Aside0.mk (Kd.R_lower (Kd.R_newB (Kd.R_new' (Kd.R_new' ho0 (Kd.R_lt (by (with_reducible repeat (first | apply Kd.R_alloc | apply Kd.R_drewN | apply Kd.R_drew)); exact HO720.out))) (Kd.R_lt (by (with_reducible repeat (first | apply Kd.R_alloc | apply Kd.R_drewN | apply Kd.R_drew)); exact HO726.out))) (g := gb723) (o := .cells #[.string t721, .string t722] 38 (0, 0)) (by (with_reducible repeat (first | refine blk_drewN ?_ _ | refine blk_drew ?_ | refine blk_alloc ?_ _)); exact BK723.out)) (below_size (by repeat (first | (with_reducible first | exact HB.out | apply below_alloc | apply pw_below_drewN | apply below_drew1 | refine below_set ?_ GE723.out) | exact HB.out)))); have n3_ := Aside0.mk (blk_below (g := gb723) (o := .cells #[.string t721, .string t722] 38 (0, 0)) (by (with_reducible repeat (first | refine blk_drewN ?_ _ | refine blk_drew ?_ | refine blk_alloc ?_ _)); exact BK723.out) hb); have n4_ := Aside0.mk (below_step (by repeat (first | (with_reducible first | exact HB.out | apply below_alloc | apply pw_below_drewN | apply below_drew1 | refine below_set ?_ GE723.out) | exact HB.out)) hb); clear HO720; clear HO726; clear BK723; clear HB; have HO720 := n0_; have HO726 := n1_; have HO731 := n2_; have BK723 := n3_; have HB := n4_; clear n0_ n1_ n2_ n3_ n4_; (try clear hb); (try clear hb2); (try clear hk); (try clear hi); (try clear ho0)))
    (try simp only [Act.put, List.setIfInBounds_toArray, List.set_cons_zero, List.set_cons_succ])
    go_cut [65] (fun v65 wc => ∃ (kq : Nat) (x65_5 : Bool), v65 = .bool x65_5 ∧ Aside0 (laws_FnFieldsPut.j0 kq t718 t724 t727 t728 t729 t732 t733 x65_5 t721 t722 = some r) ∧ Aside0 (kq ≤ k) ∧ Aside0 (Kd.R k38 38 wc w.heap.size (fun k_ => some k_ ≠ (v725 : Value).ownBlock ∧ some k_ ≠ (v730 : Value).ownBlock ∧ k_ ≠ gb723) (.slice Ao10 t718.length co10) t718) ∧ Aside0 (Kd.R k38 38 wc w.heap.size (fun k_ => some k_ ≠ ((.slice Ao10 t718.length co10) : Value).ownBlock ∧ some k_ ≠ (v730 : Value).ownBlock ∧ k_ ≠ gb723) v725 t724) ∧ Aside0 (Kd.R k38 38 wc w.heap.size (fun k_ => some k_ ≠ ((.slice Ao10 t718.length co10) : Value).ownBlock ∧ some k_ ≠ (v725 : Value).ownBlock ∧ k_ ≠ gb723) v730 t729) ∧ Aside0 (wc.heap[gb723]? = some (.cells #[.string t721, .string t722] 38 (0, 0))) ∧ Aside0 (Below w.heap.size w wc))
    case first =>
      have H := HC6.out
      clear HC6
      by_cases c14 : (t728 != t733) = true
      · rw [if_pos c14] at H
        have c14b0 : (t728 != t733) = true := c14
        (try (have c14b1 : decide (t728 = t733) = false := by simpa using c14))
        (try (have c14b2 : (t728 == t733) = false := by simpa using c14))
        (try (have c14b3 : ¬ (t728 = t733) := by simpa using c14))
        clear c14
        (first | rw [c14b0] | (simp only [i64_w, i32_w]; rw [c14b0]) | skip)
        have H' := Aside0.mk H
        clear H
        go_wp2
        go_meet
        case rel => exact ⟨_, (true), (by first | rfl | (simp; done) | (simp [*]; done)), H', ⟨by first | omega | exact Nat.le_refl _⟩, ⟨by (with_reducible repeat (first | apply Kd.R_alloc | apply Kd.R_drewN | apply Kd.R_drew)); exact Kd.R_mono HO720.out (fun _ hk => ⟨hk.1.2, ⟨hk.2, hk.1.1.2⟩⟩)⟩, ⟨by (with_reducible repeat (first | apply Kd.R_alloc | apply Kd.R_drewN | apply Kd.R_drew)); exact Kd.R_mono HO726.out (fun _ hk => ⟨hk.1.1.2, ⟨hk.2, hk.1.2⟩⟩)⟩, ⟨by (with_reducible repeat (first | apply Kd.R_alloc | apply Kd.R_drewN | apply Kd.R_drew)); exact Kd.R_mono HO731.out (fun _ hk => ⟨hk.1.1.2, ⟨hk.1.2, hk.2⟩⟩)⟩, ⟨by (with_reducible repeat (first | refine blk_drewN ?_ _ | refine blk_drew ?_ | refine blk_alloc ?_ _)); exact BK723.out⟩, ⟨by repeat (first | (with_reducible first | exact HB.out | apply below_alloc | apply pw_below_drewN | apply below_drew1 | refine below_set ?_ GE723.out) | exact HB.out)⟩⟩
      · rw [if_neg c14] at H
        have c14b0 : (t728 != t733) = false := by simpa using c14
        (try (have c14b1 : decide (t728 = t733) = true := by simpa using c14))
        (try (have c14b2 : (t728 == t733) = true := by simpa using c14))
        clear c14
        (first | rw [c14b0] | (simp only [i64_w, i32_w]; rw [c14b0]) | skip)
        by_cases c15 : (t727 != t732) = true
        · rw [if_pos c15] at H
          have c15b0 : (t727 != t732) = true := c15
          (try (have c15b1 : decide (t727 = t732) = false := by simpa using c15))
          (try (have c15b2 : (t727 == t732) = false := by simpa using c15))
          (try (have c15b3 : ¬ (t727 = t732) := by simpa using c15))
          clear c15
          have H' := Aside0.mk H
          clear H
          go_wp2
          go_meet
          case rel => exact ⟨_, (true), (by first | rfl | (simp; done) | (simp [*]; done)), H', ⟨by first | omega | exact Nat.le_refl _⟩, ⟨by (with_reducible repeat (first | apply Kd.R_alloc | apply Kd.R_drewN | apply Kd.R_drew)); exact Kd.R_mono HO720.out (fun _ hk => ⟨hk.1.2, ⟨hk.2, hk.1.1.2⟩⟩)⟩, ⟨by (with_reducible repeat (first | apply Kd.R_alloc | apply Kd.R_drewN | apply Kd.R_drew)); exact Kd.R_mono HO726.out (fun _ hk => ⟨hk.1.1.2, ⟨hk.2, hk.1.2⟩⟩)⟩, ⟨by (with_reducible repeat (first | apply Kd.R_alloc | apply Kd.R_drewN | apply Kd.R_drew)); exact Kd.R_mono HO731.out (fun _ hk => ⟨hk.1.1.2, ⟨hk.1.2, hk.2⟩⟩)⟩, ⟨by (with_reducible repeat (first | refine blk_drewN ?_ _ | refine blk_drew ?_ | refine blk_alloc ?_ _)); exact BK723.out⟩, ⟨by repeat (first | (with_reducible first | exact HB.out | apply below_alloc | apply pw_below_drewN | apply below_drew1 | refine below_set ?_ GE723.out) | exact HB.out)⟩⟩
        · rw [if_neg c15] at H
          have c15b0 : (t727 != t732) = false := by simpa using c15
          (try (have c15b1 : decide (t727 = t732) = true := by simpa using c15))
          (try (have c15b2 : (t727 == t732) = true := by simpa using c15))
          clear c15
          replace H := Option.bind_eq_some_iff.mp H
          obtain ⟨t734, A160, H⟩ := H
          replace H : (if t734 = true then ((impl_FieldsOk.f k t718).bind fun t735 => ((spec_FieldsOk.f k t718).bind fun t736 => (if (t735 != t736) = true then (laws_FnFieldsPut.j0 k t718 t724 t727 t728 t729 t732 t733 true t721 t722) else (laws_FnFieldsPut.j0 k t718 t724 t727 t728 t729 t732 t733 (!t728) t721 t722)))) else (laws_FnFieldsPut.j0 k t718 t724 t727 t728 t729 t732 t733 true t721 t722)) = some r := H
          have A16 := Aside0.mk A160
          clear A160
          by_cases c17 : t734 = true
          · subst c17
            have H1 : ((impl_FieldsOk.f k t718).bind fun t735 => ((spec_FieldsOk.f k t718).bind fun t736 => (if (t735 != t736) = true then (laws_FnFieldsPut.j0 k t718 t724 t727 t728 t729 t732 t733 true t721 t722) else (laws_FnFieldsPut.j0 k t718 t724 t727 t728 t729 t732 t733 (!t728) t721 t722)))) = some r := by rw [if_pos rfl] at H; exact H
            clear H
            have H := H1
            clear H1
            replace H := Option.bind_eq_some_iff.mp H
            obtain ⟨t735, A180, H⟩ := H
            replace H : ((spec_FieldsOk.f k t718).bind fun t736 => (if (t735 != t736) = true then (laws_FnFieldsPut.j0 k t718 t724 t727 t728 t729 t732 t733 true t721 t722) else (laws_FnFieldsPut.j0 k t718 t724 t727 t728 t729 t732 t733 (!t728) t721 t722))) = some r := H
            have A18 := Aside0.mk A180
            clear A180
            replace H := Option.bind_eq_some_iff.mp H
            obtain ⟨t736, A190, H⟩ := H
            replace H : (if (t735 != t736) = true then (laws_FnFieldsPut.j0 k t718 t724 t727 t728 t729 t732 t733 true t721 t722) else (laws_FnFieldsPut.j0 k t718 t724 t727 t728 t729 t732 t733 (!t728) t721 t722)) = some r := H
            have A19 := Aside0.mk A190
            clear A190
            by_cases c20 : (t735 != t736) = true
            · rw [if_pos c20] at H
              have c20b0 : (t735 != t736) = true := c20
              (try (have c20b1 : decide (t735 = t736) = false := by simpa using c20))
              (try (have c20b2 : (t735 == t736) = false := by simpa using c20))
              (try (have c20b3 : ¬ (t735 = t736) := by simpa using c20))
              clear c20
              have H' := Aside0.mk H
              clear H
              obtain ⟨Ao21, co21, eo21⟩ := Kd.R_slice HO726.out
              subst eo21
              obtain ⟨Ao22, co22, eo22⟩ := Kd.R_slice HO731.out
              subst eo22
              go_wp2_with (first | (go_at_call 29; (with_reducible refine (laws_qxFields.calls k _ _ t724 _ _ t729 true _ ?side1 ?side2 ?side3 ?side4 A16.out).mono ?_); (case side1 => repeat (first | exact (Kd.R_reads' HO726.out).2.2 | (with_reducible refine Kd.C_alloc ?_ _) | (with_reducible refine Kd.C_drewN ?_ _) | (with_reducible refine Kd.C_drew ?_))); (case side2 => exact (Kd.R_reads' HO726.out).2.1); (case side3 => repeat (first | exact (Kd.R_reads' HO731.out).2.2 | (with_reducible refine Kd.C_alloc ?_ _) | (with_reducible refine Kd.C_drewN ?_ _) | (with_reducible refine Kd.C_drew ?_))); (case side4 => exact (Kd.R_reads' HO731.out).2.1); rintro e w' ⟨rfl, ⟨nd, rfl⟩⟩) | (go_at_call 30; (with_reducible refine (impl_FieldsOk.calls k _ _ t718 t735 _ ?side1 ?side2 A18.out).mono ?_); (case side1 => repeat (first | exact (Kd.R_reads' HO720.out).2.2 | (with_reducible refine Kd.C_alloc ?_ _) | (with_reducible refine Kd.C_drewN ?_ _) | (with_reducible refine Kd.C_drew ?_))); (case side2 => exact (Kd.R_reads' HO720.out).2.1); rintro e w23 ⟨rfl, hb⟩; have n0_ := Aside0.mk (Kd.R_below (by (with_reducible repeat (first | apply Kd.R_alloc | apply Kd.R_drewN | apply Kd.R_drew)); exact HO720.out) hb); have n1_ := Aside0.mk (Kd.R_below (by (with_reducible repeat (first | apply Kd.R_alloc | apply Kd.R_drewN | apply Kd.R_drew)); exact HO726.out) hb); have n2_ := Aside0.mk (Kd.R_below (by (with_reducible repeat (first | apply Kd.R_alloc | apply Kd.R_drewN | apply Kd.R_drew)); exact HO731.out) hb); have n3_ := Aside0.mk (blk_below (g := gb723) (o := .cells #[.string t721, .string t722] 38 (0, 0)) (by (with_reducible repeat (first | refine blk_drewN ?_ _ | refine blk_drew ?_ | refine blk_alloc ?_ _)); exact BK723.out) hb); have n4_ := Aside0.mk (below_step (by repeat (first | (with_reducible first | exact HB.out | apply below_alloc | apply pw_below_drewN | apply below_drew1 | refine below_set ?_ GE723.out) | exact HB.out)) hb); clear HO720; clear HO726; clear HO731; clear BK723; clear HB; have HO720 := n0_; have HO726 := n1_; have HO731 := n2_; have BK723 := n3_; have HB := n4_; clear n0_ n1_ n2_ n3_ n4_; (try clear hb); (try clear hb2); (try clear hk); (try clear hi)) | (go_at_call 31; (with_reducible refine (spec_FieldsOk.calls k _ _ t718 t736 _ ?side1 ?side2 A19.out).mono ?_); (case side1 => repeat (first | exact (Kd.R_reads' HO720.out).2.2 | (with_reducible refine Kd.C_alloc ?_ _) | (with_reducible refine Kd.C_drewN ?_ _) | (with_reducible refine Kd.C_drew ?_))); (case side2 => exact (Kd.R_reads' HO720.out).2.1); rintro e w' ⟨rfl, ⟨nd, rfl⟩⟩))
              go_meet
              case rel => exact ⟨_, (true), (by first | rfl | (simp; done) | (simp [*]; done)), H', ⟨by first | omega | exact Nat.le_refl _⟩, ⟨by (with_reducible repeat (first | apply Kd.R_alloc | apply Kd.R_drewN | apply Kd.R_drew)); exact Kd.R_mono HO720.out (fun _ hk => ⟨hk.1.2, ⟨hk.2, hk.1.1.2⟩⟩)⟩, ⟨by (with_reducible repeat (first | apply Kd.R_alloc | apply Kd.R_drewN | apply Kd.R_drew)); exact Kd.R_mono HO726.out (fun _ hk => ⟨hk.1.1.2, ⟨hk.2, hk.1.2⟩⟩)⟩, ⟨by (with_reducible repeat (first | apply Kd.R_alloc | apply Kd.R_drewN | apply Kd.R_drew)); exact Kd.R_mono HO731.out (fun _ hk => ⟨hk.1.1.2, ⟨hk.1.2, hk.2⟩⟩)⟩, ⟨by (with_reducible repeat (first | refine blk_drewN ?_ _ | refine blk_drew ?_ | refine blk_alloc ?_ _)); exact BK723.out⟩, ⟨by repeat (first | (with_reducible first | exact HB.out | apply below_alloc | apply pw_below_drewN | apply below_drew1 | refine below_set ?_ GE723.out) | exact HB.out)⟩⟩
            · rw [if_neg c20] at H
              have c20b0 : (t735 != t736) = false := by simpa using c20
              (try (have c20b1 : decide (t735 = t736) = true := by simpa using c20))
              (try (have c20b2 : (t735 == t736) = true := by simpa using c20))
              clear c20
              have H' := Aside0.mk H
              clear H
              obtain ⟨Ao24, co24, eo24⟩ := Kd.R_slice HO726.out
              subst eo24
              obtain ⟨Ao25, co25, eo25⟩ := Kd.R_slice HO731.out
              subst eo25
              go_wp2_with (first | (go_at_call 29; (with_reducible refine (laws_qxFields.calls k _ _ t724 _ _ t729 true _ ?side1 ?side2 ?side3 ?side4 A16.out).mono ?_); (case side1 => repeat (first | exact (Kd.R_reads' HO726.out).2.2 | (with_reducible refine Kd.C_alloc ?_ _) | (with_reducible refine Kd.C_drewN ?_ _) | (with_reducible refine Kd.C_drew ?_))); (case side2 => exact (Kd.R_reads' HO726.out).2.1); (case side3 => repeat (first | exact (Kd.R_reads' HO731.out).2.2 | (with_reducible refine Kd.C_alloc ?_ _) | (with_reducible refine Kd.C_drewN ?_ _) | (with_reducible refine Kd.C_drew ?_))); (case side4 => exact (Kd.R_reads' HO731.out).2.1); rintro e w' ⟨rfl, ⟨nd, rfl⟩⟩) | (go_at_call 30; (with_reducible refine (impl_FieldsOk.calls k _ _ t718 t735 _ ?side1 ?side2 A18.out).mono ?_); (case side1 => repeat (first | exact (Kd.R_reads' HO720.out).2.2 | (with_reducible refine Kd.C_alloc ?_ _) | (with_reducible refine Kd.C_drewN ?_ _) | (with_reducible refine Kd.C_drew ?_))); (case side2 => exact (Kd.R_reads' HO720.out).2.1); rintro e w26 ⟨rfl, hb⟩; have n0_ := Aside0.mk (Kd.R_below (by (with_reducible repeat (first | apply Kd.R_alloc | apply Kd.R_drewN | apply Kd.R_drew)); exact HO720.out) hb); have n1_ := Aside0.mk (Kd.R_below (by (with_reducible repeat (first | apply Kd.R_alloc | apply Kd.R_drewN | apply Kd.R_drew)); exact HO726.out) hb); have n2_ := Aside0.mk (Kd.R_below (by (with_reducible repeat (first | apply Kd.R_alloc | apply Kd.R_drewN | apply Kd.R_drew)); exact HO731.out) hb); have n3_ := Aside0.mk (blk_below (g := gb723) (o := .cells #[.string t721, .string t722] 38 (0, 0)) (by (with_reducible repeat (first | refine blk_drewN ?_ _ | refine blk_drew ?_ | refine blk_alloc ?_ _)); exact BK723.out) hb); have n4_ := Aside0.mk (below_step (by repeat (first | (with_reducible first | exact HB.out | apply below_alloc | apply pw_below_drewN | apply below_drew1 | refine below_set ?_ GE723.out) | exact HB.out)) hb); clear HO720; clear HO726; clear HO731; clear BK723; clear HB; have HO720 := n0_; have HO726 := n1_; have HO731 := n2_; have BK723 := n3_; have HB := n4_; clear n0_ n1_ n2_ n3_ n4_; (try clear hb); (try clear hb2); (try clear hk); (try clear hi)) | (go_at_call 31; (with_reducible refine (spec_FieldsOk.calls k _ _ t718 t736 _ ?side1 ?side2 A19.out).mono ?_); (case side1 => repeat (first | exact (Kd.R_reads' HO720.out).2.2 | (with_reducible refine Kd.C_alloc ?_ _) | (with_reducible refine Kd.C_drewN ?_ _) | (with_reducible refine Kd.C_drew ?_))); (case side2 => exact (Kd.R_reads' HO720.out).2.1); rintro e w' ⟨rfl, ⟨nd, rfl⟩⟩))
              go_meet
              case rel => exact ⟨_, (!t728), (by first | rfl | (simp; done) | (simp [*]; done)), H', ⟨by first | omega | exact Nat.le_refl _⟩, ⟨by (with_reducible repeat (first | apply Kd.R_alloc | apply Kd.R_drewN | apply Kd.R_drew)); exact Kd.R_mono HO720.out (fun _ hk => ⟨hk.1.2, ⟨hk.2, hk.1.1.2⟩⟩)⟩, ⟨by (with_reducible repeat (first | apply Kd.R_alloc | apply Kd.R_drewN | apply Kd.R_drew)); exact Kd.R_mono HO726.out (fun _ hk => ⟨hk.1.1.2, ⟨hk.2, hk.1.2⟩⟩)⟩, ⟨by (with_reducible repeat (first | apply Kd.R_alloc | apply Kd.R_drewN | apply Kd.R_drew)); exact Kd.R_mono HO731.out (fun _ hk => ⟨hk.1.1.2, ⟨hk.1.2, hk.2⟩⟩)⟩, ⟨by (with_reducible repeat (first | refine blk_drewN ?_ _ | refine blk_drew ?_ | refine blk_alloc ?_ _)); exact BK723.out⟩, ⟨by repeat (first | (with_reducible first | exact HB.out | apply below_alloc | apply pw_below_drewN | apply below_drew1 | refine below_set ?_ GE723.out) | exact HB.out)⟩⟩
          · replace c17 := Bool.eq_false_iff.mpr c17
            subst c17
            have H1 : (laws_FnFieldsPut.j0 k t718 t724 t727 t728 t729 t732 t733 true t721 t722) = some r := by rw [if_neg (show ¬ (false = true) by decide)] at H; exact H
            clear H
            have H := H1
            clear H1
            have H' := Aside0.mk H
            clear H
            obtain ⟨Ao27, co27, eo27⟩ := Kd.R_slice HO726.out
            subst eo27
            obtain ⟨Ao28, co28, eo28⟩ := Kd.R_slice HO731.out
            subst eo28
            go_wp2_with (first | (go_at_call 29; (with_reducible refine (laws_qxFields.calls k _ _ t724 _ _ t729 false _ ?side1 ?side2 ?side3 ?side4 A16.out).mono ?_); (case side1 => repeat (first | exact (Kd.R_reads' HO726.out).2.2 | (with_reducible refine Kd.C_alloc ?_ _) | (with_reducible refine Kd.C_drewN ?_ _) | (with_reducible refine Kd.C_drew ?_))); (case side2 => exact (Kd.R_reads' HO726.out).2.1); (case side3 => repeat (first | exact (Kd.R_reads' HO731.out).2.2 | (with_reducible refine Kd.C_alloc ?_ _) | (with_reducible refine Kd.C_drewN ?_ _) | (with_reducible refine Kd.C_drew ?_))); (case side4 => exact (Kd.R_reads' HO731.out).2.1); rintro e w' ⟨rfl, ⟨nd, rfl⟩⟩))
            go_meet
            case rel => exact ⟨_, (true), (by first | rfl | (simp; done) | (simp [*]; done)), H', ⟨by first | omega | exact Nat.le_refl _⟩, ⟨by (with_reducible repeat (first | apply Kd.R_alloc | apply Kd.R_drewN | apply Kd.R_drew)); exact Kd.R_mono HO720.out (fun _ hk => ⟨hk.1.2, ⟨hk.2, hk.1.1.2⟩⟩)⟩, ⟨by (with_reducible repeat (first | apply Kd.R_alloc | apply Kd.R_drewN | apply Kd.R_drew)); exact Kd.R_mono HO726.out (fun _ hk => ⟨hk.1.1.2, ⟨hk.2, hk.1.2⟩⟩)⟩, ⟨by (with_reducible repeat (first | apply Kd.R_alloc | apply Kd.R_drewN | apply Kd.R_drew)); exact Kd.R_mono HO731.out (fun _ hk => ⟨hk.1.1.2, ⟨hk.1.2, hk.2⟩⟩)⟩, ⟨by (with_reducible repeat (first | refine blk_drewN ?_ _ | refine blk_drew ?_ | refine blk_alloc ?_ _)); exact BK723.out⟩, ⟨by repeat (first | (with_reducible first | exact HB.out | apply below_alloc | apply pw_below_drewN | apply below_drew1 | refine below_set ?_ GE723.out) | exact HB.out)⟩⟩
    case rest =>
      clear HC6
      try clear c1
      try clear c2
      try clear c2b0
      try clear c2b1
      try clear p2
      try clear c6
      try clear c14
      try clear c14b0
      try clear c14b1
      try clear c14b2
      try clear c15
      try clear c15b0
      try clear c15b1
      try clear c15b2
      try clear c17
      try clear c20
      try clear c20b0
      try clear c20b1
      try clear c20b2
      try clear c21
      try clear c24
      try clear c28
      try clear hcz12_0
      try clear hcz12_1
      try clear hcz9_0
      try clear hcz9_1
      try clear hfz12_0
      try clear hfz12_1
      try clear hfz9_0
      try clear hfz9_1
      obtain ⟨kq, x65_5, rfl, HA, HJ5, HO_3, HO_5, HO_8, BK723, HB⟩ := hcut
      cases kq with
      | zero => exact absurd HA.out (by simp [laws_FnFieldsPut.j0])
      | succ kj5 =>
        have H := HA.out
        clear HA
        simp only [laws_FnFieldsPut.j0] at H
        by_cases c29 : x65_5 = true
        · subst c29
          have H1 : (if (t728 == t733) = true then (if (t727 == t732) = true then ((laws_qxFields.f kj5 t724 t729).bind fun t737 => (if t737 = true then ((impl_FieldsOk.f kj5 t718).bind fun t738 => ((spec_FieldsOk.f kj5 t718).bind fun t739 => (some (t738 == t739)))) else (some false))) else (some false)) else (some false)) = some r := by rw [if_pos rfl] at H; exact H
          clear H
          have H := H1
          clear H1
          by_cases c30 : (t728 == t733) = true
          · rw [if_pos c30] at H
            have c30b0 : (t728 == t733) = true := c30
            (try (have c30b1 : decide (t728 = t733) = true := by simpa using c30))
            (try (have c30b2 : (t728 == t733) = true := by simpa using c30))
            clear c30
            by_cases c31 : (t727 == t732) = true
            · rw [if_pos c31] at H
              have c31b0 : (t727 == t732) = true := c31
              (try (have c31b1 : decide (t727 = t732) = true := by simpa using c31))
              (try (have c31b2 : (t727 == t732) = true := by simpa using c31))
              clear c31
              replace H := Option.bind_eq_some_iff.mp H
              obtain ⟨t737, A320, H⟩ := H
              replace H : (if t737 = true then ((impl_FieldsOk.f kj5 t718).bind fun t738 => ((spec_FieldsOk.f kj5 t718).bind fun t739 => (some (t738 == t739)))) else (some false)) = some r := H
              have A32 := Aside0.mk A320
              clear A320
              by_cases c33 : t737 = true
              · subst c33
                have H1 : ((impl_FieldsOk.f kj5 t718).bind fun t738 => ((spec_FieldsOk.f kj5 t718).bind fun t739 => (some (t738 == t739)))) = some r := by rw [if_pos rfl] at H; exact H
                clear H
                have H := H1
                clear H1
                replace H := Option.bind_eq_some_iff.mp H
                obtain ⟨t738, A340, H⟩ := H
                replace H : ((spec_FieldsOk.f kj5 t718).bind fun t739 => (some (t738 == t739))) = some r := H
                have A34 := Aside0.mk A340
                clear A340
                replace H := Option.bind_eq_some_iff.mp H
                obtain ⟨t739, A350, H⟩ := H
                replace H : (some (t738 == t739)) = some r := H
                have A35 := Aside0.mk A350
                clear A350
                obtain rfl := Option.some.inj H
                obtain ⟨Ao36, co36, eo36⟩ := Kd.R_slice HO_5.out
                subst eo36
                obtain ⟨Ao37, co37, eo37⟩ := Kd.R_slice HO_8.out
                subst eo37
                go_wp2_with (first | (go_at_call 29; (with_reducible refine (laws_qxFields.calls kj5 _ _ t724 _ _ t729 true _ ?side1 ?side2 ?side3 ?side4 A32.out).mono ?_); (case side1 => repeat (first | exact (Kd.R_reads' HO_5.out).2.2 | (with_reducible refine Kd.C_alloc ?_ _) | (with_reducible refine Kd.C_drewN ?_ _) | (with_reducible refine Kd.C_drew ?_))); (case side2 => exact (Kd.R_reads' HO_5.out).2.1); (case side3 => repeat (first | exact (Kd.R_reads' HO_8.out).2.2 | (with_reducible refine Kd.C_alloc ?_ _) | (with_reducible refine Kd.C_drewN ?_ _) | (with_reducible refine Kd.C_drew ?_))); (case side4 => exact (Kd.R_reads' HO_8.out).2.1); rintro e w' ⟨rfl, ⟨nd, rfl⟩⟩) | (go_at_call 30; (with_reducible refine (impl_FieldsOk.calls kj5 _ _ t718 t738 _ ?side1 ?side2 A34.out).mono ?_); (case side1 => repeat (first | exact (Kd.R_reads' HO_3.out).2.2 | (with_reducible refine Kd.C_alloc ?_ _) | (with_reducible refine Kd.C_drewN ?_ _) | (with_reducible refine Kd.C_drew ?_))); (case side2 => exact (Kd.R_reads' HO_3.out).2.1); rintro e w38 ⟨rfl, hb⟩; have n0_ := Aside0.mk (Kd.R_below (by (with_reducible repeat (first | apply Kd.R_alloc | apply Kd.R_drewN | apply Kd.R_drew)); exact HO_3.out) hb); have n1_ := Aside0.mk (Kd.R_below (by (with_reducible repeat (first | apply Kd.R_alloc | apply Kd.R_drewN | apply Kd.R_drew)); exact HO_5.out) hb); have n2_ := Aside0.mk (Kd.R_below (by (with_reducible repeat (first | apply Kd.R_alloc | apply Kd.R_drewN | apply Kd.R_drew)); exact HO_8.out) hb); have n3_ := Aside0.mk (blk_below (g := gb723) (o := .cells #[.string t721, .string t722] 38 (0, 0)) (by (with_reducible repeat (first | refine blk_drewN ?_ _ | refine blk_drew ?_ | refine blk_alloc ?_ _)); exact BK723.out) hb); have n4_ := Aside0.mk (below_step (by repeat (first | (with_reducible first | exact HB.out | apply below_alloc | apply pw_below_drewN | apply below_drew1 | refine below_set ?_ GE723.out) | exact HB.out)) hb); clear HO_3; clear HO_5; clear HO_8; clear BK723; clear HB; have HO_3 := n0_; have HO_5 := n1_; have HO_8 := n2_; have BK723 := n3_; have HB := n4_; clear n0_ n1_ n2_ n3_ n4_; (try clear hb); (try clear hb2); (try clear hk); (try clear hi)) | (go_at_call 31; (with_reducible refine (spec_FieldsOk.calls kj5 _ _ t718 t739 _ ?side1 ?side2 A35.out).mono ?_); (case side1 => repeat (first | exact (Kd.R_reads' HO_3.out).2.2 | (with_reducible refine Kd.C_alloc ?_ _) | (with_reducible refine Kd.C_drewN ?_ _) | (with_reducible refine Kd.C_drew ?_))); (case side2 => exact (Kd.R_reads' HO_3.out).2.1); rintro e w' ⟨rfl, ⟨nd, rfl⟩⟩))
                go_ret
                exact ⟨by first | rfl | (simp [errW_none, errW_some] <;> rfl) | (simp [*, errW_none, errW_some] <;> rfl), by repeat (first | (with_reducible first | exact HB.out | apply below_alloc | apply pw_below_drewN | apply below_drew1 | refine below_set ?_ GE723.out) | exact HB.out)⟩
              · replace c33 := Bool.eq_false_iff.mpr c33
                subst c33
                have H1 : (some false) = some r := by rw [if_neg (show ¬ (false = true) by decide)] at H; exact H
                clear H
                have H := H1
                clear H1
                obtain rfl := Option.some.inj H
                obtain ⟨Ao39, co39, eo39⟩ := Kd.R_slice HO_5.out
                subst eo39
                obtain ⟨Ao40, co40, eo40⟩ := Kd.R_slice HO_8.out
                subst eo40
                go_wp2_with (first | (go_at_call 29; (with_reducible refine (laws_qxFields.calls kj5 _ _ t724 _ _ t729 false _ ?side1 ?side2 ?side3 ?side4 A32.out).mono ?_); (case side1 => repeat (first | exact (Kd.R_reads' HO_5.out).2.2 | (with_reducible refine Kd.C_alloc ?_ _) | (with_reducible refine Kd.C_drewN ?_ _) | (with_reducible refine Kd.C_drew ?_))); (case side2 => exact (Kd.R_reads' HO_5.out).2.1); (case side3 => repeat (first | exact (Kd.R_reads' HO_8.out).2.2 | (with_reducible refine Kd.C_alloc ?_ _) | (with_reducible refine Kd.C_drewN ?_ _) | (with_reducible refine Kd.C_drew ?_))); (case side4 => exact (Kd.R_reads' HO_8.out).2.1); rintro e w' ⟨rfl, ⟨nd, rfl⟩⟩))
                go_ret
                exact ⟨by first | rfl | (simp [errW_none, errW_some] <;> rfl) | (simp [*, errW_none, errW_some] <;> rfl), by repeat (first | (with_reducible first | exact HB.out | apply below_alloc | apply pw_below_drewN | apply below_drew1 | refine below_set ?_ GE723.out) | exact HB.out)⟩
            · rw [if_neg c31] at H
              have c31b0 : (t727 == t732) = false := by simpa using c31
              (try (have c31b1 : decide (t727 = t732) = false := by simpa using c31))
              (try (have c31b2 : (t727 == t732) = false := by simpa using c31))
              (try (have c31b3 : ¬ (t727 = t732) := by simpa using c31))
              clear c31
              obtain rfl := Option.some.inj H
              go_wp2
              go_ret
              exact ⟨by first | rfl | (simp [errW_none, errW_some] <;> rfl) | (simp [*, errW_none, errW_some] <;> rfl), by repeat (first | (with_reducible first | exact HB.out | apply below_alloc | apply pw_below_drewN | apply below_drew1 | refine below_set ?_ GE723.out) | exact HB.out)⟩
          · rw [if_neg c30] at H
            have c30b0 : (t728 == t733) = false := by simpa using c30
            (try (have c30b1 : decide (t728 = t733) = false := by simpa using c30))
            (try (have c30b2 : (t728 == t733) = false := by simpa using c30))
            (try (have c30b3 : ¬ (t728 = t733) := by simpa using c30))
            clear c30
            obtain rfl := Option.some.inj H
            go_wp2
            go_ret
            exact ⟨by first | rfl | (simp [errW_none, errW_some] <;> rfl) | (simp [*, errW_none, errW_some] <;> rfl), by repeat (first | (with_reducible first | exact HB.out | apply below_alloc | apply pw_below_drewN | apply below_drew1 | refine below_set ?_ GE723.out) | exact HB.out)⟩
        · replace c29 := Bool.eq_false_iff.mpr c29
          subst c29
          have H1 : ((impl_FieldsGet.f kj5 t724 t721).bind fun bt740 => ((impl_FieldsGet.f kj5 t718 t721).bind fun bt742 => ((impl_FieldsDrop.f kj5 t724 t721).bind fun bt744 => ((impl_FieldsDrop.f kj5 t718 t721).bind fun bt748 => ((impl_FieldsOk.f kj5 t724).bind fun t752 => (if t752 = true then (if bt740.2 = true then (if bt740.1.toList = t722.toList then (if (t727 == (!bt742.2)) = true then ((laws_qxFields.f kj5 bt744.1 bt748.1).bind fun t753 => (some t753)) else (some false)) else (some false)) else (some false)) else (some false))))))) = some r := by rw [if_neg (show ¬ (false = true) by decide)] at H; exact H
          clear H
          have H := H1
          clear H1
          replace H := Option.bind_eq_some_iff.mp H
          obtain ⟨⟨t740, t741⟩, A410, H⟩ := H
          replace H : ((impl_FieldsGet.f kj5 t718 t721).bind fun bt742 => ((impl_FieldsDrop.f kj5 t724 t721).bind fun bt744 => ((impl_FieldsDrop.f kj5 t718 t721).bind fun bt748 => ((impl_FieldsOk.f kj5 t724).bind fun t752 => (if t752 = true then (if t741 = true then (if t740.toList = t722.toList then (if (t727 == (!bt742.2)) = true then ((laws_qxFields.f kj5 bt744.1 bt748.1).bind fun t753 => (some t753)) else (some false)) else (some false)) else (some false)) else (some false)))))) = some r := H
          have A41 := Aside0.mk A410
          clear A410
          replace H := Option.bind_eq_some_iff.mp H
          obtain ⟨⟨t742, t743⟩, A420, H⟩ := H
          replace H : ((impl_FieldsDrop.f kj5 t724 t721).bind fun bt744 => ((impl_FieldsDrop.f kj5 t718 t721).bind fun bt748 => ((impl_FieldsOk.f kj5 t724).bind fun t752 => (if t752 = true then (if t741 = true then (if t740.toList = t722.toList then (if (t727 == (!t743)) = true then ((laws_qxFields.f kj5 bt744.1 bt748.1).bind fun t753 => (some t753)) else (some false)) else (some false)) else (some false)) else (some false))))) = some r := H
          have A42 := Aside0.mk A420
          clear A420
          replace H := Option.bind_eq_some_iff.mp H
          obtain ⟨⟨t744, t745⟩, A430, H⟩ := H
          replace H : ((impl_FieldsDrop.f kj5 t718 t721).bind fun bt748 => ((impl_FieldsOk.f kj5 t724).bind fun t752 => (if t752 = true then (if t741 = true then (if t740.toList = t722.toList then (if (t727 == (!t743)) = true then ((laws_qxFields.f kj5 t744 bt748.1).bind fun t753 => (some t753)) else (some false)) else (some false)) else (some false)) else (some false)))) = some r := H
          have A43 := Aside0.mk A430
          clear A430
          replace H := Option.bind_eq_some_iff.mp H
          obtain ⟨⟨t748, t749⟩, A440, H⟩ := H
          replace H : ((impl_FieldsOk.f kj5 t724).bind fun t752 => (if t752 = true then (if t741 = true then (if t740.toList = t722.toList then (if (t727 == (!t743)) = true then ((laws_qxFields.f kj5 t744 t748).bind fun t753 => (some t753)) else (some false)) else (some false)) else (some false)) else (some false))) = some r := H
          have A44 := Aside0.mk A440
          clear A440
          replace H := Option.bind_eq_some_iff.mp H
          obtain ⟨t752, A450, H⟩ := H
          replace H : (if t752 = true then (if t741 = true then (if t740.toList = t722.toList then (if (t727 == (!t743)) = true then ((laws_qxFields.f kj5 t744 t748).bind fun t753 => (some t753)) else (some false)) else (some false)) else (some false)) else (some false)) = some r := H
          have A45 := Aside0.mk A450
          clear A450
          by_cases c46 : t752 = true
          · subst c46
            have H1 : (if t741 = true then (if t740.toList = t722.toList then (if (t727 == (!t743)) = true then ((laws_qxFields.f kj5 t744 t748).bind fun t753 => (some t753)) else (some false)) else (some false)) else (some false)) = some r := by rw [if_pos rfl] at H; exact H
            clear H
            have H := H1
            clear H1
            by_cases c47 : t741 = true
            · subst c47
              have H1 : (if t740.toList = t722.toList then (if (t727 == (!t743)) = true then ((laws_qxFields.f kj5 t744 t748).bind fun t753 => (some t753)) else (some false)) else (some false)) = some r := by rw [if_pos rfl] at H; exact H
              clear H
              have H := H1
              clear H1
              by_cases c48 : t740.toList = t722.toList
              · rw [if_pos c48] at H
                have c48b0 : (t740.toList == t722.toList) = true := beq_iff_eq.mpr c48
                have c48b1 : (t740.toList != t722.toList) = false := bne_eq_false_iff_eq.mpr c48
                clear c48
                by_cases c49 : (t727 == (!t743)) = true
                · rw [if_pos c49] at H
                  have c49b0 : (t727 == (!t743)) = true := c49
                  (try (have c49b1 : decide (t727 = (!t743)) = true := by simpa using c49))
                  (try (have c49b2 : (t727 == (!t743)) = true := by simpa using c49))
                  clear c49
                  replace H := Option.bind_eq_some_iff.mp H
                  obtain ⟨t753, A500, H⟩ := H
                  replace H : (some t753) = some r := H
                  have A50 := Aside0.mk A500
                  clear A500
                  obtain rfl := Option.some.inj H
                  have hcz51_0 : wc.cell? ⟨gb723, 0, none⟩ = some (.string t721) := (blk_cell BK723.out 0).trans rfl
                  have hcz51_1 : wc.cell? ⟨gb723, 1, none⟩ = some (.string t722) := (blk_cell BK723.out 1).trans rfl
                  have hfz51_0 := blk_frozen BK723.out 0
                  have hfz51_1 := blk_frozen BK723.out 1
                  obtain ⟨Ao52, co52, eo52⟩ := Kd.R_slice HO_5.out
                  subst eo52
                  go_wp2_with (first | ((with_reducible refine gate_callee (f := 32) rfl ?_); refine goesL_ (some 90) rfl rfl Try.func32 (by kernel_rfl) rfl #[.slice Ao52 t724.length co52, .string t721] rfl (by (try simp only [List.map_toArray, List.map_cons, List.map_nil]); first | done | rfl | (simp only [List.length_drop, List.length_take]; rfl)) ?_; (with_reducible refine (impl_FieldsGet.calls kj5 _ _ t724 t721 t740 true _ ?side1 ?side2 A41.out).mono ?_); (case side1 => repeat (first | exact (Kd.R_reads' HO_5.out).2.2 | (with_reducible refine Kd.C_alloc ?_ _) | (with_reducible refine Kd.C_drewN ?_ _) | (with_reducible refine Kd.C_drew ?_))); (case side2 => exact (Kd.R_reads' HO_5.out).2.1); rintro e w53 ⟨rfl, hb⟩; refine ⟨_, rfl, ?_⟩; have n0_ := Aside0.mk (Kd.R_below (by (with_reducible repeat (first | apply Kd.R_alloc | apply Kd.R_drewN | apply Kd.R_drew)); exact HO_3.out) hb); have n1_ := Aside0.mk (Kd.R_below (by (with_reducible repeat (first | apply Kd.R_alloc | apply Kd.R_drewN | apply Kd.R_drew)); exact HO_5.out) hb); have n2_ := Aside0.mk (Kd.R_below (by (with_reducible repeat (first | apply Kd.R_alloc | apply Kd.R_drewN | apply Kd.R_drew)); exact HO_8.out) hb); have n3_ := Aside0.mk (blk_below (g := gb723) (o := .cells #[.string t721, .string t722] 38 (0, 0)) (by (with_reducible repeat (first | refine blk_drewN ?_ _ | refine blk_drew ?_ | refine blk_alloc ?_ _)); exact BK723.out) hb); have n4_ := Aside0.mk (below_step (by repeat (first | (with_reducible first | exact HB.out | apply below_alloc | apply pw_below_drewN | apply below_drew1 | refine below_set ?_ GE723.out) | exact HB.out)) hb); clear HO_3; clear HO_5; clear HO_8; clear BK723; clear HB; have HO_3 := n0_; have HO_5 := n1_; have HO_8 := n2_; have BK723 := n3_; have HB := n4_; clear n0_ n1_ n2_ n3_ n4_; (try clear hb); (try clear hb2); (try clear hk); (try clear hi); have hcz54_0 : w53.cell? ⟨gb723, 0, none⟩ = some (.string t721) := (blk_cell BK723.out 0).trans rfl; have hcz54_1 : w53.cell? ⟨gb723, 1, none⟩ = some (.string t722) := (blk_cell BK723.out 1).trans rfl; have hfz54_0 := blk_frozen BK723.out 0; have hfz54_1 := blk_frozen BK723.out 1) | ((with_reducible refine gate_callee (f := 32) rfl ?_); refine goesL_ (some 97) rfl rfl Try.func32 (by kernel_rfl) rfl #[.slice Ao10 t718.length co10, .string t721] rfl (by (try simp only [List.map_toArray, List.map_cons, List.map_nil]); first | done | rfl | (simp only [List.length_drop, List.length_take]; rfl)) ?_; (with_reducible refine (impl_FieldsGet.calls kj5 _ _ t718 t721 t742 t743 _ ?side1 ?side2 A42.out).mono ?_); (case side1 => repeat (first | exact (Kd.R_reads' HO_3.out).2.2 | (with_reducible refine Kd.C_alloc ?_ _) | (with_reducible refine Kd.C_drewN ?_ _) | (with_reducible refine Kd.C_drew ?_))); (case side2 => exact (Kd.R_reads' HO_3.out).2.1); rintro e w55 ⟨rfl, hb⟩; refine ⟨_, rfl, ?_⟩; have n0_ := Aside0.mk (Kd.R_below (by (with_reducible repeat (first | apply Kd.R_alloc | apply Kd.R_drewN | apply Kd.R_drew)); exact HO_3.out) hb); have n1_ := Aside0.mk (Kd.R_below (by (with_reducible repeat (first | apply Kd.R_alloc | apply Kd.R_drewN | apply Kd.R_drew)); exact HO_5.out) hb); have n2_ := Aside0.mk (Kd.R_below (by (with_reducible repeat (first | apply Kd.R_alloc | apply Kd.R_drewN | apply Kd.R_drew)); exact HO_8.out) hb); have n3_ := Aside0.mk (blk_below (g := gb723) (o := .cells #[.string t721, .string t722] 38 (0, 0)) (by (with_reducible repeat (first | refine blk_drewN ?_ _ | refine blk_drew ?_ | refine blk_alloc ?_ _)); exact BK723.out) hb); have n4_ := Aside0.mk (below_step (by repeat (first | (with_reducible first | exact HB.out | apply below_alloc | apply pw_below_drewN | apply below_drew1 | refine below_set ?_ GE723.out) | exact HB.out)) hb); clear HO_3; clear HO_5; clear HO_8; clear BK723; clear HB; have HO_3 := n0_; have HO_5 := n1_; have HO_8 := n2_; have BK723 := n3_; have HB := n4_; clear n0_ n1_ n2_ n3_ n4_; (try clear hb); (try clear hb2); (try clear hk); (try clear hi); have hcz56_0 : w55.cell? ⟨gb723, 0, none⟩ = some (.string t721) := (blk_cell BK723.out 0).trans rfl; have hcz56_1 : w55.cell? ⟨gb723, 1, none⟩ = some (.string t722) := (blk_cell BK723.out 1).trans rfl; have hfz56_0 := blk_frozen BK723.out 0; have hfz56_1 := blk_frozen BK723.out 1) | ((with_reducible refine gate_callee (f := 33) rfl ?_); refine goesL_ (some 104) rfl rfl Try.func33 (by kernel_rfl) rfl #[.slice Ao52 t724.length co52, .string t721] rfl (by (try simp only [List.map_toArray, List.map_cons, List.map_nil]); first | done | rfl | (simp only [List.length_drop, List.length_take]; rfl)) ?_; (with_reducible refine (impl_FieldsDrop.calls kj5 _ _ t724 t721 t744 t745 _ ?side1 ?side2 A43.out).mono ?_); (case side1 => repeat (first | exact (Kd.R_reads' HO_5.out).2.2 | (with_reducible refine Kd.C_alloc ?_ _) | (with_reducible refine Kd.C_drewN ?_ _) | (with_reducible refine Kd.C_drew ?_))); (case side2 => exact (Kd.R_reads' HO_5.out).2.1); rintro e w57 ⟨v746, rfl, ho0, hb⟩; refine ⟨_, rfl, ?_⟩; have n0_ := Aside0.mk (Kd.R_elder' (by (with_reducible repeat (first | apply Kd.R_alloc | apply Kd.R_drewN | apply Kd.R_drew)); exact HO_3.out) (Kd.R_base ho0) hb); have n1_ := Aside0.mk (Kd.R_elder' (by (with_reducible repeat (first | apply Kd.R_alloc | apply Kd.R_drewN | apply Kd.R_drew)); exact HO_5.out) (Kd.R_base ho0) hb); have n2_ := Aside0.mk (Kd.R_elder' (by (with_reducible repeat (first | apply Kd.R_alloc | apply Kd.R_drewN | apply Kd.R_drew)); exact HO_8.out) (Kd.R_base ho0) hb); have n3_ := Aside0.mk (Kd.R_lower (Kd.R_newB (Kd.R_new' (Kd.R_new' (Kd.R_new' ho0 (Kd.R_lt (by (with_reducible repeat (first | apply Kd.R_alloc | apply Kd.R_drewN | apply Kd.R_drew)); exact HO_3.out))) (Kd.R_lt (by (with_reducible repeat (first | apply Kd.R_alloc | apply Kd.R_drewN | apply Kd.R_drew)); exact HO_5.out))) (Kd.R_lt (by (with_reducible repeat (first | apply Kd.R_alloc | apply Kd.R_drewN | apply Kd.R_drew)); exact HO_8.out))) (g := gb723) (o := .cells #[.string t721, .string t722] 38 (0, 0)) (by (with_reducible repeat (first | refine blk_drewN ?_ _ | refine blk_drew ?_ | refine blk_alloc ?_ _)); exact BK723.out)) (below_size (by repeat (first | (with_reducible first | exact HB.out | apply below_alloc | apply pw_below_drewN | apply below_drew1 | refine below_set ?_ GE723.out) | exact HB.out)))); have n4_ := Aside0.mk (blk_below (g := gb723) (o := .cells #[.string t721, .string t722] 38 (0, 0)) (by (with_reducible repeat (first | refine blk_drewN ?_ _ | refine blk_drew ?_ | refine blk_alloc ?_ _)); exact BK723.out) hb); have n5_ := Aside0.mk (below_step (by repeat (first | (with_reducible first | exact HB.out | apply below_alloc | apply pw_below_drewN | apply below_drew1 | refine below_set ?_ GE723.out) | exact HB.out)) hb); clear HO_3; clear HO_5; clear HO_8; clear BK723; clear HB; have HO_3 := n0_; have HO_5 := n1_; have HO_8 := n2_; have HO747 := n3_; have BK723 := n4_; have HB := n5_; clear n0_ n1_ n2_ n3_ n4_ n5_; (try clear hb); (try clear hb2); (try clear hk); (try clear hi); (try clear ho0); have hcz58_0 : w57.cell? ⟨gb723, 0, none⟩ = some (.string t721) := (blk_cell BK723.out 0).trans rfl; have hcz58_1 : w57.cell? ⟨gb723, 1, none⟩ = some (.string t722) := (blk_cell BK723.out 1).trans rfl; have hfz58_0 := blk_frozen BK723.out 0; have hfz58_1 := blk_frozen BK723.out 1) | ((with_reducible refine gate_callee (f := 33) rfl ?_); refine goesL_ (some 111) rfl rfl Try.func33 (by kernel_rfl) rfl #[.slice Ao10 t718.length co10, .string t721] rfl (by (try simp only [List.map_toArray, List.map_cons, List.map_nil]); first | done | rfl | (simp only [List.length_drop, List.length_take]; rfl)) ?_; (with_reducible refine (impl_FieldsDrop.calls kj5 _ _ t718 t721 t748 t749 _ ?side1 ?side2 A44.out).mono ?_); (case side1 => repeat (first | exact (Kd.R_reads' HO_3.out).2.2 | (with_reducible refine Kd.C_alloc ?_ _) | (with_reducible refine Kd.C_drewN ?_ _) | (with_reducible refine Kd.C_drew ?_))); (case side2 => exact (Kd.R_reads' HO_3.out).2.1); rintro e w59 ⟨v750, rfl, ho0, hb⟩; refine ⟨_, rfl, ?_⟩; have n0_ := Aside0.mk (Kd.R_elder' (by (with_reducible repeat (first | apply Kd.R_alloc | apply Kd.R_drewN | apply Kd.R_drew)); exact HO_3.out) (Kd.R_base ho0) hb); have n1_ := Aside0.mk (Kd.R_elder' (by (with_reducible repeat (first | apply Kd.R_alloc | apply Kd.R_drewN | apply Kd.R_drew)); exact HO_5.out) (Kd.R_base ho0) hb); have n2_ := Aside0.mk (Kd.R_elder' (by (with_reducible repeat (first | apply Kd.R_alloc | apply Kd.R_drewN | apply Kd.R_drew)); exact HO_8.out) (Kd.R_base ho0) hb); have n3_ := Aside0.mk (Kd.R_elder' (by (with_reducible repeat (first | apply Kd.R_alloc | apply Kd.R_drewN | apply Kd.R_drew)); exact HO747.out) (Kd.R_base ho0) hb); have n4_ := Aside0.mk (Kd.R_lower (Kd.R_newB (Kd.R_new' (Kd.R_new' (Kd.R_new' (Kd.R_new' ho0 (Kd.R_lt (by (with_reducible repeat (first | apply Kd.R_alloc | apply Kd.R_drewN | apply Kd.R_drew)); exact HO_3.out))) (Kd.R_lt (by (with_reducible repeat (first | apply Kd.R_alloc | apply Kd.R_drewN | apply Kd.R_drew)); exact HO_5.out))) (Kd.R_lt (by (with_reducible repeat (first | apply Kd.R_alloc | apply Kd.R_drewN | apply Kd.R_drew)); exact HO_8.out))) (Kd.R_lt (by (with_reducible repeat (first | apply Kd.R_alloc | apply Kd.R_drewN | apply Kd.R_drew)); exact HO747.out))) (g := gb723) (o := .cells #[.string t721, .string t722] 38 (0, 0)) (by (with_reducible repeat (first | refine blk_drewN ?_ _ | refine blk_drew ?_ | refine blk_alloc ?_ _)); exact BK723.out)) (below_size (by repeat (first | (with_reducible first | exact HB.out | apply below_alloc | apply pw_below_drewN | apply below_drew1 | refine below_set ?_ GE723.out) | exact HB.out)))); have n5_ := Aside0.mk (blk_below (g := gb723) (o := .cells #[.string t721, .string t722] 38 (0, 0)) (by (with_reducible repeat (first | refine blk_drewN ?_ _ | refine blk_drew ?_ | refine blk_alloc ?_ _)); exact BK723.out) hb); have n6_ := Aside0.mk (below_step (by repeat (first | (with_reducible first | exact HB.out | apply below_alloc | apply pw_below_drewN | apply below_drew1 | refine below_set ?_ GE723.out) | exact HB.out)) hb); clear HO_3; clear HO_5; clear HO_8; clear HO747; clear BK723; clear HB; have HO_3 := n0_; have HO_5 := n1_; have HO_8 := n2_; have HO747 := n3_; have HO751 := n4_; have BK723 := n5_; have HB := n6_; clear n0_ n1_ n2_ n3_ n4_ n5_ n6_; (try clear hb); (try clear hb2); (try clear hk); (try clear hi); (try clear ho0)) | ((with_reducible refine gate_callee (f := 30) rfl ?_); refine goesL_ (some 115) rfl rfl Try.func30 (by kernel_rfl) rfl #[.slice Ao52 t724.length co52] rfl (by (try simp only [List.map_toArray, List.map_cons, List.map_nil]); first | done | rfl | (simp only [List.length_drop, List.length_take]; rfl)) ?_; (with_reducible refine (impl_FieldsOk.calls kj5 _ _ t724 true _ ?side1 ?side2 A45.out).mono ?_); (case side1 => repeat (first | exact (Kd.R_reads' HO_5.out).2.2 | (with_reducible refine Kd.C_alloc ?_ _) | (with_reducible refine Kd.C_drewN ?_ _) | (with_reducible refine Kd.C_drew ?_))); (case side2 => exact (Kd.R_reads' HO_5.out).2.1); rintro e w60 ⟨rfl, hb⟩; refine ⟨_, rfl, ?_⟩; have n0_ := Aside0.mk (Kd.R_below (by (with_reducible repeat (first | apply Kd.R_alloc | apply Kd.R_drewN | apply Kd.R_drew)); exact HO_3.out) hb); have n1_ := Aside0.mk (Kd.R_below (by (with_reducible repeat (first | apply Kd.R_alloc | apply Kd.R_drewN | apply Kd.R_drew)); exact HO_5.out) hb); have n2_ := Aside0.mk (Kd.R_below (by (with_reducible repeat (first | apply Kd.R_alloc | apply Kd.R_drewN | apply Kd.R_drew)); exact HO_8.out) hb); have n3_ := Aside0.mk (Kd.R_below (by (with_reducible repeat (first | apply Kd.R_alloc | apply Kd.R_drewN | apply Kd.R_drew)); exact HO747.out) hb); have n4_ := Aside0.mk (Kd.R_below (by (with_reducible repeat (first | apply Kd.R_alloc | apply Kd.R_drewN | apply Kd.R_drew)); exact HO751.out) hb); have n5_ := Aside0.mk (blk_below (g := gb723) (o := .cells #[.string t721, .string t722] 38 (0, 0)) (by (with_reducible repeat (first | refine blk_drewN ?_ _ | refine blk_drew ?_ | refine blk_alloc ?_ _)); exact BK723.out) hb); have n6_ := Aside0.mk (below_step (by repeat (first | (with_reducible first | exact HB.out | apply below_alloc | apply pw_below_drewN | apply below_drew1 | refine below_set ?_ GE723.out) | exact HB.out)) hb); clear HO_3; clear HO_5; clear HO_8; clear HO747; clear HO751; clear BK723; clear HB; have HO_3 := n0_; have HO_5 := n1_; have HO_8 := n2_; have HO747 := n3_; have HO751 := n4_; have BK723 := n5_; have HB := n6_; clear n0_ n1_ n2_ n3_ n4_ n5_ n6_; (try clear hb); (try clear hb2); (try clear hk); (try clear hi); have hcz61_0 : w60.cell? ⟨gb723, 0, none⟩ = some (.string t721) := (blk_cell BK723.out 0).trans rfl; have hcz61_1 : w60.cell? ⟨gb723, 1, none⟩ = some (.string t722) := (blk_cell BK723.out 1).trans rfl; have hfz61_0 := blk_frozen BK723.out 0; have hfz61_1 := blk_frozen BK723.out 1; obtain ⟨Ao62, co62, eo62⟩ := Kd.R_slice HO747.out; subst eo62; obtain ⟨Ao63, co63, eo63⟩ := Kd.R_slice HO751.out; subst eo63) | (go_at_call 29; (with_reducible refine (laws_qxFields.calls kj5 _ _ t744 _ _ t748 t753 _ ?side1 ?side2 ?side3 ?side4 A50.out).mono ?_); (case side1 => repeat (first | exact (Kd.R_reads' HO747.out).2.2 | (with_reducible refine Kd.C_alloc ?_ _) | (with_reducible refine Kd.C_drewN ?_ _) | (with_reducible refine Kd.C_drew ?_))); (case side2 => exact (Kd.R_reads' HO747.out).2.1); (case side3 => repeat (first | exact (Kd.R_reads' HO751.out).2.2 | (with_reducible refine Kd.C_alloc ?_ _) | (with_reducible refine Kd.C_drewN ?_ _) | (with_reducible refine Kd.C_drew ?_))); (case side4 => exact (Kd.R_reads' HO751.out).2.1); rintro e w' ⟨rfl, ⟨nd, rfl⟩⟩))
                  go_ret
                  exact ⟨by first | rfl | (simp [errW_none, errW_some] <;> rfl) | (simp [*, errW_none, errW_some] <;> rfl), by repeat (first | (with_reducible first | exact HB.out | apply below_alloc | apply pw_below_drewN | apply below_drew1 | refine below_set ?_ GE723.out) | exact HB.out)⟩
                · rw [if_neg c49] at H
                  have c49b0 : (t727 == (!t743)) = false := by simpa using c49
                  (try (have c49b1 : decide (t727 = (!t743)) = false := by simpa using c49))
                  (try (have c49b2 : (t727 == (!t743)) = false := by simpa using c49))
                  (try (have c49b3 : ¬ (t727 = (!t743)) := by simpa using c49))
                  clear c49
                  obtain rfl := Option.some.inj H
                  have hcz64_0 : wc.cell? ⟨gb723, 0, none⟩ = some (.string t721) := (blk_cell BK723.out 0).trans rfl
                  have hcz64_1 : wc.cell? ⟨gb723, 1, none⟩ = some (.string t722) := (blk_cell BK723.out 1).trans rfl
                  have hfz64_0 := blk_frozen BK723.out 0
                  have hfz64_1 := blk_frozen BK723.out 1
                  obtain ⟨Ao65, co65, eo65⟩ := Kd.R_slice HO_5.out
                  subst eo65
                  go_wp2_with (first | ((with_reducible refine gate_callee (f := 32) rfl ?_); refine goesL_ (some 90) rfl rfl Try.func32 (by kernel_rfl) rfl #[.slice Ao65 t724.length co65, .string t721] rfl (by (try simp only [List.map_toArray, List.map_cons, List.map_nil]); first | done | rfl | (simp only [List.length_drop, List.length_take]; rfl)) ?_; (with_reducible refine (impl_FieldsGet.calls kj5 _ _ t724 t721 t740 true _ ?side1 ?side2 A41.out).mono ?_); (case side1 => repeat (first | exact (Kd.R_reads' HO_5.out).2.2 | (with_reducible refine Kd.C_alloc ?_ _) | (with_reducible refine Kd.C_drewN ?_ _) | (with_reducible refine Kd.C_drew ?_))); (case side2 => exact (Kd.R_reads' HO_5.out).2.1); rintro e w66 ⟨rfl, hb⟩; refine ⟨_, rfl, ?_⟩; have n0_ := Aside0.mk (Kd.R_below (by (with_reducible repeat (first | apply Kd.R_alloc | apply Kd.R_drewN | apply Kd.R_drew)); exact HO_3.out) hb); have n1_ := Aside0.mk (Kd.R_below (by (with_reducible repeat (first | apply Kd.R_alloc | apply Kd.R_drewN | apply Kd.R_drew)); exact HO_5.out) hb); have n2_ := Aside0.mk (Kd.R_below (by (with_reducible repeat (first | apply Kd.R_alloc | apply Kd.R_drewN | apply Kd.R_drew)); exact HO_8.out) hb); have n3_ := Aside0.mk (blk_below (g := gb723) (o := .cells #[.string t721, .string t722] 38 (0, 0)) (by (with_reducible repeat (first | refine blk_drewN ?_ _ | refine blk_drew ?_ | refine blk_alloc ?_ _)); exact BK723.out) hb); have n4_ := Aside0.mk (below_step (by repeat (first | (with_reducible first | exact HB.out | apply below_alloc | apply pw_below_drewN | apply below_drew1 | refine below_set ?_ GE723.out) | exact HB.out)) hb); clear HO_3; clear HO_5; clear HO_8; clear BK723; clear HB; have HO_3 := n0_; have HO_5 := n1_; have HO_8 := n2_; have BK723 := n3_; have HB := n4_; clear n0_ n1_ n2_ n3_ n4_; (try clear hb); (try clear hb2); (try clear hk); (try clear hi); have hcz67_0 : w66.cell? ⟨gb723, 0, none⟩ = some (.string t721) := (blk_cell BK723.out 0).trans rfl; have hcz67_1 : w66.cell? ⟨gb723, 1, none⟩ = some (.string t722) := (blk_cell BK723.out 1).trans rfl; have hfz67_0 := blk_frozen BK723.out 0; have hfz67_1 := blk_frozen BK723.out 1) | ((with_reducible refine gate_callee (f := 32) rfl ?_); refine goesL_ (some 97) rfl rfl Try.func32 (by kernel_rfl) rfl #[.slice Ao10 t718.length co10, .string t721] rfl (by (try simp only [List.map_toArray, List.map_cons, List.map_nil]); first | done | rfl | (simp only [List.length_drop, List.length_take]; rfl)) ?_; (with_reducible refine (impl_FieldsGet.calls kj5 _ _ t718 t721 t742 t743 _ ?side1 ?side2 A42.out).mono ?_); (case side1 => repeat (first | exact (Kd.R_reads' HO_3.out).2.2 | (with_reducible refine Kd.C_alloc ?_ _) | (with_reducible refine Kd.C_drewN ?_ _) | (with_reducible refine Kd.C_drew ?_))); (case side2 => exact (Kd.R_reads' HO_3.out).2.1); rintro e w68 ⟨rfl, hb⟩; refine ⟨_, rfl, ?_⟩; have n0_ := Aside0.mk (Kd.R_below (by (with_reducible repeat (first | apply Kd.R_alloc | apply Kd.R_drewN | apply Kd.R_drew)); exact HO_3.out) hb); have n1_ := Aside0.mk (Kd.R_below (by (with_reducible repeat (first | apply Kd.R_alloc | apply Kd.R_drewN | apply Kd.R_drew)); exact HO_5.out) hb); have n2_ := Aside0.mk (Kd.R_below (by (with_reducible repeat (first | apply Kd.R_alloc | apply Kd.R_drewN | apply Kd.R_drew)); exact HO_8.out) hb); have n3_ := Aside0.mk (blk_below (g := gb723) (o := .cells #[.string t721, .string t722] 38 (0, 0)) (by (with_reducible repeat (first | refine blk_drewN ?_ _ | refine blk_drew ?_ | refine blk_alloc ?_ _)); exact BK723.out) hb); have n4_ := Aside0.mk (below_step (by repeat (first | (with_reducible first | exact HB.out | apply below_alloc | apply pw_below_drewN | apply below_drew1 | refine below_set ?_ GE723.out) | exact HB.out)) hb); clear HO_3; clear HO_5; clear HO_8; clear BK723; clear HB; have HO_3 := n0_; have HO_5 := n1_; have HO_8 := n2_; have BK723 := n3_; have HB := n4_; clear n0_ n1_ n2_ n3_ n4_; (try clear hb); (try clear hb2); (try clear hk); (try clear hi); have hcz69_0 : w68.cell? ⟨gb723, 0, none⟩ = some (.string t721) := (blk_cell BK723.out 0).trans rfl; have hcz69_1 : w68.cell? ⟨gb723, 1, none⟩ = some (.string t722) := (blk_cell BK723.out 1).trans rfl; have hfz69_0 := blk_frozen BK723.out 0; have hfz69_1 := blk_frozen BK723.out 1) | ((with_reducible refine gate_callee (f := 33) rfl ?_); refine goesL_ (some 104) rfl rfl Try.func33 (by kernel_rfl) rfl #[.slice Ao65 t724.length co65, .string t721] rfl (by (try simp only [List.map_toArray, List.map_cons, List.map_nil]); first | done | rfl | (simp only [List.length_drop, List.length_take]; rfl)) ?_; (with_reducible refine (impl_FieldsDrop.calls kj5 _ _ t724 t721 t744 t745 _ ?side1 ?side2 A43.out).mono ?_); (case side1 => repeat (first | exact (Kd.R_reads' HO_5.out).2.2 | (with_reducible refine Kd.C_alloc ?_ _) | (with_reducible refine Kd.C_drewN ?_ _) | (with_reducible refine Kd.C_drew ?_))); (case side2 => exact (Kd.R_reads' HO_5.out).2.1); rintro e w70 ⟨v746, rfl, ho0, hb⟩; refine ⟨_, rfl, ?_⟩; have n0_ := Aside0.mk (Kd.R_elder' (by (with_reducible repeat (first | apply Kd.R_alloc | apply Kd.R_drewN | apply Kd.R_drew)); exact HO_3.out) (Kd.R_base ho0) hb); have n1_ := Aside0.mk (Kd.R_elder' (by (with_reducible repeat (first | apply Kd.R_alloc | apply Kd.R_drewN | apply Kd.R_drew)); exact HO_5.out) (Kd.R_base ho0) hb); have n2_ := Aside0.mk (Kd.R_elder' (by (with_reducible repeat (first | apply Kd.R_alloc | apply Kd.R_drewN | apply Kd.R_drew)); exact HO_8.out) (Kd.R_base ho0) hb); have n3_ := Aside0.mk (Kd.R_lower (Kd.R_newB (Kd.R_new' (Kd.R_new' (Kd.R_new' ho0 (Kd.R_lt (by (with_reducible repeat (first | apply Kd.R_alloc | apply Kd.R_drewN | apply Kd.R_drew)); exact HO_3.out))) (Kd.R_lt (by (with_reducible repeat (first | apply Kd.R_alloc | apply Kd.R_drewN | apply Kd.R_drew)); exact HO_5.out))) (Kd.R_lt (by (with_reducible repeat (first | apply Kd.R_alloc | apply Kd.R_drewN | apply Kd.R_drew)); exact HO_8.out))) (g := gb723) (o := .cells #[.string t721, .string t722] 38 (0, 0)) (by (with_reducible repeat (first | refine blk_drewN ?_ _ | refine blk_drew ?_ | refine blk_alloc ?_ _)); exact BK723.out)) (below_size (by repeat (first | (with_reducible first | exact HB.out | apply below_alloc | apply pw_below_drewN | apply below_drew1 | refine below_set ?_ GE723.out) | exact HB.out)))); have n4_ := Aside0.mk (blk_below (g := gb723) (o := .cells #[.string t721, .string t722] 38 (0, 0)) (by (with_reducible repeat (first | refine blk_drewN ?_ _ | refine blk_drew ?_ | refine blk_alloc ?_ _)); exact BK723.out) hb); have n5_ := Aside0.mk (below_step (by repeat (first | (with_reducible first | exact HB.out | apply below_alloc | apply pw_below_drewN | apply below_drew1 | refine below_set ?_ GE723.out) | exact HB.out)) hb); clear HO_3; clear HO_5; clear HO_8; clear BK723; clear HB; have HO_3 := n0_; have HO_5 := n1_; have HO_8 := n2_; have HO747 := n3_; have BK723 := n4_; have HB := n5_; clear n0_ n1_ n2_ n3_ n4_ n5_; (try clear hb); (try clear hb2); (try clear hk); (try clear hi); (try clear ho0); have hcz71_0 : w70.cell? ⟨gb723, 0, none⟩ = some (.string t721) := (blk_cell BK723.out 0).trans rfl; have hcz71_1 : w70.cell? ⟨gb723, 1, none⟩ = some (.string t722) := (blk_cell BK723.out 1).trans rfl; have hfz71_0 := blk_frozen BK723.out 0; have hfz71_1 := blk_frozen BK723.out 1) | ((with_reducible refine gate_callee (f := 33) rfl ?_); refine goesL_ (some 111) rfl rfl Try.func33 (by kernel_rfl) rfl #[.slice Ao10 t718.length co10, .string t721] rfl (by (try simp only [List.map_toArray, List.map_cons, List.map_nil]); first | done | rfl | (simp only [List.length_drop, List.length_take]; rfl)) ?_; (with_reducible refine (impl_FieldsDrop.calls kj5 _ _ t718 t721 t748 t749 _ ?side1 ?side2 A44.out).mono ?_); (case side1 => repeat (first | exact (Kd.R_reads' HO_3.out).2.2 | (with_reducible refine Kd.C_alloc ?_ _) | (with_reducible refine Kd.C_drewN ?_ _) | (with_reducible refine Kd.C_drew ?_))); (case side2 => exact (Kd.R_reads' HO_3.out).2.1); rintro e w72 ⟨v750, rfl, ho0, hb⟩; refine ⟨_, rfl, ?_⟩; have n0_ := Aside0.mk (Kd.R_elder' (by (with_reducible repeat (first | apply Kd.R_alloc | apply Kd.R_drewN | apply Kd.R_drew)); exact HO_3.out) (Kd.R_base ho0) hb); have n1_ := Aside0.mk (Kd.R_elder' (by (with_reducible repeat (first | apply Kd.R_alloc | apply Kd.R_drewN | apply Kd.R_drew)); exact HO_5.out) (Kd.R_base ho0) hb); have n2_ := Aside0.mk (Kd.R_elder' (by (with_reducible repeat (first | apply Kd.R_alloc | apply Kd.R_drewN | apply Kd.R_drew)); exact HO_8.out) (Kd.R_base ho0) hb); have n3_ := Aside0.mk (Kd.R_elder' (by (with_reducible repeat (first | apply Kd.R_alloc | apply Kd.R_drewN | apply Kd.R_drew)); exact HO747.out) (Kd.R_base ho0) hb); have n4_ := Aside0.mk (Kd.R_lower (Kd.R_newB (Kd.R_new' (Kd.R_new' (Kd.R_new' (Kd.R_new' ho0 (Kd.R_lt (by (with_reducible repeat (first | apply Kd.R_alloc | apply Kd.R_drewN | apply Kd.R_drew)); exact HO_3.out))) (Kd.R_lt (by (with_reducible repeat (first | apply Kd.R_alloc | apply Kd.R_drewN | apply Kd.R_drew)); exact HO_5.out))) (Kd.R_lt (by (with_reducible repeat (first | apply Kd.R_alloc | apply Kd.R_drewN | apply Kd.R_drew)); exact HO_8.out))) (Kd.R_lt (by (with_reducible repeat (first | apply Kd.R_alloc | apply Kd.R_drewN | apply Kd.R_drew)); exact HO747.out))) (g := gb723) (o := .cells #[.string t721, .string t722] 38 (0, 0)) (by (with_reducible repeat (first | refine blk_drewN ?_ _ | refine blk_drew ?_ | refine blk_alloc ?_ _)); exact BK723.out)) (below_size (by repeat (first | (with_reducible first | exact HB.out | apply below_alloc | apply pw_below_drewN | apply below_drew1 | refine below_set ?_ GE723.out) | exact HB.out)))); have n5_ := Aside0.mk (blk_below (g := gb723) (o := .cells #[.string t721, .string t722] 38 (0, 0)) (by (with_reducible repeat (first | refine blk_drewN ?_ _ | refine blk_drew ?_ | refine blk_alloc ?_ _)); exact BK723.out) hb); have n6_ := Aside0.mk (below_step (by repeat (first | (with_reducible first | exact HB.out | apply below_alloc | apply pw_below_drewN | apply below_drew1 | refine below_set ?_ GE723.out) | exact HB.out)) hb); clear HO_3; clear HO_5; clear HO_8; clear HO747; clear BK723; clear HB; have HO_3 := n0_; have HO_5 := n1_; have HO_8 := n2_; have HO747 := n3_; have HO751 := n4_; have BK723 := n5_; have HB := n6_; clear n0_ n1_ n2_ n3_ n4_ n5_ n6_; (try clear hb); (try clear hb2); (try clear hk); (try clear hi); (try clear ho0)) | ((with_reducible refine gate_callee (f := 30) rfl ?_); refine goesL_ (some 115) rfl rfl Try.func30 (by kernel_rfl) rfl #[.slice Ao65 t724.length co65] rfl (by (try simp only [List.map_toArray, List.map_cons, List.map_nil]); first | done | rfl | (simp only [List.length_drop, List.length_take]; rfl)) ?_; (with_reducible refine (impl_FieldsOk.calls kj5 _ _ t724 true _ ?side1 ?side2 A45.out).mono ?_); (case side1 => repeat (first | exact (Kd.R_reads' HO_5.out).2.2 | (with_reducible refine Kd.C_alloc ?_ _) | (with_reducible refine Kd.C_drewN ?_ _) | (with_reducible refine Kd.C_drew ?_))); (case side2 => exact (Kd.R_reads' HO_5.out).2.1); rintro e w73 ⟨rfl, hb⟩; refine ⟨_, rfl, ?_⟩; have n0_ := Aside0.mk (Kd.R_below (by (with_reducible repeat (first | apply Kd.R_alloc | apply Kd.R_drewN | apply Kd.R_drew)); exact HO_3.out) hb); have n1_ := Aside0.mk (Kd.R_below (by (with_reducible repeat (first | apply Kd.R_alloc | apply Kd.R_drewN | apply Kd.R_drew)); exact HO_5.out) hb); have n2_ := Aside0.mk (Kd.R_below (by (with_reducible repeat (first | apply Kd.R_alloc | apply Kd.R_drewN | apply Kd.R_drew)); exact HO_8.out) hb); have n3_ := Aside0.mk (Kd.R_below (by (with_reducible repeat (first | apply Kd.R_alloc | apply Kd.R_drewN | apply Kd.R_drew)); exact HO747.out) hb); have n4_ := Aside0.mk (Kd.R_below (by (with_reducible repeat (first | apply Kd.R_alloc | apply Kd.R_drewN | apply Kd.R_drew)); exact HO751.out) hb); have n5_ := Aside0.mk (blk_below (g := gb723) (o := .cells #[.string t721, .string t722] 38 (0, 0)) (by (with_reducible repeat (first | refine blk_drewN ?_ _ | refine blk_drew ?_ | refine blk_alloc ?_ _)); exact BK723.out) hb); have n6_ := Aside0.mk (below_step (by repeat (first | (with_reducible first | exact HB.out | apply below_alloc | apply pw_below_drewN | apply below_drew1 | refine below_set ?_ GE723.out) | exact HB.out)) hb); clear HO_3; clear HO_5; clear HO_8; clear HO747; clear HO751; clear BK723; clear HB; have HO_3 := n0_; have HO_5 := n1_; have HO_8 := n2_; have HO747 := n3_; have HO751 := n4_; have BK723 := n5_; have HB := n6_; clear n0_ n1_ n2_ n3_ n4_ n5_ n6_; (try clear hb); (try clear hb2); (try clear hk); (try clear hi); have hcz74_0 : w73.cell? ⟨gb723, 0, none⟩ = some (.string t721) := (blk_cell BK723.out 0).trans rfl; have hcz74_1 : w73.cell? ⟨gb723, 1, none⟩ = some (.string t722) := (blk_cell BK723.out 1).trans rfl; have hfz74_0 := blk_frozen BK723.out 0; have hfz74_1 := blk_frozen BK723.out 1))
                  go_ret
                  exact ⟨by first | rfl | (simp [errW_none, errW_some] <;> rfl) | (simp [*, errW_none, errW_some] <;> rfl), by repeat (first | (with_reducible first | exact HB.out | apply below_alloc | apply pw_below_drewN | apply below_drew1 | refine below_set ?_ GE723.out) | exact HB.out)⟩
              · rw [if_neg c48] at H
                have c48b0 : (t740.toList == t722.toList) = false := beq_eq_false_iff_ne.mpr c48
                have c48b1 : (t740.toList != t722.toList) = true := bne_iff_ne.mpr c48
                obtain rfl := Option.some.inj H
                have hcz75_0 : wc.cell? ⟨gb723, 0, none⟩ = some (.string t721) := (blk_cell BK723.out 0).trans rfl
                have hcz75_1 : wc.cell? ⟨gb723, 1, none⟩ = some (.string t722) := (blk_cell BK723.out 1).trans rfl
                have hfz75_0 := blk_frozen BK723.out 0
                have hfz75_1 := blk_frozen BK723.out 1
                obtain ⟨Ao76, co76, eo76⟩ := Kd.R_slice HO_5.out
                subst eo76
                go_wp2_with (first | ((with_reducible refine gate_callee (f := 32) rfl ?_); refine goesL_ (some 90) rfl rfl Try.func32 (by kernel_rfl) rfl #[.slice Ao76 t724.length co76, .string t721] rfl (by (try simp only [List.map_toArray, List.map_cons, List.map_nil]); first | done | rfl | (simp only [List.length_drop, List.length_take]; rfl)) ?_; (with_reducible refine (impl_FieldsGet.calls kj5 _ _ t724 t721 t740 true _ ?side1 ?side2 A41.out).mono ?_); (case side1 => repeat (first | exact (Kd.R_reads' HO_5.out).2.2 | (with_reducible refine Kd.C_alloc ?_ _) | (with_reducible refine Kd.C_drewN ?_ _) | (with_reducible refine Kd.C_drew ?_))); (case side2 => exact (Kd.R_reads' HO_5.out).2.1); rintro e w77 ⟨rfl, hb⟩; refine ⟨_, rfl, ?_⟩; have n0_ := Aside0.mk (Kd.R_below (by (with_reducible repeat (first | apply Kd.R_alloc | apply Kd.R_drewN | apply Kd.R_drew)); exact HO_3.out) hb); have n1_ := Aside0.mk (Kd.R_below (by (with_reducible repeat (first | apply Kd.R_alloc | apply Kd.R_drewN | apply Kd.R_drew)); exact HO_5.out) hb); have n2_ := Aside0.mk (Kd.R_below (by (with_reducible repeat (first | apply Kd.R_alloc | apply Kd.R_drewN | apply Kd.R_drew)); exact HO_8.out) hb); have n3_ := Aside0.mk (blk_below (g := gb723) (o := .cells #[.string t721, .string t722] 38 (0, 0)) (by (with_reducible repeat (first | refine blk_drewN ?_ _ | refine blk_drew ?_ | refine blk_alloc ?_ _)); exact BK723.out) hb); have n4_ := Aside0.mk (below_step (by repeat (first | (with_reducible first | exact HB.out | apply below_alloc | apply pw_below_drewN | apply below_drew1 | refine below_set ?_ GE723.out) | exact HB.out)) hb); clear HO_3; clear HO_5; clear HO_8; clear BK723; clear HB; have HO_3 := n0_; have HO_5 := n1_; have HO_8 := n2_; have BK723 := n3_; have HB := n4_; clear n0_ n1_ n2_ n3_ n4_; (try clear hb); (try clear hb2); (try clear hk); (try clear hi); have hcz78_0 : w77.cell? ⟨gb723, 0, none⟩ = some (.string t721) := (blk_cell BK723.out 0).trans rfl; have hcz78_1 : w77.cell? ⟨gb723, 1, none⟩ = some (.string t722) := (blk_cell BK723.out 1).trans rfl; have hfz78_0 := blk_frozen BK723.out 0; have hfz78_1 := blk_frozen BK723.out 1) | ((with_reducible refine gate_callee (f := 32) rfl ?_); refine goesL_ (some 97) rfl rfl Try.func32 (by kernel_rfl) rfl #[.slice Ao10 t718.length co10, .string t721] rfl (by (try simp only [List.map_toArray, List.map_cons, List.map_nil]); first | done | rfl | (simp only [List.length_drop, List.length_take]; rfl)) ?_; (with_reducible refine (impl_FieldsGet.calls kj5 _ _ t718 t721 t742 t743 _ ?side1 ?side2 A42.out).mono ?_); (case side1 => repeat (first | exact (Kd.R_reads' HO_3.out).2.2 | (with_reducible refine Kd.C_alloc ?_ _) | (with_reducible refine Kd.C_drewN ?_ _) | (with_reducible refine Kd.C_drew ?_))); (case side2 => exact (Kd.R_reads' HO_3.out).2.1); rintro e w79 ⟨rfl, hb⟩; refine ⟨_, rfl, ?_⟩; have n0_ := Aside0.mk (Kd.R_below (by (with_reducible repeat (first | apply Kd.R_alloc | apply Kd.R_drewN | apply Kd.R_drew)); exact HO_3.out) hb); have n1_ := Aside0.mk (Kd.R_below (by (with_reducible repeat (first | apply Kd.R_alloc | apply Kd.R_drewN | apply Kd.R_drew)); exact HO_5.out) hb); have n2_ := Aside0.mk (Kd.R_below (by (with_reducible repeat (first | apply Kd.R_alloc | apply Kd.R_drewN | apply Kd.R_drew)); exact HO_8.out) hb); have n3_ := Aside0.mk (blk_below (g := gb723) (o := .cells #[.string t721, .string t722] 38 (0, 0)) (by (with_reducible repeat (first | refine blk_drewN ?_ _ | refine blk_drew ?_ | refine blk_alloc ?_ _)); exact BK723.out) hb); have n4_ := Aside0.mk (below_step (by repeat (first | (with_reducible first | exact HB.out | apply below_alloc | apply pw_below_drewN | apply below_drew1 | refine below_set ?_ GE723.out) | exact HB.out)) hb); clear HO_3; clear HO_5; clear HO_8; clear BK723; clear HB; have HO_3 := n0_; have HO_5 := n1_; have HO_8 := n2_; have BK723 := n3_; have HB := n4_; clear n0_ n1_ n2_ n3_ n4_; (try clear hb); (try clear hb2); (try clear hk); (try clear hi); have hcz80_0 : w79.cell? ⟨gb723, 0, none⟩ = some (.string t721) := (blk_cell BK723.out 0).trans rfl; have hcz80_1 : w79.cell? ⟨gb723, 1, none⟩ = some (.string t722) := (blk_cell BK723.out 1).trans rfl; have hfz80_0 := blk_frozen BK723.out 0; have hfz80_1 := blk_frozen BK723.out 1) | ((with_reducible refine gate_callee (f := 33) rfl ?_); refine goesL_ (some 104) rfl rfl Try.func33 (by kernel_rfl) rfl #[.slice Ao76 t724.length co76, .string t721] rfl (by (try simp only [List.map_toArray, List.map_cons, List.map_nil]); first | done | rfl | (simp only [List.length_drop, List.length_take]; rfl)) ?_; (with_reducible refine (impl_FieldsDrop.calls kj5 _ _ t724 t721 t744 t745 _ ?side1 ?side2 A43.out).mono ?_); (case side1 => repeat (first | exact (Kd.R_reads' HO_5.out).2.2 | (with_reducible refine Kd.C_alloc ?_ _) | (with_reducible refine Kd.C_drewN ?_ _) | (with_reducible refine Kd.C_drew ?_))); (case side2 => exact (Kd.R_reads' HO_5.out).2.1); rintro e w81 ⟨v746, rfl, ho0, hb⟩; refine ⟨_, rfl, ?_⟩; have n0_ := Aside0.mk (Kd.R_elder' (by (with_reducible repeat (first | apply Kd.R_alloc | apply Kd.R_drewN | apply Kd.R_drew)); exact HO_3.out) (Kd.R_base ho0) hb); have n1_ := Aside0.mk (Kd.R_elder' (by (with_reducible repeat (first | apply Kd.R_alloc | apply Kd.R_drewN | apply Kd.R_drew)); exact HO_5.out) (Kd.R_base ho0) hb); have n2_ := Aside0.mk (Kd.R_elder' (by (with_reducible repeat (first | apply Kd.R_alloc | apply Kd.R_drewN | apply Kd.R_drew)); exact HO_8.out) (Kd.R_base ho0) hb); have n3_ := Aside0.mk (Kd.R_lower (Kd.R_newB (Kd.R_new' (Kd.R_new' (Kd.R_new' ho0 (Kd.R_lt (by (with_reducible repeat (first | apply Kd.R_alloc | apply Kd.R_drewN | apply Kd.R_drew)); exact HO_3.out))) (Kd.R_lt (by (with_reducible repeat (first | apply Kd.R_alloc | apply Kd.R_drewN | apply Kd.R_drew)); exact HO_5.out))) (Kd.R_lt (by (with_reducible repeat (first | apply Kd.R_alloc | apply Kd.R_drewN | apply Kd.R_drew)); exact HO_8.out))) (g := gb723) (o := .cells #[.string t721, .string t722] 38 (0, 0)) (by (with_reducible repeat (first | refine blk_drewN ?_ _ | refine blk_drew ?_ | refine blk_alloc ?_ _)); exact BK723.out)) (below_size (by repeat (first | (with_reducible first | exact HB.out | apply below_alloc | apply pw_below_drewN | apply below_drew1 | refine below_set ?_ GE723.out) | exact HB.out)))); have n4_ := Aside0.mk (blk_below (g := gb723) (o := .cells #[.string t721, .string t722] 38 (0, 0)) (by (with_reducible repeat (first | refine blk_drewN ?_ _ | refine blk_drew ?_ | refine blk_alloc ?_ _)); exact BK723.out) hb); have n5_ := Aside0.mk (below_step (by repeat (first | (with_reducible first | exact HB.out | apply below_alloc | apply pw_below_drewN | apply below_drew1 | refine below_set ?_ GE723.out) | exact HB.out)) hb); clear HO_3; clear HO_5; clear HO_8; clear BK723; clear HB; have HO_3 := n0_; have HO_5 := n1_; have HO_8 := n2_; have HO747 := n3_; have BK723 := n4_; have HB := n5_; clear n0_ n1_ n2_ n3_ n4_ n5_; (try clear hb); (try clear hb2); (try clear hk); (try clear hi); (try clear ho0); have hcz82_0 : w81.cell? ⟨gb723, 0, none⟩ = some (.string t721) := (blk_cell BK723.out 0).trans rfl; have hcz82_1 : w81.cell? ⟨gb723, 1, none⟩ = some (.string t722) := (blk_cell BK723.out 1).trans rfl; have hfz82_0 := blk_frozen BK723.out 0; have hfz82_1 := blk_frozen BK723.out 1) | ((with_reducible refine gate_callee (f := 33) rfl ?_); refine goesL_ (some 111) rfl rfl Try.func33 (by kernel_rfl) rfl #[.slice Ao10 t718.length co10, .string t721] rfl (by (try simp only [List.map_toArray, List.map_cons, List.map_nil]); first | done | rfl | (simp only [List.length_drop, List.length_take]; rfl)) ?_; (with_reducible refine (impl_FieldsDrop.calls kj5 _ _ t718 t721 t748 t749 _ ?side1 ?side2 A44.out).mono ?_); (case side1 => repeat (first | exact (Kd.R_reads' HO_3.out).2.2 | (with_reducible refine Kd.C_alloc ?_ _) | (with_reducible refine Kd.C_drewN ?_ _) | (with_reducible refine Kd.C_drew ?_))); (case side2 => exact (Kd.R_reads' HO_3.out).2.1); rintro e w83 ⟨v750, rfl, ho0, hb⟩; refine ⟨_, rfl, ?_⟩; have n0_ := Aside0.mk (Kd.R_elder' (by (with_reducible repeat (first | apply Kd.R_alloc | apply Kd.R_drewN | apply Kd.R_drew)); exact HO_3.out) (Kd.R_base ho0) hb); have n1_ := Aside0.mk (Kd.R_elder' (by (with_reducible repeat (first | apply Kd.R_alloc | apply Kd.R_drewN | apply Kd.R_drew)); exact HO_5.out) (Kd.R_base ho0) hb); have n2_ := Aside0.mk (Kd.R_elder' (by (with_reducible repeat (first | apply Kd.R_alloc | apply Kd.R_drewN | apply Kd.R_drew)); exact HO_8.out) (Kd.R_base ho0) hb); have n3_ := Aside0.mk (Kd.R_elder' (by (with_reducible repeat (first | apply Kd.R_alloc | apply Kd.R_drewN | apply Kd.R_drew)); exact HO747.out) (Kd.R_base ho0) hb); have n4_ := Aside0.mk (Kd.R_lower (Kd.R_newB (Kd.R_new' (Kd.R_new' (Kd.R_new' (Kd.R_new' ho0 (Kd.R_lt (by (with_reducible repeat (first | apply Kd.R_alloc | apply Kd.R_drewN | apply Kd.R_drew)); exact HO_3.out))) (Kd.R_lt (by (with_reducible repeat (first | apply Kd.R_alloc | apply Kd.R_drewN | apply Kd.R_drew)); exact HO_5.out))) (Kd.R_lt (by (with_reducible repeat (first | apply Kd.R_alloc | apply Kd.R_drewN | apply Kd.R_drew)); exact HO_8.out))) (Kd.R_lt (by (with_reducible repeat (first | apply Kd.R_alloc | apply Kd.R_drewN | apply Kd.R_drew)); exact HO747.out))) (g := gb723) (o := .cells #[.string t721, .string t722] 38 (0, 0)) (by (with_reducible repeat (first | refine blk_drewN ?_ _ | refine blk_drew ?_ | refine blk_alloc ?_ _)); exact BK723.out)) (below_size (by repeat (first | (with_reducible first | exact HB.out | apply below_alloc | apply pw_below_drewN | apply below_drew1 | refine below_set ?_ GE723.out) | exact HB.out)))); have n5_ := Aside0.mk (blk_below (g := gb723) (o := .cells #[.string t721, .string t722] 38 (0, 0)) (by (with_reducible repeat (first | refine blk_drewN ?_ _ | refine blk_drew ?_ | refine blk_alloc ?_ _)); exact BK723.out) hb); have n6_ := Aside0.mk (below_step (by repeat (first | (with_reducible first | exact HB.out | apply below_alloc | apply pw_below_drewN | apply below_drew1 | refine below_set ?_ GE723.out) | exact HB.out)) hb); clear HO_3; clear HO_5; clear HO_8; clear HO747; clear BK723; clear HB; have HO_3 := n0_; have HO_5 := n1_; have HO_8 := n2_; have HO747 := n3_; have HO751 := n4_; have BK723 := n5_; have HB := n6_; clear n0_ n1_ n2_ n3_ n4_ n5_ n6_; (try clear hb); (try clear hb2); (try clear hk); (try clear hi); (try clear ho0)) | ((with_reducible refine gate_callee (f := 30) rfl ?_); refine goesL_ (some 115) rfl rfl Try.func30 (by kernel_rfl) rfl #[.slice Ao76 t724.length co76] rfl (by (try simp only [List.map_toArray, List.map_cons, List.map_nil]); first | done | rfl | (simp only [List.length_drop, List.length_take]; rfl)) ?_; (with_reducible refine (impl_FieldsOk.calls kj5 _ _ t724 true _ ?side1 ?side2 A45.out).mono ?_); (case side1 => repeat (first | exact (Kd.R_reads' HO_5.out).2.2 | (with_reducible refine Kd.C_alloc ?_ _) | (with_reducible refine Kd.C_drewN ?_ _) | (with_reducible refine Kd.C_drew ?_))); (case side2 => exact (Kd.R_reads' HO_5.out).2.1); rintro e w84 ⟨rfl, hb⟩; refine ⟨_, rfl, ?_⟩; have n0_ := Aside0.mk (Kd.R_below (by (with_reducible repeat (first | apply Kd.R_alloc | apply Kd.R_drewN | apply Kd.R_drew)); exact HO_3.out) hb); have n1_ := Aside0.mk (Kd.R_below (by (with_reducible repeat (first | apply Kd.R_alloc | apply Kd.R_drewN | apply Kd.R_drew)); exact HO_5.out) hb); have n2_ := Aside0.mk (Kd.R_below (by (with_reducible repeat (first | apply Kd.R_alloc | apply Kd.R_drewN | apply Kd.R_drew)); exact HO_8.out) hb); have n3_ := Aside0.mk (Kd.R_below (by (with_reducible repeat (first | apply Kd.R_alloc | apply Kd.R_drewN | apply Kd.R_drew)); exact HO747.out) hb); have n4_ := Aside0.mk (Kd.R_below (by (with_reducible repeat (first | apply Kd.R_alloc | apply Kd.R_drewN | apply Kd.R_drew)); exact HO751.out) hb); have n5_ := Aside0.mk (blk_below (g := gb723) (o := .cells #[.string t721, .string t722] 38 (0, 0)) (by (with_reducible repeat (first | refine blk_drewN ?_ _ | refine blk_drew ?_ | refine blk_alloc ?_ _)); exact BK723.out) hb); have n6_ := Aside0.mk (below_step (by repeat (first | (with_reducible first | exact HB.out | apply below_alloc | apply pw_below_drewN | apply below_drew1 | refine below_set ?_ GE723.out) | exact HB.out)) hb); clear HO_3; clear HO_5; clear HO_8; clear HO747; clear HO751; clear BK723; clear HB; have HO_3 := n0_; have HO_5 := n1_; have HO_8 := n2_; have HO747 := n3_; have HO751 := n4_; have BK723 := n5_; have HB := n6_; clear n0_ n1_ n2_ n3_ n4_ n5_ n6_; (try clear hb); (try clear hb2); (try clear hk); (try clear hi); have hcz85_0 : w84.cell? ⟨gb723, 0, none⟩ = some (.string t721) := (blk_cell BK723.out 0).trans rfl; have hcz85_1 : w84.cell? ⟨gb723, 1, none⟩ = some (.string t722) := (blk_cell BK723.out 1).trans rfl; have hfz85_0 := blk_frozen BK723.out 0; have hfz85_1 := blk_frozen BK723.out 1))
                go_ret
                exact ⟨by first | rfl | (simp [errW_none, errW_some] <;> rfl) | (simp [*, errW_none, errW_some] <;> rfl), by repeat (first | (with_reducible first | exact HB.out | apply below_alloc | apply pw_below_drewN | apply below_drew1 | refine below_set ?_ GE723.out) | exact HB.out)⟩
            · replace c47 := Bool.eq_false_iff.mpr c47
              subst c47
              have H1 : (some false) = some r := by rw [if_neg (show ¬ (false = true) by decide)] at H; exact H
              clear H
              have H := H1
              clear H1
              obtain rfl := Option.some.inj H
              have hcz86_0 : wc.cell? ⟨gb723, 0, none⟩ = some (.string t721) := (blk_cell BK723.out 0).trans rfl
              have hcz86_1 : wc.cell? ⟨gb723, 1, none⟩ = some (.string t722) := (blk_cell BK723.out 1).trans rfl
              have hfz86_0 := blk_frozen BK723.out 0
              have hfz86_1 := blk_frozen BK723.out 1
              obtain ⟨Ao87, co87, eo87⟩ := Kd.R_slice HO_5.out
              subst eo87
              go_wp2_with (first | ((with_reducible refine gate_callee (f := 32) rfl ?_); refine goesL_ (some 90) rfl rfl Try.func32 (by kernel_rfl) rfl #[.slice Ao87 t724.length co87, .string t721] rfl (by (try simp only [List.map_toArray, List.map_cons, List.map_nil]); first | done | rfl | (simp only [List.length_drop, List.length_take]; rfl)) ?_; (with_reducible refine (impl_FieldsGet.calls kj5 _ _ t724 t721 t740 false _ ?side1 ?side2 A41.out).mono ?_); (case side1 => repeat (first | exact (Kd.R_reads' HO_5.out).2.2 | (with_reducible refine Kd.C_alloc ?_ _) | (with_reducible refine Kd.C_drewN ?_ _) | (with_reducible refine Kd.C_drew ?_))); (case side2 => exact (Kd.R_reads' HO_5.out).2.1); rintro e w88 ⟨rfl, hb⟩; refine ⟨_, rfl, ?_⟩; have n0_ := Aside0.mk (Kd.R_below (by (with_reducible repeat (first | apply Kd.R_alloc | apply Kd.R_drewN | apply Kd.R_drew)); exact HO_3.out) hb); have n1_ := Aside0.mk (Kd.R_below (by (with_reducible repeat (first | apply Kd.R_alloc | apply Kd.R_drewN | apply Kd.R_drew)); exact HO_5.out) hb); have n2_ := Aside0.mk (Kd.R_below (by (with_reducible repeat (first | apply Kd.R_alloc | apply Kd.R_drewN | apply Kd.R_drew)); exact HO_8.out) hb); have n3_ := Aside0.mk (blk_below (g := gb723) (o := .cells #[.string t721, .string t722] 38 (0, 0)) (by (with_reducible repeat (first | refine blk_drewN ?_ _ | refine blk_drew ?_ | refine blk_alloc ?_ _)); exact BK723.out) hb); have n4_ := Aside0.mk (below_step (by repeat (first | (with_reducible first | exact HB.out | apply below_alloc | apply pw_below_drewN | apply below_drew1 | refine below_set ?_ GE723.out) | exact HB.out)) hb); clear HO_3; clear HO_5; clear HO_8; clear BK723; clear HB; have HO_3 := n0_; have HO_5 := n1_; have HO_8 := n2_; have BK723 := n3_; have HB := n4_; clear n0_ n1_ n2_ n3_ n4_; (try clear hb); (try clear hb2); (try clear hk); (try clear hi); have hcz89_0 : w88.cell? ⟨gb723, 0, none⟩ = some (.string t721) := (blk_cell BK723.out 0).trans rfl; have hcz89_1 : w88.cell? ⟨gb723, 1, none⟩ = some (.string t722) := (blk_cell BK723.out 1).trans rfl; have hfz89_0 := blk_frozen BK723.out 0; have hfz89_1 := blk_frozen BK723.out 1) | ((with_reducible refine gate_callee (f := 32) rfl ?_); refine goesL_ (some 97) rfl rfl Try.func32 (by kernel_rfl) rfl #[.slice Ao10 t718.length co10, .string t721] rfl (by (try simp only [List.map_toArray, List.map_cons, List.map_nil]); first | done | rfl | (simp only [List.length_drop, List.length_take]; rfl)) ?_; (with_reducible refine (impl_FieldsGet.calls kj5 _ _ t718 t721 t742 t743 _ ?side1 ?side2 A42.out).mono ?_); (case side1 => repeat (first | exact (Kd.R_reads' HO_3.out).2.2 | (with_reducible refine Kd.C_alloc ?_ _) | (with_reducible refine Kd.C_drewN ?_ _) | (with_reducible refine Kd.C_drew ?_))); (case side2 => exact (Kd.R_reads' HO_3.out).2.1); rintro e w90 ⟨rfl, hb⟩; refine ⟨_, rfl, ?_⟩; have n0_ := Aside0.mk (Kd.R_below (by (with_reducible repeat (first | apply Kd.R_alloc | apply Kd.R_drewN | apply Kd.R_drew)); exact HO_3.out) hb); have n1_ := Aside0.mk (Kd.R_below (by (with_reducible repeat (first | apply Kd.R_alloc | apply Kd.R_drewN | apply Kd.R_drew)); exact HO_5.out) hb); have n2_ := Aside0.mk (Kd.R_below (by (with_reducible repeat (first | apply Kd.R_alloc | apply Kd.R_drewN | apply Kd.R_drew)); exact HO_8.out) hb); have n3_ := Aside0.mk (blk_below (g := gb723) (o := .cells #[.string t721, .string t722] 38 (0, 0)) (by (with_reducible repeat (first | refine blk_drewN ?_ _ | refine blk_drew ?_ | refine blk_alloc ?_ _)); exact BK723.out) hb); have n4_ := Aside0.mk (below_step (by repeat (first | (with_reducible first | exact HB.out | apply below_alloc | apply pw_below_drewN | apply below_drew1 | refine below_set ?_ GE723.out) | exact HB.out)) hb); clear HO_3; clear HO_5; clear HO_8; clear BK723; clear HB; have HO_3 := n0_; have HO_5 := n1_; have HO_8 := n2_; have BK723 := n3_; have HB := n4_; clear n0_ n1_ n2_ n3_ n4_; (try clear hb); (try clear hb2); (try clear hk); (try clear hi); have hcz91_0 : w90.cell? ⟨gb723, 0, none⟩ = some (.string t721) := (blk_cell BK723.out 0).trans rfl; have hcz91_1 : w90.cell? ⟨gb723, 1, none⟩ = some (.string t722) := (blk_cell BK723.out 1).trans rfl; have hfz91_0 := blk_frozen BK723.out 0; have hfz91_1 := blk_frozen BK723.out 1) | ((with_reducible refine gate_callee (f := 33) rfl ?_); refine goesL_ (some 104) rfl rfl Try.func33 (by kernel_rfl) rfl #[.slice Ao87 t724.length co87, .string t721] rfl (by (try simp only [List.map_toArray, List.map_cons, List.map_nil]); first | done | rfl | (simp only [List.length_drop, List.length_take]; rfl)) ?_; (with_reducible refine (impl_FieldsDrop.calls kj5 _ _ t724 t721 t744 t745 _ ?side1 ?side2 A43.out).mono ?_); (case side1 => repeat (first | exact (Kd.R_reads' HO_5.out).2.2 | (with_reducible refine Kd.C_alloc ?_ _) | (with_reducible refine Kd.C_drewN ?_ _) | (with_reducible refine Kd.C_drew ?_))); (case side2 => exact (Kd.R_reads' HO_5.out).2.1); rintro e w92 ⟨v746, rfl, ho0, hb⟩; refine ⟨_, rfl, ?_⟩; have n0_ := Aside0.mk (Kd.R_elder' (by (with_reducible repeat (first | apply Kd.R_alloc | apply Kd.R_drewN | apply Kd.R_drew)); exact HO_3.out) (Kd.R_base ho0) hb); have n1_ := Aside0.mk (Kd.R_elder' (by (with_reducible repeat (first | apply Kd.R_alloc | apply Kd.R_drewN | apply Kd.R_drew)); exact HO_5.out) (Kd.R_base ho0) hb); have n2_ := Aside0.mk (Kd.R_elder' (by (with_reducible repeat (first | apply Kd.R_alloc | apply Kd.R_drewN | apply Kd.R_drew)); exact HO_8.out) (Kd.R_base ho0) hb); have n3_ := Aside0.mk (Kd.R_lower (Kd.R_newB (Kd.R_new' (Kd.R_new' (Kd.R_new' ho0 (Kd.R_lt (by (with_reducible repeat (first | apply Kd.R_alloc | apply Kd.R_drewN | apply Kd.R_drew)); exact HO_3.out))) (Kd.R_lt (by (with_reducible repeat (first | apply Kd.R_alloc | apply Kd.R_drewN | apply Kd.R_drew)); exact HO_5.out))) (Kd.R_lt (by (with_reducible repeat (first | apply Kd.R_alloc | apply Kd.R_drewN | apply Kd.R_drew)); exact HO_8.out))) (g := gb723) (o := .cells #[.string t721, .string t722] 38 (0, 0)) (by (with_reducible repeat (first | refine blk_drewN ?_ _ | refine blk_drew ?_ | refine blk_alloc ?_ _)); exact BK723.out)) (below_size (by repeat (first | (with_reducible first | exact HB.out | apply below_alloc | apply pw_below_drewN | apply below_drew1 | refine below_set ?_ GE723.out) | exact HB.out)))); have n4_ := Aside0.mk (blk_below (g := gb723) (o := .cells #[.string t721, .string t722] 38 (0, 0)) (by (with_reducible repeat (first | refine blk_drewN ?_ _ | refine blk_drew ?_ | refine blk_alloc ?_ _)); exact BK723.out) hb); have n5_ := Aside0.mk (below_step (by repeat (first | (with_reducible first | exact HB.out | apply below_alloc | apply pw_below_drewN | apply below_drew1 | refine below_set ?_ GE723.out) | exact HB.out)) hb); clear HO_3; clear HO_5; clear HO_8; clear BK723; clear HB; have HO_3 := n0_; have HO_5 := n1_; have HO_8 := n2_; have HO747 := n3_; have BK723 := n4_; have HB := n5_; clear n0_ n1_ n2_ n3_ n4_ n5_; (try clear hb); (try clear hb2); (try clear hk); (try clear hi); (try clear ho0); have hcz93_0 : w92.cell? ⟨gb723, 0, none⟩ = some (.string t721) := (blk_cell BK723.out 0).trans rfl; have hcz93_1 : w92.cell? ⟨gb723, 1, none⟩ = some (.string t722) := (blk_cell BK723.out 1).trans rfl; have hfz93_0 := blk_frozen BK723.out 0; have hfz93_1 := blk_frozen BK723.out 1) | ((with_reducible refine gate_callee (f := 33) rfl ?_); refine goesL_ (some 111) rfl rfl Try.func33 (by kernel_rfl) rfl #[.slice Ao10 t718.length co10, .string t721] rfl (by (try simp only [List.map_toArray, List.map_cons, List.map_nil]); first | done | rfl | (simp only [List.length_drop, List.length_take]; rfl)) ?_; (with_reducible refine (impl_FieldsDrop.calls kj5 _ _ t718 t721 t748 t749 _ ?side1 ?side2 A44.out).mono ?_); (case side1 => repeat (first | exact (Kd.R_reads' HO_3.out).2.2 | (with_reducible refine Kd.C_alloc ?_ _) | (with_reducible refine Kd.C_drewN ?_ _) | (with_reducible refine Kd.C_drew ?_))); (case side2 => exact (Kd.R_reads' HO_3.out).2.1); rintro e w94 ⟨v750, rfl, ho0, hb⟩; refine ⟨_, rfl, ?_⟩; have n0_ := Aside0.mk (Kd.R_elder' (by (with_reducible repeat (first | apply Kd.R_alloc | apply Kd.R_drewN | apply Kd.R_drew)); exact HO_3.out) (Kd.R_base ho0) hb); have n1_ := Aside0.mk (Kd.R_elder' (by (with_reducible repeat (first | apply Kd.R_alloc | apply Kd.R_drewN | apply Kd.R_drew)); exact HO_5.out) (Kd.R_base ho0) hb); have n2_ := Aside0.mk (Kd.R_elder' (by (with_reducible repeat (first | apply Kd.R_alloc | apply Kd.R_drewN | apply Kd.R_drew)); exact HO_8.out) (Kd.R_base ho0) hb); have n3_ := Aside0.mk (Kd.R_elder' (by (with_reducible repeat (first | apply Kd.R_alloc | apply Kd.R_drewN | apply Kd.R_drew)); exact HO747.out) (Kd.R_base ho0) hb); have n4_ := Aside0.mk (Kd.R_lower (Kd.R_newB (Kd.R_new' (Kd.R_new' (Kd.R_new' (Kd.R_new' ho0 (Kd.R_lt (by (with_reducible repeat (first | apply Kd.R_alloc | apply Kd.R_drewN | apply Kd.R_drew)); exact HO_3.out))) (Kd.R_lt (by (with_reducible repeat (first | apply Kd.R_alloc | apply Kd.R_drewN | apply Kd.R_drew)); exact HO_5.out))) (Kd.R_lt (by (with_reducible repeat (first | apply Kd.R_alloc | apply Kd.R_drewN | apply Kd.R_drew)); exact HO_8.out))) (Kd.R_lt (by (with_reducible repeat (first | apply Kd.R_alloc | apply Kd.R_drewN | apply Kd.R_drew)); exact HO747.out))) (g := gb723) (o := .cells #[.string t721, .string t722] 38 (0, 0)) (by (with_reducible repeat (first | refine blk_drewN ?_ _ | refine blk_drew ?_ | refine blk_alloc ?_ _)); exact BK723.out)) (below_size (by repeat (first | (with_reducible first | exact HB.out | apply below_alloc | apply pw_below_drewN | apply below_drew1 | refine below_set ?_ GE723.out) | exact HB.out)))); have n5_ := Aside0.mk (blk_below (g := gb723) (o := .cells #[.string t721, .string t722] 38 (0, 0)) (by (with_reducible repeat (first | refine blk_drewN ?_ _ | refine blk_drew ?_ | refine blk_alloc ?_ _)); exact BK723.out) hb); have n6_ := Aside0.mk (below_step (by repeat (first | (with_reducible first | exact HB.out | apply below_alloc | apply pw_below_drewN | apply below_drew1 | refine below_set ?_ GE723.out) | exact HB.out)) hb); clear HO_3; clear HO_5; clear HO_8; clear HO747; clear BK723; clear HB; have HO_3 := n0_; have HO_5 := n1_; have HO_8 := n2_; have HO747 := n3_; have HO751 := n4_; have BK723 := n5_; have HB := n6_; clear n0_ n1_ n2_ n3_ n4_ n5_ n6_; (try clear hb); (try clear hb2); (try clear hk); (try clear hi); (try clear ho0)) | ((with_reducible refine gate_callee (f := 30) rfl ?_); refine goesL_ (some 115) rfl rfl Try.func30 (by kernel_rfl) rfl #[.slice Ao87 t724.length co87] rfl (by (try simp only [List.map_toArray, List.map_cons, List.map_nil]); first | done | rfl | (simp only [List.length_drop, List.length_take]; rfl)) ?_; (with_reducible refine (impl_FieldsOk.calls kj5 _ _ t724 true _ ?side1 ?side2 A45.out).mono ?_); (case side1 => repeat (first | exact (Kd.R_reads' HO_5.out).2.2 | (with_reducible refine Kd.C_alloc ?_ _) | (with_reducible refine Kd.C_drewN ?_ _) | (with_reducible refine Kd.C_drew ?_))); (case side2 => exact (Kd.R_reads' HO_5.out).2.1); rintro e w95 ⟨rfl, hb⟩; refine ⟨_, rfl, ?_⟩; have n0_ := Aside0.mk (Kd.R_below (by (with_reducible repeat (first | apply Kd.R_alloc | apply Kd.R_drewN | apply Kd.R_drew)); exact HO_3.out) hb); have n1_ := Aside0.mk (Kd.R_below (by (with_reducible repeat (first | apply Kd.R_alloc | apply Kd.R_drewN | apply Kd.R_drew)); exact HO_5.out) hb); have n2_ := Aside0.mk (Kd.R_below (by (with_reducible repeat (first | apply Kd.R_alloc | apply Kd.R_drewN | apply Kd.R_drew)); exact HO_8.out) hb); have n3_ := Aside0.mk (Kd.R_below (by (with_reducible repeat (first | apply Kd.R_alloc | apply Kd.R_drewN | apply Kd.R_drew)); exact HO747.out) hb); have n4_ := Aside0.mk (Kd.R_below (by (with_reducible repeat (first | apply Kd.R_alloc | apply Kd.R_drewN | apply Kd.R_drew)); exact HO751.out) hb); have n5_ := Aside0.mk (blk_below (g := gb723) (o := .cells #[.string t721, .string t722] 38 (0, 0)) (by (with_reducible repeat (first | refine blk_drewN ?_ _ | refine blk_drew ?_ | refine blk_alloc ?_ _)); exact BK723.out) hb); have n6_ := Aside0.mk (below_step (by repeat (first | (with_reducible first | exact HB.out | apply below_alloc | apply pw_below_drewN | apply below_drew1 | refine below_set ?_ GE723.out) | exact HB.out)) hb); clear HO_3; clear HO_5; clear HO_8; clear HO747; clear HO751; clear BK723; clear HB; have HO_3 := n0_; have HO_5 := n1_; have HO_8 := n2_; have HO747 := n3_; have HO751 := n4_; have BK723 := n5_; have HB := n6_; clear n0_ n1_ n2_ n3_ n4_ n5_ n6_; (try clear hb); (try clear hb2); (try clear hk); (try clear hi)))
              go_ret
              exact ⟨by first | rfl | (simp [errW_none, errW_some] <;> rfl) | (simp [*, errW_none, errW_some] <;> rfl), by repeat (first | (with_reducible first | exact HB.out | apply below_alloc | apply pw_below_drewN | apply below_drew1 | refine below_set ?_ GE723.out) | exact HB.out)⟩
          · replace c46 := Bool.eq_false_iff.mpr c46
            subst c46
            have H1 : (some false) = some r := by rw [if_neg (show ¬ (false = true) by decide)] at H; exact H
            clear H
            have H := H1
            clear H1
            obtain rfl := Option.some.inj H
            have hcz96_0 : wc.cell? ⟨gb723, 0, none⟩ = some (.string t721) := (blk_cell BK723.out 0).trans rfl
            have hcz96_1 : wc.cell? ⟨gb723, 1, none⟩ = some (.string t722) := (blk_cell BK723.out 1).trans rfl
            have hfz96_0 := blk_frozen BK723.out 0
            have hfz96_1 := blk_frozen BK723.out 1
            obtain ⟨Ao97, co97, eo97⟩ := Kd.R_slice HO_5.out
            subst eo97
            go_wp2_with (first | ((with_reducible refine gate_callee (f := 32) rfl ?_); refine goesL_ (some 90) rfl rfl Try.func32 (by kernel_rfl) rfl #[.slice Ao97 t724.length co97, .string t721] rfl (by (try simp only [List.map_toArray, List.map_cons, List.map_nil]); first | done | rfl | (simp only [List.length_drop, List.length_take]; rfl)) ?_; (with_reducible refine (impl_FieldsGet.calls kj5 _ _ t724 t721 t740 t741 _ ?side1 ?side2 A41.out).mono ?_); (case side1 => repeat (first | exact (Kd.R_reads' HO_5.out).2.2 | (with_reducible refine Kd.C_alloc ?_ _) | (with_reducible refine Kd.C_drewN ?_ _) | (with_reducible refine Kd.C_drew ?_))); (case side2 => exact (Kd.R_reads' HO_5.out).2.1); rintro e w98 ⟨rfl, hb⟩; refine ⟨_, rfl, ?_⟩; have n0_ := Aside0.mk (Kd.R_below (by (with_reducible repeat (first | apply Kd.R_alloc | apply Kd.R_drewN | apply Kd.R_drew)); exact HO_3.out) hb); have n1_ := Aside0.mk (Kd.R_below (by (with_reducible repeat (first | apply Kd.R_alloc | apply Kd.R_drewN | apply Kd.R_drew)); exact HO_5.out) hb); have n2_ := Aside0.mk (Kd.R_below (by (with_reducible repeat (first | apply Kd.R_alloc | apply Kd.R_drewN | apply Kd.R_drew)); exact HO_8.out) hb); have n3_ := Aside0.mk (blk_below (g := gb723) (o := .cells #[.string t721, .string t722] 38 (0, 0)) (by (with_reducible repeat (first | refine blk_drewN ?_ _ | refine blk_drew ?_ | refine blk_alloc ?_ _)); exact BK723.out) hb); have n4_ := Aside0.mk (below_step (by repeat (first | (with_reducible first | exact HB.out | apply below_alloc | apply pw_below_drewN | apply below_drew1 | refine below_set ?_ GE723.out) | exact HB.out)) hb); clear HO_3; clear HO_5; clear HO_8; clear BK723; clear HB; have HO_3 := n0_; have HO_5 := n1_; have HO_8 := n2_; have BK723 := n3_; have HB := n4_; clear n0_ n1_ n2_ n3_ n4_; (try clear hb); (try clear hb2); (try clear hk); (try clear hi); have hcz99_0 : w98.cell? ⟨gb723, 0, none⟩ = some (.string t721) := (blk_cell BK723.out 0).trans rfl; have hcz99_1 : w98.cell? ⟨gb723, 1, none⟩ = some (.string t722) := (blk_cell BK723.out 1).trans rfl; have hfz99_0 := blk_frozen BK723.out 0; have hfz99_1 := blk_frozen BK723.out 1) | ((with_reducible refine gate_callee (f := 32) rfl ?_); refine goesL_ (some 97) rfl rfl Try.func32 (by kernel_rfl) rfl #[.slice Ao10 t718.length co10, .string t721] rfl (by (try simp only [List.map_toArray, List.map_cons, List.map_nil]); first | done | rfl | (simp only [List.length_drop, List.length_take]; rfl)) ?_; (with_reducible refine (impl_FieldsGet.calls kj5 _ _ t718 t721 t742 t743 _ ?side1 ?side2 A42.out).mono ?_); (case side1 => repeat (first | exact (Kd.R_reads' HO_3.out).2.2 | (with_reducible refine Kd.C_alloc ?_ _) | (with_reducible refine Kd.C_drewN ?_ _) | (with_reducible refine Kd.C_drew ?_))); (case side2 => exact (Kd.R_reads' HO_3.out).2.1); rintro e w100 ⟨rfl, hb⟩; refine ⟨_, rfl, ?_⟩; have n0_ := Aside0.mk (Kd.R_below (by (with_reducible repeat (first | apply Kd.R_alloc | apply Kd.R_drewN | apply Kd.R_drew)); exact HO_3.out) hb); have n1_ := Aside0.mk (Kd.R_below (by (with_reducible repeat (first | apply Kd.R_alloc | apply Kd.R_drewN | apply Kd.R_drew)); exact HO_5.out) hb); have n2_ := Aside0.mk (Kd.R_below (by (with_reducible repeat (first | apply Kd.R_alloc | apply Kd.R_drewN | apply Kd.R_drew)); exact HO_8.out) hb); have n3_ := Aside0.mk (blk_below (g := gb723) (o := .cells #[.string t721, .string t722] 38 (0, 0)) (by (with_reducible repeat (first | refine blk_drewN ?_ _ | refine blk_drew ?_ | refine blk_alloc ?_ _)); exact BK723.out) hb); have n4_ := Aside0.mk (below_step (by repeat (first | (with_reducible first | exact HB.out | apply below_alloc | apply pw_below_drewN | apply below_drew1 | refine below_set ?_ GE723.out) | exact HB.out)) hb); clear HO_3; clear HO_5; clear HO_8; clear BK723; clear HB; have HO_3 := n0_; have HO_5 := n1_; have HO_8 := n2_; have BK723 := n3_; have HB := n4_; clear n0_ n1_ n2_ n3_ n4_; (try clear hb); (try clear hb2); (try clear hk); (try clear hi); have hcz101_0 : w100.cell? ⟨gb723, 0, none⟩ = some (.string t721) := (blk_cell BK723.out 0).trans rfl; have hcz101_1 : w100.cell? ⟨gb723, 1, none⟩ = some (.string t722) := (blk_cell BK723.out 1).trans rfl; have hfz101_0 := blk_frozen BK723.out 0; have hfz101_1 := blk_frozen BK723.out 1) | ((with_reducible refine gate_callee (f := 33) rfl ?_); refine goesL_ (some 104) rfl rfl Try.func33 (by kernel_rfl) rfl #[.slice Ao97 t724.length co97, .string t721] rfl (by (try simp only [List.map_toArray, List.map_cons, List.map_nil]); first | done | rfl | (simp only [List.length_drop, List.length_take]; rfl)) ?_; (with_reducible refine (impl_FieldsDrop.calls kj5 _ _ t724 t721 t744 t745 _ ?side1 ?side2 A43.out).mono ?_); (case side1 => repeat (first | exact (Kd.R_reads' HO_5.out).2.2 | (with_reducible refine Kd.C_alloc ?_ _) | (with_reducible refine Kd.C_drewN ?_ _) | (with_reducible refine Kd.C_drew ?_))); (case side2 => exact (Kd.R_reads' HO_5.out).2.1); rintro e w102 ⟨v746, rfl, ho0, hb⟩; refine ⟨_, rfl, ?_⟩; have n0_ := Aside0.mk (Kd.R_elder' (by (with_reducible repeat (first | apply Kd.R_alloc | apply Kd.R_drewN | apply Kd.R_drew)); exact HO_3.out) (Kd.R_base ho0) hb); have n1_ := Aside0.mk (Kd.R_elder' (by (with_reducible repeat (first | apply Kd.R_alloc | apply Kd.R_drewN | apply Kd.R_drew)); exact HO_5.out) (Kd.R_base ho0) hb); have n2_ := Aside0.mk (Kd.R_elder' (by (with_reducible repeat (first | apply Kd.R_alloc | apply Kd.R_drewN | apply Kd.R_drew)); exact HO_8.out) (Kd.R_base ho0) hb); have n3_ := Aside0.mk (Kd.R_lower (Kd.R_newB (Kd.R_new' (Kd.R_new' (Kd.R_new' ho0 (Kd.R_lt (by (with_reducible repeat (first | apply Kd.R_alloc | apply Kd.R_drewN | apply Kd.R_drew)); exact HO_3.out))) (Kd.R_lt (by (with_reducible repeat (first | apply Kd.R_alloc | apply Kd.R_drewN | apply Kd.R_drew)); exact HO_5.out))) (Kd.R_lt (by (with_reducible repeat (first | apply Kd.R_alloc | apply Kd.R_drewN | apply Kd.R_drew)); exact HO_8.out))) (g := gb723) (o := .cells #[.string t721, .string t722] 38 (0, 0)) (by (with_reducible repeat (first | refine blk_drewN ?_ _ | refine blk_drew ?_ | refine blk_alloc ?_ _)); exact BK723.out)) (below_size (by repeat (first | (with_reducible first | exact HB.out | apply below_alloc | apply pw_below_drewN | apply below_drew1 | refine below_set ?_ GE723.out) | exact HB.out)))); have n4_ := Aside0.mk (blk_below (g := gb723) (o := .cells #[.string t721, .string t722] 38 (0, 0)) (by (with_reducible repeat (first | refine blk_drewN ?_ _ | refine blk_drew ?_ | refine blk_alloc ?_ _)); exact BK723.out) hb); have n5_ := Aside0.mk (below_step (by repeat (first | (with_reducible first | exact HB.out | apply below_alloc | apply pw_below_drewN | apply below_drew1 | refine below_set ?_ GE723.out) | exact HB.out)) hb); clear HO_3; clear HO_5; clear HO_8; clear BK723; clear HB; have HO_3 := n0_; have HO_5 := n1_; have HO_8 := n2_; have HO747 := n3_; have BK723 := n4_; have HB := n5_; clear n0_ n1_ n2_ n3_ n4_ n5_; (try clear hb); (try clear hb2); (try clear hk); (try clear hi); (try clear ho0); have hcz103_0 : w102.cell? ⟨gb723, 0, none⟩ = some (.string t721) := (blk_cell BK723.out 0).trans rfl; have hcz103_1 : w102.cell? ⟨gb723, 1, none⟩ = some (.string t722) := (blk_cell BK723.out 1).trans rfl; have hfz103_0 := blk_frozen BK723.out 0; have hfz103_1 := blk_frozen BK723.out 1) | ((with_reducible refine gate_callee (f := 33) rfl ?_); refine goesL_ (some 111) rfl rfl Try.func33 (by kernel_rfl) rfl #[.slice Ao10 t718.length co10, .string t721] rfl (by (try simp only [List.map_toArray, List.map_cons, List.map_nil]); first | done | rfl | (simp only [List.length_drop, List.length_take]; rfl)) ?_; (with_reducible refine (impl_FieldsDrop.calls kj5 _ _ t718 t721 t748 t749 _ ?side1 ?side2 A44.out).mono ?_); (case side1 => repeat (first | exact (Kd.R_reads' HO_3.out).2.2 | (with_reducible refine Kd.C_alloc ?_ _) | (with_reducible refine Kd.C_drewN ?_ _) | (with_reducible refine Kd.C_drew ?_))); (case side2 => exact (Kd.R_reads' HO_3.out).2.1); rintro e w104 ⟨v750, rfl, ho0, hb⟩; refine ⟨_, rfl, ?_⟩; have n0_ := Aside0.mk (Kd.R_elder' (by (with_reducible repeat (first | apply Kd.R_alloc | apply Kd.R_drewN | apply Kd.R_drew)); exact HO_3.out) (Kd.R_base ho0) hb); have n1_ := Aside0.mk (Kd.R_elder' (by (with_reducible repeat (first | apply Kd.R_alloc | apply Kd.R_drewN | apply Kd.R_drew)); exact HO_5.out) (Kd.R_base ho0) hb); have n2_ := Aside0.mk (Kd.R_elder' (by (with_reducible repeat (first | apply Kd.R_alloc | apply Kd.R_drewN | apply Kd.R_drew)); exact HO_8.out) (Kd.R_base ho0) hb); have n3_ := Aside0.mk (Kd.R_elder' (by (with_reducible repeat (first | apply Kd.R_alloc | apply Kd.R_drewN | apply Kd.R_drew)); exact HO747.out) (Kd.R_base ho0) hb); have n4_ := Aside0.mk (Kd.R_lower (Kd.R_newB (Kd.R_new' (Kd.R_new' (Kd.R_new' (Kd.R_new' ho0 (Kd.R_lt (by (with_reducible repeat (first | apply Kd.R_alloc | apply Kd.R_drewN | apply Kd.R_drew)); exact HO_3.out))) (Kd.R_lt (by (with_reducible repeat (first | apply Kd.R_alloc | apply Kd.R_drewN | apply Kd.R_drew)); exact HO_5.out))) (Kd.R_lt (by (with_reducible repeat (first | apply Kd.R_alloc | apply Kd.R_drewN | apply Kd.R_drew)); exact HO_8.out))) (Kd.R_lt (by (with_reducible repeat (first | apply Kd.R_alloc | apply Kd.R_drewN | apply Kd.R_drew)); exact HO747.out))) (g := gb723) (o := .cells #[.string t721, .string t722] 38 (0, 0)) (by (with_reducible repeat (first | refine blk_drewN ?_ _ | refine blk_drew ?_ | refine blk_alloc ?_ _)); exact BK723.out)) (below_size (by repeat (first | (with_reducible first | exact HB.out | apply below_alloc | apply pw_below_drewN | apply below_drew1 | refine below_set ?_ GE723.out) | exact HB.out)))); have n5_ := Aside0.mk (blk_below (g := gb723) (o := .cells #[.string t721, .string t722] 38 (0, 0)) (by (with_reducible repeat (first | refine blk_drewN ?_ _ | refine blk_drew ?_ | refine blk_alloc ?_ _)); exact BK723.out) hb); have n6_ := Aside0.mk (below_step (by repeat (first | (with_reducible first | exact HB.out | apply below_alloc | apply pw_below_drewN | apply below_drew1 | refine below_set ?_ GE723.out) | exact HB.out)) hb); clear HO_3; clear HO_5; clear HO_8; clear HO747; clear BK723; clear HB; have HO_3 := n0_; have HO_5 := n1_; have HO_8 := n2_; have HO747 := n3_; have HO751 := n4_; have BK723 := n5_; have HB := n6_; clear n0_ n1_ n2_ n3_ n4_ n5_ n6_; (try clear hb); (try clear hb2); (try clear hk); (try clear hi); (try clear ho0)) | ((with_reducible refine gate_callee (f := 30) rfl ?_); refine goesL_ (some 115) rfl rfl Try.func30 (by kernel_rfl) rfl #[.slice Ao97 t724.length co97] rfl (by (try simp only [List.map_toArray, List.map_cons, List.map_nil]); first | done | rfl | (simp only [List.length_drop, List.length_take]; rfl)) ?_; (with_reducible refine (impl_FieldsOk.calls kj5 _ _ t724 false _ ?side1 ?side2 A45.out).mono ?_); (case side1 => repeat (first | exact (Kd.R_reads' HO_5.out).2.2 | (with_reducible refine Kd.C_alloc ?_ _) | (with_reducible refine Kd.C_drewN ?_ _) | (with_reducible refine Kd.C_drew ?_))); (case side2 => exact (Kd.R_reads' HO_5.out).2.1); rintro e w105 ⟨rfl, hb⟩; refine ⟨_, rfl, ?_⟩; have n0_ := Aside0.mk (Kd.R_below (by (with_reducible repeat (first | apply Kd.R_alloc | apply Kd.R_drewN | apply Kd.R_drew)); exact HO_3.out) hb); have n1_ := Aside0.mk (Kd.R_below (by (with_reducible repeat (first | apply Kd.R_alloc | apply Kd.R_drewN | apply Kd.R_drew)); exact HO_5.out) hb); have n2_ := Aside0.mk (Kd.R_below (by (with_reducible repeat (first | apply Kd.R_alloc | apply Kd.R_drewN | apply Kd.R_drew)); exact HO_8.out) hb); have n3_ := Aside0.mk (Kd.R_below (by (with_reducible repeat (first | apply Kd.R_alloc | apply Kd.R_drewN | apply Kd.R_drew)); exact HO747.out) hb); have n4_ := Aside0.mk (Kd.R_below (by (with_reducible repeat (first | apply Kd.R_alloc | apply Kd.R_drewN | apply Kd.R_drew)); exact HO751.out) hb); have n5_ := Aside0.mk (blk_below (g := gb723) (o := .cells #[.string t721, .string t722] 38 (0, 0)) (by (with_reducible repeat (first | refine blk_drewN ?_ _ | refine blk_drew ?_ | refine blk_alloc ?_ _)); exact BK723.out) hb); have n6_ := Aside0.mk (below_step (by repeat (first | (with_reducible first | exact HB.out | apply below_alloc | apply pw_below_drewN | apply below_drew1 | refine below_set ?_ GE723.out) | exact HB.out)) hb); clear HO_3; clear HO_5; clear HO_8; clear HO747; clear HO751; clear BK723; clear HB; have HO_3 := n0_; have HO_5 := n1_; have HO_8 := n2_; have HO747 := n3_; have HO751 := n4_; have BK723 := n5_; have HB := n6_; clear n0_ n1_ n2_ n3_ n4_ n5_ n6_; (try clear hb); (try clear hb2); (try clear hk); (try clear hi)))
            go_ret
            exact ⟨by first | rfl | (simp [errW_none, errW_some] <;> rfl) | (simp [*, errW_none, errW_some] <;> rfl), by repeat (first | (with_reducible first | exact HB.out | apply below_alloc | apply pw_below_drewN | apply below_drew1 | refine below_set ?_ GE723.out) | exact HB.out)⟩

/-- THE ONE PURE STATEMENT of laws_FnFieldsPut: yours. -/
def laws_FnFieldsPut.Pure : Prop := ∀ (l0 : List Int), l0.length ≤ maxLen → l0.length * 1 ≤ 140737488351232 → (∀ x ∈ l0, (Lit.int .u8 x).wf = true) → ∃ k, laws_FnFieldsPut.f k l0 = some true
theorem laws_FnFieldsPut.walk (P : laws_FnFieldsPut.Pure) (a0 : Option Addr) (len0 cap0 : Nat) (z0 : List Int) (w : World) (w0 : (a0 = none ∧ len0 = 0 ∧ cap0 = 0 ∧ z0 = []) ∨ ∃ x, a0 = some x ∧ len0 ≤ cap0 ∧ cap0 ≤ maxLen ∧ z0.length = cap0 ∧ (∀ i, i < z0.length → w.cell? (x.add i) = some (.int .u8 (z0.getD i 0))) ∧ ∀ n ∈ z0, (Lit.int .u8 n).wf = true) (y0 : len0 * 1 ≤ 140737488351232) :
    Calls Try.prog 6 #[.slice a0 len0 cap0] w fun e w' => e = .returned (.bool true) ∧ Below w.heap.size w w' := by
  obtain ⟨l0, rfl, hr0, hm0, hw0, hc0⟩ := ReadsInt.ofRowC w0
  obtain ⟨k, h⟩ := P l0 hm0 y0 hw0
  refine (laws_FnFieldsPut.calls k _ _ l0 true w (Kd.C_of_reads (d := (0 : Int)) (h1 := fun _ => rfl) hr0) hc0 h).mono ?_
  rintro e w' ⟨rfl, hd⟩
  exact ⟨rfl, hd⟩

end Go.Proofs.Ytegelpeegbngiaa.P
/- Plain lemmas: the drawing of inputs: opening a code, picking a number, picking one of some texts. -/
namespace Go.Proofs.Ytegelpeegbngiaa.Q
open Go.RowKit Go.Proofs.YtegelpeegbngiaaW.PrintWords Go.Proofs.YtegelpeegbngiaaW.PrintLast Go.Proofs.Ytegelpeegbngiaa.P

/-- A code as it is read: at most two thousand bytes. -/
def Code (l : List Int) : Prop := l.length ≤ 2000 ∧ ∀ x ∈ l, 0 ≤ x ∧ x ≤ 255
theorem xor_nonneg (x y : Int) (hx : 0 ≤ x) (hx' : x < 9223372036854775808) (hy : 0 ≤ y) (hy' : y < 9223372036854775808) : 0 ≤ Go.bits .xor .i64 x y := by
  have h1 : (BitVec.ofInt 64 x) = BitVec.ofNat 64 x.toNat := by
    apply BitVec.eq_of_toNat_eq
    rw [BitVec.toNat_ofInt, BitVec.toNat_ofNat]
    omega
  have h2 : (BitVec.ofInt 64 y) = BitVec.ofNat 64 y.toNat := by
    apply BitVec.eq_of_toNat_eq
    rw [BitVec.toNat_ofInt, BitVec.toNat_ofNat]
    omega
  have h3 : (BitVec.ofNat 64 x.toNat ^^^ BitVec.ofNat 64 y.toNat).toNat < 2 ^ 63 := by
    rw [BitVec.toNat_xor, BitVec.toNat_ofNat, BitVec.toNat_ofNat, Nat.mod_eq_of_lt (by omega), Nat.mod_eq_of_lt (by omega)]
    exact Nat.xor_lt_two_pow (by omega) (by omega)
  show 0 ≤ IntKind.i64.wrap ((BitVec.ofInt 64 x ^^^ BitVec.ofInt 64 y).toNat : Int)
  rw [h1, h2]
  generalize (BitVec.ofNat 64 x.toNat ^^^ BitVec.ofNat 64 y.toNat).toNat = m at h3
  have h4 : IntKind.i64.wrap (m : Int) = wrap64 (m : Int) := i64_w _
  rw [h4, wrap_id (by omega) (by omega)]
  omega
theorem l1Open_ev (l : List Int) (hl : l.length ≤ maxLen) (hb : ∀ x ∈ l, (Lit.int .u8 x).wf = true) : ∃ c, Ev (fun _ => spec_l1Open.f l) (c, 0) ∧ Code c := by
  unfold maxLen at hl
  have hb' : ∀ x ∈ l, 0 ≤ x ∧ x ≤ 255 := by
    intro x hx
    have := hb x hx
    simp only [Lit.wf, Bool.and_eq_true, decide_eq_true_eq] at this
    exact this
  unfold spec_l1Open.f
  by_cases h : (l.length : Int) > 2000
  · refine ⟨l.take 2000, pos h (pos (by omega) (ret _)), by simp; omega, fun x hx => hb' x (List.mem_of_mem_take hx)⟩
  · exact ⟨l, neg h (ret _), by omega, hb'⟩
theorem rd_code {l : List Int} (hl : Code l) (i : Int) (h0 : 0 ≤ i) (h1 : i < l.length) : 0 ≤ rd l i ∧ rd l i ≤ 255 := by
  obtain ⟨n, rfl⟩ := Int.eq_ofNat_of_zero_le h0
  have hn : n < l.length := by omega
  have : rd l (n : Int) = l[n] := by simp [rd, List.getD_eq_getElem?_getD, hn]
  rw [this]
  exact hl.2 _ (List.getElem_mem hn)
theorem tmod_bd (a n : Int) (ha : 0 ≤ a) (hn : 0 < n) : 0 ≤ Int.tmod a n ∧ Int.tmod a n < n := ⟨Int.tmod_nonneg _ ha, Int.tmod_lt_of_pos _ hn⟩
theorem tdiv_bd (a n : Int) (ha : 0 ≤ a) (hn : 0 < n) : 0 ≤ Int.tdiv a n ∧ Int.tdiv a n ≤ a := by
  rw [Int.tdiv_eq_ediv_of_nonneg ha]
  exact ⟨Int.ediv_nonneg ha (by omega), Int.ediv_le_self _ ha⟩
theorem pick_ev (l : List Int) (hl : Code l) (p n : Int) (h0 : 0 ≤ p) (h1 : p ≤ 1000000000) (hn : 1 ≤ n) (hn' : n ≤ 4294967296) : ∃ v, Ev (fun k => spec_l1Rd_pick.f k l p n) (v, p + 1) ∧ 0 ≤ v ∧ v < n := by
  have hlen := hl.1
  have e1 : wrap64 (p + 1) = p + 1 := wrap_id (by omega) (by omega)
  have e2 : wrap64 (p + 1 - 1) = p := by rw [wrap_id (by omega) (by omega)]; omega
  unfold spec_l1Rd_pick.f
  rw [e1]
  by_cases hz : l.length = 0
  · have e : ((l.length : Int) == 0) = true := by simp [hz]
    refine ⟨0, neg (by omega) ?_, by omega, by omega⟩
    rw [e]
    refine Ev.step (g := fun k => spec_l1Rd_pick.j0 k _ _ _ _) (fun k => by rw [spec_l1Rd_pick.j0]) ?_
    exact pos rfl (ret _)
  · have e : ((l.length : Int) == 0) = false := by simp; exact fun h => hz (by simp [h])
    rw [e]
    by_cases hlt : p < l.length
    · obtain ⟨b0, b1⟩ := rd_code hl p h0 hlt
      have e3 : wrap64 (rd l p) = rd l p := wrap_id (by omega) (by omega)
      obtain ⟨c0, c1⟩ := tmod_bd (rd l p) n b0 (by omega)
      refine ⟨Int.tmod (rd l p) n, neg (by omega) ?_, c0, c1⟩
      refine Ev.step (g := fun k => spec_l1Rd_pick.j0 k _ _ _ _) (fun k => by rw [spec_l1Rd_pick.j0]) (neg (by decide) ?_)
      rw [e2, e3]
      exact pos hlt (pos h0 (neg (by omega) (ret _)))
    · have hpos : (0 : Int) < l.length := by omega
      obtain ⟨m0, m1⟩ := tmod_bd p l.length h0 hpos
      have e7 : wrap64 (p * 7) = p * 7 := wrap_id (by omega) (by omega)
      have e73 : wrap64 (p * 7 + 3) = p * 7 + 3 := wrap_id (by omega) (by omega)
      obtain ⟨q0, q1⟩ := tmod_bd (p * 7 + 3) l.length (by omega) hpos
      obtain ⟨d0, d1⟩ := tdiv_bd p l.length h0 hpos
      obtain ⟨b0, b1⟩ := rd_code hl _ m0 m1
      obtain ⟨b2, b3⟩ := rd_code hl _ q0 q1
      generalize hA : rd l (Int.tmod p (l.length : Int)) = A at b0 b1
      generalize hB : rd l (Int.tmod (p * 7 + 3) (l.length : Int)) = B at b2 b3
      generalize hD : Int.tdiv p (l.length : Int) = D at d0 d1
      have f1 : wrap64 A = A := wrap_id (by omega) (by omega)
      have f2 : wrap64 (A * 131) = A * 131 := wrap_id (by omega) (by omega)
      have f3 : wrap64 B = B := wrap_id (by omega) (by omega)
      have f4 : wrap64 (B * 1117) = B * 1117 := wrap_id (by omega) (by omega)
      have f5 : wrap64 (A * 131 + B * 1117) = A * 131 + B * 1117 := wrap_id (by omega) (by omega)
      have f6 : wrap64 (p * 29) = p * 29 := wrap_id (by omega) (by omega)
      have f7 : wrap64 (A * 131 + B * 1117 + p * 29) = A * 131 + B * 1117 + p * 29 := wrap_id (by omega) (by omega)
      have f8 : wrap64 D = D := wrap_id (by omega) (by omega)
      have f9 : wrap64 (D * 53) = D * 53 := wrap_id (by omega) (by omega)
      have f10 : wrap64 (A * 131 + B * 1117 + p * 29 + D * 53) = A * 131 + B * 1117 + p * 29 + D * 53 := wrap_id (by omega) (by omega)
      generalize hX : A * 131 + B * 1117 + p * 29 + D * 53 = X at f10
      have x0 : 0 ≤ X := by omega
      have x1 : X ≤ 1000000000000 := by omega
      obtain ⟨y0, y1⟩ := tdiv_bd X 64 x0 (by omega)
      have f11 : wrap64 (Int.tdiv X 64) = Int.tdiv X 64 := wrap_id (by omega) (by omega)
      have z0 := xor_nonneg X (Int.tdiv X 64) x0 (by omega) y0 (by omega)
      obtain ⟨c0, c1⟩ := tmod_bd _ n z0 (by omega)
      refine ⟨_, neg (by omega) ?_, c0, c1⟩
      refine Ev.step (g := fun k => spec_l1Rd_pick.j0 k _ _ _ _) (fun k => by rw [spec_l1Rd_pick.j0]) (neg (by decide) ?_)
      rw [e2, e7, e73, hA, hB, hD, f1, f2, f3, f4, f5, f6, f7, f8, f9, hX, f10, f11]
      exact neg hlt (neg (by omega) (pos m0 (pos m1 (pos q0 (pos q1 (neg (by omega) (ret _)))))))
theorem of_ev (l : List Int) (hl : Code l) (p : Int) (t : List ByteArray) (h0 : 0 ≤ p) (h1 : p ≤ 1000000000) (ht : 0 < t.length) (ht' : t.length ≤ 1000) : ∃ s, Ev (fun k => spec_l1Rd_of.f k l p t) (s, p + 1) ∧ s ∈ t := by
  obtain ⟨v, hv, v0, v1⟩ := pick_ev l hl p t.length h0 h1 (by omega) (by omega)
  obtain ⟨n, rfl⟩ := Int.eq_ofNat_of_zero_le v0
  have hn : n < t.length := by omega
  refine ⟨t[n], ?_, List.getElem_mem hn⟩
  unfold spec_l1Rd_of.f
  refine Ev.bind hv (pos v0 (pos v1 (ret' ?_)))
  rw [rdOf_lt _ _ _ hn]
end Go.Proofs.Ytegelpeegbngiaa.Q
/- Plain lemmas: the drawing of one text. -/
namespace Go.Proofs.Ytegelpeegbngiaa.Q
open Go.RowKit Go.Proofs.YtegelpeegbngiaaW.PrintWords Go.Proofs.YtegelpeegbngiaaW.PrintLast Go.Proofs.Ytegelpeegbngiaa.P

theorem l1Many_l0 (d : Nat) : ∀ (n : Nat) (x y : ByteArray), n ≤ d → n ≤ 1000000 → y.size + x.size * n ≤ 1000000 → ∃ s, Ev (fun k => spec_l1Many.l0 k x (n : Int) y) s ∧ s.size = y.size + x.size * n := by
  induction d with
  | zero =>
    intro n x y hn _ h
    obtain rfl : n = 0 := by omega
    exact ⟨y, Ev.step (g := fun k => spec_l1Many.l0 k _ _ _) (fun k => by rw [spec_l1Many.l0]) (neg (by omega) (ret _)), by simp⟩
  | succ d ih =>
    intro n x y hn hb h
    by_cases h0 : n = 0
    · subst h0
      exact ⟨y, Ev.step (g := fun k => spec_l1Many.l0 k _ _ _) (fun k => by rw [spec_l1Many.l0]) (neg (by omega) (ret _)), by simp⟩
    · have e1 : Int.tmod (n : Int) 2 = (n : Int) % 2 := Int.tmod_eq_emod_of_nonneg (by omega)
      have e2 : Int.tdiv (n : Int) 2 = ((n / 2 : Nat) : Int) := by rw [Int.tdiv_eq_ediv_of_nonneg (by omega)]; omega
      have hx : x.size ≤ x.size * n := Nat.le_mul_of_pos_right _ (by omega)
      have sq : (x ++ x).size = x.size + x.size := ByteArray.size_append
      have hm : x.size * n = (x.size + x.size) * (n / 2) + x.size * (n % 2) := by
        have : n = 2 * (n / 2) + n % 2 := by omega
        conv => lhs; rw [this, Nat.mul_add, ← Nat.mul_assoc, Nat.mul_two]
      rcases (show n % 2 = 1 ∨ n % 2 = 0 by omega) with ho | ho
      · have sy : (y ++ x).size = y.size + x.size := ByteArray.size_append
        rw [ho, Nat.mul_one] at hm
        obtain ⟨s, hs, hz⟩ := ih (n / 2) (x ++ x) (y ++ x) (by omega) (by omega) (by rw [sq, sy]; omega)
        rw [sq, sy] at hz
        refine ⟨s, Ev.step (g := fun k => spec_l1Many.l0 k _ _ _) (fun k => by rw [spec_l1Many.l0]) (pos (by omega) ?_), by omega⟩
        rw [e1, e2, wrap_id (by omega) (by omega)]
        exact pos (by omega) (pos (by omega) (pos (by omega) hs))
      · rw [ho, Nat.mul_zero, Nat.add_zero] at hm
        obtain ⟨s, hs, hz⟩ := ih (n / 2) (x ++ x) y (by omega) (by omega) (by rw [sq]; omega)
        rw [sq] at hz
        refine ⟨s, Ev.step (g := fun k => spec_l1Many.l0 k _ _ _) (fun k => by rw [spec_l1Many.l0]) (pos (by omega) ?_), by omega⟩
        rw [e1, e2, wrap_id (by omega) (by omega)]
        exact neg (by omega) (pos (by omega) hs)
theorem l1Many_ev (x : ByteArray) (n : Nat) (h : n ≤ 1000) (hx : x.size = 1) : ∃ s, Ev (fun k => spec_l1Many.f k x (n : Int)) s ∧ s.size = n := by
  obtain ⟨s, hs, hz⟩ := l1Many_l0 n n x (⟨#[]⟩ : ByteArray) (Nat.le_refl _) (by omega) (by rw [hx]; show 0 + 1 * n ≤ _; omega)
  refine ⟨s, hs, ?_⟩
  rw [hz, hx]
  show 0 + 1 * n = n
  omega
theorem l11Text_ev (l : List Int) (hl : Code l) (p : Int) (h0 : 0 ≤ p) (h1 : p ≤ 1000000000) : ∃ s, Ev (fun k => spec_l11Text.f k l p) (s, p + 1) ∧ s.size ≤ 40 := by
  obtain ⟨m, hm, hz⟩ := l1Many_ev (⟨#[120]⟩ : ByteArray) 40 (by omega) rfl
  obtain ⟨s, hs, hmem⟩ := of_ev l hl p (([(⟨#[]⟩ : ByteArray), (⟨#[97]⟩ : ByteArray), (⟨#[98]⟩ : ByteArray), (⟨#[99]⟩ : ByteArray), (⟨#[53]⟩ : ByteArray), (⟨#[45, 51]⟩ : ByteArray), (⟨#[104, 101, 108, 108, 111]⟩ : ByteArray), (⟨#[13, 10]⟩ : ByteArray), (⟨#[255]⟩ : ByteArray), m, (⟨#[57, 57, 57, 57, 57, 57, 57, 57, 57]⟩ : ByteArray)] : List ByteArray)) h0 h1 (by simp) (by simp)
  refine ⟨s, ?_, ?_⟩
  · unfold spec_l11Text.f
    exact Ev.bind hm (Ev.bind hs (ret _))
  · simp only [List.mem_cons, List.not_mem_nil, or_false] at hmem
    rcases hmem with rfl | rfl | rfl | rfl | rfl | rfl | rfl | rfl | rfl | rfl | rfl <;> first | decide | omega
end Go.Proofs.Ytegelpeegbngiaa.Q
/- Plain lemmas: the drawn texts 'n' with a number, all different, and other than those that are drawn by themselves. -/
namespace Go.Proofs.Ytegelpeegbngiaa.Q
open Go.RowKit Go.Proofs.YtegelpeegbngiaaW.PrintWords Go.Proofs.YtegelpeegbngiaaW.PrintLast Go.Proofs.Ytegelpeegbngiaa.P

def decS (n : Nat) : ByteArray := if n < 10 then strOfNums (([(wrap64 (48 + (n : Int))) % 256] : List Int)) else strOfNums (([(wrap64 (48 + ((n / 10 : Nat) : Int))) % 256] : List Int)) ++ strOfNums (([(wrap64 (48 + (Int.tmod (n : Int) 10))) % 256] : List Int))
def nT (n : Nat) : ByteArray := (⟨#[110]⟩ : ByteArray) ++ decS n
theorem one_size (x : Int) : (strOfNums [x]).size = 1 := rfl
theorem decS_size (n : Nat) : (decS n).size ≤ 2 := by
  unfold decS
  split
  · rw [one_size]; omega
  · rw [ByteArray.size_append, one_size, one_size]; omega
theorem nT_size (n : Nat) : (nT n).size ≤ 3 := by
  have := decS_size n
  unfold nT
  rw [ByteArray.size_append]
  show 1 + (decS n).size ≤ 3
  omega
theorem decS_ev (n : Nat) (h : n < 100) : Ev (fun k => spec_l1Dec.f k (n : Int)) (decS n) := by
  have small : ∀ m : Nat, m < 10 → Ev (fun k => spec_l1Dec.f k (m : Int)) (strOfNums (([(wrap64 (48 + (m : Int))) % 256] : List Int))) := fun m hm =>
    Ev.step (g := fun k => spec_l1Dec.f k _) (fun k => by rw [spec_l1Dec.f]) (neg (by omega) (neg (by omega) (pos (by omega) (ret _))))
  unfold decS
  by_cases h10 : n < 10
  · rw [if_pos h10]; exact small n h10
  · rw [if_neg h10]
    have e2 : Int.tdiv (n : Int) 10 = ((n / 10 : Nat) : Int) := by rw [Int.tdiv_eq_ediv_of_nonneg (by omega)]; omega
    refine Ev.step (g := fun k => spec_l1Dec.f k _) (fun k => by rw [spec_l1Dec.f]) (neg (by omega) (neg (by omega) (neg (by omega) ?_)))
    rw [e2, wrap_id (by omega) (by omega)]
    refine Ev.bind (small (n / 10) (by omega)) (Ev.bind (ret _) (pos ?_ (ret _)))
    rw [one_size, one_size]
    omega
theorem nT_inj (i j : Nat) (hi : i < 17) (hj : j < 17) (hn : i ≠ j) : nT i ≠ nT j := by
  have : ∀ i : Fin 17, ∀ j : Fin 17, i ≠ j → nT i.1 ≠ nT j.1 := by decide +kernel
  exact this ⟨i, hi⟩ ⟨j, hj⟩ (fun e => hn (by injection e))
theorem nT_other : ∀ s ∈ (([(⟨#[]⟩ : ByteArray), (⟨#[97]⟩ : ByteArray), (⟨#[98]⟩ : ByteArray), (⟨#[99]⟩ : ByteArray), (⟨#[53]⟩ : ByteArray), (⟨#[45, 51]⟩ : ByteArray), (⟨#[104, 101, 108, 108, 111]⟩ : ByteArray), (⟨#[13, 10]⟩ : ByteArray), (⟨#[255]⟩ : ByteArray), (⟨#[57, 57, 57, 57, 57, 57, 57, 57, 57]⟩ : ByteArray)] : List ByteArray)), ∀ k, k < 17 → s ≠ nT k := by
  have : ∀ s ∈ (([(⟨#[]⟩ : ByteArray), (⟨#[97]⟩ : ByteArray), (⟨#[98]⟩ : ByteArray), (⟨#[99]⟩ : ByteArray), (⟨#[53]⟩ : ByteArray), (⟨#[45, 51]⟩ : ByteArray), (⟨#[104, 101, 108, 108, 111]⟩ : ByteArray), (⟨#[13, 10]⟩ : ByteArray), (⟨#[255]⟩ : ByteArray), (⟨#[57, 57, 57, 57, 57, 57, 57, 57, 57]⟩ : ByteArray)] : List ByteArray)), ∀ k : Fin 17, s ≠ nT k.1 := by decide +kernel
  exact fun s hs k hk => this s hs ⟨k, hk⟩
theorem l11TextN_ev (l : List Int) (hl : Code l) (p : Int) (h0 : 0 ≤ p) (h1 : p ≤ 1000000000) : ∃ s, Ev (fun k => spec_l11Text.f k l p) (s, p + 1) ∧ s.size ≤ 40 ∧ ∀ k, k < 17 → s ≠ nT k := by
  obtain ⟨m, hm, hz⟩ := l1Many_ev (⟨#[120]⟩ : ByteArray) 40 (by omega) rfl
  obtain ⟨s, hs, hmem⟩ := of_ev l hl p (([(⟨#[]⟩ : ByteArray), (⟨#[97]⟩ : ByteArray), (⟨#[98]⟩ : ByteArray), (⟨#[99]⟩ : ByteArray), (⟨#[53]⟩ : ByteArray), (⟨#[45, 51]⟩ : ByteArray), (⟨#[104, 101, 108, 108, 111]⟩ : ByteArray), (⟨#[13, 10]⟩ : ByteArray), (⟨#[255]⟩ : ByteArray), m, (⟨#[57, 57, 57, 57, 57, 57, 57, 57, 57]⟩ : ByteArray)] : List ByteArray)) h0 h1 (by simp) (by simp)
  refine ⟨s, ?_, ?_, ?_⟩
  · unfold spec_l11Text.f
    exact Ev.bind hm (Ev.bind hs (ret _))
  · simp only [List.mem_cons, List.not_mem_nil, or_false] at hmem
    rcases hmem with rfl | rfl | rfl | rfl | rfl | rfl | rfl | rfl | rfl | rfl | rfl <;> first | decide | omega
  · intro k hk
    by_cases e : s = m
    · intro q
      have := nT_size k
      rw [← q, e] at this
      omega
    · refine nT_other s ?_ k hk
      simp only [List.mem_cons, List.not_mem_nil, or_false] at hmem ⊢
      rcases hmem with h | h | h | h | h | h | h | h | h | h | h
      all_goals first | exact absurd h e | simp [h]
end Go.Proofs.Ytegelpeegbngiaa.Q
/- Plain lemmas: the drawing of fields; lists of fields compared. -/
namespace Go.Proofs.Ytegelpeegbngiaa.Q
open Go.RowKit Go.Proofs.YtegelpeegbngiaaW.PrintWords Go.Proofs.YtegelpeegbngiaaW.PrintLast Go.Proofs.Ytegelpeegbngiaa.P

/-- The drawn fields 'f' with a number. -/
def fT (n : Nat) : ByteArray := (⟨#[102]⟩ : ByteArray) ++ decS n
theorem fT_size (n : Nat) : (fT n).size ≤ 3 := by
  have := decS_size n
  unfold fT
  rw [ByteArray.size_append]
  show 1 + (decS n).size ≤ 3
  omega
theorem fT_inj (i j : Nat) (_hi : 10 ≤ i) (hi' : i < 27) (_hj : 10 ≤ j) (hj' : j < 27) (hn : i ≠ j) : fT i ≠ fT j := by
  have : ∀ i : Fin 27, ∀ j : Fin 27, i ≠ j → fT i.1 ≠ fT j.1 := by decide +kernel
  exact this ⟨i, hi'⟩ ⟨j, hj'⟩ (fun e => hn (by injection e))
theorem fT_other : ∀ s ∈ (([(⟨#[]⟩ : ByteArray), (⟨#[97]⟩ : ByteArray), (⟨#[98]⟩ : ByteArray), (⟨#[99]⟩ : ByteArray), (⟨#[53]⟩ : ByteArray), (⟨#[45, 51]⟩ : ByteArray), (⟨#[104, 101, 108, 108, 111]⟩ : ByteArray), (⟨#[13, 10]⟩ : ByteArray), (⟨#[255]⟩ : ByteArray), (⟨#[57, 57, 57, 57, 57, 57, 57, 57, 57]⟩ : ByteArray)] : List ByteArray)), ∀ k, k < 27 → s ≠ fT k := by
  have : ∀ s ∈ (([(⟨#[]⟩ : ByteArray), (⟨#[97]⟩ : ByteArray), (⟨#[98]⟩ : ByteArray), (⟨#[99]⟩ : ByteArray), (⟨#[53]⟩ : ByteArray), (⟨#[45, 51]⟩ : ByteArray), (⟨#[104, 101, 108, 108, 111]⟩ : ByteArray), (⟨#[13, 10]⟩ : ByteArray), (⟨#[255]⟩ : ByteArray), (⟨#[57, 57, 57, 57, 57, 57, 57, 57, 57]⟩ : ByteArray)] : List ByteArray)), ∀ k : Fin 27, s ≠ fT k.1 := by decide +kernel
  exact fun s hs k hk => this s hs ⟨k, hk⟩
theorem l11TextF_ev (l : List Int) (hl : Code l) (p : Int) (h0 : 0 ≤ p) (h1 : p ≤ 1000000000) : ∃ s, Ev (fun k => spec_l11Text.f k l p) (s, p + 1) ∧ s.size ≤ 40 ∧ ∀ k, k < 27 → s ≠ fT k := by
  obtain ⟨m, hm, hz⟩ := l1Many_ev (⟨#[120]⟩ : ByteArray) 40 (by omega) rfl
  obtain ⟨s, hs, hmem⟩ := of_ev l hl p (([(⟨#[]⟩ : ByteArray), (⟨#[97]⟩ : ByteArray), (⟨#[98]⟩ : ByteArray), (⟨#[99]⟩ : ByteArray), (⟨#[53]⟩ : ByteArray), (⟨#[45, 51]⟩ : ByteArray), (⟨#[104, 101, 108, 108, 111]⟩ : ByteArray), (⟨#[13, 10]⟩ : ByteArray), (⟨#[255]⟩ : ByteArray), m, (⟨#[57, 57, 57, 57, 57, 57, 57, 57, 57]⟩ : ByteArray)] : List ByteArray)) h0 h1 (by simp) (by simp)
  refine ⟨s, ?_, ?_, ?_⟩
  · unfold spec_l11Text.f
    exact Ev.bind hm (Ev.bind hs (ret _))
  · simp only [List.mem_cons, List.not_mem_nil, or_false] at hmem
    rcases hmem with rfl | rfl | rfl | rfl | rfl | rfl | rfl | rfl | rfl | rfl | rfl <;> first | decide | omega
  · intro k hk
    by_cases e : s = m
    · intro q
      have := fT_size k
      rw [← q, e] at this
      omega
    · refine fT_other s ?_ k hk
      simp only [List.mem_cons, List.not_mem_nil, or_false] at hmem ⊢
      rcases hmem with h | h | h | h | h | h | h | h | h | h | h
      all_goals first | exact absurd h e | simp [h]
theorem fieldsUp_of (l : List Pair) : ∀ (o : Option ByteArray), (∀ x ∈ l, x.f0.size ≤ 40 ∧ x.f1.size ≤ 40) → l.Pairwise (fun a b => lt a.f0 b.f0 = true) → (∀ y, o = some y → ∀ a ∈ l, lt y a.f0 = true) → fieldsUp o l = true := by
  induction l with
  | nil => intro o _ _ _; rfl
  | cons x r ih =>
    intro o h1 h2 h3
    rw [List.pairwise_cons] at h2
    obtain ⟨a, b⟩ := h1 x (by simp)
    simp only [fieldsUp, Bool.and_eq_true, decide_eq_true_eq]
    refine ⟨a, b, ?_, ih _ (fun y hy => h1 y (by simp [hy])) h2.2 (fun y hy z hz => ?_)⟩
    · cases o with
      | none => rfl
      | some y => exact h3 y rfl x (by simp)
    · injection hy with hy
      rw [← hy]
      exact h2.1 z hz
theorem fieldsUp_small (l : List Pair) : ∀ (o : Option ByteArray), fieldsUp o l = true → ∀ x ∈ l, x.f0.size ≤ 40 ∧ x.f1.size ≤ 40 := by
  induction l with
  | nil => intro o _ x hx; cases hx
  | cons y r ih =>
    intro o h x hx
    simp only [fieldsUp, Bool.and_eq_true, decide_eq_true_eq] at h
    rcases List.mem_cons.1 hx with rfl | hx
    · exact ⟨h.1, h.2.1⟩
    · exact ih _ h.2.2.2 x hx
theorem fieldsB_iff (l : List Pair) : fieldsB l = true ↔ (∀ x ∈ l, x.f0.size ≤ 40 ∧ x.f1.size ≤ 40) ∧ l.Pairwise (fun a b => lt a.f0 b.f0 = true) ∧ l.length ≤ 16 :=
  ⟨fun h => ⟨fieldsUp_small l none (fieldsB_up h), fieldsB_pw h, fieldsB_len h⟩, fun ⟨h1, h2, h3⟩ => by
    simp only [fieldsB, Bool.and_eq_true, decide_eq_true_eq]
    exact ⟨fieldsUp_of l none h1 h2 (fun y hy => by cases hy), by omega⟩⟩
theorem fieldsPutM_ok {l : List Pair} (p : Pair) (h : fieldsB l = true) : fieldsB (fieldsPutM l p).1 = true := by
  unfold fieldsPutM
  rw [if_pos h]
  split
  · assumption
  · exact h
theorem fieldsPutM_mem {l : List Pair} {p y : Pair} (h : y ∈ (fieldsPutM l p).1) : y = p ∨ y ∈ l := by
  unfold fieldsPutM at h
  split at h
  · split at h
    · exact mem_insF h
    · exact .inr h
  · simp at h
theorem insF_new (p : Pair) (l : List Pair) (h : ∀ x ∈ l, x.f0 ≠ p.f0) : (insF p l).length = l.length + 1 := by
  induction l with
  | nil => rfl
  | cons x r ih =>
    rw [insF]
    split
    · simp [ih (fun y hy => h y (by simp [hy]))]
    · split
      · rename_i he
        exact absurd (toList_inj (by simpa using he)) (h x (by simp))
      · rfl
/-- Fields drawn so far: ok, and none with one of those numbers on. -/
def FreeF (l : List Pair) (j : Nat) : Prop := fieldsB l = true ∧ ∀ x ∈ l, ∀ k, j ≤ k → k < 27 → x.f0 ≠ fT k
theorem l11AnyFields_l0 (c : List Int) (p : Int) (d : Nat) : ∀ (x : List Pair) (j : Nat), x.length + d = 16 → 10 ≤ j → j + d ≤ 26 → FreeF x j → ∃ l, Ev (fun k => spec_l11AnyFields.l0 k x (j : Int) c p) (l, p) ∧ l.length ≤ 16 := by
  induction d with
  | zero =>
    intro x j hx _ _ hF
    exact ⟨x, Ev.step (g := fun k => spec_l11AnyFields.l0 k _ _ _ _) (fun k => by rw [spec_l11AnyFields.l0]) (neg (by omega) (ret _)), by omega⟩
  | succ d ih =>
    intro x j hx h10 hj hF
    have hnew := insF_new ⟨fT j, ⟨#[]⟩⟩ x (fun y hy => hF.2 y hy j (Nat.le_refl _) (by omega))
    obtain ⟨s1, s2, s3⟩ := (fieldsB_iff x).1 hF.1
    have hz := fT_size j
    have hok : fieldsB (insF ⟨fT j, ⟨#[]⟩⟩ x) = true := (fieldsB_iff _).2 ⟨fun y hy => by
      rcases mem_insF hy with rfl | hy
      · exact ⟨by show (fT j).size ≤ 40; omega, by show (0 : Nat) ≤ 40; omega⟩
      · exact s1 y hy, insF_up s2, by omega⟩
    have e : (fieldsPutM x ⟨fT j, ⟨#[]⟩⟩).1 = insF ⟨fT j, ⟨#[]⟩⟩ x := by
      unfold fieldsPutM
      rw [if_pos hF.1, if_pos hok]
    have hP := spec_FieldsPut_ev x (by unfold maxLen; omega) ⟨fT j, ⟨#[]⟩⟩
    obtain ⟨l, hl, hS⟩ := ih (insF ⟨fT j, ⟨#[]⟩⟩ x) (j + 1) (by omega) (by omega) (by omega) ⟨hok, fun y hy k hk hk' => by
      rcases mem_insF hy with rfl | hy
      · exact fT_inj j k h10 (by omega) (by omega) hk' (by omega)
      · exact hF.2 y hy k (by omega) hk'⟩
    refine ⟨l, Ev.step (g := fun k => spec_l11AnyFields.l0 k _ _ _ _) (fun k => by rw [spec_l11AnyFields.l0]) (pos (by omega) ?_), hS⟩
    have hd := decS_size j
    refine Ev.bind (decS_ev j (by omega)) (pos (by omega) (Ev.bind hP ?_))
    rw [e, wrap_id (by omega) (by omega)]
    exact hl
theorem l11Fields_l0 (c : List Int) (hc : Code c) (n : Nat) : ∀ (x : List Pair) (p : Int), 0 ≤ p → p + 2 * n ≤ 10000 → x.length + n ≤ 6 → FreeF x 10 →
    ∃ l q, Ev (fun k => spec_l11Fields.l0 k x (n : Int) c p) (l, q) ∧ FreeF l 10 ∧ l.length ≤ 6 ∧ p ≤ q ∧ q ≤ p + 2 * n := by
  induction n with
  | zero =>
    intro x p h0 h1 hx hF
    exact ⟨x, p, Ev.step (g := fun k => spec_l11Fields.l0 k _ _ _ _) (fun k => by rw [spec_l11Fields.l0]) (neg (by omega) (ret _)), hF, by omega, by omega, by omega⟩
  | succ n ih =>
    intro x p h0 h1 hx hF
    obtain ⟨s, hs, hz, hn⟩ := l11TextF_ev c hc p h0 (by omega)
    obtain ⟨t, ht, hz2, _⟩ := l11TextF_ev c hc (p + 1) (by omega) (by omega)
    have hlen := fieldsPutM_len x ⟨s, t⟩
    obtain ⟨l, q, hl, hS, h6, q0, q1⟩ := ih (fieldsPutM x ⟨s, t⟩).1 (p + 1 + 1) (by omega) (by omega) (by omega) ⟨fieldsPutM_ok _ hF.1, fun y hy k hk hk' => by
      rcases fieldsPutM_mem hy with rfl | hy
      · exact hn k hk'
      · exact hF.2 y hy k hk hk'⟩
    refine ⟨l, q, Ev.step (g := fun k => spec_l11Fields.l0 k _ _ _ _) (fun k => by rw [spec_l11Fields.l0]) (pos (by omega) ?_), hS, h6, by omega, by omega⟩
    refine Ev.bind hs (Ev.bind ht ?_)
    refine Ev.bind (spec_FieldsPut_ev x (by unfold maxLen; omega) ⟨s, t⟩) ?_
    rw [show wrap64 (((n + 1 : Nat) : Int) - 1) = (n : Int) by rw [wrap_id (by omega) (by omega)]; omega]
    exact hl
theorem l11AnyFields_ev (c : List Int) (hc : Code c) (p : Int) (h0 : 0 ≤ p) (h1 : p ≤ 1000) : ∃ l q, Ev (fun k => spec_l11AnyFields.f k c p) (l, q) ∧ l.length ≤ 16 ∧ p ≤ q ∧ q ≤ p + 30 := by
  obtain ⟨v, hv, v0, v1⟩ := pick_ev c hc p 5 h0 (by omega) (by omega) (by omega)
  obtain ⟨n, rfl⟩ := Int.eq_ofNat_of_zero_le v0
  have hnil : fieldsB ([] : List Pair) = true := by decide
  obtain ⟨l, q, hl, hS, h6, q0, q1⟩ := l11Fields_l0 c hc n [] (p + 1) (by omega) (by omega) (by simp; omega) ⟨hnil, by simp⟩
  have hL : Ev (fun k => spec_l11Fields.f k c p) (l, q) := by
    unfold spec_l11Fields.f
    exact Ev.bind hv hl
  obtain ⟨u, hu, u0, u1⟩ := pick_ev c hc q 12 (by omega) (by omega) (by omega) (by omega)
  obtain ⟨s, hs, z⟩ := l11Text_ev c hc (q + 1) (by omega) (by omega)
  unfold spec_l11AnyFields.f
  by_cases e : u = 0
  · refine ⟨l ++ [⟨s, ⟨#[]⟩⟩], q + 1 + 1, Ev.bind hL (Ev.bind hu (pos e ?_)), by simp; omega, by omega, by omega⟩
    exact Ev.bind hs (pos (by dsimp only; omega) (ret _))
  · by_cases e1 : u = 1
    · obtain ⟨m, hm, h16⟩ := l11AnyFields_l0 c (q + 1) (16 - l.length) l 10 (by omega) (by omega) (by omega) hS
      exact ⟨m, q + 1, Ev.bind hL (Ev.bind hu (neg e (pos e1 hm))), h16, by omega, by omega⟩
    · exact ⟨l, q + 1, Ev.bind hL (Ev.bind hu (neg e (neg e1 (ret _)))), by omega, by omega, by omega⟩
theorem DrawFieldsDrop_ev (l : List Int) (hl : l.length ≤ maxLen) (hb : ∀ x ∈ l, (Lit.int .u8 x).wf = true) : ∃ m t, Ev (fun k => spec_DrawFieldsDrop.f k l) (m, t) ∧ m.length ≤ 16 := by
  obtain ⟨c, hc, hC⟩ := l1Open_ev l hl hb
  obtain ⟨m, p, hm, h16, a1, a2⟩ := l11AnyFields_ev c hC 0 (by omega) (by omega)
  obtain ⟨s, hs, z⟩ := l11Text_ev c hC p (by omega) (by omega)
  refine ⟨m, s, ?_, h16⟩
  unfold spec_DrawFieldsDrop.f
  exact Ev.bind hc (Ev.bind hm (Ev.bind hs (ret _)))
theorem DrawFieldsPut_ev (l : List Int) (hl : l.length ≤ maxLen) (hb : ∀ x ∈ l, (Lit.int .u8 x).wf = true) : ∃ m a b, Ev (fun k => spec_DrawFieldsPut.f k l) (m, a, b) ∧ m.length ≤ 16 := by
  obtain ⟨c, hc, hC⟩ := l1Open_ev l hl hb
  obtain ⟨m, p, hm, h16, a1, a2⟩ := l11AnyFields_ev c hC 0 (by omega) (by omega)
  obtain ⟨s1, hs1, z1⟩ := l11Text_ev c hC p (by omega) (by omega)
  obtain ⟨s2, hs2, z2⟩ := l11Text_ev c hC (p + 1) (by omega) (by omega)
  obtain ⟨y, hy, hz⟩ := l1Many_ev (⟨#[121]⟩ : ByteArray) 41 (by omega) rfl
  obtain ⟨a, ha, _⟩ := of_ev c hC (p + 1 + 1) ([s1, s2, y] : List ByteArray) (by omega) (by omega) (by simp) (by simp)
  obtain ⟨b, hb', z3⟩ := l11Text_ev c hC (p + 1 + 1 + 1) (by omega) (by omega)
  refine ⟨m, a, b, ?_, h16⟩
  unfold spec_DrawFieldsPut.f
  exact Ev.bind hc (Ev.bind hm (Ev.bind hs1 (Ev.bind hs2 (Ev.bind hy (Ev.bind ha (Ev.bind hb' (ret _)))))))
theorem qxFields_l0 (l : List Pair) (hl : l.length ≤ maxLen) (d : Nat) : ∀ (i : Nat), i + d = l.length → Ev (fun k => laws_qxFields.l0 k l l (i : Int)) true := by
  unfold maxLen at hl
  induction d with
  | zero =>
    intro i hi
    exact Ev.step (g := fun k => laws_qxFields.l0 k _ _ _) (fun k => by rw [laws_qxFields.l0]) (neg (by omega) (ret _))
  | succ d ih =>
    intro i hi
    refine Ev.step (g := fun k => laws_qxFields.l0 k _ _ _) (fun k => by rw [laws_qxFields.l0]) (pos (by omega) (pos (by omega) (pos (by omega) (neg (by simp) ?_))))
    rw [wrap_id (by omega) (by omega)]
    exact ih (i + 1) (by omega)
theorem qxFields_same (l : List Pair) (hl : l.length ≤ maxLen) : Ev (fun k => laws_qxFields.f k l l) true := by
  unfold laws_qxFields.f
  exact pos rfl (qxFields_l0 l hl l.length 0 (by omega))
end Go.Proofs.Ytegelpeegbngiaa.Q
/- Plain law: of drawn fields and one, FieldsPut of the program is that of the reference; the field has its text, and without it all is as it was without it. -/
namespace Go.Proofs.Ytegelpeegbngiaa.Q
open Go.RowKit Go.Proofs.YtegelpeegbngiaaW.PrintWords Go.Proofs.YtegelpeegbngiaaW.PrintLast Go.Proofs.Ytegelpeegbngiaa.P

theorem at_insF (p : Pair) (l : List Pair) : ∀ (i : Nat), atP p.f0 (insF p l) i = ((atP p.f0 l i).1, true) := by
  induction l with
  | nil => intro i; simp [insF, atP, lt_irrefl]
  | cons x r ih =>
    intro i
    rw [insF]
    by_cases h : lt x.f0 p.f0 = true
    · rw [if_pos h, atP, if_pos h, ih (i + 1), atP, if_pos h]
    · have e1 : atP p.f0 (x :: r) i = (i, x.f0.toList == p.f0.toList) := by rw [atP, if_neg h]
      have e2 : ∀ q : List Pair, atP p.f0 (p :: q) i = (i, true) := fun q => by rw [atP, lt_irrefl]; simp
      rw [if_neg h]
      by_cases e : (x.f0.toList == p.f0.toList) = true
      · rw [if_pos e, e2 r, e1]
      · rw [if_neg e, e2 (x :: r), e1]
theorem erase_insF (p : Pair) (l : List Pair) : (insF p l).eraseIdx (atP p.f0 l 0).1 = if (atP p.f0 l 0).2 = true then l.eraseIdx (atP p.f0 l 0).1 else l := by
  have h := insF_at p l 0
  obtain ⟨_, h2, _⟩ := atP_bd p.f0 l 0
  simp only [Nat.sub_zero] at h
  rw [h]
  split
  · rw [List.eraseIdx_set_eq]
  · rw [List.eraseIdx_append_of_length_le (by rw [List.length_take]; omega), List.length_take, Nat.min_eq_left (by omega), Nat.sub_self, List.eraseIdx_cons_zero, List.take_append_drop]
theorem get_insF (p : Pair) (l : List Pair) : (insF p l)[(atP p.f0 l 0).1]? = some p := by
  have h := insF_at p l 0
  obtain ⟨_, h2, h3⟩ := atP_bd p.f0 l 0
  simp only [Nat.sub_zero] at h
  rw [h]
  split
  · rename_i q
    have := h3 q
    rw [List.getElem?_set_self (by omega)]
  · rw [List.getElem?_append_right (by rw [List.length_take]; omega), List.length_take, Nat.min_eq_left (by omega), Nat.sub_self]
    rfl
theorem FnFieldsPut_pure (l : List Int) (hl : l.length ≤ maxLen) (hb : ∀ x ∈ l, (Lit.int .u8 x).wf = true) : ∃ k, laws_FnFieldsPut.f k l = some true := by
  refine exists_of (r := true) ?_
  unfold laws_FnFieldsPut.f
  refine both (fun _ => ret _) (fun _ => ?_)
  obtain ⟨m, a, b, hD, h16⟩ := DrawFieldsPut_ev l hl hb
  have hm : m.length ≤ maxLen := by unfold maxLen; omega
  have hI := impl_FieldsPut_ev m hm ⟨a, b⟩
  have hW := spec_FieldsPut_ev m hm ⟨a, b⟩
  have hlen := fieldsPutM_len m ⟨a, b⟩
  have hX := qxFields_same (fieldsPutM m ⟨a, b⟩).1 (by unfold maxLen; omega)
  have hK := impl_FieldsOk_ev m hm
  have hK2 := spec_FieldsOk_ev m hm
  refine Ev.bind hD (Ev.bind hI (Ev.bind hW (neg (by simp) (neg (by simp) (Ev.bind hX (pos rfl (Ev.bind hK (Ev.bind hK2 (neg (by simp) ?_)))))))))
  refine Ev.step (g := fun k => laws_FnFieldsPut.j0 k _ _ _ _ _ _ _ _ _ _) (fun k => by rw [laws_FnFieldsPut.j0]) ?_
  dsimp only
  cases hb2 : (fieldsPutM m ⟨a, b⟩).2.2 with
  | false => exact pos rfl (pos (by simp) (pos (by simp) (Ev.bind hX (pos rfl (Ev.bind hK (Ev.bind hK2 (ret' (by simp))))))))
  | true =>
    have hk : (fieldsB m = true ∧ fieldsB (insF ⟨a, b⟩ m) = true) ∧ fieldsPutM m ⟨a, b⟩ = (insF ⟨a, b⟩ m, !(atP a m 0).2, true) := by
      unfold fieldsPutM at hb2 ⊢
      split at hb2
      · rename_i h1
        split at hb2
        · rename_i h2
          rw [if_pos h1, if_pos h2]
          exact ⟨⟨h1, h2⟩, rfl⟩
        · cases hb2
      · cases hb2
    obtain ⟨⟨k1, k2⟩, k3⟩ := hk
    rw [k3]
    have hil := insF_len ⟨a, b⟩ m
    have hi : (insF ⟨a, b⟩ m).length ≤ maxLen := by unfold maxLen; omega
    have hat := at_insF ⟨a, b⟩ m 0
    have hget := get_insF ⟨a, b⟩ m
    have her := erase_insF ⟨a, b⟩ m
    dsimp only at hat hget her
    have g1 := impl_FieldsGet_ev (insF ⟨a, b⟩ m) hi a
    have g2 := impl_FieldsGet_ev m hm a
    have d1 := impl_FieldsDrop_ev (insF ⟨a, b⟩ m) hi a
    have d2 := impl_FieldsDrop_ev m hm a
    have o1 := impl_FieldsOk_ev (insF ⟨a, b⟩ m) hi
    have e1 : fieldsGetM (insF ⟨a, b⟩ m) a = (b, true) := by
      unfold fieldsGetM
      rw [hat, if_pos ⟨k2, rfl⟩]
      obtain ⟨hlt, hq⟩ := List.getElem?_eq_some_iff.1 hget
      rw [rdPair_lt _ _ hlt, hq]
    have e2 : (fieldsGetM m a).2 = (atP a m 0).2 := by
      unfold fieldsGetM
      cases hA : (atP a m 0).2 with
      | true => rw [if_pos ⟨k1, rfl⟩]
      | false => rw [if_neg (by simp)]
    have e3 : (fieldsDropM (insF ⟨a, b⟩ m) a).1 = (fieldsDropM m a).1 := by
      unfold fieldsDropM
      rw [hat, if_pos k2, if_pos rfl, if_pos k1]
      dsimp only
      rw [her]
      split <;> rfl
    have hd2 := fieldsDropM_len m a
    have hX2 := qxFields_same (fieldsDropM m a).1 (by unfold maxLen; omega)
    rw [e1] at g1
    rw [k2] at o1
    refine neg (by decide) (Ev.bind g1 (Ev.bind g2 (Ev.bind d1 (Ev.bind d2 (Ev.bind o1 (pos rfl (pos rfl (pos rfl (pos ?_ ?_)))))))))
    · rw [e2]; simp
    · rw [e3]
      exact Ev.bind hX2 (ret _)
end Go.Proofs.Ytegelpeegbngiaa.Q
