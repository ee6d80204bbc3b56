import Derived.Test.YtcpnekdhdmncfaaPrFnExactScoresPut5
import Derived.ProofKit
import Derived.SizedLaws
/- Texts of this claim, one behind the other: words on worlds and rows, printed functions and their walks, plain lemmas. -/
namespace Go.Proofs.Ytcpnekdhdmncfaa.P
open Go.RowKit Go.Proofs.YtcpnekdhdmncfaaW.PrintWords Go.Proofs.YtcpnekdhdmncfaaW.PrintLast Go.Proofs.YtcpnekdhdmncfaaW.PrintMore
attribute [local go_sem] max2_int min2_int max_two min_two max_three min_three max_four min_four   -- for this text's walks alone
set_option linter.unusedVariables false
set_option linter.unusedSimpArgs false
def laws_FnExactScoresPut.T8 : Bool × List (List Nat × List Nat) := (true, [([], []), ([0], [0]), ([], []), ([2, 1], [2]), ([1, 3, 3], [1, 3]), ([4], [4]), ([5], [5]), ([5], [5]), ([5], [5]), ([6, 4, 0, 1, 2, 3, 4, 5, 6], [6]), ([7, 9, 0, 1, 2, 3, 4, 5, 6, 7, 9], [7]), ([8, 10, 0, 1, 2, 3, 4, 5, 6, 7, 8, 9, 10], [8])])
def laws_FnExactScoresPut.B8 : List Nat := [0, 1, 0, 7, 15, 31, 63, 63, 63, 127, 767, 2047]
theorem laws_FnExactScoresPut.tab8 : rtab .any (opsOf Try.f12 8) = laws_FnExactScoresPut.T8 := by kernel_rfl
theorem laws_FnExactScoresPut.bits8 : waitsOk laws_FnExactScoresPut.T8.2 laws_FnExactScoresPut.B8 = true := by kernel_rfl
def laws_FnExactScoresPut.T27 : Bool × List (List Nat × List Nat) := (true, [([], []), ([0], [0]), ([], []), ([2, 1], [2]), ([1, 3, 3], [1, 3]), ([4], [4]), ([5], [5]), ([5], [5]), ([5], [5]), ([6, 4, 0, 1, 2, 3, 4, 5, 6], [6]), ([7, 9, 0, 1, 2, 3, 4, 5, 6, 7, 9], [7]), ([8, 10, 0, 1, 2, 3, 4, 5, 6, 7, 8, 9, 10], [8])])
def laws_FnExactScoresPut.B27 : List Nat := [0, 1, 0, 7, 15, 31, 63, 63, 63, 127, 767, 2047]
theorem laws_FnExactScoresPut.tab27 : rtab .any (opsOf Try.f12 27) = laws_FnExactScoresPut.T27 := by kernel_rfl
theorem laws_FnExactScoresPut.bits27 : waitsOk laws_FnExactScoresPut.T27.2 laws_FnExactScoresPut.B27 = true := by kernel_rfl
set_option maxHeartbeats 8000000 in
set_option maxRecDepth 100000 in
theorem laws_FnExactScoresPut.calls_t (k : Nat) (A0 : Option Addr) (c0 : Nat) (l0 : List (S46)) (a1_0 : ByteArray) (a1_1 : Int) (r : Bool) (w : World) (hr0 : Kd.C k46 w A0 l0.length l0) (hc0 : l0.length ≤ c0) (h : laws_FnExactScoresPut.f k l0 a1_0 a1_1 = some r) (hr_ : r = true) :
  Calls Try.prog 12 #[.slice A0 l0.length c0, .agg #[.string a1_0, .int .i64 a1_1]] w fun e w' => e = .returned (.bool r) ∧ Below w.heap.size w w' := by
 have hu46 := Try.underlying46
 have HR0 := Aside0.mk hr0
 have HC0 := Aside0.mk hc0
 clear hr0 hc0
 have HB := Aside0.mk (Below.refl w.heap.size w)
 have H : ((laws_szScoreS.f k l0 1048576).bind fun t683 => (if t683 < 0 then (some true) else ((laws_szScore.f a1_0 a1_1 t683).bind fun t684 => (if t684 < 0 then (some true) else ((laws_toScoreS.f k l0).bind fun t685 => ((laws_toScore.f a1_0 a1_1).bind fun bt688 => ((spec_ScoresPut.f k t685 bt688.1 bt688.2).bind fun bt690 => ((laws_toScoreS.f k l0).bind fun t695 => ((laws_toScore.f a1_0 a1_1).bind fun bt698 => ((impl_ScoresPut.f k t695 bt698.1 bt698.2).bind fun bt700 => ((laws_eqScoreS.f k bt700.1 bt690.1).bind fun t705 => (if t705 = true then (if (bt700.2.1 != bt690.2.1) = true then (laws_FnExactScoresPut.j0 k l0 bt690.1 bt690.2.1 bt690.2.2 t695 bt700.1 bt700.2.1 bt700.2.2 true a1_0 a1_1) else (laws_FnExactScoresPut.j0 k l0 bt690.1 bt690.2.1 bt690.2.2 t695 bt700.1 bt700.2.1 bt700.2.2 (bt700.2.2 != bt690.2.2) a1_0 a1_1)) else (laws_FnExactScoresPut.j0 k l0 bt690.1 bt690.2.1 bt690.2.2 t695 bt700.1 bt700.2.1 bt700.2.2 true a1_0 a1_1))))))))))))) = some r := h
 clear h
 replace H := Option.bind_eq_some_iff.mp H
 obtain ⟨t683, A30, H⟩ := H
 replace H : (if t683 < 0 then (some true) else ((laws_szScore.f a1_0 a1_1 t683).bind fun t684 => (if t684 < 0 then (some true) else ((laws_toScoreS.f k l0).bind fun t685 => ((laws_toScore.f a1_0 a1_1).bind fun bt688 => ((spec_ScoresPut.f k t685 bt688.1 bt688.2).bind fun bt690 => ((laws_toScoreS.f k l0).bind fun t695 => ((laws_toScore.f a1_0 a1_1).bind fun bt698 => ((impl_ScoresPut.f k t695 bt698.1 bt698.2).bind fun bt700 => ((laws_eqScoreS.f k bt700.1 bt690.1).bind fun t705 => (if t705 = true then (if (bt700.2.1 != bt690.2.1) = true then (laws_FnExactScoresPut.j0 k l0 bt690.1 bt690.2.1 bt690.2.2 t695 bt700.1 bt700.2.1 bt700.2.2 true a1_0 a1_1) else (laws_FnExactScoresPut.j0 k l0 bt690.1 bt690.2.1 bt690.2.2 t695 bt700.1 bt700.2.1 bt700.2.2 (bt700.2.2 != bt690.2.2) a1_0 a1_1)) else (laws_FnExactScoresPut.j0 k l0 bt690.1 bt690.2.1 bt690.2.2 t695 bt700.1 bt700.2.1 bt700.2.2 true a1_0 a1_1)))))))))))) = some r := H
 have A3 := Aside0.mk A30
 clear A30
 by_cases c4 : t683 < 0
 ·rw [if_pos c4] at H
  have c4b0 : decide (t683 < 0) = true := decide_eq_true c4
  clear c4
  obtain rfl := Option.some.inj H
  go_enter Try.func12, Try.ntmps12
  go_wp2_with (first | ((with_reducible refine gate_dst (N := 3) rfl ?_); refine box_event ?hg (N := 3) ?hd (cs := #[.string a1_0, .int .i64 a1_1]) (t := 46) ?hr ?_; (case hd => rfl); (case hg => rfl); (case hr => first | (go_simp; done) | (go_simp; rfl)); intro gb682 hg w5 hbox hb; have n0_ := Aside0.mk (below_step (by repeat (first | (with_reducible first | exact HB.out | apply below_alloc | apply pw_below_drewN | apply below_drew1) | exact HB.out | exact Below.refl _ _)) hb); have n1_ := Aside0.mk (hbox); have n2_ := Aside0.mk ((by rw [hg]; exact (below_size (by repeat (first | (with_reducible first | exact HB.out | apply below_alloc | apply pw_below_drewN | apply below_drew1) | exact HB.out | exact Below.refl _ _))) : w.heap.size ≤ gb682)); have n3_ := Aside0.mk ((by rw [hg]; exact (below_size (by repeat (first | (with_reducible first | exact HB.out | apply below_alloc | apply pw_below_drewN | apply below_drew1) | exact HB.out | exact Below.refl _ _))) : w.heap.size ≤ gb682)); clear HB; have HB := n0_; have BK682 := n1_; have GW682 := n2_; have GE682 := n3_; clear n0_ n1_ n2_ n3_; clear hb hbox hg) | ((with_reducible refine gate_callee (f := 14) rfl ?_); refine goesL_ (some 21) rfl rfl Try.func14 (by kernel_rfl) rfl #[.slice A0 l0.length c0, .int .i64 1048576] rfl (by (try simp only [List.map_toArray, List.map_cons, List.map_nil]); first | done | rfl | (simp only [List.length_drop, List.length_take]; rfl)) ?_; (with_reducible refine (laws_szScoreS.calls k _ _ l0 1048576 t683 _ ?side1 ?side2 A3.out).mono ?_); (case side1 => repeat (first | exact (Kd.C_below HR0.out HB.out) | (with_reducible refine Kd.C_alloc ?_ _) | (with_reducible refine Kd.C_drewN ?_ _) | (with_reducible refine Kd.C_drew ?_))); (case side2 => exact HC0.out); rintro e w6 ⟨rfl, hb⟩; refine ⟨_, rfl, ?_⟩; have n0_ := Aside0.mk (blk_below (g := gb682) (o := .cells #[.string a1_0, .int .i64 a1_1] 46 (0, 0)) (by (with_reducible repeat (first | refine blk_drewN ?_ _ | refine blk_drew ?_ | refine blk_alloc ?_ _)); exact BK682.out) hb); have n1_ := Aside0.mk (below_step (by repeat (first | (with_reducible first | exact HB.out | apply below_alloc | apply pw_below_drewN | apply below_drew1 | refine below_set ?_ GE682.out) | exact HB.out)) hb); clear BK682; clear HB; have BK682 := n0_; have HB := n1_; clear n0_ n1_; (try clear hb); (try clear hb2); (try clear hk); (try clear hi)))
  go_ret
  exact ⟨by first | rfl | (simp [errW_none, errW_some] <;> rfl) | (simp [*, errW_none, errW_some] <;> rfl), by repeat (first | (with_reducible first | exact HB.out | apply below_alloc | apply pw_below_drewN | apply below_drew1 | refine below_set ?_ GE682.out) | exact HB.out)⟩
 ·rw [if_neg c4] at H
  have c4b0 : decide (t683 < 0) = false := decide_eq_false c4
  clear c4
  replace H := Option.bind_eq_some_iff.mp H
  obtain ⟨t684, A70, H⟩ := H
  replace H : (if t684 < 0 then (some true) else ((laws_toScoreS.f k l0).bind fun t685 => ((laws_toScore.f a1_0 a1_1).bind fun bt688 => ((spec_ScoresPut.f k t685 bt688.1 bt688.2).bind fun bt690 => ((laws_toScoreS.f k l0).bind fun t695 => ((laws_toScore.f a1_0 a1_1).bind fun bt698 => ((impl_ScoresPut.f k t695 bt698.1 bt698.2).bind fun bt700 => ((laws_eqScoreS.f k bt700.1 bt690.1).bind fun t705 => (if t705 = true then (if (bt700.2.1 != bt690.2.1) = true then (laws_FnExactScoresPut.j0 k l0 bt690.1 bt690.2.1 bt690.2.2 t695 bt700.1 bt700.2.1 bt700.2.2 true a1_0 a1_1) else (laws_FnExactScoresPut.j0 k l0 bt690.1 bt690.2.1 bt690.2.2 t695 bt700.1 bt700.2.1 bt700.2.2 (bt700.2.2 != bt690.2.2) a1_0 a1_1)) else (laws_FnExactScoresPut.j0 k l0 bt690.1 bt690.2.1 bt690.2.2 t695 bt700.1 bt700.2.1 bt700.2.2 true a1_0 a1_1)))))))))) = some r := H
  have A7 := Aside0.mk A70
  clear A70
  by_cases c8 : t684 < 0
  ·rw [if_pos c8] at H
   have c8b0 : decide (t684 < 0) = true := decide_eq_true c8
   clear c8
   obtain rfl := Option.some.inj H
   go_enter Try.func12, Try.ntmps12
   go_wp2_with (first | ((with_reducible refine gate_dst (N := 3) rfl ?_); refine box_event ?hg (N := 3) ?hd (cs := #[.string a1_0, .int .i64 a1_1]) (t := 46) ?hr ?_; (case hd => rfl); (case hg => rfl); (case hr => first | (go_simp; done) | (go_simp; rfl)); intro gb682 hg w9 hbox hb; have n0_ := Aside0.mk (below_step (by repeat (first | (with_reducible first | exact HB.out | apply below_alloc | apply pw_below_drewN | apply below_drew1) | exact HB.out | exact Below.refl _ _)) hb); have n1_ := Aside0.mk (hbox); have n2_ := Aside0.mk ((by rw [hg]; exact (below_size (by repeat (first | (with_reducible first | exact HB.out | apply below_alloc | apply pw_below_drewN | apply below_drew1) | exact HB.out | exact Below.refl _ _))) : w.heap.size ≤ gb682)); have n3_ := Aside0.mk ((by rw [hg]; exact (below_size (by repeat (first | (with_reducible first | exact HB.out | apply below_alloc | apply pw_below_drewN | apply below_drew1) | exact HB.out | exact Below.refl _ _))) : w.heap.size ≤ gb682)); clear HB; have HB := n0_; have BK682 := n1_; have GW682 := n2_; have GE682 := n3_; clear n0_ n1_ n2_ n3_; clear hb hbox hg) | ((with_reducible refine gate_callee (f := 14) rfl ?_); refine goesL_ (some 21) rfl rfl Try.func14 (by kernel_rfl) rfl #[.slice A0 l0.length c0, .int .i64 1048576] rfl (by (try simp only [List.map_toArray, List.map_cons, List.map_nil]); first | done | rfl | (simp only [List.length_drop, List.length_take]; rfl)) ?_; (with_reducible refine (laws_szScoreS.calls k _ _ l0 1048576 t683 _ ?side1 ?side2 A3.out).mono ?_); (case side1 => repeat (first | exact (Kd.C_below HR0.out HB.out) | (with_reducible refine Kd.C_alloc ?_ _) | (with_reducible refine Kd.C_drewN ?_ _) | (with_reducible refine Kd.C_drew ?_))); (case side2 => exact HC0.out); rintro e w10 ⟨rfl, hb⟩; refine ⟨_, rfl, ?_⟩; have n0_ := Aside0.mk (blk_below (g := gb682) (o := .cells #[.string a1_0, .int .i64 a1_1] 46 (0, 0)) (by (with_reducible repeat (first | refine blk_drewN ?_ _ | refine blk_drew ?_ | refine blk_alloc ?_ _)); exact BK682.out) hb); have n1_ := Aside0.mk (below_step (by repeat (first | (with_reducible first | exact HB.out | apply below_alloc | apply pw_below_drewN | apply below_drew1 | refine below_set ?_ GE682.out) | exact HB.out)) hb); clear BK682; clear HB; have BK682 := n0_; have HB := n1_; clear n0_ n1_; (try clear hb); (try clear hb2); (try clear hk); (try clear hi); have hcz11_0 : w10.cell? ⟨gb682, 0, none⟩ = some (.string a1_0) := (blk_cell BK682.out 0).trans rfl; have hcz11_1 : w10.cell? ⟨gb682, 1, none⟩ = some (.int .i64 a1_1) := (blk_cell BK682.out 1).trans rfl; have hfz11_0 := blk_frozen BK682.out 0; have hfz11_1 := blk_frozen BK682.out 1) | ((with_reducible refine gate_callee (f := 35) rfl ?_); refine goesL_ (some 26) rfl rfl Try.func35 (by kernel_rfl) rfl #[.agg #[.string a1_0, .int .i64 a1_1], .int .i64 t683] rfl (by (try simp only [List.map_toArray, List.map_cons, List.map_nil]); first | done | rfl | (simp only [List.length_drop, List.length_take]; rfl)) ?_; (with_reducible refine (laws_szScore.calls a1_0 a1_1 t683 t684 _ A7.out).mono ?_); rintro e w12 ⟨rfl, hb⟩; refine ⟨_, rfl, ?_⟩; have n0_ := Aside0.mk (blk_below (g := gb682) (o := .cells #[.string a1_0, .int .i64 a1_1] 46 (0, 0)) (by (with_reducible repeat (first | refine blk_drewN ?_ _ | refine blk_drew ?_ | refine blk_alloc ?_ _)); exact BK682.out) hb); have n1_ := Aside0.mk (below_step (by repeat (first | (with_reducible first | exact HB.out | apply below_alloc | apply pw_below_drewN | apply below_drew1 | refine below_set ?_ GE682.out) | exact HB.out)) hb); clear BK682; clear HB; have BK682 := n0_; have HB := n1_; clear n0_ n1_; (try clear hb); (try clear hb2); (try clear hk); (try clear hi)))
   go_ret
   exact ⟨by first | rfl | (simp [errW_none, errW_some] <;> rfl) | (simp [*, errW_none, errW_some] <;> rfl), by repeat (first | (with_reducible first | exact HB.out | apply below_alloc | apply pw_below_drewN | apply below_drew1 | refine below_set ?_ GE682.out) | exact HB.out)⟩
  ·rw [if_neg c8] at H
   have c8b0 : decide (t684 < 0) = false := decide_eq_false c8
   clear c8
   replace H := Option.bind_eq_some_iff.mp H
   obtain ⟨t685, A130, H⟩ := H
   replace H : ((laws_toScore.f a1_0 a1_1).bind fun bt688 => ((spec_ScoresPut.f k t685 bt688.1 bt688.2).bind fun bt690 => ((laws_toScoreS.f k l0).bind fun t695 => ((laws_toScore.f a1_0 a1_1).bind fun bt698 => ((impl_ScoresPut.f k t695 bt698.1 bt698.2).bind fun bt700 => ((laws_eqScoreS.f k bt700.1 bt690.1).bind fun t705 => (if t705 = true then (if (bt700.2.1 != bt690.2.1) = true then (laws_FnExactScoresPut.j0 k l0 bt690.1 bt690.2.1 bt690.2.2 t695 bt700.1 bt700.2.1 bt700.2.2 true a1_0 a1_1) else (laws_FnExactScoresPut.j0 k l0 bt690.1 bt690.2.1 bt690.2.2 t695 bt700.1 bt700.2.1 bt700.2.2 (bt700.2.2 != bt690.2.2) a1_0 a1_1)) else (laws_FnExactScoresPut.j0 k l0 bt690.1 bt690.2.1 bt690.2.2 t695 bt700.1 bt700.2.1 bt700.2.2 true a1_0 a1_1)))))))) = some r := H
   have A13 := Aside0.mk A130
   clear A130
   replace H := Option.bind_eq_some_iff.mp H
   obtain ⟨⟨t688, t689⟩, A140, H⟩ := H
   replace H : ((spec_ScoresPut.f k t685 t688 t689).bind fun bt690 => ((laws_toScoreS.f k l0).bind fun t695 => ((laws_toScore.f a1_0 a1_1).bind fun bt698 => ((impl_ScoresPut.f k t695 bt698.1 bt698.2).bind fun bt700 => ((laws_eqScoreS.f k bt700.1 bt690.1).bind fun t705 => (if t705 = true then (if (bt700.2.1 != bt690.2.1) = true then (laws_FnExactScoresPut.j0 k l0 bt690.1 bt690.2.1 bt690.2.2 t695 bt700.1 bt700.2.1 bt700.2.2 true a1_0 a1_1) else (laws_FnExactScoresPut.j0 k l0 bt690.1 bt690.2.1 bt690.2.2 t695 bt700.1 bt700.2.1 bt700.2.2 (bt700.2.2 != bt690.2.2) a1_0 a1_1)) else (laws_FnExactScoresPut.j0 k l0 bt690.1 bt690.2.1 bt690.2.2 t695 bt700.1 bt700.2.1 bt700.2.2 true a1_0 a1_1))))))) = some r := H
   have A14 := Aside0.mk A140
   clear A140
   replace H := Option.bind_eq_some_iff.mp H
   obtain ⟨⟨t690, t693, t694⟩, A150, H⟩ := H
   replace H : ((laws_toScoreS.f k l0).bind fun t695 => ((laws_toScore.f a1_0 a1_1).bind fun bt698 => ((impl_ScoresPut.f k t695 bt698.1 bt698.2).bind fun bt700 => ((laws_eqScoreS.f k bt700.1 t690).bind fun t705 => (if t705 = true then (if (bt700.2.1 != t693) = true then (laws_FnExactScoresPut.j0 k l0 t690 t693 t694 t695 bt700.1 bt700.2.1 bt700.2.2 true a1_0 a1_1) else (laws_FnExactScoresPut.j0 k l0 t690 t693 t694 t695 bt700.1 bt700.2.1 bt700.2.2 (bt700.2.2 != t694) a1_0 a1_1)) else (laws_FnExactScoresPut.j0 k l0 t690 t693 t694 t695 bt700.1 bt700.2.1 bt700.2.2 true a1_0 a1_1)))))) = some r := H
   have A15 := Aside0.mk A150
   clear A150
   replace H := Option.bind_eq_some_iff.mp H
   obtain ⟨t695, A160, H⟩ := H
   replace H : ((laws_toScore.f a1_0 a1_1).bind fun bt698 => ((impl_ScoresPut.f k t695 bt698.1 bt698.2).bind fun bt700 => ((laws_eqScoreS.f k bt700.1 t690).bind fun t705 => (if t705 = true then (if (bt700.2.1 != t693) = true then (laws_FnExactScoresPut.j0 k l0 t690 t693 t694 t695 bt700.1 bt700.2.1 bt700.2.2 true a1_0 a1_1) else (laws_FnExactScoresPut.j0 k l0 t690 t693 t694 t695 bt700.1 bt700.2.1 bt700.2.2 (bt700.2.2 != t694) a1_0 a1_1)) else (laws_FnExactScoresPut.j0 k l0 t690 t693 t694 t695 bt700.1 bt700.2.1 bt700.2.2 true a1_0 a1_1))))) = some r := H
   have A16 := Aside0.mk A160
   clear A160
   replace H := Option.bind_eq_some_iff.mp H
   obtain ⟨⟨t698, t699⟩, A170, H⟩ := H
   replace H : ((impl_ScoresPut.f k t695 t698 t699).bind fun bt700 => ((laws_eqScoreS.f k bt700.1 t690).bind fun t705 => (if t705 = true then (if (bt700.2.1 != t693) = true then (laws_FnExactScoresPut.j0 k l0 t690 t693 t694 t695 bt700.1 bt700.2.1 bt700.2.2 true a1_0 a1_1) else (laws_FnExactScoresPut.j0 k l0 t690 t693 t694 t695 bt700.1 bt700.2.1 bt700.2.2 (bt700.2.2 != t694) a1_0 a1_1)) else (laws_FnExactScoresPut.j0 k l0 t690 t693 t694 t695 bt700.1 bt700.2.1 bt700.2.2 true a1_0 a1_1)))) = some r := H
   have A17 := Aside0.mk A170
   clear A170
   replace H := Option.bind_eq_some_iff.mp H
   obtain ⟨⟨t700, t703, t704⟩, A180, H⟩ := H
   replace H : ((laws_eqScoreS.f k t700 t690).bind fun t705 => (if t705 = true then (if (t703 != t693) = true then (laws_FnExactScoresPut.j0 k l0 t690 t693 t694 t695 t700 t703 t704 true a1_0 a1_1) else (laws_FnExactScoresPut.j0 k l0 t690 t693 t694 t695 t700 t703 t704 (t704 != t694) a1_0 a1_1)) else (laws_FnExactScoresPut.j0 k l0 t690 t693 t694 t695 t700 t703 t704 true a1_0 a1_1))) = some r := H
   have A18 := Aside0.mk A180
   clear A180
   have HC19 := Aside0.mk H
   clear H
   go_enter Try.func12, Try.ntmps12
   try go_wp2_with (first | ((with_reducible refine gate_dst (N := 3) rfl ?_); refine box_event ?hg (N := 3) ?hd (cs := #[.string a1_0, .int .i64 a1_1]) (t := 46) ?hr ?_; (case hd => rfl); (case hg => rfl); (case hr => first | (go_simp; done) | (go_simp; rfl)); intro gb682 hg w20 hbox hb; have n0_ := Aside0.mk (below_step (by repeat (first | (with_reducible first | exact HB.out | apply below_alloc | apply pw_below_drewN | apply below_drew1) | exact HB.out | exact Below.refl _ _)) hb); have n1_ := Aside0.mk (hbox); have n2_ := Aside0.mk ((by rw [hg]; exact (below_size (by repeat (first | (with_reducible first | exact HB.out | apply below_alloc | apply pw_below_drewN | apply below_drew1) | exact HB.out | exact Below.refl _ _))) : w.heap.size ≤ gb682)); have n3_ := Aside0.mk ((by rw [hg]; exact (below_size (by repeat (first | (with_reducible first | exact HB.out | apply below_alloc | apply pw_below_drewN | apply below_drew1) | exact HB.out | exact Below.refl _ _))) : w.heap.size ≤ gb682)); clear HB; have HB := n0_; have BK682 := n1_; have GW682 := n2_; have GE682 := n3_; clear n0_ n1_ n2_ n3_; clear hb hbox hg) | ((with_reducible refine gate_callee (f := 14) rfl ?_); refine goesL_ (some 21) rfl rfl Try.func14 (by kernel_rfl) rfl #[.slice A0 l0.length c0, .int .i64 1048576] rfl (by (try simp only [List.map_toArray, List.map_cons, List.map_nil]); first | done | rfl | (simp only [List.length_drop, List.length_take]; rfl)) ?_; (with_reducible refine (laws_szScoreS.calls k _ _ l0 1048576 t683 _ ?side1 ?side2 A3.out).mono ?_); (case side1 => repeat (first | exact (Kd.C_below HR0.out HB.out) | (with_reducible refine Kd.C_alloc ?_ _) | (with_reducible refine Kd.C_drewN ?_ _) | (with_reducible refine Kd.C_drew ?_))); (case side2 => exact HC0.out); rintro e w21 ⟨rfl, hb⟩; refine ⟨_, rfl, ?_⟩; have n0_ := Aside0.mk (blk_below (g := gb682) (o := .cells #[.string a1_0, .int .i64 a1_1] 46 (0, 0)) (by (with_reducible repeat (first | refine blk_drewN ?_ _ | refine blk_drew ?_ | refine blk_alloc ?_ _)); exact BK682.out) hb); have n1_ := Aside0.mk (below_step (by repeat (first | (with_reducible first | exact HB.out | apply below_alloc | apply pw_below_drewN | apply below_drew1 | refine below_set ?_ GE682.out) | exact HB.out)) hb); clear BK682; clear HB; have BK682 := n0_; have HB := n1_; clear n0_ n1_; (try clear hb); (try clear hb2); (try clear hk); (try clear hi); have hcz22_0 : w21.cell? ⟨gb682, 0, none⟩ = some (.string a1_0) := (blk_cell BK682.out 0).trans rfl; have hcz22_1 : w21.cell? ⟨gb682, 1, none⟩ = some (.int .i64 a1_1) := (blk_cell BK682.out 1).trans rfl; have hfz22_0 := blk_frozen BK682.out 0; have hfz22_1 := blk_frozen BK682.out 1) | ((with_reducible refine gate_callee (f := 35) rfl ?_); refine goesL_ (some 26) rfl rfl Try.func35 (by kernel_rfl) rfl #[.agg #[.string a1_0, .int .i64 a1_1], .int .i64 t683] rfl (by (try simp only [List.map_toArray, List.map_cons, List.map_nil]); first | done | rfl | (simp only [List.length_drop, List.length_take]; rfl)) ?_; (with_reducible refine (laws_szScore.calls a1_0 a1_1 t683 t684 _ A7.out).mono ?_); rintro e w23 ⟨rfl, hb⟩; refine ⟨_, rfl, ?_⟩; have n0_ := Aside0.mk (blk_below (g := gb682) (o := .cells #[.string a1_0, .int .i64 a1_1] 46 (0, 0)) (by (with_reducible repeat (first | refine blk_drewN ?_ _ | refine blk_drew ?_ | refine blk_alloc ?_ _)); exact BK682.out) hb); have n1_ := Aside0.mk (below_step (by repeat (first | (with_reducible first | exact HB.out | apply below_alloc | apply pw_below_drewN | apply below_drew1 | refine below_set ?_ GE682.out) | exact HB.out)) hb); clear BK682; clear HB; have BK682 := n0_; have HB := n1_; clear n0_ n1_; (try clear hb); (try clear hb2); (try clear hk); (try clear hi)))
   have n0_ := Aside0.mk (blk_drew BK682.out)
   have n1_ := Aside0.mk (below_drew1 HB.out)
   clear BK682
   clear HB
   have BK682 := n0_
   have HB := n1_
   clear n0_ n1_
   refine start_ (n := 12) (S := fun w' => w'.cell? ⟨gb682, 0, none⟩ = some (.string a1_0) ∧ w'.cell? ⟨gb682, 1, none⟩ = some (.int .i64 a1_1)) (ds := []) #[false, false, false, false, false, false, false, false, false, false, false, false] (by kernel_rfl) rfl rfl ⟨(blk_cell BK682.out 0).trans rfl, (blk_cell BK682.out 1).trans rfl⟩ (fun hHeld => ?_); refine with_tabW laws_FnExactScoresPut.tab8 laws_FnExactScoresPut.bits8 (fun HT_ HW_ => ?_)
   generalize w23.drew = w24 at BK682 HB hHeld ⊢
   refine pure_ (i := 0) (N := some 30) (v := ?_) (a' := ?_) #[true, false, false, false, false, false, false, false, false, false, false, false] rfl rfl (any_of HT_.out (by kernel_rfl)) (fun _ _ _ h => h) (Or.inl ⟨by rfl, ?_⟩) ?_ ?_
   rotate_left
   ·intro w'
    go_simp
    with_reducible rfl
   rotate_left
   ·simp only [Act.put, List.setIfInBounds_toArray, List.set_cons_zero, List.set_cons_succ, i64_w, i32_w]
    rfl
   refine take_ (i := 2) (N := some 32) (v := ?_) (a' := ?_) #[true, false, true, false, false, false, false, false, false, false, false, false] rfl rfl (take_ofW HT_.out HW_.out (by kernel_rfl)) (fun _ _ _ h => h) (Or.inl ⟨by rfl, ?_⟩) hHeld ?_ ?_
   rotate_left
   ·rintro w' ⟨s0, s1⟩
    go_simp
    with_reducible rfl
   rotate_left
   ·simp only [Act.put, List.setIfInBounds_toArray, List.set_cons_zero, List.set_cons_succ, i64_w, i32_w]
    rfl
   refine one_ (i := 1) (N := some 31) #[true, true, true, false, false, false, false, false, false, false, false, false] rfl rfl (one_of HT_.out (by kernel_rfl)) (by decide) (fun K hK => ?_)
   refine goes_ Try.func16 (by kernel_rfl) rfl #[.slice A0 l0.length c0] (by rfl) rfl rfl (by (try simp only [List.map_toArray, List.map_cons, List.map_nil]); first | done | rfl | (simp only [List.length_drop, List.length_take]; rfl)) ?_
   with_reducible refine (laws_toScoreS.calls k _ _ l0 t685 _ ?side1 ?side2 A13.out).mono ?_
   (case side1 => repeat (first | exact (Kd.C_below HR0.out HB.out) | (with_reducible refine Kd.C_alloc ?_ _) | (with_reducible refine Kd.C_drewN ?_ _) | (with_reducible refine Kd.C_drew ?_)))
   (case side2 => exact HC0.out)
   rintro e w25 ⟨v686, rfl, ho0, hb⟩
   refine ⟨_, rfl, ?_⟩
   have n0_ := Aside0.mk (Kd.R_lower ho0 (below_size (by repeat (first | (with_reducible first | exact HB.out | apply below_alloc | apply pw_below_drewN | apply below_drew1 | refine below_set ?_ GE682.out) | exact HB.out))))
   have n1_ := Aside0.mk (blk_below (g := gb682) (o := .cells #[.string a1_0, .int .i64 a1_1] 46 (0, 0)) (by (with_reducible repeat (first | refine blk_drewN ?_ _ | refine blk_drew ?_ | refine blk_alloc ?_ _)); exact BK682.out) hb)
   have n2_ := Aside0.mk (below_step (by repeat (first | (with_reducible first | exact HB.out | apply below_alloc | apply pw_below_drewN | apply below_drew1 | refine below_set ?_ GE682.out) | exact HB.out)) hb)
   clear BK682
   clear HB
   have HO687 := n0_
   have BK682 := n1_
   have HB := n2_
   clear n0_ n1_ n2_
   (try clear hb)
   (try clear hb2)
   (try clear hk)
   (try clear hi)
   (try clear ho0)
   refine hK.out _ _ ⟨(blk_cell BK682.out 0).trans rfl, (blk_cell BK682.out 1).trans rfl⟩ (fun hHeld => ?_)
   clear hK K
   refine norm_ (a' := ?_) ?_ ?_
   rotate_left
   ·show Act.put _ (some 31) _ = _
    simp only [Act.put, List.setIfInBounds_toArray, List.set_cons_zero, List.set_cons_succ, i64_w, i32_w]
    rfl
   refine one_ (i := 3) (N := some 33) #[true, true, true, true, false, false, false, false, false, false, false, false] rfl rfl (one_of HT_.out (by kernel_rfl)) (by decide) (fun K hK => ?_)
   refine goes_ Try.func37 (by kernel_rfl) rfl #[.agg #[.string a1_0, .int .i64 a1_1]] (by rfl) rfl rfl (by (try simp only [List.map_toArray, List.map_cons, List.map_nil]); first | done | rfl | (simp only [List.length_drop, List.length_take]; rfl)) ?_
   with_reducible refine (laws_toScore.calls a1_0 a1_1 t688 t689 _ A14.out).mono ?_
   rintro e w26 ⟨rfl, hb⟩
   refine ⟨_, rfl, ?_⟩
   have n0_ := Aside0.mk (Kd.R_below (by (with_reducible repeat (first | apply Kd.R_alloc | apply Kd.R_drewN | apply Kd.R_drew)); exact HO687.out) hb)
   have n1_ := Aside0.mk (blk_below (g := gb682) (o := .cells #[.string a1_0, .int .i64 a1_1] 46 (0, 0)) (by (with_reducible repeat (first | refine blk_drewN ?_ _ | refine blk_drew ?_ | refine blk_alloc ?_ _)); exact BK682.out) hb)
   have n2_ := Aside0.mk (below_step (by repeat (first | (with_reducible first | exact HB.out | apply below_alloc | apply pw_below_drewN | apply below_drew1 | refine below_set ?_ GE682.out) | exact HB.out)) hb)
   clear HO687
   clear BK682
   clear HB
   have HO687 := n0_
   have BK682 := n1_
   have HB := n2_
   clear n0_ n1_ n2_
   (try clear hb)
   (try clear hb2)
   (try clear hk)
   (try clear hi)
   obtain ⟨Ao27, co27, eo27⟩ := Kd.R_slice HO687.out
   (first | subst eo27 | (injection eo27 with f1_ f2_ f3_; have f4_ := f1_.symm; have f5_ := f3_.symm; clear f1_ f2_ f3_; subst f4_; subst f5_))
   refine hK.out _ _ ⟨(blk_cell BK682.out 0).trans rfl, (blk_cell BK682.out 1).trans rfl⟩ (fun hHeld => ?_)
   clear hK K
   refine norm_ (a' := ?_) ?_ ?_
   rotate_left
   ·show Act.put _ (some 33) _ = _
    simp only [Act.put, List.setIfInBounds_toArray, List.set_cons_zero, List.set_cons_succ, i64_w, i32_w]
    rfl
   refine one_ (i := 4) (N := some 34) #[true, true, true, true, true, false, false, false, false, false, false, false] rfl rfl (one_of HT_.out (by kernel_rfl)) (by decide) (fun K hK => ?_)
   refine goes_ Try.func36 (by kernel_rfl) rfl #[.slice Ao27 t685.length co27, .agg #[.string t688, .int .i64 t689]] (by rfl) rfl rfl (by (try simp only [List.map_toArray, List.map_cons, List.map_nil]); first | done | rfl | (simp only [List.length_drop, List.length_take]; rfl)) ?_
   with_reducible refine (spec_ScoresPut.calls k _ _ t685 t688 t689 t690 t693 t694 _ ?side1 ?side2 A15.out).mono ?_
   (case side1 => repeat (first | exact (Kd.R_reads' HO687.out).2.2 | (with_reducible refine Kd.C_alloc ?_ _) | (with_reducible refine Kd.C_drewN ?_ _) | (with_reducible refine Kd.C_drew ?_)))
   (case side2 => exact (Kd.R_reads' HO687.out).2.1)
   rintro e w28 ⟨v691, rfl, ho0, hb⟩
   refine ⟨_, rfl, ?_⟩
   have n0_ := Aside0.mk (Kd.R_elder' (by (with_reducible repeat (first | apply Kd.R_alloc | apply Kd.R_drewN | apply Kd.R_drew)); exact HO687.out) (Kd.R_base ho0) hb)
   have n1_ := Aside0.mk (Kd.R_lower (Kd.R_new' ho0 (Kd.R_lt (by (with_reducible repeat (first | apply Kd.R_alloc | apply Kd.R_drewN | apply Kd.R_drew)); exact HO687.out))) (below_size (by repeat (first | (with_reducible first | exact HB.out | apply below_alloc | apply pw_below_drewN | apply below_drew1 | refine below_set ?_ GE682.out) | exact HB.out))))
   have n2_ := Aside0.mk (blk_below (g := gb682) (o := .cells #[.string a1_0, .int .i64 a1_1] 46 (0, 0)) (by (with_reducible repeat (first | refine blk_drewN ?_ _ | refine blk_drew ?_ | refine blk_alloc ?_ _)); exact BK682.out) hb)
   have n3_ := Aside0.mk (below_step (by repeat (first | (with_reducible first | exact HB.out | apply below_alloc | apply pw_below_drewN | apply below_drew1 | refine below_set ?_ GE682.out) | exact HB.out)) hb)
   clear HO687
   clear BK682
   clear HB
   have HO687 := n0_
   have HO692 := n1_
   have BK682 := n2_
   have HB := n3_
   clear n0_ n1_ n2_ n3_
   (try clear hb)
   (try clear hb2)
   (try clear hk)
   (try clear hi)
   (try clear ho0)
   refine hK.out _ _ ⟨(blk_cell BK682.out 0).trans rfl, (blk_cell BK682.out 1).trans rfl⟩ (fun hHeld => ?_)
   clear hK K
   refine norm_ (a' := ?_) ?_ ?_
   rotate_left
   ·show Act.put _ (some 34) _ = _
    simp only [Act.put, List.setIfInBounds_toArray, List.set_cons_zero, List.set_cons_succ, i64_w, i32_w]
    rfl
   refine pure_ (i := 5) (N := some 29) (v := ?_) (a' := ?_) #[true, true, true, true, true, true, false, false, false, false, false, false] rfl rfl (any_of HT_.out (by kernel_rfl)) (fun _ _ _ h => h) (Or.inl ⟨by rfl, ?_⟩) ?_ ?_
   rotate_left
   ·intro w'
    go_simp
    with_reducible rfl
   rotate_left
   ·simp only [Act.put, List.setIfInBounds_toArray, List.set_cons_zero, List.set_cons_succ, i64_w, i32_w]
    rfl
   refine pure_ (i := 6) (N := some 35) (v := ?_) (a' := ?_) #[true, true, true, true, true, true, true, false, false, false, false, false] rfl rfl (any_of HT_.out (by kernel_rfl)) (fun _ _ _ h => h) (Or.inl ⟨by rfl, ?_⟩) ?_ ?_
   rotate_left
   ·intro w'
    go_simp
    with_reducible rfl
   rotate_left
   ·simp only [Act.put, List.setIfInBounds_toArray, List.set_cons_zero, List.set_cons_succ, i64_w, i32_w]
    rfl
   refine pure_ (i := 7) (N := some 36) (v := ?_) (a' := ?_) #[true, true, true, true, true, true, true, true, false, false, false, false] rfl rfl (any_of HT_.out (by kernel_rfl)) (fun _ _ _ h => h) (Or.inl ⟨by rfl, ?_⟩) ?_ ?_
   rotate_left
   ·intro w'
    go_simp
    with_reducible rfl
   rotate_left
   ·simp only [Act.put, List.setIfInBounds_toArray, List.set_cons_zero, List.set_cons_succ, i64_w, i32_w]
    rfl
   refine pure_ (i := 8) (N := some 37) (v := ?_) (a' := ?_) #[true, true, true, true, true, true, true, true, true, false, false, false] rfl rfl (any_of HT_.out (by kernel_rfl)) (fun _ _ _ h => h) (Or.inl ⟨by rfl, ?_⟩) ?_ ?_
   rotate_left
   ·intro w'
    go_simp
    with_reducible rfl
   rotate_left
   ·simp only [Act.put, List.setIfInBounds_toArray, List.set_cons_zero, List.set_cons_succ, i64_w, i32_w]
    rfl
   refine pure_ (i := 9) (N := some 6) (v := ?_) (a' := ?_) #[true, true, true, true, true, true, true, true, true, true, false, false] rfl rfl (any_of HT_.out (by kernel_rfl)) (fun _ _ _ h => h) (Or.inl ⟨by rfl, ?_⟩) ?_ ?_
   rotate_left
   ·intro w'
    go_simp
    with_reducible rfl
   rotate_left
   ·simp only [Act.put, List.setIfInBounds_toArray, List.set_cons_zero, List.set_cons_succ, i64_w, i32_w]
    rfl
   refine pure_ (i := 10) (N := some 7) (v := ?_) (a' := ?_) #[true, true, true, true, true, true, true, true, true, true, true, false] rfl rfl (any_of HT_.out (by kernel_rfl)) (fun _ _ _ h => h) (Or.inl ⟨by rfl, ?_⟩) ?_ ?_
   rotate_left
   ·intro w'
    go_simp
    with_reducible rfl
   rotate_left
   ·simp only [Act.put, List.setIfInBounds_toArray, List.set_cons_zero, List.set_cons_succ, i64_w, i32_w]
    rfl
   refine pure_ (i := 11) (N := some 8) (v := ?_) (a' := ?_) #[true, true, true, true, true, true, true, true, true, true, true, true] rfl rfl (any_of HT_.out (by kernel_rfl)) (fun _ _ _ h => h) (Or.inl ⟨by rfl, ?_⟩) ?_ ?_
   rotate_left
   ·intro w'
    go_simp
    with_reducible rfl
   rotate_left
   ·simp only [Act.put, List.setIfInBounds_toArray, List.set_cons_zero, List.set_cons_succ, i64_w, i32_w]
    rfl
   refine done_ (done_of HT_.out (by kernel_rfl)) ?_
   go_upto_region 11 with (first | ((with_reducible refine gate_callee (f := 16) rfl ?_); refine goesL_ (some 39) rfl rfl Try.func16 (by kernel_rfl) rfl #[.slice A0 l0.length c0] rfl (by (try simp only [List.map_toArray, List.map_cons, List.map_nil]); first | done | rfl | (simp only [List.length_drop, List.length_take]; rfl)) ?_; (with_reducible refine (laws_toScoreS.calls k _ _ l0 t695 _ ?side1 ?side2 A16.out).mono ?_); (case side1 => repeat (first | exact (Kd.C_below HR0.out HB.out) | (with_reducible refine Kd.C_alloc ?_ _) | (with_reducible refine Kd.C_drewN ?_ _) | (with_reducible refine Kd.C_drew ?_))); (case side2 => exact HC0.out); rintro e w29 ⟨v696, rfl, ho0, hb⟩; refine ⟨_, rfl, ?_⟩; have n0_ := Aside0.mk (Kd.R_elder' (by (with_reducible repeat (first | apply Kd.R_alloc | apply Kd.R_drewN | apply Kd.R_drew)); exact HO687.out) (Kd.R_base ho0) hb); have n1_ := Aside0.mk (Kd.R_elder' (by (with_reducible repeat (first | apply Kd.R_alloc | apply Kd.R_drewN | apply Kd.R_drew)); exact HO692.out) (Kd.R_base ho0) hb); have n2_ := Aside0.mk (Kd.R_lower (Kd.R_new' (Kd.R_new' ho0 (Kd.R_lt (by (with_reducible repeat (first | apply Kd.R_alloc | apply Kd.R_drewN | apply Kd.R_drew)); exact HO687.out))) (Kd.R_lt (by (with_reducible repeat (first | apply Kd.R_alloc | apply Kd.R_drewN | apply Kd.R_drew)); exact HO692.out))) (below_size (by repeat (first | (with_reducible first | exact HB.out | apply below_alloc | apply pw_below_drewN | apply below_drew1 | refine below_set ?_ GE682.out) | exact HB.out)))); have n3_ := Aside0.mk (blk_below (g := gb682) (o := .cells #[.string a1_0, .int .i64 a1_1] 46 (0, 0)) (by (with_reducible repeat (first | refine blk_drewN ?_ _ | refine blk_drew ?_ | refine blk_alloc ?_ _)); exact BK682.out) hb); have n4_ := Aside0.mk (below_step (by repeat (first | (with_reducible first | exact HB.out | apply below_alloc | apply pw_below_drewN | apply below_drew1 | refine below_set ?_ GE682.out) | exact HB.out)) hb); clear HO687; clear HO692; clear BK682; clear HB; have HO687 := n0_; have HO692 := n1_; have HO697 := n2_; have BK682 := n3_; have HB := n4_; clear n0_ n1_ n2_ n3_ n4_; (try clear hb); (try clear hb2); (try clear hk); (try clear hi); (try clear ho0); have hcz30_0 : w29.cell? ⟨gb682, 0, none⟩ = some (.string a1_0) := (blk_cell BK682.out 0).trans rfl; have hcz30_1 : w29.cell? ⟨gb682, 1, none⟩ = some (.int .i64 a1_1) := (blk_cell BK682.out 1).trans rfl; have hfz30_0 := blk_frozen BK682.out 0; have hfz30_1 := blk_frozen BK682.out 1) | ((with_reducible refine gate_callee (f := 37) rfl ?_); refine goesL_ (some 43) rfl rfl Try.func37 (by kernel_rfl) rfl #[.agg #[.string a1_0, .int .i64 a1_1]] rfl (by (try simp only [List.map_toArray, List.map_cons, List.map_nil]); first | done | rfl | (simp only [List.length_drop, List.length_take]; rfl)) ?_; (with_reducible refine (laws_toScore.calls a1_0 a1_1 t698 t699 _ A17.out).mono ?_); rintro e w31 ⟨rfl, hb⟩; refine ⟨_, rfl, ?_⟩; have n0_ := Aside0.mk (Kd.R_below (by (with_reducible repeat (first | apply Kd.R_alloc | apply Kd.R_drewN | apply Kd.R_drew)); exact HO687.out) hb); have n1_ := Aside0.mk (Kd.R_below (by (with_reducible repeat (first | apply Kd.R_alloc | apply Kd.R_drewN | apply Kd.R_drew)); exact HO692.out) hb); have n2_ := Aside0.mk (Kd.R_below (by (with_reducible repeat (first | apply Kd.R_alloc | apply Kd.R_drewN | apply Kd.R_drew)); exact HO697.out) hb); have n3_ := Aside0.mk (blk_below (g := gb682) (o := .cells #[.string a1_0, .int .i64 a1_1] 46 (0, 0)) (by (with_reducible repeat (first | refine blk_drewN ?_ _ | refine blk_drew ?_ | refine blk_alloc ?_ _)); exact BK682.out) hb); have n4_ := Aside0.mk (below_step (by repeat (first | (with_reducible first | exact HB.out | apply below_alloc | apply pw_below_drewN | apply below_drew1 | refine below_set ?_ GE682.out) | exact HB.out)) hb); clear HO687; clear HO692; clear HO697; clear BK682; clear HB; have HO687 := n0_; have HO692 := n1_; have HO697 := n2_; have BK682 := n3_; have HB := n4_; clear n0_ n1_ n2_ n3_ n4_; (try clear hb); (try clear hb2); (try clear hk); (try clear hi); obtain ⟨Ao32, co32, eo32⟩ := Kd.R_slice HO697.out; subst eo32) | ((with_reducible refine gate_callee (f := 38) rfl ?_); refine goesL_ (some 44) rfl rfl Try.func38 (by kernel_rfl) rfl #[.slice Ao32 t695.length co32, .agg #[.string t698, .int .i64 t699]] rfl (by (try simp only [List.map_toArray, List.map_cons, List.map_nil]); first | done | rfl | (simp only [List.length_drop, List.length_take]; rfl)) ?_; (with_reducible refine (impl_ScoresPut.calls k _ _ t695 t698 t699 t700 t703 t704 _ ?side1 ?side2 A18.out).mono ?_); (case side1 => repeat (first | exact (Kd.R_reads' HO697.out).2.2 | (with_reducible refine Kd.C_alloc ?_ _) | (with_reducible refine Kd.C_drewN ?_ _) | (with_reducible refine Kd.C_drew ?_))); (case side2 => exact (Kd.R_reads' HO697.out).2.1); rintro e w33 ⟨v701, rfl, ho0, hb⟩; refine ⟨_, rfl, ?_⟩; have n0_ := Aside0.mk (Kd.R_elder' (by (with_reducible repeat (first | apply Kd.R_alloc | apply Kd.R_drewN | apply Kd.R_drew)); exact HO687.out) (Kd.R_base ho0) hb); have n1_ := Aside0.mk (Kd.R_elder' (by (with_reducible repeat (first | apply Kd.R_alloc | apply Kd.R_drewN | apply Kd.R_drew)); exact HO692.out) (Kd.R_base ho0) hb); have n2_ := Aside0.mk (Kd.R_elder' (by (with_reducible repeat (first | apply Kd.R_alloc | apply Kd.R_drewN | apply Kd.R_drew)); exact HO697.out) (Kd.R_base ho0) hb); have n3_ := Aside0.mk (Kd.R_lower (Kd.R_new' (Kd.R_new' (Kd.R_new' ho0 (Kd.R_lt (by (with_reducible repeat (first | apply Kd.R_alloc | apply Kd.R_drewN | apply Kd.R_drew)); exact HO687.out))) (Kd.R_lt (by (with_reducible repeat (first | apply Kd.R_alloc | apply Kd.R_drewN | apply Kd.R_drew)); exact HO692.out))) (Kd.R_lt (by (with_reducible repeat (first | apply Kd.R_alloc | apply Kd.R_drewN | apply Kd.R_drew)); exact HO697.out))) (below_size (by repeat (first | (with_reducible first | exact HB.out | apply below_alloc | apply pw_below_drewN | apply below_drew1 | refine below_set ?_ GE682.out) | exact HB.out)))); have n4_ := Aside0.mk (blk_below (g := gb682) (o := .cells #[.string a1_0, .int .i64 a1_1] 46 (0, 0)) (by (with_reducible repeat (first | refine blk_drewN ?_ _ | refine blk_drew ?_ | refine blk_alloc ?_ _)); exact BK682.out) hb); have n5_ := Aside0.mk (below_step (by repeat (first | (with_reducible first | exact HB.out | apply below_alloc | apply pw_below_drewN | apply below_drew1 | refine below_set ?_ GE682.out) | exact HB.out)) hb); clear HO687; clear HO692; clear HO697; clear BK682; clear HB; have HO687 := n0_; have HO692 := n1_; have HO697 := n2_; have HO702 := n3_; have BK682 := n4_; have HB := n5_; clear n0_ n1_ n2_ n3_ n4_ n5_; (try clear hb); (try clear hb2); (try clear hk); (try clear hi); (try clear ho0)))
   (try simp only [Act.put, List.setIfInBounds_toArray, List.set_cons_zero, List.set_cons_succ])
   go_cut [61] (fun v61 wc => ∃ (kq : Nat) (x61_18 : Bool), v61 = .bool x61_18 ∧ Aside0 (laws_FnExactScoresPut.j0 kq l0 t690 t693 t694 t695 t700 t703 t704 x61_18 a1_0 a1_1 = some r) ∧ Aside0 (kq ≤ k) ∧ Aside0 (Kd.R k40 40 wc w.heap.size (fun k_ => some k_ ≠ ((.slice Ao32 t695.length co32) : Value).ownBlock ∧ some k_ ≠ (v701 : Value).ownBlock) v691 t690) ∧ Aside0 (Kd.R k40 40 wc w.heap.size (fun k_ => some k_ ≠ (v691 : Value).ownBlock ∧ some k_ ≠ (v701 : Value).ownBlock) (.slice Ao32 t695.length co32) t695) ∧ Aside0 (Kd.R k40 40 wc w.heap.size (fun k_ => some k_ ≠ (v691 : Value).ownBlock ∧ some k_ ≠ ((.slice Ao32 t695.length co32) : Value).ownBlock) v701 t700) ∧ Aside0 (wc.heap[gb682]? = some (.cells #[.string a1_0, .int .i64 a1_1] 46 (0, 0))) ∧ Aside0 (Below w.heap.size w wc))
   case first =>
    have H := HC19.out
    clear HC19
    replace H := Option.bind_eq_some_iff.mp H
    obtain ⟨t705, A340, H⟩ := H
    replace H : (if t705 = true then (if (t703 != t693) = true then (laws_FnExactScoresPut.j0 k l0 t690 t693 t694 t695 t700 t703 t704 true a1_0 a1_1) else (laws_FnExactScoresPut.j0 k l0 t690 t693 t694 t695 t700 t703 t704 (t704 != t694) a1_0 a1_1)) else (laws_FnExactScoresPut.j0 k l0 t690 t693 t694 t695 t700 t703 t704 true a1_0 a1_1)) = some r := H
    have A34 := Aside0.mk A340
    clear A340
    by_cases c35 : t705 = true
    ·subst c35
     have H1 : (if (t703 != t693) = true then (laws_FnExactScoresPut.j0 k l0 t690 t693 t694 t695 t700 t703 t704 true a1_0 a1_1) else (laws_FnExactScoresPut.j0 k l0 t690 t693 t694 t695 t700 t703 t704 (t704 != t694) a1_0 a1_1)) = some r := by rw [if_pos rfl] at H; exact H
     clear H
     have H := H1
     clear H1
     by_cases c36 : (t703 != t693) = true
     ·rw [if_pos c36] at H
      have c36b0 : (t703 != t693) = true := c36
      (try (have c36b1 : decide (t703 = t693) = false := by simpa using c36))
      (try (have c36b2 : (t703 == t693) = false := by simpa using c36))
      (try (have c36b3 : ¬ (t703 = t693) := by simpa using c36))
      clear c36
      (first | rw [c36b0] | (simp only [i64_w, i32_w]; rw [c36b0]) | skip)
      have H' := Aside0.mk H
      clear H
      obtain ⟨Ao37, co37, eo37⟩ := Kd.R_slice HO702.out
      subst eo37
      obtain ⟨Ao38, co38, eo38⟩ := Kd.R_slice HO692.out
      subst eo38
      go_wp2_with (first | ((with_reducible refine gate_callee (f := 18) rfl ?_); refine goesL_ (some 50) rfl rfl Try.func18 (by kernel_rfl) rfl #[.slice Ao37 t700.length co37, .slice Ao38 t690.length co38] rfl (by (try simp only [List.map_toArray, List.map_cons, List.map_nil]); first | done | rfl | (simp only [List.length_drop, List.length_take]; rfl)) ?_; (with_reducible refine (laws_eqScoreS.calls k _ _ t700 _ _ t690 true _ ?side1 ?side2 ?side3 ?side4 A34.out).mono ?_); (case side1 => repeat (first | exact (Kd.R_reads' HO702.out).2.2 | (with_reducible refine Kd.C_alloc ?_ _) | (with_reducible refine Kd.C_drewN ?_ _) | (with_reducible refine Kd.C_drew ?_))); (case side2 => exact (Kd.R_reads' HO702.out).2.1); (case side3 => repeat (first | exact (Kd.R_reads' HO692.out).2.2 | (with_reducible refine Kd.C_alloc ?_ _) | (with_reducible refine Kd.C_drewN ?_ _) | (with_reducible refine Kd.C_drew ?_))); (case side4 => exact (Kd.R_reads' HO692.out).2.1); rintro e w39 ⟨rfl, hb⟩; refine ⟨_, rfl, ?_⟩; have n0_ := Aside0.mk (Kd.R_below (by (with_reducible repeat (first | apply Kd.R_alloc | apply Kd.R_drewN | apply Kd.R_drew)); exact HO687.out) hb); have n1_ := Aside0.mk (Kd.R_below (by (with_reducible repeat (first | apply Kd.R_alloc | apply Kd.R_drewN | apply Kd.R_drew)); exact HO692.out) hb); have n2_ := Aside0.mk (Kd.R_below (by (with_reducible repeat (first | apply Kd.R_alloc | apply Kd.R_drewN | apply Kd.R_drew)); exact HO697.out) hb); have n3_ := Aside0.mk (Kd.R_below (by (with_reducible repeat (first | apply Kd.R_alloc | apply Kd.R_drewN | apply Kd.R_drew)); exact HO702.out) hb); have n4_ := Aside0.mk (blk_below (g := gb682) (o := .cells #[.string a1_0, .int .i64 a1_1] 46 (0, 0)) (by (with_reducible repeat (first | refine blk_drewN ?_ _ | refine blk_drew ?_ | refine blk_alloc ?_ _)); exact BK682.out) hb); have n5_ := Aside0.mk (below_step (by repeat (first | (with_reducible first | exact HB.out | apply below_alloc | apply pw_below_drewN | apply below_drew1 | refine below_set ?_ GE682.out) | exact HB.out)) hb); clear HO687; clear HO692; clear HO697; clear HO702; clear BK682; clear HB; have HO687 := n0_; have HO692 := n1_; have HO697 := n2_; have HO702 := n3_; have BK682 := n4_; have HB := n5_; clear n0_ n1_ n2_ n3_ n4_ n5_; (try clear hb); (try clear hb2); (try clear hk); (try clear hi)))
      go_meet
      case rel => exact ⟨_, (true), (by first | rfl | (simp; done) | (simp [*]; done)), H', ⟨by first | omega | exact Nat.le_refl _⟩, ⟨by (with_reducible repeat (first | apply Kd.R_alloc | apply Kd.R_drewN | apply Kd.R_drew)); exact Kd.R_mono HO692.out (fun _ hk => ⟨hk.1.2, hk.2⟩)⟩, ⟨by (with_reducible repeat (first | apply Kd.R_alloc | apply Kd.R_drewN | apply Kd.R_drew)); exact Kd.R_mono HO697.out (fun _ hk => ⟨hk.1.2, hk.2⟩)⟩, ⟨by (with_reducible repeat (first | apply Kd.R_alloc | apply Kd.R_drewN | apply Kd.R_drew)); exact Kd.R_mono HO702.out (fun _ hk => ⟨hk.1.2, hk.2⟩)⟩, ⟨by (with_reducible repeat (first | refine blk_drewN ?_ _ | refine blk_drew ?_ | refine blk_alloc ?_ _)); exact BK682.out⟩, ⟨by repeat (first | (with_reducible first | exact HB.out | apply below_alloc | apply pw_below_drewN | apply below_drew1 | refine below_set ?_ GE682.out) | exact HB.out)⟩⟩
     ·rw [if_neg c36] at H
      have c36b0 : (t703 != t693) = false := by simpa using c36
      (try (have c36b1 : decide (t703 = t693) = true := by simpa using c36))
      (try (have c36b2 : (t703 == t693) = true := by simpa using c36))
      clear c36
      (first | rw [c36b0] | (simp only [i64_w, i32_w]; rw [c36b0]) | skip)
      have H' := Aside0.mk H
      clear H
      obtain ⟨Ao40, co40, eo40⟩ := Kd.R_slice HO702.out
      subst eo40
      obtain ⟨Ao41, co41, eo41⟩ := Kd.R_slice HO692.out
      subst eo41
      go_wp2_with (first | ((with_reducible refine gate_callee (f := 18) rfl ?_); refine goesL_ (some 50) rfl rfl Try.func18 (by kernel_rfl) rfl #[.slice Ao40 t700.length co40, .slice Ao41 t690.length co41] rfl (by (try simp only [List.map_toArray, List.map_cons, List.map_nil]); first | done | rfl | (simp only [List.length_drop, List.length_take]; rfl)) ?_; (with_reducible refine (laws_eqScoreS.calls k _ _ t700 _ _ t690 true _ ?side1 ?side2 ?side3 ?side4 A34.out).mono ?_); (case side1 => repeat (first | exact (Kd.R_reads' HO702.out).2.2 | (with_reducible refine Kd.C_alloc ?_ _) | (with_reducible refine Kd.C_drewN ?_ _) | (with_reducible refine Kd.C_drew ?_))); (case side2 => exact (Kd.R_reads' HO702.out).2.1); (case side3 => repeat (first | exact (Kd.R_reads' HO692.out).2.2 | (with_reducible refine Kd.C_alloc ?_ _) | (with_reducible refine Kd.C_drewN ?_ _) | (with_reducible refine Kd.C_drew ?_))); (case side4 => exact (Kd.R_reads' HO692.out).2.1); rintro e w42 ⟨rfl, hb⟩; refine ⟨_, rfl, ?_⟩; have n0_ := Aside0.mk (Kd.R_below (by (with_reducible repeat (first | apply Kd.R_alloc | apply Kd.R_drewN | apply Kd.R_drew)); exact HO687.out) hb); have n1_ := Aside0.mk (Kd.R_below (by (with_reducible repeat (first | apply Kd.R_alloc | apply Kd.R_drewN | apply Kd.R_drew)); exact HO692.out) hb); have n2_ := Aside0.mk (Kd.R_below (by (with_reducible repeat (first | apply Kd.R_alloc | apply Kd.R_drewN | apply Kd.R_drew)); exact HO697.out) hb); have n3_ := Aside0.mk (Kd.R_below (by (with_reducible repeat (first | apply Kd.R_alloc | apply Kd.R_drewN | apply Kd.R_drew)); exact HO702.out) hb); have n4_ := Aside0.mk (blk_below (g := gb682) (o := .cells #[.string a1_0, .int .i64 a1_1] 46 (0, 0)) (by (with_reducible repeat (first | refine blk_drewN ?_ _ | refine blk_drew ?_ | refine blk_alloc ?_ _)); exact BK682.out) hb); have n5_ := Aside0.mk (below_step (by repeat (first | (with_reducible first | exact HB.out | apply below_alloc | apply pw_below_drewN | apply below_drew1 | refine below_set ?_ GE682.out) | exact HB.out)) hb); clear HO687; clear HO692; clear HO697; clear HO702; clear BK682; clear HB; have HO687 := n0_; have HO692 := n1_; have HO697 := n2_; have HO702 := n3_; have BK682 := n4_; have HB := n5_; clear n0_ n1_ n2_ n3_ n4_ n5_; (try clear hb); (try clear hb2); (try clear hk); (try clear hi)))
      go_meet
      case rel => exact ⟨_, ((t704 != t694)), (by first | rfl | (simp; done) | (simp [*]; done)), H', ⟨by first | omega | exact Nat.le_refl _⟩, ⟨by (with_reducible repeat (first | apply Kd.R_alloc | apply Kd.R_drewN | apply Kd.R_drew)); exact Kd.R_mono HO692.out (fun _ hk => ⟨hk.1.2, hk.2⟩)⟩, ⟨by (with_reducible repeat (first | apply Kd.R_alloc | apply Kd.R_drewN | apply Kd.R_drew)); exact Kd.R_mono HO697.out (fun _ hk => ⟨hk.1.2, hk.2⟩)⟩, ⟨by (with_reducible repeat (first | apply Kd.R_alloc | apply Kd.R_drewN | apply Kd.R_drew)); exact Kd.R_mono HO702.out (fun _ hk => ⟨hk.1.2, hk.2⟩)⟩, ⟨by (with_reducible repeat (first | refine blk_drewN ?_ _ | refine blk_drew ?_ | refine blk_alloc ?_ _)); exact BK682.out⟩, ⟨by repeat (first | (with_reducible first | exact HB.out | apply below_alloc | apply pw_below_drewN | apply below_drew1 | refine below_set ?_ GE682.out) | exact HB.out)⟩⟩
    ·replace c35 := Bool.eq_false_iff.mpr c35
     subst c35
     have H1 : (laws_FnExactScoresPut.j0 k l0 t690 t693 t694 t695 t700 t703 t704 true a1_0 a1_1) = some r := by rw [if_neg (show ¬ (false = true) by decide)] at H; exact H
     clear H
     have H := H1
     clear H1
     have H' := Aside0.mk H
     clear H
     obtain ⟨Ao43, co43, eo43⟩ := Kd.R_slice HO702.out
     subst eo43
     obtain ⟨Ao44, co44, eo44⟩ := Kd.R_slice HO692.out
     subst eo44
     go_wp2_with (first | ((with_reducible refine gate_callee (f := 18) rfl ?_); refine goesL_ (some 50) rfl rfl Try.func18 (by kernel_rfl) rfl #[.slice Ao43 t700.length co43, .slice Ao44 t690.length co44] rfl (by (try simp only [List.map_toArray, List.map_cons, List.map_nil]); first | done | rfl | (simp only [List.length_drop, List.length_take]; rfl)) ?_; (with_reducible refine (laws_eqScoreS.calls k _ _ t700 _ _ t690 false _ ?side1 ?side2 ?side3 ?side4 A34.out).mono ?_); (case side1 => repeat (first | exact (Kd.R_reads' HO702.out).2.2 | (with_reducible refine Kd.C_alloc ?_ _) | (with_reducible refine Kd.C_drewN ?_ _) | (with_reducible refine Kd.C_drew ?_))); (case side2 => exact (Kd.R_reads' HO702.out).2.1); (case side3 => repeat (first | exact (Kd.R_reads' HO692.out).2.2 | (with_reducible refine Kd.C_alloc ?_ _) | (with_reducible refine Kd.C_drewN ?_ _) | (with_reducible refine Kd.C_drew ?_))); (case side4 => exact (Kd.R_reads' HO692.out).2.1); rintro e w45 ⟨rfl, hb⟩; refine ⟨_, rfl, ?_⟩; have n0_ := Aside0.mk (Kd.R_below (by (with_reducible repeat (first | apply Kd.R_alloc | apply Kd.R_drewN | apply Kd.R_drew)); exact HO687.out) hb); have n1_ := Aside0.mk (Kd.R_below (by (with_reducible repeat (first | apply Kd.R_alloc | apply Kd.R_drewN | apply Kd.R_drew)); exact HO692.out) hb); have n2_ := Aside0.mk (Kd.R_below (by (with_reducible repeat (first | apply Kd.R_alloc | apply Kd.R_drewN | apply Kd.R_drew)); exact HO697.out) hb); have n3_ := Aside0.mk (Kd.R_below (by (with_reducible repeat (first | apply Kd.R_alloc | apply Kd.R_drewN | apply Kd.R_drew)); exact HO702.out) hb); have n4_ := Aside0.mk (blk_below (g := gb682) (o := .cells #[.string a1_0, .int .i64 a1_1] 46 (0, 0)) (by (with_reducible repeat (first | refine blk_drewN ?_ _ | refine blk_drew ?_ | refine blk_alloc ?_ _)); exact BK682.out) hb); have n5_ := Aside0.mk (below_step (by repeat (first | (with_reducible first | exact HB.out | apply below_alloc | apply pw_below_drewN | apply below_drew1 | refine below_set ?_ GE682.out) | exact HB.out)) hb); clear HO687; clear HO692; clear HO697; clear HO702; clear BK682; clear HB; have HO687 := n0_; have HO692 := n1_; have HO697 := n2_; have HO702 := n3_; have BK682 := n4_; have HB := n5_; clear n0_ n1_ n2_ n3_ n4_ n5_; (try clear hb); (try clear hb2); (try clear hk); (try clear hi)))
     go_meet
     case rel => exact ⟨_, (true), (by first | rfl | (simp; done) | (simp [*]; done)), H', ⟨by first | omega | exact Nat.le_refl _⟩, ⟨by (with_reducible repeat (first | apply Kd.R_alloc | apply Kd.R_drewN | apply Kd.R_drew)); exact Kd.R_mono HO692.out (fun _ hk => ⟨hk.1.2, hk.2⟩)⟩, ⟨by (with_reducible repeat (first | apply Kd.R_alloc | apply Kd.R_drewN | apply Kd.R_drew)); exact Kd.R_mono HO697.out (fun _ hk => ⟨hk.1.2, hk.2⟩)⟩, ⟨by (with_reducible repeat (first | apply Kd.R_alloc | apply Kd.R_drewN | apply Kd.R_drew)); exact Kd.R_mono HO702.out (fun _ hk => ⟨hk.1.2, hk.2⟩)⟩, ⟨by (with_reducible repeat (first | refine blk_drewN ?_ _ | refine blk_drew ?_ | refine blk_alloc ?_ _)); exact BK682.out⟩, ⟨by repeat (first | (with_reducible first | exact HB.out | apply below_alloc | apply pw_below_drewN | apply below_drew1 | refine below_set ?_ GE682.out) | exact HB.out)⟩⟩
   case rest =>
    clear HC19
    try clear c1
    try clear p2
    try clear c3
    try clear c4
    try clear c4b0
    try clear c8
    try clear c8b0
    try clear c12
    try clear c14
    try clear c16
    try clear c18
    try clear c35
    try clear c36
    try clear c36b0
    try clear c36b1
    try clear c36b2
    try clear c37
    try clear c38
    try clear hcz11_0
    try clear hcz11_1
    try clear hcz22_0
    try clear hcz22_1
    try clear hcz30_0
    try clear hcz30_1
    try clear hfz11_0
    try clear hfz11_1
    try clear hfz22_0
    try clear hfz22_1
    try clear hfz30_0
    try clear hfz30_1
    obtain ⟨kq, x61_18, rfl, HA, HJ18, HO_6, HO_9, HO_10, BK682, HB⟩ := hcut
    cases kq with
    | zero => exact absurd HA.out (by simp [laws_FnExactScoresPut.j0])
    | succ kj18 =>
     have H := HA.out
     clear HA
     simp only [laws_FnExactScoresPut.j0] at H
     by_cases c46 : x61_18 = true
     ·subst c46
      have H1 : (some false) = some r := by rw [if_pos rfl] at H; exact H
      clear H
      have H := H1
      clear H1
      obtain rfl := Option.some.inj H
      cases hr_
     ·replace c46 := Bool.eq_false_iff.mpr c46
      subst c46
      have H1 : ((laws_toScoreS.f kj18 l0).bind fun t706 => ((laws_eqScoreS.f kj18 t695 t706).bind fun t709 => (if t709 = true then ((laws_markScoreS.f kj18 t695 1).bind fun bt710 => (if bt710.1 < 0 then (laws_FnExactScoresPut.j1 kj18 l0 t690 t693 t694 t700 true a1_0 a1_1) else ((laws_eqScoreS.f kj18 t700 t690).bind fun t712 => (if t712 = true then (if (t703 != t693) = true then (laws_FnExactScoresPut.j1 kj18 l0 t690 t693 t694 t700 true a1_0 a1_1) else (laws_FnExactScoresPut.j1 kj18 l0 t690 t693 t694 t700 (t704 != t694) a1_0 a1_1)) else (laws_FnExactScoresPut.j1 kj18 l0 t690 t693 t694 t700 true a1_0 a1_1))))) else (some false)))) = some r := by rw [if_neg (show ¬ (false = true) by decide)] at H; exact H
      clear H
      have H := H1
      clear H1
      replace H := Option.bind_eq_some_iff.mp H
      obtain ⟨t706, A470, H⟩ := H
      replace H : ((laws_eqScoreS.f kj18 t695 t706).bind fun t709 => (if t709 = true then ((laws_markScoreS.f kj18 t695 1).bind fun bt710 => (if bt710.1 < 0 then (laws_FnExactScoresPut.j1 kj18 l0 t690 t693 t694 t700 true a1_0 a1_1) else ((laws_eqScoreS.f kj18 t700 t690).bind fun t712 => (if t712 = true then (if (t703 != t693) = true then (laws_FnExactScoresPut.j1 kj18 l0 t690 t693 t694 t700 true a1_0 a1_1) else (laws_FnExactScoresPut.j1 kj18 l0 t690 t693 t694 t700 (t704 != t694) a1_0 a1_1)) else (laws_FnExactScoresPut.j1 kj18 l0 t690 t693 t694 t700 true a1_0 a1_1))))) else (some false))) = some r := H
      have A47 := Aside0.mk A470
      clear A470
      replace H := Option.bind_eq_some_iff.mp H
      obtain ⟨t709, A480, H⟩ := H
      replace H : (if t709 = true then ((laws_markScoreS.f kj18 t695 1).bind fun bt710 => (if bt710.1 < 0 then (laws_FnExactScoresPut.j1 kj18 l0 t690 t693 t694 t700 true a1_0 a1_1) else ((laws_eqScoreS.f kj18 t700 t690).bind fun t712 => (if t712 = true then (if (t703 != t693) = true then (laws_FnExactScoresPut.j1 kj18 l0 t690 t693 t694 t700 true a1_0 a1_1) else (laws_FnExactScoresPut.j1 kj18 l0 t690 t693 t694 t700 (t704 != t694) a1_0 a1_1)) else (laws_FnExactScoresPut.j1 kj18 l0 t690 t693 t694 t700 true a1_0 a1_1))))) else (some false)) = some r := H
      have A48 := Aside0.mk A480
      clear A480
      by_cases c49 : t709 = true
      ·subst c49
       have H1 : ((laws_markScoreS.f kj18 t695 1).bind fun bt710 => (if bt710.1 < 0 then (laws_FnExactScoresPut.j1 kj18 l0 t690 t693 t694 t700 true a1_0 a1_1) else ((laws_eqScoreS.f kj18 t700 t690).bind fun t712 => (if t712 = true then (if (t703 != t693) = true then (laws_FnExactScoresPut.j1 kj18 l0 t690 t693 t694 t700 true a1_0 a1_1) else (laws_FnExactScoresPut.j1 kj18 l0 t690 t693 t694 t700 (t704 != t694) a1_0 a1_1)) else (laws_FnExactScoresPut.j1 kj18 l0 t690 t693 t694 t700 true a1_0 a1_1))))) = some r := by rw [if_pos rfl] at H; exact H
       clear H
       have H := H1
       clear H1
       replace H := Option.bind_eq_some_iff.mp H
       obtain ⟨⟨t710, t711⟩, A500, H⟩ := H
       replace H : (if t710 < 0 then (laws_FnExactScoresPut.j1 kj18 l0 t690 t693 t694 t700 true a1_0 a1_1) else ((laws_eqScoreS.f kj18 t700 t690).bind fun t712 => (if t712 = true then (if (t703 != t693) = true then (laws_FnExactScoresPut.j1 kj18 l0 t690 t693 t694 t700 true a1_0 a1_1) else (laws_FnExactScoresPut.j1 kj18 l0 t690 t693 t694 t700 (t704 != t694) a1_0 a1_1)) else (laws_FnExactScoresPut.j1 kj18 l0 t690 t693 t694 t700 true a1_0 a1_1)))) = some r := H
       have A50 := Aside0.mk A500
       clear A500
       have HC51 := Aside0.mk H
       clear H
       go_upto_region 17 with (first | ((with_reducible refine gate_callee (f := 16) rfl ?_); refine goesL_ (some 64) rfl rfl Try.func16 (by kernel_rfl) rfl #[.slice A0 l0.length c0] rfl (by (try simp only [List.map_toArray, List.map_cons, List.map_nil]); first | done | rfl | (simp only [List.length_drop, List.length_take]; rfl)) ?_; (with_reducible refine (laws_toScoreS.calls kj18 _ _ l0 t706 _ ?side1 ?side2 A47.out).mono ?_); (case side1 => repeat (first | exact (Kd.C_below HR0.out HB.out) | (with_reducible refine Kd.C_alloc ?_ _) | (with_reducible refine Kd.C_drewN ?_ _) | (with_reducible refine Kd.C_drew ?_))); (case side2 => exact HC0.out); rintro e w52 ⟨v707, rfl, ho0, hb⟩; refine ⟨_, rfl, ?_⟩; have n0_ := Aside0.mk (Kd.R_elder' (by (with_reducible repeat (first | apply Kd.R_alloc | apply Kd.R_drewN | apply Kd.R_drew)); exact HO_6.out) (Kd.R_base ho0) hb); have n1_ := Aside0.mk (Kd.R_elder' (by (with_reducible repeat (first | apply Kd.R_alloc | apply Kd.R_drewN | apply Kd.R_drew)); exact HO_9.out) (Kd.R_base ho0) hb); have n2_ := Aside0.mk (Kd.R_elder' (by (with_reducible repeat (first | apply Kd.R_alloc | apply Kd.R_drewN | apply Kd.R_drew)); exact HO_10.out) (Kd.R_base ho0) hb); have n3_ := Aside0.mk (Kd.R_lower (Kd.R_new' (Kd.R_new' (Kd.R_new' ho0 (Kd.R_lt (by (with_reducible repeat (first | apply Kd.R_alloc | apply Kd.R_drewN | apply Kd.R_drew)); exact HO_6.out))) (Kd.R_lt (by (with_reducible repeat (first | apply Kd.R_alloc | apply Kd.R_drewN | apply Kd.R_drew)); exact HO_9.out))) (Kd.R_lt (by (with_reducible repeat (first | apply Kd.R_alloc | apply Kd.R_drewN | apply Kd.R_drew)); exact HO_10.out))) (below_size (by repeat (first | (with_reducible first | exact HB.out | apply below_alloc | apply pw_below_drewN | apply below_drew1 | refine below_set ?_ GE682.out) | exact HB.out)))); have n4_ := Aside0.mk (blk_below (g := gb682) (o := .cells #[.string a1_0, .int .i64 a1_1] 46 (0, 0)) (by (with_reducible repeat (first | refine blk_drewN ?_ _ | refine blk_drew ?_ | refine blk_alloc ?_ _)); exact BK682.out) hb); have n5_ := Aside0.mk (below_step (by repeat (first | (with_reducible first | exact HB.out | apply below_alloc | apply pw_below_drewN | apply below_drew1 | refine below_set ?_ GE682.out) | exact HB.out)) hb); clear HO_6; clear HO_9; clear HO_10; clear BK682; clear HB; have HO_6 := n0_; have HO_9 := n1_; have HO_10 := n2_; have HO708 := n3_; have BK682 := n4_; have HB := n5_; clear n0_ n1_ n2_ n3_ n4_ n5_; (try clear hb); (try clear hb2); (try clear hk); (try clear hi); (try clear ho0); obtain ⟨Ao53, co53, eo53⟩ := Kd.R_slice HO708.out; subst eo53) | ((with_reducible refine gate_callee (f := 18) rfl ?_); refine goesL_ (some 65) rfl rfl Try.func18 (by kernel_rfl) rfl #[.slice Ao32 t695.length co32, .slice Ao53 t706.length co53] rfl (by (try simp only [List.map_toArray, List.map_cons, List.map_nil]); first | done | rfl | (simp only [List.length_drop, List.length_take]; rfl)) ?_; (with_reducible refine (laws_eqScoreS.calls kj18 _ _ t695 _ _ t706 true _ ?side1 ?side2 ?side3 ?side4 A48.out).mono ?_); (case side1 => repeat (first | exact (Kd.R_reads' HO_9.out).2.2 | (with_reducible refine Kd.C_alloc ?_ _) | (with_reducible refine Kd.C_drewN ?_ _) | (with_reducible refine Kd.C_drew ?_))); (case side2 => exact (Kd.R_reads' HO_9.out).2.1); (case side3 => repeat (first | exact (Kd.R_reads' HO708.out).2.2 | (with_reducible refine Kd.C_alloc ?_ _) | (with_reducible refine Kd.C_drewN ?_ _) | (with_reducible refine Kd.C_drew ?_))); (case side4 => exact (Kd.R_reads' HO708.out).2.1); rintro e w54 ⟨rfl, hb⟩; refine ⟨_, rfl, ?_⟩; have n0_ := Aside0.mk (Kd.R_below (by (with_reducible repeat (first | apply Kd.R_alloc | apply Kd.R_drewN | apply Kd.R_drew)); exact HO_6.out) hb); have n1_ := Aside0.mk (Kd.R_below (by (with_reducible repeat (first | apply Kd.R_alloc | apply Kd.R_drewN | apply Kd.R_drew)); exact HO_9.out) hb); have n2_ := Aside0.mk (Kd.R_below (by (with_reducible repeat (first | apply Kd.R_alloc | apply Kd.R_drewN | apply Kd.R_drew)); exact HO_10.out) hb); have n3_ := Aside0.mk (Kd.R_below (by (with_reducible repeat (first | apply Kd.R_alloc | apply Kd.R_drewN | apply Kd.R_drew)); exact HO708.out) hb); have n4_ := Aside0.mk (blk_below (g := gb682) (o := .cells #[.string a1_0, .int .i64 a1_1] 46 (0, 0)) (by (with_reducible repeat (first | refine blk_drewN ?_ _ | refine blk_drew ?_ | refine blk_alloc ?_ _)); exact BK682.out) hb); have n5_ := Aside0.mk (below_step (by repeat (first | (with_reducible first | exact HB.out | apply below_alloc | apply pw_below_drewN | apply below_drew1 | refine below_set ?_ GE682.out) | exact HB.out)) hb); clear HO_6; clear HO_9; clear HO_10; clear HO708; clear BK682; clear HB; have HO_6 := n0_; have HO_9 := n1_; have HO_10 := n2_; have HO708 := n3_; have BK682 := n4_; have HB := n5_; clear n0_ n1_ n2_ n3_ n4_ n5_; (try clear hb); (try clear hb2); (try clear hk); (try clear hi)) | ((with_reducible refine gate_callee (f := 23) rfl ?_); refine goesL_ (some 69) rfl rfl Try.func23 (by kernel_rfl) rfl #[.slice Ao32 t695.length co32, .int .i64 1] rfl (by (try simp only [List.map_toArray, List.map_cons, List.map_nil]); first | done | rfl | (simp only [List.length_drop, List.length_take]; rfl)) ?_; (with_reducible refine (laws_markScoreS.calls kj18 (fun k_ => some k_ = (.slice Ao32 t695.length co32 : Value).ownBlock) (.slice Ao32 t695.length co32) t695 1 t710 t711 w _ ?side1 ?side2 A50.out).mono ?_); (case side1 => repeat (first | (with_reducible first | exact HB.out | apply below_alloc | apply pw_below_drewN | apply below_drew1 | refine below_set ?_ GE682.out) | exact HB.out)); (case side2 => exact Kd.R_tight rfl HO_9.out); rintro e w55 ⟨rfl, hy0, hb, hkp⟩; refine ⟨_, rfl, ?_⟩; have n0_ := Aside0.mk (Kd.R_mono (ok' := fun k_ => some k_ ≠ (.slice Ao32 t695.length co32 : Value).ownBlock ∧ some k_ ≠ (v701 : Value).ownBlock ∧ some k_ ≠ (.slice Ao53 t706.length co53 : Value).ownBlock) (Kd.R_keptB (HO_6.out) hkp (fun k_ hk_ hs_ => (hk_.1.1) hs_)) (fun k_ hk_ => ⟨hk_.1.1.1, hk_.1.1.2, hk_.1.2⟩)); have n1_ := Aside0.mk (Kd.R_reok rfl hy0 (fun k_ e_ => HO_9.out.1 k_ e_)); have n2_ := Aside0.mk (Kd.R_mono (ok' := fun k_ => some k_ ≠ (v691 : Value).ownBlock ∧ some k_ ≠ (.slice Ao32 t695.length co32 : Value).ownBlock ∧ some k_ ≠ (.slice Ao53 t706.length co53 : Value).ownBlock) (Kd.R_keptB (HO_10.out) hkp (fun k_ hk_ hs_ => (hk_.1.2) hs_)) (fun k_ hk_ => ⟨hk_.1.1.1, hk_.1.1.2, hk_.1.2⟩)); have n3_ := Aside0.mk (blk_kept (by (with_reducible repeat (first | refine blk_drewN ?_ _ | refine blk_drew ?_ | refine blk_alloc ?_ _)); exact BK682.out) hkp (fun hs_ => (fun e_ => (Kd.R_ne HO_9.out BK682.out (by decide)) e_) hs_)); have n4_ := Aside0.mk (Kd.R_mono (ok' := fun k_ => some k_ ≠ (v691 : Value).ownBlock ∧ some k_ ≠ (.slice Ao32 t695.length co32 : Value).ownBlock ∧ some k_ ≠ (v701 : Value).ownBlock) (Kd.R_keptB (HO708.out) hkp (fun k_ hk_ hs_ => (hk_.1.2) hs_)) (fun k_ hk_ => ⟨hk_.1.1.1.2, hk_.1.1.2, hk_.1.2⟩)); have n5_ := Aside0.mk (hb); clear HO_6; clear HO_9; clear HO_10; clear BK682; clear HO708; clear HB; have HO_6 := n0_; have HO_9 := n1_; have HO_10 := n2_; have BK682 := n3_; have HO708 := n4_; have HB := n5_; clear n0_ n1_ n2_ n3_ n4_ n5_; (try clear hb); (try clear hkp); (try clear hy0)))
       (try simp only [Act.put, List.setIfInBounds_toArray, List.set_cons_zero, List.set_cons_succ])
       go_cut [87] (fun v87 wc => ∃ (kq : Nat) (x87_50 : Bool), v87 = .bool x87_50 ∧ Aside0 (laws_FnExactScoresPut.j1 kq l0 t690 t693 t694 t700 x87_50 a1_0 a1_1 = some r) ∧ Aside0 (kq ≤ kj18) ∧ Aside0 (Kd.R k40 40 wc w.heap.size (fun k_ => some k_ ≠ (v701 : Value).ownBlock) v691 t690) ∧ Aside0 (Kd.R k40 40 wc w.heap.size (fun k_ => some k_ ≠ (v691 : Value).ownBlock) v701 t700) ∧ Aside0 (wc.heap[gb682]? = some (.cells #[.string a1_0, .int .i64 a1_1] 46 (0, 0))) ∧ Aside0 (Below w.heap.size w wc))
       case first =>
        have H := HC51.out
        clear HC51
        by_cases c56 : t710 < 0
        ·rw [if_pos c56] at H
         have c56b0 : decide (t710 < 0) = true := decide_eq_true c56
         clear c56
         (first | rw [c56b0] | (simp only [i64_w, i32_w]; rw [c56b0]) | skip)
         have H' := Aside0.mk H
         clear H
         go_wp2
         go_meet
         case rel => exact ⟨_, (true), (by first | rfl | (simp; done) | (simp [*]; done)), H', ⟨by have := HJ18.out; first | omega | exact Nat.le_refl _⟩, ⟨by (with_reducible repeat (first | apply Kd.R_alloc | apply Kd.R_drewN | apply Kd.R_drew)); exact Kd.R_mono HO_6.out (fun _ hk => hk.2.1)⟩, ⟨by (with_reducible repeat (first | apply Kd.R_alloc | apply Kd.R_drewN | apply Kd.R_drew)); exact Kd.R_mono HO_10.out (fun _ hk => hk.1)⟩, ⟨by (with_reducible repeat (first | refine blk_drewN ?_ _ | refine blk_drew ?_ | refine blk_alloc ?_ _)); exact BK682.out⟩, ⟨by repeat (first | (with_reducible first | exact HB.out | apply below_alloc | apply pw_below_drewN | apply below_drew1 | refine below_set ?_ GE682.out) | exact HB.out)⟩⟩
        ·rw [if_neg c56] at H
         have c56b0 : decide (t710 < 0) = false := decide_eq_false c56
         clear c56
         (first | rw [c56b0] | (simp only [i64_w, i32_w]; rw [c56b0]) | skip)
         replace H := Option.bind_eq_some_iff.mp H
         obtain ⟨t712, A570, H⟩ := H
         replace H : (if t712 = true then (if (t703 != t693) = true then (laws_FnExactScoresPut.j1 kj18 l0 t690 t693 t694 t700 true a1_0 a1_1) else (laws_FnExactScoresPut.j1 kj18 l0 t690 t693 t694 t700 (t704 != t694) a1_0 a1_1)) else (laws_FnExactScoresPut.j1 kj18 l0 t690 t693 t694 t700 true a1_0 a1_1)) = some r := H
         have A57 := Aside0.mk A570
         clear A570
         by_cases c58 : t712 = true
         ·subst c58
          have H1 : (if (t703 != t693) = true then (laws_FnExactScoresPut.j1 kj18 l0 t690 t693 t694 t700 true a1_0 a1_1) else (laws_FnExactScoresPut.j1 kj18 l0 t690 t693 t694 t700 (t704 != t694) a1_0 a1_1)) = some r := by rw [if_pos rfl] at H; exact H
          clear H
          have H := H1
          clear H1
          by_cases c59 : (t703 != t693) = true
          ·rw [if_pos c59] at H
           have c59b0 : (t703 != t693) = true := c59
           (try (have c59b1 : decide (t703 = t693) = false := by simpa using c59))
           (try (have c59b2 : (t703 == t693) = false := by simpa using c59))
           (try (have c59b3 : ¬ (t703 = t693) := by simpa using c59))
           clear c59
           have H' := Aside0.mk H
           clear H
           obtain ⟨Ao60, co60, eo60⟩ := Kd.R_slice HO_10.out
           subst eo60
           obtain ⟨Ao61, co61, eo61⟩ := Kd.R_slice HO_6.out
           subst eo61
           go_wp2_with (first | (go_at_call 18; (with_reducible refine (laws_eqScoreS.calls kj18 _ _ t700 _ _ t690 true _ ?side1 ?side2 ?side3 ?side4 A57.out).mono ?_); (case side1 => repeat (first | exact (Kd.R_reads' HO_10.out).2.2 | (with_reducible refine Kd.C_alloc ?_ _) | (with_reducible refine Kd.C_drewN ?_ _) | (with_reducible refine Kd.C_drew ?_))); (case side2 => exact (Kd.R_reads' HO_10.out).2.1); (case side3 => repeat (first | exact (Kd.R_reads' HO_6.out).2.2 | (with_reducible refine Kd.C_alloc ?_ _) | (with_reducible refine Kd.C_drewN ?_ _) | (with_reducible refine Kd.C_drew ?_))); (case side4 => exact (Kd.R_reads' HO_6.out).2.1); rintro e w62 ⟨rfl, hb⟩; have n0_ := Aside0.mk (Kd.R_below (by (with_reducible repeat (first | apply Kd.R_alloc | apply Kd.R_drewN | apply Kd.R_drew)); exact HO_6.out) hb); have n1_ := Aside0.mk (Kd.R_below (by (with_reducible repeat (first | apply Kd.R_alloc | apply Kd.R_drewN | apply Kd.R_drew)); exact HO_9.out) hb); have n2_ := Aside0.mk (Kd.R_below (by (with_reducible repeat (first | apply Kd.R_alloc | apply Kd.R_drewN | apply Kd.R_drew)); exact HO_10.out) hb); have n3_ := Aside0.mk (Kd.R_below (by (with_reducible repeat (first | apply Kd.R_alloc | apply Kd.R_drewN | apply Kd.R_drew)); exact HO708.out) hb); have n4_ := Aside0.mk (blk_below (g := gb682) (o := .cells #[.string a1_0, .int .i64 a1_1] 46 (0, 0)) (by (with_reducible repeat (first | refine blk_drewN ?_ _ | refine blk_drew ?_ | refine blk_alloc ?_ _)); exact BK682.out) hb); have n5_ := Aside0.mk (below_step (by repeat (first | (with_reducible first | exact HB.out | apply below_alloc | apply pw_below_drewN | apply below_drew1 | refine below_set ?_ GE682.out) | exact HB.out)) hb); clear HO_6; clear HO_9; clear HO_10; clear HO708; clear BK682; clear HB; have HO_6 := n0_; have HO_9 := n1_; have HO_10 := n2_; have HO708 := n3_; have BK682 := n4_; have HB := n5_; clear n0_ n1_ n2_ n3_ n4_ n5_; (try clear hb); (try clear hb2); (try clear hk); (try clear hi)))
           go_meet
           case rel => exact ⟨_, (true), (by first | rfl | (simp; done) | (simp [*]; done)), H', ⟨by have := HJ18.out; first | omega | exact Nat.le_refl _⟩, ⟨by (with_reducible repeat (first | apply Kd.R_alloc | apply Kd.R_drewN | apply Kd.R_drew)); exact Kd.R_mono HO_6.out (fun _ hk => hk.2.1)⟩, ⟨by (with_reducible repeat (first | apply Kd.R_alloc | apply Kd.R_drewN | apply Kd.R_drew)); exact Kd.R_mono HO_10.out (fun _ hk => hk.1)⟩, ⟨by (with_reducible repeat (first | refine blk_drewN ?_ _ | refine blk_drew ?_ | refine blk_alloc ?_ _)); exact BK682.out⟩, ⟨by repeat (first | (with_reducible first | exact HB.out | apply below_alloc | apply pw_below_drewN | apply below_drew1 | refine below_set ?_ GE682.out) | exact HB.out)⟩⟩
          ·rw [if_neg c59] at H
           have c59b0 : (t703 != t693) = false := by simpa using c59
           (try (have c59b1 : decide (t703 = t693) = true := by simpa using c59))
           (try (have c59b2 : (t703 == t693) = true := by simpa using c59))
           clear c59
           have H' := Aside0.mk H
           clear H
           obtain ⟨Ao63, co63, eo63⟩ := Kd.R_slice HO_10.out
           subst eo63
           obtain ⟨Ao64, co64, eo64⟩ := Kd.R_slice HO_6.out
           subst eo64
           go_wp2_with (first | (go_at_call 18; (with_reducible refine (laws_eqScoreS.calls kj18 _ _ t700 _ _ t690 true _ ?side1 ?side2 ?side3 ?side4 A57.out).mono ?_); (case side1 => repeat (first | exact (Kd.R_reads' HO_10.out).2.2 | (with_reducible refine Kd.C_alloc ?_ _) | (with_reducible refine Kd.C_drewN ?_ _) | (with_reducible refine Kd.C_drew ?_))); (case side2 => exact (Kd.R_reads' HO_10.out).2.1); (case side3 => repeat (first | exact (Kd.R_reads' HO_6.out).2.2 | (with_reducible refine Kd.C_alloc ?_ _) | (with_reducible refine Kd.C_drewN ?_ _) | (with_reducible refine Kd.C_drew ?_))); (case side4 => exact (Kd.R_reads' HO_6.out).2.1); rintro e w65 ⟨rfl, hb⟩; have n0_ := Aside0.mk (Kd.R_below (by (with_reducible repeat (first | apply Kd.R_alloc | apply Kd.R_drewN | apply Kd.R_drew)); exact HO_6.out) hb); have n1_ := Aside0.mk (Kd.R_below (by (with_reducible repeat (first | apply Kd.R_alloc | apply Kd.R_drewN | apply Kd.R_drew)); exact HO_9.out) hb); have n2_ := Aside0.mk (Kd.R_below (by (with_reducible repeat (first | apply Kd.R_alloc | apply Kd.R_drewN | apply Kd.R_drew)); exact HO_10.out) hb); have n3_ := Aside0.mk (Kd.R_below (by (with_reducible repeat (first | apply Kd.R_alloc | apply Kd.R_drewN | apply Kd.R_drew)); exact HO708.out) hb); have n4_ := Aside0.mk (blk_below (g := gb682) (o := .cells #[.string a1_0, .int .i64 a1_1] 46 (0, 0)) (by (with_reducible repeat (first | refine blk_drewN ?_ _ | refine blk_drew ?_ | refine blk_alloc ?_ _)); exact BK682.out) hb); have n5_ := Aside0.mk (below_step (by repeat (first | (with_reducible first | exact HB.out | apply below_alloc | apply pw_below_drewN | apply below_drew1 | refine below_set ?_ GE682.out) | exact HB.out)) hb); clear HO_6; clear HO_9; clear HO_10; clear HO708; clear BK682; clear HB; have HO_6 := n0_; have HO_9 := n1_; have HO_10 := n2_; have HO708 := n3_; have BK682 := n4_; have HB := n5_; clear n0_ n1_ n2_ n3_ n4_ n5_; (try clear hb); (try clear hb2); (try clear hk); (try clear hi)))
           go_meet
           case rel => exact ⟨_, ((t704 != t694)), (by first | rfl | (simp; done) | (simp [*]; done)), H', ⟨by have := HJ18.out; first | omega | exact Nat.le_refl _⟩, ⟨by (with_reducible repeat (first | apply Kd.R_alloc | apply Kd.R_drewN | apply Kd.R_drew)); exact Kd.R_mono HO_6.out (fun _ hk => hk.2.1)⟩, ⟨by (with_reducible repeat (first | apply Kd.R_alloc | apply Kd.R_drewN | apply Kd.R_drew)); exact Kd.R_mono HO_10.out (fun _ hk => hk.1)⟩, ⟨by (with_reducible repeat (first | refine blk_drewN ?_ _ | refine blk_drew ?_ | refine blk_alloc ?_ _)); exact BK682.out⟩, ⟨by repeat (first | (with_reducible first | exact HB.out | apply below_alloc | apply pw_below_drewN | apply below_drew1 | refine below_set ?_ GE682.out) | exact HB.out)⟩⟩
         ·replace c58 := Bool.eq_false_iff.mpr c58
          subst c58
          have H1 : (laws_FnExactScoresPut.j1 kj18 l0 t690 t693 t694 t700 true a1_0 a1_1) = some r := by rw [if_neg (show ¬ (false = true) by decide)] at H; exact H
          clear H
          have H := H1
          clear H1
          have H' := Aside0.mk H
          clear H
          obtain ⟨Ao66, co66, eo66⟩ := Kd.R_slice HO_10.out
          subst eo66
          obtain ⟨Ao67, co67, eo67⟩ := Kd.R_slice HO_6.out
          subst eo67
          go_wp2_with (first | (go_at_call 18; (with_reducible refine (laws_eqScoreS.calls kj18 _ _ t700 _ _ t690 false _ ?side1 ?side2 ?side3 ?side4 A57.out).mono ?_); (case side1 => repeat (first | exact (Kd.R_reads' HO_10.out).2.2 | (with_reducible refine Kd.C_alloc ?_ _) | (with_reducible refine Kd.C_drewN ?_ _) | (with_reducible refine Kd.C_drew ?_))); (case side2 => exact (Kd.R_reads' HO_10.out).2.1); (case side3 => repeat (first | exact (Kd.R_reads' HO_6.out).2.2 | (with_reducible refine Kd.C_alloc ?_ _) | (with_reducible refine Kd.C_drewN ?_ _) | (with_reducible refine Kd.C_drew ?_))); (case side4 => exact (Kd.R_reads' HO_6.out).2.1); rintro e w68 ⟨rfl, hb⟩; have n0_ := Aside0.mk (Kd.R_below (by (with_reducible repeat (first | apply Kd.R_alloc | apply Kd.R_drewN | apply Kd.R_drew)); exact HO_6.out) hb); have n1_ := Aside0.mk (Kd.R_below (by (with_reducible repeat (first | apply Kd.R_alloc | apply Kd.R_drewN | apply Kd.R_drew)); exact HO_9.out) hb); have n2_ := Aside0.mk (Kd.R_below (by (with_reducible repeat (first | apply Kd.R_alloc | apply Kd.R_drewN | apply Kd.R_drew)); exact HO_10.out) hb); have n3_ := Aside0.mk (Kd.R_below (by (with_reducible repeat (first | apply Kd.R_alloc | apply Kd.R_drewN | apply Kd.R_drew)); exact HO708.out) hb); have n4_ := Aside0.mk (blk_below (g := gb682) (o := .cells #[.string a1_0, .int .i64 a1_1] 46 (0, 0)) (by (with_reducible repeat (first | refine blk_drewN ?_ _ | refine blk_drew ?_ | refine blk_alloc ?_ _)); exact BK682.out) hb); have n5_ := Aside0.mk (below_step (by repeat (first | (with_reducible first | exact HB.out | apply below_alloc | apply pw_below_drewN | apply below_drew1 | refine below_set ?_ GE682.out) | exact HB.out)) hb); clear HO_6; clear HO_9; clear HO_10; clear HO708; clear BK682; clear HB; have HO_6 := n0_; have HO_9 := n1_; have HO_10 := n2_; have HO708 := n3_; have BK682 := n4_; have HB := n5_; clear n0_ n1_ n2_ n3_ n4_ n5_; (try clear hb); (try clear hb2); (try clear hk); (try clear hi)))
          go_meet
          case rel => exact ⟨_, (true), (by first | rfl | (simp; done) | (simp [*]; done)), H', ⟨by have := HJ18.out; first | omega | exact Nat.le_refl _⟩, ⟨by (with_reducible repeat (first | apply Kd.R_alloc | apply Kd.R_drewN | apply Kd.R_drew)); exact Kd.R_mono HO_6.out (fun _ hk => hk.2.1)⟩, ⟨by (with_reducible repeat (first | apply Kd.R_alloc | apply Kd.R_drewN | apply Kd.R_drew)); exact Kd.R_mono HO_10.out (fun _ hk => hk.1)⟩, ⟨by (with_reducible repeat (first | refine blk_drewN ?_ _ | refine blk_drew ?_ | refine blk_alloc ?_ _)); exact BK682.out⟩, ⟨by repeat (first | (with_reducible first | exact HB.out | apply below_alloc | apply pw_below_drewN | apply below_drew1 | refine below_set ?_ GE682.out) | exact HB.out)⟩⟩
       case rest =>
        clear HC51
        try clear c1
        try clear c2
        try clear p2
        try clear c3
        try clear c4
        try clear c4b0
        try clear c5
        try clear c8
        try clear c8b0
        try clear c12
        try clear c14
        try clear c16
        try clear c18
        try clear c23
        try clear c35
        try clear c36
        try clear c36b0
        try clear c36b1
        try clear c36b2
        try clear c37
        try clear c38
        try clear c46
        try clear c49
        try clear c56
        try clear c56b0
        try clear c58
        try clear c59
        try clear c59b0
        try clear c59b1
        try clear c59b2
        try clear hcz11_0
        try clear hcz11_1
        try clear hcz22_0
        try clear hcz22_1
        try clear hcz30_0
        try clear hcz30_1
        try clear hfz11_0
        try clear hfz11_1
        try clear hfz22_0
        try clear hfz22_1
        try clear hfz30_0
        try clear hfz30_1
        try clear p2
        obtain ⟨kq, x87_50, rfl, HA, HJ50, HO_6, HO_10, BK682, HB⟩ := hcut
        cases kq with
        | zero => exact absurd HA.out (by simp [laws_FnExactScoresPut.j1])
        | succ kj50 =>
         have H := HA.out
         clear HA
         simp only [laws_FnExactScoresPut.j1] at H
         by_cases c69 : x87_50 = true
         ·subst c69
          have H1 : (some false) = some r := by rw [if_pos rfl] at H; exact H
          clear H
          have H := H1
          clear H1
          obtain rfl := Option.some.inj H
          cases hr_
         ·replace c69 := Bool.eq_false_iff.mpr c69
          subst c69
          have H1 : ((laws_markScoreS.f kj50 t700 1).bind fun bt713 => ((laws_heldScoreS.f kj50 bt713.2 1).bind fun t715 => (if t715 < 0 then (some false) else (if t715 = bt713.1 then ((laws_toScoreS.f kj50 l0).bind fun t716 => ((laws_toScore.f a1_0 a1_1).bind fun bt719 => ((impl_ScoresPut.f kj50 t716 bt719.1 bt719.2).bind fun bt721 => ((laws_eqScoreS.f kj50 bt721.1 t690).bind fun t726 => (if t726 = true then (if (bt721.2.1 != t693) = true then (laws_FnExactScoresPut.j2 kj50 bt713.2 bt713.1 true) else (laws_FnExactScoresPut.j2 kj50 bt713.2 bt713.1 (bt721.2.2 != t694))) else (laws_FnExactScoresPut.j2 kj50 bt713.2 bt713.1 true)))))) else (some false))))) = some r := by rw [if_neg (show ¬ (false = true) by decide)] at H; exact H
          clear H
          have H := H1
          clear H1
          replace H := Option.bind_eq_some_iff.mp H
          obtain ⟨⟨t713, t714⟩, A700, H⟩ := H
          replace H : ((laws_heldScoreS.f kj50 t714 1).bind fun t715 => (if t715 < 0 then (some false) else (if t715 = t713 then ((laws_toScoreS.f kj50 l0).bind fun t716 => ((laws_toScore.f a1_0 a1_1).bind fun bt719 => ((impl_ScoresPut.f kj50 t716 bt719.1 bt719.2).bind fun bt721 => ((laws_eqScoreS.f kj50 bt721.1 t690).bind fun t726 => (if t726 = true then (if (bt721.2.1 != t693) = true then (laws_FnExactScoresPut.j2 kj50 t714 t713 true) else (laws_FnExactScoresPut.j2 kj50 t714 t713 (bt721.2.2 != t694))) else (laws_FnExactScoresPut.j2 kj50 t714 t713 true)))))) else (some false)))) = some r := H
          have A70 := Aside0.mk A700
          clear A700
          replace H := Option.bind_eq_some_iff.mp H
          obtain ⟨t715, A710, H⟩ := H
          replace H : (if t715 < 0 then (some false) else (if t715 = t713 then ((laws_toScoreS.f kj50 l0).bind fun t716 => ((laws_toScore.f a1_0 a1_1).bind fun bt719 => ((impl_ScoresPut.f kj50 t716 bt719.1 bt719.2).bind fun bt721 => ((laws_eqScoreS.f kj50 bt721.1 t690).bind fun t726 => (if t726 = true then (if (bt721.2.1 != t693) = true then (laws_FnExactScoresPut.j2 kj50 t714 t713 true) else (laws_FnExactScoresPut.j2 kj50 t714 t713 (bt721.2.2 != t694))) else (laws_FnExactScoresPut.j2 kj50 t714 t713 true)))))) else (some false))) = some r := H
          have A71 := Aside0.mk A710
          clear A710
          by_cases c72 : t715 < 0
          ·rw [if_pos c72] at H
           have c72b0 : decide (t715 < 0) = true := decide_eq_true c72
           clear c72
           obtain rfl := Option.some.inj H
           cases hr_
          ·rw [if_neg c72] at H
           have c72b0 : decide (t715 < 0) = false := decide_eq_false c72
           clear c72
           by_cases c76 : t715 = t713
           ·rw [if_pos c76] at H
            have c76b0 : (t715 == t713) = true := beq_iff_eq.mpr c76
            have c76b1 : (t715 != t713) = false := bne_eq_false_iff_eq.mpr c76
            clear c76
            replace H := Option.bind_eq_some_iff.mp H
            obtain ⟨t716, A770, H⟩ := H
            replace H : ((laws_toScore.f a1_0 a1_1).bind fun bt719 => ((impl_ScoresPut.f kj50 t716 bt719.1 bt719.2).bind fun bt721 => ((laws_eqScoreS.f kj50 bt721.1 t690).bind fun t726 => (if t726 = true then (if (bt721.2.1 != t693) = true then (laws_FnExactScoresPut.j2 kj50 t714 t713 true) else (laws_FnExactScoresPut.j2 kj50 t714 t713 (bt721.2.2 != t694))) else (laws_FnExactScoresPut.j2 kj50 t714 t713 true))))) = some r := H
            have A77 := Aside0.mk A770
            clear A770
            replace H := Option.bind_eq_some_iff.mp H
            obtain ⟨⟨t719, t720⟩, A780, H⟩ := H
            replace H : ((impl_ScoresPut.f kj50 t716 t719 t720).bind fun bt721 => ((laws_eqScoreS.f kj50 bt721.1 t690).bind fun t726 => (if t726 = true then (if (bt721.2.1 != t693) = true then (laws_FnExactScoresPut.j2 kj50 t714 t713 true) else (laws_FnExactScoresPut.j2 kj50 t714 t713 (bt721.2.2 != t694))) else (laws_FnExactScoresPut.j2 kj50 t714 t713 true)))) = some r := H
            have A78 := Aside0.mk A780
            clear A780
            replace H := Option.bind_eq_some_iff.mp H
            obtain ⟨⟨t721, t724, t725⟩, A790, H⟩ := H
            replace H : ((laws_eqScoreS.f kj50 t721 t690).bind fun t726 => (if t726 = true then (if (t724 != t693) = true then (laws_FnExactScoresPut.j2 kj50 t714 t713 true) else (laws_FnExactScoresPut.j2 kj50 t714 t713 (t725 != t694))) else (laws_FnExactScoresPut.j2 kj50 t714 t713 true))) = some r := H
            have A79 := Aside0.mk A790
            clear A790
            have HC80 := Aside0.mk H
            clear H
            obtain ⟨Ao81, co81, eo81⟩ := Kd.R_slice HO_10.out
            subst eo81
            try go_wp2_with (first | ((with_reducible refine gate_callee (f := 23) rfl ?_); refine goesL_ (some 90) rfl rfl Try.func23 (by kernel_rfl) rfl #[.slice Ao81 t700.length co81, .int .i64 1] rfl (by (try simp only [List.map_toArray, List.map_cons, List.map_nil]); first | done | rfl | (simp only [List.length_drop, List.length_take]; rfl)) ?_; (with_reducible refine (laws_markScoreS.calls kj50 (fun k_ => some k_ = (.slice Ao81 t700.length co81 : Value).ownBlock) (.slice Ao81 t700.length co81) t700 1 t713 t714 w _ ?side1 ?side2 A70.out).mono ?_); (case side1 => repeat (first | (with_reducible first | exact HB.out | apply below_alloc | apply pw_below_drewN | apply below_drew1 | refine below_set ?_ GE682.out) | exact HB.out)); (case side2 => exact Kd.R_tight rfl HO_10.out); rintro e w82 ⟨rfl, hy0, hb, hkp⟩; refine ⟨_, rfl, ?_⟩; have n0_ := Aside0.mk (Kd.R_mono (ok' := fun k_ => some k_ ≠ (.slice Ao81 t700.length co81 : Value).ownBlock) (Kd.R_keptB (HO_6.out) hkp (fun k_ hk_ hs_ => (hk_) hs_)) (fun k_ hk_ => hk_.1)); have n1_ := Aside0.mk (Kd.R_reok rfl hy0 (fun k_ e_ => HO_10.out.1 k_ e_)); have n2_ := Aside0.mk (blk_kept (by (with_reducible repeat (first | refine blk_drewN ?_ _ | refine blk_drew ?_ | refine blk_alloc ?_ _)); exact BK682.out) hkp (fun hs_ => (fun e_ => (Kd.R_ne HO_10.out BK682.out (by decide)) e_) hs_)); have n3_ := Aside0.mk (hb); clear HO_6; clear HO_10; clear BK682; clear HB; have HO_6 := n0_; have HO_10 := n1_; have BK682 := n2_; have HB := n3_; clear n0_ n1_ n2_ n3_; (try clear hb); (try clear hkp); (try clear hy0)) | ((with_reducible refine gate_callee (f := 24) rfl ?_); refine goesL_ (some 93) rfl rfl Try.func24 (by kernel_rfl) rfl #[.slice Ao81 t714.length co81, .int .i64 1] rfl (by (try simp only [List.map_toArray, List.map_cons, List.map_nil]); first | done | (rw [show t714.length = t700.length from (Kd.R_reads' HO_10.out).1.symm] <;> rfl) | rfl | (simp only [List.length_drop, List.length_take]; rfl)) ?_; (with_reducible refine (laws_heldScoreS.calls kj50 _ _ t714 1 t715 _ ?side1 ?side2 A71.out).mono ?_); (case side1 => repeat (first | exact (Kd.R_reads' HO_10.out).2.2 | (with_reducible refine Kd.C_alloc ?_ _) | (with_reducible refine Kd.C_drewN ?_ _) | (with_reducible refine Kd.C_drew ?_))); (case side2 => rw [show t714.length = t700.length from (Kd.R_reads' HO_10.out).1.symm]; exact (Kd.R_reads' HO_10.out).2.1); rintro e w83 ⟨rfl, hb⟩; refine ⟨_, rfl, ?_⟩; have n0_ := Aside0.mk (Kd.R_below (by (with_reducible repeat (first | apply Kd.R_alloc | apply Kd.R_drewN | apply Kd.R_drew)); exact HO_6.out) hb); have n1_ := Aside0.mk (Kd.R_below (by (with_reducible repeat (first | apply Kd.R_alloc | apply Kd.R_drewN | apply Kd.R_drew)); exact HO_10.out) hb); have n2_ := Aside0.mk (blk_below (g := gb682) (o := .cells #[.string a1_0, .int .i64 a1_1] 46 (0, 0)) (by (with_reducible repeat (first | refine blk_drewN ?_ _ | refine blk_drew ?_ | refine blk_alloc ?_ _)); exact BK682.out) hb); have n3_ := Aside0.mk (below_step (by repeat (first | (with_reducible first | exact HB.out | apply below_alloc | apply pw_below_drewN | apply below_drew1 | refine below_set ?_ GE682.out) | exact HB.out)) hb); clear HO_6; clear HO_10; clear BK682; clear HB; have HO_6 := n0_; have HO_10 := n1_; have BK682 := n2_; have HB := n3_; clear n0_ n1_ n2_ n3_; (try clear hb); (try clear hb2); (try clear hk); (try clear hi)))
            have n0_ := Aside0.mk (Kd.R_drew HO_6.out)
            have n1_ := Aside0.mk (Kd.R_drew HO_10.out)
            have n2_ := Aside0.mk (blk_drew BK682.out)
            have n3_ := Aside0.mk (below_drew1 HB.out)
            clear HO_6
            clear HO_10
            clear BK682
            clear HB
            have HO_6 := n0_
            have HO_10 := n1_
            have BK682 := n2_
            have HB := n3_
            clear n0_ n1_ n2_ n3_
            refine start_ (n := 12) (S := fun w' => w'.cell? ⟨gb682, 0, none⟩ = some (.string a1_0) ∧ w'.cell? ⟨gb682, 1, none⟩ = some (.int .i64 a1_1)) (ds := []) #[false, false, false, false, false, false, false, false, false, false, false, false] (by kernel_rfl) rfl rfl ⟨(blk_cell BK682.out 0).trans rfl, (blk_cell BK682.out 1).trans rfl⟩ (fun hHeld => ?_); refine with_tabW laws_FnExactScoresPut.tab27 laws_FnExactScoresPut.bits27 (fun HT_ HW_ => ?_)
            generalize w83.drew = w84 at HO_6 HO_10 BK682 HB hHeld ⊢
            refine pure_ (i := 0) (N := some 100) (v := ?_) (a' := ?_) #[true, false, false, false, false, false, false, false, false, false, false, false] rfl rfl (any_of HT_.out (by kernel_rfl)) (fun _ _ _ h => h) (Or.inl ⟨by rfl, ?_⟩) ?_ ?_
            rotate_left
            ·intro w'
             go_simp
             with_reducible rfl
            rotate_left
            ·simp only [Act.put, List.setIfInBounds_toArray, List.set_cons_zero, List.set_cons_succ, i64_w, i32_w]
             rfl
            refine take_ (i := 2) (N := some 102) (v := ?_) (a' := ?_) #[true, false, true, false, false, false, false, false, false, false, false, false] rfl rfl (take_ofW HT_.out HW_.out (by kernel_rfl)) (fun _ _ _ h => h) (Or.inl ⟨by rfl, ?_⟩) hHeld ?_ ?_
            rotate_left
            ·rintro w' ⟨s0, s1⟩
             go_simp
             with_reducible rfl
            rotate_left
            ·simp only [Act.put, List.setIfInBounds_toArray, List.set_cons_zero, List.set_cons_succ, i64_w, i32_w]
             rfl
            refine one_ (i := 1) (N := some 101) #[true, true, true, false, false, false, false, false, false, false, false, false] rfl rfl (one_of HT_.out (by kernel_rfl)) (by decide) (fun K hK => ?_)
            refine goes_ Try.func16 (by kernel_rfl) rfl #[.slice A0 l0.length c0] (by rfl) rfl rfl (by (try simp only [List.map_toArray, List.map_cons, List.map_nil]); first | done | rfl | (simp only [List.length_drop, List.length_take]; rfl)) ?_
            with_reducible refine (laws_toScoreS.calls kj50 _ _ l0 t716 _ ?side1 ?side2 A77.out).mono ?_
            (case side1 => repeat (first | exact (Kd.C_below HR0.out HB.out) | (with_reducible refine Kd.C_alloc ?_ _) | (with_reducible refine Kd.C_drewN ?_ _) | (with_reducible refine Kd.C_drew ?_)))
            (case side2 => exact HC0.out)
            rintro e w85 ⟨v717, rfl, ho0, hb⟩
            refine ⟨_, rfl, ?_⟩
            have n0_ := Aside0.mk (Kd.R_elder' (by (with_reducible repeat (first | apply Kd.R_alloc | apply Kd.R_drewN | apply Kd.R_drew)); exact HO_6.out) (Kd.R_base ho0) hb)
            have n1_ := Aside0.mk (Kd.R_elder' (by (with_reducible repeat (first | apply Kd.R_alloc | apply Kd.R_drewN | apply Kd.R_drew)); exact HO_10.out) (Kd.R_base ho0) hb)
            have n2_ := Aside0.mk (Kd.R_lower (Kd.R_new' (Kd.R_new' ho0 (Kd.R_lt (by (with_reducible repeat (first | apply Kd.R_alloc | apply Kd.R_drewN | apply Kd.R_drew)); exact HO_6.out))) (Kd.R_lt (by (with_reducible repeat (first | apply Kd.R_alloc | apply Kd.R_drewN | apply Kd.R_drew)); exact HO_10.out))) (below_size (by repeat (first | (with_reducible first | exact HB.out | apply below_alloc | apply pw_below_drewN | apply below_drew1 | refine below_set ?_ GE682.out) | exact HB.out))))
            have n3_ := Aside0.mk (blk_below (g := gb682) (o := .cells #[.string a1_0, .int .i64 a1_1] 46 (0, 0)) (by (with_reducible repeat (first | refine blk_drewN ?_ _ | refine blk_drew ?_ | refine blk_alloc ?_ _)); exact BK682.out) hb)
            have n4_ := Aside0.mk (below_step (by repeat (first | (with_reducible first | exact HB.out | apply below_alloc | apply pw_below_drewN | apply below_drew1 | refine below_set ?_ GE682.out) | exact HB.out)) hb)
            clear HO_6
            clear HO_10
            clear BK682
            clear HB
            have HO_6 := n0_
            have HO_10 := n1_
            have HO718 := n2_
            have BK682 := n3_
            have HB := n4_
            clear n0_ n1_ n2_ n3_ n4_
            (try clear hb)
            (try clear hb2)
            (try clear hk)
            (try clear hi)
            (try clear ho0)
            refine hK.out _ _ ⟨(blk_cell BK682.out 0).trans rfl, (blk_cell BK682.out 1).trans rfl⟩ (fun hHeld => ?_)
            clear hK K
            refine norm_ (a' := ?_) ?_ ?_
            rotate_left
            ·show Act.put _ (some 101) _ = _
             simp only [Act.put, List.setIfInBounds_toArray, List.set_cons_zero, List.set_cons_succ, i64_w, i32_w]
             rfl
            refine one_ (i := 3) (N := some 103) #[true, true, true, true, false, false, false, false, false, false, false, false] rfl rfl (one_of HT_.out (by kernel_rfl)) (by decide) (fun K hK => ?_)
            refine goes_ Try.func37 (by kernel_rfl) rfl #[.agg #[.string a1_0, .int .i64 a1_1]] (by rfl) rfl rfl (by (try simp only [List.map_toArray, List.map_cons, List.map_nil]); first | done | rfl | (simp only [List.length_drop, List.length_take]; rfl)) ?_
            with_reducible refine (laws_toScore.calls a1_0 a1_1 t719 t720 _ A78.out).mono ?_
            rintro e w86 ⟨rfl, hb⟩
            refine ⟨_, rfl, ?_⟩
            have n0_ := Aside0.mk (Kd.R_below (by (with_reducible repeat (first | apply Kd.R_alloc | apply Kd.R_drewN | apply Kd.R_drew)); exact HO_6.out) hb)
            have n1_ := Aside0.mk (Kd.R_below (by (with_reducible repeat (first | apply Kd.R_alloc | apply Kd.R_drewN | apply Kd.R_drew)); exact HO_10.out) hb)
            have n2_ := Aside0.mk (Kd.R_below (by (with_reducible repeat (first | apply Kd.R_alloc | apply Kd.R_drewN | apply Kd.R_drew)); exact HO718.out) hb)
            have n3_ := Aside0.mk (blk_below (g := gb682) (o := .cells #[.string a1_0, .int .i64 a1_1] 46 (0, 0)) (by (with_reducible repeat (first | refine blk_drewN ?_ _ | refine blk_drew ?_ | refine blk_alloc ?_ _)); exact BK682.out) hb)
            have n4_ := Aside0.mk (below_step (by repeat (first | (with_reducible first | exact HB.out | apply below_alloc | apply pw_below_drewN | apply below_drew1 | refine below_set ?_ GE682.out) | exact HB.out)) hb)
            clear HO_6
            clear HO_10
            clear HO718
            clear BK682
            clear HB
            have HO_6 := n0_
            have HO_10 := n1_
            have HO718 := n2_
            have BK682 := n3_
            have HB := n4_
            clear n0_ n1_ n2_ n3_ n4_
            (try clear hb)
            (try clear hb2)
            (try clear hk)
            (try clear hi)
            obtain ⟨Ao87, co87, eo87⟩ := Kd.R_slice HO718.out
            (first | subst eo87 | (injection eo87 with f1_ f2_ f3_; have f4_ := f1_.symm; have f5_ := f3_.symm; clear f1_ f2_ f3_; subst f4_; subst f5_))
            refine hK.out _ _ ⟨(blk_cell BK682.out 0).trans rfl, (blk_cell BK682.out 1).trans rfl⟩ (fun hHeld => ?_)
            clear hK K
            refine norm_ (a' := ?_) ?_ ?_
            rotate_left
            ·show Act.put _ (some 103) _ = _
             simp only [Act.put, List.setIfInBounds_toArray, List.set_cons_zero, List.set_cons_succ, i64_w, i32_w]
             rfl
            refine one_ (i := 4) (N := some 104) #[true, true, true, true, true, false, false, false, false, false, false, false] rfl rfl (one_of HT_.out (by kernel_rfl)) (by decide) (fun K hK => ?_)
            refine goes_ Try.func38 (by kernel_rfl) rfl #[.slice Ao87 t716.length co87, .agg #[.string t719, .int .i64 t720]] (by rfl) rfl rfl (by (try simp only [List.map_toArray, List.map_cons, List.map_nil]); first | done | rfl | (simp only [List.length_drop, List.length_take]; rfl)) ?_
            with_reducible refine (impl_ScoresPut.calls kj50 _ _ t716 t719 t720 t721 t724 t725 _ ?side1 ?side2 A79.out).mono ?_
            (case side1 => repeat (first | exact (Kd.R_reads' HO718.out).2.2 | (with_reducible refine Kd.C_alloc ?_ _) | (with_reducible refine Kd.C_drewN ?_ _) | (with_reducible refine Kd.C_drew ?_)))
            (case side2 => exact (Kd.R_reads' HO718.out).2.1)
            rintro e w88 ⟨v722, rfl, ho0, hb⟩
            refine ⟨_, rfl, ?_⟩
            have n0_ := Aside0.mk (Kd.R_elder' (by (with_reducible repeat (first | apply Kd.R_alloc | apply Kd.R_drewN | apply Kd.R_drew)); exact HO_6.out) (Kd.R_base ho0) hb)
            have n1_ := Aside0.mk (Kd.R_elder' (by (with_reducible repeat (first | apply Kd.R_alloc | apply Kd.R_drewN | apply Kd.R_drew)); exact HO_10.out) (Kd.R_base ho0) hb)
            have n2_ := Aside0.mk (Kd.R_elder' (by (with_reducible repeat (first | apply Kd.R_alloc | apply Kd.R_drewN | apply Kd.R_drew)); exact HO718.out) (Kd.R_base ho0) hb)
            have n3_ := Aside0.mk (Kd.R_lower (Kd.R_new' (Kd.R_new' (Kd.R_new' ho0 (Kd.R_lt (by (with_reducible repeat (first | apply Kd.R_alloc | apply Kd.R_drewN | apply Kd.R_drew)); exact HO_6.out))) (Kd.R_lt (by (with_reducible repeat (first | apply Kd.R_alloc | apply Kd.R_drewN | apply Kd.R_drew)); exact HO_10.out))) (Kd.R_lt (by (with_reducible repeat (first | apply Kd.R_alloc | apply Kd.R_drewN | apply Kd.R_drew)); exact HO718.out))) (below_size (by repeat (first | (with_reducible first | exact HB.out | apply below_alloc | apply pw_below_drewN | apply below_drew1 | refine below_set ?_ GE682.out) | exact HB.out))))
            have n4_ := Aside0.mk (blk_below (g := gb682) (o := .cells #[.string a1_0, .int .i64 a1_1] 46 (0, 0)) (by (with_reducible repeat (first | refine blk_drewN ?_ _ | refine blk_drew ?_ | refine blk_alloc ?_ _)); exact BK682.out) hb)
            have n5_ := Aside0.mk (below_step (by repeat (first | (with_reducible first | exact HB.out | apply below_alloc | apply pw_below_drewN | apply below_drew1 | refine below_set ?_ GE682.out) | exact HB.out)) hb)
            clear HO_6
            clear HO_10
            clear HO718
            clear BK682
            clear HB
            have HO_6 := n0_
            have HO_10 := n1_
            have HO718 := n2_
            have HO723 := n3_
            have BK682 := n4_
            have HB := n5_
            clear n0_ n1_ n2_ n3_ n4_ n5_
            (try clear hb)
            (try clear hb2)
            (try clear hk)
            (try clear hi)
            (try clear ho0)
            refine hK.out _ _ ⟨(blk_cell BK682.out 0).trans rfl, (blk_cell BK682.out 1).trans rfl⟩ (fun hHeld => ?_)
            clear hK K
            refine norm_ (a' := ?_) ?_ ?_
            rotate_left
            ·show Act.put _ (some 104) _ = _
             simp only [Act.put, List.setIfInBounds_toArray, List.set_cons_zero, List.set_cons_succ, i64_w, i32_w]
             rfl
            refine pure_ (i := 5) (N := some 99) (v := ?_) (a' := ?_) #[true, true, true, true, true, true, false, false, false, false, false, false] rfl rfl (any_of HT_.out (by kernel_rfl)) (fun _ _ _ h => h) (Or.inl ⟨by rfl, ?_⟩) ?_ ?_
            rotate_left
            ·intro w'
             go_simp
             with_reducible rfl
            rotate_left
            ·simp only [Act.put, List.setIfInBounds_toArray, List.set_cons_zero, List.set_cons_succ, i64_w, i32_w]
             rfl
            refine pure_ (i := 6) (N := some 105) (v := ?_) (a' := ?_) #[true, true, true, true, true, true, true, false, false, false, false, false] rfl rfl (any_of HT_.out (by kernel_rfl)) (fun _ _ _ h => h) (Or.inl ⟨by rfl, ?_⟩) ?_ ?_
            rotate_left
            ·intro w'
             go_simp
             with_reducible rfl
            rotate_left
            ·simp only [Act.put, List.setIfInBounds_toArray, List.set_cons_zero, List.set_cons_succ, i64_w, i32_w]
             rfl
            refine pure_ (i := 7) (N := some 106) (v := ?_) (a' := ?_) #[true, true, true, true, true, true, true, true, false, false, false, false] rfl rfl (any_of HT_.out (by kernel_rfl)) (fun _ _ _ h => h) (Or.inl ⟨by rfl, ?_⟩) ?_ ?_
            rotate_left
            ·intro w'
             go_simp
             with_reducible rfl
            rotate_left
            ·simp only [Act.put, List.setIfInBounds_toArray, List.set_cons_zero, List.set_cons_succ, i64_w, i32_w]
             rfl
            refine pure_ (i := 8) (N := some 107) (v := ?_) (a' := ?_) #[true, true, true, true, true, true, true, true, true, false, false, false] rfl rfl (any_of HT_.out (by kernel_rfl)) (fun _ _ _ h => h) (Or.inl ⟨by rfl, ?_⟩) ?_ ?_
            rotate_left
            ·intro w'
             go_simp
             with_reducible rfl
            rotate_left
            ·simp only [Act.put, List.setIfInBounds_toArray, List.set_cons_zero, List.set_cons_succ, i64_w, i32_w]
             rfl
            refine pure_ (i := 9) (N := some 16) (v := ?_) (a' := ?_) #[true, true, true, true, true, true, true, true, true, true, false, false] rfl rfl (any_of HT_.out (by kernel_rfl)) (fun _ _ _ h => h) (Or.inl ⟨by rfl, ?_⟩) ?_ ?_
            rotate_left
            ·intro w'
             go_simp
             with_reducible rfl
            rotate_left
            ·simp only [Act.put, List.setIfInBounds_toArray, List.set_cons_zero, List.set_cons_succ, i64_w, i32_w]
             rfl
            refine pure_ (i := 10) (N := some 17) (v := ?_) (a' := ?_) #[true, true, true, true, true, true, true, true, true, true, true, false] rfl rfl (any_of HT_.out (by kernel_rfl)) (fun _ _ _ h => h) (Or.inl ⟨by rfl, ?_⟩) ?_ ?_
            rotate_left
            ·intro w'
             go_simp
             with_reducible rfl
            rotate_left
            ·simp only [Act.put, List.setIfInBounds_toArray, List.set_cons_zero, List.set_cons_succ, i64_w, i32_w]
             rfl
            refine pure_ (i := 11) (N := some 18) (v := ?_) (a' := ?_) #[true, true, true, true, true, true, true, true, true, true, true, true] rfl rfl (any_of HT_.out (by kernel_rfl)) (fun _ _ _ h => h) (Or.inl ⟨by rfl, ?_⟩) ?_ ?_
            rotate_left
            ·intro w'
             go_simp
             with_reducible rfl
            rotate_left
            ·simp only [Act.put, List.setIfInBounds_toArray, List.set_cons_zero, List.set_cons_succ, i64_w, i32_w]
             rfl
            refine done_ (done_of HT_.out (by kernel_rfl)) ?_
            go_upto_region 28 with (fail)
            go_cut [121] (fun v121 wc => ∃ (kq : Nat) (x121_79 : Bool), v121 = .bool x121_79 ∧ Aside0 (laws_FnExactScoresPut.j2 kq t714 t713 x121_79 = some r) ∧ Aside0 (kq ≤ kj50) ∧ Aside0 (Kd.R k40 40 wc w.heap.size (fun _ => True) (.slice Ao81 t700.length co81) t714) ∧ Aside0 (wc.heap[gb682]? = some (.cells #[.string a1_0, .int .i64 a1_1] 46 (0, 0))) ∧ Aside0 (Below w.heap.size w wc))
            case first =>
             have H := HC80.out
             clear HC80
             replace H := Option.bind_eq_some_iff.mp H
             obtain ⟨t726, A890, H⟩ := H
             replace H : (if t726 = true then (if (t724 != t693) = true then (laws_FnExactScoresPut.j2 kj50 t714 t713 true) else (laws_FnExactScoresPut.j2 kj50 t714 t713 (t725 != t694))) else (laws_FnExactScoresPut.j2 kj50 t714 t713 true)) = some r := H
             have A89 := Aside0.mk A890
             clear A890
             by_cases c90 : t726 = true
             ·subst c90
              have H1 : (if (t724 != t693) = true then (laws_FnExactScoresPut.j2 kj50 t714 t713 true) else (laws_FnExactScoresPut.j2 kj50 t714 t713 (t725 != t694))) = some r := by rw [if_pos rfl] at H; exact H
              clear H
              have H := H1
              clear H1
              by_cases c91 : (t724 != t693) = true
              ·rw [if_pos c91] at H
               have c91b0 : (t724 != t693) = true := c91
               (try (have c91b1 : decide (t724 = t693) = false := by simpa using c91))
               (try (have c91b2 : (t724 == t693) = false := by simpa using c91))
               (try (have c91b3 : ¬ (t724 = t693) := by simpa using c91))
               clear c91
               (first | rw [c91b0] | (simp only [i64_w, i32_w]; rw [c91b0]) | skip)
               have H' := Aside0.mk H
               clear H
               obtain ⟨Ao92, co92, eo92⟩ := Kd.R_slice HO723.out
               subst eo92
               obtain ⟨Ao93, co93, eo93⟩ := Kd.R_slice HO_6.out
               subst eo93
               go_wp2_with (first | ((with_reducible refine gate_callee (f := 18) rfl ?_); refine goesL_ (some 110) rfl rfl Try.func18 (by kernel_rfl) rfl #[.slice Ao92 t721.length co92, .slice Ao93 t690.length co93] rfl (by (try simp only [List.map_toArray, List.map_cons, List.map_nil]); first | done | rfl | (simp only [List.length_drop, List.length_take]; rfl)) ?_; (with_reducible refine (laws_eqScoreS.calls kj50 _ _ t721 _ _ t690 true _ ?side1 ?side2 ?side3 ?side4 A89.out).mono ?_); (case side1 => repeat (first | exact (Kd.R_reads' HO723.out).2.2 | (with_reducible refine Kd.C_alloc ?_ _) | (with_reducible refine Kd.C_drewN ?_ _) | (with_reducible refine Kd.C_drew ?_))); (case side2 => exact (Kd.R_reads' HO723.out).2.1); (case side3 => repeat (first | exact (Kd.R_reads' HO_6.out).2.2 | (with_reducible refine Kd.C_alloc ?_ _) | (with_reducible refine Kd.C_drewN ?_ _) | (with_reducible refine Kd.C_drew ?_))); (case side4 => exact (Kd.R_reads' HO_6.out).2.1); rintro e w94 ⟨rfl, hb⟩; refine ⟨_, rfl, ?_⟩; have n0_ := Aside0.mk (Kd.R_below (by (with_reducible repeat (first | apply Kd.R_alloc | apply Kd.R_drewN | apply Kd.R_drew)); exact HO_6.out) hb); have n1_ := Aside0.mk (Kd.R_below (by (with_reducible repeat (first | apply Kd.R_alloc | apply Kd.R_drewN | apply Kd.R_drew)); exact HO_10.out) hb); have n2_ := Aside0.mk (Kd.R_below (by (with_reducible repeat (first | apply Kd.R_alloc | apply Kd.R_drewN | apply Kd.R_drew)); exact HO718.out) hb); have n3_ := Aside0.mk (Kd.R_below (by (with_reducible repeat (first | apply Kd.R_alloc | apply Kd.R_drewN | apply Kd.R_drew)); exact HO723.out) hb); have n4_ := Aside0.mk (blk_below (g := gb682) (o := .cells #[.string a1_0, .int .i64 a1_1] 46 (0, 0)) (by (with_reducible repeat (first | refine blk_drewN ?_ _ | refine blk_drew ?_ | refine blk_alloc ?_ _)); exact BK682.out) hb); have n5_ := Aside0.mk (below_step (by repeat (first | (with_reducible first | exact HB.out | apply below_alloc | apply pw_below_drewN | apply below_drew1 | refine below_set ?_ GE682.out) | exact HB.out)) hb); clear HO_6; clear HO_10; clear HO718; clear HO723; clear BK682; clear HB; have HO_6 := n0_; have HO_10 := n1_; have HO718 := n2_; have HO723 := n3_; have BK682 := n4_; have HB := n5_; clear n0_ n1_ n2_ n3_ n4_ n5_; (try clear hb); (try clear hb2); (try clear hk); (try clear hi)))
               go_meet
               case rel => exact ⟨_, (true), (by first | rfl | (simp; done) | (simp [*]; done)), H', ⟨by have := HJ18.out; have := HJ50.out; first | omega | exact Nat.le_refl _⟩, ⟨by (with_reducible repeat (first | apply Kd.R_alloc | apply Kd.R_drewN | apply Kd.R_drew)); exact Kd.R_mono HO_10.out (fun _ hk => trivial)⟩, ⟨by (with_reducible repeat (first | refine blk_drewN ?_ _ | refine blk_drew ?_ | refine blk_alloc ?_ _)); exact BK682.out⟩, ⟨by repeat (first | (with_reducible first | exact HB.out | apply below_alloc | apply pw_below_drewN | apply below_drew1 | refine below_set ?_ GE682.out) | exact HB.out)⟩⟩
              ·rw [if_neg c91] at H
               have c91b0 : (t724 != t693) = false := by simpa using c91
               (try (have c91b1 : decide (t724 = t693) = true := by simpa using c91))
               (try (have c91b2 : (t724 == t693) = true := by simpa using c91))
               clear c91
               (first | rw [c91b0] | (simp only [i64_w, i32_w]; rw [c91b0]) | skip)
               have H' := Aside0.mk H
               clear H
               obtain ⟨Ao95, co95, eo95⟩ := Kd.R_slice HO723.out
               subst eo95
               obtain ⟨Ao96, co96, eo96⟩ := Kd.R_slice HO_6.out
               subst eo96
               go_wp2_with (first | ((with_reducible refine gate_callee (f := 18) rfl ?_); refine goesL_ (some 110) rfl rfl Try.func18 (by kernel_rfl) rfl #[.slice Ao95 t721.length co95, .slice Ao96 t690.length co96] rfl (by (try simp only [List.map_toArray, List.map_cons, List.map_nil]); first | done | rfl | (simp only [List.length_drop, List.length_take]; rfl)) ?_; (with_reducible refine (laws_eqScoreS.calls kj50 _ _ t721 _ _ t690 true _ ?side1 ?side2 ?side3 ?side4 A89.out).mono ?_); (case side1 => repeat (first | exact (Kd.R_reads' HO723.out).2.2 | (with_reducible refine Kd.C_alloc ?_ _) | (with_reducible refine Kd.C_drewN ?_ _) | (with_reducible refine Kd.C_drew ?_))); (case side2 => exact (Kd.R_reads' HO723.out).2.1); (case side3 => repeat (first | exact (Kd.R_reads' HO_6.out).2.2 | (with_reducible refine Kd.C_alloc ?_ _) | (with_reducible refine Kd.C_drewN ?_ _) | (with_reducible refine Kd.C_drew ?_))); (case side4 => exact (Kd.R_reads' HO_6.out).2.1); rintro e w97 ⟨rfl, hb⟩; refine ⟨_, rfl, ?_⟩; have n0_ := Aside0.mk (Kd.R_below (by (with_reducible repeat (first | apply Kd.R_alloc | apply Kd.R_drewN | apply Kd.R_drew)); exact HO_6.out) hb); have n1_ := Aside0.mk (Kd.R_below (by (with_reducible repeat (first | apply Kd.R_alloc | apply Kd.R_drewN | apply Kd.R_drew)); exact HO_10.out) hb); have n2_ := Aside0.mk (Kd.R_below (by (with_reducible repeat (first | apply Kd.R_alloc | apply Kd.R_drewN | apply Kd.R_drew)); exact HO718.out) hb); have n3_ := Aside0.mk (Kd.R_below (by (with_reducible repeat (first | apply Kd.R_alloc | apply Kd.R_drewN | apply Kd.R_drew)); exact HO723.out) hb); have n4_ := Aside0.mk (blk_below (g := gb682) (o := .cells #[.string a1_0, .int .i64 a1_1] 46 (0, 0)) (by (with_reducible repeat (first | refine blk_drewN ?_ _ | refine blk_drew ?_ | refine blk_alloc ?_ _)); exact BK682.out) hb); have n5_ := Aside0.mk (below_step (by repeat (first | (with_reducible first | exact HB.out | apply below_alloc | apply pw_below_drewN | apply below_drew1 | refine below_set ?_ GE682.out) | exact HB.out)) hb); clear HO_6; clear HO_10; clear HO718; clear HO723; clear BK682; clear HB; have HO_6 := n0_; have HO_10 := n1_; have HO718 := n2_; have HO723 := n3_; have BK682 := n4_; have HB := n5_; clear n0_ n1_ n2_ n3_ n4_ n5_; (try clear hb); (try clear hb2); (try clear hk); (try clear hi)))
               go_meet
               case rel => exact ⟨_, ((t725 != t694)), (by first | rfl | (simp; done) | (simp [*]; done)), H', ⟨by have := HJ18.out; have := HJ50.out; first | omega | exact Nat.le_refl _⟩, ⟨by (with_reducible repeat (first | apply Kd.R_alloc | apply Kd.R_drewN | apply Kd.R_drew)); exact Kd.R_mono HO_10.out (fun _ hk => trivial)⟩, ⟨by (with_reducible repeat (first | refine blk_drewN ?_ _ | refine blk_drew ?_ | refine blk_alloc ?_ _)); exact BK682.out⟩, ⟨by repeat (first | (with_reducible first | exact HB.out | apply below_alloc | apply pw_below_drewN | apply below_drew1 | refine below_set ?_ GE682.out) | exact HB.out)⟩⟩
             ·replace c90 := Bool.eq_false_iff.mpr c90
              subst c90
              have H1 : (laws_FnExactScoresPut.j2 kj50 t714 t713 true) = some r := by rw [if_neg (show ¬ (false = true) by decide)] at H; exact H
              clear H
              have H := H1
              clear H1
              have H' := Aside0.mk H
              clear H
              obtain ⟨Ao98, co98, eo98⟩ := Kd.R_slice HO723.out
              subst eo98
              obtain ⟨Ao99, co99, eo99⟩ := Kd.R_slice HO_6.out
              subst eo99
              go_wp2_with (first | ((with_reducible refine gate_callee (f := 18) rfl ?_); refine goesL_ (some 110) rfl rfl Try.func18 (by kernel_rfl) rfl #[.slice Ao98 t721.length co98, .slice Ao99 t690.length co99] rfl (by (try simp only [List.map_toArray, List.map_cons, List.map_nil]); first | done | rfl | (simp only [List.length_drop, List.length_take]; rfl)) ?_; (with_reducible refine (laws_eqScoreS.calls kj50 _ _ t721 _ _ t690 false _ ?side1 ?side2 ?side3 ?side4 A89.out).mono ?_); (case side1 => repeat (first | exact (Kd.R_reads' HO723.out).2.2 | (with_reducible refine Kd.C_alloc ?_ _) | (with_reducible refine Kd.C_drewN ?_ _) | (with_reducible refine Kd.C_drew ?_))); (case side2 => exact (Kd.R_reads' HO723.out).2.1); (case side3 => repeat (first | exact (Kd.R_reads' HO_6.out).2.2 | (with_reducible refine Kd.C_alloc ?_ _) | (with_reducible refine Kd.C_drewN ?_ _) | (with_reducible refine Kd.C_drew ?_))); (case side4 => exact (Kd.R_reads' HO_6.out).2.1); rintro e w100 ⟨rfl, hb⟩; refine ⟨_, rfl, ?_⟩; have n0_ := Aside0.mk (Kd.R_below (by (with_reducible repeat (first | apply Kd.R_alloc | apply Kd.R_drewN | apply Kd.R_drew)); exact HO_6.out) hb); have n1_ := Aside0.mk (Kd.R_below (by (with_reducible repeat (first | apply Kd.R_alloc | apply Kd.R_drewN | apply Kd.R_drew)); exact HO_10.out) hb); have n2_ := Aside0.mk (Kd.R_below (by (with_reducible repeat (first | apply Kd.R_alloc | apply Kd.R_drewN | apply Kd.R_drew)); exact HO718.out) hb); have n3_ := Aside0.mk (Kd.R_below (by (with_reducible repeat (first | apply Kd.R_alloc | apply Kd.R_drewN | apply Kd.R_drew)); exact HO723.out) hb); have n4_ := Aside0.mk (blk_below (g := gb682) (o := .cells #[.string a1_0, .int .i64 a1_1] 46 (0, 0)) (by (with_reducible repeat (first | refine blk_drewN ?_ _ | refine blk_drew ?_ | refine blk_alloc ?_ _)); exact BK682.out) hb); have n5_ := Aside0.mk (below_step (by repeat (first | (with_reducible first | exact HB.out | apply below_alloc | apply pw_below_drewN | apply below_drew1 | refine below_set ?_ GE682.out) | exact HB.out)) hb); clear HO_6; clear HO_10; clear HO718; clear HO723; clear BK682; clear HB; have HO_6 := n0_; have HO_10 := n1_; have HO718 := n2_; have HO723 := n3_; have BK682 := n4_; have HB := n5_; clear n0_ n1_ n2_ n3_ n4_ n5_; (try clear hb); (try clear hb2); (try clear hk); (try clear hi)))
              go_meet
              case rel => exact ⟨_, (true), (by first | rfl | (simp; done) | (simp [*]; done)), H', ⟨by have := HJ18.out; have := HJ50.out; first | omega | exact Nat.le_refl _⟩, ⟨by (with_reducible repeat (first | apply Kd.R_alloc | apply Kd.R_drewN | apply Kd.R_drew)); exact Kd.R_mono HO_10.out (fun _ hk => trivial)⟩, ⟨by (with_reducible repeat (first | refine blk_drewN ?_ _ | refine blk_drew ?_ | refine blk_alloc ?_ _)); exact BK682.out⟩, ⟨by repeat (first | (with_reducible first | exact HB.out | apply below_alloc | apply pw_below_drewN | apply below_drew1 | refine below_set ?_ GE682.out) | exact HB.out)⟩⟩
            case rest =>
             clear HC80
             try clear c1
             try clear c2
             try clear p2
             try clear c3
             try clear c4
             try clear c4b0
             try clear c5
             try clear c6
             try clear c7
             try clear c8
             try clear c8b0
             try clear c9
             try clear c12
             try clear c14
             try clear c16
             try clear c18
             try clear c23
             try clear c24
             try clear c35
             try clear c36
             try clear c36b0
             try clear c36b1
             try clear c36b2
             try clear c37
             try clear c38
             try clear c46
             try clear c49
             try clear c56
             try clear c56b0
             try clear c58
             try clear c59
             try clear c59b0
             try clear c59b1
             try clear c59b2
             try clear c69
             try clear c72
             try clear c72b0
             try clear c76
             try clear c76b0
             try clear c76b1
             try clear c90
             try clear c91
             try clear c91b0
             try clear c91b1
             try clear c91b2
             try clear hcz11_0
             try clear hcz11_1
             try clear hcz22_0
             try clear hcz22_1
             try clear hcz30_0
             try clear hcz30_1
             try clear hfz11_0
             try clear hfz11_1
             try clear hfz22_0
             try clear hfz22_1
             try clear hfz30_0
             try clear hfz30_1
             try clear p2
             obtain ⟨kq, x121_79, rfl, HA, HJ79, HO_10, BK682, HB⟩ := hcut
             have hl10_79 := (Kd.R_reads' HO_10.out).1
             rw [hl10_79] at HO_10
             (try simp only [hl10_79])
             (try simp only [hl10_79] at BK682)
             cases kq with
             | zero => exact absurd HA.out (by simp [laws_FnExactScoresPut.j2])
             | succ kj79 =>
              have H := HA.out
              clear HA
              simp only [laws_FnExactScoresPut.j2] at H
              by_cases c101 : x121_79 = true
              ·subst c101
               have H1 : (some false) = some r := by rw [if_pos rfl] at H; exact H
               clear H
               have H := H1
               clear H1
               obtain rfl := Option.some.inj H
               cases hr_
              ·replace c101 := Bool.eq_false_iff.mpr c101
               subst c101
               have H1 : ((laws_heldScoreS.f kj79 t714 1).bind fun t727 => (if t727 < 0 then (some false) else (if t727 = t713 then (some true) else (some false)))) = some r := by rw [if_neg (show ¬ (false = true) by decide)] at H; exact H
               clear H
               have H := H1
               clear H1
               replace H := Option.bind_eq_some_iff.mp H
               obtain ⟨t727, A1020, H⟩ := H
               replace H : (if t727 < 0 then (some false) else (if t727 = t713 then (some true) else (some false))) = some r := H
               have A102 := Aside0.mk A1020
               clear A1020
               by_cases c103 : t727 < 0
               ·rw [if_pos c103] at H
                have c103b0 : decide (t727 < 0) = true := decide_eq_true c103
                clear c103
                obtain rfl := Option.some.inj H
                cases hr_
               ·rw [if_neg c103] at H
                have c103b0 : decide (t727 < 0) = false := decide_eq_false c103
                clear c103
                by_cases c105 : t727 = t713
                ·rw [if_pos c105] at H
                 have c105b0 : (t727 == t713) = true := beq_iff_eq.mpr c105
                 have c105b1 : (t727 != t713) = false := bne_eq_false_iff_eq.mpr c105
                 clear c105
                 obtain rfl := Option.some.inj H
                 go_wp2_with (first | ((with_reducible refine gate_callee (f := 24) rfl ?_); refine goesL_ (some 124) rfl rfl Try.func24 (by kernel_rfl) rfl #[.slice Ao81 t714.length co81, .int .i64 1] rfl (by (try simp only [List.map_toArray, List.map_cons, List.map_nil]); first | done | rfl | (simp only [List.length_drop, List.length_take]; rfl)) ?_; (with_reducible refine (laws_heldScoreS.calls kj79 _ _ t714 1 t727 _ ?side1 ?side2 A102.out).mono ?_); (case side1 => repeat (first | exact (Kd.R_reads' HO_10.out).2.2 | (with_reducible refine Kd.C_alloc ?_ _) | (with_reducible refine Kd.C_drewN ?_ _) | (with_reducible refine Kd.C_drew ?_))); (case side2 => exact (Kd.R_reads' HO_10.out).2.1); rintro e w106 ⟨rfl, hb⟩; refine ⟨_, rfl, ?_⟩; have n0_ := Aside0.mk (Kd.R_below (by (with_reducible repeat (first | apply Kd.R_alloc | apply Kd.R_drewN | apply Kd.R_drew)); exact HO_10.out) hb); have n1_ := Aside0.mk (blk_below (g := gb682) (o := .cells #[.string a1_0, .int .i64 a1_1] 46 (0, 0)) (by (with_reducible repeat (first | refine blk_drewN ?_ _ | refine blk_drew ?_ | refine blk_alloc ?_ _)); exact BK682.out) hb); have n2_ := Aside0.mk (below_step (by repeat (first | (with_reducible first | exact HB.out | apply below_alloc | apply pw_below_drewN | apply below_drew1 | refine below_set ?_ GE682.out) | exact HB.out)) hb); clear HO_10; clear BK682; clear HB; have HO_10 := n0_; have BK682 := n1_; have HB := n2_; clear n0_ n1_ n2_; (try clear hb); (try clear hb2); (try clear hk); (try clear hi)))
                 go_ret
                 exact ⟨by first | rfl | (simp [errW_none, errW_some] <;> rfl) | (simp [*, errW_none, errW_some] <;> rfl), by repeat (first | (with_reducible first | exact HB.out | apply below_alloc | apply pw_below_drewN | apply below_drew1 | refine below_set ?_ GE682.out) | exact HB.out)⟩
                ·rw [if_neg c105] at H
                 have c105b0 : (t727 == t713) = false := beq_eq_false_iff_ne.mpr c105
                 have c105b1 : (t727 != t713) = true := bne_iff_ne.mpr c105
                 obtain rfl := Option.some.inj H
                 cases hr_
           ·rw [if_neg c76] at H
            have c76b0 : (t715 == t713) = false := beq_eq_false_iff_ne.mpr c76
            have c76b1 : (t715 != t713) = true := bne_iff_ne.mpr c76
            obtain rfl := Option.some.inj H
            cases hr_
      ·replace c49 := Bool.eq_false_iff.mpr c49
       subst c49
       have H1 : (some false) = some r := by rw [if_neg (show ¬ (false = true) by decide)] at H; exact H
       clear H
       have H := H1
       clear H1
       obtain rfl := Option.some.inj H
       cases hr_
end Go.Proofs.Ytcpnekdhdmncfaa.P
namespace Go.Proofs.Ytcpnekdhdmncfaa.Q
open Go.RowKit Go.Proofs.YtcpnekdhdmncfaaW.PrintWords Go.Proofs.YtcpnekdhdmncfaaW.PrintLast
def Opens {α H : Type} (enc : TypeId × Value → H) (P : Program) (W : World) (t : TypeId) (d : Kd α) (ok : α → Prop) : Prop :=
  ∀ (fuel : Nat) (cs : List Value) (y : DataW H × List MemPlace), DataW.trod enc P W 0 (fun _ => true) true fuel t cs = some y → ∃ x : α, d.K W x cs ∧ ok x
section
variable {α β H : Type} {enc : TypeId × Value → H} {P : Program} {W : World} {t e : TypeId}
theorem Opens.int {k : IntKind} (ht : P.underlying t = some (.int k)) : Opens enc P W t (Kd.int k) (fun x => (Lit.int k x).wf = true) := by
  intro fuel cs y h
  obtain ⟨n, rfl, _, hn⟩ := DataW.trod_int ht h
  exact ⟨n, rfl, hn⟩
theorem Opens.string (ht : P.underlying t = some .string) : Opens enc P W t Kd.string (fun x => x.size ≤ maxLen) := by
  intro fuel cs y h
  obtain ⟨s, rfl, _, hs⟩ := DataW.trod_string ht h
  exact ⟨s, rfl, hs⟩
theorem cells_len {b : Nat} {a : Addr} {n : Nat} {cs : List Value} (h : W.cells? b a n = some cs) : cs.length = n := by
  unfold World.cells? at h
  split at h
  · simpa using mapM_some_length h
  · cases h
theorem cells_get {b : Nat} {a : Addr} {n : Nat} {cs : List Value} (h : W.cells? b a n = some cs) (i : Nat) (u : Value) (hu : cs[i]? = some u) : W.cell? (a.add i) = some u := by
  have hl := cells_len h
  have hi : i < n := by rw [← hl]; exact (List.getElem?_eq_some_iff.1 hu).1
  unfold World.cells? at h
  split at h
  · rw [← hu]; exact mapM_some_get h i i (by simp [hi])
  · cases h
theorem each_of {γ : Type} {Q : Nat → γ → Prop} (n : Nat) (h : ∀ i, i < n → ∃ x, Q i x) : ∃ l : List γ, l.length = n ∧ ∀ i x, l[i]? = some x → Q i x := by
  induction n with
  | zero => exact ⟨[], rfl, fun i x hx => by simp at hx⟩
  | succ n ih =>
    obtain ⟨l, hl, hq⟩ := ih (fun i hi => h i (by omega))
    obtain ⟨x, hx⟩ := h n (by omega)
    refine ⟨l ++ [x], by simp [hl], fun i y hy => ?_⟩
    rcases Nat.lt_or_ge i l.length with hi | hi
    · rw [List.getElem?_append_left hi] at hy
      exact hq i y hy
    · rw [List.getElem?_append_right hi] at hy
      have : i - l.length = 0 := by
        have := (List.getElem?_eq_some_iff.1 hy).1
        simp at this
        omega
      rw [this] at hy
      injection hy with hy
      obtain rfl : i = n := by omega
      exact hy ▸ hx
theorem Opens.slice {d : Kd α} {ok : α → Prop} (ht : P.underlying t = some (.slice e)) (hc : P.cellsOf e = d.sz) (h : Opens enc P W e d ok) :
    Opens enc P W t (Kd.slice e d) (fun xs => xs.length ≤ maxLen ∧ ∀ x ∈ xs, ok x) := by
  intro fuel cs y hy
  rcases DataW.trod_slice ht hy with ⟨rfl, _⟩ | ⟨a, len, cap, elems, rest, n, _, rfl, _, hb, hl, hm, hlen, hel, _, _⟩
  · exact ⟨[], ⟨none, 0, rfl, Nat.le_refl _, rfl, by simp, fun h => by simp at h⟩, by simp, by simp⟩
  · have each : ∀ i, i < len → ∃ x : α, (∃ c, c.length = d.sz ∧ d.K W x c ∧ ∀ j u, c[j]? = some u → W.cell? (a.add (i * d.sz + j)) = some u) ∧ ok x := by
      intro i hi
      have h1 := hel i hi
      rw [List.getElem?_eq_getElem (by omega)] at h1
      obtain ⟨c, h2, h3⟩ := Option.bind_eq_some_iff.1 h1
      obtain ⟨x, hK, hx⟩ := h _ _ _ h3
      rw [hc] at h2
      refine ⟨x, ⟨c, d.K_len hK, hK, fun j u hu => ?_⟩, hx⟩
      have h4 := cells_get h2 j u hu
      rwa [add_add] at h4
    obtain ⟨l, hll, hq⟩ := each_of len each
    subst hll
    refine ⟨l, ⟨some a, cap, rfl, hl, rfl, ?_, fun _ => ⟨a, rfl, fun j p hp => (hq j p hp).1⟩⟩, by omega, fun x hx => ?_⟩
    · unfold maxLen at hm; omega
    · obtain ⟨i, hi, rfl⟩ := List.getElem_of_mem hx
      exact (hq i _ (List.getElem?_eq_getElem hi)).2
theorem Opens.iso {d : Kd α} {ok : α → Prop} (f : β → α) (g : α → β) (hfg : ∀ a, f (g a) = a) (h : Opens enc P W t d ok) : Opens enc P W t (Kd.iso d f) (fun x => ok (f x)) := by
  intro fuel cs y hy
  obtain ⟨x, hK, hx⟩ := h _ _ _ hy
  exact ⟨g x, by show d.K W (f (g x)) cs; rw [hfg]; exact hK, by show ok (f (g x)); rw [hfg]; exact hx⟩
theorem Opens.imp {d : Kd α} {ok ok' : α → Prop} (h : Opens enc P W t d ok) (hi : ∀ x, ok x → ok' x) : Opens enc P W t d ok' := fun fuel cs y hy => by
  obtain ⟨x, hK, hx⟩ := h _ _ _ hy
  exact ⟨x, hK, hi x hx⟩
def OpensF {α H : Type} (enc : TypeId × Value → H) (P : Program) (W : World) (fs : List Field) (o : Nat) (d : Kd α) (ok : α → Prop) : Prop :=
  ∀ (n : Nat) (cs : List Value) (xs : List (DataW H × List MemPlace)), cs.length = o + d.sz → xs.length = fs.length →
    (∀ (i : Nat) (f : Field), fs[i]? = some f → DataW.trod enc P W 0 (fun _ => true) true n f.type ((cs.drop f.offset).take (P.cellsOf f.type)) = xs[i]?) → ∃ x : α, d.K W x (cs.drop o) ∧ ok x
theorem OpensF.one {d : Kd α} {ok : α → Prop} {f : Field} {o : Nat} (ho : f.offset = o) (hc : P.cellsOf f.type = d.sz) (h : Opens enc P W f.type d ok) : OpensF enc P W [f] o d ok := by
  intro n cs xs hl hx hf
  match xs, hx with
  | [x0], _ =>
    have h0 := hf 0 f rfl
    rw [ho, hc, List.take_of_length_le (by rw [List.length_drop]; omega)] at h0
    exact h n _ x0 (by simpa using h0)
theorem OpensF.cons {d : Kd α} {ok : α → Prop} {d' : Kd β} {ok' : β → Prop} {f : Field} {fs : List Field} {o : Nat} (ho : f.offset = o) (hc : P.cellsOf f.type = d.sz) (h : Opens enc P W f.type d ok)
    (hs : OpensF enc P W fs (o + d.sz) d' ok') : OpensF enc P W (f :: fs) o (Kd.pair d d') (fun x => ok x.1 ∧ ok' x.2) := by
  intro n cs xs hl hx hf
  have hsz : (Kd.pair d d').sz = d.sz + d'.sz := rfl
  match xs, hx with
  | x0 :: xs', hx =>
    have h0 := hf 0 f rfl
    rw [ho, hc] at h0
    obtain ⟨a, ha, oka⟩ := h n _ x0 (by simpa using h0)
    obtain ⟨b, hb, okb⟩ := hs n cs xs' (by omega) (by simpa using hx) (fun i g hg => by simpa using hf (i + 1) g (by simpa using hg))
    refine ⟨(a, b), ⟨(cs.drop o).take d.sz, cs.drop (o + d.sz), ?_, ha, hb⟩, oka, okb⟩
    rw [← List.drop_drop, List.take_append_drop]
theorem Opens.struct {d : Kd α} {ok : α → Prop} {fs : Array Field} (ht : P.underlying t = some (.struct fs)) (hc : P.cellsOf t = d.sz) (h : OpensF enc P W fs.toList 0 d ok) : Opens enc P W t d ok := by
  intro fuel cs y hy
  obtain ⟨xs, n, _, _, hl, hx, hf⟩ := DataW.trod_struct ht hy
  have := h n cs xs (by omega) (by simpa using hx) (fun i f hf' => hf i f (by simpa using hf'))
  simpa using this
end
end Go.Proofs.Ytcpnekdhdmncfaa.Q
namespace Go.Proofs.Ytcpnekdhdmncfaa.Q
open Go.RowKit Go.Proofs.YtcpnekdhdmncfaaW.PrintWords Go.Proofs.YtcpnekdhdmncfaaW.PrintLast
theorem pos {α : Type} {c : Prop} [Decidable c] {t e : Nat → Option α} {r : α} (h : c) (x : Ev t r) : Ev (fun k => if c then t k else e k) r := by
  obtain ⟨K, hK⟩ := x
  exact ⟨K, fun k hk => (if_pos h).trans (hK k hk)⟩
theorem neg {α : Type} {c : Prop} [Decidable c] {t e : Nat → Option α} {r : α} (h : ¬ c) (x : Ev e r) : Ev (fun k => if c then t k else e k) r := by
  obtain ⟨K, hK⟩ := x
  exact ⟨K, fun k hk => (if_neg h).trans (hK k hk)⟩
theorem both {α : Type} {c : Prop} [Decidable c] {t e : Nat → Option α} {r : α} (x : c → Ev t r) (y : ¬ c → Ev e r) : Ev (fun k => if c then t k else e k) r := by
  by_cases h : c
  · exact pos h (x h)
  · exact neg h (y h)
theorem ret {α : Type} (r : α) : Ev (fun _ => some r) r := Ev.now r
theorem ret' {α : Type} {r q : α} (h : r = q) : Ev (fun _ => some r) q := h ▸ Ev.now r
theorem val {α : Type} {g : Option α} {r : α} (h : g = some r) : Ev (fun _ => g) r := ⟨0, fun _ _ => h⟩
theorem of_eq {α : Type} {g : Nat → Option α} {r q : α} (h : Ev g r) (e : r = q) : Ev g q := e ▸ h
theorem exists_of {α : Type} {g : Nat → Option α} {r : α} (h : Ev g r) : ∃ k, g k = some r := by
  obtain ⟨K, hK⟩ := h
  exact ⟨K, hK K (Nat.le_refl _)⟩
theorem wrap_id {x : Int} (h1 : -9223372036854775808 ≤ x) (h2 : x ≤ 9223372036854775807) : wrap64 x = x := by
  unfold wrap64
  omega
theorem toList_inj {a b : ByteArray} (h : a.toList = b.toList) : a = b := by
  rw [ByteArray.toList_eq, ByteArray.toList_eq] at h
  cases a with
  | mk x => cases b with
    | mk y =>
      congr
      exact Array.toList_inj.1 h
end Go.Proofs.Ytcpnekdhdmncfaa.Q
namespace Go.Proofs.Ytcpnekdhdmncfaa.Q
open Go.RowKit Go.Proofs.YtcpnekdhdmncfaaW.PrintWords Go.Proofs.YtcpnekdhdmncfaaW.PrintLast Go.Proofs.Ytcpnekdhdmncfaa.P
abbrev LScore := S46
abbrev Score := S40
instance : DecidableEq Score := fun a b => decidable_of_iff (a.f0 = b.f0 ∧ a.f1 = b.f1) ⟨fun h => by cases a; cases b; simp at h; simp [h], fun h => by rw [h]; exact ⟨rfl, rfl⟩⟩
theorem rdLScore_lt (l : List LScore) (i : Nat) (h : i < l.length) : rd_T46 l (i : Int) = l[i] := by
  simp [rd_T46, List.getD_eq_getElem?_getD, h]
theorem rdScore_lt (l : List Score) (i : Nat) (h : i < l.length) : rd_T40 l (i : Int) = l[i] := by
  simp [rd_T40, List.getD_eq_getElem?_getD, h]
theorem szScore_ev (a : ByteArray) (n : Int) (ha : a.size ≤ maxLen) (c : Int) (h0 : 0 ≤ c) (h1 : c ≤ 1048576) :
    ∃ v, laws_szScore.f a n c = some v ∧ v ≤ c ∧ -1 ≤ v ∧ (0 ≤ v → a.size ≤ 1048576) := by
  unfold maxLen at ha
  unfold laws_szScore.f
  rw [wrap_id (x := c - (a.size : Int)) (by omega) (by omega)]
  by_cases h : c - (a.size : Int) < 0
  · exact ⟨-1, if_pos h, by omega, by omega, by omega⟩
  · exact ⟨_, if_neg h, by omega, by omega, fun _ => by omega⟩
theorem szScoreS_l0 (l : List LScore) (hl : l.length ≤ maxLen) (hs : ∀ s ∈ l, s.f0.size ≤ maxLen ∧ (Lit.int .i64 s.f1).wf = true) (d : Nat) : ∀ (i : Nat) (c : Int), i + d = l.length → 0 ≤ c → c ≤ 1048576 →
    ∃ v, Ev (fun k => laws_szScoreS.l0 k l c (i : Int)) v ∧ v ≤ c ∧ -1 ≤ v ∧ (0 ≤ v → ∀ j (h : j < l.length), i ≤ j → l[j].f0.size ≤ 1048576) := by
  unfold maxLen at hl
  induction d with
  | zero =>
    intro i c hi h0 h1
    exact ⟨c, Ev.step (fun k => by rw [laws_szScoreS.l0]) (neg (by omega) (ret c)), by omega, by omega, fun _ j hj hij => by omega⟩
  | succ d ih =>
    intro i c hi h0 h1
    have hlt : i < l.length := by omega
    obtain ⟨hs0, _⟩ := hs _ (List.getElem_mem hlt)
    obtain ⟨v, hv, hv1, hv2, hv3⟩ := szScore_ev _ l[i].f1 hs0 c h0 h1
    by_cases hneg : v < 0
    · refine ⟨-1, Ev.step (fun k => by rw [laws_szScoreS.l0]) (pos (by omega) (pos (by omega) ?_)), by omega, by omega, by omega⟩
      rw [rdLScore_lt _ _ hlt]
      exact Ev.bind (val hv) (pos hneg (ret (-1)))
    · obtain ⟨u, hu, h2, h3, h4⟩ := ih (i + 1) v (by omega) (by omega) (by omega)
      refine ⟨u, Ev.step (fun k => by rw [laws_szScoreS.l0]) (pos (by omega) (pos (by omega) ?_)), by omega, h3, fun h5 j hj hij => ?_⟩
      · rw [rdLScore_lt _ _ hlt, wrap_id (x := (i : Int) + 1) (by omega) (by omega)]
        exact Ev.bind (val hv) (neg hneg hu)
      · rcases Nat.eq_or_lt_of_le hij with rfl | hij
        · exact hv3 (by omega)
        · exact h4 h5 j hj hij
theorem szScoreS_ev (l : List LScore) (hl : l.length ≤ maxLen) (hs : ∀ s ∈ l, s.f0.size ≤ maxLen ∧ (Lit.int .i64 s.f1).wf = true) (c : Int) (h0 : 0 ≤ c) (h1 : c ≤ 1048576) :
    ∃ v, Ev (fun k => laws_szScoreS.f k l c) v ∧ v ≤ c ∧ -1 ≤ v ∧ (0 ≤ v → l.length ≤ 1048576 ∧ ∀ s ∈ l, s.f0.size ≤ 1048576) := by
  have hl' := hl
  unfold maxLen at hl'
  by_cases h : c - (l.length : Int) < 0
  · refine ⟨-1, ?_, by omega, by omega, by omega⟩
    unfold laws_szScoreS.f
    refine pos ?_ (ret _)
    rw [wrap_id (by omega) (by omega)]
    exact h
  · obtain ⟨v, hv, h2, h3, h4⟩ := szScoreS_l0 l hl hs l.length 0 (c - (l.length : Int)) (by omega) (by omega) (by omega)
    refine ⟨v, ?_, by omega, h3, fun h5 => ⟨by omega, fun s hs => ?_⟩⟩
    · unfold laws_szScoreS.f
      rw [wrap_id (by omega) (by omega)]
      exact neg h hv
    · obtain ⟨j, hj, rfl⟩ := List.getElem_of_mem hs
      exact h4 h5 j hj (by omega)
def cvScore (x : LScore) : Score := ⟨x.f0, x.f1⟩
theorem toScoreS_l0 (l : List LScore) (hl : l.length ≤ maxLen) (d : Nat) : ∀ (i : Nat) (x : List Score), i + d = l.length → x.length = l.length → Ev (fun k => laws_toScoreS.l0 k l x (i : Int)) (x.take i ++ (l.drop i).map cvScore) := by
  unfold maxLen at hl
  induction d with
  | zero =>
    intro i x hi hx
    refine Ev.step (fun k => by rw [laws_toScoreS.l0]) (neg (by omega) (ret' ?_))
    rw [List.drop_of_length_le (by omega), List.take_of_length_le (by omega), List.map_nil, List.append_nil]
  | succ d ih =>
    intro i x hi hx
    have hlt : i < l.length := by omega
    refine Ev.step (fun k => by rw [laws_toScoreS.l0]) (pos (by omega) (pos (by omega) ?_))
    rw [rdLScore_lt _ _ hlt, wrap_id (by omega) (by omega)]
    refine Ev.bind (val rfl) (pos (by omega) (of_eq (ih (i + 1) _ (by omega) (by simp [hx])) ?_))
    rw [List.drop_eq_getElem_cons hlt, Int.toNat_natCast, List.take_set, List.take_succ_eq_append_getElem (by omega), List.set_append_right _ _ (by simp; omega), List.map_cons]
    simp [show min i x.length = i by omega]
    rfl
theorem toScoreS_ev (l : List LScore) (hl : l.length ≤ 1048576) : Ev (fun k => laws_toScoreS.f k l) (l.map cvScore) := by
  unfold laws_toScoreS.f
  refine pos (by omega) (pos (by omega) ?_)
  exact of_eq (toScoreS_l0 l (by unfold maxLen; omega) l.length 0 _ (by omega) (by simp)) (by simp)
theorem eqScore_eq (a b : Score) : laws_eqScore.f a.f0 a.f1 b.f0 b.f1 = some (decide (a = b)) := by
  unfold laws_eqScore.f
  obtain ⟨a0, a1⟩ := a
  obtain ⟨b0, b1⟩ := b
  by_cases h0 : a0 = b0
  · by_cases h1 : a1 = b1
    · simp [h0, h1]
    · simp [h0, h1]
  · have : ¬ a0.toList = b0.toList := fun e => h0 (toList_inj e)
    simp [h0, this]
theorem eqScoreS_l0 (l l' : List Score) (hl : l.length ≤ maxLen) (he : l.length = l'.length) (d : Nat) : ∀ (i : Nat), i + d = l.length → Ev (fun k => laws_eqScoreS.l0 k l l' (i : Int)) (decide (l.drop i = l'.drop i)) := by
  unfold maxLen at hl
  induction d with
  | zero =>
    intro i hi
    refine Ev.step (fun k => by rw [laws_eqScoreS.l0]) (neg (by omega) (ret' ?_))
    rw [List.drop_of_length_le (by omega), List.drop_of_length_le (by omega)]
    simp
  | succ d ih =>
    intro i hi
    have hlt : i < l.length := by omega
    have hlt' : i < l'.length := by omega
    refine Ev.step (fun k => by rw [laws_eqScoreS.l0]) (pos (by omega) (pos (by omega) (pos (by omega) ?_)))
    rw [rdScore_lt _ _ hlt, rdScore_lt _ _ hlt', wrap_id (by omega) (by omega), List.drop_eq_getElem_cons hlt, List.drop_eq_getElem_cons hlt']
    refine Ev.bind (val (eqScore_eq _ _)) (both (fun h => ?_) (fun h => ret' ?_))
    · refine of_eq (ih (i + 1) (by omega)) ?_
      rw [of_decide_eq_true h]
      exact decide_eq_decide.2 (by simp only [List.cons.injEq, true_and])
    · exact (decide_eq_false (fun e => h (decide_eq_true (List.cons.inj e).1))).symm
theorem eqScoreS_ev (l l' : List Score) (hl : l.length ≤ maxLen) : Ev (fun k => laws_eqScoreS.f k l l') (decide (l = l')) := by
  unfold laws_eqScoreS.f
  refine both (fun h => ?_) (fun h => ret' ?_)
  · exact eqScoreS_l0 l l' hl (by omega) l.length 0 (by omega)
  · have : l ≠ l' := fun e => h (by rw [e])
    simp [this]
theorem eqScoreS_same (l : List Score) (hl : l.length ≤ maxLen) : Ev (fun k => laws_eqScoreS.f k l l) true := of_eq (eqScoreS_ev l l hl) (by simp)
end Go.Proofs.Ytcpnekdhdmncfaa.Q
namespace Go.Proofs.Ytcpnekdhdmncfaa.Q
open Go.RowKit Go.Proofs.YtcpnekdhdmncfaaW.PrintWords Go.Proofs.YtcpnekdhdmncfaaW.PrintLast
theorem bl_irrefl (a : List UInt8) : Op.bytesLess a a = false := by
  induction a with
  | nil => rfl
  | cons x r ih => simp [Op.bytesLess, ih]
theorem bl_trans (a : List UInt8) : ∀ (b c : List UInt8), Op.bytesLess a b = true → Op.bytesLess b c = true → Op.bytesLess a c = true := by
  induction a with
  | nil =>
    intro b c h1 h2
    cases c with
    | nil => cases b <;> simp [Op.bytesLess] at h2
    | cons z c => rfl
  | cons x a ih =>
    intro b c h1 h2
    cases b with
    | nil => simp [Op.bytesLess] at h1
    | cons y b =>
      cases c with
      | nil => simp [Op.bytesLess] at h2
      | cons z c =>
        simp only [Op.bytesLess, Bool.or_eq_true, Bool.and_eq_true, decide_eq_true_eq, beq_iff_eq] at h1 h2 ⊢
        rcases h1 with h1 | ⟨rfl, h1⟩
        · rcases h2 with h2 | ⟨rfl, h2⟩
          · exact .inl (UInt8.lt_trans h1 h2)
          · exact .inl h1
        · rcases h2 with h2 | ⟨rfl, h2⟩
          · exact .inl h2
          · exact .inr ⟨rfl, ih b c h1 h2⟩
theorem bl_tri (a : List UInt8) : ∀ (b : List UInt8), Op.bytesLess a b = true ∨ a = b ∨ Op.bytesLess b a = true := by
  induction a with
  | nil =>
    intro b
    cases b with
    | nil => exact .inr (.inl rfl)
    | cons y b => exact .inl rfl
  | cons x a ih =>
    intro b
    cases b with
    | nil => exact .inr (.inr rfl)
    | cons y b =>
      simp only [Op.bytesLess, Bool.or_eq_true, Bool.and_eq_true, decide_eq_true_eq, beq_iff_eq]
      by_cases h : x < y
      · exact .inl (.inl h)
      · by_cases h' : y < x
        · exact .inr (.inr (.inl h'))
        · obtain rfl : x = y := UInt8.le_antisymm (UInt8.not_lt.1 h') (UInt8.not_lt.1 h)
          rcases ih b with h | rfl | h
          · exact .inl (.inr ⟨rfl, h⟩)
          · exact .inr (.inl rfl)
          · exact .inr (.inr (.inr ⟨rfl, h⟩))
def lt (a b : ByteArray) : Bool := Op.bytesLess a.toList b.toList
theorem lt_irrefl (a : ByteArray) : lt a a = false := bl_irrefl _
theorem lt_trans {a b c : ByteArray} (h : lt a b = true) (h' : lt b c = true) : lt a c = true := bl_trans _ _ _ h h'
theorem lt_tri (a b : ByteArray) : lt a b = true ∨ a = b ∨ lt b a = true := by
  rcases bl_tri a.toList b.toList with h | h | h
  · exact .inl h
  · exact .inr (.inl (toList_inj h))
  · exact .inr (.inr h)
end Go.Proofs.Ytcpnekdhdmncfaa.Q
namespace Go.Proofs.Ytcpnekdhdmncfaa.Q
open Go.RowKit Go.Proofs.YtcpnekdhdmncfaaW.PrintWords Go.Proofs.YtcpnekdhdmncfaaW.PrintLast Go.Proofs.Ytcpnekdhdmncfaa.P
def inB (n low high : Int) : Bool := decide (low ≤ n) && decide (n ≤ high)
def placeB (n : Int) : Bool := inB n (-1000000000) 1000000000
theorem l1In_eq (n low high : Int) : spec_l1In.f n low high = some (inB n low high) := by
  unfold spec_l1In.f inB
  by_cases h : low ≤ n
  · rw [if_pos (show n ≥ low from h)]; simp [h]
  · rw [if_neg (show ¬ n ≥ low from h)]; simp [h]
theorem within_eq (n low high : Int) : impl_within.f n low high = some (inB n low high) := by
  unfold impl_within.f inB
  by_cases h : low ≤ n
  · rw [if_pos (show n ≥ low from h)]; simp [h]
  · rw [if_neg (show ¬ n ≥ low from h)]; simp [h]
theorem position_eq (n : Int) : impl_position.f n = some (placeB n) := by
  unfold impl_position.f
  rw [within_eq]
  rfl
theorem l1In_ev (n low high : Int) : Ev (fun _ => spec_l1In.f n low high) (inB n low high) := val (l1In_eq n low high)
theorem position_ev (n : Int) : Ev (fun _ => impl_position.f n) (placeB n) := val (position_eq n)
end Go.Proofs.Ytcpnekdhdmncfaa.Q
namespace Go.Proofs.Ytcpnekdhdmncfaa.Q
open Go.RowKit Go.Proofs.YtcpnekdhdmncfaaW.PrintWords Go.Proofs.YtcpnekdhdmncfaaW.PrintLast Go.Proofs.Ytcpnekdhdmncfaa.P
def ahd (a b : Score) : Bool := decide (a.f1 < b.f1) || (decide (a.f1 = b.f1) && lt a.f0 b.f0)
theorem l3Ahead_eq (a b : Score) : spec_l3Ahead.f a.f0 a.f1 b.f0 b.f1 = some (ahd a b) := by
  unfold spec_l3Ahead.f ahd
  by_cases h : a.f1 < b.f1
  · rw [if_pos h]; simp [h]
  · rw [if_neg h]
    by_cases h' : a.f1 = b.f1
    · rw [if_pos h']; simp [h', lt]
    · rw [if_neg h']; simp [h, h']
theorem Compare_int_eq (a b : Int) : cmp_Compare_int.f a b = some (if a < b then -1 else if a > b then 1 else 0) := by
  unfold cmp_Compare_int.f cmp_isNaN_int.f
  simp
  split
  · rfl
  · split <;> rfl
theorem Compare_string_eq (a b : ByteArray) : cmp_Compare_string.f a b = some (if lt a b = true then -1 else if lt b a = true then 1 else 0) := by
  unfold cmp_Compare_string.f cmp_isNaN_string.f lt
  simp
  split
  · rfl
  · split <;> rfl
theorem Or_ev (a b : Int) : Ev (fun k => cmp_Or_int.f k [a, b]) (if a = 0 then b else a) := by
  unfold cmp_Or_int.f
  refine Ev.step (g := fun k => cmp_Or_int.l0 k _ _ _ _) (fun k => by rw [cmp_Or_int.l0]) (pos (by simp) (pos (by omega) (pos (by simp) ?_)))
  rw [show rd [a, b] 0 = a by rfl]
  refine both (fun h => ?_) (fun h => ret' (if_neg h).symm)
  rw [if_pos h, show wrap64 (0 + 1) = 1 by unfold wrap64; decide]
  refine Ev.step (g := fun k => cmp_Or_int.l0 k _ _ _ _) (fun k => by rw [cmp_Or_int.l0]) (pos (by simp) (pos (by omega) (pos (by simp) ?_)))
  rw [show rd [a, b] 1 = b by rfl, show wrap64 (1 + 1) = 2 by unfold wrap64; decide]
  refine both (fun h' => ?_) (fun h' => ret _)
  exact Ev.step (g := fun k => cmp_Or_int.l0 k _ _ _ _) (fun k => by rw [cmp_Or_int.l0]) (neg (by simp) (ret' h'.symm))
def ordM (a b : Score) : Int := if a.f1 < b.f1 then -1 else if a.f1 > b.f1 then 1 else if lt a.f0 b.f0 = true then -1 else if lt b.f0 a.f0 = true then 1 else 0
theorem scoreOrder_ev (a b : Score) : Ev (fun k => impl_scoreOrder.f k a.f0 a.f1 b.f0 b.f1) (ordM a b) := by
  unfold impl_scoreOrder.f
  refine Ev.bind (val (Compare_int_eq _ _)) (Ev.bind (val (Compare_string_eq _ _)) (Ev.bind (Or_ev _ _) (ret' ?_)))
  unfold ordM
  by_cases h : a.f1 < b.f1
  · simp [h]
  · by_cases h' : a.f1 > b.f1
    · simp [h, h']
    · simp [h, h']
theorem ordM_ahd (a b : Score) : ordM a b ≥ 0 ↔ ahd a b = false := by
  unfold ordM ahd
  by_cases h : a.f1 < b.f1
  · simp [h]
  · by_cases h' : a.f1 > b.f1
    · have : ¬ a.f1 = b.f1 := by omega
      simp [h, h', this]
    · have : a.f1 = b.f1 := by omega
      cases hl : lt a.f0 b.f0 with
      | true => simp [this]
      | false => simp [this]; split <;> decide
def fresh (l : List Score) (i : Nat) : Bool := (List.range i).all (fun k => !decide ((rd_T40 l (k : Int)).f0 = (rd_T40 l (i : Int)).f0))
def sOk (l : List Score) (i : Nat) : Bool :=
  decide ((rd_T40 l (i : Int)).f0.size ≤ 40) && (placeB (rd_T40 l (i : Int)).f1 && ((decide (i = 0) || ahd (rd_T40 l ((i - 1 : Nat) : Int)) (rd_T40 l (i : Int))) && fresh l i))
theorem sOk_eq {l : List Score} {i : Nat} (h40 : (rd_T40 l (i : Int)).f0.size ≤ 40) (hp : placeB (rd_T40 l (i : Int)).f1 = true) (ha : i = 0 ∨ ahd (rd_T40 l ((i - 1 : Nat) : Int)) (rd_T40 l (i : Int)) = true) : sOk l i = fresh l i := by
  unfold sOk
  rw [decide_eq_true h40, hp, Bool.true_and, Bool.true_and]
  rcases ha with ha | ha
  · rw [decide_eq_true ha, Bool.true_or, Bool.true_and]
  · rw [ha, Bool.or_true, Bool.true_and]
theorem sOk_no {l : List Score} {i : Nat} (h : ¬ (rd_T40 l (i : Int)).f0.size ≤ 40 ∨ placeB (rd_T40 l (i : Int)).f1 = false ∨ (¬ i = 0 ∧ ahd (rd_T40 l ((i - 1 : Nat) : Int)) (rd_T40 l (i : Int)) = false) ∨ fresh l i = false) : sOk l i = false := by
  unfold sOk
  rcases h with h | h | ⟨h, h'⟩ | h
  · rw [decide_eq_false h, Bool.false_and]
  · rw [h, Bool.false_and, Bool.and_false]
  · rw [decide_eq_false h, h', Bool.false_or, Bool.false_and, Bool.and_false, Bool.and_false]
  · rw [h, Bool.and_false, Bool.and_false, Bool.and_false]
def scoresB (l : List Score) : Bool := (List.range' 0 l.length).all (sOk l) && decide ((l.length : Int) ≤ 16)
theorem spec_ScoresOk_l1 (l : List Score) (hl : l.length ≤ maxLen) (i : Nat) (hi : i < l.length) (r : Bool) (hr : Ev (fun k => spec_ScoresOk.l0 k l (wrap64 ((i : Int) + 1))) r) (d : Nat) : ∀ (j : Nat), j + d = i →
    Ev (fun k => spec_ScoresOk.l1 k l (i : Int) (j : Int)) ((List.range' j d).all (fun k => !decide ((rd_T40 l (k : Int)).f0 = (rd_T40 l (i : Int)).f0)) && r) := by
  unfold maxLen at hl
  induction d with
  | zero =>
    intro j hj
    refine Ev.step (g := fun k => spec_ScoresOk.l1 k _ _ _) (fun k => by rw [spec_ScoresOk.l1]) (neg (by omega) ?_)
    simpa using hr
  | succ d ih =>
    intro j hj
    refine Ev.step (g := fun k => spec_ScoresOk.l1 k _ _ _) (fun k => by rw [spec_ScoresOk.l1]) (pos (by omega) (pos (by omega) (pos (by omega) (pos (by omega) (pos (by omega) ?_)))))
    rw [wrap_id (x := (j : Int) + 1) (by omega) (by omega), List.range'_succ, List.all_cons]
    refine both (fun h => ret' ?_) (fun h => ?_)
    · simp [toList_inj h]
    · have : ¬ (rd_T40 l (j : Int)).f0 = (rd_T40 l (i : Int)).f0 := fun e => h (by rw [e])
      refine of_eq (ih (j + 1) (by omega)) ?_
      simp [this]
theorem spec_ScoresOk_l0 (l : List Score) (hl : l.length ≤ maxLen) (d : Nat) : ∀ (i : Nat), i + d = l.length → Ev (fun k => spec_ScoresOk.l0 k l (i : Int)) ((List.range' i d).all (sOk l) && decide ((l.length : Int) ≤ 16)) := by
  have hl' := hl
  unfold maxLen at hl'
  induction d with
  | zero =>
    intro i hi
    refine Ev.step (g := fun k => spec_ScoresOk.l0 k _ _) (fun k => by rw [spec_ScoresOk.l0]) (neg (by omega) (ret' ?_))
    simp
  | succ d ih =>
    intro i hi
    have hw : wrap64 ((i : Int) + 1) = ((i + 1 : Nat) : Int) := by rw [wrap_id (by omega) (by omega)]; omega
    have ih' := ih (i + 1) (by omega)
    have hin := spec_ScoresOk_l1 l hl i (by omega) _ (by rw [hw]; exact ih') i 0 (by omega)
    rw [← List.range_eq_range'] at hin
    refine Ev.step (g := fun k => spec_ScoresOk.l0 k _ _) (fun k => by rw [spec_ScoresOk.l0]) (pos (by omega) (pos (by omega) ?_))
    rw [List.range'_succ, List.all_cons]
    refine both (fun h => ?_) (fun h => ?_)
    · refine Ev.step (g := fun k => spec_ScoresOk.j1 k _ _ _) (fun k => by rw [spec_ScoresOk.j1]) ?_
      exact pos rfl (ret' (by rw [sOk_no (.inl (by omega))]; rfl))
    · have h40 : (rd_T40 l (i : Int)).f0.size ≤ 40 := by omega
      refine Ev.bind (l1In_ev _ _ _) ?_
      rw [show inB (rd_T40 l (i : Int)).f1 (-1000000000) 1000000000 = placeB (rd_T40 l (i : Int)).f1 from rfl]
      cases hp : placeB (rd_T40 l (i : Int)).f1 with
      | false =>
        refine neg (by decide) ?_
        refine Ev.step (g := fun k => spec_ScoresOk.j1 k _ _ _) (fun k => by rw [spec_ScoresOk.j1]) ?_
        exact pos rfl (ret' (by rw [sOk_no (.inr (.inl hp))]; rfl))
      | true =>
        refine pos rfl ?_
        by_cases h0 : i = 0
        · refine neg (by omega) ?_
          refine Ev.step (g := fun k => spec_ScoresOk.j1 k _ _ _) (fun k => by rw [spec_ScoresOk.j1]) ?_
          exact neg (by decide) (of_eq hin (by rw [sOk_eq h40 hp (.inl h0), Bool.and_assoc]; rfl))
        · refine pos (by omega) ?_
          rw [show wrap64 ((i : Int) - 1) = ((i - 1 : Nat) : Int) by rw [wrap_id (by omega) (by omega)]; omega]
          refine pos (by omega) (pos (by omega) (Ev.bind (val (l3Ahead_eq _ _)) ?_))
          cases ha : ahd (rd_T40 l ((i - 1 : Nat) : Int)) (rd_T40 l (i : Int)) with
          | false =>
            refine Ev.step (g := fun k => spec_ScoresOk.j1 k _ _ _) (fun k => by rw [spec_ScoresOk.j1]) ?_
            exact pos rfl (ret' (by rw [sOk_no (.inr (.inr (.inl ⟨h0, ha⟩)))]; rfl))
          | true =>
            refine Ev.step (g := fun k => spec_ScoresOk.j1 k _ _ _) (fun k => by rw [spec_ScoresOk.j1]) ?_
            exact neg (by decide) (of_eq hin (by rw [sOk_eq h40 hp (.inr ha), Bool.and_assoc]; rfl))
theorem spec_ScoresOk_ev (l : List Score) (hl : l.length ≤ maxLen) : Ev (fun k => spec_ScoresOk.f k l) (scoresB l) := spec_ScoresOk_l0 l hl l.length 0 (by omega)
theorem from_ge (t : ByteArray) (r : List Score) : ∀ o : Nat, impl_scoreAt.from t r o = -1 ∨ (o : Int) ≤ impl_scoreAt.from t r o ∧ impl_scoreAt.from t r o < o + r.length := by
  induction r with
  | nil => intro o; exact .inl rfl
  | cons x r ih =>
    intro o
    rw [impl_scoreAt.from]
    by_cases h : x.f0.toList = t.toList
    · rw [if_pos h]; right; simp; omega
    · rw [if_neg h]
      rcases ih (o + 1) with h | h
      · exact .inl h
      · right; simp; omega
theorem from_iff (t : ByteArray) (r : List Score) : ∀ (o j : Nat), impl_scoreAt.from t r o = ((o + j : Nat) : Int) ↔ ∃ h : j < r.length, r[j].f0 = t ∧ ∀ k (hk : k < j), (r[k]'(by omega)).f0 ≠ t := by
  induction r with
  | nil =>
    intro o j
    refine ⟨fun h => ?_, fun ⟨h, _⟩ => ?_⟩
    · have : (-1 : Int) = ((o + j : Nat) : Int) := h
      omega
    · simp at h
  | cons x r ih =>
    intro o j
    rw [impl_scoreAt.from]
    by_cases h : x.f0.toList = t.toList
    · rw [if_pos h]
      refine ⟨fun e => ?_, fun ⟨h1, h2, h3⟩ => ?_⟩
      · obtain rfl : j = 0 := by omega
        exact ⟨by simp, toList_inj h, fun k hk => by omega⟩
      · cases j with
        | zero => rfl
        | succ j => exact absurd (toList_inj h) (h3 0 (by omega))
    · rw [if_neg h]
      cases j with
      | zero =>
        refine ⟨fun e => ?_, fun ⟨h1, h2, h3⟩ => ?_⟩
        · rcases from_ge t r (o + 1) with q | q <;> omega
        · exact absurd (by rw [← h2]; rfl) h
      | succ j =>
        rw [show o + (j + 1) = (o + 1) + j by omega, ih (o + 1) j]
        refine ⟨fun ⟨h1, h2, h3⟩ => ⟨by simp; omega, h2, fun k hk => ?_⟩, fun ⟨h1, h2, h3⟩ => ⟨by simp at h1; omega, h2, fun k hk => h3 (k + 1) (by omega)⟩⟩
        cases k with
        | zero => exact fun e => h (by rw [← e]; rfl)
        | succ k => exact h3 k (by omega)
theorem from_fresh (l : List Score) (i : Nat) (hi : i < l.length) : decide (impl_scoreAt.from (rd_T40 l (i : Int)).f0 l 0 = (i : Int)) = fresh l i := by
  have := from_iff (rd_T40 l (i : Int)).f0 l 0 i
  rw [Nat.zero_add] at this
  rw [Bool.eq_iff_iff, decide_eq_true_iff, this]
  unfold fresh
  simp only [List.all_eq_true, List.mem_range, Bool.not_eq_true', decide_eq_false_iff_not]
  rw [rdScore_lt _ _ hi]
  refine ⟨fun ⟨_, _, h⟩ k hk => ?_, fun h => ⟨hi, rfl, fun k hk => ?_⟩⟩
  · rw [rdScore_lt _ _ (by omega)]; exact h k hk
  · have := h k hk
    rw [rdScore_lt _ _ (by omega)] at this
    exact this
theorem impl_ScoresOk_l0 (l : List Score) (hl : l.length ≤ maxLen) (d : Nat) : ∀ (i : Nat), i + d = l.length → Ev (fun k => impl_ScoresOk.l0 k l l (l.length : Int) (i : Int)) ((List.range' i d).all (sOk l) && decide ((l.length : Int) ≤ 16)) := by
  have hl' := hl
  unfold maxLen at hl'
  induction d with
  | zero =>
    intro i hi
    refine Ev.step (g := fun k => impl_ScoresOk.l0 k _ _ _ _) (fun k => by rw [impl_ScoresOk.l0]) (neg (by omega) (ret' ?_))
    simp
  | succ d ih =>
    intro i hi
    have ih' := ih (i + 1) (by omega)
    have hf := from_fresh l i (by omega)
    refine Ev.step (g := fun k => impl_ScoresOk.l0 k _ _ _ _) (fun k => by rw [impl_ScoresOk.l0]) (pos (by omega) (pos (by omega) (pos (by omega) ?_)))
    rw [List.range'_succ, List.all_cons, wrap_id (x := (i : Int) + 1) (by omega) (by omega)]
    refine both (fun h => ret' (by rw [sOk_no (.inl (by omega))]; rfl)) (fun h => ?_)
    · have h40 : (rd_T40 l (i : Int)).f0.size ≤ 40 := by omega
      refine Ev.bind (position_ev _) ?_
      cases hp : placeB (rd_T40 l (i : Int)).f1 with
      | false => exact neg (by decide) (ret' (by rw [sOk_no (.inr (.inl hp))]; rfl))
      | true =>
        refine pos rfl ?_
        by_cases h0 : i = 0
        · refine neg (by omega) (Ev.bind (val rfl) ?_)
          refine both (fun q => ?_) (fun q => ret' ?_)
          · rw [decide_eq_true q] at hf
            exact of_eq ih' (by rw [sOk_eq h40 hp (.inl h0), ← hf, Bool.true_and])
          · rw [decide_eq_false q] at hf
            rw [sOk_no (.inr (.inr (.inr hf.symm)))]; rfl
        · refine pos (by omega) ?_
          rw [show wrap64 ((i : Int) - 1) = ((i - 1 : Nat) : Int) by rw [wrap_id (by omega) (by omega)]; omega]
          refine pos (by omega) (pos (by omega) (Ev.bind (scoreOrder_ev _ _) ?_))
          refine both (fun q => ret' ?_) (fun q => ?_)
          · rw [sOk_no (.inr (.inr (.inl ⟨h0, (ordM_ahd _ _).1 q⟩)))]; rfl
          · have ha : ahd (rd_T40 l ((i - 1 : Nat) : Int)) (rd_T40 l (i : Int)) = true := by
              cases e : ahd (rd_T40 l ((i - 1 : Nat) : Int)) (rd_T40 l (i : Int)) with
              | true => rfl
              | false => exact absurd ((ordM_ahd _ _).2 e) q
            refine Ev.bind (val rfl) ?_
            refine both (fun q => ?_) (fun q => ret' ?_)
            · rw [decide_eq_true q] at hf
              exact of_eq ih' (by rw [sOk_eq h40 hp (.inr ha), ← hf, Bool.true_and])
            · rw [decide_eq_false q] at hf
              rw [sOk_no (.inr (.inr (.inr hf.symm)))]; rfl
theorem impl_ScoresOk_ev (l : List Score) (hl : l.length ≤ maxLen) : Ev (fun k => impl_ScoresOk.f k l) (scoresB l) := impl_ScoresOk_l0 l hl l.length 0 (by omega)
end Go.Proofs.Ytcpnekdhdmncfaa.Q
namespace Go.Proofs.Ytcpnekdhdmncfaa.Q
open Go.RowKit Go.Proofs.YtcpnekdhdmncfaaW.PrintWords Go.Proofs.YtcpnekdhdmncfaaW.PrintLast Go.Proofs.Ytcpnekdhdmncfaa.P
end Go.Proofs.Ytcpnekdhdmncfaa.Q
namespace Go.Proofs.Ytcpnekdhdmncfaa.Q
open Go.RowKit Go.Proofs.YtcpnekdhdmncfaaW.PrintWords Go.Proofs.YtcpnekdhdmncfaaW.PrintLast Go.Proofs.YtcpnekdhdmncfaaW.PrintMore Go.Proofs.Ytcpnekdhdmncfaa.P
end Go.Proofs.Ytcpnekdhdmncfaa.Q
namespace Go.Proofs.Ytcpnekdhdmncfaa.Q
open Go.RowKit Go.Proofs.YtcpnekdhdmncfaaW.PrintWords Go.Proofs.YtcpnekdhdmncfaaW.PrintLast Go.Proofs.YtcpnekdhdmncfaaW.PrintMore Go.Proofs.Ytcpnekdhdmncfaa.P
theorem scoresB_len {l : List Score} (h : scoresB l = true) : l.length ≤ 16 := by
  simp only [scoresB, Bool.and_eq_true, decide_eq_true_eq] at h
  omega
theorem scoresB_fresh {l : List Score} (h : scoresB l = true) (i : Nat) (hi : i < l.length) : fresh l i = true := by
  simp only [scoresB, Bool.and_eq_true, List.all_eq_true] at h
  have := h.1 i (by simp [List.mem_range'_1]; exact hi)
  unfold sOk at this
  simp only [Bool.and_eq_true] at this
  exact this.2.2.2
theorem scoresB_apart {l : List Score} (h : scoresB l = true) : l.Pairwise (fun a b => a.f0 ≠ b.f0) := by
  rw [List.pairwise_iff_getElem]
  intro i j hi hj hij
  have := scoresB_fresh h j hj
  unfold fresh at this
  simp only [List.all_eq_true, List.mem_range, Bool.not_eq_true', decide_eq_false_iff_not] at this
  have := this i hij
  rw [rdScore_lt _ _ hi, rdScore_lt _ _ hj] at this
  exact this
theorem filter_cons' (p : Score → Bool) (x : Score) (r : List Score) : (x :: r).filter p = if p x = true then x :: r.filter p else r.filter p := by
  by_cases h : p x = true <;> simp [h]
def withoutM (l : List Score) (t : ByteArray) : List Score := l.filter (fun s => !decide (s.f0 = t))
theorem withoutM_cons (x : Score) (r : List Score) (t : ByteArray) : withoutM (x :: r) t = if x.f0 = t then withoutM r t else x :: withoutM r t := by
  unfold withoutM
  by_cases h : x.f0 = t <;> simp [h]
theorem l3Without_l0 (l : List Score) (hl : l.length ≤ 1048576) (t : ByteArray) (d : Nat) : ∀ (i : Nat) (x : List Score), i + d = l.length → x.length ≤ i → Ev (fun k => spec_l3Without.l0 k l t x (i : Int)) (x ++ withoutM (l.drop i) t) := by
  induction d with
  | zero =>
    intro i x hi hx
    refine Ev.step (g := fun k => spec_l3Without.l0 k _ _ _ _) (fun k => by rw [spec_l3Without.l0]) (neg (by omega) (ret' ?_))
    rw [List.drop_of_length_le (by omega)]
    simp [withoutM]
  | succ d ih =>
    intro i x hi hx
    have hlt : i < l.length := by omega
    refine Ev.step (g := fun k => spec_l3Without.l0 k _ _ _ _) (fun k => by rw [spec_l3Without.l0]) (pos (by omega) (pos (by omega) ?_))
    rw [rdScore_lt _ _ hlt, List.drop_eq_getElem_cons hlt, wrap_id (by omega) (by omega), withoutM_cons]
    refine both (fun q => ?_) (fun q => ?_)
    · rw [if_pos (toList_inj q)]
      exact ih (i + 1) x (by omega) (by omega)
    · rw [if_neg (fun e => q (by rw [e]))]
      exact pos (by omega) (of_eq (ih (i + 1) (x ++ [l[i]]) (by omega) (by simp; omega)) (by simp))
theorem l3Without_ev (l : List Score) (hl : l.length ≤ 1048576) (t : ByteArray) : Ev (fun k => spec_l3Without.f k l t) (withoutM l t) := by
  have := l3Without_l0 l hl t l.length 0 [] (by omega) (by simp)
  simpa [spec_l3Without.f] using this
theorem withoutM_len (l : List Score) (t : ByteArray) : (withoutM l t).length ≤ l.length := List.length_filter_le _ _
theorem withoutM_all {l : List Score} {t : ByteArray} (h : ∀ s ∈ l, s.f0 ≠ t) : withoutM l t = l := by
  unfold withoutM
  rw [List.filter_eq_self]
  intro s hs
  simp [h s hs]
theorem without_from (t : ByteArray) (l : List Score) : ∀ (o : Nat), l.Pairwise (fun a b => a.f0 ≠ b.f0) →
    (impl_scoreAt.from t l o = -1 ∧ withoutM l t = l) ∨ (∃ j : Nat, impl_scoreAt.from t l o = ((o + j : Nat) : Int) ∧ j < l.length ∧ withoutM l t = l.eraseIdx j) := by
  induction l with
  | nil => intro o _; exact .inl ⟨rfl, rfl⟩
  | cons x r ih =>
    intro o hp
    obtain ⟨h1, h2⟩ := List.pairwise_cons.1 hp
    rw [impl_scoreAt.from, withoutM_cons]
    by_cases h : x.f0.toList = t.toList
    · rw [if_pos h, if_pos (toList_inj h)]
      refine .inr ⟨0, rfl, by simp, ?_⟩
      rw [withoutM_all (fun s hs e => h1 s hs (by rw [toList_inj h, e]))]
      rfl
    · rw [if_neg h, if_neg (fun e => h (by rw [e]))]
      rcases ih (o + 1) h2 with ⟨a, b⟩ | ⟨j, a, b, c⟩
      · exact .inl ⟨a, by rw [b]⟩
      · refine .inr ⟨j + 1, by rw [a]; congr 1; omega, by simp; omega, by rw [c]; rfl⟩
theorem copiedScores_ev (l : List Score) (hl : l.length ≤ 1048576) : Ev (fun _ => impl_copiedScores.f l) l := by
  unfold impl_copiedScores.f
  refine Ev.bind (ret _) (pos ?_ (ret' rfl))
  simp; omega
end Go.Proofs.Ytcpnekdhdmncfaa.Q
namespace Go.Proofs.Ytcpnekdhdmncfaa.Q
open Go.RowKit Go.Proofs.YtcpnekdhdmncfaaW.PrintWords Go.Proofs.YtcpnekdhdmncfaaW.PrintLast Go.Proofs.Ytcpnekdhdmncfaa.P
theorem ahd_iff {a b : Score} : ahd a b = true ↔ a.f1 < b.f1 ∨ (a.f1 = b.f1 ∧ lt a.f0 b.f0 = true) := by simp [ahd]
theorem ahd_trans {a b c : Score} (h : ahd a b = true) (h' : ahd b c = true) : ahd a c = true := by
  rw [ahd_iff] at h h' ⊢
  rcases h with h | ⟨h, g⟩ <;> rcases h' with h' | ⟨h', g'⟩
  · left; omega
  · left; omega
  · left; omega
  · right; exact ⟨by omega, lt_trans g g'⟩
theorem ahd_irrefl (a : Score) : ahd a a = false := by
  cases h : ahd a a with
  | false => rfl
  | true =>
    rcases ahd_iff.1 h with q | ⟨_, q⟩
    · omega
    · rw [lt_irrefl] at q; cases q
theorem ahd_total {a b : Score} (h : a.f0 ≠ b.f0) (h' : ¬ ahd a b = true) : ahd b a = true := by
  rw [ahd_iff] at h' ⊢
  rcases Int.lt_trichotomy a.f1 b.f1 with q | q | q
  · exact absurd (.inl q) h'
  · rcases lt_tri a.f0 b.f0 with w | w | w
    · exact absurd (.inr ⟨q, w⟩) h'
    · exact absurd w h
    · exact .inr ⟨q.symm, w⟩
  · exact .inl q
theorem scoresB_iff (l : List Score) : scoresB l = true ↔ (∀ x ∈ l, x.f0.size ≤ 40 ∧ placeB x.f1 = true) ∧ l.Pairwise (fun a b => ahd a b = true) ∧ l.Pairwise (fun a b => a.f0 ≠ b.f0) ∧ l.length ≤ 16 := by
  constructor
  · intro h
    have hf := scoresB_apart h
    have h16 := scoresB_len h
    have hs : ∀ i (hi : i < l.length), sOk l i = true := by
      intro i hi
      simp only [scoresB, Bool.and_eq_true, List.all_eq_true] at h
      exact h.1 i (by simp [List.mem_range'_1]; exact hi)
    have hadj : ∀ i (hi : i + 1 < l.length), ahd l[i] l[i + 1] = true := by
      intro i hi
      have := hs (i + 1) hi
      unfold sOk at this
      simp only [Bool.and_eq_true, Bool.or_eq_true, decide_eq_true_eq] at this
      obtain ⟨_, _, h3, _⟩ := this
      rcases h3 with h3 | h3
      · omega
      · rw [show i + 1 - 1 = i by omega, rdScore_lt _ _ (by omega), rdScore_lt _ _ hi] at h3
        exact h3
    refine ⟨fun x hx => ?_, ?_, hf, h16⟩
    · obtain ⟨i, hi, rfl⟩ := List.getElem_of_mem hx
      have := hs i hi
      unfold sOk at this
      simp only [Bool.and_eq_true, decide_eq_true_eq] at this
      rw [rdScore_lt _ _ hi] at this
      exact ⟨this.1, this.2.1⟩
    · rw [List.pairwise_iff_getElem]
      intro i j hi hj hij
      obtain ⟨d, rfl⟩ : ∃ d, j = i + 1 + d := ⟨j - (i + 1), by omega⟩
      clear hij
      induction d with
      | zero => exact hadj i hj
      | succ d ih => exact ahd_trans (ih (by omega)) (hadj (i + 1 + d) hj)
  · rintro ⟨h1, h2, h3, h4⟩
    simp only [scoresB, Bool.and_eq_true, List.all_eq_true, decide_eq_true_eq]
    refine ⟨fun i hi => ?_, by omega⟩
    have hi : i < l.length := by simpa [List.mem_range'_1] using hi
    obtain ⟨a, b⟩ := h1 _ (List.getElem_mem hi)
    rw [sOk_eq (by rw [rdScore_lt _ _ hi]; exact a) (by rw [rdScore_lt _ _ hi]; exact b)]
    · unfold fresh
      simp only [List.all_eq_true, List.mem_range, Bool.not_eq_true', decide_eq_false_iff_not]
      intro k hk
      rw [rdScore_lt _ _ (show k < l.length by omega), rdScore_lt _ _ hi]
      exact List.pairwise_iff_getElem.1 h3 k i (by omega) hi hk
    · by_cases h0 : i = 0
      · exact .inl h0
      · right
        rw [rdScore_lt _ _ (show i - 1 < l.length by omega), rdScore_lt _ _ hi]
        exact List.pairwise_iff_getElem.1 h2 (i - 1) i (by omega) hi (by omega)
def insM (s : Score) : List Score → List Score
  | [] => [s]
  | x :: r => if ahd x s = true then x :: insM s r else s :: x :: r
theorem insM_len (s : Score) (l : List Score) : (insM s l).length = l.length + 1 := by
  induction l with
  | nil => rfl
  | cons x r ih =>
    rw [insM]
    split
    · simp [ih]
    · rfl
theorem insM_mem (s : Score) (l : List Score) (x : Score) : x ∈ insM s l ↔ x = s ∨ x ∈ l := by
  induction l with
  | nil => simp [insM]
  | cons y r ih =>
    rw [insM]
    split
    · rw [List.mem_cons, ih, List.mem_cons]
      constructor
      · rintro (h | h | h)
        · exact .inr (.inl h)
        · exact .inl h
        · exact .inr (.inr h)
      · rintro (h | h | h)
        · exact .inr (.inl h)
        · exact .inl h
        · exact .inr (.inr h)
    · simp
theorem insM_asc (s : Score) (l : List Score) (h : l.Pairwise (fun a b => ahd a b = true)) (hs : ∀ x ∈ l, x.f0 ≠ s.f0) : (insM s l).Pairwise (fun a b => ahd a b = true) := by
  induction l with
  | nil => simp [insM]
  | cons x r ih =>
    obtain ⟨h1, h2⟩ := List.pairwise_cons.1 h
    rw [insM]
    by_cases hx : ahd x s = true
    · rw [if_pos hx, List.pairwise_cons]
      refine ⟨fun y hy => ?_, ih h2 (fun y hy => hs y (List.mem_cons_of_mem _ hy))⟩
      rcases (insM_mem s r y).1 hy with rfl | hy
      · exact hx
      · exact h1 y hy
    · rw [if_neg hx, List.pairwise_cons]
      have ht : ahd s x = true := ahd_total (hs x (by simp)) hx
      refine ⟨fun y hy => ?_, h⟩
      rcases List.mem_cons.1 hy with rfl | hy
      · exact ht
      · exact ahd_trans ht (h1 y hy)
theorem insM_apart (s : Score) (l : List Score) (h : l.Pairwise (fun a b => a.f0 ≠ b.f0)) (hs : ∀ x ∈ l, x.f0 ≠ s.f0) : (insM s l).Pairwise (fun a b => a.f0 ≠ b.f0) := by
  induction l with
  | nil => simp [insM]
  | cons x r ih =>
    obtain ⟨h1, h2⟩ := List.pairwise_cons.1 h
    rw [insM]
    by_cases hx : ahd x s = true
    · rw [if_pos hx, List.pairwise_cons]
      refine ⟨fun y hy => ?_, ih h2 (fun y hy => hs y (List.mem_cons_of_mem _ hy))⟩
      rcases (insM_mem s r y).1 hy with rfl | hy
      · exact hs x (by simp)
      · exact h1 y hy
    · rw [if_neg hx, List.pairwise_cons]
      refine ⟨fun y hy => ?_, h⟩
      rcases List.mem_cons.1 hy with rfl | hy
      · exact fun e => hs y (by simp) e.symm
      · exact fun e => hs y (List.mem_cons_of_mem _ hy) e.symm
theorem without_mem {l : List Score} {t : ByteArray} {x : Score} (h : x ∈ withoutM l t) : x ∈ l ∧ x.f0 ≠ t := by
  have := List.mem_filter.1 h
  exact ⟨this.1, by simpa using this.2⟩
def scoresPutM (l : List Score) (s : Score) : List Score × Bool × Bool :=
  if scoresB l = true then (if scoresB (insM s (withoutM l s.f0)) = true then (insM s (withoutM l s.f0), (((withoutM l s.f0).length : Int) == (l.length : Int)), true) else (l, false, false)) else ([], false, false)
theorem scoresPutM_len (l : List Score) (s : Score) : (scoresPutM l s).1.length ≤ l.length + 1 := by
  have := withoutM_len l s.f0
  unfold scoresPutM
  split
  · split
    · rw [insM_len]; omega
    · simp
  · simp
theorem spec_ScoresPut_l0 (l0 : List Score) (hl0 : l0.length ≤ 1048576) (l : List Score) (hl : l.length ≤ 1048576) (s : Score) (d : Nat) : ∀ (i : Nat), i + d = l.length →
    Ev (fun k => spec_ScoresPut.l0 k l0 l (i : Int) s.f0 s.f1) (if scoresB (l.take i ++ insM s (l.drop i)) = true then (l.take i ++ insM s (l.drop i), ((l.length : Int) == (l0.length : Int)), true) else (l0, false, false)) := by
  have last : ∀ (i : Nat) (o : List Score), i ≤ l.length → l.take i ++ [s] ++ l.drop i = o → Ev (fun k => (spec_ScoresOk.f k o).bind fun t434 => (if t434 = true then (some (o, ((l.length : Int) == (l0.length : Int)), true)) else ((some (([] : List Score) : List Score)).bind fun y435 => (if y435.length + l0.length < 5864062014805 then (some ((y435 ++ l0), false, false)) else (none))))) (if scoresB o = true then (o, ((l.length : Int) == (l0.length : Int)), true) else (l0, false, false)) := by
    intro i o hi e
    have hlen : o.length ≤ maxLen := by
      rw [← e]
      unfold maxLen
      simp
      omega
    refine Ev.bind (spec_ScoresOk_ev o hlen) (both (fun h => ?_) (fun h => ?_))
    · rw [if_pos h]; exact ret _
    · rw [if_neg h]
      exact Ev.bind (ret _) (pos (by simp; omega) (ret' (by simp)))
  induction d with
  | zero =>
    intro i hi
    refine Ev.step (g := fun k => spec_ScoresPut.l0 k _ _ _ _ _) (fun k => by rw [spec_ScoresPut.l0]) (neg (by omega) ?_)
    refine Ev.step (g := fun k => spec_ScoresPut.j1 k _ _ _ _ _) (fun k => by rw [spec_ScoresPut.j1]) ?_
    refine Ev.bind (ret _) (pos (by omega) (pos (by omega) (Ev.bind (ret _) ?_)))
    refine pos (by simp; omega) (Ev.bind (ret _) (Ev.bind (ret _) ?_))
    refine pos (by simp; omega) (Ev.bind (ret _) (Ev.bind (ret _) ?_))
    refine pos (by simp; omega) (Ev.bind (ret _) ?_)
    have e : l.take i ++ insM s (l.drop i) = [] ++ l.take (i : Int).toNat ++ [(⟨s.f0, s.f1⟩ : Score)] ++ l.drop (i : Int).toNat := by
      rw [Int.toNat_natCast, List.drop_of_length_le (by omega)]
      simp [insM]
    rw [e]
    refine last i _ (by omega) ?_
    rw [Int.toNat_natCast]
    rfl
  | succ d ih =>
    intro i hi
    have hlt : i < l.length := by omega
    have hd := List.drop_eq_getElem_cons hlt
    refine Ev.step (g := fun k => spec_ScoresPut.l0 k _ _ _ _ _) (fun k => by rw [spec_ScoresPut.l0]) (pos (by omega) (pos (by omega) ?_))
    refine Ev.bind (val (l3Ahead_eq _ s)) ?_
    rw [rdScore_lt _ _ hlt, wrap_id (x := (i : Int) + 1) (by omega) (by omega)]
    refine both (fun h => ?_) (fun h => ?_)
    · have e : l.take i ++ insM s (l.drop i) = l.take (i + 1) ++ insM s (l.drop (i + 1)) := by
        rw [hd, insM, if_pos h, List.take_succ_eq_append_getElem hlt, List.append_assoc, List.singleton_append]
      rw [e]
      exact ih (i + 1) (by omega)
    · refine Ev.step (g := fun k => spec_ScoresPut.j1 k _ _ _ _ _) (fun k => by rw [spec_ScoresPut.j1]) ?_
      refine Ev.bind (ret _) (pos (by omega) (pos (by omega) (Ev.bind (ret _) ?_)))
      refine pos (by simp; omega) (Ev.bind (ret _) (Ev.bind (ret _) ?_))
      refine pos (by simp; omega) (Ev.bind (ret _) (Ev.bind (ret _) ?_))
      refine pos (by simp; omega) (Ev.bind (ret _) ?_)
      have e : l.take i ++ insM s (l.drop i) = [] ++ l.take (i : Int).toNat ++ [(⟨s.f0, s.f1⟩ : Score)] ++ l.drop (i : Int).toNat := by
        rw [Int.toNat_natCast, hd, insM, if_neg h]
        simp
      rw [e]
      refine last i _ (by omega) ?_
      rw [Int.toNat_natCast]
      rfl
theorem spec_ScoresPut_ev (l : List Score) (hl : l.length ≤ 1048576) (s : Score) : Ev (fun k => spec_ScoresPut.f k l s.f0 s.f1) (scoresPutM l s) := by
  unfold spec_ScoresPut.f scoresPutM
  refine Ev.bind (spec_ScoresOk_ev l (by unfold maxLen; omega)) (both (fun h => ?_) (fun h => ?_))
  · rw [if_pos h]
    have hw := withoutM_len l s.f0
    refine Ev.bind (l3Without_ev l hl s.f0) ?_
    have := spec_ScoresPut_l0 l hl (withoutM l s.f0) (by omega) s (withoutM l s.f0).length 0 (by omega)
    exact this
  · rw [if_neg h]; exact ret _
end Go.Proofs.Ytcpnekdhdmncfaa.Q
namespace Go.Proofs.Ytcpnekdhdmncfaa.Q
open Go.RowKit Go.Proofs.YtcpnekdhdmncfaaW.PrintWords Go.Proofs.YtcpnekdhdmncfaaW.PrintLast Go.Proofs.Ytcpnekdhdmncfaa.P
theorem insM_perm (s : Score) (l : List Score) : (insM s l).Perm (s :: l) := by
  induction l with
  | nil => exact List.Perm.refl _
  | cons x r ih =>
    rw [insM]
    split
    · exact (ih.cons x).trans (List.Perm.swap s x r)
    · exact List.Perm.refl _
theorem set_perm (s : Score) (l : List Score) : ∀ (i : Nat), l.Pairwise (fun a b => a.f0 ≠ b.f0) → (h : i < l.length) → l[i].f0 = s.f0 → (l.set i s).Perm (s :: withoutM l s.f0) := by
  induction l with
  | nil => intro i _ h; simp at h
  | cons x r ih =>
    intro i hp h he
    obtain ⟨h1, h2⟩ := List.pairwise_cons.1 hp
    cases i with
    | zero =>
      rw [List.getElem_cons_zero] at he
      rw [List.set_cons_zero, withoutM_cons, if_pos he, withoutM_all (fun y hy e => h1 y hy (by rw [he, e]))]
    | succ i =>
      rw [List.getElem_cons_succ] at he
      have hi : i < r.length := by simpa using h
      have hne : ¬ x.f0 = s.f0 := fun e => h1 r[i] (List.getElem_mem hi) (by rw [e, he])
      rw [List.set_cons_succ, withoutM_cons, if_neg hne]
      exact ((ih i h2 hi he).cons x).trans (List.Perm.swap s x _)
theorem sortS_ev {l m : List Score} (hp : l.Perm m) (hm : m.Pairwise fun a b => ahd a b = true) (hd : m.Pairwise fun a b => a.f0 ≠ b.f0) (hn : l ≠ []) (hl : l.length ≤ 1048576) : slices_SortFunc_impl_Score_impl_Score.f l = some m := by
  have hdl : l.Pairwise fun a b => a.f0 ≠ b.f0 := hp.symm.pairwise hd (fun h => h.symm)
  unfold slices_SortFunc_impl_Score_impl_Score.f
  rw [if_pos ⟨hn, hdl, by omega⟩]
  congr 1
  unfold slices_SortFunc_impl_Score_impl_Score.sorted
  have hO := slices_SortFunc_impl_Score_impl_Score.swo
  refine List.Perm.eq_of_pairwise (le := fun x y => (!slices_SortFunc_impl_Score_impl_Score.lt y x) = true) (fun a b ha hb h h' => ?_) (List.pairwise_mergeSort (fun a b c h h' => ?_) (fun a b => ?_) l) (hm.imp fun {a b} h => ?_) ((List.mergeSort_perm l _).trans hp)
  · simp only [Bool.not_eq_true'] at h h'
    exact slices_SortFunc_impl_Score_impl_Score.uniq hd a (hp.mem_iff.1 ((List.mergeSort_perm l _).mem_iff.1 ha)) b hb (slices_SortFunc_impl_Score_impl_Score.lt_eq h' h)
  · simp only [Bool.not_eq_true'] at h h' ⊢
    exact hO.ntrans c b a h' h
  · cases h : slices_SortFunc_impl_Score_impl_Score.lt b a with
    | false => rfl
    | true =>
      cases h' : slices_SortFunc_impl_Score_impl_Score.lt a b with
      | false => rfl
      | true => have := hO.trans _ _ _ h h'; rw [hO.irrefl] at this; cases this
  · have : slices_SortFunc_impl_Score_impl_Score.lt b a = false := by
      cases h' : slices_SortFunc_impl_Score_impl_Score.lt b a with
      | false => rfl
      | true => have := ahd_trans h (show ahd b a = true from h'); rw [ahd_irrefl] at this; cases this
    rw [this]
    rfl
theorem impl_ScoresPut_ev (l : List Score) (hl : l.length ≤ 1048576) (s : Score) : Ev (fun k => impl_ScoresPut.f k l s.f0 s.f1) (scoresPutM l s) := by
  unfold impl_ScoresPut.f scoresPutM
  refine Ev.bind (impl_ScoresOk_ev l (by unfold maxLen; omega)) ?_
  cases hS : scoresB l with
  | false => exact neg (by decide) (ret' (by simp))
  | true =>
    have h16 := scoresB_len hS
    obtain ⟨_, h2, h3, _⟩ := (scoresB_iff l).1 hS
    have hC := copiedScores_ev l hl
    refine pos rfl (Ev.bind hC (Ev.bind (val rfl) ?_))
    rw [if_pos rfl]
    have hw := withoutM_len l s.f0
    have hil := insM_len s (withoutM l s.f0)
    have hne : ∀ x ∈ withoutM l s.f0, x.f0 ≠ s.f0 := fun x hx => (without_mem hx).2
    have hasc := insM_asc s _ (h2.filter _ : (withoutM l s.f0).Pairwise _) hne
    have hap := insM_apart s _ (h3.filter _ : (withoutM l s.f0).Pairwise _) hne
    have hK := impl_ScoresOk_ev (insM s (withoutM l s.f0)) (by unfold maxLen; omega)
    have hC2 := copiedScores_ev (insM s (withoutM l s.f0)) (by omega)
    have fin : ∀ (m : List Score) (a : Int), m.Perm (s :: withoutM l s.f0) → m ≠ [] → (decide (a < 0)) = (((withoutM l s.f0).length : Int) == (l.length : Int)) → Ev (fun k => impl_ScoresPut.j0 k l m a) (if scoresB (insM s (withoutM l s.f0)) = true then (insM s (withoutM l s.f0), (((withoutM l s.f0).length : Int) == (l.length : Int)), true) else (l, false, false)) := by
      intro m a hm hn ha
      have hml := hm.length_eq
      rw [List.length_cons] at hml
      refine Ev.step (g := fun k => impl_ScoresPut.j0 k _ _ _) (fun k => by rw [impl_ScoresPut.j0]) (Ev.bind (val (sortS_ev (hm.trans (insM_perm s _).symm) hasc hap hn (by omega))) (Ev.bind hK ?_))
      cases hb : scoresB (insM s (withoutM l s.f0)) with
      | true => exact pos rfl (Ev.bind hC2 (ret' (by rw [ha]; rfl)))
      | false => exact neg (by decide) (Ev.bind hC (ret' (by simp)))
    rcases without_from s.f0 l 0 h3 with ⟨a, b⟩ | ⟨j, a, b, c⟩
    · rw [a]
      refine neg (by omega) (pos (by omega) ?_)
      refine fin _ _ ?_ (by simp) (by rw [b]; simp)
      rw [b]
      exact List.perm_append_singleton _ _
    · rw [Nat.zero_add] at a
      have hat := (from_iff s.f0 l 0 j).1 (by rw [a, Nat.zero_add])
      obtain ⟨_, e1, _⟩ := hat
      have hlen := List.length_eraseIdx_of_lt b
      rw [a]
      refine pos (by omega) (pos (by omega) (pos (by omega) ?_))
      rw [Int.toNat_natCast]
      refine fin _ _ (set_perm s l j h3 b e1) (fun e => by rw [List.set_eq_nil_iff] at e; rw [e] at b; simp at b) ?_
      rw [decide_eq_false (by omega), eq_comm, beq_eq_false_iff_ne, c]
      omega
end Go.Proofs.Ytcpnekdhdmncfaa.Q
namespace Go.Proofs.Ytcpnekdhdmncfaa.Q
open Go.RowKit Go.Proofs.YtcpnekdhdmncfaaW.PrintWords Go.Proofs.YtcpnekdhdmncfaaW.PrintLast Go.Proofs.Ytcpnekdhdmncfaa.P
theorem strOfNums_one (x : Int) : (strOfNums [x]).size = 1 := by rfl
theorem markText_l0 (d : Nat) : ∀ (x : Int) (s : ByteArray), x.toNat ≤ d → x.toNat + s.size ≤ 9223372036854775806 → ∃ r, Ev (fun k => laws_markText.l0 k x s) r := by
  induction d with
  | zero =>
    intro x s hx hs
    exact ⟨_, Ev.step (fun k => by rw [laws_markText.l0]) (neg (by omega) (pos (by omega) (ret _)))⟩
  | succ d ih =>
    intro x s hx hs
    by_cases h : x > 0
    · have e1 : (Int.tdiv x 10) = x / 10 := Int.tdiv_eq_ediv_of_nonneg (by omega)
      have e2 : wrap64 (Int.tdiv x 10) = x / 10 := by rw [e1]; exact wrap_id (by omega) (by omega)
      obtain ⟨r, hr⟩ := ih (x / 10) (strOfNums [(wrap64 (48 + (Int.tmod x 10))) % 256] ++ s) (by omega) (by rw [ByteArray.size_append, strOfNums_one]; omega)
      refine ⟨r, Ev.step (fun k => by rw [laws_markText.l0]) (pos h ?_)⟩
      refine Ev.bind (ret _) (pos ?_ ?_)
      · rw [strOfNums_one]; omega
      · rw [e2]; exact hr
    · exact ⟨_, Ev.step (fun k => by rw [laws_markText.l0]) (neg h (pos (by omega) (ret _)))⟩
theorem markText_ex (n : Int) (h : n ≤ 9223372036854775806) : ∃ r, Ev (fun k => laws_markText.f k n) r := by
  unfold laws_markText.f
  by_cases h0 : n ≤ 0
  · exact ⟨_, pos h0 (ret _)⟩
  · obtain ⟨r, hr⟩ := markText_l0 n.toNat n (⟨#[]⟩ : ByteArray) (Nat.le_refl _) (by show n.toNat + 0 ≤ _; omega)
    exact ⟨r, neg h0 hr⟩
open Classical in
noncomputable def markT (n : Int) : ByteArray := if h : ∃ r, Ev (fun k => laws_markText.f k n) r then h.choose else ByteArray.empty
theorem markT_ev (n : Int) (h : n ≤ 9223372036854775806) : Ev (fun k => laws_markText.f k n) (markT n) := by
  have h' := markText_ex n h
  unfold markT
  rw [dif_pos h']
  exact h'.choose_spec
end Go.Proofs.Ytcpnekdhdmncfaa.Q
namespace Go.Proofs.Ytcpnekdhdmncfaa.Q
open Go.RowKit Go.Proofs.YtcpnekdhdmncfaaW.PrintWords Go.Proofs.YtcpnekdhdmncfaaW.PrintLast Go.Proofs.Ytcpnekdhdmncfaa.P
noncomputable def marksS (n : Int) (m : Nat) : List Score := (List.range m).map fun (j : Nat) => ⟨markT (n + 2 * (j : Int)), n + 2 * (j : Int) + 1⟩
theorem marksS_length (n : Int) (m : Nat) : (marksS n m).length = m := by simp [marksS]
theorem marksS_get (n : Int) (m j : Nat) (h : j < (marksS n m).length) : (marksS n m)[j] = ⟨markT (n + 2 * j), n + 2 * j + 1⟩ := by simp [marksS]
theorem marksS_succ (n : Int) (m : Nat) : marksS n (m + 1) = marksS n m ++ [⟨markT (n + 2 * m), n + 2 * m + 1⟩] := by simp [marksS, List.range_succ]
theorem markScoreS_l0 (n : Int) (m : Nat) (h0 : 0 ≤ n) (h1 : n + 2 * m ≤ 9223372036854775806) (d : Nat) : ∀ (i : Nat) (x : List Score), i + d = m → x.length = m → x.take i = marksS n i →
    Ev (fun k => laws_markScoreS.l0 k x (n + 2 * i) (i : Int)) (n + 2 * m, marksS n m) := by
  induction d with
  | zero =>
    intro i x hi hx ht
    refine Ev.step (g := fun k => laws_markScoreS.l0 k _ _ _) (fun k => by rw [laws_markScoreS.l0]) (neg (by omega) (ret' ?_))
    obtain rfl : i = m := by omega
    rw [List.take_of_length_le (by omega)] at ht
    rw [ht]
  | succ d ih =>
    intro i x hi hx ht
    have hlt : i < x.length := by omega
    refine Ev.step (g := fun k => laws_markScoreS.l0 k _ _ _) (fun k => by rw [laws_markScoreS.l0]) (pos (by omega) (Ev.bind (markT_ev _ (by omega)) ?_))
    refine pos (by omega) (Ev.bind (ret _) ?_)
    rw [wrap_id (x := n + 2 * (i : Int) + 1) (by omega) (by omega), wrap_id (x := n + 2 * (i : Int) + 1 + 1) (by omega) (by omega), wrap_id (x := (i : Int) + 1) (by omega) (by omega)]
    rw [Int.toNat_natCast, rdScore_lt _ _ hlt, rdScore_lt _ _ (by simp; omega)]
    have := ih (i + 1) (x.set i ⟨markT (n + 2 * i), n + 2 * i + 1⟩) (by omega) (by simp [hx]) (by
      rw [List.take_succ_eq_append_getElem (by simp; omega), marksS_succ, List.take_set_of_le (Nat.le_refl _), ht]
      simp)
    rw [show (n + 2 * (i : Int) + 1 + 1) = n + 2 * ((i + 1 : Nat) : Int) by omega, List.set_set, List.getElem_set_self]
    exact this
theorem markScoreS_ev (l : List Score) (n : Int) (h0 : 0 ≤ n) (h1 : n + 2 * l.length ≤ 9223372036854775806) : Ev (fun k => laws_markScoreS.f k l n) (n + 2 * l.length, marksS n l.length) := by
  have := markScoreS_l0 n l.length h0 h1 l.length 0 l (by omega) rfl (by simp [marksS])
  simpa [laws_markScoreS.f] using this
theorem heldScoreS_l0 (n : Int) (m : Nat) (h0 : 0 ≤ n) (h1 : n + 2 * m ≤ 9223372036854775806) (d : Nat) : ∀ (i : Nat), i + d = m →
    Ev (fun k => laws_heldScoreS.l0 k (marksS n m) (n + 2 * i) (i : Int)) (n + 2 * m) := by
  have hm := marksS_length n m
  induction d with
  | zero =>
    intro i hi
    obtain rfl : i = m := by omega
    exact Ev.step (g := fun k => laws_heldScoreS.l0 k _ _ _) (fun k => by rw [laws_heldScoreS.l0]) (neg (by omega) (ret' rfl))
  | succ d ih =>
    intro i hi
    refine Ev.step (g := fun k => laws_heldScoreS.l0 k _ _ _) (fun k => by rw [laws_heldScoreS.l0]) (pos (by omega) (pos (by omega) ?_))
    rw [wrap_id (x := n + 2 * (i : Int) + 1) (by omega) (by omega), wrap_id (x := n + 2 * (i : Int) + 1 + 1) (by omega) (by omega), wrap_id (x := (i : Int) + 1) (by omega) (by omega), rdScore_lt _ _ (by omega), marksS_get]
    refine Ev.bind (markT_ev _ (by omega)) (pos rfl (pos rfl ?_))
    have := ih (i + 1) (by omega)
    rw [show (n + 2 * (i : Int) + 1 + 1) = n + 2 * ((i + 1 : Nat) : Int) by omega]
    exact this
theorem heldScoreS_ev (n : Int) (m : Nat) (h0 : 0 ≤ n) (h1 : n + 2 * m ≤ 9223372036854775806) : Ev (fun k => laws_heldScoreS.f k (marksS n m) n) (n + 2 * m) := by
  have := heldScoreS_l0 n m h0 h1 m 0 (by omega)
  simpa [laws_heldScoreS.f] using this
end Go.Proofs.Ytcpnekdhdmncfaa.Q
namespace Go.Proofs.Ytcpnekdhdmncfaa.Q
open Go.RowKit Go.Proofs.YtcpnekdhdmncfaaW.PrintWords Go.Proofs.YtcpnekdhdmncfaaW.PrintLast Go.Proofs.Ytcpnekdhdmncfaa.P
theorem FnExactScoresPut_pure (l : List LScore) (a : ByteArray) (b : Int) (hl : l.length ≤ maxLen) (hs : ∀ s ∈ l, s.f0.size ≤ maxLen ∧ (Lit.int .i64 s.f1).wf = true) (ha : a.size ≤ maxLen) (_hb : (Lit.int .i64 b).wf = true) : ∃ k, laws_FnExactScoresPut.f k l a b = some true := by
  refine exists_of (r := true) ?_
  unfold laws_FnExactScoresPut.f
  obtain ⟨v, hv, h1, h2, h3⟩ := szScoreS_ev l hl hs 1048576 (by omega) (by omega)
  refine Ev.bind hv (both (fun _ => ret _) (fun h => ?_))
  obtain ⟨h4, h5⟩ := h3 (by omega)
  obtain ⟨u, hu, g1, g2, g3⟩ := szScore_ev a b ha v (by omega) (by omega)
  refine Ev.bind (val hu) (both (fun _ => ret _) (fun g => ?_))
  have hT := toScoreS_ev l h4
  have hlen : (l.map cvScore).length ≤ 1048576 := by rw [List.length_map]; exact h4
  generalize l.map cvScore = m at hT hlen
  have hlen' : m.length ≤ maxLen := by unfold maxLen; omega
  have hS := spec_ScoresPut_ev m hlen ⟨a, b⟩
  have hI := impl_ScoresPut_ev m hlen ⟨a, b⟩
  have hr := scoresPutM_len m ⟨a, b⟩
  generalize scoresPutM m ⟨a, b⟩ = q at hS hI hr
  obtain ⟨r, r2, r3⟩ := q
  replace hr : r.length ≤ m.length + 1 := hr
  have hTo : Ev (fun _ => laws_toScore.f a b) (a, b) := val rfl
  have hE := eqScoreS_same m hlen'
  have hE1 := eqScoreS_same r (by unfold maxLen; omega)
  have hm := markScoreS_ev m 1 (by omega) (by omega)
  have hm1 := markScoreS_ev r 1 (by omega) (by omega)
  have hh1 := heldScoreS_ev 1 r.length (by omega) (by omega)
  have hx2 : (r2 != r2) = false := by simp
  have hx3 : (r3 != r3) = false := by simp
  repeat' first
    | exact ret _
    | exact ret' rfl
    | dsimp only
    | refine Ev.bind (hT) ?_
    | refine Ev.bind (hTo) ?_
    | refine Ev.bind (hS) ?_
    | refine Ev.bind (hI) ?_
    | refine Ev.bind (hE) ?_
    | refine Ev.bind (hE1) ?_
    | refine Ev.bind (hm) ?_
    | refine Ev.bind (hm1) ?_
    | refine Ev.bind (hh1) ?_
    | refine Ev.step (g := fun k => laws_FnExactScoresPut.j0 k _ _ _ _ _ _ _ _ _ _ _) (fun k => by rw [laws_FnExactScoresPut.j0]) ?_
    | refine Ev.step (g := fun k => laws_FnExactScoresPut.j1 k _ _ _ _ _ _ _ _) (fun k => by rw [laws_FnExactScoresPut.j1]) ?_
    | refine Ev.step (g := fun k => laws_FnExactScoresPut.j2 k _ _ _) (fun k => by rw [laws_FnExactScoresPut.j2]) ?_
    | rw [hx2]
    | rw [hx3]
    | refine pos rfl ?_
    | refine neg (by decide) ?_
    | refine pos (by omega) ?_
    | refine neg (by omega) ?_
    | refine neg (by simp) ?_
end Go.Proofs.Ytcpnekdhdmncfaa.Q
