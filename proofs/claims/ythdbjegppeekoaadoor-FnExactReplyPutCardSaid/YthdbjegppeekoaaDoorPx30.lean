-- Written by wip/px.py of this session, over the kit's print.py. Not trusted: Lean checks it.
import Derived.Test.YthdbjegppeekoaaDoorPx0
import Derived.Test.YthdbjegppeekoaaDoorPx1
import Derived.Test.YthdbjegppeekoaaDoorPx4
import Derived.Test.YthdbjegppeekoaaDoorPx7
import Derived.Test.YthdbjegppeekoaaDoorPx10
import Derived.Test.YthdbjegppeekoaaDoorPx26
import Derived.Test.YthdbjegppeekoaaDoorPx29
namespace Go.Proofs.YthdbjegppeekoaaDoor.P
open Go.RowKit Go.Proofs.YthdbjegppeekoaaDoorW.PrintWords Go.Proofs.YthdbjegppeekoaaDoorW.PrintLast Go.Proofs.YthdbjegppeekoaaDoorW.PrintMore
attribute [local go_sem] max2_int min2_int max_two min_two max_three min_three max_four min_four   -- for this text's walks alone
set_option linter.unusedVariables false
set_option linter.unusedSimpArgs false

/-! ### laws_FnExactReplyPut: the walk -/
set_option maxHeartbeats 8000000 in
set_option maxRecDepth 100000 in
theorem laws_FnExactReplyPut.calls (k : Nat) (a0_0 : Int) (a0_1 : Int) (a0_2 : ByteArray) (A0_3 : Option Addr) (c0_3 : Nat) (l0_3 : List ByteArray) (A0_4 : Option Addr) (c0_4 : Nat) (l0_4 : List (S25)) (r : Bool) (w : World) (hT0 : X.Tab w) (hr0_3 : Kd.C Kd.string w A0_3 l0_3.length l0_3) (hc0_3 : l0_3.length ≤ c0_3) (hr0_4 : Kd.C k25 w A0_4 l0_4.length l0_4) (hc0_4 : l0_4.length ≤ c0_4) (h : laws_FnExactReplyPut.f k a0_0 a0_1 a0_2 l0_3 l0_4 = some r) :
    Calls Tryd.prog 3 #[.agg #[.int .i64 a0_0, .int .i64 a0_1, .string a0_2, .slice A0_3 l0_3.length c0_3, .slice A0_4 l0_4.length c0_4]] w fun e w' => e = .returned (.bool r) ∧ Below w.heap.size w w' := by
  have hu25 := Tryd.underlying25
  have hu30 := Tryd.underlying30
  have HR0_3 := Aside0.mk hr0_3
  have HC0_3 := Aside0.mk hc0_3
  clear hr0_3 hc0_3
  have HR0_4 := Aside0.mk hr0_4
  have HC0_4 := Aside0.mk hc0_4
  clear hr0_4 hc0_4
  have HB := Aside0.mk (Below.refl w.heap.size w)
  have H : ((laws_szReply.f k a0_0 a0_1 a0_2 l0_3 l0_4 1048576).bind fun t139 => (if t139 < 0 then (some true) else ((laws_toReply.f k a0_0 a0_1 a0_2 l0_3 l0_4).bind fun bt140 => ((spec_ReplyPut.f k bt140.1 bt140.2.1 bt140.2.2.1 bt140.2.2.2.1 bt140.2.2.2.2).bind fun t149 => ((laws_toReply.f k a0_0 a0_1 a0_2 l0_3 l0_4).bind fun bt150 => ((impl_ReplyPut.f k bt150.1 bt150.2.1 bt150.2.2.1 bt150.2.2.2.1 bt150.2.2.2.2).bind fun t160 => (if t160.toList = t149.toList then ((laws_toReply.f k a0_0 a0_1 a0_2 l0_3 l0_4).bind fun bt161 => ((laws_eqReply.f k bt150.1 bt150.2.1 bt150.2.2.1 bt150.2.2.2.1 bt150.2.2.2.2 bt161.1 bt161.2.1 bt161.2.2.1 bt161.2.2.2.1 bt161.2.2.2.2).bind fun t170 => (if t170 = true then (some true) else (some false)))) else (some false)))))))) = some r := h
  clear h
  replace H := Option.bind_eq_some_iff.mp H
  obtain ⟨t139, A20, H⟩ := H
  replace H : (if t139 < 0 then (some true) else ((laws_toReply.f k a0_0 a0_1 a0_2 l0_3 l0_4).bind fun bt140 => ((spec_ReplyPut.f k bt140.1 bt140.2.1 bt140.2.2.1 bt140.2.2.2.1 bt140.2.2.2.2).bind fun t149 => ((laws_toReply.f k a0_0 a0_1 a0_2 l0_3 l0_4).bind fun bt150 => ((impl_ReplyPut.f k bt150.1 bt150.2.1 bt150.2.2.1 bt150.2.2.2.1 bt150.2.2.2.2).bind fun t160 => (if t160.toList = t149.toList then ((laws_toReply.f k a0_0 a0_1 a0_2 l0_3 l0_4).bind fun bt161 => ((laws_eqReply.f k bt150.1 bt150.2.1 bt150.2.2.1 bt150.2.2.2.1 bt150.2.2.2.2 bt161.1 bt161.2.1 bt161.2.2.1 bt161.2.2.2.1 bt161.2.2.2.2).bind fun t170 => (if t170 = true then (some true) else (some false)))) else (some false))))))) = some r := H
  have A2 := Aside0.mk A20
  clear A20
  by_cases c3 : t139 < 0
  · rw [if_pos c3] at H
    have c3b0 : decide (t139 < 0) = true := decide_eq_true c3
    clear c3
    obtain rfl := Option.some.inj H
    go_enter Tryd.func3, Tryd.ntmps3
    go_wp2_with (first | ((with_reducible refine gate_dst (N := 1) rfl ?_); refine bx 1 #[.int .i64 a0_0, .int .i64 a0_1, .string a0_2, .slice A0_3 l0_3.length c0_3, .slice A0_4 l0_4.length c0_4] 25 ?_; intro gb138 hg w4 hbox hb; have n0_ := Aside0.mk (below_step (by exact bl HB) hb); have n1_ := Aside0.mk (hbox); have n2_ := Aside0.mk ((by rw [hg]; exact (below_size (by exact bl HB)) : w.heap.size ≤ gb138)); have n3_ := n2_; clear HB; have HB := n0_; have BK138 := n1_; have GW138 := n2_; have GE138 := n3_; clear n0_ n1_ n2_ n3_; clear hb hbox hg; have hcz5_0 : w4.cell? ⟨gb138, 0, none⟩ = some (.int .i64 a0_0) := bc BK138 0; have hcz5_1 : w4.cell? ⟨gb138, 1, none⟩ = some (.int .i64 a0_1) := bc BK138 1; have hcz5_2 : w4.cell? ⟨gb138, 2, none⟩ = some (.string a0_2) := bc BK138 2; have hcz5_3 : w4.cell? ⟨gb138, 3, none⟩ = some (.slice A0_3 l0_3.length c0_3) := bc BK138 3; have hcz5_4 : w4.cell? ⟨gb138, 4, none⟩ = some (.slice A0_4 l0_4.length c0_4) := bc BK138 4; have hfz5_0 := blk_frozen BK138.out 0; have hfz5_1 := blk_frozen BK138.out 1; have hfz5_2 := blk_frozen BK138.out 2; have hfz5_3 := blk_frozen BK138.out 3; have hfz5_4 := blk_frozen BK138.out 4) | ((with_reducible refine gate_callee (f := 4) rfl ?_); refine gl (some 9) Tryd.func4 #[.agg #[.int .i64 a0_0, .int .i64 a0_1, .string a0_2, .slice A0_3 l0_3.length c0_3, .slice A0_4 l0_4.length c0_4], .int .i64 1048576] ?_; (with_reducible refine (laws_szReply.calls k a0_0 a0_1 a0_2 _ _ l0_3 _ _ l0_4 1048576 t139 _ ?side1 ?side2 ?side3 ?side4 A2.out).mono ?_); (case side1 => exact kc HR0_3 HB); (case side2 => exact HC0_3.out); (case side3 => exact kc HR0_4 HB); (case side4 => exact HC0_4.out); rintro e w6 ⟨rfl, hb⟩; refine ⟨_, rfl, ?_⟩; have n0_ := Aside0.mk (blk_below (g := gb138) (o := .cells #[.int .i64 a0_0, .int .i64 a0_1, .string a0_2, .slice A0_3 l0_3.length c0_3, .slice A0_4 l0_4.length c0_4] 25 (0, 0)) (by exact bk BK138) hb); have n1_ := Aside0.mk (below_step (by exact b1 HB GE138) hb); clear BK138; clear HB; have BK138 := n0_; have HB := n1_; clear n0_ n1_; (try clear hb); (try clear hb2); (try clear hk); (try clear hi)))
    go_ret
    exact fz (by exact b1 HB GE138)
  · rw [if_neg c3] at H
    have c3b0 : decide (t139 < 0) = false := decide_eq_false c3
    clear c3
    replace H := Option.bind_eq_some_iff.mp H
    obtain ⟨⟨t140, t141, t142, t143, t146⟩, A70, H⟩ := H
    replace H : ((spec_ReplyPut.f k t140 t141 t142 t143 t146).bind fun t149 => ((laws_toReply.f k a0_0 a0_1 a0_2 l0_3 l0_4).bind fun bt150 => ((impl_ReplyPut.f k bt150.1 bt150.2.1 bt150.2.2.1 bt150.2.2.2.1 bt150.2.2.2.2).bind fun t160 => (if t160.toList = t149.toList then ((laws_toReply.f k a0_0 a0_1 a0_2 l0_3 l0_4).bind fun bt161 => ((laws_eqReply.f k bt150.1 bt150.2.1 bt150.2.2.1 bt150.2.2.2.1 bt150.2.2.2.2 bt161.1 bt161.2.1 bt161.2.2.1 bt161.2.2.2.1 bt161.2.2.2.2).bind fun t170 => (if t170 = true then (some true) else (some false)))) else (some false))))) = some r := H
    have A7 := Aside0.mk A70
    clear A70
    replace H := Option.bind_eq_some_iff.mp H
    obtain ⟨t149, A80, H⟩ := H
    replace H : ((laws_toReply.f k a0_0 a0_1 a0_2 l0_3 l0_4).bind fun bt150 => ((impl_ReplyPut.f k bt150.1 bt150.2.1 bt150.2.2.1 bt150.2.2.2.1 bt150.2.2.2.2).bind fun t160 => (if t160.toList = t149.toList then ((laws_toReply.f k a0_0 a0_1 a0_2 l0_3 l0_4).bind fun bt161 => ((laws_eqReply.f k bt150.1 bt150.2.1 bt150.2.2.1 bt150.2.2.2.1 bt150.2.2.2.2 bt161.1 bt161.2.1 bt161.2.2.1 bt161.2.2.2.1 bt161.2.2.2.2).bind fun t170 => (if t170 = true then (some true) else (some false)))) else (some false)))) = some r := H
    have A8 := Aside0.mk A80
    clear A80
    replace H := Option.bind_eq_some_iff.mp H
    obtain ⟨⟨t150, t151, t152, t153, t156⟩, A90, H⟩ := H
    replace H : ((impl_ReplyPut.f k t150 t151 t152 t153 t156).bind fun t160 => (if t160.toList = t149.toList then ((laws_toReply.f k a0_0 a0_1 a0_2 l0_3 l0_4).bind fun bt161 => ((laws_eqReply.f k t150 t151 t152 t153 t156 bt161.1 bt161.2.1 bt161.2.2.1 bt161.2.2.2.1 bt161.2.2.2.2).bind fun t170 => (if t170 = true then (some true) else (some false)))) else (some false))) = some r := H
    have A9 := Aside0.mk A90
    clear A90
    replace H := Option.bind_eq_some_iff.mp H
    obtain ⟨t160, A100, H⟩ := H
    replace H : (if t160.toList = t149.toList then ((laws_toReply.f k a0_0 a0_1 a0_2 l0_3 l0_4).bind fun bt161 => ((laws_eqReply.f k t150 t151 t152 t153 t156 bt161.1 bt161.2.1 bt161.2.2.1 bt161.2.2.2.1 bt161.2.2.2.2).bind fun t170 => (if t170 = true then (some true) else (some false)))) else (some false)) = some r := H
    have A10 := Aside0.mk A100
    clear A100
    by_cases c11 : t160.toList = t149.toList
    · rw [if_pos c11] at H
      have c11b0 : (t160.toList == t149.toList) = true := beq_iff_eq.mpr c11
      have c11b1 : (t160.toList != t149.toList) = false := bne_eq_false_iff_eq.mpr c11
      clear c11
      replace H := Option.bind_eq_some_iff.mp H
      obtain ⟨⟨t161, t162, t163, t164, t167⟩, A120, H⟩ := H
      replace H : ((laws_eqReply.f k t150 t151 t152 t153 t156 t161 t162 t163 t164 t167).bind fun t170 => (if t170 = true then (some true) else (some false))) = some r := H
      have A12 := Aside0.mk A120
      clear A120
      replace H := Option.bind_eq_some_iff.mp H
      obtain ⟨t170, A130, H⟩ := H
      replace H : (if t170 = true then (some true) else (some false)) = some r := H
      have A13 := Aside0.mk A130
      clear A130
      by_cases c14 : t170 = true
      · subst c14
        have H1 : (some true) = some r := by rw [if_pos rfl] at H; exact H
        clear H
        have H := H1
        clear H1
        obtain rfl := Option.some.inj H
        go_enter Tryd.func3, Tryd.ntmps3
        try go_wp2_with (first | ((with_reducible refine gate_dst (N := 1) rfl ?_); refine bx 1 #[.int .i64 a0_0, .int .i64 a0_1, .string a0_2, .slice A0_3 l0_3.length c0_3, .slice A0_4 l0_4.length c0_4] 25 ?_; intro gb138 hg w15 hbox hb; have n0_ := Aside0.mk (below_step (by exact bl HB) hb); have n1_ := Aside0.mk (hbox); have n2_ := Aside0.mk ((by rw [hg]; exact (below_size (by exact bl HB)) : w.heap.size ≤ gb138)); have n3_ := n2_; clear HB; have HB := n0_; have BK138 := n1_; have GW138 := n2_; have GE138 := n3_; clear n0_ n1_ n2_ n3_; clear hb hbox hg; have hcz16_0 : w15.cell? ⟨gb138, 0, none⟩ = some (.int .i64 a0_0) := bc BK138 0; have hcz16_1 : w15.cell? ⟨gb138, 1, none⟩ = some (.int .i64 a0_1) := bc BK138 1; have hcz16_2 : w15.cell? ⟨gb138, 2, none⟩ = some (.string a0_2) := bc BK138 2; have hcz16_3 : w15.cell? ⟨gb138, 3, none⟩ = some (.slice A0_3 l0_3.length c0_3) := bc BK138 3; have hcz16_4 : w15.cell? ⟨gb138, 4, none⟩ = some (.slice A0_4 l0_4.length c0_4) := bc BK138 4; have hfz16_0 := blk_frozen BK138.out 0; have hfz16_1 := blk_frozen BK138.out 1; have hfz16_2 := blk_frozen BK138.out 2; have hfz16_3 := blk_frozen BK138.out 3; have hfz16_4 := blk_frozen BK138.out 4) | ((with_reducible refine gate_callee (f := 4) rfl ?_); refine gl (some 9) Tryd.func4 #[.agg #[.int .i64 a0_0, .int .i64 a0_1, .string a0_2, .slice A0_3 l0_3.length c0_3, .slice A0_4 l0_4.length c0_4], .int .i64 1048576] ?_; (with_reducible refine (laws_szReply.calls k a0_0 a0_1 a0_2 _ _ l0_3 _ _ l0_4 1048576 t139 _ ?side1 ?side2 ?side3 ?side4 A2.out).mono ?_); (case side1 => exact kc HR0_3 HB); (case side2 => exact HC0_3.out); (case side3 => exact kc HR0_4 HB); (case side4 => exact HC0_4.out); rintro e w17 ⟨rfl, hb⟩; refine ⟨_, rfl, ?_⟩; have n0_ := Aside0.mk (blk_below (g := gb138) (o := .cells #[.int .i64 a0_0, .int .i64 a0_1, .string a0_2, .slice A0_3 l0_3.length c0_3, .slice A0_4 l0_4.length c0_4] 25 (0, 0)) (by exact bk BK138) hb); have n1_ := Aside0.mk (below_step (by exact b1 HB GE138) hb); clear BK138; clear HB; have BK138 := n0_; have HB := n1_; clear n0_ n1_; (try clear hb); (try clear hb2); (try clear hk); (try clear hi); have hcz18_0 : w17.cell? ⟨gb138, 0, none⟩ = some (.int .i64 a0_0) := bc BK138 0; have hcz18_1 : w17.cell? ⟨gb138, 1, none⟩ = some (.int .i64 a0_1) := bc BK138 1; have hcz18_2 : w17.cell? ⟨gb138, 2, none⟩ = some (.string a0_2) := bc BK138 2; have hcz18_3 : w17.cell? ⟨gb138, 3, none⟩ = some (.slice A0_3 l0_3.length c0_3) := bc BK138 3; have hcz18_4 : w17.cell? ⟨gb138, 4, none⟩ = some (.slice A0_4 l0_4.length c0_4) := bc BK138 4; have hfz18_0 := blk_frozen BK138.out 0; have hfz18_1 := blk_frozen BK138.out 1; have hfz18_2 := blk_frozen BK138.out 2; have hfz18_3 := blk_frozen BK138.out 3; have hfz18_4 := blk_frozen BK138.out 4) | ((with_reducible refine gate_callee (f := 6) rfl ?_); refine gl (some 13) Tryd.func6 #[.agg #[.int .i64 a0_0, .int .i64 a0_1, .string a0_2, .slice A0_3 l0_3.length c0_3, .slice A0_4 l0_4.length c0_4]] ?_; (with_reducible refine (laws_toReply.calls k a0_0 a0_1 a0_2 _ _ l0_3 _ _ l0_4 t140 t141 t142 t143 t146 _ ?side1 ?side2 ?side3 ?side4 A7.out).mono ?_); (case side1 => exact kc HR0_3 HB); (case side2 => exact HC0_3.out); (case side3 => exact kc HR0_4 HB); (case side4 => exact HC0_4.out); rintro e w19 ⟨v144, v147, rfl, ho0, ho1, hb⟩; refine ⟨_, rfl, ?_⟩; have n0_ := Aside0.mk (Kd.R_lower ho0 (below_size (by exact b1 HB GE138))); have n1_ := Aside0.mk (Kd.R_lower ho1 (below_size (by exact b1 HB GE138))); have n2_ := Aside0.mk (blk_below (g := gb138) (o := .cells #[.int .i64 a0_0, .int .i64 a0_1, .string a0_2, .slice A0_3 l0_3.length c0_3, .slice A0_4 l0_4.length c0_4] 25 (0, 0)) (by exact bk BK138) hb); have n3_ := Aside0.mk (below_step (by exact b1 HB GE138) hb); clear BK138; clear HB; have HO145 := n0_; have HO148 := n1_; have BK138 := n2_; have HB := n3_; clear n0_ n1_ n2_ n3_; (try clear hb); (try clear hb2); (try clear hk); (try clear hi); (try clear ho0); (try clear ho1); obtain ⟨Ao20, co20, eo20⟩ := Kd.R_slice HO145.out; subst eo20; obtain ⟨Ao21, co21, eo21⟩ := Kd.R_slice HO148.out; subst eo21) | ((with_reducible refine gate_callee (f := 5) rfl ?_); refine gl (some 14) Tryd.func5 #[.agg #[.int .i64 t140, .int .i64 t141, .string t142, .slice Ao20 t143.length co20, .slice Ao21 t146.length co21]] ?_; (with_reducible refine (spec_ReplyPut.calls k t140 t141 t142 _ _ t143 _ _ t146 t149 _ ?side1 ?side2 ?side3 ?side4 A8.out).mono ?_); (case side1 => repeat (first | exact (Kd.R_reads' HO145.out).2.2 | (with_reducible refine Kd.C_alloc ?_ _) | (with_reducible refine Kd.C_drewN ?_ _) | (with_reducible refine Kd.C_drew ?_))); (case side2 => exact (Kd.R_reads' HO145.out).2.1); (case side3 => repeat (first | exact (Kd.R_reads' HO148.out).2.2 | (with_reducible refine Kd.C_alloc ?_ _) | (with_reducible refine Kd.C_drewN ?_ _) | (with_reducible refine Kd.C_drew ?_))); (case side4 => exact (Kd.R_reads' HO148.out).2.1); rintro e w22 ⟨rfl, hb⟩; refine ⟨_, rfl, ?_⟩; have n0_ := Aside0.mk (Kd.R_below (by exact rz HO145) hb); have n1_ := Aside0.mk (Kd.R_below (by exact rz HO148) hb); have n2_ := Aside0.mk (blk_below (g := gb138) (o := .cells #[.int .i64 a0_0, .int .i64 a0_1, .string a0_2, .slice A0_3 l0_3.length c0_3, .slice A0_4 l0_4.length c0_4] 25 (0, 0)) (by exact bk BK138) hb); have n3_ := Aside0.mk (below_step (by exact b1 HB GE138) hb); clear HO145; clear HO148; clear BK138; clear HB; have HO145 := n0_; have HO148 := n1_; have BK138 := n2_; have HB := n3_; clear n0_ n1_ n2_ n3_; (try clear hb); (try clear hb2); (try clear hk); (try clear hi); have hcz23_0 : w22.cell? ⟨gb138, 0, none⟩ = some (.int .i64 a0_0) := bc BK138 0; have hcz23_1 : w22.cell? ⟨gb138, 1, none⟩ = some (.int .i64 a0_1) := bc BK138 1; have hcz23_2 : w22.cell? ⟨gb138, 2, none⟩ = some (.string a0_2) := bc BK138 2; have hcz23_3 : w22.cell? ⟨gb138, 3, none⟩ = some (.slice A0_3 l0_3.length c0_3) := bc BK138 3; have hcz23_4 : w22.cell? ⟨gb138, 4, none⟩ = some (.slice A0_4 l0_4.length c0_4) := bc BK138 4; have hfz23_0 := blk_frozen BK138.out 0; have hfz23_1 := blk_frozen BK138.out 1; have hfz23_2 := blk_frozen BK138.out 2; have hfz23_3 := blk_frozen BK138.out 3; have hfz23_4 := blk_frozen BK138.out 4) | ((with_reducible refine gate_callee (f := 6) rfl ?_); refine gl (some 16) Tryd.func6 #[.agg #[.int .i64 a0_0, .int .i64 a0_1, .string a0_2, .slice A0_3 l0_3.length c0_3, .slice A0_4 l0_4.length c0_4]] ?_; (with_reducible refine (laws_toReply.calls k a0_0 a0_1 a0_2 _ _ l0_3 _ _ l0_4 t150 t151 t152 t153 t156 _ ?side1 ?side2 ?side3 ?side4 A9.out).mono ?_); (case side1 => exact kc HR0_3 HB); (case side2 => exact HC0_3.out); (case side3 => exact kc HR0_4 HB); (case side4 => exact HC0_4.out); rintro e w24 ⟨v154, v157, rfl, ho0, ho1, hb⟩; refine ⟨_, rfl, ?_⟩; have n0_ := Aside0.mk (Kd.R_elder' (by exact rz HO145) (Kd.R_base ho0) hb); have n1_ := Aside0.mk (Kd.R_mono (Kd.R_told (Kd.R_told (Kd.R_old (by exact rz HO148) hb) (Kd.R_base ho0)) (Kd.R_base ho1)) (fun _ h_ => h_.1)); have n2_ := Aside0.mk (Kd.R_lower (Kd.R_new' ho0 (Kd.R_lt (by exact rz HO145))) (below_size (by exact b1 HB GE138))); have n3_ := Aside0.mk (Kd.R_lower (Kd.R_new' (Kd.R_new' ho1 (Kd.R_lt (by exact rz HO145))) (Kd.R_lt (by exact rz HO148))) (below_size (by exact b1 HB GE138))); have n4_ := Aside0.mk (blk_below (g := gb138) (o := .cells #[.int .i64 a0_0, .int .i64 a0_1, .string a0_2, .slice A0_3 l0_3.length c0_3, .slice A0_4 l0_4.length c0_4] 25 (0, 0)) (by exact bk BK138) hb); have n5_ := Aside0.mk (below_step (by exact b1 HB GE138) hb); clear HO145; clear HO148; clear BK138; clear HB; have HO145 := n0_; have HO148 := n1_; have HO155 := n2_; have HO158 := n3_; have BK138 := n4_; have HB := n5_; clear n0_ n1_ n2_ n3_ n4_ n5_; (try clear hb); (try clear hb2); (try clear hk); (try clear hi); (try clear ho0); (try clear ho1)) | ((with_reducible refine gate_dst (N := 5) rfl ?_); refine bx 5 #[.int .i64 0, .int .i64 0, .string (⟨#[]⟩ : ByteArray), .slice none 0 0, .slice none 0 0] 30 ?_; intro gb159 hg w25 hbox hb; have n0_ := Aside0.mk (Kd.R_below (by exact rz HO145) hb); have n1_ := Aside0.mk (Kd.R_below (Kd.R_elderB (by exact rz HO148) gb159 (Nat.le_of_eq hg.symm)) hb); have n2_ := Aside0.mk (Kd.R_below (by exact rz HO155) hb); have n3_ := Aside0.mk (Kd.R_below (Kd.R_elderB (by exact rz HO158) gb159 (Nat.le_of_eq hg.symm)) hb); have n4_ := Aside0.mk (blk_below (g := gb138) (o := .cells #[.int .i64 a0_0, .int .i64 a0_1, .string a0_2, .slice A0_3 l0_3.length c0_3, .slice A0_4 l0_4.length c0_4] 25 (0, 0)) (by exact bk BK138) hb); have n5_ := Aside0.mk (below_step (by exact b1 HB GE138) hb); have n6_ := Aside0.mk (hbox); have n7_ := Aside0.mk ((by rw [hg]; exact (below_size (by exact b1 HB GE138)) : w.heap.size ≤ gb159)); have n8_ := n7_; have n9_ := Aside0.mk ((by rw [hg]; exact Nat.ne_of_lt (blk_lt (g := gb138) (o := .cells #[.int .i64 a0_0, .int .i64 a0_1, .string a0_2, .slice A0_3 l0_3.length c0_3, .slice A0_4 l0_4.length c0_4] 25 (0, 0)) (by exact bk BK138)) : gb138 ≠ gb159)); have n10_ := Aside0.mk ((by rw [hg]; exact Nat.ne_of_gt (blk_lt (g := gb138) (o := .cells #[.int .i64 a0_0, .int .i64 a0_1, .string a0_2, .slice A0_3 l0_3.length c0_3, .slice A0_4 l0_4.length c0_4] 25 (0, 0)) (by exact bk BK138)) : gb159 ≠ gb138)); clear HO145; clear HO148; clear HO155; clear HO158; clear BK138; clear HB; have HO145 := n0_; have HO148 := n1_; have HO155 := n2_; have HO158 := n3_; have BK138 := n4_; have HB := n5_; have BK159 := n6_; have GW159 := n7_; have GE159 := n8_; have NB138_159 := n9_; have NB159_138 := n10_; clear n0_ n1_ n2_ n3_ n4_ n5_ n6_ n7_ n8_ n9_ n10_; clear hb hbox hg; have hnb26 := NB159_138.out; have hnc26 := NB138_159.out; have hcz27_0 : w25.cell? ⟨gb159, 0, none⟩ = some (.int .i64 0) := bc BK159 0; have hcz27_1 : w25.cell? ⟨gb159, 1, none⟩ = some (.int .i64 0) := bc BK159 1; have hcz27_2 : w25.cell? ⟨gb159, 2, none⟩ = some (.string (⟨#[]⟩ : ByteArray)) := bc BK159 2; have hcz27_3 : w25.cell? ⟨gb159, 3, none⟩ = some (.slice none 0 0) := bc BK159 3; have hcz27_4 : w25.cell? ⟨gb159, 4, none⟩ = some (.slice none 0 0) := bc BK159 4; have hfz27_0 := blk_frozen BK159.out 0; have hfz27_1 := blk_frozen BK159.out 1; have hfz27_2 := blk_frozen BK159.out 2; have hfz27_3 := blk_frozen BK159.out 3; have hfz27_4 := blk_frozen BK159.out 4; obtain ⟨Ao28, co28, eo28⟩ := Kd.R_slice HO155.out; subst eo28; obtain ⟨Ao29, co29, eo29⟩ := Kd.R_slice HO158.out; subst eo29) | ((with_reducible refine gate_callee (f := 7) rfl ?_); refine gl (some 18) Tryd.func7 #[.agg #[.int .i64 t150, .int .i64 t151, .string t152, .slice Ao28 t153.length co28, .slice Ao29 t156.length co29]] ?_; (with_reducible refine (impl_ReplyPut.calls (hT0 := X.Tab.keep hT0 (by exact b2 HB GE138 GE159)) k t150 t151 t152 _ _ t153 _ _ t156 t160 _ ?side1 ?side2 ?side3 ?side4 A10.out).mono ?_); (case side1 => refine (Kd.R_reads' (e := 9) (base := w.heap.size) (ok := fun k_ => (True ∧ some k_ ≠ (.slice Ao20 t143.length co20 : Value).ownBlock)) (n := t153.length) (c := co28) ?_).2.2; exact (by (with_reducible repeat (first | apply Kd.R_alloc | apply Kd.R_drewN | apply Kd.R_drew)); exact (Kd.R_mono (Kd.R_far (p := ⟨gb159, 4, none⟩) (Kd.R_far (p := ⟨gb159, 3, none⟩) (Kd.R_far (p := ⟨gb159, 2, none⟩) (Kd.R_far (p := ⟨gb159, 1, none⟩) (Kd.R_far (p := ⟨gb159, 0, none⟩) (Kd.R_types HO155.out BK159.out (by decide)) (fun _ hk => hk.2) (.int .i64 t150)) (fun _ hk => hk.2) (.int .i64 t151)) (fun _ hk => hk.2) (.string t152)) (fun _ hk => hk.2) (.slice Ao28 t153.length co28)) (fun _ hk => hk.2) (.slice Ao29 t156.length co29)) (fun _ h_ => h_.1)))); (case side2 => exact (Kd.R_reads' HO155.out).2.1); (case side3 => refine (Kd.R_reads' (e := 30) (base := w.heap.size) (ok := fun k_ => (((some k_ ≠ (.slice Ao28 t153.length co28 : Value).ownBlock ∧ some k_ ≠ (.slice Ao20 t143.length co20 : Value).ownBlock) ∧ some k_ ≠ (.slice Ao21 t146.length co21 : Value).ownBlock) ∧ k_ ≠ gb159)) (n := t156.length) (c := co29) ?_).2.2; exact (by (with_reducible repeat (first | apply Kd.R_alloc | apply Kd.R_drewN | apply Kd.R_drew)); exact (Kd.R_mono (Kd.R_far (p := ⟨gb159, 4, none⟩) (Kd.R_far (p := ⟨gb159, 3, none⟩) (Kd.R_far (p := ⟨gb159, 2, none⟩) (Kd.R_far (p := ⟨gb159, 1, none⟩) (Kd.R_far (p := ⟨gb159, 0, none⟩) (Kd.R_mono HO158.out (fun k_ hk => (⟨hk, by first | exact hk.2 | exact hk | exact hk.1⟩ : _ ∧ k_ ≠ gb159))) (fun _ hk => hk.2) (.int .i64 t150)) (fun _ hk => hk.2) (.int .i64 t151)) (fun _ hk => hk.2) (.string t152)) (fun _ hk => hk.2) (.slice Ao28 t153.length co28)) (fun _ hk => hk.2) (.slice Ao29 t156.length co29)) (fun _ h_ => h_.1)))); (case side4 => exact (Kd.R_reads' HO158.out).2.1); rintro e w30 ⟨rfl, hb⟩; refine ⟨_, rfl, ?_⟩; have n0_ := Aside0.mk (Kd.R_below (by (with_reducible repeat (first | apply Kd.R_alloc | apply Kd.R_drewN | apply Kd.R_drew)); exact (Kd.R_mono (Kd.R_far (p := ⟨gb159, 4, none⟩) (Kd.R_far (p := ⟨gb159, 3, none⟩) (Kd.R_far (p := ⟨gb159, 2, none⟩) (Kd.R_far (p := ⟨gb159, 1, none⟩) (Kd.R_far (p := ⟨gb159, 0, none⟩) (Kd.R_types HO145.out BK159.out (by decide)) (fun _ hk => hk.2) (.int .i64 t150)) (fun _ hk => hk.2) (.int .i64 t151)) (fun _ hk => hk.2) (.string t152)) (fun _ hk => hk.2) (.slice Ao28 t153.length co28)) (fun _ hk => hk.2) (.slice Ao29 t156.length co29)) (fun _ h_ => h_.1))) hb); have n1_ := Aside0.mk (Kd.R_below (by (with_reducible repeat (first | apply Kd.R_alloc | apply Kd.R_drewN | apply Kd.R_drew)); exact (Kd.R_mono (Kd.R_far (p := ⟨gb159, 4, none⟩) (Kd.R_far (p := ⟨gb159, 3, none⟩) (Kd.R_far (p := ⟨gb159, 2, none⟩) (Kd.R_far (p := ⟨gb159, 1, none⟩) (Kd.R_far (p := ⟨gb159, 0, none⟩) (Kd.R_mono HO148.out (fun k_ hk => (⟨hk, by first | exact hk.2 | exact hk | exact hk.1⟩ : _ ∧ k_ ≠ gb159))) (fun _ hk => hk.2) (.int .i64 t150)) (fun _ hk => hk.2) (.int .i64 t151)) (fun _ hk => hk.2) (.string t152)) (fun _ hk => hk.2) (.slice Ao28 t153.length co28)) (fun _ hk => hk.2) (.slice Ao29 t156.length co29)) (fun _ h_ => h_.1))) hb); have n2_ := Aside0.mk (Kd.R_below (by (with_reducible repeat (first | apply Kd.R_alloc | apply Kd.R_drewN | apply Kd.R_drew)); exact (Kd.R_mono (Kd.R_far (p := ⟨gb159, 4, none⟩) (Kd.R_far (p := ⟨gb159, 3, none⟩) (Kd.R_far (p := ⟨gb159, 2, none⟩) (Kd.R_far (p := ⟨gb159, 1, none⟩) (Kd.R_far (p := ⟨gb159, 0, none⟩) (Kd.R_types HO155.out BK159.out (by decide)) (fun _ hk => hk.2) (.int .i64 t150)) (fun _ hk => hk.2) (.int .i64 t151)) (fun _ hk => hk.2) (.string t152)) (fun _ hk => hk.2) (.slice Ao28 t153.length co28)) (fun _ hk => hk.2) (.slice Ao29 t156.length co29)) (fun _ h_ => h_.1))) hb); have n3_ := Aside0.mk (Kd.R_below (by (with_reducible repeat (first | apply Kd.R_alloc | apply Kd.R_drewN | apply Kd.R_drew)); exact (Kd.R_mono (Kd.R_far (p := ⟨gb159, 4, none⟩) (Kd.R_far (p := ⟨gb159, 3, none⟩) (Kd.R_far (p := ⟨gb159, 2, none⟩) (Kd.R_far (p := ⟨gb159, 1, none⟩) (Kd.R_far (p := ⟨gb159, 0, none⟩) (Kd.R_mono HO158.out (fun k_ hk => (⟨hk, by first | exact hk.2 | exact hk | exact hk.1⟩ : _ ∧ k_ ≠ gb159))) (fun _ hk => hk.2) (.int .i64 t150)) (fun _ hk => hk.2) (.int .i64 t151)) (fun _ hk => hk.2) (.string t152)) (fun _ hk => hk.2) (.slice Ao28 t153.length co28)) (fun _ hk => hk.2) (.slice Ao29 t156.length co29)) (fun _ h_ => h_.1))) hb); have n4_ := Aside0.mk (blk_below (g := gb138) (o := .cells #[.int .i64 a0_0, .int .i64 a0_1, .string a0_2, .slice A0_3 l0_3.length c0_3, .slice A0_4 l0_4.length c0_4] 25 (0, 0)) (by refine bp ?_; refine blk_far ?_ NB138_159.out _; refine bp ?_; refine blk_far ?_ NB138_159.out _; refine bp ?_; refine blk_far ?_ NB138_159.out _; refine bp ?_; refine blk_far ?_ NB138_159.out _; refine bp ?_; refine blk_far ?_ NB138_159.out _; refine bp ?_; exact BK138.out) hb); have n5_ := Aside0.mk (blk_below (g := gb159) (o := .cells #[.int .i64 t150, .int .i64 t151, .string t152, .slice Ao28 t153.length co28, .slice Ao29 t156.length co29] 30 (0, 0)) (by refine bp ?_; refine blk_put (cs := #[.int .i64 t150, .int .i64 t151, .string t152, .slice Ao28 t153.length co28, .slice none 0 0]) ?_ 4 _ rfl; refine bp ?_; refine blk_put (cs := #[.int .i64 t150, .int .i64 t151, .string t152, .slice none 0 0, .slice none 0 0]) ?_ 3 _ rfl; refine bp ?_; refine blk_put (cs := #[.int .i64 t150, .int .i64 t151, .string (⟨#[]⟩ : ByteArray), .slice none 0 0, .slice none 0 0]) ?_ 2 _ rfl; refine bp ?_; refine blk_put (cs := #[.int .i64 t150, .int .i64 0, .string (⟨#[]⟩ : ByteArray), .slice none 0 0, .slice none 0 0]) ?_ 1 _ rfl; refine bp ?_; refine blk_put (cs := #[.int .i64 0, .int .i64 0, .string (⟨#[]⟩ : ByteArray), .slice none 0 0, .slice none 0 0]) ?_ 0 _ rfl; refine bp ?_; exact BK159.out) hb); have n6_ := Aside0.mk (below_step (by exact b2 HB GE138 GE159) hb); clear HO145; clear HO148; clear HO155; clear HO158; clear BK138; clear BK159; clear HB; have HO145 := n0_; have HO148 := n1_; have HO155 := n2_; have HO158 := n3_; have BK138 := n4_; have BK159 := n5_; have HB := n6_; clear n0_ n1_ n2_ n3_ n4_ n5_ n6_; (try clear hb); (try clear hb2); (try clear hk); (try clear hi)))
        have n0_ := Aside0.mk (Kd.R_drew HO145.out)
        have n1_ := Aside0.mk (Kd.R_drew HO148.out)
        have n2_ := Aside0.mk (Kd.R_drew HO155.out)
        have n3_ := Aside0.mk (Kd.R_drew HO158.out)
        have n4_ := Aside0.mk (blk_drew BK138.out)
        have n5_ := Aside0.mk (blk_drew BK159.out)
        have n6_ := Aside0.mk (below_drew1 HB.out)
        clear HO145
        clear HO148
        clear HO155
        clear HO158
        clear BK138
        clear BK159
        clear HB
        have HO145 := n0_
        have HO148 := n1_
        have HO155 := n2_
        have HO158 := n3_
        have BK138 := n4_
        have BK159 := n5_
        have HB := n6_
        clear n0_ n1_ n2_ n3_ n4_ n5_ n6_
        refine start_ (n := 5) (S := fun w' => w'.cell? ⟨gb159, 0, none⟩ = some (.int .i64 t150) ∧ w'.cell? ⟨gb159, 1, none⟩ = some (.int .i64 t151) ∧ w'.cell? ⟨gb159, 2, none⟩ = some (.string t152) ∧ w'.cell? ⟨gb159, 3, none⟩ = some (.slice Ao28 t153.length co28) ∧ w'.cell? ⟨gb159, 4, none⟩ = some (.slice Ao29 t156.length co29) ∧ w'.cell? ⟨gb138, 0, none⟩ = some (.int .i64 a0_0) ∧ w'.cell? ⟨gb138, 1, none⟩ = some (.int .i64 a0_1) ∧ w'.cell? ⟨gb138, 2, none⟩ = some (.string a0_2) ∧ w'.cell? ⟨gb138, 3, none⟩ = some (.slice A0_3 l0_3.length c0_3) ∧ w'.cell? ⟨gb138, 4, none⟩ = some (.slice A0_4 l0_4.length c0_4)) (ds := []) #[false, false, false, false, false] (by kernel_rfl) rfl rfl ⟨bc BK159 0, bc BK159 1, bc BK159 2, bc BK159 3, bc BK159 4, bc BK138 0, bc BK138 1, bc BK138 2, bc BK138 3, bc BK138 4⟩ (fun hHeld => ?_)
        generalize w30.drew = w31 at HO145 HO148 HO155 HO158 BK138 BK159 HB hHeld ⊢
        refine take_ (i := 0) (N := some 22) (v := ?_) (a' := ?_) #[true, false, false, false, false] rfl rfl (by kernel_rfl) (fun _ _ _ h => h) (Or.inl ⟨by rfl, ?_⟩) hHeld ?_ ?_
        rotate_left
        · rintro w' ⟨s0, s1, s2, s3, s4, s5, s6, s7, s8, s9⟩
          go_simp
          with_reducible rfl
        rotate_left
        · simp only [Act.put, List.setIfInBounds_toArray, List.set_cons_zero, List.set_cons_succ, i64_w, i32_w]
          rfl
        refine take_ (i := 1) (N := some 23) (v := ?_) (a' := ?_) #[true, true, false, false, false] rfl rfl (by kernel_rfl) (fun _ _ _ h => h) (Or.inl ⟨by rfl, ?_⟩) hHeld ?_ ?_
        rotate_left
        · rintro w' ⟨s0, s1, s2, s3, s4, s5, s6, s7, s8, s9⟩
          go_simp
          with_reducible rfl
        rotate_left
        · simp only [Act.put, List.setIfInBounds_toArray, List.set_cons_zero, List.set_cons_succ, i64_w, i32_w]
          rfl
        refine one_ (i := 2) (N := some 24) #[true, true, true, false, false] rfl rfl (by kernel_rfl) (by decide) (fun K hK => ?_)
        refine gs Tryd.func6 #[.agg #[.int .i64 a0_0, .int .i64 a0_1, .string a0_2, .slice A0_3 l0_3.length c0_3, .slice A0_4 l0_4.length c0_4]] ?_
        with_reducible refine (laws_toReply.calls k a0_0 a0_1 a0_2 _ _ l0_3 _ _ l0_4 t161 t162 t163 t164 t167 _ ?side1 ?side2 ?side3 ?side4 A12.out).mono ?_
        (case side1 => exact kc HR0_3 HB)
        (case side2 => exact HC0_3.out)
        (case side3 => exact kc HR0_4 HB)
        (case side4 => exact HC0_4.out)
        rintro e w32 ⟨v165, v168, rfl, ho0, ho1, hb⟩
        refine ⟨_, rfl, ?_⟩
        have n0_ := Aside0.mk (Kd.R_elder' (by exact rz HO145) (Kd.R_base ho0) hb)
        have n1_ := Aside0.mk (Kd.R_mono (Kd.R_told (Kd.R_told (Kd.R_old (by exact rz HO148) hb) (Kd.R_base ho0)) (Kd.R_base ho1)) (fun _ h_ => h_.1))
        have n2_ := Aside0.mk (Kd.R_elder' (by exact rz HO155) (Kd.R_base ho0) hb)
        have n3_ := Aside0.mk (Kd.R_mono (Kd.R_told (Kd.R_told (Kd.R_old (by exact rz HO158) hb) (Kd.R_base ho0)) (Kd.R_base ho1)) (fun _ h_ => h_.1))
        have n4_ := Aside0.mk (Kd.R_lower (Kd.R_new' (Kd.R_new' ho0 (Kd.R_lt (by exact rz HO145))) (Kd.R_lt (by exact rz HO155))) (below_size (by exact b2 HB GE138 GE159)))
        have n5_ := Aside0.mk (Kd.R_lower (Kd.R_newB (Kd.R_new' (Kd.R_new' (Kd.R_new' (Kd.R_new' ho1 (Kd.R_lt (by exact rz HO145))) (Kd.R_lt (by exact rz HO148))) (Kd.R_lt (by exact rz HO155))) (Kd.R_lt (by exact rz HO158))) (g := gb159) (o := .cells #[.int .i64 t150, .int .i64 t151, .string t152, .slice Ao28 t153.length co28, .slice Ao29 t156.length co29] 30 (0, 0)) (by exact bk BK159)) (below_size (by exact b2 HB GE138 GE159)))
        have n6_ := Aside0.mk (blk_below (g := gb138) (o := .cells #[.int .i64 a0_0, .int .i64 a0_1, .string a0_2, .slice A0_3 l0_3.length c0_3, .slice A0_4 l0_4.length c0_4] 25 (0, 0)) (by exact bk BK138) hb)
        have n7_ := Aside0.mk (blk_below (g := gb159) (o := .cells #[.int .i64 t150, .int .i64 t151, .string t152, .slice Ao28 t153.length co28, .slice Ao29 t156.length co29] 30 (0, 0)) (by exact bk BK159) hb)
        have n8_ := Aside0.mk (below_step (by exact b2 HB GE138 GE159) hb)
        clear HO145
        clear HO148
        clear HO155
        clear HO158
        clear BK138
        clear BK159
        clear HB
        have HO145 := n0_
        have HO148 := n1_
        have HO155 := n2_
        have HO158 := n3_
        have HO166 := n4_
        have HO169 := n5_
        have BK138 := n6_
        have BK159 := n7_
        have HB := n8_
        clear n0_ n1_ n2_ n3_ n4_ n5_ n6_ n7_ n8_
        (try clear hb)
        (try clear hb2)
        (try clear hk)
        (try clear hi)
        (try clear ho0)
        (try clear ho1)
        obtain ⟨Ao33, co33, eo33⟩ := Kd.R_slice HO166.out
        (first | subst eo33 | (injection eo33 with f1_ f2_ f3_; have f4_ := f1_.symm; have f5_ := f3_.symm; clear f1_ f2_ f3_; subst f4_; subst f5_))
        obtain ⟨Ao34, co34, eo34⟩ := Kd.R_slice HO169.out
        (first | subst eo34 | (injection eo34 with f1_ f2_ f3_; have f4_ := f1_.symm; have f5_ := f3_.symm; clear f1_ f2_ f3_; subst f4_; subst f5_))
        refine hK.out _ _ ⟨bc BK159 0, bc BK159 1, bc BK159 2, bc BK159 3, bc BK159 4, bc BK138 0, bc BK138 1, bc BK138 2, bc BK138 3, bc BK138 4⟩ (fun hHeld => ?_)
        clear hK K
        refine norm_ (a' := ?_) ?_ ?_
        rotate_left
        · show Act.put _ (some 24) _ = _
          simp only [Act.put, List.setIfInBounds_toArray, List.set_cons_zero, List.set_cons_succ, i64_w, i32_w]
          rfl
        refine one_ (i := 3) (N := some 25) #[true, true, true, true, false] rfl rfl (by kernel_rfl) (by decide) (fun K hK => ?_)
        refine gs Tryd.func8 #[.agg #[.int .i64 t150, .int .i64 t151, .string t152, .slice Ao28 t153.length co28, .slice Ao29 t156.length co29], .agg #[.int .i64 t161, .int .i64 t162, .string t163, .slice Ao33 t164.length co33, .slice Ao34 t167.length co34]] ?_
        with_reducible refine (laws_eqReply.calls k t150 t151 t152 _ _ t153 _ _ t156 t161 t162 t163 _ _ t164 _ _ t167 true _ ?side1 ?side2 ?side3 ?side4 ?side5 ?side6 ?side7 ?side8 A13.out).mono ?_
        (case side1 => repeat (first | exact (Kd.R_reads' HO155.out).2.2 | (with_reducible refine Kd.C_alloc ?_ _) | (with_reducible refine Kd.C_drewN ?_ _) | (with_reducible refine Kd.C_drew ?_)))
        (case side2 => exact (Kd.R_reads' HO155.out).2.1)
        (case side3 => repeat (first | exact (Kd.R_reads' HO158.out).2.2 | (with_reducible refine Kd.C_alloc ?_ _) | (with_reducible refine Kd.C_drewN ?_ _) | (with_reducible refine Kd.C_drew ?_)))
        (case side4 => exact (Kd.R_reads' HO158.out).2.1)
        (case side5 => repeat (first | exact (Kd.R_reads' HO166.out).2.2 | (with_reducible refine Kd.C_alloc ?_ _) | (with_reducible refine Kd.C_drewN ?_ _) | (with_reducible refine Kd.C_drew ?_)))
        (case side6 => exact (Kd.R_reads' HO166.out).2.1)
        (case side7 => repeat (first | exact (Kd.R_reads' HO169.out).2.2 | (with_reducible refine Kd.C_alloc ?_ _) | (with_reducible refine Kd.C_drewN ?_ _) | (with_reducible refine Kd.C_drew ?_)))
        (case side8 => exact (Kd.R_reads' HO169.out).2.1)
        rintro e w35 ⟨rfl, hb⟩
        refine ⟨_, rfl, ?_⟩
        have n0_ := Aside0.mk (Kd.R_below (by exact rz HO145) hb)
        have n1_ := Aside0.mk (Kd.R_below (by exact rz HO148) hb)
        have n2_ := Aside0.mk (Kd.R_below (by exact rz HO155) hb)
        have n3_ := Aside0.mk (Kd.R_below (by exact rz HO158) hb)
        have n4_ := Aside0.mk (Kd.R_below (by exact rz HO166) hb)
        have n5_ := Aside0.mk (Kd.R_below (by exact rz HO169) hb)
        have n6_ := Aside0.mk (blk_below (g := gb138) (o := .cells #[.int .i64 a0_0, .int .i64 a0_1, .string a0_2, .slice A0_3 l0_3.length c0_3, .slice A0_4 l0_4.length c0_4] 25 (0, 0)) (by exact bk BK138) hb)
        have n7_ := Aside0.mk (blk_below (g := gb159) (o := .cells #[.int .i64 t150, .int .i64 t151, .string t152, .slice Ao28 t153.length co28, .slice Ao29 t156.length co29] 30 (0, 0)) (by exact bk BK159) hb)
        have n8_ := Aside0.mk (below_step (by exact b2 HB GE138 GE159) hb)
        clear HO145
        clear HO148
        clear HO155
        clear HO158
        clear HO166
        clear HO169
        clear BK138
        clear BK159
        clear HB
        have HO145 := n0_
        have HO148 := n1_
        have HO155 := n2_
        have HO158 := n3_
        have HO166 := n4_
        have HO169 := n5_
        have BK138 := n6_
        have BK159 := n7_
        have HB := n8_
        clear n0_ n1_ n2_ n3_ n4_ n5_ n6_ n7_ n8_
        (try clear hb)
        (try clear hb2)
        (try clear hk)
        (try clear hi)
        refine hK.out _ _ ⟨bc BK159 0, bc BK159 1, bc BK159 2, bc BK159 3, bc BK159 4, bc BK138 0, bc BK138 1, bc BK138 2, bc BK138 3, bc BK138 4⟩ (fun hHeld => ?_)
        clear hK K
        refine norm_ (a' := ?_) ?_ ?_
        rotate_left
        · show Act.put _ (some 25) _ = _
          simp only [Act.put, List.setIfInBounds_toArray, List.set_cons_zero, List.set_cons_succ, i64_w, i32_w]
          rfl
        refine pure_ (i := 4) (N := some 26) (v := ?_) (a' := ?_) #[true, true, true, true, true] rfl rfl (by kernel_rfl) (fun _ _ _ h => h) (Or.inl ⟨by rfl, ?_⟩) ?_ ?_
        rotate_left
        · intro w'
          go_simp
          with_reducible rfl
        rotate_left
        · simp only [Act.put, List.setIfInBounds_toArray, List.set_cons_zero, List.set_cons_succ, i64_w, i32_w]
          rfl
        refine done_ (by kernel_rfl) ?_
        try go_wp2
        go_ret
        exact fz (by exact b2 HB GE138 GE159)
      · replace c14 := Bool.eq_false_iff.mpr c14
        subst c14
        have H1 : (some false) = some r := by rw [if_neg (show ¬ (false = true) by decide)] at H; exact H
        clear H
        have H := H1
        clear H1
        obtain rfl := Option.some.inj H
        go_enter Tryd.func3, Tryd.ntmps3
        try go_wp2_with (first | ((with_reducible refine gate_dst (N := 1) rfl ?_); refine bx 1 #[.int .i64 a0_0, .int .i64 a0_1, .string a0_2, .slice A0_3 l0_3.length c0_3, .slice A0_4 l0_4.length c0_4] 25 ?_; intro gb138 hg w36 hbox hb; have n0_ := Aside0.mk (below_step (by exact bl HB) hb); have n1_ := Aside0.mk (hbox); have n2_ := Aside0.mk ((by rw [hg]; exact (below_size (by exact bl HB)) : w.heap.size ≤ gb138)); have n3_ := n2_; clear HB; have HB := n0_; have BK138 := n1_; have GW138 := n2_; have GE138 := n3_; clear n0_ n1_ n2_ n3_; clear hb hbox hg; have hcz37_0 : w36.cell? ⟨gb138, 0, none⟩ = some (.int .i64 a0_0) := bc BK138 0; have hcz37_1 : w36.cell? ⟨gb138, 1, none⟩ = some (.int .i64 a0_1) := bc BK138 1; have hcz37_2 : w36.cell? ⟨gb138, 2, none⟩ = some (.string a0_2) := bc BK138 2; have hcz37_3 : w36.cell? ⟨gb138, 3, none⟩ = some (.slice A0_3 l0_3.length c0_3) := bc BK138 3; have hcz37_4 : w36.cell? ⟨gb138, 4, none⟩ = some (.slice A0_4 l0_4.length c0_4) := bc BK138 4; have hfz37_0 := blk_frozen BK138.out 0; have hfz37_1 := blk_frozen BK138.out 1; have hfz37_2 := blk_frozen BK138.out 2; have hfz37_3 := blk_frozen BK138.out 3; have hfz37_4 := blk_frozen BK138.out 4) | ((with_reducible refine gate_callee (f := 4) rfl ?_); refine gl (some 9) Tryd.func4 #[.agg #[.int .i64 a0_0, .int .i64 a0_1, .string a0_2, .slice A0_3 l0_3.length c0_3, .slice A0_4 l0_4.length c0_4], .int .i64 1048576] ?_; (with_reducible refine (laws_szReply.calls k a0_0 a0_1 a0_2 _ _ l0_3 _ _ l0_4 1048576 t139 _ ?side1 ?side2 ?side3 ?side4 A2.out).mono ?_); (case side1 => exact kc HR0_3 HB); (case side2 => exact HC0_3.out); (case side3 => exact kc HR0_4 HB); (case side4 => exact HC0_4.out); rintro e w38 ⟨rfl, hb⟩; refine ⟨_, rfl, ?_⟩; have n0_ := Aside0.mk (blk_below (g := gb138) (o := .cells #[.int .i64 a0_0, .int .i64 a0_1, .string a0_2, .slice A0_3 l0_3.length c0_3, .slice A0_4 l0_4.length c0_4] 25 (0, 0)) (by exact bk BK138) hb); have n1_ := Aside0.mk (below_step (by exact b1 HB GE138) hb); clear BK138; clear HB; have BK138 := n0_; have HB := n1_; clear n0_ n1_; (try clear hb); (try clear hb2); (try clear hk); (try clear hi); have hcz39_0 : w38.cell? ⟨gb138, 0, none⟩ = some (.int .i64 a0_0) := bc BK138 0; have hcz39_1 : w38.cell? ⟨gb138, 1, none⟩ = some (.int .i64 a0_1) := bc BK138 1; have hcz39_2 : w38.cell? ⟨gb138, 2, none⟩ = some (.string a0_2) := bc BK138 2; have hcz39_3 : w38.cell? ⟨gb138, 3, none⟩ = some (.slice A0_3 l0_3.length c0_3) := bc BK138 3; have hcz39_4 : w38.cell? ⟨gb138, 4, none⟩ = some (.slice A0_4 l0_4.length c0_4) := bc BK138 4; have hfz39_0 := blk_frozen BK138.out 0; have hfz39_1 := blk_frozen BK138.out 1; have hfz39_2 := blk_frozen BK138.out 2; have hfz39_3 := blk_frozen BK138.out 3; have hfz39_4 := blk_frozen BK138.out 4) | ((with_reducible refine gate_callee (f := 6) rfl ?_); refine gl (some 13) Tryd.func6 #[.agg #[.int .i64 a0_0, .int .i64 a0_1, .string a0_2, .slice A0_3 l0_3.length c0_3, .slice A0_4 l0_4.length c0_4]] ?_; (with_reducible refine (laws_toReply.calls k a0_0 a0_1 a0_2 _ _ l0_3 _ _ l0_4 t140 t141 t142 t143 t146 _ ?side1 ?side2 ?side3 ?side4 A7.out).mono ?_); (case side1 => exact kc HR0_3 HB); (case side2 => exact HC0_3.out); (case side3 => exact kc HR0_4 HB); (case side4 => exact HC0_4.out); rintro e w40 ⟨v144, v147, rfl, ho0, ho1, hb⟩; refine ⟨_, rfl, ?_⟩; have n0_ := Aside0.mk (Kd.R_lower ho0 (below_size (by exact b1 HB GE138))); have n1_ := Aside0.mk (Kd.R_lower ho1 (below_size (by exact b1 HB GE138))); have n2_ := Aside0.mk (blk_below (g := gb138) (o := .cells #[.int .i64 a0_0, .int .i64 a0_1, .string a0_2, .slice A0_3 l0_3.length c0_3, .slice A0_4 l0_4.length c0_4] 25 (0, 0)) (by exact bk BK138) hb); have n3_ := Aside0.mk (below_step (by exact b1 HB GE138) hb); clear BK138; clear HB; have HO145 := n0_; have HO148 := n1_; have BK138 := n2_; have HB := n3_; clear n0_ n1_ n2_ n3_; (try clear hb); (try clear hb2); (try clear hk); (try clear hi); (try clear ho0); (try clear ho1); obtain ⟨Ao41, co41, eo41⟩ := Kd.R_slice HO145.out; subst eo41; obtain ⟨Ao42, co42, eo42⟩ := Kd.R_slice HO148.out; subst eo42) | ((with_reducible refine gate_callee (f := 5) rfl ?_); refine gl (some 14) Tryd.func5 #[.agg #[.int .i64 t140, .int .i64 t141, .string t142, .slice Ao41 t143.length co41, .slice Ao42 t146.length co42]] ?_; (with_reducible refine (spec_ReplyPut.calls k t140 t141 t142 _ _ t143 _ _ t146 t149 _ ?side1 ?side2 ?side3 ?side4 A8.out).mono ?_); (case side1 => repeat (first | exact (Kd.R_reads' HO145.out).2.2 | (with_reducible refine Kd.C_alloc ?_ _) | (with_reducible refine Kd.C_drewN ?_ _) | (with_reducible refine Kd.C_drew ?_))); (case side2 => exact (Kd.R_reads' HO145.out).2.1); (case side3 => repeat (first | exact (Kd.R_reads' HO148.out).2.2 | (with_reducible refine Kd.C_alloc ?_ _) | (with_reducible refine Kd.C_drewN ?_ _) | (with_reducible refine Kd.C_drew ?_))); (case side4 => exact (Kd.R_reads' HO148.out).2.1); rintro e w43 ⟨rfl, hb⟩; refine ⟨_, rfl, ?_⟩; have n0_ := Aside0.mk (Kd.R_below (by exact rz HO145) hb); have n1_ := Aside0.mk (Kd.R_below (by exact rz HO148) hb); have n2_ := Aside0.mk (blk_below (g := gb138) (o := .cells #[.int .i64 a0_0, .int .i64 a0_1, .string a0_2, .slice A0_3 l0_3.length c0_3, .slice A0_4 l0_4.length c0_4] 25 (0, 0)) (by exact bk BK138) hb); have n3_ := Aside0.mk (below_step (by exact b1 HB GE138) hb); clear HO145; clear HO148; clear BK138; clear HB; have HO145 := n0_; have HO148 := n1_; have BK138 := n2_; have HB := n3_; clear n0_ n1_ n2_ n3_; (try clear hb); (try clear hb2); (try clear hk); (try clear hi); have hcz44_0 : w43.cell? ⟨gb138, 0, none⟩ = some (.int .i64 a0_0) := bc BK138 0; have hcz44_1 : w43.cell? ⟨gb138, 1, none⟩ = some (.int .i64 a0_1) := bc BK138 1; have hcz44_2 : w43.cell? ⟨gb138, 2, none⟩ = some (.string a0_2) := bc BK138 2; have hcz44_3 : w43.cell? ⟨gb138, 3, none⟩ = some (.slice A0_3 l0_3.length c0_3) := bc BK138 3; have hcz44_4 : w43.cell? ⟨gb138, 4, none⟩ = some (.slice A0_4 l0_4.length c0_4) := bc BK138 4; have hfz44_0 := blk_frozen BK138.out 0; have hfz44_1 := blk_frozen BK138.out 1; have hfz44_2 := blk_frozen BK138.out 2; have hfz44_3 := blk_frozen BK138.out 3; have hfz44_4 := blk_frozen BK138.out 4) | ((with_reducible refine gate_callee (f := 6) rfl ?_); refine gl (some 16) Tryd.func6 #[.agg #[.int .i64 a0_0, .int .i64 a0_1, .string a0_2, .slice A0_3 l0_3.length c0_3, .slice A0_4 l0_4.length c0_4]] ?_; (with_reducible refine (laws_toReply.calls k a0_0 a0_1 a0_2 _ _ l0_3 _ _ l0_4 t150 t151 t152 t153 t156 _ ?side1 ?side2 ?side3 ?side4 A9.out).mono ?_); (case side1 => exact kc HR0_3 HB); (case side2 => exact HC0_3.out); (case side3 => exact kc HR0_4 HB); (case side4 => exact HC0_4.out); rintro e w45 ⟨v154, v157, rfl, ho0, ho1, hb⟩; refine ⟨_, rfl, ?_⟩; have n0_ := Aside0.mk (Kd.R_elder' (by exact rz HO145) (Kd.R_base ho0) hb); have n1_ := Aside0.mk (Kd.R_mono (Kd.R_told (Kd.R_told (Kd.R_old (by exact rz HO148) hb) (Kd.R_base ho0)) (Kd.R_base ho1)) (fun _ h_ => h_.1)); have n2_ := Aside0.mk (Kd.R_lower (Kd.R_new' ho0 (Kd.R_lt (by exact rz HO145))) (below_size (by exact b1 HB GE138))); have n3_ := Aside0.mk (Kd.R_lower (Kd.R_new' (Kd.R_new' ho1 (Kd.R_lt (by exact rz HO145))) (Kd.R_lt (by exact rz HO148))) (below_size (by exact b1 HB GE138))); have n4_ := Aside0.mk (blk_below (g := gb138) (o := .cells #[.int .i64 a0_0, .int .i64 a0_1, .string a0_2, .slice A0_3 l0_3.length c0_3, .slice A0_4 l0_4.length c0_4] 25 (0, 0)) (by exact bk BK138) hb); have n5_ := Aside0.mk (below_step (by exact b1 HB GE138) hb); clear HO145; clear HO148; clear BK138; clear HB; have HO145 := n0_; have HO148 := n1_; have HO155 := n2_; have HO158 := n3_; have BK138 := n4_; have HB := n5_; clear n0_ n1_ n2_ n3_ n4_ n5_; (try clear hb); (try clear hb2); (try clear hk); (try clear hi); (try clear ho0); (try clear ho1)) | ((with_reducible refine gate_dst (N := 5) rfl ?_); refine bx 5 #[.int .i64 0, .int .i64 0, .string (⟨#[]⟩ : ByteArray), .slice none 0 0, .slice none 0 0] 30 ?_; intro gb159 hg w46 hbox hb; have n0_ := Aside0.mk (Kd.R_below (by exact rz HO145) hb); have n1_ := Aside0.mk (Kd.R_below (Kd.R_elderB (by exact rz HO148) gb159 (Nat.le_of_eq hg.symm)) hb); have n2_ := Aside0.mk (Kd.R_below (by exact rz HO155) hb); have n3_ := Aside0.mk (Kd.R_below (Kd.R_elderB (by exact rz HO158) gb159 (Nat.le_of_eq hg.symm)) hb); have n4_ := Aside0.mk (blk_below (g := gb138) (o := .cells #[.int .i64 a0_0, .int .i64 a0_1, .string a0_2, .slice A0_3 l0_3.length c0_3, .slice A0_4 l0_4.length c0_4] 25 (0, 0)) (by exact bk BK138) hb); have n5_ := Aside0.mk (below_step (by exact b1 HB GE138) hb); have n6_ := Aside0.mk (hbox); have n7_ := Aside0.mk ((by rw [hg]; exact (below_size (by exact b1 HB GE138)) : w.heap.size ≤ gb159)); have n8_ := n7_; have n9_ := Aside0.mk ((by rw [hg]; exact Nat.ne_of_lt (blk_lt (g := gb138) (o := .cells #[.int .i64 a0_0, .int .i64 a0_1, .string a0_2, .slice A0_3 l0_3.length c0_3, .slice A0_4 l0_4.length c0_4] 25 (0, 0)) (by exact bk BK138)) : gb138 ≠ gb159)); have n10_ := Aside0.mk ((by rw [hg]; exact Nat.ne_of_gt (blk_lt (g := gb138) (o := .cells #[.int .i64 a0_0, .int .i64 a0_1, .string a0_2, .slice A0_3 l0_3.length c0_3, .slice A0_4 l0_4.length c0_4] 25 (0, 0)) (by exact bk BK138)) : gb159 ≠ gb138)); clear HO145; clear HO148; clear HO155; clear HO158; clear BK138; clear HB; have HO145 := n0_; have HO148 := n1_; have HO155 := n2_; have HO158 := n3_; have BK138 := n4_; have HB := n5_; have BK159 := n6_; have GW159 := n7_; have GE159 := n8_; have NB138_159 := n9_; have NB159_138 := n10_; clear n0_ n1_ n2_ n3_ n4_ n5_ n6_ n7_ n8_ n9_ n10_; clear hb hbox hg; have hnb47 := NB159_138.out; have hnc47 := NB138_159.out; have hcz48_0 : w46.cell? ⟨gb159, 0, none⟩ = some (.int .i64 0) := bc BK159 0; have hcz48_1 : w46.cell? ⟨gb159, 1, none⟩ = some (.int .i64 0) := bc BK159 1; have hcz48_2 : w46.cell? ⟨gb159, 2, none⟩ = some (.string (⟨#[]⟩ : ByteArray)) := bc BK159 2; have hcz48_3 : w46.cell? ⟨gb159, 3, none⟩ = some (.slice none 0 0) := bc BK159 3; have hcz48_4 : w46.cell? ⟨gb159, 4, none⟩ = some (.slice none 0 0) := bc BK159 4; have hfz48_0 := blk_frozen BK159.out 0; have hfz48_1 := blk_frozen BK159.out 1; have hfz48_2 := blk_frozen BK159.out 2; have hfz48_3 := blk_frozen BK159.out 3; have hfz48_4 := blk_frozen BK159.out 4; obtain ⟨Ao49, co49, eo49⟩ := Kd.R_slice HO155.out; subst eo49; obtain ⟨Ao50, co50, eo50⟩ := Kd.R_slice HO158.out; subst eo50) | ((with_reducible refine gate_callee (f := 7) rfl ?_); refine gl (some 18) Tryd.func7 #[.agg #[.int .i64 t150, .int .i64 t151, .string t152, .slice Ao49 t153.length co49, .slice Ao50 t156.length co50]] ?_; (with_reducible refine (impl_ReplyPut.calls (hT0 := X.Tab.keep hT0 (by exact b2 HB GE138 GE159)) k t150 t151 t152 _ _ t153 _ _ t156 t160 _ ?side1 ?side2 ?side3 ?side4 A10.out).mono ?_); (case side1 => refine (Kd.R_reads' (e := 9) (base := w.heap.size) (ok := fun k_ => (True ∧ some k_ ≠ (.slice Ao41 t143.length co41 : Value).ownBlock)) (n := t153.length) (c := co49) ?_).2.2; exact (by (with_reducible repeat (first | apply Kd.R_alloc | apply Kd.R_drewN | apply Kd.R_drew)); exact (Kd.R_mono (Kd.R_far (p := ⟨gb159, 4, none⟩) (Kd.R_far (p := ⟨gb159, 3, none⟩) (Kd.R_far (p := ⟨gb159, 2, none⟩) (Kd.R_far (p := ⟨gb159, 1, none⟩) (Kd.R_far (p := ⟨gb159, 0, none⟩) (Kd.R_types HO155.out BK159.out (by decide)) (fun _ hk => hk.2) (.int .i64 t150)) (fun _ hk => hk.2) (.int .i64 t151)) (fun _ hk => hk.2) (.string t152)) (fun _ hk => hk.2) (.slice Ao49 t153.length co49)) (fun _ hk => hk.2) (.slice Ao50 t156.length co50)) (fun _ h_ => h_.1)))); (case side2 => exact (Kd.R_reads' HO155.out).2.1); (case side3 => refine (Kd.R_reads' (e := 30) (base := w.heap.size) (ok := fun k_ => (((some k_ ≠ (.slice Ao49 t153.length co49 : Value).ownBlock ∧ some k_ ≠ (.slice Ao41 t143.length co41 : Value).ownBlock) ∧ some k_ ≠ (.slice Ao42 t146.length co42 : Value).ownBlock) ∧ k_ ≠ gb159)) (n := t156.length) (c := co50) ?_).2.2; exact (by (with_reducible repeat (first | apply Kd.R_alloc | apply Kd.R_drewN | apply Kd.R_drew)); exact (Kd.R_mono (Kd.R_far (p := ⟨gb159, 4, none⟩) (Kd.R_far (p := ⟨gb159, 3, none⟩) (Kd.R_far (p := ⟨gb159, 2, none⟩) (Kd.R_far (p := ⟨gb159, 1, none⟩) (Kd.R_far (p := ⟨gb159, 0, none⟩) (Kd.R_mono HO158.out (fun k_ hk => (⟨hk, by first | exact hk.2 | exact hk | exact hk.1⟩ : _ ∧ k_ ≠ gb159))) (fun _ hk => hk.2) (.int .i64 t150)) (fun _ hk => hk.2) (.int .i64 t151)) (fun _ hk => hk.2) (.string t152)) (fun _ hk => hk.2) (.slice Ao49 t153.length co49)) (fun _ hk => hk.2) (.slice Ao50 t156.length co50)) (fun _ h_ => h_.1)))); (case side4 => exact (Kd.R_reads' HO158.out).2.1); rintro e w51 ⟨rfl, hb⟩; refine ⟨_, rfl, ?_⟩; have n0_ := Aside0.mk (Kd.R_below (by (with_reducible repeat (first | apply Kd.R_alloc | apply Kd.R_drewN | apply Kd.R_drew)); exact (Kd.R_mono (Kd.R_far (p := ⟨gb159, 4, none⟩) (Kd.R_far (p := ⟨gb159, 3, none⟩) (Kd.R_far (p := ⟨gb159, 2, none⟩) (Kd.R_far (p := ⟨gb159, 1, none⟩) (Kd.R_far (p := ⟨gb159, 0, none⟩) (Kd.R_types HO145.out BK159.out (by decide)) (fun _ hk => hk.2) (.int .i64 t150)) (fun _ hk => hk.2) (.int .i64 t151)) (fun _ hk => hk.2) (.string t152)) (fun _ hk => hk.2) (.slice Ao49 t153.length co49)) (fun _ hk => hk.2) (.slice Ao50 t156.length co50)) (fun _ h_ => h_.1))) hb); have n1_ := Aside0.mk (Kd.R_below (by (with_reducible repeat (first | apply Kd.R_alloc | apply Kd.R_drewN | apply Kd.R_drew)); exact (Kd.R_mono (Kd.R_far (p := ⟨gb159, 4, none⟩) (Kd.R_far (p := ⟨gb159, 3, none⟩) (Kd.R_far (p := ⟨gb159, 2, none⟩) (Kd.R_far (p := ⟨gb159, 1, none⟩) (Kd.R_far (p := ⟨gb159, 0, none⟩) (Kd.R_mono HO148.out (fun k_ hk => (⟨hk, by first | exact hk.2 | exact hk | exact hk.1⟩ : _ ∧ k_ ≠ gb159))) (fun _ hk => hk.2) (.int .i64 t150)) (fun _ hk => hk.2) (.int .i64 t151)) (fun _ hk => hk.2) (.string t152)) (fun _ hk => hk.2) (.slice Ao49 t153.length co49)) (fun _ hk => hk.2) (.slice Ao50 t156.length co50)) (fun _ h_ => h_.1))) hb); have n2_ := Aside0.mk (Kd.R_below (by (with_reducible repeat (first | apply Kd.R_alloc | apply Kd.R_drewN | apply Kd.R_drew)); exact (Kd.R_mono (Kd.R_far (p := ⟨gb159, 4, none⟩) (Kd.R_far (p := ⟨gb159, 3, none⟩) (Kd.R_far (p := ⟨gb159, 2, none⟩) (Kd.R_far (p := ⟨gb159, 1, none⟩) (Kd.R_far (p := ⟨gb159, 0, none⟩) (Kd.R_types HO155.out BK159.out (by decide)) (fun _ hk => hk.2) (.int .i64 t150)) (fun _ hk => hk.2) (.int .i64 t151)) (fun _ hk => hk.2) (.string t152)) (fun _ hk => hk.2) (.slice Ao49 t153.length co49)) (fun _ hk => hk.2) (.slice Ao50 t156.length co50)) (fun _ h_ => h_.1))) hb); have n3_ := Aside0.mk (Kd.R_below (by (with_reducible repeat (first | apply Kd.R_alloc | apply Kd.R_drewN | apply Kd.R_drew)); exact (Kd.R_mono (Kd.R_far (p := ⟨gb159, 4, none⟩) (Kd.R_far (p := ⟨gb159, 3, none⟩) (Kd.R_far (p := ⟨gb159, 2, none⟩) (Kd.R_far (p := ⟨gb159, 1, none⟩) (Kd.R_far (p := ⟨gb159, 0, none⟩) (Kd.R_mono HO158.out (fun k_ hk => (⟨hk, by first | exact hk.2 | exact hk | exact hk.1⟩ : _ ∧ k_ ≠ gb159))) (fun _ hk => hk.2) (.int .i64 t150)) (fun _ hk => hk.2) (.int .i64 t151)) (fun _ hk => hk.2) (.string t152)) (fun _ hk => hk.2) (.slice Ao49 t153.length co49)) (fun _ hk => hk.2) (.slice Ao50 t156.length co50)) (fun _ h_ => h_.1))) hb); have n4_ := Aside0.mk (blk_below (g := gb138) (o := .cells #[.int .i64 a0_0, .int .i64 a0_1, .string a0_2, .slice A0_3 l0_3.length c0_3, .slice A0_4 l0_4.length c0_4] 25 (0, 0)) (by refine bp ?_; refine blk_far ?_ NB138_159.out _; refine bp ?_; refine blk_far ?_ NB138_159.out _; refine bp ?_; refine blk_far ?_ NB138_159.out _; refine bp ?_; refine blk_far ?_ NB138_159.out _; refine bp ?_; refine blk_far ?_ NB138_159.out _; refine bp ?_; exact BK138.out) hb); have n5_ := Aside0.mk (blk_below (g := gb159) (o := .cells #[.int .i64 t150, .int .i64 t151, .string t152, .slice Ao49 t153.length co49, .slice Ao50 t156.length co50] 30 (0, 0)) (by refine bp ?_; refine blk_put (cs := #[.int .i64 t150, .int .i64 t151, .string t152, .slice Ao49 t153.length co49, .slice none 0 0]) ?_ 4 _ rfl; refine bp ?_; refine blk_put (cs := #[.int .i64 t150, .int .i64 t151, .string t152, .slice none 0 0, .slice none 0 0]) ?_ 3 _ rfl; refine bp ?_; refine blk_put (cs := #[.int .i64 t150, .int .i64 t151, .string (⟨#[]⟩ : ByteArray), .slice none 0 0, .slice none 0 0]) ?_ 2 _ rfl; refine bp ?_; refine blk_put (cs := #[.int .i64 t150, .int .i64 0, .string (⟨#[]⟩ : ByteArray), .slice none 0 0, .slice none 0 0]) ?_ 1 _ rfl; refine bp ?_; refine blk_put (cs := #[.int .i64 0, .int .i64 0, .string (⟨#[]⟩ : ByteArray), .slice none 0 0, .slice none 0 0]) ?_ 0 _ rfl; refine bp ?_; exact BK159.out) hb); have n6_ := Aside0.mk (below_step (by exact b2 HB GE138 GE159) hb); clear HO145; clear HO148; clear HO155; clear HO158; clear BK138; clear BK159; clear HB; have HO145 := n0_; have HO148 := n1_; have HO155 := n2_; have HO158 := n3_; have BK138 := n4_; have BK159 := n5_; have HB := n6_; clear n0_ n1_ n2_ n3_ n4_ n5_ n6_; (try clear hb); (try clear hb2); (try clear hk); (try clear hi)))
        have n0_ := Aside0.mk (Kd.R_drew HO145.out)
        have n1_ := Aside0.mk (Kd.R_drew HO148.out)
        have n2_ := Aside0.mk (Kd.R_drew HO155.out)
        have n3_ := Aside0.mk (Kd.R_drew HO158.out)
        have n4_ := Aside0.mk (blk_drew BK138.out)
        have n5_ := Aside0.mk (blk_drew BK159.out)
        have n6_ := Aside0.mk (below_drew1 HB.out)
        clear HO145
        clear HO148
        clear HO155
        clear HO158
        clear BK138
        clear BK159
        clear HB
        have HO145 := n0_
        have HO148 := n1_
        have HO155 := n2_
        have HO158 := n3_
        have BK138 := n4_
        have BK159 := n5_
        have HB := n6_
        clear n0_ n1_ n2_ n3_ n4_ n5_ n6_
        refine start_ (n := 5) (S := fun w' => w'.cell? ⟨gb159, 0, none⟩ = some (.int .i64 t150) ∧ w'.cell? ⟨gb159, 1, none⟩ = some (.int .i64 t151) ∧ w'.cell? ⟨gb159, 2, none⟩ = some (.string t152) ∧ w'.cell? ⟨gb159, 3, none⟩ = some (.slice Ao49 t153.length co49) ∧ w'.cell? ⟨gb159, 4, none⟩ = some (.slice Ao50 t156.length co50) ∧ w'.cell? ⟨gb138, 0, none⟩ = some (.int .i64 a0_0) ∧ w'.cell? ⟨gb138, 1, none⟩ = some (.int .i64 a0_1) ∧ w'.cell? ⟨gb138, 2, none⟩ = some (.string a0_2) ∧ w'.cell? ⟨gb138, 3, none⟩ = some (.slice A0_3 l0_3.length c0_3) ∧ w'.cell? ⟨gb138, 4, none⟩ = some (.slice A0_4 l0_4.length c0_4)) (ds := []) #[false, false, false, false, false] (by kernel_rfl) rfl rfl ⟨bc BK159 0, bc BK159 1, bc BK159 2, bc BK159 3, bc BK159 4, bc BK138 0, bc BK138 1, bc BK138 2, bc BK138 3, bc BK138 4⟩ (fun hHeld => ?_)
        generalize w51.drew = w52 at HO145 HO148 HO155 HO158 BK138 BK159 HB hHeld ⊢
        refine take_ (i := 0) (N := some 22) (v := ?_) (a' := ?_) #[true, false, false, false, false] rfl rfl (by kernel_rfl) (fun _ _ _ h => h) (Or.inl ⟨by rfl, ?_⟩) hHeld ?_ ?_
        rotate_left
        · rintro w' ⟨s0, s1, s2, s3, s4, s5, s6, s7, s8, s9⟩
          go_simp
          with_reducible rfl
        rotate_left
        · simp only [Act.put, List.setIfInBounds_toArray, List.set_cons_zero, List.set_cons_succ, i64_w, i32_w]
          rfl
        refine take_ (i := 1) (N := some 23) (v := ?_) (a' := ?_) #[true, true, false, false, false] rfl rfl (by kernel_rfl) (fun _ _ _ h => h) (Or.inl ⟨by rfl, ?_⟩) hHeld ?_ ?_
        rotate_left
        · rintro w' ⟨s0, s1, s2, s3, s4, s5, s6, s7, s8, s9⟩
          go_simp
          with_reducible rfl
        rotate_left
        · simp only [Act.put, List.setIfInBounds_toArray, List.set_cons_zero, List.set_cons_succ, i64_w, i32_w]
          rfl
        refine one_ (i := 2) (N := some 24) #[true, true, true, false, false] rfl rfl (by kernel_rfl) (by decide) (fun K hK => ?_)
        refine gs Tryd.func6 #[.agg #[.int .i64 a0_0, .int .i64 a0_1, .string a0_2, .slice A0_3 l0_3.length c0_3, .slice A0_4 l0_4.length c0_4]] ?_
        with_reducible refine (laws_toReply.calls k a0_0 a0_1 a0_2 _ _ l0_3 _ _ l0_4 t161 t162 t163 t164 t167 _ ?side1 ?side2 ?side3 ?side4 A12.out).mono ?_
        (case side1 => exact kc HR0_3 HB)
        (case side2 => exact HC0_3.out)
        (case side3 => exact kc HR0_4 HB)
        (case side4 => exact HC0_4.out)
        rintro e w53 ⟨v165, v168, rfl, ho0, ho1, hb⟩
        refine ⟨_, rfl, ?_⟩
        have n0_ := Aside0.mk (Kd.R_elder' (by exact rz HO145) (Kd.R_base ho0) hb)
        have n1_ := Aside0.mk (Kd.R_mono (Kd.R_told (Kd.R_told (Kd.R_old (by exact rz HO148) hb) (Kd.R_base ho0)) (Kd.R_base ho1)) (fun _ h_ => h_.1))
        have n2_ := Aside0.mk (Kd.R_elder' (by exact rz HO155) (Kd.R_base ho0) hb)
        have n3_ := Aside0.mk (Kd.R_mono (Kd.R_told (Kd.R_told (Kd.R_old (by exact rz HO158) hb) (Kd.R_base ho0)) (Kd.R_base ho1)) (fun _ h_ => h_.1))
        have n4_ := Aside0.mk (Kd.R_lower (Kd.R_new' (Kd.R_new' ho0 (Kd.R_lt (by exact rz HO145))) (Kd.R_lt (by exact rz HO155))) (below_size (by exact b2 HB GE138 GE159)))
        have n5_ := Aside0.mk (Kd.R_lower (Kd.R_newB (Kd.R_new' (Kd.R_new' (Kd.R_new' (Kd.R_new' ho1 (Kd.R_lt (by exact rz HO145))) (Kd.R_lt (by exact rz HO148))) (Kd.R_lt (by exact rz HO155))) (Kd.R_lt (by exact rz HO158))) (g := gb159) (o := .cells #[.int .i64 t150, .int .i64 t151, .string t152, .slice Ao49 t153.length co49, .slice Ao50 t156.length co50] 30 (0, 0)) (by exact bk BK159)) (below_size (by exact b2 HB GE138 GE159)))
        have n6_ := Aside0.mk (blk_below (g := gb138) (o := .cells #[.int .i64 a0_0, .int .i64 a0_1, .string a0_2, .slice A0_3 l0_3.length c0_3, .slice A0_4 l0_4.length c0_4] 25 (0, 0)) (by exact bk BK138) hb)
        have n7_ := Aside0.mk (blk_below (g := gb159) (o := .cells #[.int .i64 t150, .int .i64 t151, .string t152, .slice Ao49 t153.length co49, .slice Ao50 t156.length co50] 30 (0, 0)) (by exact bk BK159) hb)
        have n8_ := Aside0.mk (below_step (by exact b2 HB GE138 GE159) hb)
        clear HO145
        clear HO148
        clear HO155
        clear HO158
        clear BK138
        clear BK159
        clear HB
        have HO145 := n0_
        have HO148 := n1_
        have HO155 := n2_
        have HO158 := n3_
        have HO166 := n4_
        have HO169 := n5_
        have BK138 := n6_
        have BK159 := n7_
        have HB := n8_
        clear n0_ n1_ n2_ n3_ n4_ n5_ n6_ n7_ n8_
        (try clear hb)
        (try clear hb2)
        (try clear hk)
        (try clear hi)
        (try clear ho0)
        (try clear ho1)
        obtain ⟨Ao54, co54, eo54⟩ := Kd.R_slice HO166.out
        (first | subst eo54 | (injection eo54 with f1_ f2_ f3_; have f4_ := f1_.symm; have f5_ := f3_.symm; clear f1_ f2_ f3_; subst f4_; subst f5_))
        obtain ⟨Ao55, co55, eo55⟩ := Kd.R_slice HO169.out
        (first | subst eo55 | (injection eo55 with f1_ f2_ f3_; have f4_ := f1_.symm; have f5_ := f3_.symm; clear f1_ f2_ f3_; subst f4_; subst f5_))
        refine hK.out _ _ ⟨bc BK159 0, bc BK159 1, bc BK159 2, bc BK159 3, bc BK159 4, bc BK138 0, bc BK138 1, bc BK138 2, bc BK138 3, bc BK138 4⟩ (fun hHeld => ?_)
        clear hK K
        refine norm_ (a' := ?_) ?_ ?_
        rotate_left
        · show Act.put _ (some 24) _ = _
          simp only [Act.put, List.setIfInBounds_toArray, List.set_cons_zero, List.set_cons_succ, i64_w, i32_w]
          rfl
        refine one_ (i := 3) (N := some 25) #[true, true, true, true, false] rfl rfl (by kernel_rfl) (by decide) (fun K hK => ?_)
        refine gs Tryd.func8 #[.agg #[.int .i64 t150, .int .i64 t151, .string t152, .slice Ao49 t153.length co49, .slice Ao50 t156.length co50], .agg #[.int .i64 t161, .int .i64 t162, .string t163, .slice Ao54 t164.length co54, .slice Ao55 t167.length co55]] ?_
        with_reducible refine (laws_eqReply.calls k t150 t151 t152 _ _ t153 _ _ t156 t161 t162 t163 _ _ t164 _ _ t167 false _ ?side1 ?side2 ?side3 ?side4 ?side5 ?side6 ?side7 ?side8 A13.out).mono ?_
        (case side1 => repeat (first | exact (Kd.R_reads' HO155.out).2.2 | (with_reducible refine Kd.C_alloc ?_ _) | (with_reducible refine Kd.C_drewN ?_ _) | (with_reducible refine Kd.C_drew ?_)))
        (case side2 => exact (Kd.R_reads' HO155.out).2.1)
        (case side3 => repeat (first | exact (Kd.R_reads' HO158.out).2.2 | (with_reducible refine Kd.C_alloc ?_ _) | (with_reducible refine Kd.C_drewN ?_ _) | (with_reducible refine Kd.C_drew ?_)))
        (case side4 => exact (Kd.R_reads' HO158.out).2.1)
        (case side5 => repeat (first | exact (Kd.R_reads' HO166.out).2.2 | (with_reducible refine Kd.C_alloc ?_ _) | (with_reducible refine Kd.C_drewN ?_ _) | (with_reducible refine Kd.C_drew ?_)))
        (case side6 => exact (Kd.R_reads' HO166.out).2.1)
        (case side7 => repeat (first | exact (Kd.R_reads' HO169.out).2.2 | (with_reducible refine Kd.C_alloc ?_ _) | (with_reducible refine Kd.C_drewN ?_ _) | (with_reducible refine Kd.C_drew ?_)))
        (case side8 => exact (Kd.R_reads' HO169.out).2.1)
        rintro e w56 ⟨rfl, hb⟩
        refine ⟨_, rfl, ?_⟩
        have n0_ := Aside0.mk (Kd.R_below (by exact rz HO145) hb)
        have n1_ := Aside0.mk (Kd.R_below (by exact rz HO148) hb)
        have n2_ := Aside0.mk (Kd.R_below (by exact rz HO155) hb)
        have n3_ := Aside0.mk (Kd.R_below (by exact rz HO158) hb)
        have n4_ := Aside0.mk (Kd.R_below (by exact rz HO166) hb)
        have n5_ := Aside0.mk (Kd.R_below (by exact rz HO169) hb)
        have n6_ := Aside0.mk (blk_below (g := gb138) (o := .cells #[.int .i64 a0_0, .int .i64 a0_1, .string a0_2, .slice A0_3 l0_3.length c0_3, .slice A0_4 l0_4.length c0_4] 25 (0, 0)) (by exact bk BK138) hb)
        have n7_ := Aside0.mk (blk_below (g := gb159) (o := .cells #[.int .i64 t150, .int .i64 t151, .string t152, .slice Ao49 t153.length co49, .slice Ao50 t156.length co50] 30 (0, 0)) (by exact bk BK159) hb)
        have n8_ := Aside0.mk (below_step (by exact b2 HB GE138 GE159) hb)
        clear HO145
        clear HO148
        clear HO155
        clear HO158
        clear HO166
        clear HO169
        clear BK138
        clear BK159
        clear HB
        have HO145 := n0_
        have HO148 := n1_
        have HO155 := n2_
        have HO158 := n3_
        have HO166 := n4_
        have HO169 := n5_
        have BK138 := n6_
        have BK159 := n7_
        have HB := n8_
        clear n0_ n1_ n2_ n3_ n4_ n5_ n6_ n7_ n8_
        (try clear hb)
        (try clear hb2)
        (try clear hk)
        (try clear hi)
        refine hK.out _ _ ⟨bc BK159 0, bc BK159 1, bc BK159 2, bc BK159 3, bc BK159 4, bc BK138 0, bc BK138 1, bc BK138 2, bc BK138 3, bc BK138 4⟩ (fun hHeld => ?_)
        clear hK K
        refine norm_ (a' := ?_) ?_ ?_
        rotate_left
        · show Act.put _ (some 25) _ = _
          simp only [Act.put, List.setIfInBounds_toArray, List.set_cons_zero, List.set_cons_succ, i64_w, i32_w]
          rfl
        refine pure_ (i := 4) (N := some 26) (v := ?_) (a' := ?_) #[true, true, true, true, true] rfl rfl (by kernel_rfl) (fun _ _ _ h => h) (Or.inl ⟨by rfl, ?_⟩) ?_ ?_
        rotate_left
        · intro w'
          go_simp
          with_reducible rfl
        rotate_left
        · simp only [Act.put, List.setIfInBounds_toArray, List.set_cons_zero, List.set_cons_succ, i64_w, i32_w]
          rfl
        refine done_ (by kernel_rfl) ?_
        try go_wp2
        go_ret
        exact fz (by exact b2 HB GE138 GE159)
    · rw [if_neg c11] at H
      have c11b0 : (t160.toList == t149.toList) = false := beq_eq_false_iff_ne.mpr c11
      have c11b1 : (t160.toList != t149.toList) = true := bne_iff_ne.mpr c11
      obtain rfl := Option.some.inj H
      go_enter Tryd.func3, Tryd.ntmps3
      go_wp2_with (first | ((with_reducible refine gate_dst (N := 1) rfl ?_); refine bx 1 #[.int .i64 a0_0, .int .i64 a0_1, .string a0_2, .slice A0_3 l0_3.length c0_3, .slice A0_4 l0_4.length c0_4] 25 ?_; intro gb138 hg w57 hbox hb; have n0_ := Aside0.mk (below_step (by exact bl HB) hb); have n1_ := Aside0.mk (hbox); have n2_ := Aside0.mk ((by rw [hg]; exact (below_size (by exact bl HB)) : w.heap.size ≤ gb138)); have n3_ := n2_; clear HB; have HB := n0_; have BK138 := n1_; have GW138 := n2_; have GE138 := n3_; clear n0_ n1_ n2_ n3_; clear hb hbox hg; have hcz58_0 : w57.cell? ⟨gb138, 0, none⟩ = some (.int .i64 a0_0) := bc BK138 0; have hcz58_1 : w57.cell? ⟨gb138, 1, none⟩ = some (.int .i64 a0_1) := bc BK138 1; have hcz58_2 : w57.cell? ⟨gb138, 2, none⟩ = some (.string a0_2) := bc BK138 2; have hcz58_3 : w57.cell? ⟨gb138, 3, none⟩ = some (.slice A0_3 l0_3.length c0_3) := bc BK138 3; have hcz58_4 : w57.cell? ⟨gb138, 4, none⟩ = some (.slice A0_4 l0_4.length c0_4) := bc BK138 4; have hfz58_0 := blk_frozen BK138.out 0; have hfz58_1 := blk_frozen BK138.out 1; have hfz58_2 := blk_frozen BK138.out 2; have hfz58_3 := blk_frozen BK138.out 3; have hfz58_4 := blk_frozen BK138.out 4) | ((with_reducible refine gate_callee (f := 4) rfl ?_); refine gl (some 9) Tryd.func4 #[.agg #[.int .i64 a0_0, .int .i64 a0_1, .string a0_2, .slice A0_3 l0_3.length c0_3, .slice A0_4 l0_4.length c0_4], .int .i64 1048576] ?_; (with_reducible refine (laws_szReply.calls k a0_0 a0_1 a0_2 _ _ l0_3 _ _ l0_4 1048576 t139 _ ?side1 ?side2 ?side3 ?side4 A2.out).mono ?_); (case side1 => exact kc HR0_3 HB); (case side2 => exact HC0_3.out); (case side3 => exact kc HR0_4 HB); (case side4 => exact HC0_4.out); rintro e w59 ⟨rfl, hb⟩; refine ⟨_, rfl, ?_⟩; have n0_ := Aside0.mk (blk_below (g := gb138) (o := .cells #[.int .i64 a0_0, .int .i64 a0_1, .string a0_2, .slice A0_3 l0_3.length c0_3, .slice A0_4 l0_4.length c0_4] 25 (0, 0)) (by exact bk BK138) hb); have n1_ := Aside0.mk (below_step (by exact b1 HB GE138) hb); clear BK138; clear HB; have BK138 := n0_; have HB := n1_; clear n0_ n1_; (try clear hb); (try clear hb2); (try clear hk); (try clear hi); have hcz60_0 : w59.cell? ⟨gb138, 0, none⟩ = some (.int .i64 a0_0) := bc BK138 0; have hcz60_1 : w59.cell? ⟨gb138, 1, none⟩ = some (.int .i64 a0_1) := bc BK138 1; have hcz60_2 : w59.cell? ⟨gb138, 2, none⟩ = some (.string a0_2) := bc BK138 2; have hcz60_3 : w59.cell? ⟨gb138, 3, none⟩ = some (.slice A0_3 l0_3.length c0_3) := bc BK138 3; have hcz60_4 : w59.cell? ⟨gb138, 4, none⟩ = some (.slice A0_4 l0_4.length c0_4) := bc BK138 4; have hfz60_0 := blk_frozen BK138.out 0; have hfz60_1 := blk_frozen BK138.out 1; have hfz60_2 := blk_frozen BK138.out 2; have hfz60_3 := blk_frozen BK138.out 3; have hfz60_4 := blk_frozen BK138.out 4) | ((with_reducible refine gate_callee (f := 6) rfl ?_); refine gl (some 13) Tryd.func6 #[.agg #[.int .i64 a0_0, .int .i64 a0_1, .string a0_2, .slice A0_3 l0_3.length c0_3, .slice A0_4 l0_4.length c0_4]] ?_; (with_reducible refine (laws_toReply.calls k a0_0 a0_1 a0_2 _ _ l0_3 _ _ l0_4 t140 t141 t142 t143 t146 _ ?side1 ?side2 ?side3 ?side4 A7.out).mono ?_); (case side1 => exact kc HR0_3 HB); (case side2 => exact HC0_3.out); (case side3 => exact kc HR0_4 HB); (case side4 => exact HC0_4.out); rintro e w61 ⟨v144, v147, rfl, ho0, ho1, hb⟩; refine ⟨_, rfl, ?_⟩; have n0_ := Aside0.mk (Kd.R_lower ho0 (below_size (by exact b1 HB GE138))); have n1_ := Aside0.mk (Kd.R_lower ho1 (below_size (by exact b1 HB GE138))); have n2_ := Aside0.mk (blk_below (g := gb138) (o := .cells #[.int .i64 a0_0, .int .i64 a0_1, .string a0_2, .slice A0_3 l0_3.length c0_3, .slice A0_4 l0_4.length c0_4] 25 (0, 0)) (by exact bk BK138) hb); have n3_ := Aside0.mk (below_step (by exact b1 HB GE138) hb); clear BK138; clear HB; have HO145 := n0_; have HO148 := n1_; have BK138 := n2_; have HB := n3_; clear n0_ n1_ n2_ n3_; (try clear hb); (try clear hb2); (try clear hk); (try clear hi); (try clear ho0); (try clear ho1); obtain ⟨Ao62, co62, eo62⟩ := Kd.R_slice HO145.out; subst eo62; obtain ⟨Ao63, co63, eo63⟩ := Kd.R_slice HO148.out; subst eo63) | ((with_reducible refine gate_callee (f := 5) rfl ?_); refine gl (some 14) Tryd.func5 #[.agg #[.int .i64 t140, .int .i64 t141, .string t142, .slice Ao62 t143.length co62, .slice Ao63 t146.length co63]] ?_; (with_reducible refine (spec_ReplyPut.calls k t140 t141 t142 _ _ t143 _ _ t146 t149 _ ?side1 ?side2 ?side3 ?side4 A8.out).mono ?_); (case side1 => repeat (first | exact (Kd.R_reads' HO145.out).2.2 | (with_reducible refine Kd.C_alloc ?_ _) | (with_reducible refine Kd.C_drewN ?_ _) | (with_reducible refine Kd.C_drew ?_))); (case side2 => exact (Kd.R_reads' HO145.out).2.1); (case side3 => repeat (first | exact (Kd.R_reads' HO148.out).2.2 | (with_reducible refine Kd.C_alloc ?_ _) | (with_reducible refine Kd.C_drewN ?_ _) | (with_reducible refine Kd.C_drew ?_))); (case side4 => exact (Kd.R_reads' HO148.out).2.1); rintro e w64 ⟨rfl, hb⟩; refine ⟨_, rfl, ?_⟩; have n0_ := Aside0.mk (Kd.R_below (by exact rz HO145) hb); have n1_ := Aside0.mk (Kd.R_below (by exact rz HO148) hb); have n2_ := Aside0.mk (blk_below (g := gb138) (o := .cells #[.int .i64 a0_0, .int .i64 a0_1, .string a0_2, .slice A0_3 l0_3.length c0_3, .slice A0_4 l0_4.length c0_4] 25 (0, 0)) (by exact bk BK138) hb); have n3_ := Aside0.mk (below_step (by exact b1 HB GE138) hb); clear HO145; clear HO148; clear BK138; clear HB; have HO145 := n0_; have HO148 := n1_; have BK138 := n2_; have HB := n3_; clear n0_ n1_ n2_ n3_; (try clear hb); (try clear hb2); (try clear hk); (try clear hi); have hcz65_0 : w64.cell? ⟨gb138, 0, none⟩ = some (.int .i64 a0_0) := bc BK138 0; have hcz65_1 : w64.cell? ⟨gb138, 1, none⟩ = some (.int .i64 a0_1) := bc BK138 1; have hcz65_2 : w64.cell? ⟨gb138, 2, none⟩ = some (.string a0_2) := bc BK138 2; have hcz65_3 : w64.cell? ⟨gb138, 3, none⟩ = some (.slice A0_3 l0_3.length c0_3) := bc BK138 3; have hcz65_4 : w64.cell? ⟨gb138, 4, none⟩ = some (.slice A0_4 l0_4.length c0_4) := bc BK138 4; have hfz65_0 := blk_frozen BK138.out 0; have hfz65_1 := blk_frozen BK138.out 1; have hfz65_2 := blk_frozen BK138.out 2; have hfz65_3 := blk_frozen BK138.out 3; have hfz65_4 := blk_frozen BK138.out 4) | ((with_reducible refine gate_callee (f := 6) rfl ?_); refine gl (some 16) Tryd.func6 #[.agg #[.int .i64 a0_0, .int .i64 a0_1, .string a0_2, .slice A0_3 l0_3.length c0_3, .slice A0_4 l0_4.length c0_4]] ?_; (with_reducible refine (laws_toReply.calls k a0_0 a0_1 a0_2 _ _ l0_3 _ _ l0_4 t150 t151 t152 t153 t156 _ ?side1 ?side2 ?side3 ?side4 A9.out).mono ?_); (case side1 => exact kc HR0_3 HB); (case side2 => exact HC0_3.out); (case side3 => exact kc HR0_4 HB); (case side4 => exact HC0_4.out); rintro e w66 ⟨v154, v157, rfl, ho0, ho1, hb⟩; refine ⟨_, rfl, ?_⟩; have n0_ := Aside0.mk (Kd.R_elder' (by exact rz HO145) (Kd.R_base ho0) hb); have n1_ := Aside0.mk (Kd.R_mono (Kd.R_told (Kd.R_told (Kd.R_old (by exact rz HO148) hb) (Kd.R_base ho0)) (Kd.R_base ho1)) (fun _ h_ => h_.1)); have n2_ := Aside0.mk (Kd.R_lower (Kd.R_new' ho0 (Kd.R_lt (by exact rz HO145))) (below_size (by exact b1 HB GE138))); have n3_ := Aside0.mk (Kd.R_lower (Kd.R_new' (Kd.R_new' ho1 (Kd.R_lt (by exact rz HO145))) (Kd.R_lt (by exact rz HO148))) (below_size (by exact b1 HB GE138))); have n4_ := Aside0.mk (blk_below (g := gb138) (o := .cells #[.int .i64 a0_0, .int .i64 a0_1, .string a0_2, .slice A0_3 l0_3.length c0_3, .slice A0_4 l0_4.length c0_4] 25 (0, 0)) (by exact bk BK138) hb); have n5_ := Aside0.mk (below_step (by exact b1 HB GE138) hb); clear HO145; clear HO148; clear BK138; clear HB; have HO145 := n0_; have HO148 := n1_; have HO155 := n2_; have HO158 := n3_; have BK138 := n4_; have HB := n5_; clear n0_ n1_ n2_ n3_ n4_ n5_; (try clear hb); (try clear hb2); (try clear hk); (try clear hi); (try clear ho0); (try clear ho1)) | ((with_reducible refine gate_dst (N := 5) rfl ?_); refine bx 5 #[.int .i64 0, .int .i64 0, .string (⟨#[]⟩ : ByteArray), .slice none 0 0, .slice none 0 0] 30 ?_; intro gb159 hg w67 hbox hb; have n0_ := Aside0.mk (Kd.R_below (by exact rz HO145) hb); have n1_ := Aside0.mk (Kd.R_below (Kd.R_elderB (by exact rz HO148) gb159 (Nat.le_of_eq hg.symm)) hb); have n2_ := Aside0.mk (Kd.R_below (by exact rz HO155) hb); have n3_ := Aside0.mk (Kd.R_below (Kd.R_elderB (by exact rz HO158) gb159 (Nat.le_of_eq hg.symm)) hb); have n4_ := Aside0.mk (blk_below (g := gb138) (o := .cells #[.int .i64 a0_0, .int .i64 a0_1, .string a0_2, .slice A0_3 l0_3.length c0_3, .slice A0_4 l0_4.length c0_4] 25 (0, 0)) (by exact bk BK138) hb); have n5_ := Aside0.mk (below_step (by exact b1 HB GE138) hb); have n6_ := Aside0.mk (hbox); have n7_ := Aside0.mk ((by rw [hg]; exact (below_size (by exact b1 HB GE138)) : w.heap.size ≤ gb159)); have n8_ := n7_; have n9_ := Aside0.mk ((by rw [hg]; exact Nat.ne_of_lt (blk_lt (g := gb138) (o := .cells #[.int .i64 a0_0, .int .i64 a0_1, .string a0_2, .slice A0_3 l0_3.length c0_3, .slice A0_4 l0_4.length c0_4] 25 (0, 0)) (by exact bk BK138)) : gb138 ≠ gb159)); have n10_ := Aside0.mk ((by rw [hg]; exact Nat.ne_of_gt (blk_lt (g := gb138) (o := .cells #[.int .i64 a0_0, .int .i64 a0_1, .string a0_2, .slice A0_3 l0_3.length c0_3, .slice A0_4 l0_4.length c0_4] 25 (0, 0)) (by exact bk BK138)) : gb159 ≠ gb138)); clear HO145; clear HO148; clear HO155; clear HO158; clear BK138; clear HB; have HO145 := n0_; have HO148 := n1_; have HO155 := n2_; have HO158 := n3_; have BK138 := n4_; have HB := n5_; have BK159 := n6_; have GW159 := n7_; have GE159 := n8_; have NB138_159 := n9_; have NB159_138 := n10_; clear n0_ n1_ n2_ n3_ n4_ n5_ n6_ n7_ n8_ n9_ n10_; clear hb hbox hg; have hnb68 := NB159_138.out; have hnc68 := NB138_159.out; have hcz69_0 : w67.cell? ⟨gb159, 0, none⟩ = some (.int .i64 0) := bc BK159 0; have hcz69_1 : w67.cell? ⟨gb159, 1, none⟩ = some (.int .i64 0) := bc BK159 1; have hcz69_2 : w67.cell? ⟨gb159, 2, none⟩ = some (.string (⟨#[]⟩ : ByteArray)) := bc BK159 2; have hcz69_3 : w67.cell? ⟨gb159, 3, none⟩ = some (.slice none 0 0) := bc BK159 3; have hcz69_4 : w67.cell? ⟨gb159, 4, none⟩ = some (.slice none 0 0) := bc BK159 4; have hfz69_0 := blk_frozen BK159.out 0; have hfz69_1 := blk_frozen BK159.out 1; have hfz69_2 := blk_frozen BK159.out 2; have hfz69_3 := blk_frozen BK159.out 3; have hfz69_4 := blk_frozen BK159.out 4; obtain ⟨Ao70, co70, eo70⟩ := Kd.R_slice HO155.out; subst eo70; obtain ⟨Ao71, co71, eo71⟩ := Kd.R_slice HO158.out; subst eo71) | ((with_reducible refine gate_callee (f := 7) rfl ?_); refine gl (some 18) Tryd.func7 #[.agg #[.int .i64 t150, .int .i64 t151, .string t152, .slice Ao70 t153.length co70, .slice Ao71 t156.length co71]] ?_; (with_reducible refine (impl_ReplyPut.calls (hT0 := X.Tab.keep hT0 (by exact b2 HB GE138 GE159)) k t150 t151 t152 _ _ t153 _ _ t156 t160 _ ?side1 ?side2 ?side3 ?side4 A10.out).mono ?_); (case side1 => refine (Kd.R_reads' (e := 9) (base := w.heap.size) (ok := fun k_ => (True ∧ some k_ ≠ (.slice Ao62 t143.length co62 : Value).ownBlock)) (n := t153.length) (c := co70) ?_).2.2; exact (by (with_reducible repeat (first | apply Kd.R_alloc | apply Kd.R_drewN | apply Kd.R_drew)); exact (Kd.R_mono (Kd.R_far (p := ⟨gb159, 4, none⟩) (Kd.R_far (p := ⟨gb159, 3, none⟩) (Kd.R_far (p := ⟨gb159, 2, none⟩) (Kd.R_far (p := ⟨gb159, 1, none⟩) (Kd.R_far (p := ⟨gb159, 0, none⟩) (Kd.R_types HO155.out BK159.out (by decide)) (fun _ hk => hk.2) (.int .i64 t150)) (fun _ hk => hk.2) (.int .i64 t151)) (fun _ hk => hk.2) (.string t152)) (fun _ hk => hk.2) (.slice Ao70 t153.length co70)) (fun _ hk => hk.2) (.slice Ao71 t156.length co71)) (fun _ h_ => h_.1)))); (case side2 => exact (Kd.R_reads' HO155.out).2.1); (case side3 => refine (Kd.R_reads' (e := 30) (base := w.heap.size) (ok := fun k_ => (((some k_ ≠ (.slice Ao70 t153.length co70 : Value).ownBlock ∧ some k_ ≠ (.slice Ao62 t143.length co62 : Value).ownBlock) ∧ some k_ ≠ (.slice Ao63 t146.length co63 : Value).ownBlock) ∧ k_ ≠ gb159)) (n := t156.length) (c := co71) ?_).2.2; exact (by (with_reducible repeat (first | apply Kd.R_alloc | apply Kd.R_drewN | apply Kd.R_drew)); exact (Kd.R_mono (Kd.R_far (p := ⟨gb159, 4, none⟩) (Kd.R_far (p := ⟨gb159, 3, none⟩) (Kd.R_far (p := ⟨gb159, 2, none⟩) (Kd.R_far (p := ⟨gb159, 1, none⟩) (Kd.R_far (p := ⟨gb159, 0, none⟩) (Kd.R_mono HO158.out (fun k_ hk => (⟨hk, by first | exact hk.2 | exact hk | exact hk.1⟩ : _ ∧ k_ ≠ gb159))) (fun _ hk => hk.2) (.int .i64 t150)) (fun _ hk => hk.2) (.int .i64 t151)) (fun _ hk => hk.2) (.string t152)) (fun _ hk => hk.2) (.slice Ao70 t153.length co70)) (fun _ hk => hk.2) (.slice Ao71 t156.length co71)) (fun _ h_ => h_.1)))); (case side4 => exact (Kd.R_reads' HO158.out).2.1); rintro e w72 ⟨rfl, hb⟩; refine ⟨_, rfl, ?_⟩; have n0_ := Aside0.mk (Kd.R_below (by (with_reducible repeat (first | apply Kd.R_alloc | apply Kd.R_drewN | apply Kd.R_drew)); exact (Kd.R_mono (Kd.R_far (p := ⟨gb159, 4, none⟩) (Kd.R_far (p := ⟨gb159, 3, none⟩) (Kd.R_far (p := ⟨gb159, 2, none⟩) (Kd.R_far (p := ⟨gb159, 1, none⟩) (Kd.R_far (p := ⟨gb159, 0, none⟩) (Kd.R_types HO145.out BK159.out (by decide)) (fun _ hk => hk.2) (.int .i64 t150)) (fun _ hk => hk.2) (.int .i64 t151)) (fun _ hk => hk.2) (.string t152)) (fun _ hk => hk.2) (.slice Ao70 t153.length co70)) (fun _ hk => hk.2) (.slice Ao71 t156.length co71)) (fun _ h_ => h_.1))) hb); have n1_ := Aside0.mk (Kd.R_below (by (with_reducible repeat (first | apply Kd.R_alloc | apply Kd.R_drewN | apply Kd.R_drew)); exact (Kd.R_mono (Kd.R_far (p := ⟨gb159, 4, none⟩) (Kd.R_far (p := ⟨gb159, 3, none⟩) (Kd.R_far (p := ⟨gb159, 2, none⟩) (Kd.R_far (p := ⟨gb159, 1, none⟩) (Kd.R_far (p := ⟨gb159, 0, none⟩) (Kd.R_mono HO148.out (fun k_ hk => (⟨hk, by first | exact hk.2 | exact hk | exact hk.1⟩ : _ ∧ k_ ≠ gb159))) (fun _ hk => hk.2) (.int .i64 t150)) (fun _ hk => hk.2) (.int .i64 t151)) (fun _ hk => hk.2) (.string t152)) (fun _ hk => hk.2) (.slice Ao70 t153.length co70)) (fun _ hk => hk.2) (.slice Ao71 t156.length co71)) (fun _ h_ => h_.1))) hb); have n2_ := Aside0.mk (Kd.R_below (by (with_reducible repeat (first | apply Kd.R_alloc | apply Kd.R_drewN | apply Kd.R_drew)); exact (Kd.R_mono (Kd.R_far (p := ⟨gb159, 4, none⟩) (Kd.R_far (p := ⟨gb159, 3, none⟩) (Kd.R_far (p := ⟨gb159, 2, none⟩) (Kd.R_far (p := ⟨gb159, 1, none⟩) (Kd.R_far (p := ⟨gb159, 0, none⟩) (Kd.R_types HO155.out BK159.out (by decide)) (fun _ hk => hk.2) (.int .i64 t150)) (fun _ hk => hk.2) (.int .i64 t151)) (fun _ hk => hk.2) (.string t152)) (fun _ hk => hk.2) (.slice Ao70 t153.length co70)) (fun _ hk => hk.2) (.slice Ao71 t156.length co71)) (fun _ h_ => h_.1))) hb); have n3_ := Aside0.mk (Kd.R_below (by (with_reducible repeat (first | apply Kd.R_alloc | apply Kd.R_drewN | apply Kd.R_drew)); exact (Kd.R_mono (Kd.R_far (p := ⟨gb159, 4, none⟩) (Kd.R_far (p := ⟨gb159, 3, none⟩) (Kd.R_far (p := ⟨gb159, 2, none⟩) (Kd.R_far (p := ⟨gb159, 1, none⟩) (Kd.R_far (p := ⟨gb159, 0, none⟩) (Kd.R_mono HO158.out (fun k_ hk => (⟨hk, by first | exact hk.2 | exact hk | exact hk.1⟩ : _ ∧ k_ ≠ gb159))) (fun _ hk => hk.2) (.int .i64 t150)) (fun _ hk => hk.2) (.int .i64 t151)) (fun _ hk => hk.2) (.string t152)) (fun _ hk => hk.2) (.slice Ao70 t153.length co70)) (fun _ hk => hk.2) (.slice Ao71 t156.length co71)) (fun _ h_ => h_.1))) hb); have n4_ := Aside0.mk (blk_below (g := gb138) (o := .cells #[.int .i64 a0_0, .int .i64 a0_1, .string a0_2, .slice A0_3 l0_3.length c0_3, .slice A0_4 l0_4.length c0_4] 25 (0, 0)) (by refine bp ?_; refine blk_far ?_ NB138_159.out _; refine bp ?_; refine blk_far ?_ NB138_159.out _; refine bp ?_; refine blk_far ?_ NB138_159.out _; refine bp ?_; refine blk_far ?_ NB138_159.out _; refine bp ?_; refine blk_far ?_ NB138_159.out _; refine bp ?_; exact BK138.out) hb); have n5_ := Aside0.mk (blk_below (g := gb159) (o := .cells #[.int .i64 t150, .int .i64 t151, .string t152, .slice Ao70 t153.length co70, .slice Ao71 t156.length co71] 30 (0, 0)) (by refine bp ?_; refine blk_put (cs := #[.int .i64 t150, .int .i64 t151, .string t152, .slice Ao70 t153.length co70, .slice none 0 0]) ?_ 4 _ rfl; refine bp ?_; refine blk_put (cs := #[.int .i64 t150, .int .i64 t151, .string t152, .slice none 0 0, .slice none 0 0]) ?_ 3 _ rfl; refine bp ?_; refine blk_put (cs := #[.int .i64 t150, .int .i64 t151, .string (⟨#[]⟩ : ByteArray), .slice none 0 0, .slice none 0 0]) ?_ 2 _ rfl; refine bp ?_; refine blk_put (cs := #[.int .i64 t150, .int .i64 0, .string (⟨#[]⟩ : ByteArray), .slice none 0 0, .slice none 0 0]) ?_ 1 _ rfl; refine bp ?_; refine blk_put (cs := #[.int .i64 0, .int .i64 0, .string (⟨#[]⟩ : ByteArray), .slice none 0 0, .slice none 0 0]) ?_ 0 _ rfl; refine bp ?_; exact BK159.out) hb); have n6_ := Aside0.mk (below_step (by exact b2 HB GE138 GE159) hb); clear HO145; clear HO148; clear HO155; clear HO158; clear BK138; clear BK159; clear HB; have HO145 := n0_; have HO148 := n1_; have HO155 := n2_; have HO158 := n3_; have BK138 := n4_; have BK159 := n5_; have HB := n6_; clear n0_ n1_ n2_ n3_ n4_ n5_ n6_; (try clear hb); (try clear hb2); (try clear hk); (try clear hi)))
      go_ret
      exact fz (by exact b2 HB GE138 GE159)

end Go.Proofs.YthdbjegppeekoaaDoor.P
