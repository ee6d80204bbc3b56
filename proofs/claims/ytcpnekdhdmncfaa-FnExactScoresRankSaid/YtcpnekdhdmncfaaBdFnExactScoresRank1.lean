import Derived.Test.YtcpnekdhdmncfaaBdA4
/- Texts of this claim, one behind the other: printed functions and their walks, plain lemmas. -/
-- Written by wip/px.py of this session, over the kit's print.py. Not trusted: Lean checks it.
namespace Go.Proofs.Ytcpnekdhdmncfaa.P
open Go.RowKit Go.Proofs.YtcpnekdhdmncfaaW.PrintWords Go.Proofs.YtcpnekdhdmncfaaW.PrintLast Go.Proofs.YtcpnekdhdmncfaaW.PrintMore
attribute [local go_sem] max2_int min2_int max_two min_two max_three min_three max_four min_four   -- for this text's walks alone
set_option linter.unusedVariables false
set_option linter.unusedSimpArgs false

/-! ### spec_ScoresRank: the walk -/
set_option maxHeartbeats 8000000 in
set_option maxRecDepth 100000 in
theorem spec_ScoresRank.calls (k : Nat) (A0 : Option Addr) (c0 : Nat) (l0 : List (S40)) (a1 : ByteArray) (r : Int) (w : World) (hr0 : Kd.C k40 w A0 l0.length l0) (hc0 : l0.length ≤ c0) (h : spec_ScoresRank.f k l0 a1 = some r) :
    Calls Try.prog 19 #[.slice A0 l0.length c0, .string a1] w fun e w' => e = .returned (.int .i64 r) ∧ Below w.heap.size w w' := by
  have HR0 := Aside0.mk hr0
  have HC0 := Aside0.mk hc0
  clear hr0 hc0
  have HB := Aside0.mk (Below.refl w.heap.size w)
  have H : (spec_ScoresRank.l0 k l0 a1 0) = some r := h
  clear h
  have H' := Aside0.mk H
  clear H
  go_enter Try.func19, Try.ntmps19
  go_wp2
  go_loopg [5] k (fun kq v5 w' => ∃ (x5_1 : Int), v5 = .int .i64 x5_1 ∧ Aside0 (spec_ScoresRank.l0 kq l0 a1 x5_1 = some r) ∧ Aside0 (kq ≤ k) ∧ Aside0 (Below w.heap.size w w'))
  case atStart => exact ⟨(0), (by first | rfl | (simp; done) | (simp [*]; done)), H', ⟨Nat.le_refl _⟩, ⟨by repeat (first | (with_reducible first | exact HB.out | apply below_alloc | apply pw_below_drewN | apply below_drew1) | exact HB.out | exact Below.refl _ _)⟩⟩
  case round =>
    clear H'
    try clear c1
    try clear p2
    obtain ⟨x5_1, rfl, HA, HK1, HB⟩ := hrel
    cases gk with
    | zero => exact absurd HA.out (by simp [spec_ScoresRank.l0])
    | succ k1 =>
      have H := HA.out
      clear HA
      simp only [spec_ScoresRank.l0] at H
      have HC3 := Aside0.mk H
      clear H
      go_upto_region 2 with (fail)
      go_cut [13] (fun v13 wc => ∃ (kq : Nat) (x13_2 : Bool), v13 = .bool x13_2 ∧ Aside0 (spec_ScoresRank.j1 kq l0 a1 x5_1 x13_2 = some r) ∧ Aside0 (kq ≤ k1) ∧ Aside0 (Below w.heap.size w wc))
      case first =>
        have H := HC3.out
        clear HC3
        by_cases c4 : x5_1 < (l0.length : Int)
        · rw [if_pos c4] at H
          have c4b0 : decide (x5_1 < (l0.length : Int)) = true := decide_eq_true c4
          clear c4
          (first | rw [c4b0] | (simp only [i64_w, i32_w]; rw [c4b0]) | skip)
          replace H := Option.bind_eq_some_iff.mp H
          obtain ⟨t163, A50, H⟩ := H
          replace H : (spec_ScoresRank.j1 k1 l0 a1 x5_1 t163) = some r := H
          have A5 := Aside0.mk A50
          clear A50
          have H' := Aside0.mk H
          clear H
          go_wp2_with (first | (go_at_call 15; (with_reducible refine (spec_ScoresOk.calls k1 _ _ l0 t163 _ ?side1 ?side2 A5.out).mono ?_); (case side1 => repeat (first | exact (Kd.C_below HR0.out HB.out) | (with_reducible refine Kd.C_alloc ?_ _) | (with_reducible refine Kd.C_drewN ?_ _) | (with_reducible refine Kd.C_drew ?_))); (case side2 => exact HC0.out); rintro e w6 ⟨rfl, hb⟩; have n0_ := Aside0.mk (below_step (by repeat (first | (with_reducible first | exact HB.out | apply below_alloc | apply pw_below_drewN | apply below_drew1) | exact HB.out | exact Below.refl _ _)) hb); clear HB; have HB := n0_; clear n0_; (try clear hb); (try clear hb2); (try clear hk); (try clear hi)))
          go_meet
          case rel => exact ⟨_, (t163), (by first | rfl | (simp; done) | (simp [*]; done)), H', ⟨by have := HK1.out; first | omega | exact Nat.le_refl _⟩, ⟨by repeat (first | (with_reducible first | exact HB.out | apply below_alloc | apply pw_below_drewN | apply below_drew1) | exact HB.out | exact Below.refl _ _)⟩⟩
        · rw [if_neg c4] at H
          have c4b0 : decide (x5_1 < (l0.length : Int)) = false := decide_eq_false c4
          clear c4
          (first | rw [c4b0] | (simp only [i64_w, i32_w]; rw [c4b0]) | skip)
          have H' := Aside0.mk H
          clear H
          go_wp2
          go_meet
          case rel => exact ⟨_, (false), (by first | rfl | (simp; done) | (simp [*]; done)), H', ⟨by have := HK1.out; first | omega | exact Nat.le_refl _⟩, ⟨by repeat (first | (with_reducible first | exact HB.out | apply below_alloc | apply pw_below_drewN | apply below_drew1) | exact HB.out | exact Below.refl _ _)⟩⟩
      case rest =>
        clear HC3
        try clear c1
        try clear p2
        try clear c4
        try clear c4b0
        try clear p2
        obtain ⟨kq, x13_2, rfl, HA, HJ2, HB⟩ := hcut
        cases kq with
        | zero => exact absurd HA.out (by simp [spec_ScoresRank.j1])
        | succ kj2 =>
          have H := HA.out
          clear HA
          simp only [spec_ScoresRank.j1] at H
          by_cases c7 : x13_2 = true
          · subst c7
            have H1 : (if 0 ≤ x5_1 then (if x5_1 < (l0.length : Int) then (if ((rd_T40 l0 x5_1).f0).toList = a1.toList then (some x5_1) else (spec_ScoresRank.l0 kj2 l0 a1 (wrap64 (x5_1 + 1)))) else (none)) else (none)) = some r := by rw [if_pos rfl] at H; exact H
            clear H
            have H := H1
            clear H1
            by_cases c8 : 0 ≤ x5_1
            · rw [if_pos c8] at H
              have c8b0 : decide (0 ≤ x5_1) = true := decide_eq_true c8
              clear c8
              by_cases c9 : x5_1 < (l0.length : Int)
              · rw [if_pos c9] at H
                have c9b0 : decide (x5_1 < (l0.length : Int)) = true := decide_eq_true c9
                clear c9
                by_cases c10 : ((rd_T40 l0 x5_1).f0).toList = a1.toList
                · rw [if_pos c10] at H
                  have c10b0 : (((rd_T40 l0 x5_1).f0).toList == a1.toList) = true := beq_iff_eq.mpr c10
                  have c10b1 : (((rd_T40 l0 x5_1).f0).toList != a1.toList) = false := bne_eq_false_iff_eq.mpr c10
                  clear c10
                  obtain rfl := Option.some.inj H
                  have p164 : 0 ≤ (x5_1 : Int) := of_decide_eq_true (by first | (with_reducible assumption) | assumption)
                  have q164 : x5_1 < (l0.length : Int) := of_decide_eq_true (by first | (with_reducible assumption) | assumption)
                  obtain ⟨ad164, e164, hx164_0, hx164_1⟩ := at_T40 HR0.out x5_1 p164 q164
                  cases e164
                  replace hx164_0 := (HB.out.cell (World.block_lt_of_cell? w _ hx164_0)).trans hx164_0
                  replace hx164_1 := (HB.out.cell (World.block_lt_of_cell? w _ hx164_1)).trans hx164_1
                  replace p164 := eq_true p164
                  replace q164 := eq_true q164
                  go_wp2
                  go_ret
                  exact ⟨by first | rfl | (simp [errW_none, errW_some] <;> rfl) | (simp [*, errW_none, errW_some] <;> rfl), by repeat (first | (with_reducible first | exact HB.out | apply below_alloc | apply pw_below_drewN | apply below_drew1) | exact HB.out | exact Below.refl _ _)⟩
                · rw [if_neg c10] at H
                  have c10b0 : (((rd_T40 l0 x5_1).f0).toList == a1.toList) = false := beq_eq_false_iff_ne.mpr c10
                  have c10b1 : (((rd_T40 l0 x5_1).f0).toList != a1.toList) = true := bne_iff_ne.mpr c10
                  have H' := Aside0.mk H
                  clear H
                  have p164 : 0 ≤ (x5_1 : Int) := of_decide_eq_true (by first | (with_reducible assumption) | assumption)
                  have q164 : x5_1 < (l0.length : Int) := of_decide_eq_true (by first | (with_reducible assumption) | assumption)
                  obtain ⟨ad164, e164, hx164_0, hx164_1⟩ := at_T40 HR0.out x5_1 p164 q164
                  cases e164
                  replace hx164_0 := (HB.out.cell (World.block_lt_of_cell? w _ hx164_0)).trans hx164_0
                  replace hx164_1 := (HB.out.cell (World.block_lt_of_cell? w _ hx164_1)).trans hx164_1
                  replace p164 := eq_true p164
                  replace q164 := eq_true q164
                  go_wp2
                  go_roundg kj2
                  case measure => have := HK1.out; have := HJ2.out; omega
                  case rel => exact ⟨(wrap64 (x5_1 + 1)), (by first | rfl | (simp; done) | (simp [*]; done)), H', ⟨by have := HK1.out; have := HJ2.out; omega⟩, ⟨by repeat (first | (with_reducible first | exact HB.out | apply below_alloc | apply pw_below_drewN | apply below_drew1) | exact HB.out | exact Below.refl _ _)⟩⟩
              · rw [if_neg c9] at H
                exact absurd H (by simp)
            · rw [if_neg c8] at H
              exact absurd H (by simp)
          · replace c7 := Bool.eq_false_iff.mpr c7
            subst c7
            have H1 : (some (-1)) = some r := by rw [if_neg (show ¬ (false = true) by decide)] at H; exact H
            clear H
            have H := H1
            clear H1
            obtain rfl := Option.some.inj H
            go_wp2
            go_ret
            exact ⟨by first | rfl | (simp [errW_none, errW_some] <;> rfl) | (simp [*, errW_none, errW_some] <;> rfl), by repeat (first | (with_reducible first | exact HB.out | apply below_alloc | apply pw_below_drewN | apply below_drew1) | exact HB.out | exact Below.refl _ _)⟩

end Go.Proofs.Ytcpnekdhdmncfaa.P
-- Written by wip/px.py of this session, over the kit's print.py. Not trusted: Lean checks it.
namespace Go.Proofs.Ytcpnekdhdmncfaa.P
open Go.RowKit Go.Proofs.YtcpnekdhdmncfaaW.PrintWords Go.Proofs.YtcpnekdhdmncfaaW.PrintLast Go.Proofs.YtcpnekdhdmncfaaW.PrintMore
attribute [local go_sem] max2_int min2_int max_two min_two max_three min_three max_four min_four   -- for this text's walks alone
set_option linter.unusedVariables false
set_option linter.unusedSimpArgs false

/-! ### impl_ScoresRank: the walk -/
set_option maxHeartbeats 8000000 in
set_option maxRecDepth 100000 in
theorem impl_ScoresRank.calls (k : Nat) (A0 : Option Addr) (c0 : Nat) (l0 : List (S40)) (a1 : ByteArray) (r : Int) (w : World) (hr0 : Kd.C k40 w A0 l0.length l0) (hc0 : l0.length ≤ c0) (h : impl_ScoresRank.f k l0 a1 = some r) :
    Calls Try.prog 20 #[.slice A0 l0.length c0, .string a1] w fun e w' => e = .returned (.int .i64 r) ∧ Below w.heap.size w w' := by
  have HR0 := Aside0.mk hr0
  have HC0 := Aside0.mk hc0
  clear hr0 hc0
  have HB := Aside0.mk (Below.refl w.heap.size w)
  have H : ((impl_ScoresOk.f k l0).bind fun t165 => (if t165 = true then ((impl_scoreAt.f l0 a1).bind fun t166 => (some t166)) else (some (-1)))) = some r := h
  clear h
  replace H := Option.bind_eq_some_iff.mp H
  obtain ⟨t165, A30, H⟩ := H
  replace H : (if t165 = true then ((impl_scoreAt.f l0 a1).bind fun t166 => (some t166)) else (some (-1))) = some r := H
  have A3 := Aside0.mk A30
  clear A30
  by_cases c4 : t165 = true
  · subst c4
    have H1 : ((impl_scoreAt.f l0 a1).bind fun t166 => (some t166)) = some r := by rw [if_pos rfl] at H; exact H
    clear H
    have H := H1
    clear H1
    replace H := Option.bind_eq_some_iff.mp H
    obtain ⟨t166, A50, H⟩ := H
    replace H : (some t166) = some r := H
    have A5 := Aside0.mk A50
    clear A50
    obtain rfl := Option.some.inj H
    go_enter Try.func20, Try.ntmps20
    go_wp2_with (first | ((with_reducible refine gate_callee (f := 17) rfl ?_); refine goesL_ (some 6) rfl rfl Try.func17 (by kernel_rfl) rfl #[.slice A0 l0.length c0] rfl (by (try simp only [List.map_toArray, List.map_cons, List.map_nil]); first | done | rfl | (simp only [List.length_drop, List.length_take]; rfl)) ?_; (with_reducible refine (impl_ScoresOk.calls k _ _ l0 true _ ?side1 ?side2 A3.out).mono ?_); (case side1 => repeat (first | exact HR0.out | (with_reducible refine Kd.C_alloc ?_ _) | (with_reducible refine Kd.C_drewN ?_ _) | (with_reducible refine Kd.C_drew ?_))); (case side2 => exact HC0.out); rintro e w6 ⟨rfl, hb⟩; refine ⟨_, rfl, ?_⟩; have n0_ := Aside0.mk (below_step (by repeat (first | (with_reducible first | exact HB.out | apply below_alloc | apply pw_below_drewN | apply below_drew1) | exact HB.out | exact Below.refl _ _)) hb); clear HB; have HB := n0_; clear n0_; (try clear hb); (try clear hb2); (try clear hk); (try clear hi)) | ((with_reducible refine gate_callee (f := 44) rfl ?_); refine goesL_ (some 10) rfl rfl Try.func44 (by kernel_rfl) rfl #[.slice A0 l0.length c0, .string a1] rfl (by (try simp only [List.map_toArray, List.map_cons, List.map_nil]); first | done | rfl | (simp only [List.length_drop, List.length_take]; rfl)) ?_; (with_reducible refine (impl_scoreAt.calls _ _ l0 a1 t166 _ ?side1 ?side2 A5.out).mono ?_); (case side1 => repeat (first | exact (Kd.C_below HR0.out HB.out) | (with_reducible refine Kd.C_alloc ?_ _) | (with_reducible refine Kd.C_drewN ?_ _) | (with_reducible refine Kd.C_drew ?_))); (case side2 => exact HC0.out); rintro e w7 ⟨rfl, hb⟩; refine ⟨_, rfl, ?_⟩; have n0_ := Aside0.mk (below_step (by repeat (first | (with_reducible first | exact HB.out | apply below_alloc | apply pw_below_drewN | apply below_drew1) | exact HB.out | exact Below.refl _ _)) hb); clear HB; have HB := n0_; clear n0_; (try clear hb); (try clear hb2); (try clear hk); (try clear hi)))
    go_ret
    exact ⟨by first | rfl | (simp [errW_none, errW_some] <;> rfl) | (simp [*, errW_none, errW_some] <;> rfl), by repeat (first | (with_reducible first | exact HB.out | apply below_alloc | apply pw_below_drewN | apply below_drew1) | exact HB.out | exact Below.refl _ _)⟩
  · replace c4 := Bool.eq_false_iff.mpr c4
    subst c4
    have H1 : (some (-1)) = some r := by rw [if_neg (show ¬ (false = true) by decide)] at H; exact H
    clear H
    have H := H1
    clear H1
    obtain rfl := Option.some.inj H
    go_enter Try.func20, Try.ntmps20
    go_wp2_with (first | ((with_reducible refine gate_callee (f := 17) rfl ?_); refine goesL_ (some 6) rfl rfl Try.func17 (by kernel_rfl) rfl #[.slice A0 l0.length c0] rfl (by (try simp only [List.map_toArray, List.map_cons, List.map_nil]); first | done | rfl | (simp only [List.length_drop, List.length_take]; rfl)) ?_; (with_reducible refine (impl_ScoresOk.calls k _ _ l0 false _ ?side1 ?side2 A3.out).mono ?_); (case side1 => repeat (first | exact HR0.out | (with_reducible refine Kd.C_alloc ?_ _) | (with_reducible refine Kd.C_drewN ?_ _) | (with_reducible refine Kd.C_drew ?_))); (case side2 => exact HC0.out); rintro e w8 ⟨rfl, hb⟩; refine ⟨_, rfl, ?_⟩; have n0_ := Aside0.mk (below_step (by repeat (first | (with_reducible first | exact HB.out | apply below_alloc | apply pw_below_drewN | apply below_drew1) | exact HB.out | exact Below.refl _ _)) hb); clear HB; have HB := n0_; clear n0_; (try clear hb); (try clear hb2); (try clear hk); (try clear hi)))
    go_ret
    exact ⟨by first | rfl | (simp [errW_none, errW_some] <;> rfl) | (simp [*, errW_none, errW_some] <;> rfl), by repeat (first | (with_reducible first | exact HB.out | apply below_alloc | apply pw_below_drewN | apply below_drew1) | exact HB.out | exact Below.refl _ _)⟩

end Go.Proofs.Ytcpnekdhdmncfaa.P
-- Written by wip/px.py of this session, over the kit's print.py. Not trusted: Lean checks it.
namespace Go.Proofs.Ytcpnekdhdmncfaa.P
open Go.RowKit Go.Proofs.YtcpnekdhdmncfaaW.PrintWords Go.Proofs.YtcpnekdhdmncfaaW.PrintLast Go.Proofs.YtcpnekdhdmncfaaW.PrintMore
attribute [local go_sem] max2_int min2_int max_two min_two max_three min_three max_four min_four   -- for this text's walks alone
set_option linter.unusedVariables false
set_option linter.unusedSimpArgs false

/-! ### laws_FnExactScoresRank: the walk -/
set_option maxHeartbeats 8000000 in
set_option maxRecDepth 100000 in
theorem laws_FnExactScoresRank.calls (k : Nat) (A0 : Option Addr) (c0 : Nat) (l0 : List (S46)) (a1 : ByteArray) (r : Bool) (w : World) (hr0 : Kd.C k46 w A0 l0.length l0) (hc0 : l0.length ≤ c0) (h : laws_FnExactScoresRank.f k l0 a1 = some r) :
    Calls Try.prog 4 #[.slice A0 l0.length c0, .string a1] w fun e w' => e = .returned (.bool r) ∧ Below w.heap.size w w' := by
  have HR0 := Aside0.mk hr0
  have HC0 := Aside0.mk hc0
  clear hr0 hc0
  have HB := Aside0.mk (Below.refl w.heap.size w)
  have H : (if (a1.size : Int) > 1048576 then (some true) else ((laws_szScoreS.f k l0 1048576).bind fun t167 => (if t167 < 0 then (some true) else ((laws_toScoreS.f k l0).bind fun t168 => ((spec_ScoresRank.f k t168 a1).bind fun t171 => ((laws_toScoreS.f k l0).bind fun t172 => ((impl_ScoresRank.f k t172 a1).bind fun t175 => (if t175 = t171 then ((laws_toScoreS.f k l0).bind fun t176 => ((laws_eqScoreS.f k t172 t176).bind fun t179 => (if t179 = true then (some true) else (some false)))) else (some false))))))))) = some r := h
  clear h
  by_cases c3 : (a1.size : Int) > 1048576
  · rw [if_pos c3] at H
    have c3b0 : decide (1048576 < (a1.size : Int)) = true := decide_eq_true c3
    have c3b1 : decide (1048576 < a1.size) = true := decide_eq_true (by omega)
    clear c3
    obtain rfl := Option.some.inj H
    go_enter Try.func4, Try.ntmps4
    go_wp2
    go_ret
    exact ⟨by first | rfl | (simp [errW_none, errW_some] <;> rfl) | (simp [*, errW_none, errW_some] <;> rfl), by repeat (first | (with_reducible first | exact HB.out | apply below_alloc | apply pw_below_drewN | apply below_drew1) | exact HB.out | exact Below.refl _ _)⟩
  · rw [if_neg c3] at H
    have c3b0 : decide (1048576 < (a1.size : Int)) = false := decide_eq_false c3
    have c3b1 : decide (1048576 < a1.size) = false := decide_eq_false (by omega)
    clear c3
    replace H := Option.bind_eq_some_iff.mp H
    obtain ⟨t167, A40, H⟩ := H
    replace H : (if t167 < 0 then (some true) else ((laws_toScoreS.f k l0).bind fun t168 => ((spec_ScoresRank.f k t168 a1).bind fun t171 => ((laws_toScoreS.f k l0).bind fun t172 => ((impl_ScoresRank.f k t172 a1).bind fun t175 => (if t175 = t171 then ((laws_toScoreS.f k l0).bind fun t176 => ((laws_eqScoreS.f k t172 t176).bind fun t179 => (if t179 = true then (some true) else (some false)))) else (some false))))))) = some r := H
    have A4 := Aside0.mk A40
    clear A40
    by_cases c5 : t167 < 0
    · rw [if_pos c5] at H
      have c5b0 : decide (t167 < 0) = true := decide_eq_true c5
      clear c5
      obtain rfl := Option.some.inj H
      go_enter Try.func4, Try.ntmps4
      go_wp2_with (first | ((with_reducible refine gate_callee (f := 14) rfl ?_); refine goesL_ (some 14) rfl rfl Try.func14 (by kernel_rfl) rfl #[.slice A0 l0.length c0, .int .i64 1048576] rfl (by (try simp only [List.map_toArray, List.map_cons, List.map_nil]); first | done | rfl | (simp only [List.length_drop, List.length_take]; rfl)) ?_; (with_reducible refine (laws_szScoreS.calls k _ _ l0 1048576 t167 _ ?side1 ?side2 A4.out).mono ?_); (case side1 => repeat (first | exact HR0.out | (with_reducible refine Kd.C_alloc ?_ _) | (with_reducible refine Kd.C_drewN ?_ _) | (with_reducible refine Kd.C_drew ?_))); (case side2 => exact HC0.out); rintro e w6 ⟨rfl, hb⟩; refine ⟨_, rfl, ?_⟩; have n0_ := Aside0.mk (below_step (by repeat (first | (with_reducible first | exact HB.out | apply below_alloc | apply pw_below_drewN | apply below_drew1) | exact HB.out | exact Below.refl _ _)) hb); clear HB; have HB := n0_; clear n0_; (try clear hb); (try clear hb2); (try clear hk); (try clear hi)))
      go_ret
      exact ⟨by first | rfl | (simp [errW_none, errW_some] <;> rfl) | (simp [*, errW_none, errW_some] <;> rfl), by repeat (first | (with_reducible first | exact HB.out | apply below_alloc | apply pw_below_drewN | apply below_drew1) | exact HB.out | exact Below.refl _ _)⟩
    · rw [if_neg c5] at H
      have c5b0 : decide (t167 < 0) = false := decide_eq_false c5
      clear c5
      replace H := Option.bind_eq_some_iff.mp H
      obtain ⟨t168, A70, H⟩ := H
      replace H : ((spec_ScoresRank.f k t168 a1).bind fun t171 => ((laws_toScoreS.f k l0).bind fun t172 => ((impl_ScoresRank.f k t172 a1).bind fun t175 => (if t175 = t171 then ((laws_toScoreS.f k l0).bind fun t176 => ((laws_eqScoreS.f k t172 t176).bind fun t179 => (if t179 = true then (some true) else (some false)))) else (some false))))) = some r := H
      have A7 := Aside0.mk A70
      clear A70
      replace H := Option.bind_eq_some_iff.mp H
      obtain ⟨t171, A80, H⟩ := H
      replace H : ((laws_toScoreS.f k l0).bind fun t172 => ((impl_ScoresRank.f k t172 a1).bind fun t175 => (if t175 = t171 then ((laws_toScoreS.f k l0).bind fun t176 => ((laws_eqScoreS.f k t172 t176).bind fun t179 => (if t179 = true then (some true) else (some false)))) else (some false)))) = some r := H
      have A8 := Aside0.mk A80
      clear A80
      replace H := Option.bind_eq_some_iff.mp H
      obtain ⟨t172, A90, H⟩ := H
      replace H : ((impl_ScoresRank.f k t172 a1).bind fun t175 => (if t175 = t171 then ((laws_toScoreS.f k l0).bind fun t176 => ((laws_eqScoreS.f k t172 t176).bind fun t179 => (if t179 = true then (some true) else (some false)))) else (some false))) = some r := H
      have A9 := Aside0.mk A90
      clear A90
      replace H := Option.bind_eq_some_iff.mp H
      obtain ⟨t175, A100, H⟩ := H
      replace H : (if t175 = t171 then ((laws_toScoreS.f k l0).bind fun t176 => ((laws_eqScoreS.f k t172 t176).bind fun t179 => (if t179 = true then (some true) else (some false)))) else (some false)) = some r := H
      have A10 := Aside0.mk A100
      clear A100
      by_cases c11 : t175 = t171
      · rw [if_pos c11] at H
        have c11b0 : (t175 == t171) = true := beq_iff_eq.mpr c11
        have c11b1 : (t175 != t171) = false := bne_eq_false_iff_eq.mpr c11
        clear c11
        replace H := Option.bind_eq_some_iff.mp H
        obtain ⟨t176, A120, H⟩ := H
        replace H : ((laws_eqScoreS.f k t172 t176).bind fun t179 => (if t179 = true then (some true) else (some false))) = some r := H
        have A12 := Aside0.mk A120
        clear A120
        replace H := Option.bind_eq_some_iff.mp H
        obtain ⟨t179, A130, H⟩ := H
        replace H : (if t179 = true then (some true) else (some false)) = some r := H
        have A13 := Aside0.mk A130
        clear A130
        by_cases c14 : t179 = true
        · subst c14
          have H1 : (some true) = some r := by rw [if_pos rfl] at H; exact H
          clear H
          have H := H1
          clear H1
          obtain rfl := Option.some.inj H
          go_enter Try.func4, Try.ntmps4
          go_wp2_with (first | ((with_reducible refine gate_callee (f := 14) rfl ?_); refine goesL_ (some 14) rfl rfl Try.func14 (by kernel_rfl) rfl #[.slice A0 l0.length c0, .int .i64 1048576] rfl (by (try simp only [List.map_toArray, List.map_cons, List.map_nil]); first | done | rfl | (simp only [List.length_drop, List.length_take]; rfl)) ?_; (with_reducible refine (laws_szScoreS.calls k _ _ l0 1048576 t167 _ ?side1 ?side2 A4.out).mono ?_); (case side1 => repeat (first | exact HR0.out | (with_reducible refine Kd.C_alloc ?_ _) | (with_reducible refine Kd.C_drewN ?_ _) | (with_reducible refine Kd.C_drew ?_))); (case side2 => exact HC0.out); rintro e w15 ⟨rfl, hb⟩; refine ⟨_, rfl, ?_⟩; have n0_ := Aside0.mk (below_step (by repeat (first | (with_reducible first | exact HB.out | apply below_alloc | apply pw_below_drewN | apply below_drew1) | exact HB.out | exact Below.refl _ _)) hb); clear HB; have HB := n0_; clear n0_; (try clear hb); (try clear hb2); (try clear hk); (try clear hi)) | ((with_reducible refine gate_callee (f := 16) rfl ?_); refine goesL_ (some 18) rfl rfl Try.func16 (by kernel_rfl) rfl #[.slice A0 l0.length c0] rfl (by (try simp only [List.map_toArray, List.map_cons, List.map_nil]); first | done | rfl | (simp only [List.length_drop, List.length_take]; rfl)) ?_; (with_reducible refine (laws_toScoreS.calls k _ _ l0 t168 _ ?side1 ?side2 A7.out).mono ?_); (case side1 => repeat (first | exact (Kd.C_below HR0.out HB.out) | (with_reducible refine Kd.C_alloc ?_ _) | (with_reducible refine Kd.C_drewN ?_ _) | (with_reducible refine Kd.C_drew ?_))); (case side2 => exact HC0.out); rintro e w16 ⟨v169, rfl, ho0, hb⟩; refine ⟨_, rfl, ?_⟩; have n0_ := Aside0.mk (Kd.R_lower ho0 (below_size (by repeat (first | (with_reducible first | exact HB.out | apply below_alloc | apply pw_below_drewN | apply below_drew1) | exact HB.out | exact Below.refl _ _)))); have n1_ := Aside0.mk (below_step (by repeat (first | (with_reducible first | exact HB.out | apply below_alloc | apply pw_below_drewN | apply below_drew1) | exact HB.out | exact Below.refl _ _)) hb); clear HB; have HO170 := n0_; have HB := n1_; clear n0_ n1_; (try clear hb); (try clear hb2); (try clear hk); (try clear hi); (try clear ho0); obtain ⟨Ao17, co17, eo17⟩ := Kd.R_slice HO170.out; subst eo17) | ((with_reducible refine gate_callee (f := 19) rfl ?_); refine goesL_ (some 20) rfl rfl Try.func19 (by kernel_rfl) rfl #[.slice Ao17 t168.length co17, .string a1] rfl (by (try simp only [List.map_toArray, List.map_cons, List.map_nil]); first | done | rfl | (simp only [List.length_drop, List.length_take]; rfl)) ?_; (with_reducible refine (spec_ScoresRank.calls k _ _ t168 a1 t171 _ ?side1 ?side2 A8.out).mono ?_); (case side1 => repeat (first | exact (Kd.R_reads' HO170.out).2.2 | (with_reducible refine Kd.C_alloc ?_ _) | (with_reducible refine Kd.C_drewN ?_ _) | (with_reducible refine Kd.C_drew ?_))); (case side2 => exact (Kd.R_reads' HO170.out).2.1); rintro e w18 ⟨rfl, hb⟩; refine ⟨_, rfl, ?_⟩; have n0_ := Aside0.mk (Kd.R_below (by (with_reducible repeat (first | apply Kd.R_alloc | apply Kd.R_drewN | apply Kd.R_drew)); exact HO170.out) hb); have n1_ := Aside0.mk (below_step (by repeat (first | (with_reducible first | exact HB.out | apply below_alloc | apply pw_below_drewN | apply below_drew1) | exact HB.out | exact Below.refl _ _)) hb); clear HO170; clear HB; have HO170 := n0_; have HB := n1_; clear n0_ n1_; (try clear hb); (try clear hb2); (try clear hk); (try clear hi)) | ((with_reducible refine gate_callee (f := 16) rfl ?_); refine goesL_ (some 22) rfl rfl Try.func16 (by kernel_rfl) rfl #[.slice A0 l0.length c0] rfl (by (try simp only [List.map_toArray, List.map_cons, List.map_nil]); first | done | rfl | (simp only [List.length_drop, List.length_take]; rfl)) ?_; (with_reducible refine (laws_toScoreS.calls k _ _ l0 t172 _ ?side1 ?side2 A9.out).mono ?_); (case side1 => repeat (first | exact (Kd.C_below HR0.out HB.out) | (with_reducible refine Kd.C_alloc ?_ _) | (with_reducible refine Kd.C_drewN ?_ _) | (with_reducible refine Kd.C_drew ?_))); (case side2 => exact HC0.out); rintro e w19 ⟨v173, rfl, ho0, hb⟩; refine ⟨_, rfl, ?_⟩; have n0_ := Aside0.mk (Kd.R_elder' (by (with_reducible repeat (first | apply Kd.R_alloc | apply Kd.R_drewN | apply Kd.R_drew)); exact HO170.out) (Kd.R_base ho0) hb); have n1_ := Aside0.mk (Kd.R_lower (Kd.R_new' ho0 (Kd.R_lt (by (with_reducible repeat (first | apply Kd.R_alloc | apply Kd.R_drewN | apply Kd.R_drew)); exact HO170.out))) (below_size (by repeat (first | (with_reducible first | exact HB.out | apply below_alloc | apply pw_below_drewN | apply below_drew1) | exact HB.out | exact Below.refl _ _)))); have n2_ := Aside0.mk (below_step (by repeat (first | (with_reducible first | exact HB.out | apply below_alloc | apply pw_below_drewN | apply below_drew1) | exact HB.out | exact Below.refl _ _)) hb); clear HO170; clear HB; have HO170 := n0_; have HO174 := n1_; have HB := n2_; clear n0_ n1_ n2_; (try clear hb); (try clear hb2); (try clear hk); (try clear hi); (try clear ho0); obtain ⟨Ao20, co20, eo20⟩ := Kd.R_slice HO174.out; subst eo20) | ((with_reducible refine gate_callee (f := 20) rfl ?_); refine goesL_ (some 25) rfl rfl Try.func20 (by kernel_rfl) rfl #[.slice Ao20 t172.length co20, .string a1] rfl (by (try simp only [List.map_toArray, List.map_cons, List.map_nil]); first | done | rfl | (simp only [List.length_drop, List.length_take]; rfl)) ?_; (with_reducible refine (impl_ScoresRank.calls k _ _ t172 a1 t175 _ ?side1 ?side2 A10.out).mono ?_); (case side1 => repeat (first | exact (Kd.R_reads' HO174.out).2.2 | (with_reducible refine Kd.C_alloc ?_ _) | (with_reducible refine Kd.C_drewN ?_ _) | (with_reducible refine Kd.C_drew ?_))); (case side2 => exact (Kd.R_reads' HO174.out).2.1); rintro e w21 ⟨rfl, hb⟩; refine ⟨_, rfl, ?_⟩; have n0_ := Aside0.mk (Kd.R_below (by (with_reducible repeat (first | apply Kd.R_alloc | apply Kd.R_drewN | apply Kd.R_drew)); exact HO170.out) hb); have n1_ := Aside0.mk (Kd.R_below (by (with_reducible repeat (first | apply Kd.R_alloc | apply Kd.R_drewN | apply Kd.R_drew)); exact HO174.out) hb); have n2_ := Aside0.mk (below_step (by repeat (first | (with_reducible first | exact HB.out | apply below_alloc | apply pw_below_drewN | apply below_drew1) | exact HB.out | exact Below.refl _ _)) hb); clear HO170; clear HO174; clear HB; have HO170 := n0_; have HO174 := n1_; have HB := n2_; clear n0_ n1_ n2_; (try clear hb); (try clear hb2); (try clear hk); (try clear hi)) | ((with_reducible refine gate_callee (f := 16) rfl ?_); refine goesL_ (some 31) rfl rfl Try.func16 (by kernel_rfl) rfl #[.slice A0 l0.length c0] rfl (by (try simp only [List.map_toArray, List.map_cons, List.map_nil]); first | done | rfl | (simp only [List.length_drop, List.length_take]; rfl)) ?_; (with_reducible refine (laws_toScoreS.calls k _ _ l0 t176 _ ?side1 ?side2 A12.out).mono ?_); (case side1 => repeat (first | exact (Kd.C_below HR0.out HB.out) | (with_reducible refine Kd.C_alloc ?_ _) | (with_reducible refine Kd.C_drewN ?_ _) | (with_reducible refine Kd.C_drew ?_))); (case side2 => exact HC0.out); rintro e w22 ⟨v177, rfl, ho0, hb⟩; refine ⟨_, rfl, ?_⟩; have n0_ := Aside0.mk (Kd.R_elder' (by (with_reducible repeat (first | apply Kd.R_alloc | apply Kd.R_drewN | apply Kd.R_drew)); exact HO170.out) (Kd.R_base ho0) hb); have n1_ := Aside0.mk (Kd.R_elder' (by (with_reducible repeat (first | apply Kd.R_alloc | apply Kd.R_drewN | apply Kd.R_drew)); exact HO174.out) (Kd.R_base ho0) hb); have n2_ := Aside0.mk (Kd.R_lower (Kd.R_new' (Kd.R_new' ho0 (Kd.R_lt (by (with_reducible repeat (first | apply Kd.R_alloc | apply Kd.R_drewN | apply Kd.R_drew)); exact HO170.out))) (Kd.R_lt (by (with_reducible repeat (first | apply Kd.R_alloc | apply Kd.R_drewN | apply Kd.R_drew)); exact HO174.out))) (below_size (by repeat (first | (with_reducible first | exact HB.out | apply below_alloc | apply pw_below_drewN | apply below_drew1) | exact HB.out | exact Below.refl _ _)))); have n3_ := Aside0.mk (below_step (by repeat (first | (with_reducible first | exact HB.out | apply below_alloc | apply pw_below_drewN | apply below_drew1) | exact HB.out | exact Below.refl _ _)) hb); clear HO170; clear HO174; clear HB; have HO170 := n0_; have HO174 := n1_; have HO178 := n2_; have HB := n3_; clear n0_ n1_ n2_ n3_; (try clear hb); (try clear hb2); (try clear hk); (try clear hi); (try clear ho0); obtain ⟨Ao23, co23, eo23⟩ := Kd.R_slice HO178.out; subst eo23) | ((with_reducible refine gate_callee (f := 18) rfl ?_); refine goesL_ (some 32) rfl rfl Try.func18 (by kernel_rfl) rfl #[.slice Ao20 t172.length co20, .slice Ao23 t176.length co23] rfl (by (try simp only [List.map_toArray, List.map_cons, List.map_nil]); first | done | rfl | (simp only [List.length_drop, List.length_take]; rfl)) ?_; (with_reducible refine (laws_eqScoreS.calls k _ _ t172 _ _ t176 true _ ?side1 ?side2 ?side3 ?side4 A13.out).mono ?_); (case side1 => repeat (first | exact (Kd.R_reads' HO174.out).2.2 | (with_reducible refine Kd.C_alloc ?_ _) | (with_reducible refine Kd.C_drewN ?_ _) | (with_reducible refine Kd.C_drew ?_))); (case side2 => exact (Kd.R_reads' HO174.out).2.1); (case side3 => repeat (first | exact (Kd.R_reads' HO178.out).2.2 | (with_reducible refine Kd.C_alloc ?_ _) | (with_reducible refine Kd.C_drewN ?_ _) | (with_reducible refine Kd.C_drew ?_))); (case side4 => exact (Kd.R_reads' HO178.out).2.1); rintro e w24 ⟨rfl, hb⟩; refine ⟨_, rfl, ?_⟩; have n0_ := Aside0.mk (Kd.R_below (by (with_reducible repeat (first | apply Kd.R_alloc | apply Kd.R_drewN | apply Kd.R_drew)); exact HO170.out) hb); have n1_ := Aside0.mk (Kd.R_below (by (with_reducible repeat (first | apply Kd.R_alloc | apply Kd.R_drewN | apply Kd.R_drew)); exact HO174.out) hb); have n2_ := Aside0.mk (Kd.R_below (by (with_reducible repeat (first | apply Kd.R_alloc | apply Kd.R_drewN | apply Kd.R_drew)); exact HO178.out) hb); have n3_ := Aside0.mk (below_step (by repeat (first | (with_reducible first | exact HB.out | apply below_alloc | apply pw_below_drewN | apply below_drew1) | exact HB.out | exact Below.refl _ _)) hb); clear HO170; clear HO174; clear HO178; clear HB; have HO170 := n0_; have HO174 := n1_; have HO178 := n2_; have HB := n3_; clear n0_ n1_ n2_ n3_; (try clear hb); (try clear hb2); (try clear hk); (try clear hi)))
          go_ret
          exact ⟨by first | rfl | (simp [errW_none, errW_some] <;> rfl) | (simp [*, errW_none, errW_some] <;> rfl), by repeat (first | (with_reducible first | exact HB.out | apply below_alloc | apply pw_below_drewN | apply below_drew1) | exact HB.out | exact Below.refl _ _)⟩
        · replace c14 := Bool.eq_false_iff.mpr c14
          subst c14
          have H1 : (some false) = some r := by rw [if_neg (show ¬ (false = true) by decide)] at H; exact H
          clear H
          have H := H1
          clear H1
          obtain rfl := Option.some.inj H
          go_enter Try.func4, Try.ntmps4
          go_wp2_with (first | ((with_reducible refine gate_callee (f := 14) rfl ?_); refine goesL_ (some 14) rfl rfl Try.func14 (by kernel_rfl) rfl #[.slice A0 l0.length c0, .int .i64 1048576] rfl (by (try simp only [List.map_toArray, List.map_cons, List.map_nil]); first | done | rfl | (simp only [List.length_drop, List.length_take]; rfl)) ?_; (with_reducible refine (laws_szScoreS.calls k _ _ l0 1048576 t167 _ ?side1 ?side2 A4.out).mono ?_); (case side1 => repeat (first | exact HR0.out | (with_reducible refine Kd.C_alloc ?_ _) | (with_reducible refine Kd.C_drewN ?_ _) | (with_reducible refine Kd.C_drew ?_))); (case side2 => exact HC0.out); rintro e w25 ⟨rfl, hb⟩; refine ⟨_, rfl, ?_⟩; have n0_ := Aside0.mk (below_step (by repeat (first | (with_reducible first | exact HB.out | apply below_alloc | apply pw_below_drewN | apply below_drew1) | exact HB.out | exact Below.refl _ _)) hb); clear HB; have HB := n0_; clear n0_; (try clear hb); (try clear hb2); (try clear hk); (try clear hi)) | ((with_reducible refine gate_callee (f := 16) rfl ?_); refine goesL_ (some 18) rfl rfl Try.func16 (by kernel_rfl) rfl #[.slice A0 l0.length c0] rfl (by (try simp only [List.map_toArray, List.map_cons, List.map_nil]); first | done | rfl | (simp only [List.length_drop, List.length_take]; rfl)) ?_; (with_reducible refine (laws_toScoreS.calls k _ _ l0 t168 _ ?side1 ?side2 A7.out).mono ?_); (case side1 => repeat (first | exact (Kd.C_below HR0.out HB.out) | (with_reducible refine Kd.C_alloc ?_ _) | (with_reducible refine Kd.C_drewN ?_ _) | (with_reducible refine Kd.C_drew ?_))); (case side2 => exact HC0.out); rintro e w26 ⟨v169, rfl, ho0, hb⟩; refine ⟨_, rfl, ?_⟩; have n0_ := Aside0.mk (Kd.R_lower ho0 (below_size (by repeat (first | (with_reducible first | exact HB.out | apply below_alloc | apply pw_below_drewN | apply below_drew1) | exact HB.out | exact Below.refl _ _)))); have n1_ := Aside0.mk (below_step (by repeat (first | (with_reducible first | exact HB.out | apply below_alloc | apply pw_below_drewN | apply below_drew1) | exact HB.out | exact Below.refl _ _)) hb); clear HB; have HO170 := n0_; have HB := n1_; clear n0_ n1_; (try clear hb); (try clear hb2); (try clear hk); (try clear hi); (try clear ho0); obtain ⟨Ao27, co27, eo27⟩ := Kd.R_slice HO170.out; subst eo27) | ((with_reducible refine gate_callee (f := 19) rfl ?_); refine goesL_ (some 20) rfl rfl Try.func19 (by kernel_rfl) rfl #[.slice Ao27 t168.length co27, .string a1] rfl (by (try simp only [List.map_toArray, List.map_cons, List.map_nil]); first | done | rfl | (simp only [List.length_drop, List.length_take]; rfl)) ?_; (with_reducible refine (spec_ScoresRank.calls k _ _ t168 a1 t171 _ ?side1 ?side2 A8.out).mono ?_); (case side1 => repeat (first | exact (Kd.R_reads' HO170.out).2.2 | (with_reducible refine Kd.C_alloc ?_ _) | (with_reducible refine Kd.C_drewN ?_ _) | (with_reducible refine Kd.C_drew ?_))); (case side2 => exact (Kd.R_reads' HO170.out).2.1); rintro e w28 ⟨rfl, hb⟩; refine ⟨_, rfl, ?_⟩; have n0_ := Aside0.mk (Kd.R_below (by (with_reducible repeat (first | apply Kd.R_alloc | apply Kd.R_drewN | apply Kd.R_drew)); exact HO170.out) hb); have n1_ := Aside0.mk (below_step (by repeat (first | (with_reducible first | exact HB.out | apply below_alloc | apply pw_below_drewN | apply below_drew1) | exact HB.out | exact Below.refl _ _)) hb); clear HO170; clear HB; have HO170 := n0_; have HB := n1_; clear n0_ n1_; (try clear hb); (try clear hb2); (try clear hk); (try clear hi)) | ((with_reducible refine gate_callee (f := 16) rfl ?_); refine goesL_ (some 22) rfl rfl Try.func16 (by kernel_rfl) rfl #[.slice A0 l0.length c0] rfl (by (try simp only [List.map_toArray, List.map_cons, List.map_nil]); first | done | rfl | (simp only [List.length_drop, List.length_take]; rfl)) ?_; (with_reducible refine (laws_toScoreS.calls k _ _ l0 t172 _ ?side1 ?side2 A9.out).mono ?_); (case side1 => repeat (first | exact (Kd.C_below HR0.out HB.out) | (with_reducible refine Kd.C_alloc ?_ _) | (with_reducible refine Kd.C_drewN ?_ _) | (with_reducible refine Kd.C_drew ?_))); (case side2 => exact HC0.out); rintro e w29 ⟨v173, rfl, ho0, hb⟩; refine ⟨_, rfl, ?_⟩; have n0_ := Aside0.mk (Kd.R_elder' (by (with_reducible repeat (first | apply Kd.R_alloc | apply Kd.R_drewN | apply Kd.R_drew)); exact HO170.out) (Kd.R_base ho0) hb); have n1_ := Aside0.mk (Kd.R_lower (Kd.R_new' ho0 (Kd.R_lt (by (with_reducible repeat (first | apply Kd.R_alloc | apply Kd.R_drewN | apply Kd.R_drew)); exact HO170.out))) (below_size (by repeat (first | (with_reducible first | exact HB.out | apply below_alloc | apply pw_below_drewN | apply below_drew1) | exact HB.out | exact Below.refl _ _)))); have n2_ := Aside0.mk (below_step (by repeat (first | (with_reducible first | exact HB.out | apply below_alloc | apply pw_below_drewN | apply below_drew1) | exact HB.out | exact Below.refl _ _)) hb); clear HO170; clear HB; have HO170 := n0_; have HO174 := n1_; have HB := n2_; clear n0_ n1_ n2_; (try clear hb); (try clear hb2); (try clear hk); (try clear hi); (try clear ho0); obtain ⟨Ao30, co30, eo30⟩ := Kd.R_slice HO174.out; subst eo30) | ((with_reducible refine gate_callee (f := 20) rfl ?_); refine goesL_ (some 25) rfl rfl Try.func20 (by kernel_rfl) rfl #[.slice Ao30 t172.length co30, .string a1] rfl (by (try simp only [List.map_toArray, List.map_cons, List.map_nil]); first | done | rfl | (simp only [List.length_drop, List.length_take]; rfl)) ?_; (with_reducible refine (impl_ScoresRank.calls k _ _ t172 a1 t175 _ ?side1 ?side2 A10.out).mono ?_); (case side1 => repeat (first | exact (Kd.R_reads' HO174.out).2.2 | (with_reducible refine Kd.C_alloc ?_ _) | (with_reducible refine Kd.C_drewN ?_ _) | (with_reducible refine Kd.C_drew ?_))); (case side2 => exact (Kd.R_reads' HO174.out).2.1); rintro e w31 ⟨rfl, hb⟩; refine ⟨_, rfl, ?_⟩; have n0_ := Aside0.mk (Kd.R_below (by (with_reducible repeat (first | apply Kd.R_alloc | apply Kd.R_drewN | apply Kd.R_drew)); exact HO170.out) hb); have n1_ := Aside0.mk (Kd.R_below (by (with_reducible repeat (first | apply Kd.R_alloc | apply Kd.R_drewN | apply Kd.R_drew)); exact HO174.out) hb); have n2_ := Aside0.mk (below_step (by repeat (first | (with_reducible first | exact HB.out | apply below_alloc | apply pw_below_drewN | apply below_drew1) | exact HB.out | exact Below.refl _ _)) hb); clear HO170; clear HO174; clear HB; have HO170 := n0_; have HO174 := n1_; have HB := n2_; clear n0_ n1_ n2_; (try clear hb); (try clear hb2); (try clear hk); (try clear hi)) | ((with_reducible refine gate_callee (f := 16) rfl ?_); refine goesL_ (some 31) rfl rfl Try.func16 (by kernel_rfl) rfl #[.slice A0 l0.length c0] rfl (by (try simp only [List.map_toArray, List.map_cons, List.map_nil]); first | done | rfl | (simp only [List.length_drop, List.length_take]; rfl)) ?_; (with_reducible refine (laws_toScoreS.calls k _ _ l0 t176 _ ?side1 ?side2 A12.out).mono ?_); (case side1 => repeat (first | exact (Kd.C_below HR0.out HB.out) | (with_reducible refine Kd.C_alloc ?_ _) | (with_reducible refine Kd.C_drewN ?_ _) | (with_reducible refine Kd.C_drew ?_))); (case side2 => exact HC0.out); rintro e w32 ⟨v177, rfl, ho0, hb⟩; refine ⟨_, rfl, ?_⟩; have n0_ := Aside0.mk (Kd.R_elder' (by (with_reducible repeat (first | apply Kd.R_alloc | apply Kd.R_drewN | apply Kd.R_drew)); exact HO170.out) (Kd.R_base ho0) hb); have n1_ := Aside0.mk (Kd.R_elder' (by (with_reducible repeat (first | apply Kd.R_alloc | apply Kd.R_drewN | apply Kd.R_drew)); exact HO174.out) (Kd.R_base ho0) hb); have n2_ := Aside0.mk (Kd.R_lower (Kd.R_new' (Kd.R_new' ho0 (Kd.R_lt (by (with_reducible repeat (first | apply Kd.R_alloc | apply Kd.R_drewN | apply Kd.R_drew)); exact HO170.out))) (Kd.R_lt (by (with_reducible repeat (first | apply Kd.R_alloc | apply Kd.R_drewN | apply Kd.R_drew)); exact HO174.out))) (below_size (by repeat (first | (with_reducible first | exact HB.out | apply below_alloc | apply pw_below_drewN | apply below_drew1) | exact HB.out | exact Below.refl _ _)))); have n3_ := Aside0.mk (below_step (by repeat (first | (with_reducible first | exact HB.out | apply below_alloc | apply pw_below_drewN | apply below_drew1) | exact HB.out | exact Below.refl _ _)) hb); clear HO170; clear HO174; clear HB; have HO170 := n0_; have HO174 := n1_; have HO178 := n2_; have HB := n3_; clear n0_ n1_ n2_ n3_; (try clear hb); (try clear hb2); (try clear hk); (try clear hi); (try clear ho0); obtain ⟨Ao33, co33, eo33⟩ := Kd.R_slice HO178.out; subst eo33) | ((with_reducible refine gate_callee (f := 18) rfl ?_); refine goesL_ (some 32) rfl rfl Try.func18 (by kernel_rfl) rfl #[.slice Ao30 t172.length co30, .slice Ao33 t176.length co33] rfl (by (try simp only [List.map_toArray, List.map_cons, List.map_nil]); first | done | rfl | (simp only [List.length_drop, List.length_take]; rfl)) ?_; (with_reducible refine (laws_eqScoreS.calls k _ _ t172 _ _ t176 false _ ?side1 ?side2 ?side3 ?side4 A13.out).mono ?_); (case side1 => repeat (first | exact (Kd.R_reads' HO174.out).2.2 | (with_reducible refine Kd.C_alloc ?_ _) | (with_reducible refine Kd.C_drewN ?_ _) | (with_reducible refine Kd.C_drew ?_))); (case side2 => exact (Kd.R_reads' HO174.out).2.1); (case side3 => repeat (first | exact (Kd.R_reads' HO178.out).2.2 | (with_reducible refine Kd.C_alloc ?_ _) | (with_reducible refine Kd.C_drewN ?_ _) | (with_reducible refine Kd.C_drew ?_))); (case side4 => exact (Kd.R_reads' HO178.out).2.1); rintro e w34 ⟨rfl, hb⟩; refine ⟨_, rfl, ?_⟩; have n0_ := Aside0.mk (Kd.R_below (by (with_reducible repeat (first | apply Kd.R_alloc | apply Kd.R_drewN | apply Kd.R_drew)); exact HO170.out) hb); have n1_ := Aside0.mk (Kd.R_below (by (with_reducible repeat (first | apply Kd.R_alloc | apply Kd.R_drewN | apply Kd.R_drew)); exact HO174.out) hb); have n2_ := Aside0.mk (Kd.R_below (by (with_reducible repeat (first | apply Kd.R_alloc | apply Kd.R_drewN | apply Kd.R_drew)); exact HO178.out) hb); have n3_ := Aside0.mk (below_step (by repeat (first | (with_reducible first | exact HB.out | apply below_alloc | apply pw_below_drewN | apply below_drew1) | exact HB.out | exact Below.refl _ _)) hb); clear HO170; clear HO174; clear HO178; clear HB; have HO170 := n0_; have HO174 := n1_; have HO178 := n2_; have HB := n3_; clear n0_ n1_ n2_ n3_; (try clear hb); (try clear hb2); (try clear hk); (try clear hi)))
          go_ret
          exact ⟨by first | rfl | (simp [errW_none, errW_some] <;> rfl) | (simp [*, errW_none, errW_some] <;> rfl), by repeat (first | (with_reducible first | exact HB.out | apply below_alloc | apply pw_below_drewN | apply below_drew1) | exact HB.out | exact Below.refl _ _)⟩
      · rw [if_neg c11] at H
        have c11b0 : (t175 == t171) = false := beq_eq_false_iff_ne.mpr c11
        have c11b1 : (t175 != t171) = true := bne_iff_ne.mpr c11
        obtain rfl := Option.some.inj H
        go_enter Try.func4, Try.ntmps4
        go_wp2_with (first | ((with_reducible refine gate_callee (f := 14) rfl ?_); refine goesL_ (some 14) rfl rfl Try.func14 (by kernel_rfl) rfl #[.slice A0 l0.length c0, .int .i64 1048576] rfl (by (try simp only [List.map_toArray, List.map_cons, List.map_nil]); first | done | rfl | (simp only [List.length_drop, List.length_take]; rfl)) ?_; (with_reducible refine (laws_szScoreS.calls k _ _ l0 1048576 t167 _ ?side1 ?side2 A4.out).mono ?_); (case side1 => repeat (first | exact HR0.out | (with_reducible refine Kd.C_alloc ?_ _) | (with_reducible refine Kd.C_drewN ?_ _) | (with_reducible refine Kd.C_drew ?_))); (case side2 => exact HC0.out); rintro e w35 ⟨rfl, hb⟩; refine ⟨_, rfl, ?_⟩; have n0_ := Aside0.mk (below_step (by repeat (first | (with_reducible first | exact HB.out | apply below_alloc | apply pw_below_drewN | apply below_drew1) | exact HB.out | exact Below.refl _ _)) hb); clear HB; have HB := n0_; clear n0_; (try clear hb); (try clear hb2); (try clear hk); (try clear hi)) | ((with_reducible refine gate_callee (f := 16) rfl ?_); refine goesL_ (some 18) rfl rfl Try.func16 (by kernel_rfl) rfl #[.slice A0 l0.length c0] rfl (by (try simp only [List.map_toArray, List.map_cons, List.map_nil]); first | done | rfl | (simp only [List.length_drop, List.length_take]; rfl)) ?_; (with_reducible refine (laws_toScoreS.calls k _ _ l0 t168 _ ?side1 ?side2 A7.out).mono ?_); (case side1 => repeat (first | exact (Kd.C_below HR0.out HB.out) | (with_reducible refine Kd.C_alloc ?_ _) | (with_reducible refine Kd.C_drewN ?_ _) | (with_reducible refine Kd.C_drew ?_))); (case side2 => exact HC0.out); rintro e w36 ⟨v169, rfl, ho0, hb⟩; refine ⟨_, rfl, ?_⟩; have n0_ := Aside0.mk (Kd.R_lower ho0 (below_size (by repeat (first | (with_reducible first | exact HB.out | apply below_alloc | apply pw_below_drewN | apply below_drew1) | exact HB.out | exact Below.refl _ _)))); have n1_ := Aside0.mk (below_step (by repeat (first | (with_reducible first | exact HB.out | apply below_alloc | apply pw_below_drewN | apply below_drew1) | exact HB.out | exact Below.refl _ _)) hb); clear HB; have HO170 := n0_; have HB := n1_; clear n0_ n1_; (try clear hb); (try clear hb2); (try clear hk); (try clear hi); (try clear ho0); obtain ⟨Ao37, co37, eo37⟩ := Kd.R_slice HO170.out; subst eo37) | ((with_reducible refine gate_callee (f := 19) rfl ?_); refine goesL_ (some 20) rfl rfl Try.func19 (by kernel_rfl) rfl #[.slice Ao37 t168.length co37, .string a1] rfl (by (try simp only [List.map_toArray, List.map_cons, List.map_nil]); first | done | rfl | (simp only [List.length_drop, List.length_take]; rfl)) ?_; (with_reducible refine (spec_ScoresRank.calls k _ _ t168 a1 t171 _ ?side1 ?side2 A8.out).mono ?_); (case side1 => repeat (first | exact (Kd.R_reads' HO170.out).2.2 | (with_reducible refine Kd.C_alloc ?_ _) | (with_reducible refine Kd.C_drewN ?_ _) | (with_reducible refine Kd.C_drew ?_))); (case side2 => exact (Kd.R_reads' HO170.out).2.1); rintro e w38 ⟨rfl, hb⟩; refine ⟨_, rfl, ?_⟩; have n0_ := Aside0.mk (Kd.R_below (by (with_reducible repeat (first | apply Kd.R_alloc | apply Kd.R_drewN | apply Kd.R_drew)); exact HO170.out) hb); have n1_ := Aside0.mk (below_step (by repeat (first | (with_reducible first | exact HB.out | apply below_alloc | apply pw_below_drewN | apply below_drew1) | exact HB.out | exact Below.refl _ _)) hb); clear HO170; clear HB; have HO170 := n0_; have HB := n1_; clear n0_ n1_; (try clear hb); (try clear hb2); (try clear hk); (try clear hi)) | ((with_reducible refine gate_callee (f := 16) rfl ?_); refine goesL_ (some 22) rfl rfl Try.func16 (by kernel_rfl) rfl #[.slice A0 l0.length c0] rfl (by (try simp only [List.map_toArray, List.map_cons, List.map_nil]); first | done | rfl | (simp only [List.length_drop, List.length_take]; rfl)) ?_; (with_reducible refine (laws_toScoreS.calls k _ _ l0 t172 _ ?side1 ?side2 A9.out).mono ?_); (case side1 => repeat (first | exact (Kd.C_below HR0.out HB.out) | (with_reducible refine Kd.C_alloc ?_ _) | (with_reducible refine Kd.C_drewN ?_ _) | (with_reducible refine Kd.C_drew ?_))); (case side2 => exact HC0.out); rintro e w39 ⟨v173, rfl, ho0, hb⟩; refine ⟨_, rfl, ?_⟩; have n0_ := Aside0.mk (Kd.R_elder' (by (with_reducible repeat (first | apply Kd.R_alloc | apply Kd.R_drewN | apply Kd.R_drew)); exact HO170.out) (Kd.R_base ho0) hb); have n1_ := Aside0.mk (Kd.R_lower (Kd.R_new' ho0 (Kd.R_lt (by (with_reducible repeat (first | apply Kd.R_alloc | apply Kd.R_drewN | apply Kd.R_drew)); exact HO170.out))) (below_size (by repeat (first | (with_reducible first | exact HB.out | apply below_alloc | apply pw_below_drewN | apply below_drew1) | exact HB.out | exact Below.refl _ _)))); have n2_ := Aside0.mk (below_step (by repeat (first | (with_reducible first | exact HB.out | apply below_alloc | apply pw_below_drewN | apply below_drew1) | exact HB.out | exact Below.refl _ _)) hb); clear HO170; clear HB; have HO170 := n0_; have HO174 := n1_; have HB := n2_; clear n0_ n1_ n2_; (try clear hb); (try clear hb2); (try clear hk); (try clear hi); (try clear ho0); obtain ⟨Ao40, co40, eo40⟩ := Kd.R_slice HO174.out; subst eo40) | ((with_reducible refine gate_callee (f := 20) rfl ?_); refine goesL_ (some 25) rfl rfl Try.func20 (by kernel_rfl) rfl #[.slice Ao40 t172.length co40, .string a1] rfl (by (try simp only [List.map_toArray, List.map_cons, List.map_nil]); first | done | rfl | (simp only [List.length_drop, List.length_take]; rfl)) ?_; (with_reducible refine (impl_ScoresRank.calls k _ _ t172 a1 t175 _ ?side1 ?side2 A10.out).mono ?_); (case side1 => repeat (first | exact (Kd.R_reads' HO174.out).2.2 | (with_reducible refine Kd.C_alloc ?_ _) | (with_reducible refine Kd.C_drewN ?_ _) | (with_reducible refine Kd.C_drew ?_))); (case side2 => exact (Kd.R_reads' HO174.out).2.1); rintro e w41 ⟨rfl, hb⟩; refine ⟨_, rfl, ?_⟩; have n0_ := Aside0.mk (Kd.R_below (by (with_reducible repeat (first | apply Kd.R_alloc | apply Kd.R_drewN | apply Kd.R_drew)); exact HO170.out) hb); have n1_ := Aside0.mk (Kd.R_below (by (with_reducible repeat (first | apply Kd.R_alloc | apply Kd.R_drewN | apply Kd.R_drew)); exact HO174.out) hb); have n2_ := Aside0.mk (below_step (by repeat (first | (with_reducible first | exact HB.out | apply below_alloc | apply pw_below_drewN | apply below_drew1) | exact HB.out | exact Below.refl _ _)) hb); clear HO170; clear HO174; clear HB; have HO170 := n0_; have HO174 := n1_; have HB := n2_; clear n0_ n1_ n2_; (try clear hb); (try clear hb2); (try clear hk); (try clear hi)))
        go_ret
        exact ⟨by first | rfl | (simp [errW_none, errW_some] <;> rfl) | (simp [*, errW_none, errW_some] <;> rfl), by repeat (first | (with_reducible first | exact HB.out | apply below_alloc | apply pw_below_drewN | apply below_drew1) | exact HB.out | exact Below.refl _ _)⟩

end Go.Proofs.Ytcpnekdhdmncfaa.P
/- Plain lemmas: the ends of a stretch by two places, on both sides. -/
namespace Go.Proofs.Ytcpnekdhdmncfaa.Q
open Go.RowKit Go.Proofs.YtcpnekdhdmncfaaW.PrintWords Go.Proofs.YtcpnekdhdmncfaaW.PrintLast Go.Proofs.YtcpnekdhdmncfaaW.PrintMore Go.Proofs.Ytcpnekdhdmncfaa.P

/-- From one place to ahead of another one, in a list of n. -/
def endsM (n : Nat) (a b : Int) : Int × Int :=
  let a1 := if a < 0 then a + n else a
  let b1 := if b < 0 then b + n else b
  let a2 := if a1 < 0 then 0 else a1
  let b2 := if b1 ≥ n then (n : Int) - 1 else b1
  if a2 > b2 then (0, 0) else (a2, b2 + 1)
theorem endsM_bd (n : Nat) (a b : Int) : 0 ≤ (endsM n a b).1 ∧ (endsM n a b).1 ≤ (endsM n a b).2 ∧ (endsM n a b).2 ≤ n := by
  unfold endsM
  dsimp only
  split <;> (try dsimp only) <;> (repeat' split) <;> omega
theorem l2Ends_ev (n : Nat) (hn : n ≤ 1048576) (a b : Int) (ha : placeB a = true) (hb : placeB b = true) : Ev (fun k => spec_l2Ends.f k (n : Int) a b) (endsM n a b) := by
  have ha := place_bd ha
  have hb := place_bd hb
  have e1 : wrap64 (a + (n : Int)) = a + n := wrap_id (by omega) (by omega)
  have e2 : wrap64 (b + (n : Int)) = b + n := wrap_id (by omega) (by omega)
  have e3 : wrap64 ((n : Int) - 1) = n - 1 := wrap_id (by omega) (by omega)
  have j2 : ∀ x1 x2 : Int, 0 ≤ x1 → -1000000000 ≤ x2 → x2 ≤ 1001048576 → Ev (fun k => spec_l2Ends.j2 k (n : Int) x1 x2) (if x1 > (if x2 ≥ n then (n : Int) - 1 else x2) then ((0, 0) : Int × Int) else (x1, (if x2 ≥ n then (n : Int) - 1 else x2) + 1)) := by
    intro x1 x2 h1 h2 h3
    refine Ev.step (g := fun k => spec_l2Ends.j2 k _ _ _) (fun k => by rw [spec_l2Ends.j2]) ?_
    rw [e3, wrap_id (x := (n : Int) - 1 + 1) (by omega) (by omega), wrap_id (x := x2 + 1) (by omega) (by omega)]
    refine both (fun h => ?_) (fun h => ?_)
    · rw [if_pos h]
      exact both (fun h' => ret' (if_pos h').symm) (fun h' => ret' (if_neg h').symm)
    · rw [if_neg h]
      exact both (fun h' => ret' (if_pos h').symm) (fun h' => ret' (if_neg h').symm)
  have j1 : ∀ x1 x2 : Int, -1000000000 ≤ x2 → x2 ≤ 1001048576 → Ev (fun k => spec_l2Ends.j1 k (n : Int) x1 x2) (if (if x1 < 0 then 0 else x1) > (if x2 ≥ n then (n : Int) - 1 else x2) then ((0, 0) : Int × Int) else ((if x1 < 0 then 0 else x1), (if x2 ≥ n then (n : Int) - 1 else x2) + 1)) := by
    intro x1 x2 h2 h3
    refine Ev.step (g := fun k => spec_l2Ends.j1 k _ _ _) (fun k => by rw [spec_l2Ends.j1]) ?_
    refine both (fun h => ?_) (fun h => ?_)
    · rw [if_pos h]; exact j2 0 x2 (by omega) h2 h3
    · rw [if_neg h]; exact j2 x1 x2 (by omega) h2 h3
  have j0 : ∀ x1 : Int, Ev (fun k => spec_l2Ends.j0 k (n : Int) x1 b) (if (if x1 < 0 then 0 else x1) > (if (if b < 0 then b + n else b) ≥ n then (n : Int) - 1 else (if b < 0 then b + n else b)) then ((0, 0) : Int × Int) else ((if x1 < 0 then 0 else x1), (if (if b < 0 then b + n else b) ≥ n then (n : Int) - 1 else (if b < 0 then b + n else b)) + 1)) := by
    intro x1
    refine Ev.step (g := fun k => spec_l2Ends.j0 k _ _ _) (fun k => by rw [spec_l2Ends.j0]) ?_
    rw [e2]
    refine both (fun h => ?_) (fun h => ?_)
    · rw [if_pos h]; exact j1 x1 _ (by omega) (by omega)
    · rw [if_neg h]; exact j1 x1 _ (by omega) (by omega)
  unfold spec_l2Ends.f endsM
  rw [e1]
  refine both (fun h => ?_) (fun h => ?_)
  · rw [if_pos h]; exact j0 _
  · rw [if_neg h]; exact j0 _
def spanM (n : Nat) (a b : Int) : Int × Int := if placeB a = true ∧ placeB b = true then endsM n a b else (0, 0)
theorem spanM_bd (n : Nat) (a b : Int) : 0 ≤ (spanM n a b).1 ∧ (spanM n a b).1 ≤ (spanM n a b).2 ∧ (spanM n a b).2 ≤ n := by
  unfold spanM
  split
  · exact endsM_bd n a b
  · exact ⟨Int.le_refl _, Int.le_refl _, by show (0 : Int) ≤ n; omega⟩
theorem span_ev (n : Nat) (hn : n ≤ 1048576) (a b : Int) : Ev (fun k => impl_span.f k (n : Int) a b) (spanM n a b) := by
  unfold impl_span.f spanM
  refine Ev.bind (position_ev a) ?_
  cases hp : placeB a with
  | false =>
    refine neg (by decide) ?_
    refine Ev.step (g := fun k => impl_span.j0 k _ _ _ _) (fun k => by rw [impl_span.j0]) ?_
    refine pos rfl (ret' ?_)
    rw [if_neg (by simp)]
  | true =>
    refine pos rfl (Ev.bind (position_ev b) ?_)
    cases hq : placeB b with
    | false =>
      refine Ev.step (g := fun k => impl_span.j0 k _ _ _ _) (fun k => by rw [impl_span.j0]) ?_
      refine pos rfl (ret' ?_)
      rw [if_neg (by simp)]
    | true =>
      have ha := place_bd hp
      have hb := place_bd hq
      have e1 : wrap64 (a + (n : Int)) = a + n := wrap_id (by omega) (by omega)
      have e2 : wrap64 (b + (n : Int)) = b + n := wrap_id (by omega) (by omega)
      have e3 : wrap64 ((n : Int) - 1) = n - 1 := wrap_id (by omega) (by omega)
      rw [if_pos ⟨rfl, rfl⟩]
      have last : ∀ x1 x2 : Int, -1000000000 ≤ x2 → x2 ≤ 1001048576 → Ev (fun _ => if (mx x1 0) > (mn x2 ((n : Int) - 1)) then (some ((0, 0) : Int × Int)) else (some (mx x1 0, wrap64 ((mn x2 ((n : Int) - 1)) + 1)))) (if (if x1 < 0 then 0 else x1) > (if x2 ≥ n then (n : Int) - 1 else x2) then ((0, 0) : Int × Int) else ((if x1 < 0 then 0 else x1), (if x2 ≥ n then (n : Int) - 1 else x2) + 1)) := by
        intro x1 x2 h2 h3
        have m1 : mx x1 0 = if x1 < 0 then 0 else x1 := by unfold mx; rfl
        have m2 : mn x2 ((n : Int) - 1) = if x2 ≥ n then (n : Int) - 1 else x2 := by
          unfold mn
          by_cases h : x2 ≥ n
          · rw [if_pos h, if_pos (by omega)]
          · rw [if_neg h, if_neg (by omega)]
        have m3 : wrap64 ((if x2 ≥ n then (n : Int) - 1 else x2) + 1) = (if x2 ≥ n then (n : Int) - 1 else x2) + 1 := by
          split
          · exact wrap_id (by omega) (by omega)
          · exact wrap_id (by omega) (by omega)
        rw [m1, m2, m3]
        exact both (fun h' => ret' (if_pos h').symm) (fun h' => ret' (if_neg h').symm)
      have j1 : ∀ x1 : Int, Ev (fun k => impl_span.j1 k (n : Int) x1 b) (if (if x1 < 0 then 0 else x1) > (if (if b < 0 then b + n else b) ≥ n then (n : Int) - 1 else (if b < 0 then b + n else b)) then ((0, 0) : Int × Int) else ((if x1 < 0 then 0 else x1), (if (if b < 0 then b + n else b) ≥ n then (n : Int) - 1 else (if b < 0 then b + n else b)) + 1)) := by
        intro x1
        refine Ev.step (g := fun k => impl_span.j1 k _ _ _) (fun k => by rw [impl_span.j1]) ?_
        rw [e2, e3]
        refine both (fun h => ?_) (fun h => ?_)
        · rw [if_pos h]; exact last x1 _ (by omega) (by omega)
        · rw [if_neg h]; exact last x1 _ (by omega) (by omega)
      refine Ev.step (g := fun k => impl_span.j0 k _ _ _ _) (fun k => by rw [impl_span.j0]) ?_
      refine neg (by decide) ?_
      unfold endsM
      rw [e1]
      refine both (fun h => ?_) (fun h => ?_)
      · rw [if_pos h]; exact j1 _
      · rw [if_neg h]; exact j1 _
end Go.Proofs.Ytcpnekdhdmncfaa.Q
/- Plain lemmas: ScoresRank, ScoresBy, ScoresDrop and ScoresAt on both sides. -/
namespace Go.Proofs.Ytcpnekdhdmncfaa.Q
open Go.RowKit Go.Proofs.YtcpnekdhdmncfaaW.PrintWords Go.Proofs.YtcpnekdhdmncfaaW.PrintLast Go.Proofs.YtcpnekdhdmncfaaW.PrintMore Go.Proofs.Ytcpnekdhdmncfaa.P

theorem scoresB_len {l : List Score} (h : scoresB l = true) : l.length ≤ 16 := by
  simp only [scoresB, Bool.and_eq_true, decide_eq_true_eq] at h
  omega
theorem scoresB_fresh {l : List Score} (h : scoresB l = true) (i : Nat) (hi : i < l.length) : fresh l i = true := by
  simp only [scoresB, Bool.and_eq_true, List.all_eq_true] at h
  have := h.1 i (by simp [List.mem_range'_1]; exact hi)
  unfold sOk at this
  simp only [Bool.and_eq_true] at this
  exact this.2.2.2
theorem scoresB_apart {l : List Score} (h : scoresB l = true) : l.Pairwise (fun a b => a.f0 ≠ b.f0) := by
  rw [List.pairwise_iff_getElem]
  intro i j hi hj hij
  have := scoresB_fresh h j hj
  unfold fresh at this
  simp only [List.all_eq_true, List.mem_range, Bool.not_eq_true', decide_eq_false_iff_not] at this
  have := this i hij
  rw [rdScore_lt _ _ hi, rdScore_lt _ _ hj] at this
  exact this
/-- The rank of a text. -/
def rankM (l : List Score) (t : ByteArray) : Int := if scoresB l = true then impl_scoreAt.from t l 0 else -1
theorem impl_ScoresRank_ev (l : List Score) (hl : l.length ≤ maxLen) (t : ByteArray) : Ev (fun k => impl_ScoresRank.f k l t) (rankM l t) := by
  unfold impl_ScoresRank.f rankM
  refine Ev.bind (impl_ScoresOk_ev l hl) (both (fun h => ?_) (fun h => ?_))
  · rw [if_pos h]; exact Ev.bind (val rfl) (ret _)
  · rw [if_neg h]; exact ret _
theorem spec_ScoresRank_l0 (l : List Score) (hl : l.length ≤ maxLen) (t : ByteArray) (d : Nat) : ∀ (i : Nat), i + d = l.length → Ev (fun k => spec_ScoresRank.l0 k l t (i : Int)) (if scoresB l = true then impl_scoreAt.from t (l.drop i) i else -1) := by
  have hl' := hl
  unfold maxLen at hl'
  induction d with
  | zero =>
    intro i hi
    refine Ev.step (g := fun k => spec_ScoresRank.l0 k _ _ _) (fun k => by rw [spec_ScoresRank.l0]) (neg (by omega) ?_)
    refine Ev.step (g := fun k => spec_ScoresRank.j1 k _ _ _ _) (fun k => by rw [spec_ScoresRank.j1]) (neg (by decide) (ret' ?_))
    rw [List.drop_of_length_le (by omega)]
    split <;> rfl
  | succ d ih =>
    intro i hi
    have hlt : i < l.length := by omega
    refine Ev.step (g := fun k => spec_ScoresRank.l0 k _ _ _) (fun k => by rw [spec_ScoresRank.l0]) (pos (by omega) (Ev.bind (spec_ScoresOk_ev l hl) ?_))
    refine Ev.step (g := fun k => spec_ScoresRank.j1 k _ _ _ _) (fun k => by rw [spec_ScoresRank.j1]) (both (fun h => ?_) (fun h => ?_))
    · rw [if_pos h]
      refine pos (by omega) (pos (by omega) ?_)
      have ih' := ih (i + 1) (by omega)
      rw [if_pos h] at ih'
      rw [rdScore_lt _ _ hlt, List.drop_eq_getElem_cons hlt, impl_scoreAt.from, wrap_id (by omega) (by omega)]
      refine both (fun q => ?_) (fun q => ?_)
      · rw [if_pos q]; exact ret _
      · rw [if_neg q]; exact ih'
    · rw [if_neg h]; exact ret _
theorem spec_ScoresRank_ev (l : List Score) (hl : l.length ≤ maxLen) (t : ByteArray) : Ev (fun k => spec_ScoresRank.f k l t) (rankM l t) := spec_ScoresRank_l0 l hl t l.length 0 (by omega)
/-- Scores between two numbers. -/
def byM (l : List Score) (a b : Int) : List Score := if scoresB l = true then l.filter (fun s => inB s.f1 a b) else []
theorem byM_len (l : List Score) (a b : Int) : (byM l a b).length ≤ l.length := by
  unfold byM
  split
  · exact List.length_filter_le _ _
  · simp
theorem filter_cons' (p : Score → Bool) (x : Score) (r : List Score) : (x :: r).filter p = if p x = true then x :: r.filter p else r.filter p := by
  by_cases h : p x = true <;> simp [h]
theorem spec_ScoresBy_l0 (l : List Score) (hl : l.length ≤ 1048576) (a b : Int) (d : Nat) : ∀ (i : Nat) (x : List Score), i + d = l.length → x.length ≤ i → Ev (fun k => spec_ScoresBy.l0 k l a b x (i : Int)) (if scoresB l = true then x ++ (l.drop i).filter (fun s => inB s.f1 a b) else x) := by
  induction d with
  | zero =>
    intro i x hi hx
    refine Ev.step (g := fun k => spec_ScoresBy.l0 k _ _ _ _ _) (fun k => by rw [spec_ScoresBy.l0]) (neg (by omega) ?_)
    refine Ev.step (g := fun k => spec_ScoresBy.j1 k _ _ _ _ _ _) (fun k => by rw [spec_ScoresBy.j1]) (neg (by decide) (ret' ?_))
    rw [List.drop_of_length_le (by omega)]
    simp
  | succ d ih =>
    intro i x hi hx
    have hlt : i < l.length := by omega
    refine Ev.step (g := fun k => spec_ScoresBy.l0 k _ _ _ _ _) (fun k => by rw [spec_ScoresBy.l0]) (pos (by omega) (Ev.bind (spec_ScoresOk_ev l (by unfold maxLen; omega)) ?_))
    refine Ev.step (g := fun k => spec_ScoresBy.j1 k _ _ _ _ _ _) (fun k => by rw [spec_ScoresBy.j1]) (both (fun h => ?_) (fun h => ?_))
    · rw [if_pos h]
      refine pos (by omega) (pos (by omega) (Ev.bind (l1In_ev _ _ _) ?_))
      rw [rdScore_lt _ _ hlt, List.drop_eq_getElem_cons hlt, wrap_id (by omega) (by omega), filter_cons']
      have ih0 := ih (i + 1) x (by omega) (by omega)
      have ih1 := ih (i + 1) (x ++ [l[i]]) (by omega) (by simp; omega)
      rw [if_pos h] at ih0 ih1
      refine both (fun q => ?_) (fun q => ?_)
      · rw [if_pos q]
        refine pos (by omega) (of_eq ih1 (by simp))
      · rw [if_neg q]
        exact ih0
    · rw [if_neg h]; exact ret _
theorem spec_ScoresBy_ev (l : List Score) (hl : l.length ≤ 1048576) (a b : Int) : Ev (fun k => spec_ScoresBy.f k l a b) (byM l a b) := by
  have := spec_ScoresBy_l0 l hl a b l.length 0 [] (by omega) (by simp)
  simpa [spec_ScoresBy.f, byM] using this
theorem impl_ScoresBy_l0 (l : List Score) (hl : l.length ≤ 1048576) (a b : Int) (d : Nat) : ∀ (i : Nat) (x : List Score), i + d = l.length → x.length ≤ i → Ev (fun k => impl_ScoresBy.l0 k a b x l (l.length : Int) (i : Int)) (x ++ (l.drop i).filter (fun s => inB s.f1 a b)) := by
  induction d with
  | zero =>
    intro i x hi hx
    refine Ev.step (g := fun k => impl_ScoresBy.l0 k _ _ _ _ _ _) (fun k => by rw [impl_ScoresBy.l0]) (neg (by omega) (ret' ?_))
    rw [List.drop_of_length_le (by omega)]
    simp
  | succ d ih =>
    intro i x hi hx
    have hlt : i < l.length := by omega
    refine Ev.step (g := fun k => impl_ScoresBy.l0 k _ _ _ _ _ _) (fun k => by rw [impl_ScoresBy.l0]) (pos (by omega) (pos (by omega) (pos (by omega) (Ev.bind (within_ev _ _ _) ?_))))
    rw [rdScore_lt _ _ hlt, List.drop_eq_getElem_cons hlt, wrap_id (by omega) (by omega), filter_cons']
    refine both (fun q => ?_) (fun q => ?_)
    · rw [if_pos q]
      exact pos (by omega) (of_eq (ih (i + 1) (x ++ [l[i]]) (by omega) (by simp; omega)) (by simp))
    · rw [if_neg q]
      exact ih (i + 1) x (by omega) (by omega)
theorem impl_ScoresBy_ev (l : List Score) (hl : l.length ≤ 1048576) (a b : Int) : Ev (fun k => impl_ScoresBy.f k l a b) (byM l a b) := by
  unfold impl_ScoresBy.f byM
  refine Ev.bind (ret _) (Ev.bind (impl_ScoresOk_ev l (by unfold maxLen; omega)) (both (fun h => ?_) (fun h => ?_)))
  · rw [if_pos h]
    have := impl_ScoresBy_l0 l hl a b l.length 0 [] (by omega) (by simp)
    simpa using this
  · rw [if_neg h]; exact ret _
/-- Scores without a text. -/
def withoutM (l : List Score) (t : ByteArray) : List Score := l.filter (fun s => !decide (s.f0 = t))
theorem withoutM_cons (x : Score) (r : List Score) (t : ByteArray) : withoutM (x :: r) t = if x.f0 = t then withoutM r t else x :: withoutM r t := by
  unfold withoutM
  by_cases h : x.f0 = t <;> simp [h]
theorem l3Without_l0 (l : List Score) (hl : l.length ≤ 1048576) (t : ByteArray) (d : Nat) : ∀ (i : Nat) (x : List Score), i + d = l.length → x.length ≤ i → Ev (fun k => spec_l3Without.l0 k l t x (i : Int)) (x ++ withoutM (l.drop i) t) := by
  induction d with
  | zero =>
    intro i x hi hx
    refine Ev.step (g := fun k => spec_l3Without.l0 k _ _ _ _) (fun k => by rw [spec_l3Without.l0]) (neg (by omega) (ret' ?_))
    rw [List.drop_of_length_le (by omega)]
    simp [withoutM]
  | succ d ih =>
    intro i x hi hx
    have hlt : i < l.length := by omega
    refine Ev.step (g := fun k => spec_l3Without.l0 k _ _ _ _) (fun k => by rw [spec_l3Without.l0]) (pos (by omega) (pos (by omega) ?_))
    rw [rdScore_lt _ _ hlt, List.drop_eq_getElem_cons hlt, wrap_id (by omega) (by omega), withoutM_cons]
    refine both (fun q => ?_) (fun q => ?_)
    · rw [if_pos (toList_inj q)]
      exact ih (i + 1) x (by omega) (by omega)
    · rw [if_neg (fun e => q (by rw [e]))]
      exact pos (by omega) (of_eq (ih (i + 1) (x ++ [l[i]]) (by omega) (by simp; omega)) (by simp))
theorem l3Without_ev (l : List Score) (hl : l.length ≤ 1048576) (t : ByteArray) : Ev (fun k => spec_l3Without.f k l t) (withoutM l t) := by
  have := l3Without_l0 l hl t l.length 0 [] (by omega) (by simp)
  simpa [spec_l3Without.f] using this
theorem withoutM_len (l : List Score) (t : ByteArray) : (withoutM l t).length ≤ l.length := List.length_filter_le _ _
theorem withoutM_all {l : List Score} {t : ByteArray} (h : ∀ s ∈ l, s.f0 ≠ t) : withoutM l t = l := by
  unfold withoutM
  rw [List.filter_eq_self]
  intro s hs
  simp [h s hs]
/-- Of scores with texts of their own, those without a text are those without its place. -/
theorem without_from (t : ByteArray) (l : List Score) : ∀ (o : Nat), l.Pairwise (fun a b => a.f0 ≠ b.f0) →
    (impl_scoreAt.from t l o = -1 ∧ withoutM l t = l) ∨ (∃ j : Nat, impl_scoreAt.from t l o = ((o + j : Nat) : Int) ∧ j < l.length ∧ withoutM l t = l.eraseIdx j) := by
  induction l with
  | nil => intro o _; exact .inl ⟨rfl, rfl⟩
  | cons x r ih =>
    intro o hp
    obtain ⟨h1, h2⟩ := List.pairwise_cons.1 hp
    rw [impl_scoreAt.from, withoutM_cons]
    by_cases h : x.f0.toList = t.toList
    · rw [if_pos h, if_pos (toList_inj h)]
      refine .inr ⟨0, rfl, by simp, ?_⟩
      rw [withoutM_all (fun s hs e => h1 s hs (by rw [toList_inj h, e]))]
      rfl
    · rw [if_neg h, if_neg (fun e => h (by rw [e]))]
      rcases ih (o + 1) h2 with ⟨a, b⟩ | ⟨j, a, b, c⟩
      · exact .inl ⟨a, by rw [b]⟩
      · refine .inr ⟨j + 1, by rw [a]; congr 1; omega, by simp; omega, by rw [c]; rfl⟩
def scoresDropM (l : List Score) (t : ByteArray) : List Score × Bool := if scoresB l = true then (withoutM l t, decide ((withoutM l t).length < l.length)) else ([], false)
theorem scoresDropM_len (l : List Score) (t : ByteArray) : (scoresDropM l t).1.length ≤ l.length := by
  unfold scoresDropM
  split
  · exact withoutM_len l t
  · simp
theorem spec_ScoresDrop_ev (l : List Score) (hl : l.length ≤ 1048576) (t : ByteArray) : Ev (fun k => spec_ScoresDrop.f k l t) (scoresDropM l t) := by
  unfold spec_ScoresDrop.f scoresDropM
  refine Ev.bind (spec_ScoresOk_ev l (by unfold maxLen; omega)) (both (fun h => ?_) (fun h => ?_))
  · rw [if_pos h]
    refine Ev.bind (l3Without_ev l hl t) (ret' ?_)
    congr 1
    exact decide_eq_decide.2 (by omega)
  · rw [if_neg h]; exact ret _
theorem copiedScores_ev (l : List Score) (hl : l.length ≤ 1048576) : Ev (fun _ => impl_copiedScores.f l) l := by
  unfold impl_copiedScores.f
  refine Ev.bind (ret _) (pos ?_ (ret' rfl))
  simp; omega
theorem impl_ScoresDrop_ev (l : List Score) (hl : l.length ≤ 1048576) (t : ByteArray) : Ev (fun k => impl_ScoresDrop.f k l t) (scoresDropM l t) := by
  unfold impl_ScoresDrop.f scoresDropM
  refine Ev.bind (impl_ScoresOk_ev l (by unfold maxLen; omega)) (both (fun h => ?_) (fun h => ?_))
  · rw [if_pos h]
    refine Ev.bind (copiedScores_ev l hl) (Ev.bind (val rfl) ?_)
    rcases without_from t l 0 (scoresB_apart h) with ⟨a, b⟩ | ⟨j, a, b, c⟩
    · rw [a, b]
      exact pos (by omega) (ret' (by simp))
    · rw [a, c, Nat.zero_add]
      have hD : slices_Delete_impl_Score_impl_Score.f l (j : Int) (wrap64 ((j : Int) + 1)) = some (l.eraseIdx j) := by
        unfold slices_Delete_impl_Score_impl_Score.f
        rw [if_pos ⟨by omega, by omega, by rw [wrap_id (by omega) (by omega)]⟩, Int.toNat_natCast]
      have hle := List.length_eraseIdx_of_lt b
      refine neg (by omega) ?_
      refine Ev.bind (val hD) ?_
      refine Ev.bind (copiedScores_ev _ (by omega)) (ret' ?_)
      rw [decide_eq_true (by omega)]
  · rw [if_neg h]; exact ret _
/-- Scores from one rank to another one. -/
def atsM (l : List Score) (a b : Int) : List Score := if scoresB l = true then (l.take (spanM l.length a b).2.toNat).drop (spanM l.length a b).1.toNat else []
theorem atsM_len (l : List Score) (a b : Int) : (atsM l a b).length ≤ l.length := by
  unfold atsM
  split
  · simp [List.length_take]; omega
  · simp
theorem impl_ScoresAt_ev (l : List Score) (hl : l.length ≤ 1048576) (a b : Int) : Ev (fun k => impl_ScoresAt.f k l a b) (atsM l a b) := by
  unfold impl_ScoresAt.f atsM
  refine Ev.bind (impl_ScoresOk_ev l (by unfold maxLen; omega)) (both (fun h => ?_) (fun h => ?_))
  · rw [if_pos h]
    refine Ev.bind (span_ev l.length (by omega) a b) ?_
    obtain ⟨b1, b2, b3⟩ := spanM_bd l.length a b
    exact pos b1 (pos b2 (pos b3 (Ev.bind (copiedScores_ev _ (by simp [List.length_take]; omega)) (ret _))))
  · rw [if_neg h]; exact ret _
theorem spec_ScoresAt_ev (l : List Score) (hl : l.length ≤ 1048576) (a b : Int) : Ev (fun k => spec_ScoresAt.f k l a b) (atsM l a b) := by
  unfold spec_ScoresAt.f atsM
  refine Ev.bind (spec_ScoresOk_ev l (by unfold maxLen; omega)) (both (fun h => ?_) (fun h => ?_))
  · rw [if_pos h]
    refine Ev.bind (l2Place_ev a) ?_
    cases ha : placeB a with
    | false =>
      refine neg (by decide) (ret' ?_)
      unfold spanM
      rw [ha]
      simp
    | true =>
      refine pos rfl (Ev.bind (l2Place_ev b) ?_)
      cases hb : placeB b with
      | false =>
        refine neg (by decide) (ret' ?_)
        unfold spanM
        rw [ha, hb]
        simp
      | true =>
        refine pos rfl (Ev.bind (l2Ends_ev l.length (by omega) a b ha hb) ?_)
        have e : spanM l.length a b = endsM l.length a b := if_pos ⟨ha, hb⟩
        rw [e]
        obtain ⟨b1, b2, b3⟩ := endsM_bd l.length a b
        refine Ev.bind (ret _) (pos b1 (pos b2 (pos b3 (Ev.bind (ret _) ?_))))
        exact pos (by simp [List.length_take]; omega) (ret' (by simp))
  · rw [if_neg h]; exact ret _
end Go.Proofs.Ytcpnekdhdmncfaa.Q
/- Plain law: ScoresRank of the program and of the reference give the same. -/
namespace Go.Proofs.Ytcpnekdhdmncfaa.Q
open Go.RowKit Go.Proofs.YtcpnekdhdmncfaaW.PrintWords Go.Proofs.YtcpnekdhdmncfaaW.PrintLast Go.Proofs.Ytcpnekdhdmncfaa.P

theorem FnExactScoresRank_pure (l : List LScore) (t : ByteArray) (hl : l.length ≤ maxLen) (hs : ∀ s ∈ l, s.f0.size ≤ maxLen ∧ (Lit.int .i64 s.f1).wf = true) (_ht : t.size ≤ 140737488351232) : ∃ k, laws_FnExactScoresRank.f k l t = some true := by
  refine exists_of (r := true) ?_
  unfold laws_FnExactScoresRank.f
  refine both (fun _ => ret _) (fun _ => ?_)
  obtain ⟨v, hv, h1, h2, h3⟩ := szScoreS_ev l hl hs 1048576 (by omega) (by omega)
  refine Ev.bind hv (both (fun _ => ret _) (fun h => ?_))
  obtain ⟨h4, h5⟩ := h3 (by omega)
  have hT := toScoreS_ev l h4
  have hlen : (l.map cvScore).length ≤ 1048576 := by rw [List.length_map]; exact h4
  generalize l.map cvScore = m at hT hlen
  have hlen' : m.length ≤ maxLen := by unfold maxLen; omega
  have hE := eqScoreS_same m hlen'
  have hS := spec_ScoresRank_ev m hlen' t
  have hI := impl_ScoresRank_ev m hlen' t
  generalize rankM m t = q at hS hI
  repeat' first
    | exact ret _
    | exact ret' rfl
    | dsimp only
    | refine Ev.bind (hT) ?_
    | refine Ev.bind (hS) ?_
    | refine Ev.bind (hI) ?_
    | refine Ev.bind (hE) ?_
    | refine pos rfl ?_
    | refine neg (by decide) ?_
    | refine pos (by omega) ?_
    | refine neg (by omega) ?_
    | refine neg (by simp) ?_
end Go.Proofs.Ytcpnekdhdmncfaa.Q
