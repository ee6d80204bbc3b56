-- Written by wip/px.py of this session, over the kit's print.py. Not trusted: Lean checks it.
import Derived.Test.YtaoeibfegfkdjaaPx0
import Derived.Test.YtaoeibfegfkdjaaPx1
import Derived.Test.YtaoeibfegfkdjaaPx3
import Derived.Test.YtaoeibfegfkdjaaPx4
import Derived.Test.YtaoeibfegfkdjaaPx9
namespace Go.Proofs.Ytaoeibfegfkdjaa.P
open Go.RowKit Go.Proofs.YtaoeibfegfkdjaaW.PrintWords Go.Proofs.YtaoeibfegfkdjaaW.PrintLast Go.Proofs.YtaoeibfegfkdjaaW.PrintMore
attribute [local go_sem] max2_int min2_int max_two min_two max_three min_three max_four min_four   -- for this text's walks alone
set_option linter.unusedVariables false
set_option linter.unusedSimpArgs false

/-! ### laws_FnMatch: the walk -/
set_option maxHeartbeats 8000000 in
set_option maxRecDepth 100000 in
theorem laws_FnMatch.calls (k : Nat) (A0 : Option Addr) (c0 : Nat) (l0 : List Int) (r : Bool) (w : World) (hr0 : Kd.C (Kd.int .u8) w A0 l0.length l0) (hc0 : l0.length ≤ c0) (h : laws_FnMatch.f k l0 = some r) :
    Calls Try.prog 5 #[.slice A0 l0.length c0] w fun e w' => e = .returned (.bool r) ∧ Below w.heap.size w w' := by
  have HR0 := Aside0.mk hr0
  have HC0 := Aside0.mk hc0
  clear hr0 hc0
  have HB := Aside0.mk (Below.refl w.heap.size w)
  have H : (if (l0.length : Int) > 1048576 then (some true) else ((spec_DrawMatch.f k l0).bind fun bt148 => ((impl_Match.f k bt148.1 bt148.2).bind fun t150 => ((spec_Match.f k bt148.1 bt148.2).bind fun t151 => (if (t150 != t151) = true then (laws_FnMatch.j0 k bt148.1 bt148.2 t150 true) else ((impl_Match.f k (⟨#[42]⟩ : ByteArray) bt148.2).bind fun t152 => (if t152 = true then ((impl_Match.f k bt148.2 bt148.2).bind fun t153 => (laws_FnMatch.j0 k bt148.1 bt148.2 t150 (!t153))) else (laws_FnMatch.j0 k bt148.1 bt148.2 t150 true)))))))) = some r := h
  clear h
  by_cases c2 : (l0.length : Int) > 1048576
  · rw [if_pos c2] at H
    have c2b0 : decide (1048576 < (l0.length : Int)) = true := decide_eq_true c2
    have c2b1 : decide (1048576 < l0.length) = true := decide_eq_true (by omega)
    clear c2
    obtain rfl := Option.some.inj H
    go_enter Try.func5, Try.ntmps5
    go_wp2
    go_ret
    exact ⟨by first | rfl | (simp [errW_none, errW_some] <;> rfl) | (simp [*, errW_none, errW_some] <;> rfl), by repeat (first | (with_reducible first | exact HB.out | apply below_alloc | apply pw_below_drewN | apply below_drew1) | exact HB.out)⟩
  · rw [if_neg c2] at H
    have c2b0 : decide (1048576 < (l0.length : Int)) = false := decide_eq_false c2
    have c2b1 : decide (1048576 < l0.length) = false := decide_eq_false (by omega)
    clear c2
    replace H := Option.bind_eq_some_iff.mp H
    obtain ⟨⟨t148, t149⟩, A30, H⟩ := H
    replace H : ((impl_Match.f k t148 t149).bind fun t150 => ((spec_Match.f k t148 t149).bind fun t151 => (if (t150 != t151) = true then (laws_FnMatch.j0 k t148 t149 t150 true) else ((impl_Match.f k (⟨#[42]⟩ : ByteArray) t149).bind fun t152 => (if t152 = true then ((impl_Match.f k t149 t149).bind fun t153 => (laws_FnMatch.j0 k t148 t149 t150 (!t153))) else (laws_FnMatch.j0 k t148 t149 t150 true)))))) = some r := H
    have A3 := Aside0.mk A30
    clear A30
    replace H := Option.bind_eq_some_iff.mp H
    obtain ⟨t150, A40, H⟩ := H
    replace H : ((spec_Match.f k t148 t149).bind fun t151 => (if (t150 != t151) = true then (laws_FnMatch.j0 k t148 t149 t150 true) else ((impl_Match.f k (⟨#[42]⟩ : ByteArray) t149).bind fun t152 => (if t152 = true then ((impl_Match.f k t149 t149).bind fun t153 => (laws_FnMatch.j0 k t148 t149 t150 (!t153))) else (laws_FnMatch.j0 k t148 t149 t150 true))))) = some r := H
    have A4 := Aside0.mk A40
    clear A40
    have HC5 := Aside0.mk H
    clear H
    go_enter Try.func5, Try.ntmps5
    go_upto_region 5 with (first | ((with_reducible refine gate_callee (f := 17) rfl ?_); refine goesL_ (some 11) rfl rfl Try.func17 (by kernel_rfl) rfl #[.slice A0 l0.length c0] rfl (by (try simp only [List.map_toArray, List.map_cons, List.map_nil]); first | done | rfl | (simp only [List.length_drop, List.length_take]; rfl)) ?_; (with_reducible refine (spec_DrawMatch.calls k _ _ l0 t148 t149 _ ?side1 ?side2 A3.out).mono ?_); (case side1 => repeat (first | exact HR0.out | (with_reducible refine Kd.C_alloc ?_ _) | (with_reducible refine Kd.C_drewN ?_ _) | (with_reducible refine Kd.C_drew ?_))); (case side2 => exact HC0.out); rintro e w6 ⟨rfl, hb⟩; refine ⟨_, rfl, ?_⟩; have n0_ := Aside0.mk (below_step (by repeat (first | (with_reducible first | exact HB.out | apply below_alloc | apply pw_below_drewN | apply below_drew1) | exact HB.out)) hb); clear HB; have HB := n0_; clear n0_; (try clear hb); (try clear hb2); (try clear hk); (try clear hi)) | ((with_reducible refine gate_callee (f := 16) rfl ?_); refine goesL_ (some 16) rfl rfl Try.func16 (by kernel_rfl) rfl #[.string t148, .string t149] rfl (by (try simp only [List.map_toArray, List.map_cons, List.map_nil]); first | done | rfl | (simp only [List.length_drop, List.length_take]; rfl)) ?_; (with_reducible refine (impl_Match.calls k t148 t149 t150 _ A4.out).mono ?_); rintro e w7 ⟨rfl, hb⟩; refine ⟨_, rfl, ?_⟩; have n0_ := Aside0.mk (below_step (by repeat (first | (with_reducible first | exact HB.out | apply below_alloc | apply pw_below_drewN | apply below_drew1) | exact HB.out)) hb); clear HB; have HB := n0_; clear n0_; (try clear hb); (try clear hb2); (try clear hk); (try clear hi)))
    (try simp only [Act.put, List.setIfInBounds_toArray, List.set_cons_zero, List.set_cons_succ])
    go_cut [32] (fun v32 wc => ∃ (kq : Nat) (x32_4 : Bool), v32 = .bool x32_4 ∧ Aside0 (laws_FnMatch.j0 kq t148 t149 t150 x32_4 = some r) ∧ Aside0 (kq ≤ k) ∧ Aside0 (Below w.heap.size w wc))
    case first =>
      have H := HC5.out
      clear HC5
      replace H := Option.bind_eq_some_iff.mp H
      obtain ⟨t151, A80, H⟩ := H
      replace H : (if (t150 != t151) = true then (laws_FnMatch.j0 k t148 t149 t150 true) else ((impl_Match.f k (⟨#[42]⟩ : ByteArray) t149).bind fun t152 => (if t152 = true then ((impl_Match.f k t149 t149).bind fun t153 => (laws_FnMatch.j0 k t148 t149 t150 (!t153))) else (laws_FnMatch.j0 k t148 t149 t150 true)))) = some r := H
      have A8 := Aside0.mk A80
      clear A80
      by_cases c9 : (t150 != t151) = true
      · rw [if_pos c9] at H
        have c9b0 : (t150 != t151) = true := c9
        (try (have c9b1 : decide (t150 = t151) = false := by simpa using c9))
        (try (have c9b2 : (t150 == t151) = false := by simpa using c9))
        (try (have c9b3 : ¬ (t150 = t151) := by simpa using c9))
        clear c9
        (first | rw [c9b0] | (simp only [i64_w, i32_w]; rw [c9b0]) | skip)
        have H' := Aside0.mk H
        clear H
        go_wp2_with (first | ((with_reducible refine gate_callee (f := 15) rfl ?_); refine goesL_ (some 20) rfl rfl Try.func15 (by kernel_rfl) rfl #[.string t148, .string t149] rfl (by (try simp only [List.map_toArray, List.map_cons, List.map_nil]); first | done | rfl | (simp only [List.length_drop, List.length_take]; rfl)) ?_; (with_reducible refine (spec_Match.calls k t148 t149 t151 _ A8.out).mono ?_); rintro e w10 ⟨rfl, hb⟩; refine ⟨_, rfl, ?_⟩; have n0_ := Aside0.mk (below_step (by repeat (first | (with_reducible first | exact HB.out | apply below_alloc | apply pw_below_drewN | apply below_drew1) | exact HB.out)) hb); clear HB; have HB := n0_; clear n0_; (try clear hb); (try clear hb2); (try clear hk); (try clear hi)))
        go_meet
        case rel => exact ⟨_, (true), (by first | rfl | (simp; done) | (simp [*]; done)), H', ⟨by first | omega | exact Nat.le_refl _⟩, ⟨by repeat (first | (with_reducible first | exact HB.out | apply below_alloc | apply pw_below_drewN | apply below_drew1) | exact HB.out)⟩⟩
      · rw [if_neg c9] at H
        have c9b0 : (t150 != t151) = false := by simpa using c9
        (try (have c9b1 : decide (t150 = t151) = true := by simpa using c9))
        (try (have c9b2 : (t150 == t151) = true := by simpa using c9))
        clear c9
        (first | rw [c9b0] | (simp only [i64_w, i32_w]; rw [c9b0]) | skip)
        replace H := Option.bind_eq_some_iff.mp H
        obtain ⟨t152, A110, H⟩ := H
        replace H : (if t152 = true then ((impl_Match.f k t149 t149).bind fun t153 => (laws_FnMatch.j0 k t148 t149 t150 (!t153))) else (laws_FnMatch.j0 k t148 t149 t150 true)) = some r := H
        have A11 := Aside0.mk A110
        clear A110
        by_cases c12 : t152 = true
        · subst c12
          have H1 : ((impl_Match.f k t149 t149).bind fun t153 => (laws_FnMatch.j0 k t148 t149 t150 (!t153))) = some r := by rw [if_pos rfl] at H; exact H
          clear H
          have H := H1
          clear H1
          replace H := Option.bind_eq_some_iff.mp H
          obtain ⟨t153, A130, H⟩ := H
          replace H : (laws_FnMatch.j0 k t148 t149 t150 (!t153)) = some r := H
          have A13 := Aside0.mk A130
          clear A130
          have H' := Aside0.mk H
          clear H
          go_wp2_with (first | ((with_reducible refine gate_callee (f := 15) rfl ?_); refine goesL_ (some 20) rfl rfl Try.func15 (by kernel_rfl) rfl #[.string t148, .string t149] rfl (by (try simp only [List.map_toArray, List.map_cons, List.map_nil]); first | done | rfl | (simp only [List.length_drop, List.length_take]; rfl)) ?_; (with_reducible refine (spec_Match.calls k t148 t149 t151 _ A8.out).mono ?_); rintro e w14 ⟨rfl, hb⟩; refine ⟨_, rfl, ?_⟩; have n0_ := Aside0.mk (below_step (by repeat (first | (with_reducible first | exact HB.out | apply below_alloc | apply pw_below_drewN | apply below_drew1) | exact HB.out)) hb); clear HB; have HB := n0_; clear n0_; (try clear hb); (try clear hb2); (try clear hk); (try clear hi)) | (go_at_call 16; (with_reducible refine (impl_Match.calls k (⟨#[42]⟩ : ByteArray) t149 true _ A11.out).mono ?_); rintro e w15 ⟨rfl, hb⟩; have n0_ := Aside0.mk (below_step (by repeat (first | (with_reducible first | exact HB.out | apply below_alloc | apply pw_below_drewN | apply below_drew1) | exact HB.out)) hb); clear HB; have HB := n0_; clear n0_; (try clear hb); (try clear hb2); (try clear hk); (try clear hi)) | (go_at_call 16; (with_reducible refine (impl_Match.calls k t149 t149 t153 _ A13.out).mono ?_); rintro e w16 ⟨rfl, hb⟩; have n0_ := Aside0.mk (below_step (by repeat (first | (with_reducible first | exact HB.out | apply below_alloc | apply pw_below_drewN | apply below_drew1) | exact HB.out)) hb); clear HB; have HB := n0_; clear n0_; (try clear hb); (try clear hb2); (try clear hk); (try clear hi)))
          go_meet
          case rel => exact ⟨_, (!t153), (by first | rfl | (simp; done) | (simp [*]; done)), H', ⟨by first | omega | exact Nat.le_refl _⟩, ⟨by repeat (first | (with_reducible first | exact HB.out | apply below_alloc | apply pw_below_drewN | apply below_drew1) | exact HB.out)⟩⟩
        · replace c12 := Bool.eq_false_iff.mpr c12
          subst c12
          have H1 : (laws_FnMatch.j0 k t148 t149 t150 true) = some r := by rw [if_neg (show ¬ (false = true) by decide)] at H; exact H
          clear H
          have H := H1
          clear H1
          have H' := Aside0.mk H
          clear H
          go_wp2_with (first | ((with_reducible refine gate_callee (f := 15) rfl ?_); refine goesL_ (some 20) rfl rfl Try.func15 (by kernel_rfl) rfl #[.string t148, .string t149] rfl (by (try simp only [List.map_toArray, List.map_cons, List.map_nil]); first | done | rfl | (simp only [List.length_drop, List.length_take]; rfl)) ?_; (with_reducible refine (spec_Match.calls k t148 t149 t151 _ A8.out).mono ?_); rintro e w17 ⟨rfl, hb⟩; refine ⟨_, rfl, ?_⟩; have n0_ := Aside0.mk (below_step (by repeat (first | (with_reducible first | exact HB.out | apply below_alloc | apply pw_below_drewN | apply below_drew1) | exact HB.out)) hb); clear HB; have HB := n0_; clear n0_; (try clear hb); (try clear hb2); (try clear hk); (try clear hi)) | (go_at_call 16; (with_reducible refine (impl_Match.calls k (⟨#[42]⟩ : ByteArray) t149 false _ A11.out).mono ?_); rintro e w18 ⟨rfl, hb⟩; have n0_ := Aside0.mk (below_step (by repeat (first | (with_reducible first | exact HB.out | apply below_alloc | apply pw_below_drewN | apply below_drew1) | exact HB.out)) hb); clear HB; have HB := n0_; clear n0_; (try clear hb); (try clear hb2); (try clear hk); (try clear hi)))
          go_meet
          case rel => exact ⟨_, (true), (by first | rfl | (simp; done) | (simp [*]; done)), H', ⟨by first | omega | exact Nat.le_refl _⟩, ⟨by repeat (first | (with_reducible first | exact HB.out | apply below_alloc | apply pw_below_drewN | apply below_drew1) | exact HB.out)⟩⟩
    case rest =>
      clear HC5
      try clear c1
      try clear c2
      try clear c2b0
      try clear c2b1
      try clear p2
      try clear c5
      try clear c9
      try clear c9b0
      try clear c9b1
      try clear c9b2
      try clear c12
      try clear c15
      try clear c16
      try clear c17
      obtain ⟨kq, x32_4, rfl, HA, HJ4, HB⟩ := hcut
      cases kq with
      | zero => exact absurd HA.out (by simp [laws_FnMatch.j0])
      | succ kj4 =>
        have H := HA.out
        clear HA
        simp only [laws_FnMatch.j0] at H
        by_cases c19 : x32_4 = true
        · subst c19
          have H1 : (some false) = some r := by rw [if_pos rfl] at H; exact H
          clear H
          have H := H1
          clear H1
          obtain rfl := Option.some.inj H
          go_wp2
          go_ret
          exact ⟨by first | rfl | (simp [errW_none, errW_some] <;> rfl) | (simp [*, errW_none, errW_some] <;> rfl), by repeat (first | (with_reducible first | exact HB.out | apply below_alloc | apply pw_below_drewN | apply below_drew1) | exact HB.out)⟩
        · replace c19 := Bool.eq_false_iff.mpr c19
          subst c19
          have H1 : (if t150 = true then (if 1 + t148.size ≤ 9223372036854775807 then ((impl_Match.f kj4 ((⟨#[42]⟩ : ByteArray) ++ t148) t149).bind fun t154 => (if t154 = true then (if 1 + t149.size ≤ 9223372036854775807 then ((impl_Match.f kj4 ((⟨#[42]⟩ : ByteArray) ++ t148) ((⟨#[120]⟩ : ByteArray) ++ t149)).bind fun t155 => (if t155 = true then (if t148.size + 1 ≤ 9223372036854775807 then (if t149.size + 1 ≤ 9223372036854775807 then ((impl_Match.f kj4 (t148 ++ (⟨#[42]⟩ : ByteArray)) (t149 ++ (⟨#[120]⟩ : ByteArray))).bind fun t156 => (if t156 = true then ((impl_Match.f kj4 ((⟨#[63]⟩ : ByteArray) ++ t148) ((⟨#[120]⟩ : ByteArray) ++ t149)).bind fun t157 => (if (t157 == t150) = true then ((impl_Match.f kj4 ((⟨#[97]⟩ : ByteArray) ++ t148) ((⟨#[98]⟩ : ByteArray) ++ t149)).bind fun t158 => (some (t158 == false))) else (some false))) else (some false))) else (none)) else (none)) else (some false))) else (none)) else (some false))) else (none)) else (if 1 + t148.size ≤ 9223372036854775807 then (if 1 + t149.size ≤ 9223372036854775807 then ((impl_Match.f kj4 ((⟨#[63]⟩ : ByteArray) ++ t148) ((⟨#[120]⟩ : ByteArray) ++ t149)).bind fun t159 => (if (t159 == t150) = true then ((impl_Match.f kj4 ((⟨#[97]⟩ : ByteArray) ++ t148) ((⟨#[98]⟩ : ByteArray) ++ t149)).bind fun t160 => (some (t160 == false))) else (some false))) else (none)) else (none))) = some r := by rw [if_neg (show ¬ (false = true) by decide)] at H; exact H
          clear H
          have H := H1
          clear H1
          by_cases c20 : t150 = true
          · subst c20
            have H1 : (if 1 + t148.size ≤ 9223372036854775807 then ((impl_Match.f kj4 ((⟨#[42]⟩ : ByteArray) ++ t148) t149).bind fun t154 => (if t154 = true then (if 1 + t149.size ≤ 9223372036854775807 then ((impl_Match.f kj4 ((⟨#[42]⟩ : ByteArray) ++ t148) ((⟨#[120]⟩ : ByteArray) ++ t149)).bind fun t155 => (if t155 = true then (if t148.size + 1 ≤ 9223372036854775807 then (if t149.size + 1 ≤ 9223372036854775807 then ((impl_Match.f kj4 (t148 ++ (⟨#[42]⟩ : ByteArray)) (t149 ++ (⟨#[120]⟩ : ByteArray))).bind fun t156 => (if t156 = true then ((impl_Match.f kj4 ((⟨#[63]⟩ : ByteArray) ++ t148) ((⟨#[120]⟩ : ByteArray) ++ t149)).bind fun t157 => (if (t157 == true) = true then ((impl_Match.f kj4 ((⟨#[97]⟩ : ByteArray) ++ t148) ((⟨#[98]⟩ : ByteArray) ++ t149)).bind fun t158 => (some (t158 == false))) else (some false))) else (some false))) else (none)) else (none)) else (some false))) else (none)) else (some false))) else (none)) = some r := by rw [if_pos rfl] at H; exact H
            clear H
            have H := H1
            clear H1
            by_cases c21 : 1 + t148.size ≤ 9223372036854775807
            · rw [if_pos c21] at H
              have c21b0 := eq_true c21
              have c21b1 : decide (1 + t148.size ≤ 9223372036854775807) = true := decide_eq_true c21
              try have c21b2 : (9223372036854775807 < 1 + t148.size) = False := eq_false (Nat.not_lt.2 c21)
              replace H := Option.bind_eq_some_iff.mp H
              obtain ⟨t154, A220, H⟩ := H
              replace H : (if t154 = true then (if 1 + t149.size ≤ 9223372036854775807 then ((impl_Match.f kj4 ((⟨#[42]⟩ : ByteArray) ++ t148) ((⟨#[120]⟩ : ByteArray) ++ t149)).bind fun t155 => (if t155 = true then (if t148.size + 1 ≤ 9223372036854775807 then (if t149.size + 1 ≤ 9223372036854775807 then ((impl_Match.f kj4 (t148 ++ (⟨#[42]⟩ : ByteArray)) (t149 ++ (⟨#[120]⟩ : ByteArray))).bind fun t156 => (if t156 = true then ((impl_Match.f kj4 ((⟨#[63]⟩ : ByteArray) ++ t148) ((⟨#[120]⟩ : ByteArray) ++ t149)).bind fun t157 => (if (t157 == true) = true then ((impl_Match.f kj4 ((⟨#[97]⟩ : ByteArray) ++ t148) ((⟨#[98]⟩ : ByteArray) ++ t149)).bind fun t158 => (some (t158 == false))) else (some false))) else (some false))) else (none)) else (none)) else (some false))) else (none)) else (some false)) = some r := H
              have A22 := Aside0.mk A220
              clear A220
              by_cases c23 : t154 = true
              · subst c23
                have H1 : (if 1 + t149.size ≤ 9223372036854775807 then ((impl_Match.f kj4 ((⟨#[42]⟩ : ByteArray) ++ t148) ((⟨#[120]⟩ : ByteArray) ++ t149)).bind fun t155 => (if t155 = true then (if t148.size + 1 ≤ 9223372036854775807 then (if t149.size + 1 ≤ 9223372036854775807 then ((impl_Match.f kj4 (t148 ++ (⟨#[42]⟩ : ByteArray)) (t149 ++ (⟨#[120]⟩ : ByteArray))).bind fun t156 => (if t156 = true then ((impl_Match.f kj4 ((⟨#[63]⟩ : ByteArray) ++ t148) ((⟨#[120]⟩ : ByteArray) ++ t149)).bind fun t157 => (if (t157 == true) = true then ((impl_Match.f kj4 ((⟨#[97]⟩ : ByteArray) ++ t148) ((⟨#[98]⟩ : ByteArray) ++ t149)).bind fun t158 => (some (t158 == false))) else (some false))) else (some false))) else (none)) else (none)) else (some false))) else (none)) = some r := by rw [if_pos rfl] at H; exact H
                clear H
                have H := H1
                clear H1
                by_cases c24 : 1 + t149.size ≤ 9223372036854775807
                · rw [if_pos c24] at H
                  have c24b0 := eq_true c24
                  have c24b1 : decide (1 + t149.size ≤ 9223372036854775807) = true := decide_eq_true c24
                  try have c24b2 : (9223372036854775807 < 1 + t149.size) = False := eq_false (Nat.not_lt.2 c24)
                  replace H := Option.bind_eq_some_iff.mp H
                  obtain ⟨t155, A250, H⟩ := H
                  replace H : (if t155 = true then (if t148.size + 1 ≤ 9223372036854775807 then (if t149.size + 1 ≤ 9223372036854775807 then ((impl_Match.f kj4 (t148 ++ (⟨#[42]⟩ : ByteArray)) (t149 ++ (⟨#[120]⟩ : ByteArray))).bind fun t156 => (if t156 = true then ((impl_Match.f kj4 ((⟨#[63]⟩ : ByteArray) ++ t148) ((⟨#[120]⟩ : ByteArray) ++ t149)).bind fun t157 => (if (t157 == true) = true then ((impl_Match.f kj4 ((⟨#[97]⟩ : ByteArray) ++ t148) ((⟨#[98]⟩ : ByteArray) ++ t149)).bind fun t158 => (some (t158 == false))) else (some false))) else (some false))) else (none)) else (none)) else (some false)) = some r := H
                  have A25 := Aside0.mk A250
                  clear A250
                  by_cases c26 : t155 = true
                  · subst c26
                    have H1 : (if t148.size + 1 ≤ 9223372036854775807 then (if t149.size + 1 ≤ 9223372036854775807 then ((impl_Match.f kj4 (t148 ++ (⟨#[42]⟩ : ByteArray)) (t149 ++ (⟨#[120]⟩ : ByteArray))).bind fun t156 => (if t156 = true then ((impl_Match.f kj4 ((⟨#[63]⟩ : ByteArray) ++ t148) ((⟨#[120]⟩ : ByteArray) ++ t149)).bind fun t157 => (if (t157 == true) = true then ((impl_Match.f kj4 ((⟨#[97]⟩ : ByteArray) ++ t148) ((⟨#[98]⟩ : ByteArray) ++ t149)).bind fun t158 => (some (t158 == false))) else (some false))) else (some false))) else (none)) else (none)) = some r := by rw [if_pos rfl] at H; exact H
                    clear H
                    have H := H1
                    clear H1
                    by_cases c27 : t148.size + 1 ≤ 9223372036854775807
                    · rw [if_pos c27] at H
                      have c27b0 := eq_true c27
                      have c27b1 : decide (t148.size + 1 ≤ 9223372036854775807) = true := decide_eq_true c27
                      try have c27b2 : (9223372036854775807 < t148.size + 1) = False := eq_false (Nat.not_lt.2 c27)
                      by_cases c28 : t149.size + 1 ≤ 9223372036854775807
                      · rw [if_pos c28] at H
                        have c28b0 := eq_true c28
                        have c28b1 : decide (t149.size + 1 ≤ 9223372036854775807) = true := decide_eq_true c28
                        try have c28b2 : (9223372036854775807 < t149.size + 1) = False := eq_false (Nat.not_lt.2 c28)
                        replace H := Option.bind_eq_some_iff.mp H
                        obtain ⟨t156, A290, H⟩ := H
                        replace H : (if t156 = true then ((impl_Match.f kj4 ((⟨#[63]⟩ : ByteArray) ++ t148) ((⟨#[120]⟩ : ByteArray) ++ t149)).bind fun t157 => (if (t157 == true) = true then ((impl_Match.f kj4 ((⟨#[97]⟩ : ByteArray) ++ t148) ((⟨#[98]⟩ : ByteArray) ++ t149)).bind fun t158 => (some (t158 == false))) else (some false))) else (some false)) = some r := H
                        have A29 := Aside0.mk A290
                        clear A290
                        by_cases c30 : t156 = true
                        · subst c30
                          have H1 : ((impl_Match.f kj4 ((⟨#[63]⟩ : ByteArray) ++ t148) ((⟨#[120]⟩ : ByteArray) ++ t149)).bind fun t157 => (if (t157 == true) = true then ((impl_Match.f kj4 ((⟨#[97]⟩ : ByteArray) ++ t148) ((⟨#[98]⟩ : ByteArray) ++ t149)).bind fun t158 => (some (t158 == false))) else (some false))) = some r := by rw [if_pos rfl] at H; exact H
                          clear H
                          have H := H1
                          clear H1
                          replace H := Option.bind_eq_some_iff.mp H
                          obtain ⟨t157, A310, H⟩ := H
                          replace H : (if (t157 == true) = true then ((impl_Match.f kj4 ((⟨#[97]⟩ : ByteArray) ++ t148) ((⟨#[98]⟩ : ByteArray) ++ t149)).bind fun t158 => (some (t158 == false))) else (some false)) = some r := H
                          have A31 := Aside0.mk A310
                          clear A310
                          by_cases c32 : (t157 == true) = true
                          · rw [if_pos c32] at H
                            have c32b0 : (t157 == true) = true := c32
                            (try (have c32b1 : decide (t157 = true) = true := by simpa using c32))
                            (try (have c32b2 : (t157 == true) = true := by simpa using c32))
                            clear c32
                            replace H := Option.bind_eq_some_iff.mp H
                            obtain ⟨t158, A330, H⟩ := H
                            replace H : (some (t158 == false)) = some r := H
                            have A33 := Aside0.mk A330
                            clear A330
                            obtain rfl := Option.some.inj H
                            go_wp2_with (first | (go_at_call 16; (with_reducible refine (impl_Match.calls kj4 ((⟨#[42]⟩ : ByteArray) ++ t148) t149 true _ A22.out).mono ?_); rintro e w34 ⟨rfl, hb⟩; have n0_ := Aside0.mk (below_step (by repeat (first | (with_reducible first | exact HB.out | apply below_alloc | apply pw_below_drewN | apply below_drew1) | exact HB.out)) hb); clear HB; have HB := n0_; clear n0_; (try clear hb); (try clear hb2); (try clear hk); (try clear hi)) | (go_at_call 16; (with_reducible refine (impl_Match.calls kj4 ((⟨#[42]⟩ : ByteArray) ++ t148) ((⟨#[120]⟩ : ByteArray) ++ t149) true _ A25.out).mono ?_); rintro e w35 ⟨rfl, hb⟩; have n0_ := Aside0.mk (below_step (by repeat (first | (with_reducible first | exact HB.out | apply below_alloc | apply pw_below_drewN | apply below_drew1) | exact HB.out)) hb); clear HB; have HB := n0_; clear n0_; (try clear hb); (try clear hb2); (try clear hk); (try clear hi)) | (go_at_call 16; (with_reducible refine (impl_Match.calls kj4 (t148 ++ (⟨#[42]⟩ : ByteArray)) (t149 ++ (⟨#[120]⟩ : ByteArray)) true _ A29.out).mono ?_); rintro e w36 ⟨rfl, hb⟩; have n0_ := Aside0.mk (below_step (by repeat (first | (with_reducible first | exact HB.out | apply below_alloc | apply pw_below_drewN | apply below_drew1) | exact HB.out)) hb); clear HB; have HB := n0_; clear n0_; (try clear hb); (try clear hb2); (try clear hk); (try clear hi)) | (go_at_call 16; (with_reducible refine (impl_Match.calls kj4 ((⟨#[63]⟩ : ByteArray) ++ t148) ((⟨#[120]⟩ : ByteArray) ++ t149) t157 _ A31.out).mono ?_); rintro e w37 ⟨rfl, hb⟩; have n0_ := Aside0.mk (below_step (by repeat (first | (with_reducible first | exact HB.out | apply below_alloc | apply pw_below_drewN | apply below_drew1) | exact HB.out)) hb); clear HB; have HB := n0_; clear n0_; (try clear hb); (try clear hb2); (try clear hk); (try clear hi)) | (go_at_call 16; (with_reducible refine (impl_Match.calls kj4 ((⟨#[97]⟩ : ByteArray) ++ t148) ((⟨#[98]⟩ : ByteArray) ++ t149) t158 _ A33.out).mono ?_); rintro e w38 ⟨rfl, hb⟩; have n0_ := Aside0.mk (below_step (by repeat (first | (with_reducible first | exact HB.out | apply below_alloc | apply pw_below_drewN | apply below_drew1) | exact HB.out)) hb); clear HB; have HB := n0_; clear n0_; (try clear hb); (try clear hb2); (try clear hk); (try clear hi)))
                            go_ret
                            exact ⟨by first | rfl | (simp [errW_none, errW_some] <;> rfl) | (simp [*, errW_none, errW_some] <;> rfl), by repeat (first | (with_reducible first | exact HB.out | apply below_alloc | apply pw_below_drewN | apply below_drew1) | exact HB.out)⟩
                          · rw [if_neg c32] at H
                            have c32b0 : (t157 == true) = false := by simpa using c32
                            (try (have c32b1 : decide (t157 = true) = false := by simpa using c32))
                            (try (have c32b2 : (t157 == true) = false := by simpa using c32))
                            (try (have c32b3 : ¬ (t157 = true) := by simpa using c32))
                            clear c32
                            obtain rfl := Option.some.inj H
                            go_wp2_with (first | (go_at_call 16; (with_reducible refine (impl_Match.calls kj4 ((⟨#[42]⟩ : ByteArray) ++ t148) t149 true _ A22.out).mono ?_); rintro e w39 ⟨rfl, hb⟩; have n0_ := Aside0.mk (below_step (by repeat (first | (with_reducible first | exact HB.out | apply below_alloc | apply pw_below_drewN | apply below_drew1) | exact HB.out)) hb); clear HB; have HB := n0_; clear n0_; (try clear hb); (try clear hb2); (try clear hk); (try clear hi)) | (go_at_call 16; (with_reducible refine (impl_Match.calls kj4 ((⟨#[42]⟩ : ByteArray) ++ t148) ((⟨#[120]⟩ : ByteArray) ++ t149) true _ A25.out).mono ?_); rintro e w40 ⟨rfl, hb⟩; have n0_ := Aside0.mk (below_step (by repeat (first | (with_reducible first | exact HB.out | apply below_alloc | apply pw_below_drewN | apply below_drew1) | exact HB.out)) hb); clear HB; have HB := n0_; clear n0_; (try clear hb); (try clear hb2); (try clear hk); (try clear hi)) | (go_at_call 16; (with_reducible refine (impl_Match.calls kj4 (t148 ++ (⟨#[42]⟩ : ByteArray)) (t149 ++ (⟨#[120]⟩ : ByteArray)) true _ A29.out).mono ?_); rintro e w41 ⟨rfl, hb⟩; have n0_ := Aside0.mk (below_step (by repeat (first | (with_reducible first | exact HB.out | apply below_alloc | apply pw_below_drewN | apply below_drew1) | exact HB.out)) hb); clear HB; have HB := n0_; clear n0_; (try clear hb); (try clear hb2); (try clear hk); (try clear hi)) | (go_at_call 16; (with_reducible refine (impl_Match.calls kj4 ((⟨#[63]⟩ : ByteArray) ++ t148) ((⟨#[120]⟩ : ByteArray) ++ t149) t157 _ A31.out).mono ?_); rintro e w42 ⟨rfl, hb⟩; have n0_ := Aside0.mk (below_step (by repeat (first | (with_reducible first | exact HB.out | apply below_alloc | apply pw_below_drewN | apply below_drew1) | exact HB.out)) hb); clear HB; have HB := n0_; clear n0_; (try clear hb); (try clear hb2); (try clear hk); (try clear hi)))
                            go_ret
                            exact ⟨by first | rfl | (simp [errW_none, errW_some] <;> rfl) | (simp [*, errW_none, errW_some] <;> rfl), by repeat (first | (with_reducible first | exact HB.out | apply below_alloc | apply pw_below_drewN | apply below_drew1) | exact HB.out)⟩
                        · replace c30 := Bool.eq_false_iff.mpr c30
                          subst c30
                          have H1 : (some false) = some r := by rw [if_neg (show ¬ (false = true) by decide)] at H; exact H
                          clear H
                          have H := H1
                          clear H1
                          obtain rfl := Option.some.inj H
                          go_wp2_with (first | (go_at_call 16; (with_reducible refine (impl_Match.calls kj4 ((⟨#[42]⟩ : ByteArray) ++ t148) t149 true _ A22.out).mono ?_); rintro e w43 ⟨rfl, hb⟩; have n0_ := Aside0.mk (below_step (by repeat (first | (with_reducible first | exact HB.out | apply below_alloc | apply pw_below_drewN | apply below_drew1) | exact HB.out)) hb); clear HB; have HB := n0_; clear n0_; (try clear hb); (try clear hb2); (try clear hk); (try clear hi)) | (go_at_call 16; (with_reducible refine (impl_Match.calls kj4 ((⟨#[42]⟩ : ByteArray) ++ t148) ((⟨#[120]⟩ : ByteArray) ++ t149) true _ A25.out).mono ?_); rintro e w44 ⟨rfl, hb⟩; have n0_ := Aside0.mk (below_step (by repeat (first | (with_reducible first | exact HB.out | apply below_alloc | apply pw_below_drewN | apply below_drew1) | exact HB.out)) hb); clear HB; have HB := n0_; clear n0_; (try clear hb); (try clear hb2); (try clear hk); (try clear hi)) | (go_at_call 16; (with_reducible refine (impl_Match.calls kj4 (t148 ++ (⟨#[42]⟩ : ByteArray)) (t149 ++ (⟨#[120]⟩ : ByteArray)) false _ A29.out).mono ?_); rintro e w45 ⟨rfl, hb⟩; have n0_ := Aside0.mk (below_step (by repeat (first | (with_reducible first | exact HB.out | apply below_alloc | apply pw_below_drewN | apply below_drew1) | exact HB.out)) hb); clear HB; have HB := n0_; clear n0_; (try clear hb); (try clear hb2); (try clear hk); (try clear hi)))
                          go_ret
                          exact ⟨by first | rfl | (simp [errW_none, errW_some] <;> rfl) | (simp [*, errW_none, errW_some] <;> rfl), by repeat (first | (with_reducible first | exact HB.out | apply below_alloc | apply pw_below_drewN | apply below_drew1) | exact HB.out)⟩
                      · rw [if_neg c28] at H
                        exact absurd H (by simp)
                    · rw [if_neg c27] at H
                      exact absurd H (by simp)
                  · replace c26 := Bool.eq_false_iff.mpr c26
                    subst c26
                    have H1 : (some false) = some r := by rw [if_neg (show ¬ (false = true) by decide)] at H; exact H
                    clear H
                    have H := H1
                    clear H1
                    obtain rfl := Option.some.inj H
                    go_wp2_with (first | (go_at_call 16; (with_reducible refine (impl_Match.calls kj4 ((⟨#[42]⟩ : ByteArray) ++ t148) t149 true _ A22.out).mono ?_); rintro e w46 ⟨rfl, hb⟩; have n0_ := Aside0.mk (below_step (by repeat (first | (with_reducible first | exact HB.out | apply below_alloc | apply pw_below_drewN | apply below_drew1) | exact HB.out)) hb); clear HB; have HB := n0_; clear n0_; (try clear hb); (try clear hb2); (try clear hk); (try clear hi)) | (go_at_call 16; (with_reducible refine (impl_Match.calls kj4 ((⟨#[42]⟩ : ByteArray) ++ t148) ((⟨#[120]⟩ : ByteArray) ++ t149) false _ A25.out).mono ?_); rintro e w47 ⟨rfl, hb⟩; have n0_ := Aside0.mk (below_step (by repeat (first | (with_reducible first | exact HB.out | apply below_alloc | apply pw_below_drewN | apply below_drew1) | exact HB.out)) hb); clear HB; have HB := n0_; clear n0_; (try clear hb); (try clear hb2); (try clear hk); (try clear hi)))
                    go_ret
                    exact ⟨by first | rfl | (simp [errW_none, errW_some] <;> rfl) | (simp [*, errW_none, errW_some] <;> rfl), by repeat (first | (with_reducible first | exact HB.out | apply below_alloc | apply pw_below_drewN | apply below_drew1) | exact HB.out)⟩
                · rw [if_neg c24] at H
                  exact absurd H (by simp)
              · replace c23 := Bool.eq_false_iff.mpr c23
                subst c23
                have H1 : (some false) = some r := by rw [if_neg (show ¬ (false = true) by decide)] at H; exact H
                clear H
                have H := H1
                clear H1
                obtain rfl := Option.some.inj H
                go_wp2_with (first | (go_at_call 16; (with_reducible refine (impl_Match.calls kj4 ((⟨#[42]⟩ : ByteArray) ++ t148) t149 false _ A22.out).mono ?_); rintro e w48 ⟨rfl, hb⟩; have n0_ := Aside0.mk (below_step (by repeat (first | (with_reducible first | exact HB.out | apply below_alloc | apply pw_below_drewN | apply below_drew1) | exact HB.out)) hb); clear HB; have HB := n0_; clear n0_; (try clear hb); (try clear hb2); (try clear hk); (try clear hi)))
                go_ret
                exact ⟨by first | rfl | (simp [errW_none, errW_some] <;> rfl) | (simp [*, errW_none, errW_some] <;> rfl), by repeat (first | (with_reducible first | exact HB.out | apply below_alloc | apply pw_below_drewN | apply below_drew1) | exact HB.out)⟩
            · rw [if_neg c21] at H
              exact absurd H (by simp)
          · replace c20 := Bool.eq_false_iff.mpr c20
            subst c20
            have H1 : (if 1 + t148.size ≤ 9223372036854775807 then (if 1 + t149.size ≤ 9223372036854775807 then ((impl_Match.f kj4 ((⟨#[63]⟩ : ByteArray) ++ t148) ((⟨#[120]⟩ : ByteArray) ++ t149)).bind fun t159 => (if (t159 == false) = true then ((impl_Match.f kj4 ((⟨#[97]⟩ : ByteArray) ++ t148) ((⟨#[98]⟩ : ByteArray) ++ t149)).bind fun t160 => (some (t160 == false))) else (some false))) else (none)) else (none)) = some r := by rw [if_neg (show ¬ (false = true) by decide)] at H; exact H
            clear H
            have H := H1
            clear H1
            by_cases c49 : 1 + t148.size ≤ 9223372036854775807
            · rw [if_pos c49] at H
              have c49b0 := eq_true c49
              have c49b1 : decide (1 + t148.size ≤ 9223372036854775807) = true := decide_eq_true c49
              try have c49b2 : (9223372036854775807 < 1 + t148.size) = False := eq_false (Nat.not_lt.2 c49)
              by_cases c50 : 1 + t149.size ≤ 9223372036854775807
              · rw [if_pos c50] at H
                have c50b0 := eq_true c50
                have c50b1 : decide (1 + t149.size ≤ 9223372036854775807) = true := decide_eq_true c50
                try have c50b2 : (9223372036854775807 < 1 + t149.size) = False := eq_false (Nat.not_lt.2 c50)
                replace H := Option.bind_eq_some_iff.mp H
                obtain ⟨t159, A510, H⟩ := H
                replace H : (if (t159 == false) = true then ((impl_Match.f kj4 ((⟨#[97]⟩ : ByteArray) ++ t148) ((⟨#[98]⟩ : ByteArray) ++ t149)).bind fun t160 => (some (t160 == false))) else (some false)) = some r := H
                have A51 := Aside0.mk A510
                clear A510
                by_cases c52 : (t159 == false) = true
                · rw [if_pos c52] at H
                  have c52b0 : (t159 == false) = true := c52
                  (try (have c52b1 : decide (t159 = false) = true := by simpa using c52))
                  (try (have c52b2 : (t159 == false) = true := by simpa using c52))
                  clear c52
                  replace H := Option.bind_eq_some_iff.mp H
                  obtain ⟨t160, A530, H⟩ := H
                  replace H : (some (t160 == false)) = some r := H
                  have A53 := Aside0.mk A530
                  clear A530
                  obtain rfl := Option.some.inj H
                  go_wp2_with (first | (go_at_call 16; (with_reducible refine (impl_Match.calls kj4 ((⟨#[63]⟩ : ByteArray) ++ t148) ((⟨#[120]⟩ : ByteArray) ++ t149) t159 _ A51.out).mono ?_); rintro e w54 ⟨rfl, hb⟩; have n0_ := Aside0.mk (below_step (by repeat (first | (with_reducible first | exact HB.out | apply below_alloc | apply pw_below_drewN | apply below_drew1) | exact HB.out)) hb); clear HB; have HB := n0_; clear n0_; (try clear hb); (try clear hb2); (try clear hk); (try clear hi)) | (go_at_call 16; (with_reducible refine (impl_Match.calls kj4 ((⟨#[97]⟩ : ByteArray) ++ t148) ((⟨#[98]⟩ : ByteArray) ++ t149) t160 _ A53.out).mono ?_); rintro e w55 ⟨rfl, hb⟩; have n0_ := Aside0.mk (below_step (by repeat (first | (with_reducible first | exact HB.out | apply below_alloc | apply pw_below_drewN | apply below_drew1) | exact HB.out)) hb); clear HB; have HB := n0_; clear n0_; (try clear hb); (try clear hb2); (try clear hk); (try clear hi)))
                  go_ret
                  exact ⟨by first | rfl | (simp [errW_none, errW_some] <;> rfl) | (simp [*, errW_none, errW_some] <;> rfl), by repeat (first | (with_reducible first | exact HB.out | apply below_alloc | apply pw_below_drewN | apply below_drew1) | exact HB.out)⟩
                · rw [if_neg c52] at H
                  have c52b0 : (t159 == false) = false := by simpa using c52
                  (try (have c52b1 : decide (t159 = false) = false := by simpa using c52))
                  (try (have c52b2 : (t159 == false) = false := by simpa using c52))
                  (try (have c52b3 : ¬ (t159 = false) := by simpa using c52))
                  clear c52
                  obtain rfl := Option.some.inj H
                  go_wp2_with (first | (go_at_call 16; (with_reducible refine (impl_Match.calls kj4 ((⟨#[63]⟩ : ByteArray) ++ t148) ((⟨#[120]⟩ : ByteArray) ++ t149) t159 _ A51.out).mono ?_); rintro e w56 ⟨rfl, hb⟩; have n0_ := Aside0.mk (below_step (by repeat (first | (with_reducible first | exact HB.out | apply below_alloc | apply pw_below_drewN | apply below_drew1) | exact HB.out)) hb); clear HB; have HB := n0_; clear n0_; (try clear hb); (try clear hb2); (try clear hk); (try clear hi)))
                  go_ret
                  exact ⟨by first | rfl | (simp [errW_none, errW_some] <;> rfl) | (simp [*, errW_none, errW_some] <;> rfl), by repeat (first | (with_reducible first | exact HB.out | apply below_alloc | apply pw_below_drewN | apply below_drew1) | exact HB.out)⟩
              · rw [if_neg c50] at H
                exact absurd H (by simp)
            · rw [if_neg c49] at H
              exact absurd H (by simp)

/-- THE ONE PURE STATEMENT of laws_FnMatch: yours. -/
def laws_FnMatch.Pure : Prop := ∀ (l0 : List Int), l0.length ≤ maxLen → l0.length * 1 ≤ 140737488351232 → (∀ x ∈ l0, (Lit.int .u8 x).wf = true) → ∃ k, laws_FnMatch.f k l0 = some true
theorem laws_FnMatch.walk (P : laws_FnMatch.Pure) (a0 : Option Addr) (len0 cap0 : Nat) (z0 : List Int) (w : World) (w0 : (a0 = none ∧ len0 = 0 ∧ cap0 = 0 ∧ z0 = []) ∨ ∃ x, a0 = some x ∧ len0 ≤ cap0 ∧ cap0 ≤ maxLen ∧ z0.length = cap0 ∧ (∀ i, i < z0.length → w.cell? (x.add i) = some (.int .u8 (z0.getD i 0))) ∧ ∀ n ∈ z0, (Lit.int .u8 n).wf = true) (y0 : len0 * 1 ≤ 140737488351232) :
    Calls Try.prog 5 #[.slice a0 len0 cap0] w fun e w' => e = .returned (.bool true) ∧ Below w.heap.size w w' := by
  obtain ⟨l0, rfl, hr0, hm0, hw0, hc0⟩ := ReadsInt.ofRowC w0
  obtain ⟨k, h⟩ := P l0 hm0 y0 hw0
  refine (laws_FnMatch.calls k _ _ l0 true w (Kd.C_of_reads (d := (0 : Int)) (h1 := fun _ => rfl) hr0) hc0 h).mono ?_
  rintro e w' ⟨rfl, hd⟩
  exact ⟨rfl, hd⟩

end Go.Proofs.Ytaoeibfegfkdjaa.P
