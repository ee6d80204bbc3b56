-- Written by wip/px.py of this session, over the kit's print.py. Not trusted: Lean checks it.
import Derived.Test.YthdbjegppeekoaaPx0
import Derived.Test.YthdbjegppeekoaaPx1
import Derived.Test.YthdbjegppeekoaaPx6
import Derived.Test.YthdbjegppeekoaaPx7
namespace Go.Proofs.Ythdbjegppeekoaa.P
open Go.RowKit Go.Proofs.YthdbjegppeekoaaW.PrintWords Go.Proofs.YthdbjegppeekoaaW.PrintLast Go.Proofs.YthdbjegppeekoaaW.PrintMore
attribute [local go_sem] max2_int min2_int max_two min_two max_three min_three max_four min_four   -- for this text's walks alone
set_option linter.unusedVariables false
set_option linter.unusedSimpArgs false

/-! ### impl_wire_number: the walk -/
set_option maxHeartbeats 8000000 in
set_option maxRecDepth 100000 in
theorem impl_wire_number.calls (k : Nat) (g : Nat) (s0_0 : ByteArray) (s0_1 : Int) (s0_2 : Bool) (s0_3 : Bool) (a1 : Int) (a2 : Int) (a3 : Int) (r1 : Int) (r2 : ByteArray) (r3 : Int) (r4 : Bool) (r5 : Bool) (w0 w : World) (hI : IsS32 w0 w g s0_0 s0_1 s0_2 s0_3) (hB : Below w0.heap.size w0 w) (h : impl_wire_number.f k s0_0 s0_1 s0_2 s0_3 a1 a2 a3 = some (r1, r2, r3, r4, r5)) :
    Calls Try.prog 10 #[.pointer (some ⟨g, 0, none⟩), .int .u8 a1, .int .i64 a2, .int .i64 a3] w fun e w' => e = .returned (.int .i64 r1) ∧ IsS32 w0 w' g r2 r3 r4 r5 ∧ Below w0.heap.size w0 w' ∧ KeepBut w w' g none := by
  have HI0 := Aside0.mk hI
  have HK := Aside0.mk (KeepBut.refl w g none)
  have HL := Aside0.mk hB.size
  clear hI
  have HW0 := Aside0.mk hB.size
  have HB := Aside0.mk hB
  clear hB
  have H : ((impl_wire_byte.f k s0_0 s0_1 s0_2 s0_3 a1).bind fun bt129 => (impl_wire_number.l0 k a2 a3 0 bt129.2.1 bt129.1 bt129.2.1 bt129.2.2.1 bt129.2.2.2)) = some (r1, r2, r3, r4, r5) := h
  clear h
  replace H := Option.bind_eq_some_iff.mp H
  obtain ⟨⟨t129, t130, t131, t132⟩, A50, H⟩ := H
  replace H : (impl_wire_number.l0 k a2 a3 0 t130 t129 t130 t131 t132) = some (r1, r2, r3, r4, r5) := H
  have A5 := Aside0.mk A50
  clear A50
  have HC6 := Aside0.mk H
  clear H
  go_enter Try.func10, Try.ntmps10
  go_upto_block 0 with (first | (go_at_call 11; (with_reducible refine (impl_wire_byte.calls k g s0_0 s0_1 s0_2 s0_3 a1 t129 t130 t131 t132 w0 _ ?side1 ?side2 A5.out).mono ?_); (case side1 => repeat (first | (with_reducible first | exact HI0.out | apply IsS32.alloc | apply IsS32.drewN | apply IsS32.drew | apply IsS32.set_0 | apply IsS32.set_1 | apply IsS32.set_2 | apply IsS32.set_3) | exact HI0.out)); (case side2 => exact b1 HB (Aside0.mk (IsS32.ge HI0.out))); rintro e w7 ⟨rfl, hi, hb, hk⟩; have n0_ := Aside0.mk (KeepBut.trans (by exact kz HK) hk (.inl rfl)); have n1_ := Aside0.mk (hb); have n2_ := Aside0.mk (hi); clear HK; clear HB; clear HI0; have HK := n0_; have HB := n1_; have HI0 := n2_; clear n0_ n1_ n2_; (try clear hb); (try clear hb2); (try clear hk); (try clear hi); obtain ⟨HGz8, hgz8⟩ := HI0.out; have hcz8_0 := cellS32_0 HGz8; have hcz8_1 := cellS32_1 HGz8; have hcz8_2 := cellS32_2 HGz8; have hcz8_3 := cellS32_3 HGz8; have hfz8_0 := blk_frozen HGz8 0; have hfz8_1 := blk_frozen HGz8 1; have hfz8_2 := blk_frozen HGz8 2; have hfz8_3 := blk_frozen HGz8 3; clear HGz8 hgz8))
  repeat (go_quiet (first | (go_at_call 11; (with_reducible refine (impl_wire_byte.calls k g s0_0 s0_1 s0_2 s0_3 a1 t129 t130 t131 t132 w0 _ ?side1 ?side2 A5.out).mono ?_); (case side1 => repeat (first | (with_reducible first | exact HI0.out | apply IsS32.alloc | apply IsS32.drewN | apply IsS32.drew | apply IsS32.set_0 | apply IsS32.set_1 | apply IsS32.set_2 | apply IsS32.set_3) | exact HI0.out)); (case side2 => exact b1 HB (Aside0.mk (IsS32.ge HI0.out))); rintro e w7 ⟨rfl, hi, hb, hk⟩; have n0_ := Aside0.mk (KeepBut.trans (by exact kz HK) hk (.inl rfl)); have n1_ := Aside0.mk (hb); have n2_ := Aside0.mk (hi); clear HK; clear HB; clear HI0; have HK := n0_; have HB := n1_; have HI0 := n2_; clear n0_ n1_ n2_; (try clear hb); (try clear hb2); (try clear hk); (try clear hi); obtain ⟨HGz8, hgz8⟩ := HI0.out; have hcz8_0 := cellS32_0 HGz8; have hcz8_1 := cellS32_1 HGz8; have hcz8_2 := cellS32_2 HGz8; have hcz8_3 := cellS32_3 HGz8; have hfz8_0 := blk_frozen HGz8 0; have hfz8_1 := blk_frozen HGz8 1; have hfz8_2 := blk_frozen HGz8 2; have hfz8_3 := blk_frozen HGz8 3; clear HGz8 hgz8)); go_upto_block 0 with (first | (go_at_call 11; (with_reducible refine (impl_wire_byte.calls k g s0_0 s0_1 s0_2 s0_3 a1 t129 t130 t131 t132 w0 _ ?side1 ?side2 A5.out).mono ?_); (case side1 => repeat (first | (with_reducible first | exact HI0.out | apply IsS32.alloc | apply IsS32.drewN | apply IsS32.drew | apply IsS32.set_0 | apply IsS32.set_1 | apply IsS32.set_2 | apply IsS32.set_3) | exact HI0.out)); (case side2 => exact b1 HB (Aside0.mk (IsS32.ge HI0.out))); rintro e w7 ⟨rfl, hi, hb, hk⟩; have n0_ := Aside0.mk (KeepBut.trans (by exact kz HK) hk (.inl rfl)); have n1_ := Aside0.mk (hb); have n2_ := Aside0.mk (hi); clear HK; clear HB; clear HI0; have HK := n0_; have HB := n1_; have HI0 := n2_; clear n0_ n1_ n2_; (try clear hb); (try clear hb2); (try clear hk); (try clear hi); obtain ⟨HGz8, hgz8⟩ := HI0.out; have hcz8_0 := cellS32_0 HGz8; have hcz8_1 := cellS32_1 HGz8; have hcz8_2 := cellS32_2 HGz8; have hcz8_3 := cellS32_3 HGz8; have hfz8_0 := blk_frozen HGz8 0; have hfz8_1 := blk_frozen HGz8 1; have hfz8_2 := blk_frozen HGz8 2; have hfz8_3 := blk_frozen HGz8 3; clear HGz8 hgz8)))
  (try simp only [Act.put, List.setIfInBounds_toArray, List.set_cons_zero, List.set_cons_succ])
  go_cut [9] (fun v9 wc => ∃ (kq : Nat) (x9_5 : Int) (x1001_5 : Int) (x1002_5 : Bool) (x1003_5 : Bool), v9 = .int .i64 x9_5 ∧ Aside0 (impl_wire_number.j4 kq x9_5 t130 t129 x1001_5 x1002_5 x1003_5 = some (r1, r2, r3, r4, r5)) ∧ Aside0 (kq ≤ k) ∧ Aside0 (IsS32 w0 wc g t129 x1001_5 x1002_5 x1003_5) ∧ Aside0 (KeepBut w wc g none) ∧ Aside0 (Below w0.heap.size w0 wc))
  case first =>
    have H := HC6.out
    clear HC6
    have H' := Aside0.mk H
    clear H
    go_wp2
    repeat (go_quiet (fail); try go_wp2)
    go_loopg [9] k (fun kq v9 w' => ∃ (x9_1 : Int) (x1001_1 : Int) (x1002_1 : Bool) (x1003_1 : Bool), v9 = .int .i64 x9_1 ∧ Aside0 (impl_wire_number.l0 kq a2 a3 x9_1 t130 t129 x1001_1 x1002_1 x1003_1 = some (r1, r2, r3, r4, r5)) ∧ Aside0 (kq ≤ k) ∧ Aside0 (IsS32 w0 w' g t129 x1001_1 x1002_1 x1003_1) ∧ Aside0 (KeepBut w w' g none) ∧ Aside0 (Below w0.heap.size w0 w'))
    case atStart => exact ⟨(0), (t130), (t131), (t132), (by first | rfl | (simp; done) | (simp [*]; done)), H', ⟨Nat.le_refl _⟩, ⟨by repeat (first | (with_reducible first | exact HI0.out | apply IsS32.alloc | apply IsS32.drewN | apply IsS32.drew | apply IsS32.set_0 | apply IsS32.set_1 | apply IsS32.set_2 | apply IsS32.set_3) | exact HI0.out)⟩, ⟨by exact kz HK⟩, ⟨by exact b1 HB (Aside0.mk (IsS32.ge HI0.out))⟩⟩
    case round =>
      clear H'
      try clear c1
      try clear p2
      try clear hcz8_0
      try clear hcz8_1
      try clear hcz8_2
      try clear hcz8_3
      try clear hfz8_0
      try clear hfz8_1
      try clear hfz8_2
      try clear hfz8_3
      obtain ⟨x9_1, x1001_1, x1002_1, x1003_1, rfl, HA, HK1, HI0, HK, HB⟩ := hrel
      cases gk with
      | zero => exact absurd HA.out (by simp [impl_wire_number.l0])
      | succ k1 =>
        have H := HA.out
        clear HA
        simp only [impl_wire_number.l0] at H
        have HC9 := Aside0.mk H
        clear H
        go_upto_region 3 with (fail)
        repeat (go_quiet (fail); go_upto_region 3 with (fail))
        go_cut [30] (fun v30 wc => ∃ (kq : Nat) (x30_8 : Bool), v30 = .bool x30_8 ∧ Aside0 (impl_wire_number.j1 kq a2 a3 x9_1 t130 x30_8 t129 x1001_1 x1002_1 x1003_1 = some (r1, r2, r3, r4, r5)) ∧ Aside0 (kq ≤ k1) ∧ Aside0 (IsS32 w0 wc g t129 x1001_1 x1002_1 x1003_1) ∧ Aside0 (KeepBut w wc g none) ∧ Aside0 (Below w0.heap.size w0 wc))
        case first =>
          have H := HC9.out
          clear HC9
          by_cases c10 : x1002_1 = true
          · subst c10
            have H1 : (impl_wire_number.j1 k1 a2 a3 x9_1 t130 false t129 x1001_1 true x1003_1) = some (r1, r2, r3, r4, r5) := by rw [if_pos rfl] at H; exact H
            clear H
            have H := H1
            clear H1
            have H' := Aside0.mk H
            clear H
            obtain ⟨HGz11, hgz11⟩ := HI0.out
            have hcz11_0 := cellS32_0 HGz11
            have hcz11_1 := cellS32_1 HGz11
            have hcz11_2 := cellS32_2 HGz11
            have hcz11_3 := cellS32_3 HGz11
            have hfz11_0 := blk_frozen HGz11 0
            have hfz11_1 := blk_frozen HGz11 1
            have hfz11_2 := blk_frozen HGz11 2
            have hfz11_3 := blk_frozen HGz11 3
            clear HGz11 hgz11
            go_wp2
            repeat (go_quiet (fail); try go_wp2)
            go_meet
            case rel => exact ⟨_, (false), (by first | rfl | (simp; done) | (simp [*]; done)), H', ⟨by have := HK1.out; first | omega | exact Nat.le_refl _⟩, ⟨by repeat (first | (with_reducible first | exact HI0.out | apply IsS32.alloc | apply IsS32.drewN | apply IsS32.drew | apply IsS32.set_0 | apply IsS32.set_1 | apply IsS32.set_2 | apply IsS32.set_3) | exact HI0.out)⟩, ⟨by exact kz HK⟩, ⟨by exact b1 HB (Aside0.mk (IsS32.ge HI0.out))⟩⟩
          · replace c10 := Bool.eq_false_iff.mpr c10
            subst c10
            have H1 : (impl_wire_number.j1 k1 a2 a3 x9_1 t130 (!x1003_1) t129 x1001_1 false x1003_1) = some (r1, r2, r3, r4, r5) := by rw [if_neg (show ¬ (false = true) by decide)] at H; exact H
            clear H
            have H := H1
            clear H1
            have H' := Aside0.mk H
            clear H
            obtain ⟨HGz12, hgz12⟩ := HI0.out
            have hcz12_0 := cellS32_0 HGz12
            have hcz12_1 := cellS32_1 HGz12
            have hcz12_2 := cellS32_2 HGz12
            have hcz12_3 := cellS32_3 HGz12
            have hfz12_0 := blk_frozen HGz12 0
            have hfz12_1 := blk_frozen HGz12 1
            have hfz12_2 := blk_frozen HGz12 2
            have hfz12_3 := blk_frozen HGz12 3
            clear HGz12 hgz12
            go_wp2
            repeat (go_quiet (fail); try go_wp2)
            go_meet
            case rel => exact ⟨_, (!x1003_1), (by first | rfl | (simp; done) | (simp [*]; done)), H', ⟨by have := HK1.out; first | omega | exact Nat.le_refl _⟩, ⟨by repeat (first | (with_reducible first | exact HI0.out | apply IsS32.alloc | apply IsS32.drewN | apply IsS32.drew | apply IsS32.set_0 | apply IsS32.set_1 | apply IsS32.set_2 | apply IsS32.set_3) | exact HI0.out)⟩, ⟨by exact kz HK⟩, ⟨by exact b1 HB (Aside0.mk (IsS32.ge HI0.out))⟩⟩
        case rest =>
          clear HC9
          try clear c1
          try clear p2
          try clear c10
          try clear hcz11_0
          try clear hcz11_1
          try clear hcz11_2
          try clear hcz11_3
          try clear hcz12_0
          try clear hcz12_1
          try clear hcz12_2
          try clear hcz12_3
          try clear hcz8_0
          try clear hcz8_1
          try clear hcz8_2
          try clear hcz8_3
          try clear hfz11_0
          try clear hfz11_1
          try clear hfz11_2
          try clear hfz11_3
          try clear hfz12_0
          try clear hfz12_1
          try clear hfz12_2
          try clear hfz12_3
          try clear hfz8_0
          try clear hfz8_1
          try clear hfz8_2
          try clear hfz8_3
          try clear p2
          obtain ⟨kq, x30_8, rfl, HA, HJ8, HI0, HK, HB⟩ := hcut
          cases kq with
          | zero => exact absurd HA.out (by simp [impl_wire_number.j1])
          | succ kj8 =>
            have H := HA.out
            clear HA
            simp only [impl_wire_number.j1] at H
            by_cases c13 : x30_8 = true
            · subst c13
              have H1 : (if x1001_1 = (t129.size : Int) then (impl_wire_number.j4 kj8 x9_1 t130 t129 x1001_1 true x1003_1) else (if 0 ≤ x1001_1 then (if x1001_1 < (t129.size : Int) then (if (bt t129 x1001_1) < 48 then (impl_wire_number.j2 kj8 a2 a3 x9_1 t130 (bt t129 x1001_1) true t129 x1001_1 x1002_1 x1003_1) else (impl_wire_number.j2 kj8 a2 a3 x9_1 t130 (bt t129 x1001_1) (decide ((bt t129 x1001_1) > 57)) t129 x1001_1 x1002_1 x1003_1)) else (none)) else (none))) = some (r1, r2, r3, r4, r5) := by rw [if_pos rfl] at H; exact H
              clear H
              have H := H1
              clear H1
              by_cases c14 : x1001_1 = (t129.size : Int)
              · rw [if_pos c14] at H
                have c14b0 : (x1001_1 == (t129.size : Int)) = true := beq_iff_eq.mpr c14
                have c14b1 : (x1001_1 != (t129.size : Int)) = false := bne_eq_false_iff_eq.mpr c14
                clear c14
                have H' := Aside0.mk H
                clear H
                obtain ⟨HGz15, hgz15⟩ := HI0.out
                have hcz15_0 := cellS32_0 HGz15
                have hcz15_1 := cellS32_1 HGz15
                have hcz15_2 := cellS32_2 HGz15
                have hcz15_3 := cellS32_3 HGz15
                have hfz15_0 := blk_frozen HGz15 0
                have hfz15_1 := blk_frozen HGz15 1
                have hfz15_2 := blk_frozen HGz15 2
                have hfz15_3 := blk_frozen HGz15 3
                clear HGz15 hgz15
                go_wp2
                repeat (go_quiet (fail); try go_wp2)
                go_meet
                case rel => exact ⟨_, (x9_1), (x1001_1), (true), (x1003_1), (by first | rfl | (simp; done) | (simp [*]; done)), H', ⟨by have := HK1.out; have := HJ8.out; first | omega | exact Nat.le_refl _⟩, ⟨by repeat (first | (with_reducible first | exact HI0.out | apply IsS32.alloc | apply IsS32.drewN | apply IsS32.drew | apply IsS32.set_0 | apply IsS32.set_1 | apply IsS32.set_2 | apply IsS32.set_3) | exact HI0.out)⟩, ⟨by exact kz HK⟩, ⟨by exact b1 HB (Aside0.mk (IsS32.ge HI0.out))⟩⟩
              · rw [if_neg c14] at H
                have c14b0 : (x1001_1 == (t129.size : Int)) = false := beq_eq_false_iff_ne.mpr c14
                have c14b1 : (x1001_1 != (t129.size : Int)) = true := bne_iff_ne.mpr c14
                by_cases c16 : 0 ≤ x1001_1
                · rw [if_pos c16] at H
                  have c16b0 : decide (0 ≤ x1001_1) = true := decide_eq_true c16
                  clear c16
                  by_cases c17 : x1001_1 < (t129.size : Int)
                  · rw [if_pos c17] at H
                    have c17b0 : decide (x1001_1 < (t129.size : Int)) = true := decide_eq_true c17
                    clear c17
                    have HC19 := Aside0.mk H
                    clear H
                    obtain ⟨HGz20, hgz20⟩ := HI0.out
                    have hcz20_0 := cellS32_0 HGz20
                    have hcz20_1 := cellS32_1 HGz20
                    have hcz20_2 := cellS32_2 HGz20
                    have hcz20_3 := cellS32_3 HGz20
                    have hfz20_0 := blk_frozen HGz20 0
                    have hfz20_1 := blk_frozen HGz20 1
                    have hfz20_2 := blk_frozen HGz20 2
                    have hfz20_3 := blk_frozen HGz20 3
                    clear HGz20 hgz20
                    have p18 : 0 ≤ (x1001_1 : Int) := of_decide_eq_true ‹_›
                    have q18 : x1001_1 < (t129.size : Int) := of_decide_eq_true ‹_›
                    have hx18 := bt_at t129 x1001_1
                    replace p18 := eq_true p18
                    replace q18 := eq_true q18
                    go_upto_region 7 with (fail)
                    repeat (go_quiet (fail); go_upto_region 7 with (fail))
                    go_cut [58] (fun v58 wc => ∃ (kq : Nat) (x58_18 : Bool), v58 = .bool x58_18 ∧ Aside0 (impl_wire_number.j2 kq a2 a3 x9_1 t130 (bt t129 x1001_1) x58_18 t129 x1001_1 x1002_1 x1003_1 = some (r1, r2, r3, r4, r5)) ∧ Aside0 (kq ≤ kj8) ∧ Aside0 (IsS32 w0 wc g t129 x1001_1 x1002_1 x1003_1) ∧ Aside0 (KeepBut w wc g none) ∧ Aside0 (Below w0.heap.size w0 wc))
                    case first =>
                      have H := HC19.out
                      clear HC19
                      by_cases c21 : (bt t129 x1001_1) < 48
                      · rw [if_pos c21] at H
                        have c21b0 : decide ((bt t129 x1001_1) < 48) = true := decide_eq_true c21
                        clear c21
                        (first | rw [c21b0] | (simp only [i64_w, i32_w]; rw [c21b0]) | skip)
                        have H' := Aside0.mk H
                        clear H
                        go_wp2
                        repeat (go_quiet (fail); try go_wp2)
                        go_meet
                        case rel => exact ⟨_, (true), (by first | rfl | (simp; done) | (simp [*]; done)), H', ⟨by have := HK1.out; have := HJ8.out; first | omega | exact Nat.le_refl _⟩, ⟨by repeat (first | (with_reducible first | exact HI0.out | apply IsS32.alloc | apply IsS32.drewN | apply IsS32.drew | apply IsS32.set_0 | apply IsS32.set_1 | apply IsS32.set_2 | apply IsS32.set_3) | exact HI0.out)⟩, ⟨by exact kz HK⟩, ⟨by exact b1 HB (Aside0.mk (IsS32.ge HI0.out))⟩⟩
                      · rw [if_neg c21] at H
                        have c21b0 : decide ((bt t129 x1001_1) < 48) = false := decide_eq_false c21
                        clear c21
                        (first | rw [c21b0] | (simp only [i64_w, i32_w]; rw [c21b0]) | skip)
                        have H' := Aside0.mk H
                        clear H
                        go_wp2
                        repeat (go_quiet (fail); try go_wp2)
                        go_meet
                        case rel => exact ⟨_, (decide ((bt t129 x1001_1) > 57)), (by first | rfl | (simp; done) | (simp [*]; done)), H', ⟨by have := HK1.out; have := HJ8.out; first | omega | exact Nat.le_refl _⟩, ⟨by repeat (first | (with_reducible first | exact HI0.out | apply IsS32.alloc | apply IsS32.drewN | apply IsS32.drew | apply IsS32.set_0 | apply IsS32.set_1 | apply IsS32.set_2 | apply IsS32.set_3) | exact HI0.out)⟩, ⟨by exact kz HK⟩, ⟨by exact b1 HB (Aside0.mk (IsS32.ge HI0.out))⟩⟩
                    case rest =>
                      clear HC19
                      try clear c1
                      try clear p1
                      try clear q1
                      try clear hx1
                      try clear c2
                      try clear p2
                      try clear c10
                      try clear c13
                      try clear c14
                      try clear c14b0
                      try clear c14b1
                      try clear c16
                      try clear c16b0
                      try clear c17
                      try clear c17b0
                      try clear p18
                      try clear q18
                      try clear hx18
                      try clear c21
                      try clear c21b0
                      try clear hcz11_0
                      try clear hcz11_1
                      try clear hcz11_2
                      try clear hcz11_3
                      try clear hcz12_0
                      try clear hcz12_1
                      try clear hcz12_2
                      try clear hcz12_3
                      try clear hcz15_0
                      try clear hcz15_1
                      try clear hcz15_2
                      try clear hcz15_3
                      try clear hcz20_0
                      try clear hcz20_1
                      try clear hcz20_2
                      try clear hcz20_3
                      try clear hcz8_0
                      try clear hcz8_1
                      try clear hcz8_2
                      try clear hcz8_3
                      try clear hfz11_0
                      try clear hfz11_1
                      try clear hfz11_2
                      try clear hfz11_3
                      try clear hfz12_0
                      try clear hfz12_1
                      try clear hfz12_2
                      try clear hfz12_3
                      try clear hfz15_0
                      try clear hfz15_1
                      try clear hfz15_2
                      try clear hfz15_3
                      try clear hfz20_0
                      try clear hfz20_1
                      try clear hfz20_2
                      try clear hfz20_3
                      try clear hfz8_0
                      try clear hfz8_1
                      try clear hfz8_2
                      try clear hfz8_3
                      try clear p18
                      try clear p2
                      try clear q18
                      obtain ⟨kq, x58_18, rfl, HA, HJ18, HI0, HK, HB⟩ := hcut
                      cases kq with
                      | zero => exact absurd HA.out (by simp [impl_wire_number.j2])
                      | succ kj18 =>
                        have H := HA.out
                        clear HA
                        simp only [impl_wire_number.j2] at H
                        by_cases c22 : x58_18 = true
                        · subst c22
                          have H1 : (impl_wire_number.j4 kj18 x9_1 t130 t129 x1001_1 x1002_1 x1003_1) = some (r1, r2, r3, r4, r5) := by rw [if_pos rfl] at H; exact H
                          clear H
                          have H := H1
                          clear H1
                          have H' := Aside0.mk H
                          clear H
                          go_wp2
                          repeat (go_quiet (fail); try go_wp2)
                          go_meet
                          case rel => exact ⟨_, (x9_1), (x1001_1), (x1002_1), (x1003_1), (by first | rfl | (simp; done) | (simp [*]; done)), H', ⟨by have := HK1.out; have := HJ8.out; have := HJ18.out; first | omega | exact Nat.le_refl _⟩, ⟨by repeat (first | (with_reducible first | exact HI0.out | apply IsS32.alloc | apply IsS32.drewN | apply IsS32.drew | apply IsS32.set_0 | apply IsS32.set_1 | apply IsS32.set_2 | apply IsS32.set_3) | exact HI0.out)⟩, ⟨by exact kz HK⟩, ⟨by exact b1 HB (Aside0.mk (IsS32.ge HI0.out))⟩⟩
                        · replace c22 := Bool.eq_false_iff.mpr c22
                          subst c22
                          have H1 : (if x1001_1 > t130 then (impl_wire_number.j3 kj18 a2 a3 x9_1 t130 (bt t129 x1001_1) (x9_1 == 0) t129 x1001_1 x1002_1 x1003_1) else (impl_wire_number.j3 kj18 a2 a3 x9_1 t130 (bt t129 x1001_1) false t129 x1001_1 x1002_1 x1003_1)) = some (r1, r2, r3, r4, r5) := by rw [if_neg (show ¬ (false = true) by decide)] at H; exact H
                          clear H
                          have H := H1
                          clear H1
                          have HC23 := Aside0.mk H
                          clear H
                          go_upto_region 8 with (fail)
                          repeat (go_quiet (fail); go_upto_region 8 with (fail))
                          go_cut [68] (fun v68 wc => ∃ (kq : Nat) (x68_22 : Bool), v68 = .bool x68_22 ∧ Aside0 (impl_wire_number.j3 kq a2 a3 x9_1 t130 (bt t129 x1001_1) x68_22 t129 x1001_1 x1002_1 x1003_1 = some (r1, r2, r3, r4, r5)) ∧ Aside0 (kq ≤ kj18) ∧ Aside0 (IsS32 w0 wc g t129 x1001_1 x1002_1 x1003_1) ∧ Aside0 (KeepBut w wc g none) ∧ Aside0 (Below w0.heap.size w0 wc))
                          case first =>
                            have H := HC23.out
                            clear HC23
                            by_cases c24 : x1001_1 > t130
                            · rw [if_pos c24] at H
                              have c24b0 : decide (t130 < x1001_1) = true := decide_eq_true c24
                              clear c24
                              (first | rw [c24b0] | (simp only [i64_w, i32_w]; rw [c24b0]) | skip)
                              have H' := Aside0.mk H
                              clear H
                              obtain ⟨HGz25, hgz25⟩ := HI0.out
                              have hcz25_0 := cellS32_0 HGz25
                              have hcz25_1 := cellS32_1 HGz25
                              have hcz25_2 := cellS32_2 HGz25
                              have hcz25_3 := cellS32_3 HGz25
                              have hfz25_0 := blk_frozen HGz25 0
                              have hfz25_1 := blk_frozen HGz25 1
                              have hfz25_2 := blk_frozen HGz25 2
                              have hfz25_3 := blk_frozen HGz25 3
                              clear HGz25 hgz25
                              go_wp2
                              repeat (go_quiet (fail); try go_wp2)
                              go_meet
                              case rel => exact ⟨_, ((x9_1 == 0)), (by first | rfl | (simp; done) | (simp [*]; done)), H', ⟨by have := HK1.out; have := HJ8.out; have := HJ18.out; first | omega | exact Nat.le_refl _⟩, ⟨by repeat (first | (with_reducible first | exact HI0.out | apply IsS32.alloc | apply IsS32.drewN | apply IsS32.drew | apply IsS32.set_0 | apply IsS32.set_1 | apply IsS32.set_2 | apply IsS32.set_3) | exact HI0.out)⟩, ⟨by exact kz HK⟩, ⟨by exact b1 HB (Aside0.mk (IsS32.ge HI0.out))⟩⟩
                            · rw [if_neg c24] at H
                              have c24b0 : decide (t130 < x1001_1) = false := decide_eq_false c24
                              clear c24
                              (first | rw [c24b0] | (simp only [i64_w, i32_w]; rw [c24b0]) | skip)
                              have H' := Aside0.mk H
                              clear H
                              obtain ⟨HGz26, hgz26⟩ := HI0.out
                              have hcz26_0 := cellS32_0 HGz26
                              have hcz26_1 := cellS32_1 HGz26
                              have hcz26_2 := cellS32_2 HGz26
                              have hcz26_3 := cellS32_3 HGz26
                              have hfz26_0 := blk_frozen HGz26 0
                              have hfz26_1 := blk_frozen HGz26 1
                              have hfz26_2 := blk_frozen HGz26 2
                              have hfz26_3 := blk_frozen HGz26 3
                              clear HGz26 hgz26
                              go_wp2
                              repeat (go_quiet (fail); try go_wp2)
                              go_meet
                              case rel => exact ⟨_, (false), (by first | rfl | (simp; done) | (simp [*]; done)), H', ⟨by have := HK1.out; have := HJ8.out; have := HJ18.out; first | omega | exact Nat.le_refl _⟩, ⟨by repeat (first | (with_reducible first | exact HI0.out | apply IsS32.alloc | apply IsS32.drewN | apply IsS32.drew | apply IsS32.set_0 | apply IsS32.set_1 | apply IsS32.set_2 | apply IsS32.set_3) | exact HI0.out)⟩, ⟨by exact kz HK⟩, ⟨by exact b1 HB (Aside0.mk (IsS32.ge HI0.out))⟩⟩
                          case rest =>
                            clear HC23
                            try clear c1
                            try clear p1
                            try clear q1
                            try clear hx1
                            try clear c2
                            try clear p2
                            try clear c10
                            try clear c13
                            try clear c14
                            try clear c14b0
                            try clear c14b1
                            try clear c16
                            try clear c16b0
                            try clear c17
                            try clear c17b0
                            try clear p18
                            try clear q18
                            try clear hx18
                            try clear c21
                            try clear c21b0
                            try clear c22
                            try clear c24
                            try clear c24b0
                            try clear hcz11_0
                            try clear hcz11_1
                            try clear hcz11_2
                            try clear hcz11_3
                            try clear hcz12_0
                            try clear hcz12_1
                            try clear hcz12_2
                            try clear hcz12_3
                            try clear hcz15_0
                            try clear hcz15_1
                            try clear hcz15_2
                            try clear hcz15_3
                            try clear hcz20_0
                            try clear hcz20_1
                            try clear hcz20_2
                            try clear hcz20_3
                            try clear hcz25_0
                            try clear hcz25_1
                            try clear hcz25_2
                            try clear hcz25_3
                            try clear hcz26_0
                            try clear hcz26_1
                            try clear hcz26_2
                            try clear hcz26_3
                            try clear hcz8_0
                            try clear hcz8_1
                            try clear hcz8_2
                            try clear hcz8_3
                            try clear hfz11_0
                            try clear hfz11_1
                            try clear hfz11_2
                            try clear hfz11_3
                            try clear hfz12_0
                            try clear hfz12_1
                            try clear hfz12_2
                            try clear hfz12_3
                            try clear hfz15_0
                            try clear hfz15_1
                            try clear hfz15_2
                            try clear hfz15_3
                            try clear hfz20_0
                            try clear hfz20_1
                            try clear hfz20_2
                            try clear hfz20_3
                            try clear hfz25_0
                            try clear hfz25_1
                            try clear hfz25_2
                            try clear hfz25_3
                            try clear hfz26_0
                            try clear hfz26_1
                            try clear hfz26_2
                            try clear hfz26_3
                            try clear hfz8_0
                            try clear hfz8_1
                            try clear hfz8_2
                            try clear hfz8_3
                            try clear p1
                            try clear p18
                            try clear p2
                            try clear q1
                            try clear q18
                            obtain ⟨kq, x68_22, rfl, HA, HJ22, HI0, HK, HB⟩ := hcut
                            cases kq with
                            | zero => exact absurd HA.out (by simp [impl_wire_number.j3])
                            | succ kj22 =>
                              have H := HA.out
                              clear HA
                              simp only [impl_wire_number.j3] at H
                              by_cases c27 : x68_22 = true
                              · subst c27
                                have H1 : (impl_wire_number.j4 kj22 x9_1 t130 t129 x1001_1 x1002_1 true) = some (r1, r2, r3, r4, r5) := by rw [if_pos rfl] at H; exact H
                                clear H
                                have H := H1
                                clear H1
                                have H' := Aside0.mk H
                                clear H
                                obtain ⟨HGz28, hgz28⟩ := HI0.out
                                have hcz28_0 := cellS32_0 HGz28
                                have hcz28_1 := cellS32_1 HGz28
                                have hcz28_2 := cellS32_2 HGz28
                                have hcz28_3 := cellS32_3 HGz28
                                have hfz28_0 := blk_frozen HGz28 0
                                have hfz28_1 := blk_frozen HGz28 1
                                have hfz28_2 := blk_frozen HGz28 2
                                have hfz28_3 := blk_frozen HGz28 3
                                clear HGz28 hgz28
                                go_wp2
                                repeat (go_quiet (fail); try go_wp2)
                                go_meet
                                case rel => exact ⟨_, (x9_1), (x1001_1), (x1002_1), (true), (by first | rfl | (simp; done) | (simp [*]; done)), H', ⟨by have := HK1.out; have := HJ8.out; have := HJ18.out; have := HJ22.out; first | omega | exact Nat.le_refl _⟩, ⟨by repeat (first | (with_reducible first | exact HI0.out | apply IsS32.alloc | apply IsS32.drewN | apply IsS32.drew | apply IsS32.set_0 | apply IsS32.set_1 | apply IsS32.set_2 | apply IsS32.set_3) | exact HI0.out)⟩, ⟨by exact kz HK⟩, ⟨by exact b1 HB (Aside0.mk (IsS32.ge HI0.out))⟩⟩
                              · replace c27 := Bool.eq_false_iff.mpr c27
                                subst c27
                                have H1 : ((impl_within.f (wrap64 ((wrap64 (10 * x9_1)) + (((bt t129 x1001_1) - 48) % 256))) a2 a3).bind fun t133 => (if t133 = true then (impl_wire_number.l0 kj22 a2 a3 (wrap64 ((wrap64 (10 * x9_1)) + (((bt t129 x1001_1) - 48) % 256))) t130 t129 (wrap64 (x1001_1 + 1)) x1002_1 x1003_1) else (impl_wire_number.l0 kj22 a2 a3 (wrap64 ((wrap64 (10 * x9_1)) + (((bt t129 x1001_1) - 48) % 256))) t130 t129 (wrap64 (x1001_1 + 1)) x1002_1 true))) = some (r1, r2, r3, r4, r5) := by rw [if_neg (show ¬ (false = true) by decide)] at H; exact H
                                clear H
                                have H := H1
                                clear H1
                                replace H := Option.bind_eq_some_iff.mp H
                                obtain ⟨t133, A290, H⟩ := H
                                replace H : (if t133 = true then (impl_wire_number.l0 kj22 a2 a3 (wrap64 ((wrap64 (10 * x9_1)) + (((bt t129 x1001_1) - 48) % 256))) t130 t129 (wrap64 (x1001_1 + 1)) x1002_1 x1003_1) else (impl_wire_number.l0 kj22 a2 a3 (wrap64 ((wrap64 (10 * x9_1)) + (((bt t129 x1001_1) - 48) % 256))) t130 t129 (wrap64 (x1001_1 + 1)) x1002_1 true)) = some (r1, r2, r3, r4, r5) := H
                                have A29 := Aside0.mk A290
                                clear A290
                                by_cases c30 : t133 = true
                                · subst c30
                                  have H1 : (impl_wire_number.l0 kj22 a2 a3 (wrap64 ((wrap64 (10 * x9_1)) + (((bt t129 x1001_1) - 48) % 256))) t130 t129 (wrap64 (x1001_1 + 1)) x1002_1 x1003_1) = some (r1, r2, r3, r4, r5) := by rw [if_pos rfl] at H; exact H
                                  clear H
                                  have H := H1
                                  clear H1
                                  have H' := Aside0.mk H
                                  clear H
                                  go_wp2_with (first | (go_at_call 15; (with_reducible refine (impl_within.calls (wrap64 ((wrap64 (10 * x9_1)) + (((bt t129 x1001_1) - 48) % 256))) a2 a3 true _ A29.out).mono ?_); rintro e w' ⟨rfl, ⟨nd, rfl⟩⟩; (try first | exact ⟨rfl, _, World.drewN_drewN _ _ _⟩ | exact ⟨rfl, _, Eq.trans (World.drewN_drewN _ _ _) (congrArg (World.drewN _) (Nat.add_assoc _ _ _))⟩); obtain ⟨HGz31, hgz31⟩ := HI0.out; have hcz31_0 := cellS32_0 HGz31; have hcz31_1 := cellS32_1 HGz31; have hcz31_2 := cellS32_2 HGz31; have hcz31_3 := cellS32_3 HGz31; have hfz31_0 := blk_frozen HGz31 0; have hfz31_1 := blk_frozen HGz31 1; have hfz31_2 := blk_frozen HGz31 2; have hfz31_3 := blk_frozen HGz31 3; clear HGz31 hgz31))
                                  repeat (go_quiet (first | (go_at_call 15; (with_reducible refine (impl_within.calls (wrap64 ((wrap64 (10 * x9_1)) + (((bt t129 x1001_1) - 48) % 256))) a2 a3 true _ A29.out).mono ?_); rintro e w' ⟨rfl, ⟨nd, rfl⟩⟩; (try first | exact ⟨rfl, _, World.drewN_drewN _ _ _⟩ | exact ⟨rfl, _, Eq.trans (World.drewN_drewN _ _ _) (congrArg (World.drewN _) (Nat.add_assoc _ _ _))⟩); obtain ⟨HGz31, hgz31⟩ := HI0.out; have hcz31_0 := cellS32_0 HGz31; have hcz31_1 := cellS32_1 HGz31; have hcz31_2 := cellS32_2 HGz31; have hcz31_3 := cellS32_3 HGz31; have hfz31_0 := blk_frozen HGz31 0; have hfz31_1 := blk_frozen HGz31 1; have hfz31_2 := blk_frozen HGz31 2; have hfz31_3 := blk_frozen HGz31 3; clear HGz31 hgz31)); try go_wp2_with (first | (go_at_call 15; (with_reducible refine (impl_within.calls (wrap64 ((wrap64 (10 * x9_1)) + (((bt t129 x1001_1) - 48) % 256))) a2 a3 true _ A29.out).mono ?_); rintro e w' ⟨rfl, ⟨nd, rfl⟩⟩; (try first | exact ⟨rfl, _, World.drewN_drewN _ _ _⟩ | exact ⟨rfl, _, Eq.trans (World.drewN_drewN _ _ _) (congrArg (World.drewN _) (Nat.add_assoc _ _ _))⟩); obtain ⟨HGz31, hgz31⟩ := HI0.out; have hcz31_0 := cellS32_0 HGz31; have hcz31_1 := cellS32_1 HGz31; have hcz31_2 := cellS32_2 HGz31; have hcz31_3 := cellS32_3 HGz31; have hfz31_0 := blk_frozen HGz31 0; have hfz31_1 := blk_frozen HGz31 1; have hfz31_2 := blk_frozen HGz31 2; have hfz31_3 := blk_frozen HGz31 3; clear HGz31 hgz31)))
                                  go_roundg kj22
                                  case measure => have := HK1.out; have := HJ8.out; have := HJ18.out; have := HJ22.out; omega
                                  case rel => exact ⟨(wrap64 ((wrap64 (10 * x9_1)) + (((bt t129 x1001_1) - 48) % 256))), (wrap64 (x1001_1 + 1)), (x1002_1), (x1003_1), (by first | rfl | (simp; done) | (simp [*]; done)), H', ⟨by have := HK1.out; have := HJ8.out; have := HJ18.out; have := HJ22.out; omega⟩, ⟨by repeat (first | (with_reducible first | exact HI0.out | apply IsS32.alloc | apply IsS32.drewN | apply IsS32.drew | apply IsS32.set_0 | apply IsS32.set_1 | apply IsS32.set_2 | apply IsS32.set_3) | exact HI0.out)⟩, ⟨by exact kz HK⟩, ⟨by exact b1 HB (Aside0.mk (IsS32.ge HI0.out))⟩⟩
                                · replace c30 := Bool.eq_false_iff.mpr c30
                                  subst c30
                                  have H1 : (impl_wire_number.l0 kj22 a2 a3 (wrap64 ((wrap64 (10 * x9_1)) + (((bt t129 x1001_1) - 48) % 256))) t130 t129 (wrap64 (x1001_1 + 1)) x1002_1 true) = some (r1, r2, r3, r4, r5) := by rw [if_neg (show ¬ (false = true) by decide)] at H; exact H
                                  clear H
                                  have H := H1
                                  clear H1
                                  have H' := Aside0.mk H
                                  clear H
                                  go_wp2_with (first | (go_at_call 15; (with_reducible refine (impl_within.calls (wrap64 ((wrap64 (10 * x9_1)) + (((bt t129 x1001_1) - 48) % 256))) a2 a3 false _ A29.out).mono ?_); rintro e w' ⟨rfl, ⟨nd, rfl⟩⟩; (try first | exact ⟨rfl, _, World.drewN_drewN _ _ _⟩ | exact ⟨rfl, _, Eq.trans (World.drewN_drewN _ _ _) (congrArg (World.drewN _) (Nat.add_assoc _ _ _))⟩); obtain ⟨HGz32, hgz32⟩ := HI0.out; have hcz32_0 := cellS32_0 HGz32; have hcz32_1 := cellS32_1 HGz32; have hcz32_2 := cellS32_2 HGz32; have hcz32_3 := cellS32_3 HGz32; have hfz32_0 := blk_frozen HGz32 0; have hfz32_1 := blk_frozen HGz32 1; have hfz32_2 := blk_frozen HGz32 2; have hfz32_3 := blk_frozen HGz32 3; clear HGz32 hgz32))
                                  repeat (go_quiet (first | (go_at_call 15; (with_reducible refine (impl_within.calls (wrap64 ((wrap64 (10 * x9_1)) + (((bt t129 x1001_1) - 48) % 256))) a2 a3 false _ A29.out).mono ?_); rintro e w' ⟨rfl, ⟨nd, rfl⟩⟩; (try first | exact ⟨rfl, _, World.drewN_drewN _ _ _⟩ | exact ⟨rfl, _, Eq.trans (World.drewN_drewN _ _ _) (congrArg (World.drewN _) (Nat.add_assoc _ _ _))⟩); obtain ⟨HGz32, hgz32⟩ := HI0.out; have hcz32_0 := cellS32_0 HGz32; have hcz32_1 := cellS32_1 HGz32; have hcz32_2 := cellS32_2 HGz32; have hcz32_3 := cellS32_3 HGz32; have hfz32_0 := blk_frozen HGz32 0; have hfz32_1 := blk_frozen HGz32 1; have hfz32_2 := blk_frozen HGz32 2; have hfz32_3 := blk_frozen HGz32 3; clear HGz32 hgz32)); try go_wp2_with (first | (go_at_call 15; (with_reducible refine (impl_within.calls (wrap64 ((wrap64 (10 * x9_1)) + (((bt t129 x1001_1) - 48) % 256))) a2 a3 false _ A29.out).mono ?_); rintro e w' ⟨rfl, ⟨nd, rfl⟩⟩; (try first | exact ⟨rfl, _, World.drewN_drewN _ _ _⟩ | exact ⟨rfl, _, Eq.trans (World.drewN_drewN _ _ _) (congrArg (World.drewN _) (Nat.add_assoc _ _ _))⟩); obtain ⟨HGz32, hgz32⟩ := HI0.out; have hcz32_0 := cellS32_0 HGz32; have hcz32_1 := cellS32_1 HGz32; have hcz32_2 := cellS32_2 HGz32; have hcz32_3 := cellS32_3 HGz32; have hfz32_0 := blk_frozen HGz32 0; have hfz32_1 := blk_frozen HGz32 1; have hfz32_2 := blk_frozen HGz32 2; have hfz32_3 := blk_frozen HGz32 3; clear HGz32 hgz32)))
                                  go_roundg kj22
                                  case measure => have := HK1.out; have := HJ8.out; have := HJ18.out; have := HJ22.out; omega
                                  case rel => exact ⟨(wrap64 ((wrap64 (10 * x9_1)) + (((bt t129 x1001_1) - 48) % 256))), (wrap64 (x1001_1 + 1)), (x1002_1), (true), (by first | rfl | (simp; done) | (simp [*]; done)), H', ⟨by have := HK1.out; have := HJ8.out; have := HJ18.out; have := HJ22.out; omega⟩, ⟨by repeat (first | (with_reducible first | exact HI0.out | apply IsS32.alloc | apply IsS32.drewN | apply IsS32.drew | apply IsS32.set_0 | apply IsS32.set_1 | apply IsS32.set_2 | apply IsS32.set_3) | exact HI0.out)⟩, ⟨by exact kz HK⟩, ⟨by exact b1 HB (Aside0.mk (IsS32.ge HI0.out))⟩⟩
                  · rw [if_neg c17] at H
                    exact absurd H (by simp)
                · rw [if_neg c16] at H
                  exact absurd H (by simp)
            · replace c13 := Bool.eq_false_iff.mpr c13
              subst c13
              have H1 : (impl_wire_number.j4 kj8 x9_1 t130 t129 x1001_1 x1002_1 x1003_1) = some (r1, r2, r3, r4, r5) := by rw [if_neg (show ¬ (false = true) by decide)] at H; exact H
              clear H
              have H := H1
              clear H1
              have H' := Aside0.mk H
              clear H
              go_wp2
              repeat (go_quiet (fail); try go_wp2)
              go_meet
              case rel => exact ⟨_, (x9_1), (x1001_1), (x1002_1), (x1003_1), (by first | rfl | (simp; done) | (simp [*]; done)), H', ⟨by have := HK1.out; have := HJ8.out; first | omega | exact Nat.le_refl _⟩, ⟨by repeat (first | (with_reducible first | exact HI0.out | apply IsS32.alloc | apply IsS32.drewN | apply IsS32.drew | apply IsS32.set_0 | apply IsS32.set_1 | apply IsS32.set_2 | apply IsS32.set_3) | exact HI0.out)⟩, ⟨by exact kz HK⟩, ⟨by exact b1 HB (Aside0.mk (IsS32.ge HI0.out))⟩⟩
  case rest =>
    clear HC6
    try clear c1
    try clear p1
    try clear q1
    try clear hx1
    try clear c2
    try clear p2
    try clear c3
    try clear p6
    try clear c10
    try clear c13
    try clear c14
    try clear c14b0
    try clear c14b1
    try clear c16
    try clear c16b0
    try clear c17
    try clear c17b0
    try clear p18
    try clear q18
    try clear hx18
    try clear c21
    try clear c21b0
    try clear c22
    try clear c24
    try clear c24b0
    try clear c27
    try clear c30
    try clear hcz11_0
    try clear hcz11_1
    try clear hcz11_2
    try clear hcz11_3
    try clear hcz12_0
    try clear hcz12_1
    try clear hcz12_2
    try clear hcz12_3
    try clear hcz15_0
    try clear hcz15_1
    try clear hcz15_2
    try clear hcz15_3
    try clear hcz20_0
    try clear hcz20_1
    try clear hcz20_2
    try clear hcz20_3
    try clear hcz25_0
    try clear hcz25_1
    try clear hcz25_2
    try clear hcz25_3
    try clear hcz26_0
    try clear hcz26_1
    try clear hcz26_2
    try clear hcz26_3
    try clear hcz28_0
    try clear hcz28_1
    try clear hcz28_2
    try clear hcz28_3
    try clear hcz31_0
    try clear hcz31_1
    try clear hcz31_2
    try clear hcz31_3
    try clear hcz32_0
    try clear hcz32_1
    try clear hcz32_2
    try clear hcz32_3
    try clear hcz8_0
    try clear hcz8_1
    try clear hcz8_2
    try clear hcz8_3
    try clear hfz11_0
    try clear hfz11_1
    try clear hfz11_2
    try clear hfz11_3
    try clear hfz12_0
    try clear hfz12_1
    try clear hfz12_2
    try clear hfz12_3
    try clear hfz15_0
    try clear hfz15_1
    try clear hfz15_2
    try clear hfz15_3
    try clear hfz20_0
    try clear hfz20_1
    try clear hfz20_2
    try clear hfz20_3
    try clear hfz25_0
    try clear hfz25_1
    try clear hfz25_2
    try clear hfz25_3
    try clear hfz26_0
    try clear hfz26_1
    try clear hfz26_2
    try clear hfz26_3
    try clear hfz28_0
    try clear hfz28_1
    try clear hfz28_2
    try clear hfz28_3
    try clear hfz31_0
    try clear hfz31_1
    try clear hfz31_2
    try clear hfz31_3
    try clear hfz32_0
    try clear hfz32_1
    try clear hfz32_2
    try clear hfz32_3
    try clear hfz8_0
    try clear hfz8_1
    try clear hfz8_2
    try clear hfz8_3
    try clear p1
    try clear p18
    try clear p2
    try clear q1
    try clear q18
    obtain ⟨kq, x9_5, x1001_5, x1002_5, x1003_5, rfl, HA, HJ5, HI0, HK, HB⟩ := hcut
    cases kq with
    | zero => exact absurd HA.out (by simp [impl_wire_number.j4])
    | succ kj5 =>
      have H := HA.out
      clear HA
      simp only [impl_wire_number.j4] at H
      have HC33 := Aside0.mk H
      clear H
      go_upto_region 14 with (fail)
      repeat (go_quiet (fail); go_upto_region 14 with (fail))
      go_cut [105] (fun v105 wc => ∃ (kq : Nat) (x105_32 : Bool), v105 = .bool x105_32 ∧ Aside0 (impl_wire_number.j5 kq x9_5 x105_32 t129 x1001_5 x1002_5 x1003_5 = some (r1, r2, r3, r4, r5)) ∧ Aside0 (kq ≤ kj5) ∧ Aside0 (IsS32 w0 wc g t129 x1001_5 x1002_5 x1003_5) ∧ Aside0 (KeepBut w wc g none) ∧ Aside0 (Below w0.heap.size w0 wc))
      case first =>
        have H := HC33.out
        clear HC33
        by_cases c34 : x1001_5 = t130
        · rw [if_pos c34] at H
          have c34b0 : (x1001_5 == t130) = true := beq_iff_eq.mpr c34
          have c34b1 : (x1001_5 != t130) = false := bne_eq_false_iff_eq.mpr c34
          clear c34
          (first | rw [c34b0] | (simp only [i64_w, i32_w]; rw [c34b0]) | skip)
          have H' := Aside0.mk H
          clear H
          obtain ⟨HGz35, hgz35⟩ := HI0.out
          have hcz35_0 := cellS32_0 HGz35
          have hcz35_1 := cellS32_1 HGz35
          have hcz35_2 := cellS32_2 HGz35
          have hcz35_3 := cellS32_3 HGz35
          have hfz35_0 := blk_frozen HGz35 0
          have hfz35_1 := blk_frozen HGz35 1
          have hfz35_2 := blk_frozen HGz35 2
          have hfz35_3 := blk_frozen HGz35 3
          clear HGz35 hgz35
          go_wp2
          repeat (go_quiet (fail); try go_wp2)
          go_meet
          case rel => exact ⟨_, (!x1002_5), (by first | rfl | (simp; done) | (simp [*]; done)), H', ⟨by have := HJ5.out; first | omega | exact Nat.le_refl _⟩, ⟨by repeat (first | (with_reducible first | exact HI0.out | apply IsS32.alloc | apply IsS32.drewN | apply IsS32.drew | apply IsS32.set_0 | apply IsS32.set_1 | apply IsS32.set_2 | apply IsS32.set_3) | exact HI0.out)⟩, ⟨by exact kz HK⟩, ⟨by exact b1 HB (Aside0.mk (IsS32.ge HI0.out))⟩⟩
        · rw [if_neg c34] at H
          have c34b0 : (x1001_5 == t130) = false := beq_eq_false_iff_ne.mpr c34
          have c34b1 : (x1001_5 != t130) = true := bne_iff_ne.mpr c34
          (first | rw [c34b0] | (simp only [i64_w, i32_w]; rw [c34b0]) | skip)
          have H' := Aside0.mk H
          clear H
          obtain ⟨HGz36, hgz36⟩ := HI0.out
          have hcz36_0 := cellS32_0 HGz36
          have hcz36_1 := cellS32_1 HGz36
          have hcz36_2 := cellS32_2 HGz36
          have hcz36_3 := cellS32_3 HGz36
          have hfz36_0 := blk_frozen HGz36 0
          have hfz36_1 := blk_frozen HGz36 1
          have hfz36_2 := blk_frozen HGz36 2
          have hfz36_3 := blk_frozen HGz36 3
          clear HGz36 hgz36
          go_wp2
          repeat (go_quiet (fail); try go_wp2)
          go_meet
          case rel => exact ⟨_, (false), (by first | rfl | (simp; done) | (simp [*]; done)), H', ⟨by have := HJ5.out; first | omega | exact Nat.le_refl _⟩, ⟨by repeat (first | (with_reducible first | exact HI0.out | apply IsS32.alloc | apply IsS32.drewN | apply IsS32.drew | apply IsS32.set_0 | apply IsS32.set_1 | apply IsS32.set_2 | apply IsS32.set_3) | exact HI0.out)⟩, ⟨by exact kz HK⟩, ⟨by exact b1 HB (Aside0.mk (IsS32.ge HI0.out))⟩⟩
      case rest =>
        clear HC33
        try clear c1
        try clear p1
        try clear q1
        try clear hx1
        try clear c2
        try clear p2
        try clear c3
        try clear p6
        try clear c10
        try clear c13
        try clear c14
        try clear c14b0
        try clear c14b1
        try clear c16
        try clear c16b0
        try clear c17
        try clear c17b0
        try clear p18
        try clear q18
        try clear hx18
        try clear c21
        try clear c21b0
        try clear c22
        try clear c24
        try clear c24b0
        try clear c27
        try clear c30
        try clear c34
        try clear c34b0
        try clear c34b1
        try clear hcz11_0
        try clear hcz11_1
        try clear hcz11_2
        try clear hcz11_3
        try clear hcz12_0
        try clear hcz12_1
        try clear hcz12_2
        try clear hcz12_3
        try clear hcz15_0
        try clear hcz15_1
        try clear hcz15_2
        try clear hcz15_3
        try clear hcz20_0
        try clear hcz20_1
        try clear hcz20_2
        try clear hcz20_3
        try clear hcz25_0
        try clear hcz25_1
        try clear hcz25_2
        try clear hcz25_3
        try clear hcz26_0
        try clear hcz26_1
        try clear hcz26_2
        try clear hcz26_3
        try clear hcz28_0
        try clear hcz28_1
        try clear hcz28_2
        try clear hcz28_3
        try clear hcz31_0
        try clear hcz31_1
        try clear hcz31_2
        try clear hcz31_3
        try clear hcz32_0
        try clear hcz32_1
        try clear hcz32_2
        try clear hcz32_3
        try clear hcz35_0
        try clear hcz35_1
        try clear hcz35_2
        try clear hcz35_3
        try clear hcz36_0
        try clear hcz36_1
        try clear hcz36_2
        try clear hcz36_3
        try clear hcz8_0
        try clear hcz8_1
        try clear hcz8_2
        try clear hcz8_3
        try clear hfz11_0
        try clear hfz11_1
        try clear hfz11_2
        try clear hfz11_3
        try clear hfz12_0
        try clear hfz12_1
        try clear hfz12_2
        try clear hfz12_3
        try clear hfz15_0
        try clear hfz15_1
        try clear hfz15_2
        try clear hfz15_3
        try clear hfz20_0
        try clear hfz20_1
        try clear hfz20_2
        try clear hfz20_3
        try clear hfz25_0
        try clear hfz25_1
        try clear hfz25_2
        try clear hfz25_3
        try clear hfz26_0
        try clear hfz26_1
        try clear hfz26_2
        try clear hfz26_3
        try clear hfz28_0
        try clear hfz28_1
        try clear hfz28_2
        try clear hfz28_3
        try clear hfz31_0
        try clear hfz31_1
        try clear hfz31_2
        try clear hfz31_3
        try clear hfz32_0
        try clear hfz32_1
        try clear hfz32_2
        try clear hfz32_3
        try clear hfz35_0
        try clear hfz35_1
        try clear hfz35_2
        try clear hfz35_3
        try clear hfz36_0
        try clear hfz36_1
        try clear hfz36_2
        try clear hfz36_3
        try clear hfz8_0
        try clear hfz8_1
        try clear hfz8_2
        try clear hfz8_3
        try clear p1
        try clear p18
        try clear p2
        try clear p6
        try clear q1
        try clear q18
        obtain ⟨kq, x105_32, rfl, HA, HJ32, HI0, HK, HB⟩ := hcut
        cases kq with
        | zero => exact absurd HA.out (by simp [impl_wire_number.j5])
        | succ kj32 =>
          have H := HA.out
          clear HA
          simp only [impl_wire_number.j5] at H
          by_cases c37 : x105_32 = true
          · subst c37
            have H1 : ((impl_wire_byte.f kj32 t129 x1001_5 x1002_5 true 13).bind fun bt134 => ((impl_wire_byte.f kj32 bt134.1 bt134.2.1 bt134.2.2.1 bt134.2.2.2 10).bind fun bt138 => (some (x9_5, bt138.1, bt138.2.1, bt138.2.2.1, bt138.2.2.2)))) = some (r1, r2, r3, r4, r5) := by rw [if_pos rfl] at H; exact H
            clear H
            have H := H1
            clear H1
            replace H := Option.bind_eq_some_iff.mp H
            obtain ⟨⟨t134, t135, t136, t137⟩, A380, H⟩ := H
            replace H : ((impl_wire_byte.f kj32 t134 t135 t136 t137 10).bind fun bt138 => (some (x9_5, bt138.1, bt138.2.1, bt138.2.2.1, bt138.2.2.2))) = some (r1, r2, r3, r4, r5) := H
            have A38 := Aside0.mk A380
            clear A380
            replace H := Option.bind_eq_some_iff.mp H
            obtain ⟨⟨t138, t139, t140, t141⟩, A390, H⟩ := H
            replace H : (some (x9_5, t138, t139, t140, t141)) = some (r1, r2, r3, r4, r5) := H
            have A39 := Aside0.mk A390
            clear A390
            simp only [Option.some.injEq, Prod.mk.injEq] at H
            obtain ⟨rfl, rfl, rfl, rfl, rfl⟩ := H
            obtain ⟨HGz40, hgz40⟩ := HI0.out
            have hcz40_0 := cellS32_0 HGz40
            have hcz40_1 := cellS32_1 HGz40
            have hcz40_2 := cellS32_2 HGz40
            have hcz40_3 := cellS32_3 HGz40
            have hfz40_0 := blk_frozen HGz40 0
            have hfz40_1 := blk_frozen HGz40 1
            have hfz40_2 := blk_frozen HGz40 2
            have hfz40_3 := blk_frozen HGz40 3
            clear HGz40 hgz40
            go_wp2_with (first | (go_at_call 11; (with_reducible refine (impl_wire_byte.calls kj32 g t129 x1001_5 x1002_5 true 13 t134 t135 t136 t137 w0 _ ?side1 ?side2 A38.out).mono ?_); (case side1 => repeat (first | (with_reducible first | exact HI0.out | apply IsS32.alloc | apply IsS32.drewN | apply IsS32.drew | apply IsS32.set_0 | apply IsS32.set_1 | apply IsS32.set_2 | apply IsS32.set_3) | exact HI0.out)); (case side2 => exact b1 HB (Aside0.mk (IsS32.ge HI0.out))); rintro e w41 ⟨rfl, hi, hb, hk⟩; have n0_ := Aside0.mk (KeepBut.trans (by exact kz HK) hk (.inl rfl)); have n1_ := Aside0.mk (hb); have n2_ := Aside0.mk (hi); clear HK; clear HB; clear HI0; have HK := n0_; have HB := n1_; have HI0 := n2_; clear n0_ n1_ n2_; (try clear hb); (try clear hb2); (try clear hk); (try clear hi)) | (go_at_call 11; (with_reducible refine (impl_wire_byte.calls kj32 g t134 t135 t136 t137 10 t138 t139 t140 t141 w0 _ ?side1 ?side2 A39.out).mono ?_); (case side1 => repeat (first | (with_reducible first | exact HI0.out | apply IsS32.alloc | apply IsS32.drewN | apply IsS32.drew | apply IsS32.set_0 | apply IsS32.set_1 | apply IsS32.set_2 | apply IsS32.set_3) | exact HI0.out)); (case side2 => exact b1 HB (Aside0.mk (IsS32.ge HI0.out))); rintro e w42 ⟨rfl, hi, hb, hk⟩; have n0_ := Aside0.mk (KeepBut.trans (by exact kz HK) hk (.inl rfl)); have n1_ := Aside0.mk (hb); have n2_ := Aside0.mk (hi); clear HK; clear HB; clear HI0; have HK := n0_; have HB := n1_; have HI0 := n2_; clear n0_ n1_ n2_; (try clear hb); (try clear hb2); (try clear hk); (try clear hi)))
            repeat (go_quiet (first | (go_at_call 11; (with_reducible refine (impl_wire_byte.calls kj32 g t129 x1001_5 x1002_5 true 13 t134 t135 t136 t137 w0 _ ?side1 ?side2 A38.out).mono ?_); (case side1 => repeat (first | (with_reducible first | exact HI0.out | apply IsS32.alloc | apply IsS32.drewN | apply IsS32.drew | apply IsS32.set_0 | apply IsS32.set_1 | apply IsS32.set_2 | apply IsS32.set_3) | exact HI0.out)); (case side2 => exact b1 HB (Aside0.mk (IsS32.ge HI0.out))); rintro e w41 ⟨rfl, hi, hb, hk⟩; have n0_ := Aside0.mk (KeepBut.trans (by exact kz HK) hk (.inl rfl)); have n1_ := Aside0.mk (hb); have n2_ := Aside0.mk (hi); clear HK; clear HB; clear HI0; have HK := n0_; have HB := n1_; have HI0 := n2_; clear n0_ n1_ n2_; (try clear hb); (try clear hb2); (try clear hk); (try clear hi)) | (go_at_call 11; (with_reducible refine (impl_wire_byte.calls kj32 g t134 t135 t136 t137 10 t138 t139 t140 t141 w0 _ ?side1 ?side2 A39.out).mono ?_); (case side1 => repeat (first | (with_reducible first | exact HI0.out | apply IsS32.alloc | apply IsS32.drewN | apply IsS32.drew | apply IsS32.set_0 | apply IsS32.set_1 | apply IsS32.set_2 | apply IsS32.set_3) | exact HI0.out)); (case side2 => exact b1 HB (Aside0.mk (IsS32.ge HI0.out))); rintro e w42 ⟨rfl, hi, hb, hk⟩; have n0_ := Aside0.mk (KeepBut.trans (by exact kz HK) hk (.inl rfl)); have n1_ := Aside0.mk (hb); have n2_ := Aside0.mk (hi); clear HK; clear HB; clear HI0; have HK := n0_; have HB := n1_; have HI0 := n2_; clear n0_ n1_ n2_; (try clear hb); (try clear hb2); (try clear hk); (try clear hi))); try go_wp2_with (first | (go_at_call 11; (with_reducible refine (impl_wire_byte.calls kj32 g t129 x1001_5 x1002_5 true 13 t134 t135 t136 t137 w0 _ ?side1 ?side2 A38.out).mono ?_); (case side1 => repeat (first | (with_reducible first | exact HI0.out | apply IsS32.alloc | apply IsS32.drewN | apply IsS32.drew | apply IsS32.set_0 | apply IsS32.set_1 | apply IsS32.set_2 | apply IsS32.set_3) | exact HI0.out)); (case side2 => exact b1 HB (Aside0.mk (IsS32.ge HI0.out))); rintro e w41 ⟨rfl, hi, hb, hk⟩; have n0_ := Aside0.mk (KeepBut.trans (by exact kz HK) hk (.inl rfl)); have n1_ := Aside0.mk (hb); have n2_ := Aside0.mk (hi); clear HK; clear HB; clear HI0; have HK := n0_; have HB := n1_; have HI0 := n2_; clear n0_ n1_ n2_; (try clear hb); (try clear hb2); (try clear hk); (try clear hi)) | (go_at_call 11; (with_reducible refine (impl_wire_byte.calls kj32 g t134 t135 t136 t137 10 t138 t139 t140 t141 w0 _ ?side1 ?side2 A39.out).mono ?_); (case side1 => repeat (first | (with_reducible first | exact HI0.out | apply IsS32.alloc | apply IsS32.drewN | apply IsS32.drew | apply IsS32.set_0 | apply IsS32.set_1 | apply IsS32.set_2 | apply IsS32.set_3) | exact HI0.out)); (case side2 => exact b1 HB (Aside0.mk (IsS32.ge HI0.out))); rintro e w42 ⟨rfl, hi, hb, hk⟩; have n0_ := Aside0.mk (KeepBut.trans (by exact kz HK) hk (.inl rfl)); have n1_ := Aside0.mk (hb); have n2_ := Aside0.mk (hi); clear HK; clear HB; clear HI0; have HK := n0_; have HB := n1_; have HI0 := n2_; clear n0_ n1_ n2_; (try clear hb); (try clear hb2); (try clear hk); (try clear hi))))
            go_ret
            exact ⟨by first | rfl | (simp [errW_none, errW_some] <;> rfl) | (simp [*, errW_none, errW_some] <;> rfl), by repeat (first | (with_reducible first | exact HI0.out | apply IsS32.alloc | apply IsS32.drewN | apply IsS32.drew | apply IsS32.set_0 | apply IsS32.set_1 | apply IsS32.set_2 | apply IsS32.set_3) | exact HI0.out), by exact b1 HB (Aside0.mk (IsS32.ge HI0.out)), by exact kz HK⟩
          · replace c37 := Bool.eq_false_iff.mpr c37
            subst c37
            have H1 : ((impl_wire_byte.f kj32 t129 x1001_5 x1002_5 x1003_5 13).bind fun bt142 => ((impl_wire_byte.f kj32 bt142.1 bt142.2.1 bt142.2.2.1 bt142.2.2.2 10).bind fun bt146 => (some (x9_5, bt146.1, bt146.2.1, bt146.2.2.1, bt146.2.2.2)))) = some (r1, r2, r3, r4, r5) := by rw [if_neg (show ¬ (false = true) by decide)] at H; exact H
            clear H
            have H := H1
            clear H1
            replace H := Option.bind_eq_some_iff.mp H
            obtain ⟨⟨t142, t143, t144, t145⟩, A430, H⟩ := H
            replace H : ((impl_wire_byte.f kj32 t142 t143 t144 t145 10).bind fun bt146 => (some (x9_5, bt146.1, bt146.2.1, bt146.2.2.1, bt146.2.2.2))) = some (r1, r2, r3, r4, r5) := H
            have A43 := Aside0.mk A430
            clear A430
            replace H := Option.bind_eq_some_iff.mp H
            obtain ⟨⟨t146, t147, t148, t149⟩, A440, H⟩ := H
            replace H : (some (x9_5, t146, t147, t148, t149)) = some (r1, r2, r3, r4, r5) := H
            have A44 := Aside0.mk A440
            clear A440
            simp only [Option.some.injEq, Prod.mk.injEq] at H
            obtain ⟨rfl, rfl, rfl, rfl, rfl⟩ := H
            go_wp2_with (first | (go_at_call 11; (with_reducible refine (impl_wire_byte.calls kj32 g t129 x1001_5 x1002_5 x1003_5 13 t142 t143 t144 t145 w0 _ ?side1 ?side2 A43.out).mono ?_); (case side1 => repeat (first | (with_reducible first | exact HI0.out | apply IsS32.alloc | apply IsS32.drewN | apply IsS32.drew | apply IsS32.set_0 | apply IsS32.set_1 | apply IsS32.set_2 | apply IsS32.set_3) | exact HI0.out)); (case side2 => exact b1 HB (Aside0.mk (IsS32.ge HI0.out))); rintro e w45 ⟨rfl, hi, hb, hk⟩; have n0_ := Aside0.mk (KeepBut.trans (by exact kz HK) hk (.inl rfl)); have n1_ := Aside0.mk (hb); have n2_ := Aside0.mk (hi); clear HK; clear HB; clear HI0; have HK := n0_; have HB := n1_; have HI0 := n2_; clear n0_ n1_ n2_; (try clear hb); (try clear hb2); (try clear hk); (try clear hi)) | (go_at_call 11; (with_reducible refine (impl_wire_byte.calls kj32 g t142 t143 t144 t145 10 t146 t147 t148 t149 w0 _ ?side1 ?side2 A44.out).mono ?_); (case side1 => repeat (first | (with_reducible first | exact HI0.out | apply IsS32.alloc | apply IsS32.drewN | apply IsS32.drew | apply IsS32.set_0 | apply IsS32.set_1 | apply IsS32.set_2 | apply IsS32.set_3) | exact HI0.out)); (case side2 => exact b1 HB (Aside0.mk (IsS32.ge HI0.out))); rintro e w46 ⟨rfl, hi, hb, hk⟩; have n0_ := Aside0.mk (KeepBut.trans (by exact kz HK) hk (.inl rfl)); have n1_ := Aside0.mk (hb); have n2_ := Aside0.mk (hi); clear HK; clear HB; clear HI0; have HK := n0_; have HB := n1_; have HI0 := n2_; clear n0_ n1_ n2_; (try clear hb); (try clear hb2); (try clear hk); (try clear hi)))
            repeat (go_quiet (first | (go_at_call 11; (with_reducible refine (impl_wire_byte.calls kj32 g t129 x1001_5 x1002_5 x1003_5 13 t142 t143 t144 t145 w0 _ ?side1 ?side2 A43.out).mono ?_); (case side1 => repeat (first | (with_reducible first | exact HI0.out | apply IsS32.alloc | apply IsS32.drewN | apply IsS32.drew | apply IsS32.set_0 | apply IsS32.set_1 | apply IsS32.set_2 | apply IsS32.set_3) | exact HI0.out)); (case side2 => exact b1 HB (Aside0.mk (IsS32.ge HI0.out))); rintro e w45 ⟨rfl, hi, hb, hk⟩; have n0_ := Aside0.mk (KeepBut.trans (by exact kz HK) hk (.inl rfl)); have n1_ := Aside0.mk (hb); have n2_ := Aside0.mk (hi); clear HK; clear HB; clear HI0; have HK := n0_; have HB := n1_; have HI0 := n2_; clear n0_ n1_ n2_; (try clear hb); (try clear hb2); (try clear hk); (try clear hi)) | (go_at_call 11; (with_reducible refine (impl_wire_byte.calls kj32 g t142 t143 t144 t145 10 t146 t147 t148 t149 w0 _ ?side1 ?side2 A44.out).mono ?_); (case side1 => repeat (first | (with_reducible first | exact HI0.out | apply IsS32.alloc | apply IsS32.drewN | apply IsS32.drew | apply IsS32.set_0 | apply IsS32.set_1 | apply IsS32.set_2 | apply IsS32.set_3) | exact HI0.out)); (case side2 => exact b1 HB (Aside0.mk (IsS32.ge HI0.out))); rintro e w46 ⟨rfl, hi, hb, hk⟩; have n0_ := Aside0.mk (KeepBut.trans (by exact kz HK) hk (.inl rfl)); have n1_ := Aside0.mk (hb); have n2_ := Aside0.mk (hi); clear HK; clear HB; clear HI0; have HK := n0_; have HB := n1_; have HI0 := n2_; clear n0_ n1_ n2_; (try clear hb); (try clear hb2); (try clear hk); (try clear hi))); try go_wp2_with (first | (go_at_call 11; (with_reducible refine (impl_wire_byte.calls kj32 g t129 x1001_5 x1002_5 x1003_5 13 t142 t143 t144 t145 w0 _ ?side1 ?side2 A43.out).mono ?_); (case side1 => repeat (first | (with_reducible first | exact HI0.out | apply IsS32.alloc | apply IsS32.drewN | apply IsS32.drew | apply IsS32.set_0 | apply IsS32.set_1 | apply IsS32.set_2 | apply IsS32.set_3) | exact HI0.out)); (case side2 => exact b1 HB (Aside0.mk (IsS32.ge HI0.out))); rintro e w45 ⟨rfl, hi, hb, hk⟩; have n0_ := Aside0.mk (KeepBut.trans (by exact kz HK) hk (.inl rfl)); have n1_ := Aside0.mk (hb); have n2_ := Aside0.mk (hi); clear HK; clear HB; clear HI0; have HK := n0_; have HB := n1_; have HI0 := n2_; clear n0_ n1_ n2_; (try clear hb); (try clear hb2); (try clear hk); (try clear hi)) | (go_at_call 11; (with_reducible refine (impl_wire_byte.calls kj32 g t142 t143 t144 t145 10 t146 t147 t148 t149 w0 _ ?side1 ?side2 A44.out).mono ?_); (case side1 => repeat (first | (with_reducible first | exact HI0.out | apply IsS32.alloc | apply IsS32.drewN | apply IsS32.drew | apply IsS32.set_0 | apply IsS32.set_1 | apply IsS32.set_2 | apply IsS32.set_3) | exact HI0.out)); (case side2 => exact b1 HB (Aside0.mk (IsS32.ge HI0.out))); rintro e w46 ⟨rfl, hi, hb, hk⟩; have n0_ := Aside0.mk (KeepBut.trans (by exact kz HK) hk (.inl rfl)); have n1_ := Aside0.mk (hb); have n2_ := Aside0.mk (hi); clear HK; clear HB; clear HI0; have HK := n0_; have HB := n1_; have HI0 := n2_; clear n0_ n1_ n2_; (try clear hb); (try clear hb2); (try clear hk); (try clear hi))))
            go_ret
            exact ⟨by first | rfl | (simp [errW_none, errW_some] <;> rfl) | (simp [*, errW_none, errW_some] <;> rfl), by repeat (first | (with_reducible first | exact HI0.out | apply IsS32.alloc | apply IsS32.drewN | apply IsS32.drew | apply IsS32.set_0 | apply IsS32.set_1 | apply IsS32.set_2 | apply IsS32.set_3) | exact HI0.out), by exact b1 HB (Aside0.mk (IsS32.ge HI0.out)), by exact kz HK⟩

end Go.Proofs.Ythdbjegppeekoaa.P
