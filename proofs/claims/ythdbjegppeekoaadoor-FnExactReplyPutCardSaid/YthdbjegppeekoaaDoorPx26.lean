-- Written by wip/px.py of this session, over the kit's print.py. Not trusted: Lean checks it.
import Derived.Test.YthdbjegppeekoaaDoorPx0
import Derived.Test.YthdbjegppeekoaaDoorPx1
import Derived.Test.YthdbjegppeekoaaDoorPx24
import Derived.Test.YthdbjegppeekoaaDoorPx25
namespace Go.Proofs.YthdbjegppeekoaaDoor.P
open Go.RowKit Go.Proofs.YthdbjegppeekoaaDoorW.PrintWords Go.Proofs.YthdbjegppeekoaaDoorW.PrintLast Go.Proofs.YthdbjegppeekoaaDoorW.PrintMore
attribute [local go_sem] max2_int min2_int max_two min_two max_three min_three max_four min_four   -- for this text's walks alone
set_option linter.unusedVariables false
set_option linter.unusedSimpArgs false

/-! ### impl_ReplyPut: the walk -/
set_option maxHeartbeats 8000000 in
set_option maxRecDepth 100000 in
theorem impl_ReplyPut.calls (k : Nat) : ∀ (a0_0 : Int) (a0_1 : Int) (a0_2 : ByteArray) (A0_3 : Option Addr) (c0_3 : Nat) (l0_3 : List ByteArray) (A0_4 : Option Addr) (c0_4 : Nat) (l0_4 : List (S30)) (r : ByteArray) (w : World) (hT0 : X.Tab w) (hr0_3 : Kd.C Kd.string w A0_3 l0_3.length l0_3) (hc0_3 : l0_3.length ≤ c0_3) (hr0_4 : Kd.C k30 w A0_4 l0_4.length l0_4) (hc0_4 : l0_4.length ≤ c0_4) (h : impl_ReplyPut.f k a0_0 a0_1 a0_2 l0_3 l0_4 = some r),
    Calls Tryd.prog 7 #[.agg #[.int .i64 a0_0, .int .i64 a0_1, .string a0_2, .slice A0_3 l0_3.length c0_3, .slice A0_4 l0_4.length c0_4]] w fun e w' => e = .returned (.string r) ∧ Below w.heap.size w w' := by
  induction k using Nat.strongRecOn with
  | _ k ih =>
  intro a0_0 a0_1 a0_2 A0_3 c0_3 l0_3 A0_4 c0_4 l0_4 r w hT0 hr0_3 hc0_3 hr0_4 hc0_4 h
  cases k with
  | zero => exact absurd h (by simp [impl_ReplyPut.f])
  | succ k =>
  simp only [impl_ReplyPut.f] at h
  have hu30 := Tryd.underlying30
  have HR0_3 := Aside0.mk hr0_3
  have HC0_3 := Aside0.mk hc0_3
  clear hr0_3 hc0_3
  have HR0_4 := Aside0.mk hr0_4
  have HC0_4 := Aside0.mk hc0_4
  clear hr0_4 hc0_4
  have HB := Aside0.mk (Below.refl w.heap.size w)
  have H : (if a0_0 = 1 then (if 1 + a0_2.size ≤ 9223372036854775807 then (if ((⟨#[45]⟩ : ByteArray) ++ a0_2).size + 2 ≤ 9223372036854775807 then (some (((⟨#[45]⟩ : ByteArray) ++ a0_2) ++ (⟨#[13, 10]⟩ : ByteArray))) else (none)) else (none)) else (if a0_0 = 2 then ((strconv_Itoa_15.f a0_1).bind fun t127 => (if 1 + t127.size ≤ 9223372036854775807 then (if ((⟨#[58]⟩ : ByteArray) ++ t127).size + 2 ≤ 9223372036854775807 then (some (((⟨#[58]⟩ : ByteArray) ++ t127) ++ (⟨#[13, 10]⟩ : ByteArray))) else (none)) else (none))) else (if a0_0 = 3 then ((impl_bulk.f a0_2).bind fun t128 => (some t128)) else (if a0_0 = 4 then (some (⟨#[36, 45, 49, 13, 10]⟩ : ByteArray)) else (if a0_0 = 5 then ((strconv_Itoa_15.f (l0_3.length : Int)).bind fun t129 => (if 1 + t129.size ≤ 9223372036854775807 then (if ((⟨#[42]⟩ : ByteArray) ++ t129).size + 2 ≤ 9223372036854775807 then (impl_ReplyPut.l0 k (((⟨#[42]⟩ : ByteArray) ++ t129) ++ (⟨#[13, 10]⟩ : ByteArray)) l0_3 (l0_3.length : Int) 0) else (none)) else (none))) else (if a0_0 = 6 then ((strconv_Itoa_15.f (l0_4.length : Int)).bind fun t132 => (if 1 + t132.size ≤ 9223372036854775807 then (if ((⟨#[42]⟩ : ByteArray) ++ t132).size + 2 ≤ 9223372036854775807 then (impl_ReplyPut.l1 k (((⟨#[42]⟩ : ByteArray) ++ t132) ++ (⟨#[13, 10]⟩ : ByteArray)) l0_4 (l0_4.length : Int) 0) else (none)) else (none))) else (some (⟨#[43, 79, 75, 13, 10]⟩ : ByteArray)))))))) = some r := h
  clear h
  by_cases c2 : a0_0 = 1
  · rw [if_pos c2] at H
    have c2b0 : (a0_0 == 1) = true := beq_iff_eq.mpr c2
    have c2b1 : (a0_0 != 1) = false := bne_eq_false_iff_eq.mpr c2
    clear c2
    by_cases c3 : 1 + a0_2.size ≤ 9223372036854775807
    · rw [if_pos c3] at H
      have c3b0 := eq_true c3
      have c3b1 : decide (1 + a0_2.size ≤ 9223372036854775807) = true := decide_eq_true c3
      try have c3b2 : (9223372036854775807 < 1 + a0_2.size) = False := eq_false (Nat.not_lt.2 c3)
      by_cases c4 : ((⟨#[45]⟩ : ByteArray) ++ a0_2).size + 2 ≤ 9223372036854775807
      · rw [if_pos c4] at H
        have c4b0 := eq_true c4
        have c4b1 : decide (((⟨#[45]⟩ : ByteArray) ++ a0_2).size + 2 ≤ 9223372036854775807) = true := decide_eq_true c4
        try have c4b2 : (9223372036854775807 < ((⟨#[45]⟩ : ByteArray) ++ a0_2).size + 2) = False := eq_false (Nat.not_lt.2 c4)
        try have c4b3 : (9223372036854775807 < 1 + a0_2.size + 2) = False := eq_false (by have h_ := c4; simp only [ByteArray.size_append] at h_; exact Nat.not_lt.2 h_)
        obtain rfl := Option.some.inj H
        go_enter Tryd.func7, Tryd.ntmps7
        go_wp2_with (first | ((with_reducible refine gate_dst (N := 1) rfl ?_); refine bx 1 #[.int .i64 a0_0, .int .i64 a0_1, .string a0_2, .slice A0_3 l0_3.length c0_3, .slice A0_4 l0_4.length c0_4] 30 ?_; intro gb126 hg w5 hbox hb; have n0_ := Aside0.mk (below_step (by exact bl HB) hb); have n1_ := Aside0.mk (hbox); have n2_ := Aside0.mk ((by rw [hg]; exact (below_size (by exact bl HB)) : w.heap.size ≤ gb126)); have n3_ := n2_; clear HB; have HB := n0_; have BK126 := n1_; have GW126 := n2_; have GE126 := n3_; clear n0_ n1_ n2_ n3_; clear hb hbox hg; have hcz6_0 : w5.cell? ⟨gb126, 0, none⟩ = some (.int .i64 a0_0) := bc BK126 0; have hcz6_1 : w5.cell? ⟨gb126, 1, none⟩ = some (.int .i64 a0_1) := bc BK126 1; have hcz6_2 : w5.cell? ⟨gb126, 2, none⟩ = some (.string a0_2) := bc BK126 2; have hcz6_3 : w5.cell? ⟨gb126, 3, none⟩ = some (.slice A0_3 l0_3.length c0_3) := bc BK126 3; have hcz6_4 : w5.cell? ⟨gb126, 4, none⟩ = some (.slice A0_4 l0_4.length c0_4) := bc BK126 4; have hfz6_0 := blk_frozen BK126.out 0; have hfz6_1 := blk_frozen BK126.out 1; have hfz6_2 := blk_frozen BK126.out 2; have hfz6_3 := blk_frozen BK126.out 3; have hfz6_4 := blk_frozen BK126.out 4))
        go_ret
        exact fz (by exact b1 HB GE126)
      · rw [if_neg c4] at H
        exact absurd H (by simp)
    · rw [if_neg c3] at H
      exact absurd H (by simp)
  · rw [if_neg c2] at H
    have c2b0 : (a0_0 == 1) = false := beq_eq_false_iff_ne.mpr c2
    have c2b1 : (a0_0 != 1) = true := bne_iff_ne.mpr c2
    by_cases c7 : a0_0 = 2
    · rw [if_pos c7] at H
      have c7b0 : (a0_0 == 2) = true := beq_iff_eq.mpr c7
      have c7b1 : (a0_0 != 2) = false := bne_eq_false_iff_eq.mpr c7
      clear c7
      replace H := Option.bind_eq_some_iff.mp H
      obtain ⟨t127, A80, H⟩ := H
      replace H : (if 1 + t127.size ≤ 9223372036854775807 then (if ((⟨#[58]⟩ : ByteArray) ++ t127).size + 2 ≤ 9223372036854775807 then (some (((⟨#[58]⟩ : ByteArray) ++ t127) ++ (⟨#[13, 10]⟩ : ByteArray))) else (none)) else (none)) = some r := H
      have A8 := Aside0.mk A80
      clear A80
      by_cases c9 : 1 + t127.size ≤ 9223372036854775807
      · rw [if_pos c9] at H
        have c9b0 := eq_true c9
        have c9b1 : decide (1 + t127.size ≤ 9223372036854775807) = true := decide_eq_true c9
        try have c9b2 : (9223372036854775807 < 1 + t127.size) = False := eq_false (Nat.not_lt.2 c9)
        by_cases c10 : ((⟨#[58]⟩ : ByteArray) ++ t127).size + 2 ≤ 9223372036854775807
        · rw [if_pos c10] at H
          have c10b0 := eq_true c10
          have c10b1 : decide (((⟨#[58]⟩ : ByteArray) ++ t127).size + 2 ≤ 9223372036854775807) = true := decide_eq_true c10
          try have c10b2 : (9223372036854775807 < ((⟨#[58]⟩ : ByteArray) ++ t127).size + 2) = False := eq_false (Nat.not_lt.2 c10)
          try have c10b3 : (9223372036854775807 < 1 + t127.size + 2) = False := eq_false (by have h_ := c10; simp only [ByteArray.size_append] at h_; exact Nat.not_lt.2 h_)
          obtain rfl := Option.some.inj H
          go_enter Tryd.func7, Tryd.ntmps7
          go_wp2_with (first | ((with_reducible refine gate_dst (N := 1) rfl ?_); refine bx 1 #[.int .i64 a0_0, .int .i64 a0_1, .string a0_2, .slice A0_3 l0_3.length c0_3, .slice A0_4 l0_4.length c0_4] 30 ?_; intro gb126 hg w11 hbox hb; have n0_ := Aside0.mk (below_step (by exact bl HB) hb); have n1_ := Aside0.mk (hbox); have n2_ := Aside0.mk ((by rw [hg]; exact (below_size (by exact bl HB)) : w.heap.size ≤ gb126)); have n3_ := n2_; clear HB; have HB := n0_; have BK126 := n1_; have GW126 := n2_; have GE126 := n3_; clear n0_ n1_ n2_ n3_; clear hb hbox hg; have hcz12_0 : w11.cell? ⟨gb126, 0, none⟩ = some (.int .i64 a0_0) := bc BK126 0; have hcz12_1 : w11.cell? ⟨gb126, 1, none⟩ = some (.int .i64 a0_1) := bc BK126 1; have hcz12_2 : w11.cell? ⟨gb126, 2, none⟩ = some (.string a0_2) := bc BK126 2; have hcz12_3 : w11.cell? ⟨gb126, 3, none⟩ = some (.slice A0_3 l0_3.length c0_3) := bc BK126 3; have hcz12_4 : w11.cell? ⟨gb126, 4, none⟩ = some (.slice A0_4 l0_4.length c0_4) := bc BK126 4; have hfz12_0 := blk_frozen BK126.out 0; have hfz12_1 := blk_frozen BK126.out 1; have hfz12_2 := blk_frozen BK126.out 2; have hfz12_3 := blk_frozen BK126.out 3; have hfz12_4 := blk_frozen BK126.out 4) | ((with_reducible refine gate_callee (f := 15) rfl ?_); refine gl (some 21) Tryd.func15 #[.int .i64 a0_1] ?_; (with_reducible refine (strconv_Itoa_15.calls (hT0 := X.Tab.keep hT0 (by exact b1 HB GE126)) a0_1 t127 _ A8.out).mono ?_); rintro e w13 ⟨rfl, hb⟩; refine ⟨_, rfl, ?_⟩; have n0_ := Aside0.mk (blk_below (g := gb126) (o := .cells #[.int .i64 a0_0, .int .i64 a0_1, .string a0_2, .slice A0_3 l0_3.length c0_3, .slice A0_4 l0_4.length c0_4] 30 (0, 0)) (by exact bk BK126) hb); have n1_ := Aside0.mk (below_step (by exact b1 HB GE126) hb); clear BK126; clear HB; have BK126 := n0_; have HB := n1_; clear n0_ n1_; (try clear hb); (try clear hb2); (try clear hk); (try clear hi)))
          go_ret
          exact fz (by exact b1 HB GE126)
        · rw [if_neg c10] at H
          exact absurd H (by simp)
      · rw [if_neg c9] at H
        exact absurd H (by simp)
    · rw [if_neg c7] at H
      have c7b0 : (a0_0 == 2) = false := beq_eq_false_iff_ne.mpr c7
      have c7b1 : (a0_0 != 2) = true := bne_iff_ne.mpr c7
      by_cases c14 : a0_0 = 3
      · rw [if_pos c14] at H
        have c14b0 : (a0_0 == 3) = true := beq_iff_eq.mpr c14
        have c14b1 : (a0_0 != 3) = false := bne_eq_false_iff_eq.mpr c14
        clear c14
        replace H := Option.bind_eq_some_iff.mp H
        obtain ⟨t128, A150, H⟩ := H
        replace H : (some t128) = some r := H
        have A15 := Aside0.mk A150
        clear A150
        obtain rfl := Option.some.inj H
        go_enter Tryd.func7, Tryd.ntmps7
        go_wp2_with (first | ((with_reducible refine gate_dst (N := 1) rfl ?_); refine bx 1 #[.int .i64 a0_0, .int .i64 a0_1, .string a0_2, .slice A0_3 l0_3.length c0_3, .slice A0_4 l0_4.length c0_4] 30 ?_; intro gb126 hg w16 hbox hb; have n0_ := Aside0.mk (below_step (by exact bl HB) hb); have n1_ := Aside0.mk (hbox); have n2_ := Aside0.mk ((by rw [hg]; exact (below_size (by exact bl HB)) : w.heap.size ≤ gb126)); have n3_ := n2_; clear HB; have HB := n0_; have BK126 := n1_; have GW126 := n2_; have GE126 := n3_; clear n0_ n1_ n2_ n3_; clear hb hbox hg; have hcz17_0 : w16.cell? ⟨gb126, 0, none⟩ = some (.int .i64 a0_0) := bc BK126 0; have hcz17_1 : w16.cell? ⟨gb126, 1, none⟩ = some (.int .i64 a0_1) := bc BK126 1; have hcz17_2 : w16.cell? ⟨gb126, 2, none⟩ = some (.string a0_2) := bc BK126 2; have hcz17_3 : w16.cell? ⟨gb126, 3, none⟩ = some (.slice A0_3 l0_3.length c0_3) := bc BK126 3; have hcz17_4 : w16.cell? ⟨gb126, 4, none⟩ = some (.slice A0_4 l0_4.length c0_4) := bc BK126 4; have hfz17_0 := blk_frozen BK126.out 0; have hfz17_1 := blk_frozen BK126.out 1; have hfz17_2 := blk_frozen BK126.out 2; have hfz17_3 := blk_frozen BK126.out 3; have hfz17_4 := blk_frozen BK126.out 4) | ((with_reducible refine gate_callee (f := 16) rfl ?_); refine gl (some 28) Tryd.func16 #[.string a0_2] ?_; (with_reducible refine (impl_bulk.calls (hT0 := X.Tab.keep hT0 (by exact b1 HB GE126)) a0_2 t128 _ A15.out).mono ?_); rintro e w18 ⟨rfl, hb⟩; refine ⟨_, rfl, ?_⟩; have n0_ := Aside0.mk (blk_below (g := gb126) (o := .cells #[.int .i64 a0_0, .int .i64 a0_1, .string a0_2, .slice A0_3 l0_3.length c0_3, .slice A0_4 l0_4.length c0_4] 30 (0, 0)) (by exact bk BK126) hb); have n1_ := Aside0.mk (below_step (by exact b1 HB GE126) hb); clear BK126; clear HB; have BK126 := n0_; have HB := n1_; clear n0_ n1_; (try clear hb); (try clear hb2); (try clear hk); (try clear hi)))
        go_ret
        exact fz (by exact b1 HB GE126)
      · rw [if_neg c14] at H
        have c14b0 : (a0_0 == 3) = false := beq_eq_false_iff_ne.mpr c14
        have c14b1 : (a0_0 != 3) = true := bne_iff_ne.mpr c14
        by_cases c19 : a0_0 = 4
        · rw [if_pos c19] at H
          have c19b0 : (a0_0 == 4) = true := beq_iff_eq.mpr c19
          have c19b1 : (a0_0 != 4) = false := bne_eq_false_iff_eq.mpr c19
          clear c19
          obtain rfl := Option.some.inj H
          go_enter Tryd.func7, Tryd.ntmps7
          go_wp2_with (first | ((with_reducible refine gate_dst (N := 1) rfl ?_); refine bx 1 #[.int .i64 a0_0, .int .i64 a0_1, .string a0_2, .slice A0_3 l0_3.length c0_3, .slice A0_4 l0_4.length c0_4] 30 ?_; intro gb126 hg w20 hbox hb; have n0_ := Aside0.mk (below_step (by exact bl HB) hb); have n1_ := Aside0.mk (hbox); have n2_ := Aside0.mk ((by rw [hg]; exact (below_size (by exact bl HB)) : w.heap.size ≤ gb126)); have n3_ := n2_; clear HB; have HB := n0_; have BK126 := n1_; have GW126 := n2_; have GE126 := n3_; clear n0_ n1_ n2_ n3_; clear hb hbox hg; have hcz21_0 : w20.cell? ⟨gb126, 0, none⟩ = some (.int .i64 a0_0) := bc BK126 0; have hcz21_1 : w20.cell? ⟨gb126, 1, none⟩ = some (.int .i64 a0_1) := bc BK126 1; have hcz21_2 : w20.cell? ⟨gb126, 2, none⟩ = some (.string a0_2) := bc BK126 2; have hcz21_3 : w20.cell? ⟨gb126, 3, none⟩ = some (.slice A0_3 l0_3.length c0_3) := bc BK126 3; have hcz21_4 : w20.cell? ⟨gb126, 4, none⟩ = some (.slice A0_4 l0_4.length c0_4) := bc BK126 4; have hfz21_0 := blk_frozen BK126.out 0; have hfz21_1 := blk_frozen BK126.out 1; have hfz21_2 := blk_frozen BK126.out 2; have hfz21_3 := blk_frozen BK126.out 3; have hfz21_4 := blk_frozen BK126.out 4))
          go_ret
          exact fz (by exact b1 HB GE126)
        · rw [if_neg c19] at H
          have c19b0 : (a0_0 == 4) = false := beq_eq_false_iff_ne.mpr c19
          have c19b1 : (a0_0 != 4) = true := bne_iff_ne.mpr c19
          by_cases c22 : a0_0 = 5
          · rw [if_pos c22] at H
            have c22b0 : (a0_0 == 5) = true := beq_iff_eq.mpr c22
            have c22b1 : (a0_0 != 5) = false := bne_eq_false_iff_eq.mpr c22
            clear c22
            replace H := Option.bind_eq_some_iff.mp H
            obtain ⟨t129, A230, H⟩ := H
            replace H : (if 1 + t129.size ≤ 9223372036854775807 then (if ((⟨#[42]⟩ : ByteArray) ++ t129).size + 2 ≤ 9223372036854775807 then (impl_ReplyPut.l0 k (((⟨#[42]⟩ : ByteArray) ++ t129) ++ (⟨#[13, 10]⟩ : ByteArray)) l0_3 (l0_3.length : Int) 0) else (none)) else (none)) = some r := H
            have A23 := Aside0.mk A230
            clear A230
            by_cases c24 : 1 + t129.size ≤ 9223372036854775807
            · rw [if_pos c24] at H
              have c24b0 := eq_true c24
              have c24b1 : decide (1 + t129.size ≤ 9223372036854775807) = true := decide_eq_true c24
              try have c24b2 : (9223372036854775807 < 1 + t129.size) = False := eq_false (Nat.not_lt.2 c24)
              by_cases c25 : ((⟨#[42]⟩ : ByteArray) ++ t129).size + 2 ≤ 9223372036854775807
              · rw [if_pos c25] at H
                have c25b0 := eq_true c25
                have c25b1 : decide (((⟨#[42]⟩ : ByteArray) ++ t129).size + 2 ≤ 9223372036854775807) = true := decide_eq_true c25
                try have c25b2 : (9223372036854775807 < ((⟨#[42]⟩ : ByteArray) ++ t129).size + 2) = False := eq_false (Nat.not_lt.2 c25)
                try have c25b3 : (9223372036854775807 < 1 + t129.size + 2) = False := eq_false (by have h_ := c25; simp only [ByteArray.size_append] at h_; exact Nat.not_lt.2 h_)
                have H' := Aside0.mk H
                clear H
                go_enter Tryd.func7, Tryd.ntmps7
                go_wp2_with (first | ((with_reducible refine gate_dst (N := 1) rfl ?_); refine bx 1 #[.int .i64 a0_0, .int .i64 a0_1, .string a0_2, .slice A0_3 l0_3.length c0_3, .slice A0_4 l0_4.length c0_4] 30 ?_; intro gb126 hg w26 hbox hb; have n0_ := Aside0.mk (below_step (by exact bl HB) hb); have n1_ := Aside0.mk (hbox); have n2_ := Aside0.mk ((by rw [hg]; exact (below_size (by exact bl HB)) : w.heap.size ≤ gb126)); have n3_ := n2_; clear HB; have HB := n0_; have BK126 := n1_; have GW126 := n2_; have GE126 := n3_; clear n0_ n1_ n2_ n3_; clear hb hbox hg; have hcz27_0 : w26.cell? ⟨gb126, 0, none⟩ = some (.int .i64 a0_0) := bc BK126 0; have hcz27_1 : w26.cell? ⟨gb126, 1, none⟩ = some (.int .i64 a0_1) := bc BK126 1; have hcz27_2 : w26.cell? ⟨gb126, 2, none⟩ = some (.string a0_2) := bc BK126 2; have hcz27_3 : w26.cell? ⟨gb126, 3, none⟩ = some (.slice A0_3 l0_3.length c0_3) := bc BK126 3; have hcz27_4 : w26.cell? ⟨gb126, 4, none⟩ = some (.slice A0_4 l0_4.length c0_4) := bc BK126 4; have hfz27_0 := blk_frozen BK126.out 0; have hfz27_1 := blk_frozen BK126.out 1; have hfz27_2 := blk_frozen BK126.out 2; have hfz27_3 := blk_frozen BK126.out 3; have hfz27_4 := blk_frozen BK126.out 4) | ((with_reducible refine gate_callee (f := 15) rfl ?_); refine gl (some 36) Tryd.func15 #[.int .i64 (l0_3.length : Int)] ?_; (with_reducible refine (strconv_Itoa_15.calls (hT0 := X.Tab.keep hT0 (by exact b1 HB GE126)) (l0_3.length : Int) t129 _ A23.out).mono ?_); rintro e w28 ⟨rfl, hb⟩; refine ⟨_, rfl, ?_⟩; have n0_ := Aside0.mk (blk_below (g := gb126) (o := .cells #[.int .i64 a0_0, .int .i64 a0_1, .string a0_2, .slice A0_3 l0_3.length c0_3, .slice A0_4 l0_4.length c0_4] 30 (0, 0)) (by exact bk BK126) hb); have n1_ := Aside0.mk (below_step (by exact b1 HB GE126) hb); clear BK126; clear HB; have BK126 := n0_; have HB := n1_; clear n0_ n1_; (try clear hb); (try clear hb2); (try clear hk); (try clear hi); have hcz29_0 : w28.cell? ⟨gb126, 0, none⟩ = some (.int .i64 a0_0) := bc BK126 0; have hcz29_1 : w28.cell? ⟨gb126, 1, none⟩ = some (.int .i64 a0_1) := bc BK126 1; have hcz29_2 : w28.cell? ⟨gb126, 2, none⟩ = some (.string a0_2) := bc BK126 2; have hcz29_3 : w28.cell? ⟨gb126, 3, none⟩ = some (.slice A0_3 l0_3.length c0_3) := bc BK126 3; have hcz29_4 : w28.cell? ⟨gb126, 4, none⟩ = some (.slice A0_4 l0_4.length c0_4) := bc BK126 4; have hfz29_0 := blk_frozen BK126.out 0; have hfz29_1 := blk_frozen BK126.out 1; have hfz29_2 := blk_frozen BK126.out 2; have hfz29_3 := blk_frozen BK126.out 3; have hfz29_4 := blk_frozen BK126.out 4))
                go_loopg [3, 42] k (fun kq v3 v42 w' => ∃ (x3_1 : ByteArray) (x42_1 : Int), v3 = .string x3_1 ∧ v42 = .int .i64 x42_1 ∧ Aside0 (impl_ReplyPut.l0 kq x3_1 l0_3 (l0_3.length : Int) x42_1 = some r) ∧ Aside0 (kq ≤ k) ∧ Aside0 (w'.heap[gb126]? = some (.cells #[.int .i64 a0_0, .int .i64 a0_1, .string a0_2, (.slice A0_3 l0_3.length c0_3), (.slice A0_4 l0_4.length c0_4)] 30 (0, 0))) ∧ Aside0 (Below w.heap.size w w'))
                case atStart => exact ⟨(((⟨#[42]⟩ : ByteArray) ++ t129) ++ (⟨#[13, 10]⟩ : ByteArray)), (0), (by first | rfl | (simp; done) | (simp [*]; done)), (by first | rfl | (simp; done) | (simp [*]; done)), H', ⟨Nat.le_refl _⟩, ⟨by refine bp ?_; exact BK126.out⟩, ⟨by exact b1 HB GE126⟩⟩
                case round =>
                  clear H'
                  try clear c1
                  try clear c2
                  try clear c2b0
                  try clear c2b1
                  try clear p2
                  try clear c3
                  try clear c3b0
                  try clear c3b1
                  try clear c3b2
                  try clear c4
                  try clear c4b0
                  try clear c4b1
                  try clear c4b2
                  try clear c7
                  try clear c7b0
                  try clear c7b1
                  try clear c9
                  try clear c9b0
                  try clear c9b1
                  try clear c9b2
                  try clear c10
                  try clear c10b0
                  try clear c10b1
                  try clear c10b2
                  try clear c14
                  try clear c14b0
                  try clear c14b1
                  try clear c15
                  try clear c16
                  try clear c19
                  try clear c19b0
                  try clear c19b1
                  try clear c22
                  try clear c22b0
                  try clear c22b1
                  try clear c24
                  try clear c24b0
                  try clear c24b1
                  try clear c24b2
                  try clear c25
                  try clear c25b0
                  try clear c25b1
                  try clear c25b2
                  try clear hcz12_0
                  try clear hcz12_1
                  try clear hcz12_2
                  try clear hcz12_3
                  try clear hcz12_4
                  try clear hcz17_0
                  try clear hcz17_1
                  try clear hcz17_2
                  try clear hcz17_3
                  try clear hcz17_4
                  try clear hcz21_0
                  try clear hcz21_1
                  try clear hcz21_2
                  try clear hcz21_3
                  try clear hcz21_4
                  try clear hcz27_0
                  try clear hcz27_1
                  try clear hcz27_2
                  try clear hcz27_3
                  try clear hcz27_4
                  try clear hcz29_0
                  try clear hcz29_1
                  try clear hcz29_2
                  try clear hcz29_3
                  try clear hcz29_4
                  try clear hcz6_0
                  try clear hcz6_1
                  try clear hcz6_2
                  try clear hcz6_3
                  try clear hcz6_4
                  try clear hfz12_0
                  try clear hfz12_1
                  try clear hfz12_2
                  try clear hfz12_3
                  try clear hfz12_4
                  try clear hfz17_0
                  try clear hfz17_1
                  try clear hfz17_2
                  try clear hfz17_3
                  try clear hfz17_4
                  try clear hfz21_0
                  try clear hfz21_1
                  try clear hfz21_2
                  try clear hfz21_3
                  try clear hfz21_4
                  try clear hfz27_0
                  try clear hfz27_1
                  try clear hfz27_2
                  try clear hfz27_3
                  try clear hfz27_4
                  try clear hfz29_0
                  try clear hfz29_1
                  try clear hfz29_2
                  try clear hfz29_3
                  try clear hfz29_4
                  try clear hfz6_0
                  try clear hfz6_1
                  try clear hfz6_2
                  try clear hfz6_3
                  try clear hfz6_4
                  obtain ⟨x3_1, x42_1, rfl, rfl, HA, HK1, BK126, HB⟩ := hrel
                  cases gk with
                  | zero => exact absurd HA.out (by simp [impl_ReplyPut.l0])
                  | succ k1 =>
                    have H := HA.out
                    clear HA
                    simp only [impl_ReplyPut.l0] at H
                    by_cases c30 : x42_1 < (l0_3.length : Int)
                    · rw [if_pos c30] at H
                      have c30b0 : decide (x42_1 < (l0_3.length : Int)) = true := decide_eq_true c30
                      clear c30
                      by_cases c31 : 0 ≤ x42_1
                      · rw [if_pos c31] at H
                        have c31b0 : decide (0 ≤ x42_1) = true := decide_eq_true c31
                        clear c31
                        by_cases c32 : x42_1 < (l0_3.length : Int)
                        · rw [if_pos c32] at H
                          have c32b0 : decide (x42_1 < (l0_3.length : Int)) = true := decide_eq_true c32
                          clear c32
                          replace H := Option.bind_eq_some_iff.mp H
                          obtain ⟨t131, A330, H⟩ := H
                          replace H : (if x3_1.size + t131.size ≤ 9223372036854775807 then (impl_ReplyPut.l0 k1 (x3_1 ++ t131) l0_3 (l0_3.length : Int) (wrap64 (x42_1 + 1))) else (none)) = some r := H
                          have A33 := Aside0.mk A330
                          clear A330
                          by_cases c34 : x3_1.size + t131.size ≤ 9223372036854775807
                          · rw [if_pos c34] at H
                            have c34b0 := eq_true c34
                            have c34b1 : decide (x3_1.size + t131.size ≤ 9223372036854775807) = true := decide_eq_true c34
                            try have c34b2 : (9223372036854775807 < x3_1.size + t131.size) = False := eq_false (Nat.not_lt.2 c34)
                            have H' := Aside0.mk H
                            clear H
                            have p130 : 0 ≤ (x42_1 : Int) := of_decide_eq_true ‹_›
                            have q130 : x42_1 < (l0_3.length : Int) := of_decide_eq_true ‹_›
                            obtain ⟨ad130, e130, hx130_0⟩ := Kd.at_string HR0_3.out x42_1 p130 q130
                            cases e130
                            replace hx130_0 := hcl HB hx130_0
                            replace p130 := eq_true p130
                            replace q130 := eq_true q130
                            go_wp2_with (first | ((with_reducible refine gate_callee (f := 16) rfl ?_); refine gl (some 48) Tryd.func16 #[.string (rdOf ByteArray.empty l0_3 x42_1)] ?_; (with_reducible refine (impl_bulk.calls (hT0 := X.Tab.keep hT0 (by exact b1 HB GE126)) (rdOf ByteArray.empty l0_3 x42_1) t131 _ A33.out).mono ?_); rintro e w35 ⟨rfl, hb⟩; refine ⟨_, rfl, ?_⟩; have n0_ := Aside0.mk (blk_below (g := gb126) (o := .cells #[.int .i64 a0_0, .int .i64 a0_1, .string a0_2, .slice (some ad130) l0_3.length c0_3, .slice A0_4 l0_4.length c0_4] 30 (0, 0)) (by exact bk BK126) hb); have n1_ := Aside0.mk (below_step (by exact b1 HB GE126) hb); clear BK126; clear HB; have BK126 := n0_; have HB := n1_; clear n0_ n1_; (try clear hb); (try clear hb2); (try clear hk); (try clear hi)))
                            go_roundg k1
                            case measure => have := HK1.out; omega
                            case rel => exact ⟨(x3_1 ++ t131), (wrap64 (x42_1 + 1)), (by first | rfl | (simp; done) | (simp [*]; done)), (by first | rfl | (simp; done) | (simp [*]; done)), H', ⟨by have := HK1.out; omega⟩, ⟨by refine bp ?_; exact BK126.out⟩, ⟨by exact b1 HB GE126⟩⟩
                          · rw [if_neg c34] at H
                            exact absurd H (by simp)
                        · rw [if_neg c32] at H
                          exact absurd H (by simp)
                      · rw [if_neg c31] at H
                        exact absurd H (by simp)
                    · rw [if_neg c30] at H
                      have c30b0 : decide (x42_1 < (l0_3.length : Int)) = false := decide_eq_false c30
                      clear c30
                      obtain rfl := Option.some.inj H
                      go_wp2
                      go_ret
                      exact fz (by exact b1 HB GE126)
              · rw [if_neg c25] at H
                exact absurd H (by simp)
            · rw [if_neg c24] at H
              exact absurd H (by simp)
          · rw [if_neg c22] at H
            have c22b0 : (a0_0 == 5) = false := beq_eq_false_iff_ne.mpr c22
            have c22b1 : (a0_0 != 5) = true := bne_iff_ne.mpr c22
            by_cases c36 : a0_0 = 6
            · rw [if_pos c36] at H
              have c36b0 : (a0_0 == 6) = true := beq_iff_eq.mpr c36
              have c36b1 : (a0_0 != 6) = false := bne_eq_false_iff_eq.mpr c36
              clear c36
              replace H := Option.bind_eq_some_iff.mp H
              obtain ⟨t132, A370, H⟩ := H
              replace H : (if 1 + t132.size ≤ 9223372036854775807 then (if ((⟨#[42]⟩ : ByteArray) ++ t132).size + 2 ≤ 9223372036854775807 then (impl_ReplyPut.l1 k (((⟨#[42]⟩ : ByteArray) ++ t132) ++ (⟨#[13, 10]⟩ : ByteArray)) l0_4 (l0_4.length : Int) 0) else (none)) else (none)) = some r := H
              have A37 := Aside0.mk A370
              clear A370
              by_cases c38 : 1 + t132.size ≤ 9223372036854775807
              · rw [if_pos c38] at H
                have c38b0 := eq_true c38
                have c38b1 : decide (1 + t132.size ≤ 9223372036854775807) = true := decide_eq_true c38
                try have c38b2 : (9223372036854775807 < 1 + t132.size) = False := eq_false (Nat.not_lt.2 c38)
                by_cases c39 : ((⟨#[42]⟩ : ByteArray) ++ t132).size + 2 ≤ 9223372036854775807
                · rw [if_pos c39] at H
                  have c39b0 := eq_true c39
                  have c39b1 : decide (((⟨#[42]⟩ : ByteArray) ++ t132).size + 2 ≤ 9223372036854775807) = true := decide_eq_true c39
                  try have c39b2 : (9223372036854775807 < ((⟨#[42]⟩ : ByteArray) ++ t132).size + 2) = False := eq_false (Nat.not_lt.2 c39)
                  try have c39b3 : (9223372036854775807 < 1 + t132.size + 2) = False := eq_false (by have h_ := c39; simp only [ByteArray.size_append] at h_; exact Nat.not_lt.2 h_)
                  have H' := Aside0.mk H
                  clear H
                  go_enter Tryd.func7, Tryd.ntmps7
                  go_wp2_with (first | ((with_reducible refine gate_dst (N := 1) rfl ?_); refine bx 1 #[.int .i64 a0_0, .int .i64 a0_1, .string a0_2, .slice A0_3 l0_3.length c0_3, .slice A0_4 l0_4.length c0_4] 30 ?_; intro gb126 hg w40 hbox hb; have n0_ := Aside0.mk (below_step (by exact bl HB) hb); have n1_ := Aside0.mk (hbox); have n2_ := Aside0.mk ((by rw [hg]; exact (below_size (by exact bl HB)) : w.heap.size ≤ gb126)); have n3_ := n2_; clear HB; have HB := n0_; have BK126 := n1_; have GW126 := n2_; have GE126 := n3_; clear n0_ n1_ n2_ n3_; clear hb hbox hg; have hcz41_0 : w40.cell? ⟨gb126, 0, none⟩ = some (.int .i64 a0_0) := bc BK126 0; have hcz41_1 : w40.cell? ⟨gb126, 1, none⟩ = some (.int .i64 a0_1) := bc BK126 1; have hcz41_2 : w40.cell? ⟨gb126, 2, none⟩ = some (.string a0_2) := bc BK126 2; have hcz41_3 : w40.cell? ⟨gb126, 3, none⟩ = some (.slice A0_3 l0_3.length c0_3) := bc BK126 3; have hcz41_4 : w40.cell? ⟨gb126, 4, none⟩ = some (.slice A0_4 l0_4.length c0_4) := bc BK126 4; have hfz41_0 := blk_frozen BK126.out 0; have hfz41_1 := blk_frozen BK126.out 1; have hfz41_2 := blk_frozen BK126.out 2; have hfz41_3 := blk_frozen BK126.out 3; have hfz41_4 := blk_frozen BK126.out 4) | ((with_reducible refine gate_callee (f := 15) rfl ?_); refine gl (some 57) Tryd.func15 #[.int .i64 (l0_4.length : Int)] ?_; (with_reducible refine (strconv_Itoa_15.calls (hT0 := X.Tab.keep hT0 (by exact b1 HB GE126)) (l0_4.length : Int) t132 _ A37.out).mono ?_); rintro e w42 ⟨rfl, hb⟩; refine ⟨_, rfl, ?_⟩; have n0_ := Aside0.mk (blk_below (g := gb126) (o := .cells #[.int .i64 a0_0, .int .i64 a0_1, .string a0_2, .slice A0_3 l0_3.length c0_3, .slice A0_4 l0_4.length c0_4] 30 (0, 0)) (by exact bk BK126) hb); have n1_ := Aside0.mk (below_step (by exact b1 HB GE126) hb); clear BK126; clear HB; have BK126 := n0_; have HB := n1_; clear n0_ n1_; (try clear hb); (try clear hb2); (try clear hk); (try clear hi); have hcz43_0 : w42.cell? ⟨gb126, 0, none⟩ = some (.int .i64 a0_0) := bc BK126 0; have hcz43_1 : w42.cell? ⟨gb126, 1, none⟩ = some (.int .i64 a0_1) := bc BK126 1; have hcz43_2 : w42.cell? ⟨gb126, 2, none⟩ = some (.string a0_2) := bc BK126 2; have hcz43_3 : w42.cell? ⟨gb126, 3, none⟩ = some (.slice A0_3 l0_3.length c0_3) := bc BK126 3; have hcz43_4 : w42.cell? ⟨gb126, 4, none⟩ = some (.slice A0_4 l0_4.length c0_4) := bc BK126 4; have hfz43_0 := blk_frozen BK126.out 0; have hfz43_1 := blk_frozen BK126.out 1; have hfz43_2 := blk_frozen BK126.out 2; have hfz43_3 := blk_frozen BK126.out 3; have hfz43_4 := blk_frozen BK126.out 4))
                  go_loopg [6, 63] k (fun kq v6 v63 w' => ∃ (x6_1 : ByteArray) (x63_1 : Int), v6 = .string x6_1 ∧ v63 = .int .i64 x63_1 ∧ Aside0 (impl_ReplyPut.l1 kq x6_1 l0_4 (l0_4.length : Int) x63_1 = some r) ∧ Aside0 (kq ≤ k) ∧ Aside0 (w'.heap[gb126]? = some (.cells #[.int .i64 a0_0, .int .i64 a0_1, .string a0_2, (.slice A0_3 l0_3.length c0_3), (.slice A0_4 l0_4.length c0_4)] 30 (0, 0))) ∧ Aside0 (Below w.heap.size w w'))
                  case atStart => exact ⟨(((⟨#[42]⟩ : ByteArray) ++ t132) ++ (⟨#[13, 10]⟩ : ByteArray)), (0), (by first | rfl | (simp; done) | (simp [*]; done)), (by first | rfl | (simp; done) | (simp [*]; done)), H', ⟨Nat.le_refl _⟩, ⟨by refine bp ?_; exact BK126.out⟩, ⟨by exact b1 HB GE126⟩⟩
                  case round =>
                    clear H'
                    try clear c1
                    try clear p1
                    try clear q1
                    try clear hx1
                    try clear c2
                    try clear c2b0
                    try clear c2b1
                    try clear p2
                    try clear c3
                    try clear c3b0
                    try clear c3b1
                    try clear c3b2
                    try clear c4
                    try clear c4b0
                    try clear c4b1
                    try clear c4b2
                    try clear p6
                    try clear c7
                    try clear c7b0
                    try clear c7b1
                    try clear c9
                    try clear c9b0
                    try clear c9b1
                    try clear c9b2
                    try clear c10
                    try clear c10b0
                    try clear c10b1
                    try clear c10b2
                    try clear p13
                    try clear q13
                    try clear hx13
                    try clear c14
                    try clear c14b0
                    try clear c14b1
                    try clear c15
                    try clear c16
                    try clear c19
                    try clear c19b0
                    try clear c19b1
                    try clear c22
                    try clear c22b0
                    try clear c22b1
                    try clear c24
                    try clear c24b0
                    try clear c24b1
                    try clear c24b2
                    try clear c25
                    try clear c25b0
                    try clear c25b1
                    try clear c25b2
                    try clear c30
                    try clear c30b0
                    try clear c31
                    try clear c31b0
                    try clear c32
                    try clear c32b0
                    try clear c34
                    try clear c34b0
                    try clear c34b1
                    try clear c34b2
                    try clear c36
                    try clear c36b0
                    try clear c36b1
                    try clear c38
                    try clear c38b0
                    try clear c38b1
                    try clear c38b2
                    try clear c39
                    try clear c39b0
                    try clear c39b1
                    try clear c39b2
                    try clear hcz12_0
                    try clear hcz12_1
                    try clear hcz12_2
                    try clear hcz12_3
                    try clear hcz12_4
                    try clear hcz17_0
                    try clear hcz17_1
                    try clear hcz17_2
                    try clear hcz17_3
                    try clear hcz17_4
                    try clear hcz21_0
                    try clear hcz21_1
                    try clear hcz21_2
                    try clear hcz21_3
                    try clear hcz21_4
                    try clear hcz27_0
                    try clear hcz27_1
                    try clear hcz27_2
                    try clear hcz27_3
                    try clear hcz27_4
                    try clear hcz29_0
                    try clear hcz29_1
                    try clear hcz29_2
                    try clear hcz29_3
                    try clear hcz29_4
                    try clear hcz41_0
                    try clear hcz41_1
                    try clear hcz41_2
                    try clear hcz41_3
                    try clear hcz41_4
                    try clear hcz43_0
                    try clear hcz43_1
                    try clear hcz43_2
                    try clear hcz43_3
                    try clear hcz43_4
                    try clear hcz6_0
                    try clear hcz6_1
                    try clear hcz6_2
                    try clear hcz6_3
                    try clear hcz6_4
                    try clear hfz12_0
                    try clear hfz12_1
                    try clear hfz12_2
                    try clear hfz12_3
                    try clear hfz12_4
                    try clear hfz17_0
                    try clear hfz17_1
                    try clear hfz17_2
                    try clear hfz17_3
                    try clear hfz17_4
                    try clear hfz21_0
                    try clear hfz21_1
                    try clear hfz21_2
                    try clear hfz21_3
                    try clear hfz21_4
                    try clear hfz27_0
                    try clear hfz27_1
                    try clear hfz27_2
                    try clear hfz27_3
                    try clear hfz27_4
                    try clear hfz29_0
                    try clear hfz29_1
                    try clear hfz29_2
                    try clear hfz29_3
                    try clear hfz29_4
                    try clear hfz41_0
                    try clear hfz41_1
                    try clear hfz41_2
                    try clear hfz41_3
                    try clear hfz41_4
                    try clear hfz43_0
                    try clear hfz43_1
                    try clear hfz43_2
                    try clear hfz43_3
                    try clear hfz43_4
                    try clear hfz6_0
                    try clear hfz6_1
                    try clear hfz6_2
                    try clear hfz6_3
                    try clear hfz6_4
                    try clear hx130_0
                    try clear p130
                    try clear p2
                    try clear q130
                    obtain ⟨x6_1, x63_1, rfl, rfl, HA, HK1, BK126, HB⟩ := hrel
                    cases gk with
                    | zero => exact absurd HA.out (by simp [impl_ReplyPut.l1])
                    | succ k1 =>
                      have H := HA.out
                      clear HA
                      simp only [impl_ReplyPut.l1] at H
                      by_cases c44 : x63_1 < (l0_4.length : Int)
                      · rw [if_pos c44] at H
                        have c44b0 : decide (x63_1 < (l0_4.length : Int)) = true := decide_eq_true c44
                        clear c44
                        by_cases c45 : 0 ≤ x63_1
                        · rw [if_pos c45] at H
                          have c45b0 : decide (0 ≤ x63_1) = true := decide_eq_true c45
                          clear c45
                          by_cases c46 : x63_1 < (l0_4.length : Int)
                          · rw [if_pos c46] at H
                            have c46b0 : decide (x63_1 < (l0_4.length : Int)) = true := decide_eq_true c46
                            clear c46
                            replace H := Option.bind_eq_some_iff.mp H
                            obtain ⟨t135, A470, H⟩ := H
                            replace H : (if x6_1.size + t135.size ≤ 9223372036854775807 then (impl_ReplyPut.l1 k1 (x6_1 ++ t135) l0_4 (l0_4.length : Int) (wrap64 (x63_1 + 1))) else (none)) = some r := H
                            have A47 := Aside0.mk A470
                            clear A470
                            by_cases c48 : x6_1.size + t135.size ≤ 9223372036854775807
                            · rw [if_pos c48] at H
                              have c48b0 := eq_true c48
                              have c48b1 : decide (x6_1.size + t135.size ≤ 9223372036854775807) = true := decide_eq_true c48
                              try have c48b2 : (9223372036854775807 < x6_1.size + t135.size) = False := eq_false (Nat.not_lt.2 c48)
                              have H' := Aside0.mk H
                              clear H
                              have p133 : 0 ≤ (x63_1 : Int) := of_decide_eq_true ‹_›
                              have q133 : x63_1 < (l0_4.length : Int) := of_decide_eq_true ‹_›
                              obtain ⟨ad133, A133_3, c133_3, A133_4, c133_4, e133, hx133_0, hx133_1, hx133_2, hx133_3, hx133_4, hl133_3, hi133_3, hl133_4, hi133_4⟩ := at_T30 HR0_4.out x63_1 p133 q133
                              cases e133
                              replace hx133_0 := hcl HB hx133_0
                              replace hx133_1 := hcl HB hx133_1
                              replace hx133_2 := hcl HB hx133_2
                              replace hx133_3 := hcl HB hx133_3
                              replace hx133_4 := hcl HB hx133_4
                              have HR133_3 := Aside0.mk hi133_3
                              have HC133_3 := Aside0.mk hl133_3
                              clear hi133_3 hl133_3
                              have HR133_4 := Aside0.mk hi133_4
                              have HC133_4 := Aside0.mk hl133_4
                              clear hi133_4 hl133_4
                              replace p133 := eq_true p133
                              replace q133 := eq_true q133
                              go_wp2_with (first | ((with_reducible refine gate_dst (N := 8) rfl ?_); refine bx 8 #[.int .i64 0, .int .i64 0, .string (⟨#[]⟩ : ByteArray), .slice none 0 0, .slice none 0 0] 30 ?_; intro gb134 hg w49 hbox hb; have n0_ := Aside0.mk (blk_below (g := gb126) (o := .cells #[.int .i64 a0_0, .int .i64 a0_1, .string a0_2, .slice A0_3 l0_3.length c0_3, .slice (some ad133) l0_4.length c0_4] 30 (0, 0)) (by exact bk BK126) hb); have n1_ := Aside0.mk (below_step (by exact b1 HB GE126) hb); have n2_ := Aside0.mk (hbox); have n3_ := Aside0.mk ((by rw [hg]; exact (below_size (by exact b1 HB GE126)) : w.heap.size ≤ gb134)); have n4_ := n3_; have n5_ := Aside0.mk ((by rw [hg]; exact Nat.ne_of_lt (blk_lt (g := gb126) (o := .cells #[.int .i64 a0_0, .int .i64 a0_1, .string a0_2, .slice A0_3 l0_3.length c0_3, .slice (some ad133) l0_4.length c0_4] 30 (0, 0)) (by exact bk BK126)) : gb126 ≠ gb134)); have n6_ := Aside0.mk ((by rw [hg]; exact Nat.ne_of_gt (blk_lt (g := gb126) (o := .cells #[.int .i64 a0_0, .int .i64 a0_1, .string a0_2, .slice A0_3 l0_3.length c0_3, .slice (some ad133) l0_4.length c0_4] 30 (0, 0)) (by exact bk BK126)) : gb134 ≠ gb126)); clear BK126; clear HB; have BK126 := n0_; have HB := n1_; have BK134 := n2_; have GW134 := n3_; have GE134 := n4_; have NB126_134 := n5_; have NB134_126 := n6_; clear n0_ n1_ n2_ n3_ n4_ n5_ n6_; clear hb hbox hg; have hnb50 := NB134_126.out; have hnc50 := NB126_134.out; have hcz51_0 : w49.cell? ⟨gb134, 0, none⟩ = some (.int .i64 0) := bc BK134 0; have hcz51_1 : w49.cell? ⟨gb134, 1, none⟩ = some (.int .i64 0) := bc BK134 1; have hcz51_2 : w49.cell? ⟨gb134, 2, none⟩ = some (.string (⟨#[]⟩ : ByteArray)) := bc BK134 2; have hcz51_3 : w49.cell? ⟨gb134, 3, none⟩ = some (.slice none 0 0) := bc BK134 3; have hcz51_4 : w49.cell? ⟨gb134, 4, none⟩ = some (.slice none 0 0) := bc BK134 4; have hfz51_0 := blk_frozen BK134.out 0; have hfz51_1 := blk_frozen BK134.out 1; have hfz51_2 := blk_frozen BK134.out 2; have hfz51_3 := blk_frozen BK134.out 3; have hfz51_4 := blk_frozen BK134.out 4) | ((with_reducible refine gate_callee (f := 7) rfl ?_); refine gl (some 69) Tryd.func7 #[.agg #[.int .i64 ((rd_T30 l0_4 x63_1).f0), .int .i64 ((rd_T30 l0_4 x63_1).f1), .string ((rd_T30 l0_4 x63_1).f2), .slice A133_3 ((rd_T30 l0_4 x63_1).f3).length c133_3, .slice A133_4 ((rd_T30 l0_4 x63_1).f4).length c133_4]] ?_; (with_reducible refine (ih (hT0 := X.Tab.keep hT0 (by exact b2 HB GE126 GE134)) k1 (by have := HK1.out; omega) ((rd_T30 l0_4 x63_1).f0) ((rd_T30 l0_4 x63_1).f1) ((rd_T30 l0_4 x63_1).f2) _ _ ((rd_T30 l0_4 x63_1).f3) _ _ ((rd_T30 l0_4 x63_1).f4) t135 _ ?side1 ?side2 ?side3 ?side4 A47.out).mono ?_); (case side1 => exact Kd.C_below HR133_3.out (by exact b2 HB GE126 GE134)); (case side2 => exact HC133_3.out); (case side3 => exact Kd.C_below HR133_4.out (by exact b2 HB GE126 GE134)); (case side4 => exact HC133_4.out); rintro e w52 ⟨rfl, hb⟩; refine ⟨_, rfl, ?_⟩; have n0_ := Aside0.mk (blk_below (g := gb126) (o := .cells #[.int .i64 a0_0, .int .i64 a0_1, .string a0_2, .slice A0_3 l0_3.length c0_3, .slice (some ad133) l0_4.length c0_4] 30 (0, 0)) (by refine bp ?_; refine blk_far ?_ NB126_134.out _; refine bp ?_; refine blk_far ?_ NB126_134.out _; refine bp ?_; refine blk_far ?_ NB126_134.out _; refine bp ?_; refine blk_far ?_ NB126_134.out _; refine bp ?_; refine blk_far ?_ NB126_134.out _; refine bp ?_; exact BK126.out) hb); have n1_ := Aside0.mk (blk_below (g := gb134) (o := .cells #[.int .i64 ((rd_T30 l0_4 x63_1).f0), .int .i64 ((rd_T30 l0_4 x63_1).f1), .string ((rd_T30 l0_4 x63_1).f2), .slice A133_3 ((rd_T30 l0_4 x63_1).f3).length c133_3, .slice A133_4 ((rd_T30 l0_4 x63_1).f4).length c133_4] 30 (0, 0)) (by refine bp ?_; refine blk_put (cs := #[.int .i64 ((rd_T30 l0_4 x63_1).f0), .int .i64 ((rd_T30 l0_4 x63_1).f1), .string ((rd_T30 l0_4 x63_1).f2), .slice A133_3 ((rd_T30 l0_4 x63_1).f3).length c133_3, .slice none 0 0]) ?_ 4 _ rfl; refine bp ?_; refine blk_put (cs := #[.int .i64 ((rd_T30 l0_4 x63_1).f0), .int .i64 ((rd_T30 l0_4 x63_1).f1), .string ((rd_T30 l0_4 x63_1).f2), .slice none 0 0, .slice none 0 0]) ?_ 3 _ rfl; refine bp ?_; refine blk_put (cs := #[.int .i64 ((rd_T30 l0_4 x63_1).f0), .int .i64 ((rd_T30 l0_4 x63_1).f1), .string (⟨#[]⟩ : ByteArray), .slice none 0 0, .slice none 0 0]) ?_ 2 _ rfl; refine bp ?_; refine blk_put (cs := #[.int .i64 ((rd_T30 l0_4 x63_1).f0), .int .i64 0, .string (⟨#[]⟩ : ByteArray), .slice none 0 0, .slice none 0 0]) ?_ 1 _ rfl; refine bp ?_; refine blk_put (cs := #[.int .i64 0, .int .i64 0, .string (⟨#[]⟩ : ByteArray), .slice none 0 0, .slice none 0 0]) ?_ 0 _ rfl; refine bp ?_; exact BK134.out) hb); have n2_ := Aside0.mk (below_step (by exact b2 HB GE126 GE134) hb); clear BK126; clear BK134; clear HB; have BK126 := n0_; have BK134 := n1_; have HB := n2_; clear n0_ n1_ n2_; (try clear hb); (try clear hb2); (try clear hk); (try clear hi)))
                              go_roundg k1
                              case measure => have := HK1.out; omega
                              case rel => exact ⟨(x6_1 ++ t135), (wrap64 (x63_1 + 1)), (by first | rfl | (simp; done) | (simp [*]; done)), (by first | rfl | (simp; done) | (simp [*]; done)), H', ⟨by have := HK1.out; omega⟩, ⟨by refine bp ?_; exact BK126.out⟩, ⟨by exact b2 HB GE126 GE134⟩⟩
                            · rw [if_neg c48] at H
                              exact absurd H (by simp)
                          · rw [if_neg c46] at H
                            exact absurd H (by simp)
                        · rw [if_neg c45] at H
                          exact absurd H (by simp)
                      · rw [if_neg c44] at H
                        have c44b0 : decide (x63_1 < (l0_4.length : Int)) = false := decide_eq_false c44
                        clear c44
                        obtain rfl := Option.some.inj H
                        go_wp2
                        go_ret
                        exact fz (by exact b1 HB GE126)
                · rw [if_neg c39] at H
                  exact absurd H (by simp)
              · rw [if_neg c38] at H
                exact absurd H (by simp)
            · rw [if_neg c36] at H
              have c36b0 : (a0_0 == 6) = false := beq_eq_false_iff_ne.mpr c36
              have c36b1 : (a0_0 != 6) = true := bne_iff_ne.mpr c36
              obtain rfl := Option.some.inj H
              go_enter Tryd.func7, Tryd.ntmps7
              go_wp2_with (first | ((with_reducible refine gate_dst (N := 1) rfl ?_); refine bx 1 #[.int .i64 a0_0, .int .i64 a0_1, .string a0_2, .slice A0_3 l0_3.length c0_3, .slice A0_4 l0_4.length c0_4] 30 ?_; intro gb126 hg w53 hbox hb; have n0_ := Aside0.mk (below_step (by exact bl HB) hb); have n1_ := Aside0.mk (hbox); have n2_ := Aside0.mk ((by rw [hg]; exact (below_size (by exact bl HB)) : w.heap.size ≤ gb126)); have n3_ := n2_; clear HB; have HB := n0_; have BK126 := n1_; have GW126 := n2_; have GE126 := n3_; clear n0_ n1_ n2_ n3_; clear hb hbox hg; have hcz54_0 : w53.cell? ⟨gb126, 0, none⟩ = some (.int .i64 a0_0) := bc BK126 0; have hcz54_1 : w53.cell? ⟨gb126, 1, none⟩ = some (.int .i64 a0_1) := bc BK126 1; have hcz54_2 : w53.cell? ⟨gb126, 2, none⟩ = some (.string a0_2) := bc BK126 2; have hcz54_3 : w53.cell? ⟨gb126, 3, none⟩ = some (.slice A0_3 l0_3.length c0_3) := bc BK126 3; have hcz54_4 : w53.cell? ⟨gb126, 4, none⟩ = some (.slice A0_4 l0_4.length c0_4) := bc BK126 4; have hfz54_0 := blk_frozen BK126.out 0; have hfz54_1 := blk_frozen BK126.out 1; have hfz54_2 := blk_frozen BK126.out 2; have hfz54_3 := blk_frozen BK126.out 3; have hfz54_4 := blk_frozen BK126.out 4))
              go_ret
              exact fz (by exact b1 HB GE126)

end Go.Proofs.YthdbjegppeekoaaDoor.P
