-- Written by wip/px.py of this session, over the kit's print.py. Not trusted: Lean checks it.
import Derived.Test.YthdbjegppeekoaaDoorPx0
import Derived.Test.YthdbjegppeekoaaDoorPx1
import Derived.Test.YthdbjegppeekoaaDoorPx24
namespace Go.Proofs.YthdbjegppeekoaaDoor.P
open Go.RowKit Go.Proofs.YthdbjegppeekoaaDoorW.PrintWords Go.Proofs.YthdbjegppeekoaaDoorW.PrintLast Go.Proofs.YthdbjegppeekoaaDoorW.PrintMore
attribute [local go_sem] max2_int min2_int max_two min_two max_three min_three max_four min_four   -- for this text's walks alone
set_option linter.unusedVariables false
set_option linter.unusedSimpArgs false

/-! ### impl_bulk: the walk -/
set_option maxHeartbeats 8000000 in
set_option maxRecDepth 100000 in
theorem impl_bulk.calls (a0 : ByteArray) (r : ByteArray) (w : World) (hT0 : X.Tab w) (h : impl_bulk.f a0 = some r) :
    Calls Tryd.prog 16 #[.string a0] w fun e w' => e = .returned (.string r) ∧ Below w.heap.size w w' := by
  have HB := Aside0.mk (Below.refl w.heap.size w)
  have H : ((strconv_Itoa_15.f (a0.size : Int)).bind fun t125 => (if 1 + t125.size ≤ 9223372036854775807 then (if ((⟨#[36]⟩ : ByteArray) ++ t125).size + 2 ≤ 9223372036854775807 then (if (((⟨#[36]⟩ : ByteArray) ++ t125) ++ (⟨#[13, 10]⟩ : ByteArray)).size + a0.size ≤ 9223372036854775807 then (if ((((⟨#[36]⟩ : ByteArray) ++ t125) ++ (⟨#[13, 10]⟩ : ByteArray)) ++ a0).size + 2 ≤ 9223372036854775807 then (some (((((⟨#[36]⟩ : ByteArray) ++ t125) ++ (⟨#[13, 10]⟩ : ByteArray)) ++ a0) ++ (⟨#[13, 10]⟩ : ByteArray))) else (none)) else (none)) else (none)) else (none))) = some r := h
  clear h
  replace H := Option.bind_eq_some_iff.mp H
  obtain ⟨t125, A20, H⟩ := H
  replace H : (if 1 + t125.size ≤ 9223372036854775807 then (if ((⟨#[36]⟩ : ByteArray) ++ t125).size + 2 ≤ 9223372036854775807 then (if (((⟨#[36]⟩ : ByteArray) ++ t125) ++ (⟨#[13, 10]⟩ : ByteArray)).size + a0.size ≤ 9223372036854775807 then (if ((((⟨#[36]⟩ : ByteArray) ++ t125) ++ (⟨#[13, 10]⟩ : ByteArray)) ++ a0).size + 2 ≤ 9223372036854775807 then (some (((((⟨#[36]⟩ : ByteArray) ++ t125) ++ (⟨#[13, 10]⟩ : ByteArray)) ++ a0) ++ (⟨#[13, 10]⟩ : ByteArray))) else (none)) else (none)) else (none)) else (none)) = some r := H
  have A2 := Aside0.mk A20
  clear A20
  by_cases c3 : 1 + t125.size ≤ 9223372036854775807
  · rw [if_pos c3] at H
    have c3b0 := eq_true c3
    have c3b1 : decide (1 + t125.size ≤ 9223372036854775807) = true := decide_eq_true c3
    try have c3b2 : (9223372036854775807 < 1 + t125.size) = False := eq_false (Nat.not_lt.2 c3)
    by_cases c4 : ((⟨#[36]⟩ : ByteArray) ++ t125).size + 2 ≤ 9223372036854775807
    · rw [if_pos c4] at H
      have c4b0 := eq_true c4
      have c4b1 : decide (((⟨#[36]⟩ : ByteArray) ++ t125).size + 2 ≤ 9223372036854775807) = true := decide_eq_true c4
      try have c4b2 : (9223372036854775807 < ((⟨#[36]⟩ : ByteArray) ++ t125).size + 2) = False := eq_false (Nat.not_lt.2 c4)
      try have c4b3 : (9223372036854775807 < 1 + t125.size + 2) = False := eq_false (by have h_ := c4; simp only [ByteArray.size_append] at h_; exact Nat.not_lt.2 h_)
      by_cases c5 : (((⟨#[36]⟩ : ByteArray) ++ t125) ++ (⟨#[13, 10]⟩ : ByteArray)).size + a0.size ≤ 9223372036854775807
      · rw [if_pos c5] at H
        have c5b0 := eq_true c5
        have c5b1 : decide ((((⟨#[36]⟩ : ByteArray) ++ t125) ++ (⟨#[13, 10]⟩ : ByteArray)).size + a0.size ≤ 9223372036854775807) = true := decide_eq_true c5
        try have c5b2 : (9223372036854775807 < (((⟨#[36]⟩ : ByteArray) ++ t125) ++ (⟨#[13, 10]⟩ : ByteArray)).size + a0.size) = False := eq_false (Nat.not_lt.2 c5)
        try have c5b3 : (9223372036854775807 < 1 + t125.size + 2 + a0.size) = False := eq_false (by have h_ := c5; simp only [ByteArray.size_append] at h_; exact Nat.not_lt.2 h_)
        by_cases c6 : ((((⟨#[36]⟩ : ByteArray) ++ t125) ++ (⟨#[13, 10]⟩ : ByteArray)) ++ a0).size + 2 ≤ 9223372036854775807
        · rw [if_pos c6] at H
          have c6b0 := eq_true c6
          have c6b1 : decide (((((⟨#[36]⟩ : ByteArray) ++ t125) ++ (⟨#[13, 10]⟩ : ByteArray)) ++ a0).size + 2 ≤ 9223372036854775807) = true := decide_eq_true c6
          try have c6b2 : (9223372036854775807 < ((((⟨#[36]⟩ : ByteArray) ++ t125) ++ (⟨#[13, 10]⟩ : ByteArray)) ++ a0).size + 2) = False := eq_false (Nat.not_lt.2 c6)
          try have c6b3 : (9223372036854775807 < 1 + t125.size + 2 + a0.size + 2) = False := eq_false (by have h_ := c6; simp only [ByteArray.size_append] at h_; exact Nat.not_lt.2 h_)
          obtain rfl := Option.some.inj H
          go_enter Tryd.func16, Tryd.ntmps16
          go_wp2_with (first | ((with_reducible refine gate_callee (f := 15) rfl ?_); refine gl (some 5) Tryd.func15 #[.int .i64 (a0.size : Int)] ?_; (with_reducible refine (strconv_Itoa_15.calls (hT0 := X.Tab.keep hT0 (by exact bl HB)) (a0.size : Int) t125 _ A2.out).mono ?_); rintro e w7 ⟨rfl, hb⟩; refine ⟨_, rfl, ?_⟩; have n0_ := Aside0.mk (below_step (by exact bl HB) hb); clear HB; have HB := n0_; clear n0_; (try clear hb); (try clear hb2); (try clear hk); (try clear hi)))
          go_ret
          exact fz (by exact bl HB)
        · rw [if_neg c6] at H
          exact absurd H (by simp)
      · rw [if_neg c5] at H
        exact absurd H (by simp)
    · rw [if_neg c4] at H
      exact absurd H (by simp)
  · rw [if_neg c3] at H
    exact absurd H (by simp)

end Go.Proofs.YthdbjegppeekoaaDoor.P
