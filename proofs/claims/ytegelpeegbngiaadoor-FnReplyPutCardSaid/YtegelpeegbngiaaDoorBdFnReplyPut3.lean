import Derived.Test.YtegelpeegbngiaaDoorBdFnReplyPut2
import Derived.ProofKit
import Derived.SizedLaws
import Derived.Lib.AtoiAll
import Derived.Lib.ItoaNum
import Derived.Lib.IndexBytes
/- Texts of this claim, one behind the other: printed functions and their walks, plain lemmas. -/
-- Written by wip/px.py of this session, over the kit's print.py. Not trusted: Lean checks it.
namespace Go.Proofs.YtegelpeegbngiaaDoor.P
open Go.RowKit Go.Proofs.YtegelpeegbngiaaDoorW.PrintWords Go.Proofs.YtegelpeegbngiaaDoorW.PrintLast Go.Proofs.YtegelpeegbngiaaDoorW.PrintMore
attribute [local go_sem] max2_int min2_int max_two min_two max_three min_three max_four min_four   -- for this text's walks alone
set_option linter.unusedVariables false
set_option linter.unusedSimpArgs false

/-! ### spec_ReplyPut: the walk -/
set_option maxHeartbeats 8000000 in
set_option maxRecDepth 100000 in
theorem spec_ReplyPut.calls (k : Nat) : ∀ (a0_0 : Int) (a0_1 : Int) (a0_2 : ByteArray) (A0_3 : Option Addr) (c0_3 : Nat) (l0_3 : List ByteArray) (A0_4 : Option Addr) (c0_4 : Nat) (l0_4 : List (S31)) (r : ByteArray) (w : World) (hr0_3 : Kd.C Kd.string w A0_3 l0_3.length l0_3) (hc0_3 : l0_3.length ≤ c0_3) (hr0_4 : Kd.C k31 w A0_4 l0_4.length l0_4) (hc0_4 : l0_4.length ≤ c0_4) (h : spec_ReplyPut.f k a0_0 a0_1 a0_2 l0_3 l0_4 = some r),
    Calls Tryd.prog 15 #[.agg #[.int .i64 a0_0, .int .i64 a0_1, .string a0_2, .slice A0_3 l0_3.length c0_3, .slice A0_4 l0_4.length c0_4]] w fun e w' => e = .returned (.string r) ∧ Below w.heap.size w w' := by
  induction k using Nat.strongRecOn with
  | _ k ih =>
  intro a0_0 a0_1 a0_2 A0_3 c0_3 l0_3 A0_4 c0_4 l0_4 r w hr0_3 hc0_3 hr0_4 hc0_4 h
  cases k with
  | zero => exact absurd h (by simp [spec_ReplyPut.f])
  | succ k =>
  simp only [spec_ReplyPut.f] at h
  have hu31 := Tryd.underlying31
  have HR0_3 := Aside0.mk hr0_3
  have HC0_3 := Aside0.mk hc0_3
  clear hr0_3 hc0_3
  have HR0_4 := Aside0.mk hr0_4
  have HC0_4 := Aside0.mk hc0_4
  clear hr0_4 hc0_4
  have HB := Aside0.mk (Below.refl w.heap.size w)
  have H : (if a0_0 = 1 then (if 1 + a0_2.size ≤ 9223372036854775807 then (if ((⟨#[45]⟩ : ByteArray) ++ a0_2).size + 2 ≤ 9223372036854775807 then (some (((⟨#[45]⟩ : ByteArray) ++ a0_2) ++ (⟨#[13, 10]⟩ : ByteArray))) else (none)) else (none)) else (if a0_0 = 2 then ((spec_l1Dec.f k a0_1).bind fun t288 => (if 1 + t288.size ≤ 9223372036854775807 then (if ((⟨#[58]⟩ : ByteArray) ++ t288).size + 2 ≤ 9223372036854775807 then (some (((⟨#[58]⟩ : ByteArray) ++ t288) ++ (⟨#[13, 10]⟩ : ByteArray))) else (none)) else (none))) else (if a0_0 = 3 then ((spec_l1Bulk.f k a0_2).bind fun t289 => (some t289)) else (if a0_0 = 4 then (some (⟨#[36, 45, 49, 13, 10]⟩ : ByteArray)) else (if a0_0 = 5 then ((spec_l1Dec.f k (l0_3.length : Int)).bind fun t290 => (if 1 + t290.size ≤ 9223372036854775807 then (if ((⟨#[42]⟩ : ByteArray) ++ t290).size + 2 ≤ 9223372036854775807 then (spec_ReplyPut.l0 k (((⟨#[42]⟩ : ByteArray) ++ t290) ++ (⟨#[13, 10]⟩ : ByteArray)) 0 a0_0 a0_1 a0_2 l0_3 l0_4) else (none)) else (none))) else (if a0_0 = 6 then ((spec_l1Dec.f k (l0_4.length : Int)).bind fun t293 => (if 1 + t293.size ≤ 9223372036854775807 then (if ((⟨#[42]⟩ : ByteArray) ++ t293).size + 2 ≤ 9223372036854775807 then (spec_ReplyPut.l1 k (((⟨#[42]⟩ : ByteArray) ++ t293) ++ (⟨#[13, 10]⟩ : ByteArray)) 0 a0_0 a0_1 a0_2 l0_3 l0_4) else (none)) else (none))) else (some (⟨#[43, 79, 75, 13, 10]⟩ : ByteArray)))))))) = some r := h
  clear h
  by_cases c2 : a0_0 = 1
  · rw [if_pos c2] at H
    have c2b0 : (a0_0 == 1) = true := beq_iff_eq.mpr c2
    have c2b1 : (a0_0 != 1) = false := bne_eq_false_iff_eq.mpr c2
    clear c2
    by_cases c3 : 1 + a0_2.size ≤ 9223372036854775807
    · rw [if_pos c3] at H
      have c3b0 := eq_true c3
      have c3b1 : decide (1 + a0_2.size ≤ 9223372036854775807) = true := decide_eq_true c3
      try have c3b2 : (9223372036854775807 < 1 + a0_2.size) = False := eq_false (Nat.not_lt.2 c3)
      by_cases c4 : ((⟨#[45]⟩ : ByteArray) ++ a0_2).size + 2 ≤ 9223372036854775807
      · rw [if_pos c4] at H
        have c4b0 := eq_true c4
        have c4b1 : decide (((⟨#[45]⟩ : ByteArray) ++ a0_2).size + 2 ≤ 9223372036854775807) = true := decide_eq_true c4
        try have c4b2 : (9223372036854775807 < ((⟨#[45]⟩ : ByteArray) ++ a0_2).size + 2) = False := eq_false (Nat.not_lt.2 c4)
        try have c4b3 : (9223372036854775807 < 1 + a0_2.size + 2) = False := eq_false (by have h_ := c4; simp only [ByteArray.size_append] at h_; exact Nat.not_lt.2 h_)
        obtain rfl := Option.some.inj H
        go_enter Tryd.func15, Tryd.ntmps15
        go_wp2_with (first | ((with_reducible refine gate_dst (N := 1) rfl ?_); refine box_event ?hg (N := 1) ?hd (cs := #[.int .i64 a0_0, .int .i64 a0_1, .string a0_2, .slice A0_3 l0_3.length c0_3, .slice A0_4 l0_4.length c0_4]) (t := 31) ?hr ?_; (case hd => rfl); (case hg => rfl); (case hr => first | (go_simp; done) | (go_simp; rfl)); intro gb287 hg w5 hbox hb; have n0_ := Aside0.mk (below_step (by repeat (first | (with_reducible first | exact HB.out | apply below_alloc | apply pw_below_drewN | apply below_drew1) | exact HB.out | exact Below.refl _ _)) hb); have n1_ := Aside0.mk (hbox); have n2_ := Aside0.mk ((by rw [hg]; exact (below_size (by repeat (first | (with_reducible first | exact HB.out | apply below_alloc | apply pw_below_drewN | apply below_drew1) | exact HB.out | exact Below.refl _ _))) : w.heap.size ≤ gb287)); have n3_ := Aside0.mk ((by rw [hg]; exact (below_size (by repeat (first | (with_reducible first | exact HB.out | apply below_alloc | apply pw_below_drewN | apply below_drew1) | exact HB.out | exact Below.refl _ _))) : w.heap.size ≤ gb287)); clear HB; have HB := n0_; have BK287 := n1_; have GW287 := n2_; have GE287 := n3_; clear n0_ n1_ n2_ n3_; clear hb hbox hg; have hcz6_0 : w5.cell? ⟨gb287, 0, none⟩ = some (.int .i64 a0_0) := (blk_cell BK287.out 0).trans rfl; have hcz6_1 : w5.cell? ⟨gb287, 1, none⟩ = some (.int .i64 a0_1) := (blk_cell BK287.out 1).trans rfl; have hcz6_2 : w5.cell? ⟨gb287, 2, none⟩ = some (.string a0_2) := (blk_cell BK287.out 2).trans rfl; have hcz6_3 : w5.cell? ⟨gb287, 3, none⟩ = some (.slice A0_3 l0_3.length c0_3) := (blk_cell BK287.out 3).trans rfl; have hcz6_4 : w5.cell? ⟨gb287, 4, none⟩ = some (.slice A0_4 l0_4.length c0_4) := (blk_cell BK287.out 4).trans rfl; have hfz6_0 := blk_frozen BK287.out 0; have hfz6_1 := blk_frozen BK287.out 1; have hfz6_2 := blk_frozen BK287.out 2; have hfz6_3 := blk_frozen BK287.out 3; have hfz6_4 := blk_frozen BK287.out 4))
        go_ret
        exact ⟨by first | rfl | (simp [errW_none, errW_some] <;> rfl) | (simp [*, errW_none, errW_some] <;> rfl), by repeat (first | (with_reducible first | exact HB.out | apply below_alloc | apply pw_below_drewN | apply below_drew1 | refine below_set ?_ GE287.out) | exact HB.out)⟩
      · rw [if_neg c4] at H
        exact absurd H (by simp)
    · rw [if_neg c3] at H
      exact absurd H (by simp)
  · rw [if_neg c2] at H
    have c2b0 : (a0_0 == 1) = false := beq_eq_false_iff_ne.mpr c2
    have c2b1 : (a0_0 != 1) = true := bne_iff_ne.mpr c2
    by_cases c7 : a0_0 = 2
    · rw [if_pos c7] at H
      have c7b0 : (a0_0 == 2) = true := beq_iff_eq.mpr c7
      have c7b1 : (a0_0 != 2) = false := bne_eq_false_iff_eq.mpr c7
      clear c7
      replace H := Option.bind_eq_some_iff.mp H
      obtain ⟨t288, A80, H⟩ := H
      replace H : (if 1 + t288.size ≤ 9223372036854775807 then (if ((⟨#[58]⟩ : ByteArray) ++ t288).size + 2 ≤ 9223372036854775807 then (some (((⟨#[58]⟩ : ByteArray) ++ t288) ++ (⟨#[13, 10]⟩ : ByteArray))) else (none)) else (none)) = some r := H
      have A8 := Aside0.mk A80
      clear A80
      by_cases c9 : 1 + t288.size ≤ 9223372036854775807
      · rw [if_pos c9] at H
        have c9b0 := eq_true c9
        have c9b1 : decide (1 + t288.size ≤ 9223372036854775807) = true := decide_eq_true c9
        try have c9b2 : (9223372036854775807 < 1 + t288.size) = False := eq_false (Nat.not_lt.2 c9)
        by_cases c10 : ((⟨#[58]⟩ : ByteArray) ++ t288).size + 2 ≤ 9223372036854775807
        · rw [if_pos c10] at H
          have c10b0 := eq_true c10
          have c10b1 : decide (((⟨#[58]⟩ : ByteArray) ++ t288).size + 2 ≤ 9223372036854775807) = true := decide_eq_true c10
          try have c10b2 : (9223372036854775807 < ((⟨#[58]⟩ : ByteArray) ++ t288).size + 2) = False := eq_false (Nat.not_lt.2 c10)
          try have c10b3 : (9223372036854775807 < 1 + t288.size + 2) = False := eq_false (by have h_ := c10; simp only [ByteArray.size_append] at h_; exact Nat.not_lt.2 h_)
          obtain rfl := Option.some.inj H
          go_enter Tryd.func15, Tryd.ntmps15
          go_wp2_with (first | ((with_reducible refine gate_dst (N := 1) rfl ?_); refine box_event ?hg (N := 1) ?hd (cs := #[.int .i64 a0_0, .int .i64 a0_1, .string a0_2, .slice A0_3 l0_3.length c0_3, .slice A0_4 l0_4.length c0_4]) (t := 31) ?hr ?_; (case hd => rfl); (case hg => rfl); (case hr => first | (go_simp; done) | (go_simp; rfl)); intro gb287 hg w11 hbox hb; have n0_ := Aside0.mk (below_step (by repeat (first | (with_reducible first | exact HB.out | apply below_alloc | apply pw_below_drewN | apply below_drew1) | exact HB.out | exact Below.refl _ _)) hb); have n1_ := Aside0.mk (hbox); have n2_ := Aside0.mk ((by rw [hg]; exact (below_size (by repeat (first | (with_reducible first | exact HB.out | apply below_alloc | apply pw_below_drewN | apply below_drew1) | exact HB.out | exact Below.refl _ _))) : w.heap.size ≤ gb287)); have n3_ := Aside0.mk ((by rw [hg]; exact (below_size (by repeat (first | (with_reducible first | exact HB.out | apply below_alloc | apply pw_below_drewN | apply below_drew1) | exact HB.out | exact Below.refl _ _))) : w.heap.size ≤ gb287)); clear HB; have HB := n0_; have BK287 := n1_; have GW287 := n2_; have GE287 := n3_; clear n0_ n1_ n2_ n3_; clear hb hbox hg; have hcz12_0 : w11.cell? ⟨gb287, 0, none⟩ = some (.int .i64 a0_0) := (blk_cell BK287.out 0).trans rfl; have hcz12_1 : w11.cell? ⟨gb287, 1, none⟩ = some (.int .i64 a0_1) := (blk_cell BK287.out 1).trans rfl; have hcz12_2 : w11.cell? ⟨gb287, 2, none⟩ = some (.string a0_2) := (blk_cell BK287.out 2).trans rfl; have hcz12_3 : w11.cell? ⟨gb287, 3, none⟩ = some (.slice A0_3 l0_3.length c0_3) := (blk_cell BK287.out 3).trans rfl; have hcz12_4 : w11.cell? ⟨gb287, 4, none⟩ = some (.slice A0_4 l0_4.length c0_4) := (blk_cell BK287.out 4).trans rfl; have hfz12_0 := blk_frozen BK287.out 0; have hfz12_1 := blk_frozen BK287.out 1; have hfz12_2 := blk_frozen BK287.out 2; have hfz12_3 := blk_frozen BK287.out 3; have hfz12_4 := blk_frozen BK287.out 4) | ((with_reducible refine gate_callee (f := 30) rfl ?_); refine goesL_ (some 19) rfl rfl Tryd.func30 (by kernel_rfl) rfl #[.int .i64 a0_1] rfl (by (try simp only [List.map_toArray, List.map_cons, List.map_nil]); first | done | rfl | (simp only [List.length_drop, List.length_take]; rfl)) ?_; (with_reducible refine (spec_l1Dec.calls k a0_1 t288 _ A8.out).mono ?_); rintro e w13 ⟨rfl, hb⟩; refine ⟨_, rfl, ?_⟩; have n0_ := Aside0.mk (blk_below (g := gb287) (o := .cells #[.int .i64 a0_0, .int .i64 a0_1, .string a0_2, .slice A0_3 l0_3.length c0_3, .slice A0_4 l0_4.length c0_4] 31 (0, 0)) (by (with_reducible repeat (first | refine blk_drewN ?_ _ | refine blk_drew ?_ | refine blk_alloc ?_ _)); exact BK287.out) hb); have n1_ := Aside0.mk (below_step (by repeat (first | (with_reducible first | exact HB.out | apply below_alloc | apply pw_below_drewN | apply below_drew1 | refine below_set ?_ GE287.out) | exact HB.out)) hb); clear BK287; clear HB; have BK287 := n0_; have HB := n1_; clear n0_ n1_; (try clear hb); (try clear hb2); (try clear hk); (try clear hi)))
          go_ret
          exact ⟨by first | rfl | (simp [errW_none, errW_some] <;> rfl) | (simp [*, errW_none, errW_some] <;> rfl), by repeat (first | (with_reducible first | exact HB.out | apply below_alloc | apply pw_below_drewN | apply below_drew1 | refine below_set ?_ GE287.out) | exact HB.out)⟩
        · rw [if_neg c10] at H
          exact absurd H (by simp)
      · rw [if_neg c9] at H
        exact absurd H (by simp)
    · rw [if_neg c7] at H
      have c7b0 : (a0_0 == 2) = false := beq_eq_false_iff_ne.mpr c7
      have c7b1 : (a0_0 != 2) = true := bne_iff_ne.mpr c7
      by_cases c14 : a0_0 = 3
      · rw [if_pos c14] at H
        have c14b0 : (a0_0 == 3) = true := beq_iff_eq.mpr c14
        have c14b1 : (a0_0 != 3) = false := bne_eq_false_iff_eq.mpr c14
        clear c14
        replace H := Option.bind_eq_some_iff.mp H
        obtain ⟨t289, A150, H⟩ := H
        replace H : (some t289) = some r := H
        have A15 := Aside0.mk A150
        clear A150
        obtain rfl := Option.some.inj H
        go_enter Tryd.func15, Tryd.ntmps15
        go_wp2_with (first | ((with_reducible refine gate_dst (N := 1) rfl ?_); refine box_event ?hg (N := 1) ?hd (cs := #[.int .i64 a0_0, .int .i64 a0_1, .string a0_2, .slice A0_3 l0_3.length c0_3, .slice A0_4 l0_4.length c0_4]) (t := 31) ?hr ?_; (case hd => rfl); (case hg => rfl); (case hr => first | (go_simp; done) | (go_simp; rfl)); intro gb287 hg w16 hbox hb; have n0_ := Aside0.mk (below_step (by repeat (first | (with_reducible first | exact HB.out | apply below_alloc | apply pw_below_drewN | apply below_drew1) | exact HB.out | exact Below.refl _ _)) hb); have n1_ := Aside0.mk (hbox); have n2_ := Aside0.mk ((by rw [hg]; exact (below_size (by repeat (first | (with_reducible first | exact HB.out | apply below_alloc | apply pw_below_drewN | apply below_drew1) | exact HB.out | exact Below.refl _ _))) : w.heap.size ≤ gb287)); have n3_ := Aside0.mk ((by rw [hg]; exact (below_size (by repeat (first | (with_reducible first | exact HB.out | apply below_alloc | apply pw_below_drewN | apply below_drew1) | exact HB.out | exact Below.refl _ _))) : w.heap.size ≤ gb287)); clear HB; have HB := n0_; have BK287 := n1_; have GW287 := n2_; have GE287 := n3_; clear n0_ n1_ n2_ n3_; clear hb hbox hg; have hcz17_0 : w16.cell? ⟨gb287, 0, none⟩ = some (.int .i64 a0_0) := (blk_cell BK287.out 0).trans rfl; have hcz17_1 : w16.cell? ⟨gb287, 1, none⟩ = some (.int .i64 a0_1) := (blk_cell BK287.out 1).trans rfl; have hcz17_2 : w16.cell? ⟨gb287, 2, none⟩ = some (.string a0_2) := (blk_cell BK287.out 2).trans rfl; have hcz17_3 : w16.cell? ⟨gb287, 3, none⟩ = some (.slice A0_3 l0_3.length c0_3) := (blk_cell BK287.out 3).trans rfl; have hcz17_4 : w16.cell? ⟨gb287, 4, none⟩ = some (.slice A0_4 l0_4.length c0_4) := (blk_cell BK287.out 4).trans rfl; have hfz17_0 := blk_frozen BK287.out 0; have hfz17_1 := blk_frozen BK287.out 1; have hfz17_2 := blk_frozen BK287.out 2; have hfz17_3 := blk_frozen BK287.out 3; have hfz17_4 := blk_frozen BK287.out 4) | ((with_reducible refine gate_callee (f := 31) rfl ?_); refine goesL_ (some 26) rfl rfl Tryd.func31 (by kernel_rfl) rfl #[.string a0_2] rfl (by (try simp only [List.map_toArray, List.map_cons, List.map_nil]); first | done | rfl | (simp only [List.length_drop, List.length_take]; rfl)) ?_; (with_reducible refine (spec_l1Bulk.calls k a0_2 t289 _ A15.out).mono ?_); rintro e w18 ⟨rfl, hb⟩; refine ⟨_, rfl, ?_⟩; have n0_ := Aside0.mk (blk_below (g := gb287) (o := .cells #[.int .i64 a0_0, .int .i64 a0_1, .string a0_2, .slice A0_3 l0_3.length c0_3, .slice A0_4 l0_4.length c0_4] 31 (0, 0)) (by (with_reducible repeat (first | refine blk_drewN ?_ _ | refine blk_drew ?_ | refine blk_alloc ?_ _)); exact BK287.out) hb); have n1_ := Aside0.mk (below_step (by repeat (first | (with_reducible first | exact HB.out | apply below_alloc | apply pw_below_drewN | apply below_drew1 | refine below_set ?_ GE287.out) | exact HB.out)) hb); clear BK287; clear HB; have BK287 := n0_; have HB := n1_; clear n0_ n1_; (try clear hb); (try clear hb2); (try clear hk); (try clear hi)))
        go_ret
        exact ⟨by first | rfl | (simp [errW_none, errW_some] <;> rfl) | (simp [*, errW_none, errW_some] <;> rfl), by repeat (first | (with_reducible first | exact HB.out | apply below_alloc | apply pw_below_drewN | apply below_drew1 | refine below_set ?_ GE287.out) | exact HB.out)⟩
      · rw [if_neg c14] at H
        have c14b0 : (a0_0 == 3) = false := beq_eq_false_iff_ne.mpr c14
        have c14b1 : (a0_0 != 3) = true := bne_iff_ne.mpr c14
        by_cases c19 : a0_0 = 4
        · rw [if_pos c19] at H
          have c19b0 : (a0_0 == 4) = true := beq_iff_eq.mpr c19
          have c19b1 : (a0_0 != 4) = false := bne_eq_false_iff_eq.mpr c19
          clear c19
          obtain rfl := Option.some.inj H
          go_enter Tryd.func15, Tryd.ntmps15
          go_wp2_with (first | ((with_reducible refine gate_dst (N := 1) rfl ?_); refine box_event ?hg (N := 1) ?hd (cs := #[.int .i64 a0_0, .int .i64 a0_1, .string a0_2, .slice A0_3 l0_3.length c0_3, .slice A0_4 l0_4.length c0_4]) (t := 31) ?hr ?_; (case hd => rfl); (case hg => rfl); (case hr => first | (go_simp; done) | (go_simp; rfl)); intro gb287 hg w20 hbox hb; have n0_ := Aside0.mk (below_step (by repeat (first | (with_reducible first | exact HB.out | apply below_alloc | apply pw_below_drewN | apply below_drew1) | exact HB.out | exact Below.refl _ _)) hb); have n1_ := Aside0.mk (hbox); have n2_ := Aside0.mk ((by rw [hg]; exact (below_size (by repeat (first | (with_reducible first | exact HB.out | apply below_alloc | apply pw_below_drewN | apply below_drew1) | exact HB.out | exact Below.refl _ _))) : w.heap.size ≤ gb287)); have n3_ := Aside0.mk ((by rw [hg]; exact (below_size (by repeat (first | (with_reducible first | exact HB.out | apply below_alloc | apply pw_below_drewN | apply below_drew1) | exact HB.out | exact Below.refl _ _))) : w.heap.size ≤ gb287)); clear HB; have HB := n0_; have BK287 := n1_; have GW287 := n2_; have GE287 := n3_; clear n0_ n1_ n2_ n3_; clear hb hbox hg; have hcz21_0 : w20.cell? ⟨gb287, 0, none⟩ = some (.int .i64 a0_0) := (blk_cell BK287.out 0).trans rfl; have hcz21_1 : w20.cell? ⟨gb287, 1, none⟩ = some (.int .i64 a0_1) := (blk_cell BK287.out 1).trans rfl; have hcz21_2 : w20.cell? ⟨gb287, 2, none⟩ = some (.string a0_2) := (blk_cell BK287.out 2).trans rfl; have hcz21_3 : w20.cell? ⟨gb287, 3, none⟩ = some (.slice A0_3 l0_3.length c0_3) := (blk_cell BK287.out 3).trans rfl; have hcz21_4 : w20.cell? ⟨gb287, 4, none⟩ = some (.slice A0_4 l0_4.length c0_4) := (blk_cell BK287.out 4).trans rfl; have hfz21_0 := blk_frozen BK287.out 0; have hfz21_1 := blk_frozen BK287.out 1; have hfz21_2 := blk_frozen BK287.out 2; have hfz21_3 := blk_frozen BK287.out 3; have hfz21_4 := blk_frozen BK287.out 4))
          go_ret
          exact ⟨by first | rfl | (simp [errW_none, errW_some] <;> rfl) | (simp [*, errW_none, errW_some] <;> rfl), by repeat (first | (with_reducible first | exact HB.out | apply below_alloc | apply pw_below_drewN | apply below_drew1 | refine below_set ?_ GE287.out) | exact HB.out)⟩
        · rw [if_neg c19] at H
          have c19b0 : (a0_0 == 4) = false := beq_eq_false_iff_ne.mpr c19
          have c19b1 : (a0_0 != 4) = true := bne_iff_ne.mpr c19
          by_cases c22 : a0_0 = 5
          · rw [if_pos c22] at H
            have c22b0 : (a0_0 == 5) = true := beq_iff_eq.mpr c22
            have c22b1 : (a0_0 != 5) = false := bne_eq_false_iff_eq.mpr c22
            clear c22
            replace H := Option.bind_eq_some_iff.mp H
            obtain ⟨t290, A230, H⟩ := H
            replace H : (if 1 + t290.size ≤ 9223372036854775807 then (if ((⟨#[42]⟩ : ByteArray) ++ t290).size + 2 ≤ 9223372036854775807 then (spec_ReplyPut.l0 k (((⟨#[42]⟩ : ByteArray) ++ t290) ++ (⟨#[13, 10]⟩ : ByteArray)) 0 a0_0 a0_1 a0_2 l0_3 l0_4) else (none)) else (none)) = some r := H
            have A23 := Aside0.mk A230
            clear A230
            by_cases c24 : 1 + t290.size ≤ 9223372036854775807
            · rw [if_pos c24] at H
              have c24b0 := eq_true c24
              have c24b1 : decide (1 + t290.size ≤ 9223372036854775807) = true := decide_eq_true c24
              try have c24b2 : (9223372036854775807 < 1 + t290.size) = False := eq_false (Nat.not_lt.2 c24)
              by_cases c25 : ((⟨#[42]⟩ : ByteArray) ++ t290).size + 2 ≤ 9223372036854775807
              · rw [if_pos c25] at H
                have c25b0 := eq_true c25
                have c25b1 : decide (((⟨#[42]⟩ : ByteArray) ++ t290).size + 2 ≤ 9223372036854775807) = true := decide_eq_true c25
                try have c25b2 : (9223372036854775807 < ((⟨#[42]⟩ : ByteArray) ++ t290).size + 2) = False := eq_false (Nat.not_lt.2 c25)
                try have c25b3 : (9223372036854775807 < 1 + t290.size + 2) = False := eq_false (by have h_ := c25; simp only [ByteArray.size_append] at h_; exact Nat.not_lt.2 h_)
                have H' := Aside0.mk H
                clear H
                go_enter Tryd.func15, Tryd.ntmps15
                go_wp2_with (first | ((with_reducible refine gate_dst (N := 1) rfl ?_); refine box_event ?hg (N := 1) ?hd (cs := #[.int .i64 a0_0, .int .i64 a0_1, .string a0_2, .slice A0_3 l0_3.length c0_3, .slice A0_4 l0_4.length c0_4]) (t := 31) ?hr ?_; (case hd => rfl); (case hg => rfl); (case hr => first | (go_simp; done) | (go_simp; rfl)); intro gb287 hg w26 hbox hb; have n0_ := Aside0.mk (below_step (by repeat (first | (with_reducible first | exact HB.out | apply below_alloc | apply pw_below_drewN | apply below_drew1) | exact HB.out | exact Below.refl _ _)) hb); have n1_ := Aside0.mk (hbox); have n2_ := Aside0.mk ((by rw [hg]; exact (below_size (by repeat (first | (with_reducible first | exact HB.out | apply below_alloc | apply pw_below_drewN | apply below_drew1) | exact HB.out | exact Below.refl _ _))) : w.heap.size ≤ gb287)); have n3_ := Aside0.mk ((by rw [hg]; exact (below_size (by repeat (first | (with_reducible first | exact HB.out | apply below_alloc | apply pw_below_drewN | apply below_drew1) | exact HB.out | exact Below.refl _ _))) : w.heap.size ≤ gb287)); clear HB; have HB := n0_; have BK287 := n1_; have GW287 := n2_; have GE287 := n3_; clear n0_ n1_ n2_ n3_; clear hb hbox hg; have hcz27_0 : w26.cell? ⟨gb287, 0, none⟩ = some (.int .i64 a0_0) := (blk_cell BK287.out 0).trans rfl; have hcz27_1 : w26.cell? ⟨gb287, 1, none⟩ = some (.int .i64 a0_1) := (blk_cell BK287.out 1).trans rfl; have hcz27_2 : w26.cell? ⟨gb287, 2, none⟩ = some (.string a0_2) := (blk_cell BK287.out 2).trans rfl; have hcz27_3 : w26.cell? ⟨gb287, 3, none⟩ = some (.slice A0_3 l0_3.length c0_3) := (blk_cell BK287.out 3).trans rfl; have hcz27_4 : w26.cell? ⟨gb287, 4, none⟩ = some (.slice A0_4 l0_4.length c0_4) := (blk_cell BK287.out 4).trans rfl; have hfz27_0 := blk_frozen BK287.out 0; have hfz27_1 := blk_frozen BK287.out 1; have hfz27_2 := blk_frozen BK287.out 2; have hfz27_3 := blk_frozen BK287.out 3; have hfz27_4 := blk_frozen BK287.out 4) | ((with_reducible refine gate_callee (f := 30) rfl ?_); refine goesL_ (some 34) rfl rfl Tryd.func30 (by kernel_rfl) rfl #[.int .i64 (l0_3.length : Int)] rfl (by (try simp only [List.map_toArray, List.map_cons, List.map_nil]); first | done | rfl | (simp only [List.length_drop, List.length_take]; rfl)) ?_; (with_reducible refine (spec_l1Dec.calls k (l0_3.length : Int) t290 _ A23.out).mono ?_); rintro e w28 ⟨rfl, hb⟩; refine ⟨_, rfl, ?_⟩; have n0_ := Aside0.mk (blk_below (g := gb287) (o := .cells #[.int .i64 a0_0, .int .i64 a0_1, .string a0_2, .slice A0_3 l0_3.length c0_3, .slice A0_4 l0_4.length c0_4] 31 (0, 0)) (by (with_reducible repeat (first | refine blk_drewN ?_ _ | refine blk_drew ?_ | refine blk_alloc ?_ _)); exact BK287.out) hb); have n1_ := Aside0.mk (below_step (by repeat (first | (with_reducible first | exact HB.out | apply below_alloc | apply pw_below_drewN | apply below_drew1 | refine below_set ?_ GE287.out) | exact HB.out)) hb); clear BK287; clear HB; have BK287 := n0_; have HB := n1_; clear n0_ n1_; (try clear hb); (try clear hb2); (try clear hk); (try clear hi)))
                go_loopg [3, 4] k (fun kq v3 v4 w' => ∃ (x3_1 : ByteArray) (x4_1 : Int), v3 = .string x3_1 ∧ v4 = .int .i64 x4_1 ∧ Aside0 (spec_ReplyPut.l0 kq x3_1 x4_1 a0_0 a0_1 a0_2 l0_3 l0_4 = some r) ∧ Aside0 (kq ≤ k) ∧ Aside0 (w'.heap[gb287]? = some (.cells #[.int .i64 a0_0, .int .i64 a0_1, .string a0_2, (.slice A0_3 l0_3.length c0_3), (.slice A0_4 l0_4.length c0_4)] 31 (0, 0))) ∧ Aside0 (Below w.heap.size w w'))
                case atStart => exact ⟨(((⟨#[42]⟩ : ByteArray) ++ t290) ++ (⟨#[13, 10]⟩ : ByteArray)), (0), (by first | rfl | (simp; done) | (simp [*]; done)), (by first | rfl | (simp; done) | (simp [*]; done)), H', ⟨Nat.le_refl _⟩, ⟨by (with_reducible repeat (first | refine blk_drewN ?_ _ | refine blk_drew ?_ | refine blk_alloc ?_ _)); exact BK287.out⟩, ⟨by repeat (first | (with_reducible first | exact HB.out | apply below_alloc | apply pw_below_drewN | apply below_drew1 | refine below_set ?_ GE287.out) | exact HB.out)⟩⟩
                case round =>
                  clear H'
                  try clear c1
                  try clear c2
                  try clear c2b0
                  try clear c2b1
                  try clear p2
                  try clear c3
                  try clear c3b0
                  try clear c3b1
                  try clear c3b2
                  try clear c4
                  try clear c4b0
                  try clear c4b1
                  try clear c4b2
                  try clear c7
                  try clear c7b0
                  try clear c7b1
                  try clear c9
                  try clear c9b0
                  try clear c9b1
                  try clear c9b2
                  try clear c10
                  try clear c10b0
                  try clear c10b1
                  try clear c10b2
                  try clear c14
                  try clear c14b0
                  try clear c14b1
                  try clear c15
                  try clear c19
                  try clear c19b0
                  try clear c19b1
                  try clear c22
                  try clear c22b0
                  try clear c22b1
                  try clear c24
                  try clear c24b0
                  try clear c24b1
                  try clear c24b2
                  try clear c25
                  try clear c25b0
                  try clear c25b1
                  try clear c25b2
                  try clear hcz12_0
                  try clear hcz12_1
                  try clear hcz12_2
                  try clear hcz12_3
                  try clear hcz12_4
                  try clear hcz17_0
                  try clear hcz17_1
                  try clear hcz17_2
                  try clear hcz17_3
                  try clear hcz17_4
                  try clear hcz21_0
                  try clear hcz21_1
                  try clear hcz21_2
                  try clear hcz21_3
                  try clear hcz21_4
                  try clear hcz27_0
                  try clear hcz27_1
                  try clear hcz27_2
                  try clear hcz27_3
                  try clear hcz27_4
                  try clear hcz6_0
                  try clear hcz6_1
                  try clear hcz6_2
                  try clear hcz6_3
                  try clear hcz6_4
                  try clear hfz12_0
                  try clear hfz12_1
                  try clear hfz12_2
                  try clear hfz12_3
                  try clear hfz12_4
                  try clear hfz17_0
                  try clear hfz17_1
                  try clear hfz17_2
                  try clear hfz17_3
                  try clear hfz17_4
                  try clear hfz21_0
                  try clear hfz21_1
                  try clear hfz21_2
                  try clear hfz21_3
                  try clear hfz21_4
                  try clear hfz27_0
                  try clear hfz27_1
                  try clear hfz27_2
                  try clear hfz27_3
                  try clear hfz27_4
                  try clear hfz6_0
                  try clear hfz6_1
                  try clear hfz6_2
                  try clear hfz6_3
                  try clear hfz6_4
                  obtain ⟨x3_1, x4_1, rfl, rfl, HA, HK1, BK287, HB⟩ := hrel
                  cases gk with
                  | zero => exact absurd HA.out (by simp [spec_ReplyPut.l0])
                  | succ k1 =>
                    have H := HA.out
                    clear HA
                    simp only [spec_ReplyPut.l0] at H
                    by_cases c29 : x4_1 < (l0_3.length : Int)
                    · rw [if_pos c29] at H
                      have c29b0 : decide (x4_1 < (l0_3.length : Int)) = true := decide_eq_true c29
                      clear c29
                      by_cases c30 : 0 ≤ x4_1
                      · rw [if_pos c30] at H
                        have c30b0 : decide (0 ≤ x4_1) = true := decide_eq_true c30
                        clear c30
                        replace H := Option.bind_eq_some_iff.mp H
                        obtain ⟨t292, A310, H⟩ := H
                        replace H : (if x3_1.size + t292.size ≤ 9223372036854775807 then (spec_ReplyPut.l0 k1 (x3_1 ++ t292) (wrap64 (x4_1 + 1)) a0_0 a0_1 a0_2 l0_3 l0_4) else (none)) = some r := H
                        have A31 := Aside0.mk A310
                        clear A310
                        by_cases c32 : x3_1.size + t292.size ≤ 9223372036854775807
                        · rw [if_pos c32] at H
                          have c32b0 := eq_true c32
                          have c32b1 : decide (x3_1.size + t292.size ≤ 9223372036854775807) = true := decide_eq_true c32
                          try have c32b2 : (9223372036854775807 < x3_1.size + t292.size) = False := eq_false (Nat.not_lt.2 c32)
                          have H' := Aside0.mk H
                          clear H
                          have hcz33_0 : wr.cell? ⟨gb287, 0, none⟩ = some (.int .i64 a0_0) := (blk_cell BK287.out 0).trans rfl
                          have hcz33_1 : wr.cell? ⟨gb287, 1, none⟩ = some (.int .i64 a0_1) := (blk_cell BK287.out 1).trans rfl
                          have hcz33_2 : wr.cell? ⟨gb287, 2, none⟩ = some (.string a0_2) := (blk_cell BK287.out 2).trans rfl
                          have hcz33_3 : wr.cell? ⟨gb287, 3, none⟩ = some (.slice A0_3 l0_3.length c0_3) := (blk_cell BK287.out 3).trans rfl
                          have hcz33_4 : wr.cell? ⟨gb287, 4, none⟩ = some (.slice A0_4 l0_4.length c0_4) := (blk_cell BK287.out 4).trans rfl
                          have hfz33_0 := blk_frozen BK287.out 0
                          have hfz33_1 := blk_frozen BK287.out 1
                          have hfz33_2 := blk_frozen BK287.out 2
                          have hfz33_3 := blk_frozen BK287.out 3
                          have hfz33_4 := blk_frozen BK287.out 4
                          have p291 : 0 ≤ (x4_1 : Int) := of_decide_eq_true (by first | (with_reducible assumption) | assumption)
                          have q291 : x4_1 < (l0_3.length : Int) := of_decide_eq_true (by first | (with_reducible assumption) | assumption)
                          obtain ⟨ad291, e291, hx291_0⟩ := Kd.at_string HR0_3.out x4_1 p291 q291
                          cases e291
                          replace hx291_0 := (HB.out.cell (World.block_lt_of_cell? w _ hx291_0)).trans hx291_0
                          replace p291 := eq_true p291
                          replace q291 := eq_true q291
                          go_wp2_with (first | ((with_reducible refine gate_callee (f := 31) rfl ?_); refine goesL_ (some 50) rfl rfl Tryd.func31 (by kernel_rfl) rfl #[.string (rdOf ByteArray.empty l0_3 x4_1)] rfl (by (try simp only [List.map_toArray, List.map_cons, List.map_nil]); first | done | rfl | (simp only [List.length_drop, List.length_take]; rfl)) ?_; (with_reducible refine (spec_l1Bulk.calls k1 (rdOf ByteArray.empty l0_3 x4_1) t292 _ A31.out).mono ?_); rintro e w34 ⟨rfl, hb⟩; refine ⟨_, rfl, ?_⟩; have n0_ := Aside0.mk (blk_below (g := gb287) (o := .cells #[.int .i64 a0_0, .int .i64 a0_1, .string a0_2, .slice (some ad291) l0_3.length c0_3, .slice A0_4 l0_4.length c0_4] 31 (0, 0)) (by (with_reducible repeat (first | refine blk_drewN ?_ _ | refine blk_drew ?_ | refine blk_alloc ?_ _)); exact BK287.out) hb); have n1_ := Aside0.mk (below_step (by repeat (first | (with_reducible first | exact HB.out | apply below_alloc | apply pw_below_drewN | apply below_drew1 | refine below_set ?_ GE287.out) | exact HB.out)) hb); clear BK287; clear HB; have BK287 := n0_; have HB := n1_; clear n0_ n1_; (try clear hb); (try clear hb2); (try clear hk); (try clear hi)))
                          go_roundg k1
                          case measure => have := HK1.out; omega
                          case rel => exact ⟨(x3_1 ++ t292), (wrap64 (x4_1 + 1)), (by first | rfl | (simp; done) | (simp [*]; done)), (by first | rfl | (simp; done) | (simp [*]; done)), H', ⟨by have := HK1.out; omega⟩, ⟨by (with_reducible repeat (first | refine blk_drewN ?_ _ | refine blk_drew ?_ | refine blk_alloc ?_ _)); exact BK287.out⟩, ⟨by repeat (first | (with_reducible first | exact HB.out | apply below_alloc | apply pw_below_drewN | apply below_drew1 | refine below_set ?_ GE287.out) | exact HB.out)⟩⟩
                        · rw [if_neg c32] at H
                          exact absurd H (by simp)
                      · rw [if_neg c30] at H
                        exact absurd H (by simp)
                    · rw [if_neg c29] at H
                      have c29b0 : decide (x4_1 < (l0_3.length : Int)) = false := decide_eq_false c29
                      clear c29
                      obtain rfl := Option.some.inj H
                      have hcz35_0 : wr.cell? ⟨gb287, 0, none⟩ = some (.int .i64 a0_0) := (blk_cell BK287.out 0).trans rfl
                      have hcz35_1 : wr.cell? ⟨gb287, 1, none⟩ = some (.int .i64 a0_1) := (blk_cell BK287.out 1).trans rfl
                      have hcz35_2 : wr.cell? ⟨gb287, 2, none⟩ = some (.string a0_2) := (blk_cell BK287.out 2).trans rfl
                      have hcz35_3 : wr.cell? ⟨gb287, 3, none⟩ = some (.slice A0_3 l0_3.length c0_3) := (blk_cell BK287.out 3).trans rfl
                      have hcz35_4 : wr.cell? ⟨gb287, 4, none⟩ = some (.slice A0_4 l0_4.length c0_4) := (blk_cell BK287.out 4).trans rfl
                      have hfz35_0 := blk_frozen BK287.out 0
                      have hfz35_1 := blk_frozen BK287.out 1
                      have hfz35_2 := blk_frozen BK287.out 2
                      have hfz35_3 := blk_frozen BK287.out 3
                      have hfz35_4 := blk_frozen BK287.out 4
                      go_wp2
                      go_ret
                      exact ⟨by first | rfl | (simp [errW_none, errW_some] <;> rfl) | (simp [*, errW_none, errW_some] <;> rfl), by repeat (first | (with_reducible first | exact HB.out | apply below_alloc | apply pw_below_drewN | apply below_drew1 | refine below_set ?_ GE287.out) | exact HB.out)⟩
              · rw [if_neg c25] at H
                exact absurd H (by simp)
            · rw [if_neg c24] at H
              exact absurd H (by simp)
          · rw [if_neg c22] at H
            have c22b0 : (a0_0 == 5) = false := beq_eq_false_iff_ne.mpr c22
            have c22b1 : (a0_0 != 5) = true := bne_iff_ne.mpr c22
            by_cases c36 : a0_0 = 6
            · rw [if_pos c36] at H
              have c36b0 : (a0_0 == 6) = true := beq_iff_eq.mpr c36
              have c36b1 : (a0_0 != 6) = false := bne_eq_false_iff_eq.mpr c36
              clear c36
              replace H := Option.bind_eq_some_iff.mp H
              obtain ⟨t293, A370, H⟩ := H
              replace H : (if 1 + t293.size ≤ 9223372036854775807 then (if ((⟨#[42]⟩ : ByteArray) ++ t293).size + 2 ≤ 9223372036854775807 then (spec_ReplyPut.l1 k (((⟨#[42]⟩ : ByteArray) ++ t293) ++ (⟨#[13, 10]⟩ : ByteArray)) 0 a0_0 a0_1 a0_2 l0_3 l0_4) else (none)) else (none)) = some r := H
              have A37 := Aside0.mk A370
              clear A370
              by_cases c38 : 1 + t293.size ≤ 9223372036854775807
              · rw [if_pos c38] at H
                have c38b0 := eq_true c38
                have c38b1 : decide (1 + t293.size ≤ 9223372036854775807) = true := decide_eq_true c38
                try have c38b2 : (9223372036854775807 < 1 + t293.size) = False := eq_false (Nat.not_lt.2 c38)
                by_cases c39 : ((⟨#[42]⟩ : ByteArray) ++ t293).size + 2 ≤ 9223372036854775807
                · rw [if_pos c39] at H
                  have c39b0 := eq_true c39
                  have c39b1 : decide (((⟨#[42]⟩ : ByteArray) ++ t293).size + 2 ≤ 9223372036854775807) = true := decide_eq_true c39
                  try have c39b2 : (9223372036854775807 < ((⟨#[42]⟩ : ByteArray) ++ t293).size + 2) = False := eq_false (Nat.not_lt.2 c39)
                  try have c39b3 : (9223372036854775807 < 1 + t293.size + 2) = False := eq_false (by have h_ := c39; simp only [ByteArray.size_append] at h_; exact Nat.not_lt.2 h_)
                  have H' := Aside0.mk H
                  clear H
                  go_enter Tryd.func15, Tryd.ntmps15
                  go_wp2_with (first | ((with_reducible refine gate_dst (N := 1) rfl ?_); refine box_event ?hg (N := 1) ?hd (cs := #[.int .i64 a0_0, .int .i64 a0_1, .string a0_2, .slice A0_3 l0_3.length c0_3, .slice A0_4 l0_4.length c0_4]) (t := 31) ?hr ?_; (case hd => rfl); (case hg => rfl); (case hr => first | (go_simp; done) | (go_simp; rfl)); intro gb287 hg w40 hbox hb; have n0_ := Aside0.mk (below_step (by repeat (first | (with_reducible first | exact HB.out | apply below_alloc | apply pw_below_drewN | apply below_drew1) | exact HB.out | exact Below.refl _ _)) hb); have n1_ := Aside0.mk (hbox); have n2_ := Aside0.mk ((by rw [hg]; exact (below_size (by repeat (first | (with_reducible first | exact HB.out | apply below_alloc | apply pw_below_drewN | apply below_drew1) | exact HB.out | exact Below.refl _ _))) : w.heap.size ≤ gb287)); have n3_ := Aside0.mk ((by rw [hg]; exact (below_size (by repeat (first | (with_reducible first | exact HB.out | apply below_alloc | apply pw_below_drewN | apply below_drew1) | exact HB.out | exact Below.refl _ _))) : w.heap.size ≤ gb287)); clear HB; have HB := n0_; have BK287 := n1_; have GW287 := n2_; have GE287 := n3_; clear n0_ n1_ n2_ n3_; clear hb hbox hg; have hcz41_0 : w40.cell? ⟨gb287, 0, none⟩ = some (.int .i64 a0_0) := (blk_cell BK287.out 0).trans rfl; have hcz41_1 : w40.cell? ⟨gb287, 1, none⟩ = some (.int .i64 a0_1) := (blk_cell BK287.out 1).trans rfl; have hcz41_2 : w40.cell? ⟨gb287, 2, none⟩ = some (.string a0_2) := (blk_cell BK287.out 2).trans rfl; have hcz41_3 : w40.cell? ⟨gb287, 3, none⟩ = some (.slice A0_3 l0_3.length c0_3) := (blk_cell BK287.out 3).trans rfl; have hcz41_4 : w40.cell? ⟨gb287, 4, none⟩ = some (.slice A0_4 l0_4.length c0_4) := (blk_cell BK287.out 4).trans rfl; have hfz41_0 := blk_frozen BK287.out 0; have hfz41_1 := blk_frozen BK287.out 1; have hfz41_2 := blk_frozen BK287.out 2; have hfz41_3 := blk_frozen BK287.out 3; have hfz41_4 := blk_frozen BK287.out 4) | ((with_reducible refine gate_callee (f := 30) rfl ?_); refine goesL_ (some 58) rfl rfl Tryd.func30 (by kernel_rfl) rfl #[.int .i64 (l0_4.length : Int)] rfl (by (try simp only [List.map_toArray, List.map_cons, List.map_nil]); first | done | rfl | (simp only [List.length_drop, List.length_take]; rfl)) ?_; (with_reducible refine (spec_l1Dec.calls k (l0_4.length : Int) t293 _ A37.out).mono ?_); rintro e w42 ⟨rfl, hb⟩; refine ⟨_, rfl, ?_⟩; have n0_ := Aside0.mk (blk_below (g := gb287) (o := .cells #[.int .i64 a0_0, .int .i64 a0_1, .string a0_2, .slice A0_3 l0_3.length c0_3, .slice A0_4 l0_4.length c0_4] 31 (0, 0)) (by (with_reducible repeat (first | refine blk_drewN ?_ _ | refine blk_drew ?_ | refine blk_alloc ?_ _)); exact BK287.out) hb); have n1_ := Aside0.mk (below_step (by repeat (first | (with_reducible first | exact HB.out | apply below_alloc | apply pw_below_drewN | apply below_drew1 | refine below_set ?_ GE287.out) | exact HB.out)) hb); clear BK287; clear HB; have BK287 := n0_; have HB := n1_; clear n0_ n1_; (try clear hb); (try clear hb2); (try clear hk); (try clear hi)))
                  go_loopg [5, 6] k (fun kq v5 v6 w' => ∃ (x5_1 : ByteArray) (x6_1 : Int), v5 = .string x5_1 ∧ v6 = .int .i64 x6_1 ∧ Aside0 (spec_ReplyPut.l1 kq x5_1 x6_1 a0_0 a0_1 a0_2 l0_3 l0_4 = some r) ∧ Aside0 (kq ≤ k) ∧ Aside0 (w'.heap[gb287]? = some (.cells #[.int .i64 a0_0, .int .i64 a0_1, .string a0_2, (.slice A0_3 l0_3.length c0_3), (.slice A0_4 l0_4.length c0_4)] 31 (0, 0))) ∧ Aside0 (Below w.heap.size w w'))
                  case atStart => exact ⟨(((⟨#[42]⟩ : ByteArray) ++ t293) ++ (⟨#[13, 10]⟩ : ByteArray)), (0), (by first | rfl | (simp; done) | (simp [*]; done)), (by first | rfl | (simp; done) | (simp [*]; done)), H', ⟨Nat.le_refl _⟩, ⟨by (with_reducible repeat (first | refine blk_drewN ?_ _ | refine blk_drew ?_ | refine blk_alloc ?_ _)); exact BK287.out⟩, ⟨by repeat (first | (with_reducible first | exact HB.out | apply below_alloc | apply pw_below_drewN | apply below_drew1 | refine below_set ?_ GE287.out) | exact HB.out)⟩⟩
                  case round =>
                    clear H'
                    try clear c1
                    try clear c2
                    try clear c2b0
                    try clear c2b1
                    try clear p2
                    try clear q2
                    try clear hx2
                    try clear c3
                    try clear c3b0
                    try clear c3b1
                    try clear c3b2
                    try clear c4
                    try clear c4b0
                    try clear c4b1
                    try clear c4b2
                    try clear p6
                    try clear c7
                    try clear c7b0
                    try clear c7b1
                    try clear c9
                    try clear c9b0
                    try clear c9b1
                    try clear c9b2
                    try clear c10
                    try clear c10b0
                    try clear c10b1
                    try clear c10b2
                    try clear c14
                    try clear c14b0
                    try clear c14b1
                    try clear c15
                    try clear c19
                    try clear c19b0
                    try clear c19b1
                    try clear c22
                    try clear c22b0
                    try clear c22b1
                    try clear c24
                    try clear c24b0
                    try clear c24b1
                    try clear c24b2
                    try clear c25
                    try clear c25b0
                    try clear c25b1
                    try clear c25b2
                    try clear c29
                    try clear c29b0
                    try clear p29
                    try clear q29
                    try clear hx29
                    try clear c30
                    try clear c30b0
                    try clear c31
                    try clear c32
                    try clear c32b0
                    try clear c32b1
                    try clear c32b2
                    try clear c36
                    try clear c36b0
                    try clear c36b1
                    try clear c38
                    try clear c38b0
                    try clear c38b1
                    try clear c38b2
                    try clear c39
                    try clear c39b0
                    try clear c39b1
                    try clear c39b2
                    try clear hcz12_0
                    try clear hcz12_1
                    try clear hcz12_2
                    try clear hcz12_3
                    try clear hcz12_4
                    try clear hcz17_0
                    try clear hcz17_1
                    try clear hcz17_2
                    try clear hcz17_3
                    try clear hcz17_4
                    try clear hcz21_0
                    try clear hcz21_1
                    try clear hcz21_2
                    try clear hcz21_3
                    try clear hcz21_4
                    try clear hcz27_0
                    try clear hcz27_1
                    try clear hcz27_2
                    try clear hcz27_3
                    try clear hcz27_4
                    try clear hcz33_0
                    try clear hcz33_1
                    try clear hcz33_2
                    try clear hcz33_3
                    try clear hcz33_4
                    try clear hcz35_0
                    try clear hcz35_1
                    try clear hcz35_2
                    try clear hcz35_3
                    try clear hcz35_4
                    try clear hcz41_0
                    try clear hcz41_1
                    try clear hcz41_2
                    try clear hcz41_3
                    try clear hcz41_4
                    try clear hcz6_0
                    try clear hcz6_1
                    try clear hcz6_2
                    try clear hcz6_3
                    try clear hcz6_4
                    try clear hfz12_0
                    try clear hfz12_1
                    try clear hfz12_2
                    try clear hfz12_3
                    try clear hfz12_4
                    try clear hfz17_0
                    try clear hfz17_1
                    try clear hfz17_2
                    try clear hfz17_3
                    try clear hfz17_4
                    try clear hfz21_0
                    try clear hfz21_1
                    try clear hfz21_2
                    try clear hfz21_3
                    try clear hfz21_4
                    try clear hfz27_0
                    try clear hfz27_1
                    try clear hfz27_2
                    try clear hfz27_3
                    try clear hfz27_4
                    try clear hfz33_0
                    try clear hfz33_1
                    try clear hfz33_2
                    try clear hfz33_3
                    try clear hfz33_4
                    try clear hfz35_0
                    try clear hfz35_1
                    try clear hfz35_2
                    try clear hfz35_3
                    try clear hfz35_4
                    try clear hfz41_0
                    try clear hfz41_1
                    try clear hfz41_2
                    try clear hfz41_3
                    try clear hfz41_4
                    try clear hfz6_0
                    try clear hfz6_1
                    try clear hfz6_2
                    try clear hfz6_3
                    try clear hfz6_4
                    try clear hx291_0
                    try clear p2
                    try clear p291
                    try clear q291
                    obtain ⟨x5_1, x6_1, rfl, rfl, HA, HK1, BK287, HB⟩ := hrel
                    cases gk with
                    | zero => exact absurd HA.out (by simp [spec_ReplyPut.l1])
                    | succ k1 =>
                      have H := HA.out
                      clear HA
                      simp only [spec_ReplyPut.l1] at H
                      by_cases c43 : x6_1 < (l0_4.length : Int)
                      · rw [if_pos c43] at H
                        have c43b0 : decide (x6_1 < (l0_4.length : Int)) = true := decide_eq_true c43
                        clear c43
                        by_cases c44 : 0 ≤ x6_1
                        · rw [if_pos c44] at H
                          have c44b0 : decide (0 ≤ x6_1) = true := decide_eq_true c44
                          clear c44
                          replace H := Option.bind_eq_some_iff.mp H
                          obtain ⟨t295, A450, H⟩ := H
                          replace H : (if x5_1.size + t295.size ≤ 9223372036854775807 then (spec_ReplyPut.l1 k1 (x5_1 ++ t295) (wrap64 (x6_1 + 1)) a0_0 a0_1 a0_2 l0_3 l0_4) else (none)) = some r := H
                          have A45 := Aside0.mk A450
                          clear A450
                          by_cases c46 : x5_1.size + t295.size ≤ 9223372036854775807
                          · rw [if_pos c46] at H
                            have c46b0 := eq_true c46
                            have c46b1 : decide (x5_1.size + t295.size ≤ 9223372036854775807) = true := decide_eq_true c46
                            try have c46b2 : (9223372036854775807 < x5_1.size + t295.size) = False := eq_false (Nat.not_lt.2 c46)
                            have H' := Aside0.mk H
                            clear H
                            have hcz47_0 : wr.cell? ⟨gb287, 0, none⟩ = some (.int .i64 a0_0) := (blk_cell BK287.out 0).trans rfl
                            have hcz47_1 : wr.cell? ⟨gb287, 1, none⟩ = some (.int .i64 a0_1) := (blk_cell BK287.out 1).trans rfl
                            have hcz47_2 : wr.cell? ⟨gb287, 2, none⟩ = some (.string a0_2) := (blk_cell BK287.out 2).trans rfl
                            have hcz47_3 : wr.cell? ⟨gb287, 3, none⟩ = some (.slice A0_3 l0_3.length c0_3) := (blk_cell BK287.out 3).trans rfl
                            have hcz47_4 : wr.cell? ⟨gb287, 4, none⟩ = some (.slice A0_4 l0_4.length c0_4) := (blk_cell BK287.out 4).trans rfl
                            have hfz47_0 := blk_frozen BK287.out 0
                            have hfz47_1 := blk_frozen BK287.out 1
                            have hfz47_2 := blk_frozen BK287.out 2
                            have hfz47_3 := blk_frozen BK287.out 3
                            have hfz47_4 := blk_frozen BK287.out 4
                            have p294 : 0 ≤ (x6_1 : Int) := of_decide_eq_true (by first | (with_reducible assumption) | assumption)
                            have q294 : x6_1 < (l0_4.length : Int) := of_decide_eq_true (by first | (with_reducible assumption) | assumption)
                            obtain ⟨ad294, A294_3, c294_3, A294_4, c294_4, e294, hx294_0, hx294_1, hx294_2, hx294_3, hx294_4, hl294_3, hi294_3, hl294_4, hi294_4⟩ := at_T31 HR0_4.out x6_1 p294 q294
                            cases e294
                            replace hx294_0 := (HB.out.cell (World.block_lt_of_cell? w _ hx294_0)).trans hx294_0
                            replace hx294_1 := (HB.out.cell (World.block_lt_of_cell? w _ hx294_1)).trans hx294_1
                            replace hx294_2 := (HB.out.cell (World.block_lt_of_cell? w _ hx294_2)).trans hx294_2
                            replace hx294_3 := (HB.out.cell (World.block_lt_of_cell? w _ hx294_3)).trans hx294_3
                            replace hx294_4 := (HB.out.cell (World.block_lt_of_cell? w _ hx294_4)).trans hx294_4
                            have HR294_3 := Aside0.mk hi294_3
                            have HC294_3 := Aside0.mk hl294_3
                            clear hi294_3 hl294_3
                            have HR294_4 := Aside0.mk hi294_4
                            have HC294_4 := Aside0.mk hl294_4
                            clear hi294_4 hl294_4
                            replace p294 := eq_true p294
                            replace q294 := eq_true q294
                            go_wp2_with (first | ((with_reducible refine gate_callee (f := 15) rfl ?_); refine goesL_ (some 74) rfl rfl Tryd.func15 (by kernel_rfl) rfl #[.agg #[.int .i64 ((rd_T31 l0_4 x6_1).f0), .int .i64 ((rd_T31 l0_4 x6_1).f1), .string ((rd_T31 l0_4 x6_1).f2), .slice A294_3 ((rd_T31 l0_4 x6_1).f3).length c294_3, .slice A294_4 ((rd_T31 l0_4 x6_1).f4).length c294_4]] rfl (by (try simp only [List.map_toArray, List.map_cons, List.map_nil]); first | done | rfl | (simp only [List.length_drop, List.length_take]; rfl)) ?_; (with_reducible refine (ih k1 (by have := HK1.out; omega) ((rd_T31 l0_4 x6_1).f0) ((rd_T31 l0_4 x6_1).f1) ((rd_T31 l0_4 x6_1).f2) _ _ ((rd_T31 l0_4 x6_1).f3) _ _ ((rd_T31 l0_4 x6_1).f4) t295 _ ?side1 ?side2 ?side3 ?side4 A45.out).mono ?_); (case side1 => repeat (first | exact (Kd.C_below HR294_3.out HB.out) | (with_reducible refine Kd.C_alloc ?_ _) | (with_reducible refine Kd.C_drewN ?_ _) | (with_reducible refine Kd.C_drew ?_))); (case side2 => exact HC294_3.out); (case side3 => repeat (first | exact (Kd.C_below HR294_4.out HB.out) | (with_reducible refine Kd.C_alloc ?_ _) | (with_reducible refine Kd.C_drewN ?_ _) | (with_reducible refine Kd.C_drew ?_))); (case side4 => exact HC294_4.out); rintro e w48 ⟨rfl, hb⟩; refine ⟨_, rfl, ?_⟩; have n0_ := Aside0.mk (blk_below (g := gb287) (o := .cells #[.int .i64 a0_0, .int .i64 a0_1, .string a0_2, .slice A0_3 l0_3.length c0_3, .slice (some ad294) l0_4.length c0_4] 31 (0, 0)) (by (with_reducible repeat (first | refine blk_drewN ?_ _ | refine blk_drew ?_ | refine blk_alloc ?_ _)); exact BK287.out) hb); have n1_ := Aside0.mk (below_step (by repeat (first | (with_reducible first | exact HB.out | apply below_alloc | apply pw_below_drewN | apply below_drew1 | refine below_set ?_ GE287.out) | exact HB.out)) hb); clear BK287; clear HB; have BK287 := n0_; have HB := n1_; clear n0_ n1_; (try clear hb); (try clear hb2); (try clear hk); (try clear hi)))
                            go_roundg k1
                            case measure => have := HK1.out; omega
                            case rel => exact ⟨(x5_1 ++ t295), (wrap64 (x6_1 + 1)), (by first | rfl | (simp; done) | (simp [*]; done)), (by first | rfl | (simp; done) | (simp [*]; done)), H', ⟨by have := HK1.out; omega⟩, ⟨by (with_reducible repeat (first | refine blk_drewN ?_ _ | refine blk_drew ?_ | refine blk_alloc ?_ _)); exact BK287.out⟩, ⟨by repeat (first | (with_reducible first | exact HB.out | apply below_alloc | apply pw_below_drewN | apply below_drew1 | refine below_set ?_ GE287.out) | exact HB.out)⟩⟩
                          · rw [if_neg c46] at H
                            exact absurd H (by simp)
                        · rw [if_neg c44] at H
                          exact absurd H (by simp)
                      · rw [if_neg c43] at H
                        have c43b0 : decide (x6_1 < (l0_4.length : Int)) = false := decide_eq_false c43
                        clear c43
                        obtain rfl := Option.some.inj H
                        have hcz49_0 : wr.cell? ⟨gb287, 0, none⟩ = some (.int .i64 a0_0) := (blk_cell BK287.out 0).trans rfl
                        have hcz49_1 : wr.cell? ⟨gb287, 1, none⟩ = some (.int .i64 a0_1) := (blk_cell BK287.out 1).trans rfl
                        have hcz49_2 : wr.cell? ⟨gb287, 2, none⟩ = some (.string a0_2) := (blk_cell BK287.out 2).trans rfl
                        have hcz49_3 : wr.cell? ⟨gb287, 3, none⟩ = some (.slice A0_3 l0_3.length c0_3) := (blk_cell BK287.out 3).trans rfl
                        have hcz49_4 : wr.cell? ⟨gb287, 4, none⟩ = some (.slice A0_4 l0_4.length c0_4) := (blk_cell BK287.out 4).trans rfl
                        have hfz49_0 := blk_frozen BK287.out 0
                        have hfz49_1 := blk_frozen BK287.out 1
                        have hfz49_2 := blk_frozen BK287.out 2
                        have hfz49_3 := blk_frozen BK287.out 3
                        have hfz49_4 := blk_frozen BK287.out 4
                        go_wp2
                        go_ret
                        exact ⟨by first | rfl | (simp [errW_none, errW_some] <;> rfl) | (simp [*, errW_none, errW_some] <;> rfl), by repeat (first | (with_reducible first | exact HB.out | apply below_alloc | apply pw_below_drewN | apply below_drew1 | refine below_set ?_ GE287.out) | exact HB.out)⟩
                · rw [if_neg c39] at H
                  exact absurd H (by simp)
              · rw [if_neg c38] at H
                exact absurd H (by simp)
            · rw [if_neg c36] at H
              have c36b0 : (a0_0 == 6) = false := beq_eq_false_iff_ne.mpr c36
              have c36b1 : (a0_0 != 6) = true := bne_iff_ne.mpr c36
              obtain rfl := Option.some.inj H
              go_enter Tryd.func15, Tryd.ntmps15
              go_wp2_with (first | ((with_reducible refine gate_dst (N := 1) rfl ?_); refine box_event ?hg (N := 1) ?hd (cs := #[.int .i64 a0_0, .int .i64 a0_1, .string a0_2, .slice A0_3 l0_3.length c0_3, .slice A0_4 l0_4.length c0_4]) (t := 31) ?hr ?_; (case hd => rfl); (case hg => rfl); (case hr => first | (go_simp; done) | (go_simp; rfl)); intro gb287 hg w50 hbox hb; have n0_ := Aside0.mk (below_step (by repeat (first | (with_reducible first | exact HB.out | apply below_alloc | apply pw_below_drewN | apply below_drew1) | exact HB.out | exact Below.refl _ _)) hb); have n1_ := Aside0.mk (hbox); have n2_ := Aside0.mk ((by rw [hg]; exact (below_size (by repeat (first | (with_reducible first | exact HB.out | apply below_alloc | apply pw_below_drewN | apply below_drew1) | exact HB.out | exact Below.refl _ _))) : w.heap.size ≤ gb287)); have n3_ := Aside0.mk ((by rw [hg]; exact (below_size (by repeat (first | (with_reducible first | exact HB.out | apply below_alloc | apply pw_below_drewN | apply below_drew1) | exact HB.out | exact Below.refl _ _))) : w.heap.size ≤ gb287)); clear HB; have HB := n0_; have BK287 := n1_; have GW287 := n2_; have GE287 := n3_; clear n0_ n1_ n2_ n3_; clear hb hbox hg; have hcz51_0 : w50.cell? ⟨gb287, 0, none⟩ = some (.int .i64 a0_0) := (blk_cell BK287.out 0).trans rfl; have hcz51_1 : w50.cell? ⟨gb287, 1, none⟩ = some (.int .i64 a0_1) := (blk_cell BK287.out 1).trans rfl; have hcz51_2 : w50.cell? ⟨gb287, 2, none⟩ = some (.string a0_2) := (blk_cell BK287.out 2).trans rfl; have hcz51_3 : w50.cell? ⟨gb287, 3, none⟩ = some (.slice A0_3 l0_3.length c0_3) := (blk_cell BK287.out 3).trans rfl; have hcz51_4 : w50.cell? ⟨gb287, 4, none⟩ = some (.slice A0_4 l0_4.length c0_4) := (blk_cell BK287.out 4).trans rfl; have hfz51_0 := blk_frozen BK287.out 0; have hfz51_1 := blk_frozen BK287.out 1; have hfz51_2 := blk_frozen BK287.out 2; have hfz51_3 := blk_frozen BK287.out 3; have hfz51_4 := blk_frozen BK287.out 4))
              go_ret
              exact ⟨by first | rfl | (simp [errW_none, errW_some] <;> rfl) | (simp [*, errW_none, errW_some] <;> rfl), by repeat (first | (with_reducible first | exact HB.out | apply below_alloc | apply pw_below_drewN | apply below_drew1 | refine below_set ?_ GE287.out) | exact HB.out)⟩

end Go.Proofs.YtegelpeegbngiaaDoor.P
-- Written by wip/px.py of this session, over the kit's print.py. Not trusted: Lean checks it.
namespace Go.Proofs.YtegelpeegbngiaaDoor.P
open Go.RowKit Go.Proofs.YtegelpeegbngiaaDoorW.PrintWords Go.Proofs.YtegelpeegbngiaaDoorW.PrintLast Go.Proofs.YtegelpeegbngiaaDoorW.PrintMore
attribute [local go_sem] max2_int min2_int max_two min_two max_three min_three max_four min_four   -- for this text's walks alone
set_option linter.unusedVariables false
set_option linter.unusedSimpArgs false

/-! ### laws_FnReplyPut: the walk -/
set_option maxHeartbeats 8000000 in
set_option maxRecDepth 100000 in
theorem laws_FnReplyPut.calls (k : Nat) (A0 : Option Addr) (c0 : Nat) (l0 : List Int) (r : Bool) (w : World) (hT0 : X.Tab w) (hr0 : Kd.C (Kd.int .u8) w A0 l0.length l0) (hc0 : l0.length ≤ c0) (h : laws_FnReplyPut.f k l0 = some r) :
    Calls Tryd.prog 4 #[.slice A0 l0.length c0] w fun e w' => e = .returned (.bool r) ∧ Below w.heap.size w w' := by
  have hu31 := Tryd.underlying31
  have HR0 := Aside0.mk hr0
  have HC0 := Aside0.mk hc0
  clear hr0 hc0
  have HB := Aside0.mk (Below.refl w.heap.size w)
  have H : (if (l0.length : Int) > 1048576 then (some true) else ((spec_DrawReplyPut.f k l0).bind fun bt296 => ((impl_ReplyPut.f k bt296.1 bt296.2.1 bt296.2.2.1 bt296.2.2.2.1 bt296.2.2.2.2).bind fun t306 => ((spec_ReplyPut.f k bt296.1 bt296.2.1 bt296.2.2.1 bt296.2.2.2.1 bt296.2.2.2.2).bind fun t307 => (if t306.toList = t307.toList then (if (t306.size : Int) < 4 then (laws_FnReplyPut.j0 k t306 (t306.size : Int) true bt296.1 bt296.2.1 bt296.2.2.1 bt296.2.2.2.1 bt296.2.2.2.2) else (if 0 ≤ (wrap64 ((t306.size : Int) - 2)) then (if (wrap64 ((t306.size : Int) - 2)) ≤ (t306.size : Int) then (laws_FnReplyPut.j0 k t306 (t306.size : Int) ((t306.extract ((wrap64 ((t306.size : Int) - 2)) : Int).toNat t306.size).toList != ([13, 10] : List UInt8)) bt296.1 bt296.2.1 bt296.2.2.1 bt296.2.2.2.1 bt296.2.2.2.2) else (none)) else (none))) else (laws_FnReplyPut.j0 k t306 (t306.size : Int) true bt296.1 bt296.2.1 bt296.2.2.1 bt296.2.2.2.1 bt296.2.2.2.2)))))) = some r := h
  clear h
  by_cases c2 : (l0.length : Int) > 1048576
  · rw [if_pos c2] at H
    have c2b0 : decide (1048576 < (l0.length : Int)) = true := decide_eq_true c2
    have c2b1 : decide (1048576 < l0.length) = true := decide_eq_true (by omega)
    clear c2
    obtain rfl := Option.some.inj H
    go_enter Tryd.func4, Tryd.ntmps4
    go_wp2
    go_ret
    exact ⟨by first | rfl | (simp [errW_none, errW_some] <;> rfl) | (simp [*, errW_none, errW_some] <;> rfl), by repeat (first | (with_reducible first | exact HB.out | apply below_alloc | apply pw_below_drewN | apply below_drew1) | exact HB.out | exact Below.refl _ _)⟩
  · rw [if_neg c2] at H
    have c2b0 : decide (1048576 < (l0.length : Int)) = false := decide_eq_false c2
    have c2b1 : decide (1048576 < l0.length) = false := decide_eq_false (by omega)
    clear c2
    replace H := Option.bind_eq_some_iff.mp H
    obtain ⟨⟨t296, t297, t298, t299, t302⟩, A30, H⟩ := H
    replace H : ((impl_ReplyPut.f k t296 t297 t298 t299 t302).bind fun t306 => ((spec_ReplyPut.f k t296 t297 t298 t299 t302).bind fun t307 => (if t306.toList = t307.toList then (if (t306.size : Int) < 4 then (laws_FnReplyPut.j0 k t306 (t306.size : Int) true t296 t297 t298 t299 t302) else (if 0 ≤ (wrap64 ((t306.size : Int) - 2)) then (if (wrap64 ((t306.size : Int) - 2)) ≤ (t306.size : Int) then (laws_FnReplyPut.j0 k t306 (t306.size : Int) ((t306.extract ((wrap64 ((t306.size : Int) - 2)) : Int).toNat t306.size).toList != ([13, 10] : List UInt8)) t296 t297 t298 t299 t302) else (none)) else (none))) else (laws_FnReplyPut.j0 k t306 (t306.size : Int) true t296 t297 t298 t299 t302)))) = some r := H
    have A3 := Aside0.mk A30
    clear A30
    replace H := Option.bind_eq_some_iff.mp H
    obtain ⟨t306, A40, H⟩ := H
    replace H : ((spec_ReplyPut.f k t296 t297 t298 t299 t302).bind fun t307 => (if t306.toList = t307.toList then (if (t306.size : Int) < 4 then (laws_FnReplyPut.j0 k t306 (t306.size : Int) true t296 t297 t298 t299 t302) else (if 0 ≤ (wrap64 ((t306.size : Int) - 2)) then (if (wrap64 ((t306.size : Int) - 2)) ≤ (t306.size : Int) then (laws_FnReplyPut.j0 k t306 (t306.size : Int) ((t306.extract ((wrap64 ((t306.size : Int) - 2)) : Int).toNat t306.size).toList != ([13, 10] : List UInt8)) t296 t297 t298 t299 t302) else (none)) else (none))) else (laws_FnReplyPut.j0 k t306 (t306.size : Int) true t296 t297 t298 t299 t302))) = some r := H
    have A4 := Aside0.mk A40
    clear A40
    have HC5 := Aside0.mk H
    clear H
    go_enter Tryd.func4, Tryd.ntmps4
    go_upto_region 6 with (first | ((with_reducible refine gate_callee (f := 13) rfl ?_); refine goesL_ (some 12) rfl rfl Tryd.func13 (by kernel_rfl) rfl #[.slice A0 l0.length c0] rfl (by (try simp only [List.map_toArray, List.map_cons, List.map_nil]); first | done | rfl | (simp only [List.length_drop, List.length_take]; rfl)) ?_; (with_reducible refine (spec_DrawReplyPut.calls k _ _ l0 t296 t297 t298 t299 t302 _ ?side1 ?side2 A3.out).mono ?_); (case side1 => repeat (first | exact HR0.out | (with_reducible refine Kd.C_alloc ?_ _) | (with_reducible refine Kd.C_drewN ?_ _) | (with_reducible refine Kd.C_drew ?_))); (case side2 => exact HC0.out); rintro e w6 ⟨v300, v303, rfl, ho0, ho1, hb⟩; refine ⟨_, rfl, ?_⟩; have n0_ := Aside0.mk (Kd.V_lower (Kd.V_mono (ok' := fun k_ => some k_ ≠ (v303 : Value).ownBlock) ho0 (fun k_ hk_ => hk_.2)) (below_size (by repeat (first | (with_reducible first | exact HB.out | apply below_alloc | apply pw_below_drewN | apply below_drew1) | exact HB.out | exact Below.refl _ _)))); have n1_ := Aside0.mk (Kd.N_lower (Kd.N_mono (ok' := fun k_ => True) ho1 (fun k_ hk_ => trivial)) (below_size (by repeat (first | (with_reducible first | exact HB.out | apply below_alloc | apply pw_below_drewN | apply below_drew1) | exact HB.out | exact Below.refl _ _)))); have n2_ := Aside0.mk (below_step (by repeat (first | (with_reducible first | exact HB.out | apply below_alloc | apply pw_below_drewN | apply below_drew1) | exact HB.out | exact Below.refl _ _)) hb); clear HB; have HO301 := n0_; have HO304 := n1_; have HB := n2_; clear n0_ n1_ n2_; (try clear hb); (try clear hb2); (try clear hk); (try clear hi); (try clear ho0); (try clear ho1)) | ((with_reducible refine gate_dst (N := 3) rfl ?_); (try (refine gate_guard (by rfl) ?_; dsimp only)); refine box_event ?hg (N := 3) ?hd (cs := #[.int .i64 0, .int .i64 0, .string (⟨#[]⟩ : ByteArray), .slice none 0 0, .slice none 0 0]) (t := 31) ?hr ?_; (case hd => rfl); (case hg => rfl); (case hr => first | (go_simp; done) | (go_simp; rfl)); intro gb305 hg w7 hbox hb; have n0_ := Aside0.mk (Kd.V_below (Kd.V_elderB (by (with_reducible repeat (first | apply Kd.V_alloc | apply Kd.V_drewN | apply Kd.V_drew)); exact HO301.out) gb305 (Nat.le_of_eq hg.symm)) hb); have n1_ := Aside0.mk (Kd.N_below (Kd.N_elderB (by (with_reducible repeat (first | apply Kd.N_alloc | apply Kd.N_drewN | apply Kd.N_drew)); exact HO304.out) gb305 (Nat.le_of_eq hg.symm)) hb); have n2_ := Aside0.mk (below_step (by repeat (first | (with_reducible first | exact HB.out | apply below_alloc | apply pw_below_drewN | apply below_drew1) | exact HB.out | exact Below.refl _ _)) hb); have n3_ := Aside0.mk (hbox); have n4_ := Aside0.mk ((by rw [hg]; exact (below_size (by repeat (first | (with_reducible first | exact HB.out | apply below_alloc | apply pw_below_drewN | apply below_drew1) | exact HB.out | exact Below.refl _ _))) : w.heap.size ≤ gb305)); have n5_ := Aside0.mk ((by rw [hg]; exact (below_size (by repeat (first | (with_reducible first | exact HB.out | apply below_alloc | apply pw_below_drewN | apply below_drew1) | exact HB.out | exact Below.refl _ _))) : w.heap.size ≤ gb305)); clear HO301; clear HO304; clear HB; have HO301 := n0_; have HO304 := n1_; have HB := n2_; have BK305 := n3_; have GW305 := n4_; have GE305 := n5_; clear n0_ n1_ n2_ n3_ n4_ n5_; clear hb hbox hg; have hcz8_0 : w7.cell? ⟨gb305, 0, none⟩ = some (.int .i64 0) := (blk_cell BK305.out 0).trans rfl; have hcz8_1 : w7.cell? ⟨gb305, 1, none⟩ = some (.int .i64 0) := (blk_cell BK305.out 1).trans rfl; have hcz8_2 : w7.cell? ⟨gb305, 2, none⟩ = some (.string (⟨#[]⟩ : ByteArray)) := (blk_cell BK305.out 2).trans rfl; have hcz8_3 : w7.cell? ⟨gb305, 3, none⟩ = some (.slice none 0 0) := (blk_cell BK305.out 3).trans rfl; have hcz8_4 : w7.cell? ⟨gb305, 4, none⟩ = some (.slice none 0 0) := (blk_cell BK305.out 4).trans rfl; have hfz8_0 := blk_frozen BK305.out 0; have hfz8_1 := blk_frozen BK305.out 1; have hfz8_2 := blk_frozen BK305.out 2; have hfz8_3 := blk_frozen BK305.out 3; have hfz8_4 := blk_frozen BK305.out 4; obtain ⟨Ao9, co9, eo9⟩ := Kd.V_slice HO301.out; subst eo9; obtain ⟨Ao10, co10, eo10⟩ := Kd.N_slice HO304.out; subst eo10) | ((with_reducible refine gate_callee (f := 14) rfl ?_); refine goesL_ (some 14) rfl rfl Tryd.func14 (by kernel_rfl) rfl #[.agg #[.int .i64 t296, .int .i64 t297, .string t298, .slice Ao9 t299.length co9, .slice Ao10 t302.length co10]] rfl (by (try simp only [List.map_toArray, List.map_cons, List.map_nil]); first | done | rfl | (simp only [List.length_drop, List.length_take]; rfl)) ?_; (with_reducible refine (impl_ReplyPut.calls (hT0 := X.Tab.keep hT0 (by repeat (first | (with_reducible first | exact HB.out | apply below_alloc | apply pw_below_drewN | apply below_drew1 | refine below_set ?_ GE305.out) | exact HB.out))) k t296 t297 t298 _ _ t299 _ _ t302 t306 _ ?side1 ?side2 ?side3 ?side4 A4.out).mono ?_); (case side1 => refine (Kd.V_reads' (e := 9) (base := w.heap.size) (ok := fun k_ => (some k_ ≠ (.slice Ao10 t302.length co10 : Value).ownBlock ∧ k_ ≠ gb305)) (n := t299.length) (c := co9) ?_).2.2; exact (by (with_reducible repeat (first | apply Kd.V_alloc | apply Kd.V_drewN | apply Kd.V_drew)); exact (Kd.V_mono (Kd.V_far (p := ⟨gb305, 4, none⟩) (Kd.V_far (p := ⟨gb305, 3, none⟩) (Kd.V_far (p := ⟨gb305, 2, none⟩) (Kd.V_far (p := ⟨gb305, 1, none⟩) (Kd.V_far (p := ⟨gb305, 0, none⟩) (Kd.V_mono HO301.out (fun k_ hk => (⟨hk, by first | exact hk.2 | exact hk | exact hk.1⟩ : _ ∧ k_ ≠ gb305))) (fun _ hk => hk.2) (.int .i64 t296)) (fun _ hk => hk.2) (.int .i64 t297)) (fun _ hk => hk.2) (.string t298)) (fun _ hk => hk.2) (.slice Ao9 t299.length co9)) (fun _ hk => hk.2) (.slice Ao10 t302.length co10)) (fun _ h_ => h_.1)))); (case side2 => exact (Kd.V_reads' HO301.out).2.1); (case side3 => refine (Kd.N_reads' (e := 31) (base := w.heap.size) (ok := fun k_ => (True ∧ k_ ≠ gb305)) (n := t302.length) (c := co10) ?_).2.2; exact (by (with_reducible repeat (first | apply Kd.N_alloc | apply Kd.N_drewN | apply Kd.N_drew)); exact (Kd.N_mono (Kd.N_far (p := ⟨gb305, 4, none⟩) (Kd.N_far (p := ⟨gb305, 3, none⟩) (Kd.N_far (p := ⟨gb305, 2, none⟩) (Kd.N_far (p := ⟨gb305, 1, none⟩) (Kd.N_far (p := ⟨gb305, 0, none⟩) (Kd.N_mono HO304.out (fun k_ hk => (⟨hk, by first | exact hk.2 | exact hk | exact hk.1⟩ : _ ∧ k_ ≠ gb305))) (fun _ hk => hk.2) (.int .i64 t296)) (fun _ hk => hk.2) (.int .i64 t297)) (fun _ hk => hk.2) (.string t298)) (fun _ hk => hk.2) (.slice Ao9 t299.length co9)) (fun _ hk => hk.2) (.slice Ao10 t302.length co10)) (fun _ h_ => h_.1)))); (case side4 => exact (Kd.N_reads' HO304.out).2.1); rintro e w11 ⟨rfl, hb⟩; refine ⟨_, rfl, ?_⟩; have n0_ := Aside0.mk (Kd.V_below (by (with_reducible repeat (first | apply Kd.V_alloc | apply Kd.V_drewN | apply Kd.V_drew)); exact (Kd.V_mono (Kd.V_far (p := ⟨gb305, 4, none⟩) (Kd.V_far (p := ⟨gb305, 3, none⟩) (Kd.V_far (p := ⟨gb305, 2, none⟩) (Kd.V_far (p := ⟨gb305, 1, none⟩) (Kd.V_far (p := ⟨gb305, 0, none⟩) (Kd.V_mono HO301.out (fun k_ hk => (⟨hk, by first | exact hk.2 | exact hk | exact hk.1⟩ : _ ∧ k_ ≠ gb305))) (fun _ hk => hk.2) (.int .i64 t296)) (fun _ hk => hk.2) (.int .i64 t297)) (fun _ hk => hk.2) (.string t298)) (fun _ hk => hk.2) (.slice Ao9 t299.length co9)) (fun _ hk => hk.2) (.slice Ao10 t302.length co10)) (fun _ h_ => h_.1))) hb); have n1_ := Aside0.mk (Kd.N_below (by (with_reducible repeat (first | apply Kd.N_alloc | apply Kd.N_drewN | apply Kd.N_drew)); exact (Kd.N_mono (Kd.N_far (p := ⟨gb305, 4, none⟩) (Kd.N_far (p := ⟨gb305, 3, none⟩) (Kd.N_far (p := ⟨gb305, 2, none⟩) (Kd.N_far (p := ⟨gb305, 1, none⟩) (Kd.N_far (p := ⟨gb305, 0, none⟩) (Kd.N_mono HO304.out (fun k_ hk => (⟨hk, by first | exact hk.2 | exact hk | exact hk.1⟩ : _ ∧ k_ ≠ gb305))) (fun _ hk => hk.2) (.int .i64 t296)) (fun _ hk => hk.2) (.int .i64 t297)) (fun _ hk => hk.2) (.string t298)) (fun _ hk => hk.2) (.slice Ao9 t299.length co9)) (fun _ hk => hk.2) (.slice Ao10 t302.length co10)) (fun _ h_ => h_.1))) hb); have n2_ := Aside0.mk (blk_below (g := gb305) (o := .cells #[.int .i64 t296, .int .i64 t297, .string t298, .slice Ao9 t299.length co9, .slice Ao10 t302.length co10] 31 (0, 0)) (by (with_reducible repeat (first | refine blk_drewN ?_ _ | refine blk_drew ?_ | refine blk_alloc ?_ _)); refine blk_put (cs := #[.int .i64 t296, .int .i64 t297, .string t298, .slice Ao9 t299.length co9, .slice none 0 0]) ?_ 4 _ rfl; (with_reducible repeat (first | refine blk_drewN ?_ _ | refine blk_drew ?_ | refine blk_alloc ?_ _)); refine blk_put (cs := #[.int .i64 t296, .int .i64 t297, .string t298, .slice none 0 0, .slice none 0 0]) ?_ 3 _ rfl; (with_reducible repeat (first | refine blk_drewN ?_ _ | refine blk_drew ?_ | refine blk_alloc ?_ _)); refine blk_put (cs := #[.int .i64 t296, .int .i64 t297, .string (⟨#[]⟩ : ByteArray), .slice none 0 0, .slice none 0 0]) ?_ 2 _ rfl; (with_reducible repeat (first | refine blk_drewN ?_ _ | refine blk_drew ?_ | refine blk_alloc ?_ _)); refine blk_put (cs := #[.int .i64 t296, .int .i64 0, .string (⟨#[]⟩ : ByteArray), .slice none 0 0, .slice none 0 0]) ?_ 1 _ rfl; (with_reducible repeat (first | refine blk_drewN ?_ _ | refine blk_drew ?_ | refine blk_alloc ?_ _)); refine blk_put (cs := #[.int .i64 0, .int .i64 0, .string (⟨#[]⟩ : ByteArray), .slice none 0 0, .slice none 0 0]) ?_ 0 _ rfl; (with_reducible repeat (first | refine blk_drewN ?_ _ | refine blk_drew ?_ | refine blk_alloc ?_ _)); exact BK305.out) hb); have n3_ := Aside0.mk (below_step (by repeat (first | (with_reducible first | exact HB.out | apply below_alloc | apply pw_below_drewN | apply below_drew1 | refine below_set ?_ GE305.out) | exact HB.out)) hb); clear HO301; clear HO304; clear BK305; clear HB; have HO301 := n0_; have HO304 := n1_; have BK305 := n2_; have HB := n3_; clear n0_ n1_ n2_ n3_; (try clear hb); (try clear hb2); (try clear hk); (try clear hi)))
    (try simp only [Act.put, List.setIfInBounds_toArray, List.set_cons_zero, List.set_cons_succ])
    go_cut [31] (fun v31 wc => ∃ (kq : Nat) (x31_4 : Bool), v31 = .bool x31_4 ∧ Aside0 (laws_FnReplyPut.j0 kq t306 (t306.size : Int) x31_4 t296 t297 t298 t299 t302 = some r) ∧ Aside0 (kq ≤ k) ∧ Aside0 (Kd.V Kd.string 9 wc w.heap.size (fun k_ => some k_ ≠ ((.slice Ao10 t302.length co10) : Value).ownBlock ∧ k_ ≠ gb305) (.slice Ao9 t299.length co9) t299) ∧ Aside0 (Kd.N k31 31 wc w.heap.size (fun k_ => k_ ≠ gb305) (.slice Ao10 t302.length co10) t302) ∧ Aside0 (wc.heap[gb305]? = some (.cells #[.int .i64 t296, .int .i64 t297, .string t298, (.slice Ao9 t299.length co9), (.slice Ao10 t302.length co10)] 31 (0, 0))) ∧ Aside0 (Below w.heap.size w wc))
    case first =>
      have H := HC5.out
      clear HC5
      replace H := Option.bind_eq_some_iff.mp H
      obtain ⟨t307, A120, H⟩ := H
      replace H : (if t306.toList = t307.toList then (if (t306.size : Int) < 4 then (laws_FnReplyPut.j0 k t306 (t306.size : Int) true t296 t297 t298 t299 t302) else (if 0 ≤ (wrap64 ((t306.size : Int) - 2)) then (if (wrap64 ((t306.size : Int) - 2)) ≤ (t306.size : Int) then (laws_FnReplyPut.j0 k t306 (t306.size : Int) ((t306.extract ((wrap64 ((t306.size : Int) - 2)) : Int).toNat t306.size).toList != ([13, 10] : List UInt8)) t296 t297 t298 t299 t302) else (none)) else (none))) else (laws_FnReplyPut.j0 k t306 (t306.size : Int) true t296 t297 t298 t299 t302)) = some r := H
      have A12 := Aside0.mk A120
      clear A120
      by_cases c13 : t306.toList = t307.toList
      · rw [if_pos c13] at H
        have c13b0 : (t306.toList == t307.toList) = true := beq_iff_eq.mpr c13
        have c13b1 : (t306.toList != t307.toList) = false := bne_eq_false_iff_eq.mpr c13
        clear c13
        (first | rw [c13b0] | (simp only [i64_w, i32_w]; rw [c13b0]) | skip)
        by_cases c14 : (t306.size : Int) < 4
        · rw [if_pos c14] at H
          have c14b0 : decide ((t306.size : Int) < 4) = true := decide_eq_true c14
          have c14b1 : decide (t306.size < 4) = true := decide_eq_true (by omega)
          clear c14
          have H' := Aside0.mk H
          clear H
          have hcz15_0 : w11.cell? ⟨gb305, 0, none⟩ = some (.int .i64 t296) := (blk_cell BK305.out 0).trans rfl
          have hcz15_1 : w11.cell? ⟨gb305, 1, none⟩ = some (.int .i64 t297) := (blk_cell BK305.out 1).trans rfl
          have hcz15_2 : w11.cell? ⟨gb305, 2, none⟩ = some (.string t298) := (blk_cell BK305.out 2).trans rfl
          have hcz15_3 : w11.cell? ⟨gb305, 3, none⟩ = some (.slice Ao9 t299.length co9) := (blk_cell BK305.out 3).trans rfl
          have hcz15_4 : w11.cell? ⟨gb305, 4, none⟩ = some (.slice Ao10 t302.length co10) := (blk_cell BK305.out 4).trans rfl
          have hfz15_0 := blk_frozen BK305.out 0
          have hfz15_1 := blk_frozen BK305.out 1
          have hfz15_2 := blk_frozen BK305.out 2
          have hfz15_3 := blk_frozen BK305.out 3
          have hfz15_4 := blk_frozen BK305.out 4
          go_wp2_with (first | ((with_reducible refine gate_callee (f := 15) rfl ?_); refine goesL_ (some 19) rfl rfl Tryd.func15 (by kernel_rfl) rfl #[.agg #[.int .i64 t296, .int .i64 t297, .string t298, .slice Ao9 t299.length co9, .slice Ao10 t302.length co10]] rfl (by (try simp only [List.map_toArray, List.map_cons, List.map_nil]); first | done | rfl | (simp only [List.length_drop, List.length_take]; rfl)) ?_; (with_reducible refine (spec_ReplyPut.calls k t296 t297 t298 _ _ t299 _ _ t302 t307 _ ?side1 ?side2 ?side3 ?side4 A12.out).mono ?_); (case side1 => repeat (first | exact (Kd.V_reads' HO301.out).2.2 | (with_reducible refine Kd.C_alloc ?_ _) | (with_reducible refine Kd.C_drewN ?_ _) | (with_reducible refine Kd.C_drew ?_))); (case side2 => exact (Kd.V_reads' HO301.out).2.1); (case side3 => repeat (first | exact (Kd.N_reads' HO304.out).2.2 | (with_reducible refine Kd.C_alloc ?_ _) | (with_reducible refine Kd.C_drewN ?_ _) | (with_reducible refine Kd.C_drew ?_))); (case side4 => exact (Kd.N_reads' HO304.out).2.1); rintro e w16 ⟨rfl, hb⟩; refine ⟨_, rfl, ?_⟩; have n0_ := Aside0.mk (Kd.V_below (by (with_reducible repeat (first | apply Kd.V_alloc | apply Kd.V_drewN | apply Kd.V_drew)); exact HO301.out) hb); have n1_ := Aside0.mk (Kd.N_below (by (with_reducible repeat (first | apply Kd.N_alloc | apply Kd.N_drewN | apply Kd.N_drew)); exact HO304.out) hb); have n2_ := Aside0.mk (blk_below (g := gb305) (o := .cells #[.int .i64 t296, .int .i64 t297, .string t298, .slice Ao9 t299.length co9, .slice Ao10 t302.length co10] 31 (0, 0)) (by (with_reducible repeat (first | refine blk_drewN ?_ _ | refine blk_drew ?_ | refine blk_alloc ?_ _)); exact BK305.out) hb); have n3_ := Aside0.mk (below_step (by repeat (first | (with_reducible first | exact HB.out | apply below_alloc | apply pw_below_drewN | apply below_drew1 | refine below_set ?_ GE305.out) | exact HB.out)) hb); clear HO301; clear HO304; clear BK305; clear HB; have HO301 := n0_; have HO304 := n1_; have BK305 := n2_; have HB := n3_; clear n0_ n1_ n2_ n3_; (try clear hb); (try clear hb2); (try clear hk); (try clear hi)))
          go_meet
          case rel => exact ⟨_, (true), (by first | rfl | (simp; done) | (simp [*]; done)), H', ⟨by first | omega | exact Nat.le_refl _⟩, ⟨by (with_reducible repeat (first | apply Kd.V_alloc | apply Kd.V_drewN | apply Kd.V_drew)); exact HO301.out⟩, ⟨by (with_reducible repeat (first | apply Kd.N_alloc | apply Kd.N_drewN | apply Kd.N_drew)); exact Kd.N_mono HO304.out (fun _ hk => hk.2)⟩, ⟨by (with_reducible repeat (first | refine blk_drewN ?_ _ | refine blk_drew ?_ | refine blk_alloc ?_ _)); exact BK305.out⟩, ⟨by repeat (first | (with_reducible first | exact HB.out | apply below_alloc | apply pw_below_drewN | apply below_drew1 | refine below_set ?_ GE305.out) | exact HB.out)⟩⟩
        · rw [if_neg c14] at H
          have c14b0 : decide ((t306.size : Int) < 4) = false := decide_eq_false c14
          have c14b1 : decide (t306.size < 4) = false := decide_eq_false (by omega)
          clear c14
          obtain ⟨ji17, hji17⟩ : ∃ j_ : Int, (wrap64 ((t306.size : Int) - 2)) = j_ := ⟨_, rfl⟩
          replace H : (if 0 ≤ (ji17) then (if (ji17) ≤ (t306.size : Int) then (laws_FnReplyPut.j0 k t306 (t306.size : Int) ((t306.extract ((ji17) : Int).toNat t306.size).toList != ([13, 10] : List UInt8)) t296 t297 t298 t299 t302) else (none)) else (none)) = some r := by first | (rw [hji17] at H; exact H) | (simp only [hji17] at H ⊢; exact H)
          (try rw [hji17] at A12)
          have hji17w : (IntKind.i64.wrap ((t306.size : Int) - 2)) = ji17 := (i64_w _).trans hji17
          by_cases c18 : 0 ≤ (ji17)
          · rw [if_pos c18] at H
            have c18b0 := eq_true c18
            have c18b1 : decide (0 ≤ (ji17)) = true := decide_eq_true c18
            clear c18
            by_cases c19 : (ji17) ≤ (t306.size : Int)
            · rw [if_pos c19] at H
              have c19b0 := eq_true c19
              have c19b1 : decide ((ji17) ≤ (t306.size : Int)) = true := decide_eq_true c19
              clear c19
              have H' := Aside0.mk H
              clear H
              have hcz20_0 : w11.cell? ⟨gb305, 0, none⟩ = some (.int .i64 t296) := (blk_cell BK305.out 0).trans rfl
              have hcz20_1 : w11.cell? ⟨gb305, 1, none⟩ = some (.int .i64 t297) := (blk_cell BK305.out 1).trans rfl
              have hcz20_2 : w11.cell? ⟨gb305, 2, none⟩ = some (.string t298) := (blk_cell BK305.out 2).trans rfl
              have hcz20_3 : w11.cell? ⟨gb305, 3, none⟩ = some (.slice Ao9 t299.length co9) := (blk_cell BK305.out 3).trans rfl
              have hcz20_4 : w11.cell? ⟨gb305, 4, none⟩ = some (.slice Ao10 t302.length co10) := (blk_cell BK305.out 4).trans rfl
              have hfz20_0 := blk_frozen BK305.out 0
              have hfz20_1 := blk_frozen BK305.out 1
              have hfz20_2 := blk_frozen BK305.out 2
              have hfz20_3 := blk_frozen BK305.out 3
              have hfz20_4 := blk_frozen BK305.out 4
              go_wp2_with (first | ((with_reducible refine gate_callee (f := 15) rfl ?_); refine goesL_ (some 19) rfl rfl Tryd.func15 (by kernel_rfl) rfl #[.agg #[.int .i64 t296, .int .i64 t297, .string t298, .slice Ao9 t299.length co9, .slice Ao10 t302.length co10]] rfl (by (try simp only [List.map_toArray, List.map_cons, List.map_nil]); first | done | rfl | (simp only [List.length_drop, List.length_take]; rfl)) ?_; (with_reducible refine (spec_ReplyPut.calls k t296 t297 t298 _ _ t299 _ _ t302 t307 _ ?side1 ?side2 ?side3 ?side4 A12.out).mono ?_); (case side1 => repeat (first | exact (Kd.V_reads' HO301.out).2.2 | (with_reducible refine Kd.C_alloc ?_ _) | (with_reducible refine Kd.C_drewN ?_ _) | (with_reducible refine Kd.C_drew ?_))); (case side2 => exact (Kd.V_reads' HO301.out).2.1); (case side3 => repeat (first | exact (Kd.N_reads' HO304.out).2.2 | (with_reducible refine Kd.C_alloc ?_ _) | (with_reducible refine Kd.C_drewN ?_ _) | (with_reducible refine Kd.C_drew ?_))); (case side4 => exact (Kd.N_reads' HO304.out).2.1); rintro e w21 ⟨rfl, hb⟩; refine ⟨_, rfl, ?_⟩; have n0_ := Aside0.mk (Kd.V_below (by (with_reducible repeat (first | apply Kd.V_alloc | apply Kd.V_drewN | apply Kd.V_drew)); exact HO301.out) hb); have n1_ := Aside0.mk (Kd.N_below (by (with_reducible repeat (first | apply Kd.N_alloc | apply Kd.N_drewN | apply Kd.N_drew)); exact HO304.out) hb); have n2_ := Aside0.mk (blk_below (g := gb305) (o := .cells #[.int .i64 t296, .int .i64 t297, .string t298, .slice Ao9 t299.length co9, .slice Ao10 t302.length co10] 31 (0, 0)) (by (with_reducible repeat (first | refine blk_drewN ?_ _ | refine blk_drew ?_ | refine blk_alloc ?_ _)); exact BK305.out) hb); have n3_ := Aside0.mk (below_step (by repeat (first | (with_reducible first | exact HB.out | apply below_alloc | apply pw_below_drewN | apply below_drew1 | refine below_set ?_ GE305.out) | exact HB.out)) hb); clear HO301; clear HO304; clear BK305; clear HB; have HO301 := n0_; have HO304 := n1_; have BK305 := n2_; have HB := n3_; clear n0_ n1_ n2_ n3_; (try clear hb); (try clear hb2); (try clear hk); (try clear hi)))
              go_meet
              case rel => exact ⟨_, (((t306.extract ((ji17) : Int).toNat t306.size).toList != ([13, 10] : List UInt8))), (by first | rfl | (simp; done) | (simp only [← hji17] <;> (first | rfl | simp)) | (simp [*]; done)), H', ⟨by first | omega | exact Nat.le_refl _⟩, ⟨by (with_reducible repeat (first | apply Kd.V_alloc | apply Kd.V_drewN | apply Kd.V_drew)); exact HO301.out⟩, ⟨by (with_reducible repeat (first | apply Kd.N_alloc | apply Kd.N_drewN | apply Kd.N_drew)); exact Kd.N_mono HO304.out (fun _ hk => hk.2)⟩, ⟨by (with_reducible repeat (first | refine blk_drewN ?_ _ | refine blk_drew ?_ | refine blk_alloc ?_ _)); exact BK305.out⟩, ⟨by repeat (first | (with_reducible first | exact HB.out | apply below_alloc | apply pw_below_drewN | apply below_drew1 | refine below_set ?_ GE305.out) | exact HB.out)⟩⟩
            · rw [if_neg c19] at H
              exact absurd H (by simp)
          · rw [if_neg c18] at H
            exact absurd H (by simp)
      · rw [if_neg c13] at H
        have c13b0 : (t306.toList == t307.toList) = false := beq_eq_false_iff_ne.mpr c13
        have c13b1 : (t306.toList != t307.toList) = true := bne_iff_ne.mpr c13
        (first | rw [c13b0] | (simp only [i64_w, i32_w]; rw [c13b0]) | skip)
        have H' := Aside0.mk H
        clear H
        have hcz22_0 : w11.cell? ⟨gb305, 0, none⟩ = some (.int .i64 t296) := (blk_cell BK305.out 0).trans rfl
        have hcz22_1 : w11.cell? ⟨gb305, 1, none⟩ = some (.int .i64 t297) := (blk_cell BK305.out 1).trans rfl
        have hcz22_2 : w11.cell? ⟨gb305, 2, none⟩ = some (.string t298) := (blk_cell BK305.out 2).trans rfl
        have hcz22_3 : w11.cell? ⟨gb305, 3, none⟩ = some (.slice Ao9 t299.length co9) := (blk_cell BK305.out 3).trans rfl
        have hcz22_4 : w11.cell? ⟨gb305, 4, none⟩ = some (.slice Ao10 t302.length co10) := (blk_cell BK305.out 4).trans rfl
        have hfz22_0 := blk_frozen BK305.out 0
        have hfz22_1 := blk_frozen BK305.out 1
        have hfz22_2 := blk_frozen BK305.out 2
        have hfz22_3 := blk_frozen BK305.out 3
        have hfz22_4 := blk_frozen BK305.out 4
        go_wp2_with (first | ((with_reducible refine gate_callee (f := 15) rfl ?_); refine goesL_ (some 19) rfl rfl Tryd.func15 (by kernel_rfl) rfl #[.agg #[.int .i64 t296, .int .i64 t297, .string t298, .slice Ao9 t299.length co9, .slice Ao10 t302.length co10]] rfl (by (try simp only [List.map_toArray, List.map_cons, List.map_nil]); first | done | rfl | (simp only [List.length_drop, List.length_take]; rfl)) ?_; (with_reducible refine (spec_ReplyPut.calls k t296 t297 t298 _ _ t299 _ _ t302 t307 _ ?side1 ?side2 ?side3 ?side4 A12.out).mono ?_); (case side1 => repeat (first | exact (Kd.V_reads' HO301.out).2.2 | (with_reducible refine Kd.C_alloc ?_ _) | (with_reducible refine Kd.C_drewN ?_ _) | (with_reducible refine Kd.C_drew ?_))); (case side2 => exact (Kd.V_reads' HO301.out).2.1); (case side3 => repeat (first | exact (Kd.N_reads' HO304.out).2.2 | (with_reducible refine Kd.C_alloc ?_ _) | (with_reducible refine Kd.C_drewN ?_ _) | (with_reducible refine Kd.C_drew ?_))); (case side4 => exact (Kd.N_reads' HO304.out).2.1); rintro e w23 ⟨rfl, hb⟩; refine ⟨_, rfl, ?_⟩; have n0_ := Aside0.mk (Kd.V_below (by (with_reducible repeat (first | apply Kd.V_alloc | apply Kd.V_drewN | apply Kd.V_drew)); exact HO301.out) hb); have n1_ := Aside0.mk (Kd.N_below (by (with_reducible repeat (first | apply Kd.N_alloc | apply Kd.N_drewN | apply Kd.N_drew)); exact HO304.out) hb); have n2_ := Aside0.mk (blk_below (g := gb305) (o := .cells #[.int .i64 t296, .int .i64 t297, .string t298, .slice Ao9 t299.length co9, .slice Ao10 t302.length co10] 31 (0, 0)) (by (with_reducible repeat (first | refine blk_drewN ?_ _ | refine blk_drew ?_ | refine blk_alloc ?_ _)); exact BK305.out) hb); have n3_ := Aside0.mk (below_step (by repeat (first | (with_reducible first | exact HB.out | apply below_alloc | apply pw_below_drewN | apply below_drew1 | refine below_set ?_ GE305.out) | exact HB.out)) hb); clear HO301; clear HO304; clear BK305; clear HB; have HO301 := n0_; have HO304 := n1_; have BK305 := n2_; have HB := n3_; clear n0_ n1_ n2_ n3_; (try clear hb); (try clear hb2); (try clear hk); (try clear hi)))
        go_meet
        case rel => exact ⟨_, (true), (by first | rfl | (simp; done) | (simp [*]; done)), H', ⟨by first | omega | exact Nat.le_refl _⟩, ⟨by (with_reducible repeat (first | apply Kd.V_alloc | apply Kd.V_drewN | apply Kd.V_drew)); exact HO301.out⟩, ⟨by (with_reducible repeat (first | apply Kd.N_alloc | apply Kd.N_drewN | apply Kd.N_drew)); exact Kd.N_mono HO304.out (fun _ hk => hk.2)⟩, ⟨by (with_reducible repeat (first | refine blk_drewN ?_ _ | refine blk_drew ?_ | refine blk_alloc ?_ _)); exact BK305.out⟩, ⟨by repeat (first | (with_reducible first | exact HB.out | apply below_alloc | apply pw_below_drewN | apply below_drew1 | refine below_set ?_ GE305.out) | exact HB.out)⟩⟩
    case rest =>
      clear HC5
      try clear c1
      try clear c2
      try clear c2b0
      try clear c2b1
      try clear p2
      try clear c4
      try clear p6
      try clear c13
      try clear c13b0
      try clear c13b1
      try clear c14
      try clear c14b0
      try clear c14b1
      try clear c15
      try clear c18
      try clear c18b0
      try clear c18b1
      try clear c19
      try clear c19b0
      try clear c19b1
      try clear hcz15_0
      try clear hcz15_1
      try clear hcz15_2
      try clear hcz15_3
      try clear hcz15_4
      try clear hcz20_0
      try clear hcz20_1
      try clear hcz20_2
      try clear hcz20_3
      try clear hcz20_4
      try clear hcz22_0
      try clear hcz22_1
      try clear hcz22_2
      try clear hcz22_3
      try clear hcz22_4
      try clear hcz8_0
      try clear hcz8_1
      try clear hcz8_2
      try clear hcz8_3
      try clear hcz8_4
      try clear hfz15_0
      try clear hfz15_1
      try clear hfz15_2
      try clear hfz15_3
      try clear hfz15_4
      try clear hfz20_0
      try clear hfz20_1
      try clear hfz20_2
      try clear hfz20_3
      try clear hfz20_4
      try clear hfz22_0
      try clear hfz22_1
      try clear hfz22_2
      try clear hfz22_3
      try clear hfz22_4
      try clear hfz8_0
      try clear hfz8_1
      try clear hfz8_2
      try clear hfz8_3
      try clear hfz8_4
      obtain ⟨kq, x31_4, rfl, HA, HJ4, HO_306003, HO_306004, BK305, HB⟩ := hcut
      cases kq with
      | zero => exact absurd HA.out (by simp [laws_FnReplyPut.j0])
      | succ kj4 =>
        have H := HA.out
        clear HA
        simp only [laws_FnReplyPut.j0] at H
        by_cases c24 : x31_4 = true
        · subst c24
          have H1 : (some false) = some r := by rw [if_pos rfl] at H; exact H
          clear H
          have H := H1
          clear H1
          obtain rfl := Option.some.inj H
          go_wp2
          go_ret
          exact ⟨by first | rfl | (simp [errW_none, errW_some] <;> rfl) | (simp [*, errW_none, errW_some] <;> rfl), by repeat (first | (with_reducible first | exact HB.out | apply below_alloc | apply pw_below_drewN | apply below_drew1 | refine below_set ?_ GE305.out) | exact HB.out)⟩
        · replace c24 := Bool.eq_false_iff.mpr c24
          subst c24
          have H1 : (if t296 = 6 then (laws_FnReplyPut.l0 kj4 t306 (t306.size : Int) (⟨#[]⟩ : ByteArray) 0 t296 t297 t298 t299 t302) else (some true)) = some r := by rw [if_neg (show ¬ (false = true) by decide)] at H; exact H
          clear H
          have H := H1
          clear H1
          by_cases c25 : t296 = 6
          · rw [if_pos c25] at H
            have c25b0 : (t296 == 6) = true := beq_iff_eq.mpr c25
            have c25b1 : (t296 != 6) = false := bne_eq_false_iff_eq.mpr c25
            clear c25
            have H' := Aside0.mk H
            clear H
            have hcz26_0 : wc.cell? ⟨gb305, 0, none⟩ = some (.int .i64 t296) := (blk_cell BK305.out 0).trans rfl
            have hcz26_1 : wc.cell? ⟨gb305, 1, none⟩ = some (.int .i64 t297) := (blk_cell BK305.out 1).trans rfl
            have hcz26_2 : wc.cell? ⟨gb305, 2, none⟩ = some (.string t298) := (blk_cell BK305.out 2).trans rfl
            have hcz26_3 : wc.cell? ⟨gb305, 3, none⟩ = some (.slice Ao9 t299.length co9) := (blk_cell BK305.out 3).trans rfl
            have hcz26_4 : wc.cell? ⟨gb305, 4, none⟩ = some (.slice Ao10 t302.length co10) := (blk_cell BK305.out 4).trans rfl
            have hfz26_0 := blk_frozen BK305.out 0
            have hfz26_1 := blk_frozen BK305.out 1
            have hfz26_2 := blk_frozen BK305.out 2
            have hfz26_3 := blk_frozen BK305.out 3
            have hfz26_4 := blk_frozen BK305.out 4
            go_wp2
            go_loopg [6, 7] kj4 (fun kq v6 v7 w' => ∃ (x6_2 : ByteArray) (x7_2 : Int), v6 = .string x6_2 ∧ v7 = .int .i64 x7_2 ∧ Aside0 (laws_FnReplyPut.l0 kq t306 (t306.size : Int) x6_2 x7_2 t296 t297 t298 t299 t302 = some r) ∧ Aside0 (kq ≤ kj4) ∧ Aside0 (Kd.V Kd.string 9 w' w.heap.size (fun k_ => some k_ ≠ ((.slice Ao10 t302.length co10) : Value).ownBlock ∧ k_ ≠ gb305) (.slice Ao9 t299.length co9) t299) ∧ Aside0 (Kd.N k31 31 w' w.heap.size (fun k_ => k_ ≠ gb305) (.slice Ao10 t302.length co10) t302) ∧ Aside0 (w'.heap[gb305]? = some (.cells #[.int .i64 t296, .int .i64 t297, .string t298, (.slice Ao9 t299.length co9), (.slice Ao10 t302.length co10)] 31 (0, 0))) ∧ Aside0 (Below w.heap.size w w'))
            case atStart => exact ⟨((⟨#[]⟩ : ByteArray)), (0), (by first | rfl | (simp; done) | (simp [*]; done)), (by first | rfl | (simp; done) | (simp [*]; done)), H', ⟨Nat.le_refl _⟩, ⟨by (with_reducible repeat (first | apply Kd.V_alloc | apply Kd.V_drewN | apply Kd.V_drew)); exact HO_306003.out⟩, ⟨by (with_reducible repeat (first | apply Kd.N_alloc | apply Kd.N_drewN | apply Kd.N_drew)); exact HO_306004.out⟩, ⟨by (with_reducible repeat (first | refine blk_drewN ?_ _ | refine blk_drew ?_ | refine blk_alloc ?_ _)); exact BK305.out⟩, ⟨by repeat (first | (with_reducible first | exact HB.out | apply below_alloc | apply pw_below_drewN | apply below_drew1 | refine below_set ?_ GE305.out) | exact HB.out)⟩⟩
            case round =>
              clear H'
              try clear c1
              try clear c2
              try clear c2b0
              try clear c2b1
              try clear p2
              try clear c4
              try clear p6
              try clear c13
              try clear c13b0
              try clear c13b1
              try clear c14
              try clear c14b0
              try clear c14b1
              try clear c15
              try clear c18
              try clear c18b0
              try clear c18b1
              try clear c19
              try clear c19b0
              try clear c19b1
              try clear c24
              try clear c25
              try clear c25b0
              try clear c25b1
              try clear hcz15_0
              try clear hcz15_1
              try clear hcz15_2
              try clear hcz15_3
              try clear hcz15_4
              try clear hcz20_0
              try clear hcz20_1
              try clear hcz20_2
              try clear hcz20_3
              try clear hcz20_4
              try clear hcz22_0
              try clear hcz22_1
              try clear hcz22_2
              try clear hcz22_3
              try clear hcz22_4
              try clear hcz26_0
              try clear hcz26_1
              try clear hcz26_2
              try clear hcz26_3
              try clear hcz26_4
              try clear hcz8_0
              try clear hcz8_1
              try clear hcz8_2
              try clear hcz8_3
              try clear hcz8_4
              try clear hfz15_0
              try clear hfz15_1
              try clear hfz15_2
              try clear hfz15_3
              try clear hfz15_4
              try clear hfz20_0
              try clear hfz20_1
              try clear hfz20_2
              try clear hfz20_3
              try clear hfz20_4
              try clear hfz22_0
              try clear hfz22_1
              try clear hfz22_2
              try clear hfz22_3
              try clear hfz22_4
              try clear hfz26_0
              try clear hfz26_1
              try clear hfz26_2
              try clear hfz26_3
              try clear hfz26_4
              try clear hfz8_0
              try clear hfz8_1
              try clear hfz8_2
              try clear hfz8_3
              try clear hfz8_4
              try clear p2
              try clear p6
              obtain ⟨x6_2, x7_2, rfl, rfl, HA, HK2, HO_306003, HO_306004, BK305, HB⟩ := hrel
              cases gk with
              | zero => exact absurd HA.out (by simp [laws_FnReplyPut.l0])
              | succ k2 =>
                have H := HA.out
                clear HA
                simp only [laws_FnReplyPut.l0] at H
                by_cases c27 : x7_2 < (t302.length : Int)
                · rw [if_pos c27] at H
                  have c27b0 : decide (x7_2 < (t302.length : Int)) = true := decide_eq_true c27
                  clear c27
                  by_cases c28 : 0 ≤ x7_2
                  · rw [if_pos c28] at H
                    have c28b0 : decide (0 ≤ x7_2) = true := decide_eq_true c28
                    clear c28
                    replace H := Option.bind_eq_some_iff.mp H
                    obtain ⟨t309, A290, H⟩ := H
                    replace H : (if x6_2.size + t309.size ≤ 9223372036854775807 then (laws_FnReplyPut.l0 k2 t306 (t306.size : Int) (x6_2 ++ t309) (wrap64 (x7_2 + 1)) t296 t297 t298 t299 t302) else (none)) = some r := H
                    have A29 := Aside0.mk A290
                    clear A290
                    by_cases c30 : x6_2.size + t309.size ≤ 9223372036854775807
                    · rw [if_pos c30] at H
                      have c30b0 := eq_true c30
                      have c30b1 : decide (x6_2.size + t309.size ≤ 9223372036854775807) = true := decide_eq_true c30
                      try have c30b2 : (9223372036854775807 < x6_2.size + t309.size) = False := eq_false (Nat.not_lt.2 c30)
                      have H' := Aside0.mk H
                      clear H
                      have hcz31_0 : wr.cell? ⟨gb305, 0, none⟩ = some (.int .i64 t296) := (blk_cell BK305.out 0).trans rfl
                      have hcz31_1 : wr.cell? ⟨gb305, 1, none⟩ = some (.int .i64 t297) := (blk_cell BK305.out 1).trans rfl
                      have hcz31_2 : wr.cell? ⟨gb305, 2, none⟩ = some (.string t298) := (blk_cell BK305.out 2).trans rfl
                      have hcz31_3 : wr.cell? ⟨gb305, 3, none⟩ = some (.slice Ao9 t299.length co9) := (blk_cell BK305.out 3).trans rfl
                      have hcz31_4 : wr.cell? ⟨gb305, 4, none⟩ = some (.slice Ao10 t302.length co10) := (blk_cell BK305.out 4).trans rfl
                      have hfz31_0 := blk_frozen BK305.out 0
                      have hfz31_1 := blk_frozen BK305.out 1
                      have hfz31_2 := blk_frozen BK305.out 2
                      have hfz31_3 := blk_frozen BK305.out 3
                      have hfz31_4 := blk_frozen BK305.out 4
                      have p308 : 0 ≤ (x7_2 : Int) := of_decide_eq_true (by first | (with_reducible assumption) | assumption)
                      have q308 : x7_2 < (t302.length : Int) := of_decide_eq_true (by first | (with_reducible assumption) | assumption)
                      obtain ⟨ad308, A308_3, c308_3, A308_4, c308_4, e308, hx308_0, hx308_1, hx308_2, hx308_3, hx308_4, hl308_3, hi308_3, hl308_4, hi308_4⟩ := at_T31 (Kd.N_reads' HO_306004.out).2.2 x7_2 p308 q308
                      cases e308
                      obtain ⟨ce308, hce308, hMe308, hcc308⟩ := Kd.N_get HO_306004.out z31 x7_2 p308 (by first | exact q308 | exact of_decide_eq_true (by first | (with_reducible assumption) | assumption) | (have e_ := (Kd.N_reads' HO_306004.out).1; omega))
                      obtain ⟨ua308_3, uc308_3, ua308_4, uc308_4, rfl, ul308_3, ge308_3, ul308_4, ge308_4⟩ := k31_openF hMe308
                      have hv308_3 := hcc308 3 _ rfl
                      rw [add_field _ _ 3 (by omega)] at hv308_3
                      replace hv308_3 := Option.some.inj (hv308_3.symm.trans hx308_3)
                      injection hv308_3 with hva_ hvn_ hvc_
                      rw [hva_] at ge308_3
                      rw [hvc_] at ul308_3
                      have HL308_3 := Aside0.mk (show Kd.V Kd.string 9 _ w.heap.size _ _ ((rd_T31 t302 x7_2).f3) from Kd.V_mk ul308_3 ge308_3)
                      clear hva_ hvn_ hvc_ ge308_3 ul308_3
                      have hv308_4 := hcc308 4 _ rfl
                      rw [add_field _ _ 4 (by omega)] at hv308_4
                      replace hv308_4 := Option.some.inj (hv308_4.symm.trans hx308_4)
                      injection hv308_4 with hva_ hvn_ hvc_
                      rw [hva_] at ge308_4
                      rw [hvc_] at ul308_4
                      have HL308_4 := Aside0.mk (show Kd.V k31 31 _ w.heap.size _ _ ((rd_T31 t302 x7_2).f4) from Kd.V_mk ul308_4 ge308_4)
                      clear hva_ hvn_ hvc_ ge308_4 ul308_4
                      clear hcc308 hce308
                      have HR308_3 := Aside0.mk hi308_3
                      have HC308_3 := Aside0.mk hl308_3
                      clear hi308_3 hl308_3
                      have HR308_4 := Aside0.mk hi308_4
                      have HC308_4 := Aside0.mk hl308_4
                      clear hi308_4 hl308_4
                      replace p308 := eq_true p308
                      replace q308 := eq_true q308
                      go_wp2_with (first | ((with_reducible refine gate_callee (f := 14) rfl ?_); refine goesL_ (some 48) rfl rfl Tryd.func14 (by kernel_rfl) rfl #[.agg #[.int .i64 ((rd_T31 t302 x7_2).f0), .int .i64 ((rd_T31 t302 x7_2).f1), .string ((rd_T31 t302 x7_2).f2), .slice A308_3 ((rd_T31 t302 x7_2).f3).length c308_3, .slice A308_4 ((rd_T31 t302 x7_2).f4).length c308_4]] rfl (by (try simp only [List.map_toArray, List.map_cons, List.map_nil]); first | done | rfl | (simp only [List.length_drop, List.length_take]; rfl)) ?_; (with_reducible refine (impl_ReplyPut.calls (hT0 := X.Tab.keep hT0 (by repeat (first | (with_reducible first | exact HB.out | apply below_alloc | apply pw_below_drewN | apply below_drew1 | refine below_set ?_ GE305.out) | exact HB.out))) k2 ((rd_T31 t302 x7_2).f0) ((rd_T31 t302 x7_2).f1) ((rd_T31 t302 x7_2).f2) _ _ ((rd_T31 t302 x7_2).f3) _ _ ((rd_T31 t302 x7_2).f4) t309 _ ?side1 ?side2 ?side3 ?side4 A29.out).mono ?_); (case side1 => repeat (first | exact (by repeat (first | (with_reducible exact HR308_3.out) | (with_reducible refine Kd.C_alloc ?_ _) | (with_reducible refine Kd.C_drewN ?_ _) | (with_reducible refine Kd.C_drew ?_) | exact HR308_3.out)) | (with_reducible refine Kd.C_alloc ?_ _) | (with_reducible refine Kd.C_drewN ?_ _) | (with_reducible refine Kd.C_drew ?_))); (case side2 => exact HC308_3.out); (case side3 => repeat (first | exact (by repeat (first | (with_reducible exact HR308_4.out) | (with_reducible refine Kd.C_alloc ?_ _) | (with_reducible refine Kd.C_drewN ?_ _) | (with_reducible refine Kd.C_drew ?_) | exact HR308_4.out)) | (with_reducible refine Kd.C_alloc ?_ _) | (with_reducible refine Kd.C_drewN ?_ _) | (with_reducible refine Kd.C_drew ?_))); (case side4 => exact HC308_4.out); rintro e w32 ⟨rfl, hb⟩; refine ⟨_, rfl, ?_⟩; have n0_ := Aside0.mk (Kd.V_below (by (with_reducible repeat (first | apply Kd.V_alloc | apply Kd.V_drewN | apply Kd.V_drew)); exact HO_306003.out) hb); have n1_ := Aside0.mk (Kd.N_below (by (with_reducible repeat (first | apply Kd.N_alloc | apply Kd.N_drewN | apply Kd.N_drew)); exact HO_306004.out) hb); have n2_ := Aside0.mk (Kd.V_below (by (with_reducible repeat (first | apply Kd.V_alloc | apply Kd.V_drewN | apply Kd.V_drew)); exact HL308_3.out) hb); have n3_ := Aside0.mk (Kd.V_below (by (with_reducible repeat (first | apply Kd.V_alloc | apply Kd.V_drewN | apply Kd.V_drew)); exact HL308_4.out) hb); have n4_ := Aside0.mk (blk_below (g := gb305) (o := .cells #[.int .i64 t296, .int .i64 t297, .string t298, .slice Ao9 t299.length co9, .slice (some ad308) t302.length co10] 31 (0, 0)) (by (with_reducible repeat (first | refine blk_drewN ?_ _ | refine blk_drew ?_ | refine blk_alloc ?_ _)); exact BK305.out) hb); have n5_ := Aside0.mk (Kd.C_below (by repeat (first | (with_reducible exact HR308_3.out) | (with_reducible refine Kd.C_alloc ?_ _) | (with_reducible refine Kd.C_drewN ?_ _) | (with_reducible refine Kd.C_drew ?_) | exact HR308_3.out)) hb); have n6_ := Aside0.mk (Kd.C_below (by repeat (first | (with_reducible exact HR308_4.out) | (with_reducible refine Kd.C_alloc ?_ _) | (with_reducible refine Kd.C_drewN ?_ _) | (with_reducible refine Kd.C_drew ?_) | exact HR308_4.out)) hb); have n7_ := Aside0.mk (below_step (by repeat (first | (with_reducible first | exact HB.out | apply below_alloc | apply pw_below_drewN | apply below_drew1 | refine below_set ?_ GE305.out) | exact HB.out)) hb); clear HO_306003; clear HO_306004; clear HL308_3; clear HL308_4; clear BK305; clear HR308_3; clear HR308_4; clear HB; have HO_306003 := n0_; have HO_306004 := n1_; have HL308_3 := n2_; have HL308_4 := n3_; have BK305 := n4_; have HR308_3 := n5_; have HR308_4 := n6_; have HB := n7_; clear n0_ n1_ n2_ n3_ n4_ n5_ n6_ n7_; (try clear hb); (try clear hb2); (try clear hk); (try clear hi)))
                      go_roundg k2
                      case measure => have := HJ4.out; have := HK2.out; omega
                      case rel => exact ⟨(x6_2 ++ t309), (wrap64 (x7_2 + 1)), (by first | rfl | (simp; done) | (simp [*]; done)), (by first | rfl | (simp; done) | (simp [*]; done)), H', ⟨by have := HJ4.out; have := HK2.out; omega⟩, ⟨by (with_reducible repeat (first | apply Kd.V_alloc | apply Kd.V_drewN | apply Kd.V_drew)); exact HO_306003.out⟩, ⟨by (with_reducible repeat (first | apply Kd.N_alloc | apply Kd.N_drewN | apply Kd.N_drew)); exact HO_306004.out⟩, ⟨by (with_reducible repeat (first | refine blk_drewN ?_ _ | refine blk_drew ?_ | refine blk_alloc ?_ _)); exact BK305.out⟩, ⟨by repeat (first | (with_reducible first | exact HB.out | apply below_alloc | apply pw_below_drewN | apply below_drew1 | refine below_set ?_ GE305.out) | exact HB.out)⟩⟩
                    · rw [if_neg c30] at H
                      exact absurd H (by simp)
                  · rw [if_neg c28] at H
                    exact absurd H (by simp)
                · rw [if_neg c27] at H
                  have c27b0 : decide (x7_2 < (t302.length : Int)) = false := decide_eq_false c27
                  clear c27
                  by_cases c33 : (t306.size : Int) > (x6_2.size : Int)
                  · rw [if_pos c33] at H
                    have c33b0 : decide ((x6_2.size : Int) < (t306.size : Int)) = true := decide_eq_true c33
                    have c33b1 : decide (x6_2.size < t306.size) = true := decide_eq_true (Int.ofNat_lt.mp c33)
                    clear c33
                    obtain ⟨ji34, hji34⟩ : ∃ j_ : Int, (wrap64 ((t306.size : Int) - (x6_2.size : Int))) = j_ := ⟨_, rfl⟩
                    replace H : (if 0 ≤ (ji34) then (if (ji34) ≤ (t306.size : Int) then (if (t306.extract ((ji34) : Int).toNat t306.size).toList = x6_2.toList then (if 0 < (t306.size : Int) then (some ((bt t306 0) == 42)) else (none)) else (some false)) else (none)) else (none)) = some r := by first | (rw [hji34] at H; exact H) | (simp only [hji34] at H ⊢; exact H)
                    have hji34w : (IntKind.i64.wrap ((t306.size : Int) - (x6_2.size : Int))) = ji34 := (i64_w _).trans hji34
                    by_cases c35 : 0 ≤ (ji34)
                    · rw [if_pos c35] at H
                      have c35b0 := eq_true c35
                      have c35b1 : decide (0 ≤ (ji34)) = true := decide_eq_true c35
                      clear c35
                      by_cases c36 : (ji34) ≤ (t306.size : Int)
                      · rw [if_pos c36] at H
                        have c36b0 := eq_true c36
                        have c36b1 : decide ((ji34) ≤ (t306.size : Int)) = true := decide_eq_true c36
                        clear c36
                        by_cases c37 : (t306.extract ((ji34) : Int).toNat t306.size).toList = x6_2.toList
                        · rw [if_pos c37] at H
                          have c37b0 : ((t306.extract ((ji34) : Int).toNat t306.size).toList == x6_2.toList) = true := beq_iff_eq.mpr c37
                          have c37b1 : ((t306.extract ((ji34) : Int).toNat t306.size).toList != x6_2.toList) = false := bne_eq_false_iff_eq.mpr c37
                          clear c37
                          by_cases c38 : 0 < (t306.size : Int)
                          · rw [if_pos c38] at H
                            have c38b0 : decide (0 < (t306.size : Int)) = true := decide_eq_true c38
                            have c38b1 : decide (0 < t306.size) = true := decide_eq_true (by omega)
                            clear c38
                            obtain rfl := Option.some.inj H
                            have hcz40_0 : wr.cell? ⟨gb305, 0, none⟩ = some (.int .i64 t296) := (blk_cell BK305.out 0).trans rfl
                            have hcz40_1 : wr.cell? ⟨gb305, 1, none⟩ = some (.int .i64 t297) := (blk_cell BK305.out 1).trans rfl
                            have hcz40_2 : wr.cell? ⟨gb305, 2, none⟩ = some (.string t298) := (blk_cell BK305.out 2).trans rfl
                            have hcz40_3 : wr.cell? ⟨gb305, 3, none⟩ = some (.slice Ao9 t299.length co9) := (blk_cell BK305.out 3).trans rfl
                            have hcz40_4 : wr.cell? ⟨gb305, 4, none⟩ = some (.slice Ao10 t302.length co10) := (blk_cell BK305.out 4).trans rfl
                            have hfz40_0 := blk_frozen BK305.out 0
                            have hfz40_1 := blk_frozen BK305.out 1
                            have hfz40_2 := blk_frozen BK305.out 2
                            have hfz40_3 := blk_frozen BK305.out 3
                            have hfz40_4 := blk_frozen BK305.out 4
                            have p39 : 0 ≤ (0 : Int) := (by omega)
                            have q39 : 0 < t306.size := (by have : (0 : Int) < (t306.size : Int) := of_decide_eq_true (by first | (with_reducible assumption) | assumption); omega)
                            have hx39 : ∀ h : 0 < t306.size, ((t306[0]'h).toNat : Int) = bt t306 0 := bt_at t306 0
                            clear p39
                            have qi39 : (0 < (t306.size : Int)) = True := eq_true (of_decide_eq_true (by first | (with_reducible assumption) | assumption))
                            replace q39 := eq_true q39
                            go_wp2
                            go_ret
                            exact ⟨by first | rfl | (simp [errW_none, errW_some] <;> rfl) | (simp only [← hji34]; first | rfl | (simp [errW_none, errW_some] <;> rfl)) | (simp [*, errW_none, errW_some] <;> rfl), by repeat (first | (with_reducible first | exact HB.out | apply below_alloc | apply pw_below_drewN | apply below_drew1 | refine below_set ?_ GE305.out) | exact HB.out)⟩
                          · rw [if_neg c38] at H
                            exact absurd H (by simp)
                        · rw [if_neg c37] at H
                          have c37b0 : ((t306.extract ((ji34) : Int).toNat t306.size).toList == x6_2.toList) = false := beq_eq_false_iff_ne.mpr c37
                          have c37b1 : ((t306.extract ((ji34) : Int).toNat t306.size).toList != x6_2.toList) = true := bne_iff_ne.mpr c37
                          obtain rfl := Option.some.inj H
                          have hcz41_0 : wr.cell? ⟨gb305, 0, none⟩ = some (.int .i64 t296) := (blk_cell BK305.out 0).trans rfl
                          have hcz41_1 : wr.cell? ⟨gb305, 1, none⟩ = some (.int .i64 t297) := (blk_cell BK305.out 1).trans rfl
                          have hcz41_2 : wr.cell? ⟨gb305, 2, none⟩ = some (.string t298) := (blk_cell BK305.out 2).trans rfl
                          have hcz41_3 : wr.cell? ⟨gb305, 3, none⟩ = some (.slice Ao9 t299.length co9) := (blk_cell BK305.out 3).trans rfl
                          have hcz41_4 : wr.cell? ⟨gb305, 4, none⟩ = some (.slice Ao10 t302.length co10) := (blk_cell BK305.out 4).trans rfl
                          have hfz41_0 := blk_frozen BK305.out 0
                          have hfz41_1 := blk_frozen BK305.out 1
                          have hfz41_2 := blk_frozen BK305.out 2
                          have hfz41_3 := blk_frozen BK305.out 3
                          have hfz41_4 := blk_frozen BK305.out 4
                          go_wp2
                          go_ret
                          exact ⟨by first | rfl | (simp [errW_none, errW_some] <;> rfl) | (simp only [← hji34]; first | rfl | (simp [errW_none, errW_some] <;> rfl)) | (simp [*, errW_none, errW_some] <;> rfl), by repeat (first | (with_reducible first | exact HB.out | apply below_alloc | apply pw_below_drewN | apply below_drew1 | refine below_set ?_ GE305.out) | exact HB.out)⟩
                      · rw [if_neg c36] at H
                        exact absurd H (by simp)
                    · rw [if_neg c35] at H
                      exact absurd H (by simp)
                  · rw [if_neg c33] at H
                    have c33b0 : decide ((x6_2.size : Int) < (t306.size : Int)) = false := decide_eq_false c33
                    have c33b1 : decide (x6_2.size < t306.size) = false := decide_eq_false (fun h => c33 (Int.ofNat_lt.mpr h))
                    clear c33
                    obtain rfl := Option.some.inj H
                    have hcz42_0 : wr.cell? ⟨gb305, 0, none⟩ = some (.int .i64 t296) := (blk_cell BK305.out 0).trans rfl
                    have hcz42_1 : wr.cell? ⟨gb305, 1, none⟩ = some (.int .i64 t297) := (blk_cell BK305.out 1).trans rfl
                    have hcz42_2 : wr.cell? ⟨gb305, 2, none⟩ = some (.string t298) := (blk_cell BK305.out 2).trans rfl
                    have hcz42_3 : wr.cell? ⟨gb305, 3, none⟩ = some (.slice Ao9 t299.length co9) := (blk_cell BK305.out 3).trans rfl
                    have hcz42_4 : wr.cell? ⟨gb305, 4, none⟩ = some (.slice Ao10 t302.length co10) := (blk_cell BK305.out 4).trans rfl
                    have hfz42_0 := blk_frozen BK305.out 0
                    have hfz42_1 := blk_frozen BK305.out 1
                    have hfz42_2 := blk_frozen BK305.out 2
                    have hfz42_3 := blk_frozen BK305.out 3
                    have hfz42_4 := blk_frozen BK305.out 4
                    go_wp2
                    go_ret
                    exact ⟨by first | rfl | (simp [errW_none, errW_some] <;> rfl) | (simp [*, errW_none, errW_some] <;> rfl), by repeat (first | (with_reducible first | exact HB.out | apply below_alloc | apply pw_below_drewN | apply below_drew1 | refine below_set ?_ GE305.out) | exact HB.out)⟩
          · rw [if_neg c25] at H
            have c25b0 : (t296 == 6) = false := beq_eq_false_iff_ne.mpr c25
            have c25b1 : (t296 != 6) = true := bne_iff_ne.mpr c25
            obtain rfl := Option.some.inj H
            have hcz43_0 : wc.cell? ⟨gb305, 0, none⟩ = some (.int .i64 t296) := (blk_cell BK305.out 0).trans rfl
            have hcz43_1 : wc.cell? ⟨gb305, 1, none⟩ = some (.int .i64 t297) := (blk_cell BK305.out 1).trans rfl
            have hcz43_2 : wc.cell? ⟨gb305, 2, none⟩ = some (.string t298) := (blk_cell BK305.out 2).trans rfl
            have hcz43_3 : wc.cell? ⟨gb305, 3, none⟩ = some (.slice Ao9 t299.length co9) := (blk_cell BK305.out 3).trans rfl
            have hcz43_4 : wc.cell? ⟨gb305, 4, none⟩ = some (.slice Ao10 t302.length co10) := (blk_cell BK305.out 4).trans rfl
            have hfz43_0 := blk_frozen BK305.out 0
            have hfz43_1 := blk_frozen BK305.out 1
            have hfz43_2 := blk_frozen BK305.out 2
            have hfz43_3 := blk_frozen BK305.out 3
            have hfz43_4 := blk_frozen BK305.out 4
            go_wp2
            go_ret
            exact ⟨by first | rfl | (simp [errW_none, errW_some] <;> rfl) | (simp [*, errW_none, errW_some] <;> rfl), by repeat (first | (with_reducible first | exact HB.out | apply below_alloc | apply pw_below_drewN | apply below_drew1 | refine below_set ?_ GE305.out) | exact HB.out)⟩

/-- THE ONE PURE STATEMENT of laws_FnReplyPut: yours. -/
def laws_FnReplyPut.Pure : Prop := ∀ (l0 : List Int), l0.length ≤ maxLen → l0.length * 1 ≤ 140737488351232 → (∀ x ∈ l0, (Lit.int .u8 x).wf = true) → ∃ k, laws_FnReplyPut.f k l0 = some true
theorem laws_FnReplyPut.walk (P : laws_FnReplyPut.Pure) (a0 : Option Addr) (len0 cap0 : Nat) (z0 : List Int) (w : World) (hT0 : X.Tab w) (w0 : (a0 = none ∧ len0 = 0 ∧ cap0 = 0 ∧ z0 = []) ∨ ∃ x, a0 = some x ∧ len0 ≤ cap0 ∧ cap0 ≤ maxLen ∧ z0.length = cap0 ∧ (∀ i, i < z0.length → w.cell? (x.add i) = some (.int .u8 (z0.getD i 0))) ∧ ∀ n ∈ z0, (Lit.int .u8 n).wf = true) (y0 : len0 * 1 ≤ 140737488351232) :
    Calls Tryd.prog 4 #[.slice a0 len0 cap0] w fun e w' => e = .returned (.bool true) ∧ Below w.heap.size w w' := by
  obtain ⟨l0, rfl, hr0, hm0, hw0, hc0⟩ := ReadsInt.ofRowC w0
  obtain ⟨k, h⟩ := P l0 hm0 y0 hw0
  refine (laws_FnReplyPut.calls k _ _ l0 true w hT0 (Kd.C_of_reads (d := (0 : Int)) (h1 := fun _ => rfl) hr0) hc0 h).mono ?_
  rintro e w' ⟨rfl, hd⟩
  exact ⟨rfl, hd⟩

end Go.Proofs.YtegelpeegbngiaaDoor.P
/- Plain lemmas: what reads as data (the form's reader) reads as the print's kinds: whole numbers, bools, texts, slices, structs. -/
namespace Go.Proofs.YtegelpeegbngiaaDoor.Q
open Go.RowKit Go.Proofs.YtegelpeegbngiaaDoorW.PrintWords Go.Proofs.YtegelpeegbngiaaDoorW.PrintLast

/-- What the form's reader takes at type t, in world W, is an element of the kind d within the bounds ok. -/
def Opens {α H : Type} (enc : TypeId × Value → H) (P : Program) (W : World) (t : TypeId) (d : Kd α) (ok : α → Prop) : Prop :=
  ∀ (fuel : Nat) (cs : List Value) (y : DataW H × List MemPlace), DataW.trod enc P W 0 (fun _ => true) true fuel t cs = some y → ∃ x : α, d.K W x cs ∧ ok x
section
variable {α β H : Type} {enc : TypeId × Value → H} {P : Program} {W : World} {t e : TypeId}
theorem Opens.int {k : IntKind} (ht : P.underlying t = some (.int k)) : Opens enc P W t (Kd.int k) (fun x => (Lit.int k x).wf = true) := by
  intro fuel cs y h
  obtain ⟨n, rfl, _, hn⟩ := DataW.trod_int ht h
  exact ⟨n, rfl, hn⟩
theorem Opens.string (ht : P.underlying t = some .string) : Opens enc P W t Kd.string (fun x => x.size ≤ maxLen) := by
  intro fuel cs y h
  obtain ⟨s, rfl, _, hs⟩ := DataW.trod_string ht h
  exact ⟨s, rfl, hs⟩
theorem cells_len {b : Nat} {a : Addr} {n : Nat} {cs : List Value} (h : W.cells? b a n = some cs) : cs.length = n := by
  unfold World.cells? at h
  split at h
  · simpa using mapM_some_length h
  · cases h
theorem cells_get {b : Nat} {a : Addr} {n : Nat} {cs : List Value} (h : W.cells? b a n = some cs) (i : Nat) (u : Value) (hu : cs[i]? = some u) : W.cell? (a.add i) = some u := by
  have hl := cells_len h
  have hi : i < n := by rw [← hl]; exact (List.getElem?_eq_some_iff.1 hu).1
  unfold World.cells? at h
  split at h
  · rw [← hu]; exact mapM_some_get h i i (by simp [hi])
  · cases h
theorem each_of {γ : Type} {Q : Nat → γ → Prop} (n : Nat) (h : ∀ i, i < n → ∃ x, Q i x) : ∃ l : List γ, l.length = n ∧ ∀ i x, l[i]? = some x → Q i x := by
  induction n with
  | zero => exact ⟨[], rfl, fun i x hx => by simp at hx⟩
  | succ n ih =>
    obtain ⟨l, hl, hq⟩ := ih (fun i hi => h i (by omega))
    obtain ⟨x, hx⟩ := h n (by omega)
    refine ⟨l ++ [x], by simp [hl], fun i y hy => ?_⟩
    rcases Nat.lt_or_ge i l.length with hi | hi
    · rw [List.getElem?_append_left hi] at hy
      exact hq i y hy
    · rw [List.getElem?_append_right hi] at hy
      have : i - l.length = 0 := by
        have := (List.getElem?_eq_some_iff.1 hy).1
        simp at this
        omega
      rw [this] at hy
      injection hy with hy
      obtain rfl : i = n := by omega
      exact hy ▸ hx
theorem Opens.slice {d : Kd α} {ok : α → Prop} (ht : P.underlying t = some (.slice e)) (hc : P.cellsOf e = d.sz) (h : Opens enc P W e d ok) :
    Opens enc P W t (Kd.slice e d) (fun xs => xs.length ≤ maxLen ∧ ∀ x ∈ xs, ok x) := by
  intro fuel cs y hy
  rcases DataW.trod_slice ht hy with ⟨rfl, _⟩ | ⟨a, len, cap, elems, rest, n, _, rfl, _, hb, hl, hm, hlen, hel, _, _⟩
  · exact ⟨[], ⟨none, 0, rfl, Nat.le_refl _, rfl, by simp, fun h => by simp at h⟩, by simp, by simp⟩
  · have each : ∀ i, i < len → ∃ x : α, (∃ c, c.length = d.sz ∧ d.K W x c ∧ ∀ j u, c[j]? = some u → W.cell? (a.add (i * d.sz + j)) = some u) ∧ ok x := by
      intro i hi
      have h1 := hel i hi
      rw [List.getElem?_eq_getElem (by omega)] at h1
      obtain ⟨c, h2, h3⟩ := Option.bind_eq_some_iff.1 h1
      obtain ⟨x, hK, hx⟩ := h _ _ _ h3
      rw [hc] at h2
      refine ⟨x, ⟨c, d.K_len hK, hK, fun j u hu => ?_⟩, hx⟩
      have h4 := cells_get h2 j u hu
      rwa [add_add] at h4
    obtain ⟨l, hll, hq⟩ := each_of len each
    subst hll
    refine ⟨l, ⟨some a, cap, rfl, hl, rfl, ?_, fun _ => ⟨a, rfl, fun j p hp => (hq j p hp).1⟩⟩, by omega, fun x hx => ?_⟩
    · unfold maxLen at hm; omega
    · obtain ⟨i, hi, rfl⟩ := List.getElem_of_mem hx
      exact (hq i _ (List.getElem?_eq_getElem hi)).2
theorem Opens.iso {d : Kd α} {ok : α → Prop} (f : β → α) (g : α → β) (hfg : ∀ a, f (g a) = a) (h : Opens enc P W t d ok) : Opens enc P W t (Kd.iso d f) (fun x => ok (f x)) := by
  intro fuel cs y hy
  obtain ⟨x, hK, hx⟩ := h _ _ _ hy
  exact ⟨g x, by show d.K W (f (g x)) cs; rw [hfg]; exact hK, by show ok (f (g x)); rw [hfg]; exact hx⟩
theorem Opens.imp {d : Kd α} {ok ok' : α → Prop} (h : Opens enc P W t d ok) (hi : ∀ x, ok x → ok' x) : Opens enc P W t d ok' := fun fuel cs y hy => by
  obtain ⟨x, hK, hx⟩ := h _ _ _ hy
  exact ⟨x, hK, hi x hx⟩
/-- The fields from offset o on, in line. -/
def OpensF {α H : Type} (enc : TypeId × Value → H) (P : Program) (W : World) (fs : List Field) (o : Nat) (d : Kd α) (ok : α → Prop) : Prop :=
  ∀ (n : Nat) (cs : List Value) (xs : List (DataW H × List MemPlace)), cs.length = o + d.sz → xs.length = fs.length →
    (∀ (i : Nat) (f : Field), fs[i]? = some f → DataW.trod enc P W 0 (fun _ => true) true n f.type ((cs.drop f.offset).take (P.cellsOf f.type)) = xs[i]?) → ∃ x : α, d.K W x (cs.drop o) ∧ ok x
theorem OpensF.one {d : Kd α} {ok : α → Prop} {f : Field} {o : Nat} (ho : f.offset = o) (hc : P.cellsOf f.type = d.sz) (h : Opens enc P W f.type d ok) : OpensF enc P W [f] o d ok := by
  intro n cs xs hl hx hf
  match xs, hx with
  | [x0], _ =>
    have h0 := hf 0 f rfl
    rw [ho, hc, List.take_of_length_le (by rw [List.length_drop]; omega)] at h0
    exact h n _ x0 (by simpa using h0)
theorem OpensF.cons {d : Kd α} {ok : α → Prop} {d' : Kd β} {ok' : β → Prop} {f : Field} {fs : List Field} {o : Nat} (ho : f.offset = o) (hc : P.cellsOf f.type = d.sz) (h : Opens enc P W f.type d ok)
    (hs : OpensF enc P W fs (o + d.sz) d' ok') : OpensF enc P W (f :: fs) o (Kd.pair d d') (fun x => ok x.1 ∧ ok' x.2) := by
  intro n cs xs hl hx hf
  have hsz : (Kd.pair d d').sz = d.sz + d'.sz := rfl
  match xs, hx with
  | x0 :: xs', hx =>
    have h0 := hf 0 f rfl
    rw [ho, hc] at h0
    obtain ⟨a, ha, oka⟩ := h n _ x0 (by simpa using h0)
    obtain ⟨b, hb, okb⟩ := hs n cs xs' (by omega) (by simpa using hx) (fun i g hg => by simpa using hf (i + 1) g (by simpa using hg))
    refine ⟨(a, b), ⟨(cs.drop o).take d.sz, cs.drop (o + d.sz), ?_, ha, hb⟩, oka, okb⟩
    rw [← List.drop_drop, List.take_append_drop]
theorem Opens.struct {d : Kd α} {ok : α → Prop} {fs : Array Field} (ht : P.underlying t = some (.struct fs)) (hc : P.cellsOf t = d.sz) (h : OpensF enc P W fs.toList 0 d ok) : Opens enc P W t d ok := by
  intro fuel cs y hy
  obtain ⟨xs, n, _, _, hl, hx, hf⟩ := DataW.trod_struct ht hy
  have := h n cs xs (by omega) (by simpa using hx) (fun i f hf' => hf i f (by simpa using hf'))
  simpa using this
end

end Go.Proofs.YtegelpeegbngiaaDoor.Q
/- Plain lemmas: events with enough rounds, wraps, lists of texts. No program in sight. -/
namespace Go.Proofs.YtegelpeegbngiaaDoor.Q
open Go.RowKit Go.Proofs.YtegelpeegbngiaaDoorW.PrintWords Go.Proofs.YtegelpeegbngiaaDoorW.PrintLast

theorem pos {α : Type} {c : Prop} [Decidable c] {t e : Nat → Option α} {r : α} (h : c) (x : Ev t r) : Ev (fun k => if c then t k else e k) r := by
  obtain ⟨K, hK⟩ := x
  exact ⟨K, fun k hk => (if_pos h).trans (hK k hk)⟩
theorem neg {α : Type} {c : Prop} [Decidable c] {t e : Nat → Option α} {r : α} (h : ¬ c) (x : Ev e r) : Ev (fun k => if c then t k else e k) r := by
  obtain ⟨K, hK⟩ := x
  exact ⟨K, fun k hk => (if_neg h).trans (hK k hk)⟩
theorem both {α : Type} {c : Prop} [Decidable c] {t e : Nat → Option α} {r : α} (x : c → Ev t r) (y : ¬ c → Ev e r) : Ev (fun k => if c then t k else e k) r := by
  by_cases h : c
  · exact pos h (x h)
  · exact neg h (y h)
theorem ret {α : Type} (r : α) : Ev (fun _ => some r) r := Ev.now r
theorem ret' {α : Type} {r q : α} (h : r = q) : Ev (fun _ => some r) q := h ▸ Ev.now r
theorem val {α : Type} {g : Option α} {r : α} (h : g = some r) : Ev (fun _ => g) r := ⟨0, fun _ _ => h⟩
theorem of_eq {α : Type} {g : Nat → Option α} {r q : α} (h : Ev g r) (e : r = q) : Ev g q := e ▸ h
theorem Ev.unique {α : Type} {g : Nat → Option α} {r q : α} (h : Ev g r) (h' : Ev g q) : r = q := by
  obtain ⟨K, hK⟩ := h
  obtain ⟨K', hK'⟩ := h'
  have a := hK (max K K') (Nat.le_max_left _ _)
  have b := hK' (max K K') (Nat.le_max_right _ _)
  rw [a] at b
  exact Option.some.inj b
theorem exists_of {α : Type} {g : Nat → Option α} {r : α} (h : Ev g r) : ∃ k, g k = some r := by
  obtain ⟨K, hK⟩ := h
  exact ⟨K, hK K (Nat.le_refl _)⟩

theorem wrap_id {x : Int} (h1 : -9223372036854775808 ≤ x) (h2 : x ≤ 9223372036854775807) : wrap64 x = x := by
  unfold wrap64
  omega
theorem wf64 {a : Int} (h : (Lit.int .i64 a).wf = true) : -9223372036854775808 ≤ a ∧ a ≤ 9223372036854775807 := by
  simp only [Lit.wf, Bool.and_eq_true, decide_eq_true_eq] at h
  exact h
theorem rdOf_lt {α : Type} (d : α) (l : List α) (i : Nat) (h : i < l.length) : rdOf d l (i : Int) = l[i] := by
  simp [rdOf, List.getD_eq_getElem?_getD, h]
theorem toList_inj {a b : ByteArray} (h : a.toList = b.toList) : a = b := by
  rw [ByteArray.toList_eq, ByteArray.toList_eq] at h
  cases a with
  | mk x => cases b with
    | mk y =>
      congr
      exact Array.toList_inj.1 h
theorem toList_len (a : ByteArray) : a.toList.length = a.size := by
  rw [ByteArray.toList_eq]
  rfl

end Go.Proofs.YtegelpeegbngiaaDoor.Q
/- Plain lemmas: the drawing of inputs: opening a code, picking a number, picking one of some texts. -/
namespace Go.Proofs.YtegelpeegbngiaaDoor.Q
open Go.RowKit Go.Proofs.YtegelpeegbngiaaDoorW.PrintWords Go.Proofs.YtegelpeegbngiaaDoorW.PrintLast Go.Proofs.YtegelpeegbngiaaDoor.P

/-- A code as it is read: at most two thousand bytes. -/
def Code (l : List Int) : Prop := l.length ≤ 2000 ∧ ∀ x ∈ l, 0 ≤ x ∧ x ≤ 255
theorem xor_nonneg (x y : Int) (hx : 0 ≤ x) (hx' : x < 9223372036854775808) (hy : 0 ≤ y) (hy' : y < 9223372036854775808) : 0 ≤ Go.bits .xor .i64 x y := by
  have h1 : (BitVec.ofInt 64 x) = BitVec.ofNat 64 x.toNat := by
    apply BitVec.eq_of_toNat_eq
    rw [BitVec.toNat_ofInt, BitVec.toNat_ofNat]
    omega
  have h2 : (BitVec.ofInt 64 y) = BitVec.ofNat 64 y.toNat := by
    apply BitVec.eq_of_toNat_eq
    rw [BitVec.toNat_ofInt, BitVec.toNat_ofNat]
    omega
  have h3 : (BitVec.ofNat 64 x.toNat ^^^ BitVec.ofNat 64 y.toNat).toNat < 2 ^ 63 := by
    rw [BitVec.toNat_xor, BitVec.toNat_ofNat, BitVec.toNat_ofNat, Nat.mod_eq_of_lt (by omega), Nat.mod_eq_of_lt (by omega)]
    exact Nat.xor_lt_two_pow (by omega) (by omega)
  show 0 ≤ IntKind.i64.wrap ((BitVec.ofInt 64 x ^^^ BitVec.ofInt 64 y).toNat : Int)
  rw [h1, h2]
  generalize (BitVec.ofNat 64 x.toNat ^^^ BitVec.ofNat 64 y.toNat).toNat = m at h3
  have h4 : IntKind.i64.wrap (m : Int) = wrap64 (m : Int) := i64_w _
  rw [h4, wrap_id (by omega) (by omega)]
  omega
theorem l1Open_ev (l : List Int) (hl : l.length ≤ maxLen) (hb : ∀ x ∈ l, (Lit.int .u8 x).wf = true) : ∃ c, Ev (fun _ => spec_l1Open.f l) (c, 0) ∧ Code c := by
  unfold maxLen at hl
  have hb' : ∀ x ∈ l, 0 ≤ x ∧ x ≤ 255 := by
    intro x hx
    have := hb x hx
    simp only [Lit.wf, Bool.and_eq_true, decide_eq_true_eq] at this
    exact this
  unfold spec_l1Open.f
  by_cases h : (l.length : Int) > 2000
  · refine ⟨l.take 2000, pos h (pos (by omega) (ret _)), by simp; omega, fun x hx => hb' x (List.mem_of_mem_take hx)⟩
  · exact ⟨l, neg h (ret _), by omega, hb'⟩
theorem rd_code {l : List Int} (hl : Code l) (i : Int) (h0 : 0 ≤ i) (h1 : i < l.length) : 0 ≤ rd l i ∧ rd l i ≤ 255 := by
  obtain ⟨n, rfl⟩ := Int.eq_ofNat_of_zero_le h0
  have hn : n < l.length := by omega
  have : rd l (n : Int) = l[n] := by simp [rd, List.getD_eq_getElem?_getD, hn]
  rw [this]
  exact hl.2 _ (List.getElem_mem hn)
theorem tmod_bd (a n : Int) (ha : 0 ≤ a) (hn : 0 < n) : 0 ≤ Int.tmod a n ∧ Int.tmod a n < n := ⟨Int.tmod_nonneg _ ha, Int.tmod_lt_of_pos _ hn⟩
theorem tdiv_bd (a n : Int) (ha : 0 ≤ a) (hn : 0 < n) : 0 ≤ Int.tdiv a n ∧ Int.tdiv a n ≤ a := by
  rw [Int.tdiv_eq_ediv_of_nonneg ha]
  exact ⟨Int.ediv_nonneg ha (by omega), Int.ediv_le_self _ ha⟩
theorem pick_ev (l : List Int) (hl : Code l) (p n : Int) (h0 : 0 ≤ p) (h1 : p ≤ 1000000000) (hn : 1 ≤ n) (hn' : n ≤ 4294967296) : ∃ v, Ev (fun k => spec_l1Rd_pick.f k l p n) (v, p + 1) ∧ 0 ≤ v ∧ v < n := by
  have hlen := hl.1
  have e1 : wrap64 (p + 1) = p + 1 := wrap_id (by omega) (by omega)
  have e2 : wrap64 (p + 1 - 1) = p := by rw [wrap_id (by omega) (by omega)]; omega
  unfold spec_l1Rd_pick.f
  rw [e1]
  by_cases hz : l.length = 0
  · have e : ((l.length : Int) == 0) = true := by simp [hz]
    refine ⟨0, neg (by omega) ?_, by omega, by omega⟩
    rw [e]
    refine Ev.step (g := fun k => spec_l1Rd_pick.j0 k _ _ _ _) (fun k => by rw [spec_l1Rd_pick.j0]) ?_
    exact pos rfl (ret _)
  · have e : ((l.length : Int) == 0) = false := by simp; exact fun h => hz (by simp [h])
    rw [e]
    by_cases hlt : p < l.length
    · obtain ⟨b0, b1⟩ := rd_code hl p h0 hlt
      have e3 : wrap64 (rd l p) = rd l p := wrap_id (by omega) (by omega)
      obtain ⟨c0, c1⟩ := tmod_bd (rd l p) n b0 (by omega)
      refine ⟨Int.tmod (rd l p) n, neg (by omega) ?_, c0, c1⟩
      refine Ev.step (g := fun k => spec_l1Rd_pick.j0 k _ _ _ _) (fun k => by rw [spec_l1Rd_pick.j0]) (neg (by decide) ?_)
      rw [e2, e3]
      exact pos hlt (pos h0 (neg (by omega) (ret _)))
    · have hpos : (0 : Int) < l.length := by omega
      obtain ⟨m0, m1⟩ := tmod_bd p l.length h0 hpos
      have e7 : wrap64 (p * 7) = p * 7 := wrap_id (by omega) (by omega)
      have e73 : wrap64 (p * 7 + 3) = p * 7 + 3 := wrap_id (by omega) (by omega)
      obtain ⟨q0, q1⟩ := tmod_bd (p * 7 + 3) l.length (by omega) hpos
      obtain ⟨d0, d1⟩ := tdiv_bd p l.length h0 hpos
      obtain ⟨b0, b1⟩ := rd_code hl _ m0 m1
      obtain ⟨b2, b3⟩ := rd_code hl _ q0 q1
      generalize hA : rd l (Int.tmod p (l.length : Int)) = A at b0 b1
      generalize hB : rd l (Int.tmod (p * 7 + 3) (l.length : Int)) = B at b2 b3
      generalize hD : Int.tdiv p (l.length : Int) = D at d0 d1
      have f1 : wrap64 A = A := wrap_id (by omega) (by omega)
      have f2 : wrap64 (A * 131) = A * 131 := wrap_id (by omega) (by omega)
      have f3 : wrap64 B = B := wrap_id (by omega) (by omega)
      have f4 : wrap64 (B * 1117) = B * 1117 := wrap_id (by omega) (by omega)
      have f5 : wrap64 (A * 131 + B * 1117) = A * 131 + B * 1117 := wrap_id (by omega) (by omega)
      have f6 : wrap64 (p * 29) = p * 29 := wrap_id (by omega) (by omega)
      have f7 : wrap64 (A * 131 + B * 1117 + p * 29) = A * 131 + B * 1117 + p * 29 := wrap_id (by omega) (by omega)
      have f8 : wrap64 D = D := wrap_id (by omega) (by omega)
      have f9 : wrap64 (D * 53) = D * 53 := wrap_id (by omega) (by omega)
      have f10 : wrap64 (A * 131 + B * 1117 + p * 29 + D * 53) = A * 131 + B * 1117 + p * 29 + D * 53 := wrap_id (by omega) (by omega)
      generalize hX : A * 131 + B * 1117 + p * 29 + D * 53 = X at f10
      have x0 : 0 ≤ X := by omega
      have x1 : X ≤ 1000000000000 := by omega
      obtain ⟨y0, y1⟩ := tdiv_bd X 64 x0 (by omega)
      have f11 : wrap64 (Int.tdiv X 64) = Int.tdiv X 64 := wrap_id (by omega) (by omega)
      have z0 := xor_nonneg X (Int.tdiv X 64) x0 (by omega) y0 (by omega)
      obtain ⟨c0, c1⟩ := tmod_bd _ n z0 (by omega)
      refine ⟨_, neg (by omega) ?_, c0, c1⟩
      refine Ev.step (g := fun k => spec_l1Rd_pick.j0 k _ _ _ _) (fun k => by rw [spec_l1Rd_pick.j0]) (neg (by decide) ?_)
      rw [e2, e7, e73, hA, hB, hD, f1, f2, f3, f4, f5, f6, f7, f8, f9, hX, f10, f11]
      exact neg hlt (neg (by omega) (pos m0 (pos m1 (pos q0 (pos q1 (neg (by omega) (ret _)))))))
theorem of_ev (l : List Int) (hl : Code l) (p : Int) (t : List ByteArray) (h0 : 0 ≤ p) (h1 : p ≤ 1000000000) (ht : 0 < t.length) (ht' : t.length ≤ 1000) : ∃ s, Ev (fun k => spec_l1Rd_of.f k l p t) (s, p + 1) ∧ s ∈ t := by
  obtain ⟨v, hv, v0, v1⟩ := pick_ev l hl p t.length h0 h1 (by omega) (by omega)
  obtain ⟨n, rfl⟩ := Int.eq_ofNat_of_zero_le v0
  have hn : n < t.length := by omega
  refine ⟨t[n], ?_, List.getElem_mem hn⟩
  unfold spec_l1Rd_of.f
  refine Ev.bind hv (pos v0 (pos v1 (ret' ?_)))
  rw [rdOf_lt _ _ _ hn]

end Go.Proofs.YtegelpeegbngiaaDoor.Q
/- Plain lemmas: the drawing of one text. -/
namespace Go.Proofs.YtegelpeegbngiaaDoor.Q
open Go.RowKit Go.Proofs.YtegelpeegbngiaaDoorW.PrintWords Go.Proofs.YtegelpeegbngiaaDoorW.PrintLast Go.Proofs.YtegelpeegbngiaaDoor.P

theorem l1Many_l0 (d : Nat) : ∀ (n : Nat) (x y : ByteArray), n ≤ d → n ≤ 1000000 → y.size + x.size * n ≤ 1000000 → ∃ s, Ev (fun k => spec_l1Many.l0 k x (n : Int) y) s ∧ s.size = y.size + x.size * n := by
  induction d with
  | zero =>
    intro n x y hn _ h
    obtain rfl : n = 0 := by omega
    exact ⟨y, Ev.step (g := fun k => spec_l1Many.l0 k _ _ _) (fun k => by rw [spec_l1Many.l0]) (neg (by omega) (ret _)), by simp⟩
  | succ d ih =>
    intro n x y hn hb h
    by_cases h0 : n = 0
    · subst h0
      exact ⟨y, Ev.step (g := fun k => spec_l1Many.l0 k _ _ _) (fun k => by rw [spec_l1Many.l0]) (neg (by omega) (ret _)), by simp⟩
    · have e1 : Int.tmod (n : Int) 2 = (n : Int) % 2 := Int.tmod_eq_emod_of_nonneg (by omega)
      have e2 : Int.tdiv (n : Int) 2 = ((n / 2 : Nat) : Int) := by rw [Int.tdiv_eq_ediv_of_nonneg (by omega)]; omega
      have hx : x.size ≤ x.size * n := Nat.le_mul_of_pos_right _ (by omega)
      have sq : (x ++ x).size = x.size + x.size := ByteArray.size_append
      have hm : x.size * n = (x.size + x.size) * (n / 2) + x.size * (n % 2) := by
        have : n = 2 * (n / 2) + n % 2 := by omega
        conv => lhs; rw [this, Nat.mul_add, ← Nat.mul_assoc, Nat.mul_two]
      rcases (show n % 2 = 1 ∨ n % 2 = 0 by omega) with ho | ho
      · have sy : (y ++ x).size = y.size + x.size := ByteArray.size_append
        rw [ho, Nat.mul_one] at hm
        obtain ⟨s, hs, hz⟩ := ih (n / 2) (x ++ x) (y ++ x) (by omega) (by omega) (by rw [sq, sy]; omega)
        rw [sq, sy] at hz
        refine ⟨s, Ev.step (g := fun k => spec_l1Many.l0 k _ _ _) (fun k => by rw [spec_l1Many.l0]) (pos (by omega) ?_), by omega⟩
        rw [e1, e2, wrap_id (by omega) (by omega)]
        exact pos (by omega) (pos (by omega) (pos (by omega) hs))
      · rw [ho, Nat.mul_zero, Nat.add_zero] at hm
        obtain ⟨s, hs, hz⟩ := ih (n / 2) (x ++ x) y (by omega) (by omega) (by rw [sq]; omega)
        rw [sq] at hz
        refine ⟨s, Ev.step (g := fun k => spec_l1Many.l0 k _ _ _) (fun k => by rw [spec_l1Many.l0]) (pos (by omega) ?_), by omega⟩
        rw [e1, e2, wrap_id (by omega) (by omega)]
        exact neg (by omega) (pos (by omega) hs)
theorem l1Many_ev (x : ByteArray) (n : Nat) (h : n ≤ 1000) (hx : x.size = 1) : ∃ s, Ev (fun k => spec_l1Many.f k x (n : Int)) s ∧ s.size = n := by
  obtain ⟨s, hs, hz⟩ := l1Many_l0 n n x (⟨#[]⟩ : ByteArray) (Nat.le_refl _) (by omega) (by rw [hx]; show 0 + 1 * n ≤ _; omega)
  refine ⟨s, hs, ?_⟩
  rw [hz, hx]
  show 0 + 1 * n = n
  omega
theorem l11Text_ev (l : List Int) (hl : Code l) (p : Int) (h0 : 0 ≤ p) (h1 : p ≤ 1000000000) : ∃ s, Ev (fun k => spec_l11Text.f k l p) (s, p + 1) ∧ s.size ≤ 40 := by
  obtain ⟨m, hm, hz⟩ := l1Many_ev (⟨#[120]⟩ : ByteArray) 40 (by omega) rfl
  obtain ⟨s, hs, hmem⟩ := of_ev l hl p (([(⟨#[]⟩ : ByteArray), (⟨#[97]⟩ : ByteArray), (⟨#[98]⟩ : ByteArray), (⟨#[99]⟩ : ByteArray), (⟨#[53]⟩ : ByteArray), (⟨#[45, 51]⟩ : ByteArray), (⟨#[104, 101, 108, 108, 111]⟩ : ByteArray), (⟨#[13, 10]⟩ : ByteArray), (⟨#[255]⟩ : ByteArray), m, (⟨#[57, 57, 57, 57, 57, 57, 57, 57, 57]⟩ : ByteArray)] : List ByteArray)) h0 h1 (by simp) (by simp)
  refine ⟨s, ?_, ?_⟩
  · unfold spec_l11Text.f
    exact Ev.bind hm (Ev.bind hs (ret _))
  · simp only [List.mem_cons, List.not_mem_nil, or_false] at hmem
    rcases hmem with rfl | rfl | rfl | rfl | rfl | rfl | rfl | rfl | rfl | rfl | rfl <;> first | decide | omega

end Go.Proofs.YtegelpeegbngiaaDoor.Q
/- Plain lemmas on lists of texts: the law's own helpers (size, copy, equal), 'texts are ok' on both sides. -/
namespace Go.Proofs.YtegelpeegbngiaaDoor.Q
open Go.RowKit Go.Proofs.YtegelpeegbngiaaDoorW.PrintWords Go.Proofs.YtegelpeegbngiaaDoorW.PrintLast Go.Proofs.YtegelpeegbngiaaDoor.P

theorem szStringS_l0 (l : List ByteArray) (hl : l.length ≤ maxLen) (hs : ∀ s ∈ l, s.size ≤ maxLen) (d : Nat) : ∀ (i : Nat) (c : Int), i + d = l.length → 0 ≤ c → c ≤ 1048576 →
    ∃ v, Ev (fun k => laws_szStringS.l0 k l c (i : Int)) v ∧ v ≤ c ∧ -1 ≤ v ∧ (0 ≤ v → ∀ j (h : j < l.length), i ≤ j → l[j].size ≤ 1048576) := by
  unfold maxLen at hl hs
  induction d with
  | zero =>
    intro i c hi h0 h1
    exact ⟨c, Ev.step (fun k => by rw [laws_szStringS.l0]) (neg (by omega) (ret c)), by omega, by omega, fun _ j hj hij => by omega⟩
  | succ d ih =>
    intro i c hi h0 h1
    have hlt : i < l.length := by omega
    have hsz := hs _ (List.getElem_mem hlt)
    by_cases hneg : c - (l[i].size : Int) < 0
    · refine ⟨-1, Ev.step (fun k => by rw [laws_szStringS.l0]) (pos (by omega) (pos (by omega) (pos ?_ (ret (-1))))), by omega, by omega, by omega⟩
      rw [rdOf_lt _ _ _ hlt, wrap_id (by omega) (by omega)]
      exact hneg
    · obtain ⟨v, hv, h2, h3, h4⟩ := ih (i + 1) (c - (l[i].size : Int)) (by omega) (by omega) (by omega)
      refine ⟨v, Ev.step (fun k => by rw [laws_szStringS.l0]) (pos (by omega) (pos (by omega) (neg ?_ ?_))), by omega, h3, fun h5 j hj hij => ?_⟩
      · rw [rdOf_lt _ _ _ hlt, wrap_id (by omega) (by omega)]
        exact hneg
      · rw [rdOf_lt _ _ _ hlt, wrap_id (x := c - _) (by omega) (by omega), wrap_id (x := (i : Int) + 1) (by omega) (by omega)]
        exact hv
      · rcases Nat.eq_or_lt_of_le hij with rfl | hij
        · omega
        · exact h4 h5 j hj hij
theorem szStringS_ev (l : List ByteArray) (hl : l.length ≤ maxLen) (hs : ∀ s ∈ l, s.size ≤ maxLen) (c : Int) (h0 : 0 ≤ c) (h1 : c ≤ 1048576) :
    ∃ v, Ev (fun k => laws_szStringS.f k l c) v ∧ v ≤ c ∧ -1 ≤ v ∧ (0 ≤ v → l.length ≤ 1048576 ∧ ∀ s ∈ l, s.size ≤ 1048576) := by
  have hl' := hl
  unfold maxLen at hl'
  by_cases h : c - (l.length : Int) < 0
  · refine ⟨-1, ?_, by omega, by omega, by omega⟩
    unfold laws_szStringS.f
    refine pos ?_ (ret _)
    rw [wrap_id (by omega) (by omega)]
    exact h
  · obtain ⟨v, hv, h2, h3, h4⟩ := szStringS_l0 l hl hs l.length 0 (c - (l.length : Int)) (by omega) (by omega) (by omega)
    refine ⟨v, ?_, by omega, h3, fun h5 => ⟨by omega, fun s hs => ?_⟩⟩
    · unfold laws_szStringS.f
      rw [wrap_id (by omega) (by omega)]
      exact neg h hv
    · obtain ⟨j, hj, rfl⟩ := List.getElem_of_mem hs
      exact h4 h5 j hj (by omega)

/-- The texts of a list are at most forty bytes long, and at most m. -/
def textsB (l : List ByteArray) (m : Int) : Bool := l.all (fun s => decide (s.size ≤ 40)) && decide ((l.length : Int) ≤ m)
theorem textsOk_l0 (l : List ByteArray) (hl : l.length ≤ maxLen) (m : Int) (d : Nat) : ∀ (i : Nat), i + d = l.length → Ev (fun k => impl_textsOk.l0 k l m l (l.length : Int) (i : Int)) ((l.drop i).all (fun s => decide (s.size ≤ 40)) && decide ((l.length : Int) ≤ m)) := by
  unfold maxLen at hl
  induction d with
  | zero =>
    intro i hi
    refine Ev.step (fun k => by rw [impl_textsOk.l0]) (neg (by omega) (ret' ?_))
    rw [List.drop_of_length_le (by omega)]
    simp
  | succ d ih =>
    intro i hi
    have hlt : i < l.length := by omega
    refine Ev.step (fun k => by rw [impl_textsOk.l0]) (pos (by omega) (pos (by omega) (pos (by omega) ?_)))
    rw [rdOf_lt _ _ _ hlt, List.drop_eq_getElem_cons hlt, List.all_cons, wrap_id (by omega) (by omega)]
    refine both (fun h => ret' ?_) (fun h => ?_)
    · have : ¬ l[i].size ≤ 40 := by omega
      simp [this]
    · have : l[i].size ≤ 40 := by omega
      simp only [this, decide_true, Bool.true_and]
      exact ih (i + 1) (by omega)
theorem textsOk_ev (l : List ByteArray) (hl : l.length ≤ maxLen) (m : Int) : Ev (fun k => impl_textsOk.f k l m) (textsB l m) := textsOk_l0 l hl m l.length 0 (by omega)
theorem toStringS_l0 (l : List ByteArray) (hl : l.length ≤ maxLen) (d : Nat) : ∀ (i : Nat) (x : List ByteArray), i + d = l.length → x.length = l.length → Ev (fun k => laws_toStringS.l0 k l x (i : Int)) (x.take i ++ l.drop i) := by
  unfold maxLen at hl
  induction d with
  | zero =>
    intro i x hi hx
    refine Ev.step (fun k => by rw [laws_toStringS.l0]) (neg (by omega) (ret' ?_))
    rw [List.drop_of_length_le (by omega), List.take_of_length_le (by omega), List.append_nil]
  | succ d ih =>
    intro i x hi hx
    have hlt : i < l.length := by omega
    refine Ev.step (fun k => by rw [laws_toStringS.l0]) (pos (by omega) (pos (by omega) (pos (by omega) ?_)))
    rw [rdOf_lt _ _ _ hlt, wrap_id (by omega) (by omega)]
    refine of_eq (ih (i + 1) _ (by omega) (by simp [hx])) ?_
    rw [List.drop_eq_getElem_cons hlt, Int.toNat_natCast, List.take_set, List.take_succ_eq_append_getElem (by omega), List.set_append_right _ _ (by simp; omega)]
    simp [show min i x.length = i by omega]
theorem toStringS_ev (l : List ByteArray) (hl : l.length ≤ 17592186044416) : Ev (fun k => laws_toStringS.f k l) l := by
  unfold laws_toStringS.f
  refine pos (by omega) (pos (by omega) ?_)
  exact of_eq (toStringS_l0 l (by unfold maxLen; omega) l.length 0 _ (by omega) (by simp)) (by simp)

theorem eqStringS_l0 (l l' : List ByteArray) (hl : l.length ≤ maxLen) (he : l.length = l'.length) (d : Nat) : ∀ (i : Nat), i + d = l.length → Ev (fun k => laws_eqStringS.l0 k l l' (i : Int)) (decide (l.drop i = l'.drop i)) := by
  unfold maxLen at hl
  induction d with
  | zero =>
    intro i hi
    refine Ev.step (fun k => by rw [laws_eqStringS.l0]) (neg (by omega) (ret' ?_))
    rw [List.drop_of_length_le (by omega), List.drop_of_length_le (by omega)]
    simp
  | succ d ih =>
    intro i hi
    have hlt : i < l.length := by omega
    have hlt' : i < l'.length := by omega
    refine Ev.step (fun k => by rw [laws_eqStringS.l0]) (pos (by omega) (pos (by omega) (pos (by omega) ?_)))
    rw [rdOf_lt _ _ _ hlt, rdOf_lt _ _ _ hlt', wrap_id (by omega) (by omega), List.drop_eq_getElem_cons hlt, List.drop_eq_getElem_cons hlt']
    refine both (fun h => ?_) (fun h => ret' ?_)
    · refine of_eq (ih (i + 1) (by omega)) ?_
      rw [toList_inj h]
      exact decide_eq_decide.2 (by simp only [List.cons.injEq, true_and])
    · exact (decide_eq_false (fun e => h (by rw [(List.cons.inj e).1]))).symm
theorem eqStringS_ev (l l' : List ByteArray) (hl : l.length ≤ maxLen) : Ev (fun k => laws_eqStringS.f k l l') (decide (l = l')) := by
  unfold laws_eqStringS.f
  refine both (fun h => ?_) (fun h => ret' ?_)
  · exact eqStringS_l0 l l' hl (by omega) l.length 0 (by omega)
  · have : l ≠ l' := fun e => h (by rw [e])
    simp [this]
theorem eqStringS_same (l : List ByteArray) (hl : l.length ≤ maxLen) : Ev (fun k => laws_eqStringS.f k l l) true := of_eq (eqStringS_ev l l hl) (by simp)

end Go.Proofs.YtegelpeegbngiaaDoor.Q
/- Plain lemmas: the drawing of texts, and lists of texts compared. -/
namespace Go.Proofs.YtegelpeegbngiaaDoor.Q
open Go.RowKit Go.Proofs.YtegelpeegbngiaaDoorW.PrintWords Go.Proofs.YtegelpeegbngiaaDoorW.PrintLast Go.Proofs.YtegelpeegbngiaaDoor.P

theorem strOfNums_one' (x : Int) : (strOfNums [x]).size = 1 := rfl
theorem l1Dec_ev (n : Nat) (h : n < 100) : ∃ s, Ev (fun k => spec_l1Dec.f k (n : Int)) s ∧ s.size ≤ 2 := by
  have small : ∀ m : Nat, m < 10 → Ev (fun k => spec_l1Dec.f k (m : Int)) (strOfNums (([(wrap64 (48 + (m : Int))) % 256] : List Int))) := fun m hm =>
    Ev.step (g := fun k => spec_l1Dec.f k _) (fun k => by rw [spec_l1Dec.f]) (neg (by omega) (neg (by omega) (pos (by omega) (ret _))))
  by_cases h10 : n < 10
  · exact ⟨_, small n h10, by rw [strOfNums_one']; omega⟩
  · have e2 : Int.tdiv (n : Int) 10 = ((n / 10 : Nat) : Int) := by rw [Int.tdiv_eq_ediv_of_nonneg (by omega)]; omega
    refine ⟨strOfNums (([(wrap64 (48 + ((n / 10 : Nat) : Int))) % 256] : List Int)) ++ strOfNums (([(wrap64 (48 + (Int.tmod (n : Int) 10))) % 256] : List Int)), Ev.step (g := fun k => spec_l1Dec.f k _) (fun k => by rw [spec_l1Dec.f]) (neg (by omega) (neg (by omega) (neg (by omega) ?_))), ?_⟩
    · rw [e2, wrap_id (by omega) (by omega)]
      refine Ev.bind (small (n / 10) (by omega)) (Ev.bind (ret _) (pos ?_ (ret _)))
      rw [strOfNums_one', strOfNums_one']
      omega
    · rw [ByteArray.size_append, strOfNums_one', strOfNums_one']
      omega
/-- Drawn texts: few, and short. -/
def Small (l : List ByteArray) (n : Nat) : Prop := l.length ≤ n ∧ ∀ s ∈ l, s.size ≤ 41
theorem Small.app {l : List ByteArray} {n : Nat} (h : Small l n) {s : ByteArray} (hs : s.size ≤ 41) : Small (l ++ [s]) (n + 1) :=
  ⟨by rw [List.length_append]; have := h.1; simp; omega, fun t ht => by
    rcases List.mem_append.1 ht with ht | ht
    · exact h.2 t ht
    · rw [List.mem_singleton.1 ht]; exact hs⟩
theorem Small.le {l : List ByteArray} {n m : Nat} (h : Small l n) (hm : n ≤ m) : Small l m := ⟨Nat.le_trans h.1 hm, h.2⟩
theorem l11Texts_l0 (c : List Int) (hc : Code c) (n : Nat) : ∀ (x : List ByteArray) (p : Int) (m : Nat), 0 ≤ p → p + n ≤ 1000000 → m + n ≤ 1000 → Small x m →
    ∃ l, Ev (fun k => spec_l11Texts.l0 k x (n : Int) c p) (l, p + n) ∧ Small l (m + n) := by
  induction n with
  | zero =>
    intro x p m h0 h1 hm hx
    exact ⟨x, Ev.step (g := fun k => spec_l11Texts.l0 k _ _ _ _) (fun k => by rw [spec_l11Texts.l0]) (neg (by omega) (ret' (by simp))), hx⟩
  | succ n ih =>
    intro x p m h0 h1 hm hx
    obtain ⟨s, hs, hz⟩ := l11Text_ev c hc p h0 (by omega)
    obtain ⟨l, hl, hS⟩ := ih (x ++ [s]) (p + 1) (m + 1) (by omega) (by omega) (by omega) (hx.app (by omega))
    have hx1 := hx.1
    refine ⟨l, Ev.step (g := fun k => spec_l11Texts.l0 k _ _ _ _) (fun k => by rw [spec_l11Texts.l0]) (pos (by omega) (Ev.bind hs ?_)), hS.le (by omega)⟩
    rw [show wrap64 (((n + 1 : Nat) : Int) - 1) = (n : Int) by rw [wrap_id (by omega) (by omega)]; omega]
    refine pos (by omega) (of_eq hl ?_)
    rw [show p + 1 + (n : Int) = p + ((n + 1 : Nat) : Int) by omega]
theorem l11Texts_ev (c : List Int) (hc : Code c) (p : Int) (n : Nat) (h0 : 0 ≤ p) (h1 : p ≤ 900000) (hn : n ≤ 900) : ∃ l q, Ev (fun k => spec_l11Texts.f k c p (n : Int)) (l, q) ∧ Small l n ∧ p ≤ q ∧ q ≤ p + 1 + n := by
  obtain ⟨v, hv, v0, v1⟩ := pick_ev c hc p ((n : Int) + 1) h0 (by omega) (by omega) (by omega)
  obtain ⟨m, rfl⟩ := Int.eq_ofNat_of_zero_le v0
  obtain ⟨l, hl, hS⟩ := l11Texts_l0 c hc m [] (p + 1) 0 (by omega) (by omega) (by omega) ⟨by simp, by simp⟩
  refine ⟨l, p + 1 + m, ?_, hS.le (by omega), by omega, by omega⟩
  unfold spec_l11Texts.f
  rw [wrap_id (by omega) (by omega)]
  exact Ev.bind hv hl
end Go.Proofs.YtegelpeegbngiaaDoor.Q
/- Plain lemmas: the drawing of one of some numbers. -/
namespace Go.Proofs.YtegelpeegbngiaaDoor.Q
open Go.RowKit Go.Proofs.YtegelpeegbngiaaDoorW.PrintWords Go.Proofs.YtegelpeegbngiaaDoorW.PrintLast Go.Proofs.YtegelpeegbngiaaDoor.P

theorem one_ev (l : List Int) (hl : Code l) (p : Int) (t : List Int) (h0 : 0 ≤ p) (h1 : p ≤ 1000000000) (ht : 0 < t.length) (ht' : t.length ≤ 1000) : ∃ s, Ev (fun k => spec_l1Rd_one.f k l p t) (s, p + 1) ∧ s ∈ t := by
  obtain ⟨v, hv, v0, v1⟩ := pick_ev l hl p t.length h0 h1 (by omega) (by omega)
  obtain ⟨n, rfl⟩ := Int.eq_ofNat_of_zero_le v0
  have hn : n < t.length := by omega
  refine ⟨t[n], ?_, List.getElem_mem hn⟩
  unfold spec_l1Rd_one.f
  refine Ev.bind hv (pos v0 (pos v1 (ret' ?_)))
  have : rd t (n : Int) = t[n] := by simp [rd, List.getD_eq_getElem?_getD, hn]
  rw [this]

end Go.Proofs.YtegelpeegbngiaaDoor.Q
/- Plain lemmas: a number within bounds, a place, on both sides. -/
namespace Go.Proofs.YtegelpeegbngiaaDoor.Q
open Go.RowKit Go.Proofs.YtegelpeegbngiaaDoorW.PrintWords Go.Proofs.YtegelpeegbngiaaDoorW.PrintLast Go.Proofs.YtegelpeegbngiaaDoor.P

def inB (n low high : Int) : Bool := decide (low ≤ n) && decide (n ≤ high)
def placeB (n : Int) : Bool := inB n (-1000000000) 1000000000
theorem inB_iff {n low high : Int} : inB n low high = true ↔ low ≤ n ∧ n ≤ high := by simp [inB]
theorem inB_false {n low high : Int} : inB n low high = false ↔ ¬ (low ≤ n ∧ n ≤ high) := by rw [← inB_iff]; simp
theorem l1In_eq (n low high : Int) : spec_l1In.f n low high = some (inB n low high) := by
  unfold spec_l1In.f inB
  by_cases h : low ≤ n
  · rw [if_pos (show n ≥ low from h)]; simp [h]
  · rw [if_neg (show ¬ n ≥ low from h)]; simp [h]
theorem within_eq (n low high : Int) : impl_within.f n low high = some (inB n low high) := by
  unfold impl_within.f inB
  by_cases h : low ≤ n
  · rw [if_pos (show n ≥ low from h)]; simp [h]
  · rw [if_neg (show ¬ n ≥ low from h)]; simp [h]
theorem l1In_ev (n low high : Int) : Ev (fun _ => spec_l1In.f n low high) (inB n low high) := val (l1In_eq n low high)
theorem within_ev (n low high : Int) : Ev (fun _ => impl_within.f n low high) (inB n low high) := val (within_eq n low high)
theorem place_bd {n : Int} (h : placeB n = true) : -1000000000 ≤ n ∧ n ≤ 1000000000 := inB_iff.1 h

end Go.Proofs.YtegelpeegbngiaaDoor.Q
/- Plain lemmas: decimals, and how a text is read as one. No program in sight. -/
namespace Go.Proofs.YtegelpeegbngiaaDoor.Q
open Go.Lib (decDigits itoa atoiAll parseUint10 parseMag)

def isD (c : UInt8) : Bool := decide (48 ≤ c.toNat) && decide (c.toNat ≤ 57)
theorem isD_iff {c : UInt8} : isD c = true ↔ 48 ≤ c.toNat ∧ c.toNat ≤ 57 := by simp [isD]
/-- What figures behind others are worth. -/
def vD : Nat → List UInt8 → Nat
  | a, [] => a
  | a, c :: r => vD (a * 10 + (c.toNat - 48)) r
theorem vD_nil (a : Nat) : vD a [] = a := rfl
theorem vD_append (l : List UInt8) (c : UInt8) : ∀ a, vD a (l ++ [c]) = vD a l * 10 + (c.toNat - 48) := by
  induction l with
  | nil => intro a; rfl
  | cons x r ih => intro a; exact ih _
theorem vD_mono (l : List UInt8) : ∀ a, a ≤ vD a l := by
  induction l with
  | nil => intro a; exact Nat.le_refl _
  | cons x r ih =>
    intro a
    have := ih (a * 10 + (x.toNat - 48))
    show a ≤ vD (a * 10 + (x.toNat - 48)) r
    omega
/-- Figures that are a number: at least one, at most ten, none of them a nought ahead of others. -/
def canon (l : List UInt8) : Bool := l.all isD && decide (1 ≤ l.length) && decide (l.length ≤ 10) && !(decide (1 < l.length) && (l.head? == some 48))
theorem head_app {l r : List UInt8} (h : l ≠ []) : (l ++ r).head? = l.head? := by
  cases l with
  | nil => exact absurd rfl h
  | cons x l => rfl
theorem digit_nat (m : Nat) (h : m < 10) : (UInt8.ofNat (48 + m)).toNat = 48 + m := by
  rw [UInt8.toNat_ofNat']
  omega
theorem dec_facts (m : Nat) : (decDigits m).all isD = true ∧ vD 0 (decDigits m) = m ∧ decDigits m ≠ [] ∧ (m ≠ 0 → (decDigits m).head? ≠ some 48) := by
  induction m using Nat.strongRecOn with
  | _ m ih =>
    by_cases h : m < 10
    · rw [Go.Lib.decDigits_one h]
      have hd := digit_nat m h
      refine ⟨?_, ?_, by simp, ?_⟩
      · simp only [List.all_cons, List.all_nil, Bool.and_true]
        exact isD_iff.2 (by omega)
      · show 0 * 10 + ((UInt8.ofNat (48 + m)).toNat - 48) = m
        omega
      · intro h0 hh
        simp only [List.head?_cons, Option.some.injEq] at hh
        rw [hh] at hd
        have : (48 : UInt8).toNat = 48 := rfl
        omega
    · have e : decDigits m = decDigits (m / 10) ++ [UInt8.ofNat (48 + m % 10)] := by rw [decDigits, dif_neg h]
      obtain ⟨i1, i2, i3, i4⟩ := ih (m / 10) (by omega)
      have hd := digit_nat (m % 10) (by omega)
      rw [e]
      refine ⟨?_, ?_, by simp, ?_⟩
      · rw [List.all_append, i1]
        simp only [List.all_cons, List.all_nil, Bool.and_true, Bool.true_and]
        exact isD_iff.2 (by omega)
      · rw [vD_append, i2]
        omega
      · intro _
        rw [head_app i3]
        exact i4 (by omega)
theorem dec_len (k : Nat) : ∀ m, m < 10 ^ (k + 1) → (decDigits m).length ≤ k + 1 := by
  induction k with
  | zero => intro m h; rw [Go.Lib.decDigits_one (by omega)]; simp
  | succ k ih =>
    intro m h
    by_cases hm : m < 10
    · rw [Go.Lib.decDigits_one hm]; simp
    · rw [decDigits, dif_neg hm, List.length_append]
      have := ih (m / 10) (by rw [Nat.pow_succ] at h; omega)
      simp only [List.length_cons, List.length_nil]
      omega
theorem dec_of (n : Nat) : ∀ l : List UInt8, l.length = n + 1 → l.all isD = true → (1 < l.length → l.head? ≠ some 48) → decDigits (vD 0 l) = l := by
  induction n with
  | zero =>
    intro l hl ha _
    match l, hl with
    | [c], _ =>
      simp only [List.all_cons, List.all_nil, Bool.and_true] at ha
      obtain ⟨h1, h2⟩ := isD_iff.1 ha
      have e : vD 0 [c] = c.toNat - 48 := by show 0 * 10 + (c.toNat - 48) = _; omega
      rw [e, Go.Lib.decDigits_one (by omega)]
      congr 1
      apply UInt8.toNat_inj.1
      rw [digit_nat _ (by omega)]
      omega
  | succ n ih =>
    intro l hl ha hh
    have hne : l ≠ [] := by intro h; rw [h] at hl; simp at hl
    obtain ⟨i, c, rfl⟩ : ∃ i c, l = i ++ [c] := ⟨l.dropLast, l.getLast hne, (List.dropLast_concat_getLast hne).symm⟩
    have hi : i.length = n + 1 := by simp at hl; omega
    have hin : i ≠ [] := by intro h; rw [h] at hi; simp at hi
    rw [List.all_append, Bool.and_eq_true] at ha
    have hc : isD c = true := by simpa using ha.2
    obtain ⟨h1, h2⟩ := isD_iff.1 hc
    have hhd : i.head? ≠ some 48 := by
      have := hh (by omega)
      rwa [head_app hin] at this
    have hI := ih i hi ha.1 (fun _ => hhd)
    have hv : vD 0 i ≠ 0 := by
      intro h0
      rw [h0, Go.Lib.decDigits_one (by omega)] at hI
      rw [← hI] at hhd
      exact hhd rfl
    rw [vD_append, decDigits, dif_neg (by omega)]
    have e1 : (vD 0 i * 10 + (c.toNat - 48)) / 10 = vD 0 i := by omega
    have e2 : (vD 0 i * 10 + (c.toNat - 48)) % 10 = c.toNat - 48 := by omega
    rw [e1, e2, hI]
    congr 2
    apply UInt8.toNat_inj.1
    rw [digit_nat _ (by omega)]
    omega
theorem canon_facts {l : List UInt8} (h : canon l = true) : decDigits (vD 0 l) = l ∧ l.all isD = true ∧ l ≠ [] ∧ l.length ≤ 10 := by
  simp only [canon, Bool.and_eq_true, decide_eq_true_eq, Bool.not_eq_true', Bool.and_eq_false_imp] at h
  obtain ⟨⟨⟨h1, h2⟩, h3⟩, h4⟩ := h
  refine ⟨dec_of (l.length - 1) l (by omega) h1 (fun hl hh => ?_), h1, fun h0 => ?_, h3⟩
  · have := h4 hl
    rw [hh] at this
    exact absurd this (by decide)
  · rw [h0] at h2
    simp at h2
theorem canon_dec (m : Nat) (h : m ≤ 1000000000) : canon (decDigits m) = true := by
  obtain ⟨h1, h2, h3, h4⟩ := dec_facts m
  have hl := dec_len 9 m (by omega)
  have hl1 : 1 ≤ (decDigits m).length := List.length_pos_iff.2 h3
  simp only [canon, Bool.and_eq_true, decide_eq_true_eq, Bool.not_eq_true', Bool.and_eq_false_imp]
  refine ⟨⟨⟨h1, hl1⟩, by omega⟩, fun hl2 => ?_⟩
  have h0 : m ≠ 0 := by
    intro h0
    rw [h0, Go.Lib.decDigits_one (by omega)] at hl2
    simp at hl2
  have := h4 h0
  cases hh : (decDigits m).head? with
  | none => rfl
  | some c =>
    rw [hh] at this
    have hc : c ≠ 48 := fun h => this (by rw [h])
    simp [hc]
theorem parse_ok (l : List UInt8) : ∀ a, l.all isD = true → vD a l < 1844674407370955162 → parseUint10 a l = .ok (vD a l) := by
  induction l with
  | nil => intro a _ _; rfl
  | cons c r ih =>
    intro a ha hv
    rw [List.all_cons, Bool.and_eq_true] at ha
    obtain ⟨h1, h2⟩ := isD_iff.1 ha.1
    have hv' : vD (a * 10 + (c.toNat - 48)) r < 1844674407370955162 := hv
    have hm := vD_mono r (a * 10 + (c.toNat - 48))
    rw [parseUint10, if_pos ⟨h1, h2⟩, if_neg (by omega), if_neg (by omega)]
    exact ih _ ha.2 hv'
/-- The reference's reading. -/
def igM (l : List UInt8) : Int × Bool :=
  if 1 < l.length ∧ l.head? = some 45 then
    (if canon l.tail = true ∧ 1 ≤ vD 0 l.tail ∧ vD 0 l.tail ≤ 1000000000 then (-(vD 0 l.tail : Int), true) else (0, false))
  else (if canon l = true ∧ vD 0 l ≤ 1000000000 then ((vD 0 l : Int), true) else (0, false))
/-- The program's reading. -/
def igI (l : List UInt8) : Int × Bool :=
  match atoiAll l with
  | .ok v => if (-1000000000 ≤ v ∧ v ≤ 1000000000) ∧ (itoa v == l) = true then (v, true) else (0, false)
  | _ => (0, false)
theorem atoi_neg (r : List UInt8) (hr : r ≠ []) (ha : r.all isD = true) (hv : vD 0 r ≤ 1000000000) : atoiAll (45 :: r) = .ok (-(vD 0 r : Int)) := by
  have hp : parseMag r = .ok (vD 0 r) := by rw [parseMag, if_neg hr]; exact parse_ok r 0 ha (by omega)
  have h45 : (45 : UInt8).toNat = 45 := rfl
  simp only [atoiAll, h45]
  rw [if_pos (by decide), hp]
  simp only
  rw [if_neg (by simp), if_neg (by omega), if_pos trivial]
theorem atoi_pos (l : List UInt8) (hl : l ≠ []) (ha : l.all isD = true) (hv : vD 0 l ≤ 1000000000) : atoiAll l = .ok (vD 0 l : Int) := by
  have hp : parseMag l = .ok (vD 0 l) := by rw [parseMag, if_neg hl]; exact parse_ok l 0 ha (by omega)
  match l, hl, ha, hv, hp with
  | c :: r, _, ha, hv, hp =>
    rw [List.all_cons, Bool.and_eq_true] at ha
    obtain ⟨h1, h2⟩ := isD_iff.1 ha.1
    simp only [atoiAll]
    rw [if_neg (by omega), hp]
    simp only
    rw [if_neg (by omega), if_neg (by omega), if_neg (by omega)]
theorem ig_cases (l : List UInt8) : igI l = (0, false) ∨ ∃ v, igI l = (v, true) ∧ (-1000000000 ≤ v ∧ v ≤ 1000000000) ∧ itoa v = l := by
  unfold igI
  split
  · split
    · rename_i v _ h
      exact .inr ⟨v, rfl, h.1, eq_of_beq h.2⟩
    · exact .inl rfl
  · exact .inl rfl
theorem ig_same (l : List UInt8) : igI l = igM l := by
  have key : ∀ v : Int, (-1000000000 ≤ v ∧ v ≤ 1000000000) → itoa v = l → igM l = (v, true) := by
    intro v hv hl
    unfold itoa at hl
    split at hl
    · rename_i hn
      obtain ⟨h1, h2, h3, h4⟩ := dec_facts v.natAbs
      have hc := canon_dec v.natAbs (by omega)
      have hlen := List.length_pos_iff.2 h3
      rw [← hl]
      unfold igM
      rw [if_pos ⟨by simp only [List.length_cons]; omega, rfl⟩, List.tail_cons, if_pos ⟨hc, by omega, by omega⟩, h2]
      congr 1
      omega
    · rename_i hn
      obtain ⟨h1, h2, h3, h4⟩ := dec_facts v.toNat
      have hc := canon_dec v.toNat (by omega)
      rw [← hl]
      unfold igM
      rw [if_neg, if_pos ⟨hc, by omega⟩, h2]
      · congr 1
        omega
      · rintro ⟨_, hh⟩
        match hd : decDigits v.toNat with
        | [] => exact h3 hd
        | c :: r =>
          rw [hd] at hh h1
          simp only [List.head?_cons, Option.some.injEq] at hh
          rw [List.all_cons, Bool.and_eq_true, hh] at h1
          exact absurd h1.1 (by decide)
  have back : ∀ v : Int, igM l = (v, true) → igI l = (v, true) := by
    intro v h
    unfold igM at h
    split at h
    · rename_i hh
      split at h
      · rename_i hc
        obtain ⟨c1, c2, c3, c4⟩ := canon_facts hc.1
        have hv : -(vD 0 l.tail : Int) = v := (Prod.mk.inj h).1
        have hl : l = 45 :: l.tail := by
          match l, hh with
          | c :: r, hh => simp only [List.head?_cons, Option.some.injEq] at hh; rw [hh.2]; rfl
        have ha := atoi_neg l.tail c3 c2 hc.2.2
        rw [← hl] at ha
        have hi : itoa (-(vD 0 l.tail : Int)) = l := by
          rw [itoa, if_pos (by omega), Int.natAbs_neg, Int.natAbs_natCast, c1]
          exact hl.symm
        unfold igI
        rw [ha]
        simp only
        rw [if_pos ⟨by omega, by rw [hi]; simp⟩, hv]
      · exact absurd (Prod.mk.inj h).2 (by decide)
    · rename_i hh
      split at h
      · rename_i hc
        obtain ⟨c1, c2, c3, c4⟩ := canon_facts hc.1
        have hv : (vD 0 l : Int) = v := (Prod.mk.inj h).1
        have ha := atoi_pos l c3 c2 hc.2
        have hi : itoa (vD 0 l : Int) = l := by
          rw [itoa, if_neg (by omega), Int.toNat_natCast, c1]
        unfold igI
        rw [ha]
        simp only
        rw [if_pos ⟨by omega, by rw [hi]; simp⟩, hv]
      · exact absurd (Prod.mk.inj h).2 (by decide)
  have no := ig_cases l
  have mo : igM l = (0, false) ∨ ∃ v, igM l = (v, true) := by
    unfold igM
    split
    · split
      · exact .inr ⟨_, rfl⟩
      · exact .inl rfl
    · split
      · exact .inr ⟨_, rfl⟩
      · exact .inl rfl
  rcases mo with hm | ⟨v, hm⟩
  · rcases no with hi | ⟨v, hi, h1, h2⟩
    · rw [hm, hi]
    · have := key v h1 h2
      rw [hm] at this
      exact absurd (Prod.mk.inj this).2 (by decide)
  · rw [hm, back v hm]

end Go.Proofs.YtegelpeegbngiaaDoor.Q
/- Plain lemmas: how both sides write a number, a text, a reply. -/
namespace Go.Proofs.YtegelpeegbngiaaDoor.Q
open Go.RowKit Go.Proofs.YtegelpeegbngiaaDoorW.PrintWords Go.Proofs.YtegelpeegbngiaaDoorW.PrintLast Go.Proofs.YtegelpeegbngiaaDoor.P

open Go.Lib (decDigits itoa)

abbrev crlf : ByteArray := (⟨#[13, 10]⟩ : ByteArray)
theorem zc : (⟨#[13, 10]⟩ : ByteArray).size = 2 := rfl
theorem zb (b : UInt8) : (⟨#[b]⟩ : ByteArray).size = 1 := rfl
/-- A number as it is written. -/
def dS (n : Nat) : ByteArray := ⟨(decDigits n).toArray⟩
def iS (v : Int) : ByteArray := ⟨(itoa v).toArray⟩
theorem ba_app (a b : List UInt8) : (⟨(a ++ b).toArray⟩ : ByteArray) = (⟨a.toArray⟩ : ByteArray) ++ (⟨b.toArray⟩ : ByteArray) := by
  apply ByteArray.ext
  simp
theorem dS_size (n : Nat) (h : n ≤ 1000000000) : 1 ≤ (dS n).size ∧ (dS n).size ≤ 10 := by
  have h1 := dec_len 9 n (by omega)
  have h2 := List.length_pos_iff.2 (dec_facts n).2.2.1
  have e : (dS n).size = (decDigits n).length := by simp [dS, ByteArray.size]
  omega
theorem iS_size (v : Int) (h0 : -1000000000 ≤ v) (h1 : v ≤ 1000000000) : 1 ≤ (iS v).size ∧ (iS v).size ≤ 11 := by
  unfold iS itoa
  split
  · have := dS_size v.natAbs (by omega)
    have e : (⟨(45 :: decDigits v.natAbs).toArray⟩ : ByteArray).size = (dS v.natAbs).size + 1 := by simp [dS, ByteArray.size]
    omega
  · have := dS_size v.toNat (by omega)
    show 1 ≤ (dS v.toNat).size ∧ (dS v.toNat).size ≤ 11
    omega
theorem one_digit (m : Nat) (h : m < 10) : strOfNums (([(wrap64 (48 + (m : Int))) % 256] : List Int)) = (⟨#[UInt8.ofNat (48 + m)]⟩ : ByteArray) := by
  have all : ∀ i : Fin 10, strOfNums (([(wrap64 (48 + (i.1 : Int))) % 256] : List Int)) = (⟨#[UInt8.ofNat (48 + i.1)]⟩ : ByteArray) := by decide +kernel
  exact all ⟨m, h⟩
theorem dec_nat (n : Nat) : n ≤ 1000000000 → Ev (fun k => spec_l1Dec.f k (n : Int)) (dS n) := by
  induction n using Nat.strongRecOn with
  | _ n ih =>
    intro hn
    by_cases h : n < 10
    · refine Ev.step (g := fun k => spec_l1Dec.f k _) (fun k => by rw [spec_l1Dec.f]) (neg (by omega) (neg (by omega) (pos (by omega) (ret' ?_))))
      rw [one_digit n h, dS, Go.Lib.decDigits_one h]
    · have e2 : Int.tdiv (n : Int) 10 = ((n / 10 : Nat) : Int) := by rw [Int.tdiv_eq_ediv_of_nonneg (by omega)]; omega
      have e3 : Int.tmod (n : Int) 10 = ((n % 10 : Nat) : Int) := by rw [Int.tmod_eq_emod_of_nonneg (by omega)]; omega
      have hs := dS_size (n / 10) (by omega)
      refine Ev.step (g := fun k => spec_l1Dec.f k _) (fun k => by rw [spec_l1Dec.f]) (neg (by omega) (neg (by omega) (neg (by omega) ?_)))
      rw [e2, e3, wrap_id (by omega) (by omega)]
      refine Ev.bind (ih (n / 10) (by omega) (by omega)) (Ev.bind (ret _) ?_)
      rw [one_digit (n % 10) (by omega), zb]
      refine pos (by omega) (ret' ?_)
      have e : decDigits n = decDigits (n / 10) ++ [UInt8.ofNat (48 + n % 10)] := by rw [decDigits, dif_neg h]
      rw [dS, dS, e, ba_app]
theorem dec_int (v : Int) (h0 : -1000000000 ≤ v) (h1 : v ≤ 1000000000) : Ev (fun k => spec_l1Dec.f k v) (iS v) := by
  by_cases h : v < 0
  · have hs := dS_size v.natAbs (by omega)
    refine Ev.step (g := fun k => spec_l1Dec.f k _) (fun k => by rw [spec_l1Dec.f]) (neg (by omega) (pos h ?_))
    rw [show wrap64 (-v) = (v.natAbs : Int) by rw [wrap_id (by omega) (by omega)]; omega]
    refine Ev.bind (dec_nat v.natAbs (by omega)) (pos (by omega) (ret' ?_))
    rw [iS, itoa, if_pos h, dS]
    exact (ba_app [45] (decDigits v.natAbs)).symm
  · have e : iS v = dS v.toNat := by rw [iS, itoa, if_neg h, dS]
    rw [e]
    have := dec_nat v.toNat (by omega)
    rwa [show ((v.toNat : Nat) : Int) = v by omega] at this
theorem itoa_int (v : Int) (h0 : -1000000000 ≤ v) (h1 : v ≤ 1000000000) : strconv_Itoa_25.f v = some (iS v) := by
  unfold strconv_Itoa_25.f
  rw [if_pos ⟨by omega, by omega⟩]
  rfl
theorem itoa_nat (n : Nat) (h : n ≤ 1000000000) : strconv_Itoa_25.f (n : Int) = some (dS n) := by
  rw [itoa_int _ (by omega) (by omega), iS, itoa, if_neg (by omega), Int.toNat_natCast, dS]
/-- A text with its length. -/
def bR (s : ByteArray) : ByteArray := ((((⟨#[36]⟩ : ByteArray) ++ dS s.size) ++ (⟨#[13, 10]⟩ : ByteArray)) ++ s) ++ (⟨#[13, 10]⟩ : ByteArray)
theorem bR_size (s : ByteArray) (h : s.size ≤ 90) : 6 ≤ (bR s).size ∧ (bR s).size ≤ 105 := by
  have := dS_size s.size (by omega)
  unfold bR
  simp only [ByteArray.size_append, zb, zc]
  omega
theorem impl_bulkR (s : ByteArray) (h : s.size ≤ 90) : Ev (fun _ => impl_bulk.f s) (bR s) := by
  have hd := dS_size s.size (by omega)
  unfold impl_bulk.f
  refine Ev.bind (val (itoa_nat s.size (by omega))) ?_
  simp only [ByteArray.size_append, zb, zc]
  exact pos (by omega) (pos (by omega) (pos (by omega) (pos (by omega) (ret _))))
theorem spec_bulkR (s : ByteArray) (h : s.size ≤ 90) : Ev (fun k => spec_l1Bulk.f k s) (bR s) := by
  have hd := dS_size s.size (by omega)
  unfold spec_l1Bulk.f
  refine Ev.bind (dec_nat s.size (by omega)) ?_
  simp only [ByteArray.size_append, zb, zc]
  exact pos (by omega) (pos (by omega) (pos (by omega) (pos (by omega) (ret _))))
def oR : ByteArray → List ByteArray → ByteArray
  | x, [] => x
  | x, s :: r => oR (x ++ bR s) r
/-- A reply that holds no others. -/
def Leaf (x : S31) : Prop := x.f0 ≠ 6 ∧ (-1000000000 ≤ x.f1 ∧ x.f1 ≤ 1000000000) ∧ x.f2.size ≤ 90 ∧ x.f3.length ≤ 8 ∧ (∀ s ∈ x.f3, s.size ≤ 90) ∧ (x.f0 = 1 → 1 ≤ x.f2.size)
def leafM (x : S31) : ByteArray :=
  if x.f0 = 1 then ((⟨#[45]⟩ : ByteArray) ++ x.f2) ++ (⟨#[13, 10]⟩ : ByteArray)
  else if x.f0 = 2 then ((⟨#[58]⟩ : ByteArray) ++ iS x.f1) ++ (⟨#[13, 10]⟩ : ByteArray)
  else if x.f0 = 3 then bR x.f2
  else if x.f0 = 4 then (⟨#[36, 45, 49, 13, 10]⟩ : ByteArray)
  else if x.f0 = 5 then oR (((⟨#[42]⟩ : ByteArray) ++ dS x.f3.length) ++ (⟨#[13, 10]⟩ : ByteArray)) x.f3
  else (⟨#[43, 79, 75, 13, 10]⟩ : ByteArray)
theorem impl_l0R (l : List ByteArray) (hl : l.length ≤ 8) (hs : ∀ s ∈ l, s.size ≤ 90) (d : Nat) : ∀ (i : Nat) (x : ByteArray), i + d = l.length → x.size ≤ 1000 + 200 * i → Ev (fun k => impl_ReplyPut.l0 k x l (l.length : Int) (i : Int)) (oR x (l.drop i)) := by
  induction d with
  | zero =>
    intro i x hi hx
    refine Ev.step (g := fun k => impl_ReplyPut.l0 k _ _ _ _) (fun k => by rw [impl_ReplyPut.l0]) (neg (by omega) (ret' ?_))
    rw [List.drop_of_length_le (by omega), oR]
  | succ d ih =>
    intro i x hi hx
    have hlt : i < l.length := by omega
    have h40 := hs _ (List.getElem_mem hlt)
    have hb := bR_size _ h40
    refine Ev.step (g := fun k => impl_ReplyPut.l0 k _ _ _ _) (fun k => by rw [impl_ReplyPut.l0]) (pos (by omega) (pos (by omega) (pos (by omega) ?_)))
    rw [rdOf_lt _ _ _ hlt, wrap_id (x := (i : Int) + 1) (by omega) (by omega), List.drop_eq_getElem_cons hlt, oR]
    exact Ev.bind (impl_bulkR _ h40) (pos (by omega) (ih (i + 1) _ (by omega) (by rw [ByteArray.size_append]; omega)))
theorem spec_l0R (a b : Int) (t : ByteArray) (m : List S31) (l : List ByteArray) (hl : l.length ≤ 8) (hs : ∀ s ∈ l, s.size ≤ 90) (d : Nat) : ∀ (i : Nat) (x : ByteArray), i + d = l.length → x.size ≤ 1000 + 200 * i → Ev (fun k => spec_ReplyPut.l0 k x (i : Int) a b t l m) (oR x (l.drop i)) := by
  induction d with
  | zero =>
    intro i x hi hx
    refine Ev.step (g := fun k => spec_ReplyPut.l0 k _ _ _ _ _ _ _) (fun k => by rw [spec_ReplyPut.l0]) (neg (by omega) (ret' ?_))
    rw [List.drop_of_length_le (by omega), oR]
  | succ d ih =>
    intro i x hi hx
    have hlt : i < l.length := by omega
    have h40 := hs _ (List.getElem_mem hlt)
    have hb := bR_size _ h40
    refine Ev.step (g := fun k => spec_ReplyPut.l0 k _ _ _ _ _ _ _) (fun k => by rw [spec_ReplyPut.l0]) (pos (by omega) (pos (by omega) ?_))
    rw [rdOf_lt _ _ _ hlt, wrap_id (x := (i : Int) + 1) (by omega) (by omega), List.drop_eq_getElem_cons hlt, oR]
    exact Ev.bind (spec_bulkR _ h40) (pos (by omega) (ih (i + 1) _ (by omega) (by rw [ByteArray.size_append]; omega)))
theorem impl_leaf (x : S31) (hx : Leaf x) : Ev (fun k => impl_ReplyPut.f k x.f0 x.f1 x.f2 x.f3 x.f4) (leafM x) := by
  obtain ⟨h6, ⟨n0, n1⟩, ht, hl, hs, _⟩ := hx
  have hi := iS_size x.f1 n0 n1
  have hd := dS_size x.f3.length (by omega)
  unfold leafM
  refine Ev.step (g := fun k => impl_ReplyPut.f k _ _ _ _ _) (fun k => by rw [impl_ReplyPut.f]) ?_
  refine both (fun h => ?_) (fun h => ?_)
  · rw [if_pos h]
    exact pos (by omega) (pos (by rw [ByteArray.size_append, zb]; omega) (ret _))
  rw [if_neg h]
  refine both (fun h => ?_) (fun h => ?_)
  · rw [if_pos h]
    exact Ev.bind (val (itoa_int _ n0 n1)) (pos (by omega) (pos (by rw [ByteArray.size_append, zb]; omega) (ret _)))
  rw [if_neg h]
  refine both (fun h => ?_) (fun h => ?_)
  · rw [if_pos h]
    exact Ev.bind (impl_bulkR _ ht) (ret _)
  rw [if_neg h]
  refine both (fun h => ?_) (fun h => ?_)
  · rw [if_pos h]
    exact ret _
  rw [if_neg h]
  refine both (fun h => ?_) (fun h => ?_)
  · rw [if_pos h]
    refine Ev.bind (val (itoa_nat _ (by omega))) (pos (by omega) (pos (by rw [ByteArray.size_append, zb]; omega) ?_))
    exact impl_l0R x.f3 hl hs x.f3.length 0 _ (by omega) (by simp only [ByteArray.size_append, zb, zc]; omega)
  rw [if_neg h]
  exact neg h6 (ret _)
theorem spec_leaf (x : S31) (hx : Leaf x) : Ev (fun k => spec_ReplyPut.f k x.f0 x.f1 x.f2 x.f3 x.f4) (leafM x) := by
  obtain ⟨h6, ⟨n0, n1⟩, ht, hl, hs, _⟩ := hx
  have hi := iS_size x.f1 n0 n1
  have hd := dS_size x.f3.length (by omega)
  unfold leafM
  refine Ev.step (g := fun k => spec_ReplyPut.f k _ _ _ _ _) (fun k => by rw [spec_ReplyPut.f]) ?_
  refine both (fun h => ?_) (fun h => ?_)
  · rw [if_pos h]
    exact pos (by omega) (pos (by rw [ByteArray.size_append, zb]; omega) (ret _))
  rw [if_neg h]
  refine both (fun h => ?_) (fun h => ?_)
  · rw [if_pos h]
    exact Ev.bind (dec_int _ n0 n1) (pos (by omega) (pos (by rw [ByteArray.size_append, zb]; omega) (ret _)))
  rw [if_neg h]
  refine both (fun h => ?_) (fun h => ?_)
  · rw [if_pos h]
    exact Ev.bind (spec_bulkR _ ht) (ret _)
  rw [if_neg h]
  refine both (fun h => ?_) (fun h => ?_)
  · rw [if_pos h]
    exact ret _
  rw [if_neg h]
  refine both (fun h => ?_) (fun h => ?_)
  · rw [if_pos h]
    refine Ev.bind (dec_nat _ (by omega)) (pos (by omega) (pos (by rw [ByteArray.size_append, zb]; omega) ?_))
    exact spec_l0R _ _ _ _ x.f3 hl hs x.f3.length 0 _ (by omega) (by simp only [ByteArray.size_append, zb, zc]; omega)
  rw [if_neg h]
  exact neg h6 (ret _)
/-- Bytes that end a line. -/
def Ends (s : ByteArray) : Prop := ∃ t, s.data.toList = t ++ [13, 10]
theorem app_data (a b : ByteArray) : (a ++ b).data.toList = a.data.toList ++ b.data.toList := by simp
theorem ends_app (a : ByteArray) : Ends (a ++ (⟨#[13, 10]⟩ : ByteArray)) := ⟨a.data.toList, app_data _ _⟩
theorem Ends.app {b : ByteArray} (a : ByteArray) (h : Ends b) : Ends (a ++ b) := by
  obtain ⟨t, h⟩ := h
  exact ⟨a.data.toList ++ t, by rw [app_data, h, List.append_assoc]⟩
theorem oR_facts (l : List ByteArray) : ∀ x, Ends x → 4 ≤ x.size → (∀ s ∈ l, s.size ≤ 90) → Ends (oR x l) ∧ x.size ≤ (oR x l).size ∧ (oR x l).size ≤ x.size + 105 * l.length := by
  induction l with
  | nil => intro x hx h4 _; exact ⟨hx, Nat.le_refl _, by simp [oR]⟩
  | cons s r ih =>
    intro x hx h4 hs
    have hb := bR_size s (hs s (by simp))
    obtain ⟨i1, i2, i3⟩ := ih (x ++ bR s) (Ends.app x (ends_app _)) (by rw [ByteArray.size_append]; omega) (fun s h => hs s (by simp [h]))
    rw [ByteArray.size_append] at i2 i3
    rw [oR]
    refine ⟨i1, by omega, ?_⟩
    rw [List.length_cons]
    omega
theorem leaf_facts (x : S31) (hx : Leaf x) : Ends (leafM x) ∧ 4 ≤ (leafM x).size ∧ (leafM x).size ≤ 1000 := by
  obtain ⟨h6, ⟨n0, n1⟩, ht, hl, hs, h1⟩ := hx
  have hi := iS_size x.f1 n0 n1
  have hd := dS_size x.f3.length (by omega)
  unfold leafM
  split
  · rename_i h
    have := h1 h
    refine ⟨ends_app _, ?_, ?_⟩ <;> (simp only [ByteArray.size_append, zb, zc]; omega)
  split
  · refine ⟨ends_app _, ?_, ?_⟩ <;> (simp only [ByteArray.size_append, zb, zc]; omega)
  split
  · have := bR_size _ ht
    exact ⟨ends_app _, by omega, by omega⟩
  split
  · exact ⟨⟨[36, 45, 49], rfl⟩, by decide, by decide⟩
  split
  · obtain ⟨a, b, c⟩ := oR_facts x.f3 _ (ends_app ((⟨#[42]⟩ : ByteArray) ++ dS x.f3.length)) (by simp only [ByteArray.size_append, zb, zc]; omega) hs
    simp only [ByteArray.size_append, zb, zc] at b c
    exact ⟨a, by omega, by omega⟩
  · exact ⟨⟨[43, 79, 75], rfl⟩, by decide, by decide⟩
def mR : ByteArray → List S31 → ByteArray
  | x, [] => x
  | x, y :: r => mR (x ++ leafM y) r
theorem mR_app (l : List S31) : ∀ a x, mR (a ++ x) l = a ++ mR x l := by
  induction l with
  | nil => intro a x; rfl
  | cons y r ih => intro a x; rw [mR, mR, ByteArray.append_assoc, ih]
theorem mR_facts (l : List S31) (h : ∀ y ∈ l, Leaf y) : ∀ x, Ends x → Ends (mR x l) := by
  induction l with
  | nil => intro x hx; exact hx
  | cons y r ih => intro x hx; exact ih (fun z hz => h z (by simp [hz])) _ (Ends.app x (leaf_facts y (h y (by simp))).1)
theorem mR_size (l : List S31) (h : ∀ y ∈ l, Leaf y) : ∀ x, x.size ≤ (mR x l).size ∧ (mR x l).size ≤ x.size + 1000 * l.length := by
  induction l with
  | nil => intro x; exact ⟨Nat.le_refl _, by simp [mR]⟩
  | cons y r ih =>
    intro x
    obtain ⟨a, b, c⟩ := leaf_facts y (h y (by simp))
    obtain ⟨i1, i2⟩ := ih (fun z hz => h z (by simp [hz])) (x ++ leafM y)
    rw [ByteArray.size_append] at i1 i2
    rw [mR, List.length_cons]
    omega
theorem rd31 (l : List S31) (i : Nat) (h : i < l.length) : rd_T31 l (i : Int) = l[i] := by
  simp [rd_T31, List.getD_eq_getElem?_getD, h]
theorem impl_l1R (l : List S31) (hl : l.length ≤ 8) (hs : ∀ y ∈ l, Leaf y) (d : Nat) : ∀ (i : Nat) (x : ByteArray), i + d = l.length → x.size ≤ 1000 + 1000 * i → Ev (fun k => impl_ReplyPut.l1 k x l (l.length : Int) (i : Int)) (mR x (l.drop i)) := by
  induction d with
  | zero =>
    intro i x hi hx
    refine Ev.step (g := fun k => impl_ReplyPut.l1 k _ _ _ _) (fun k => by rw [impl_ReplyPut.l1]) (neg (by omega) (ret' ?_))
    rw [List.drop_of_length_le (by omega), mR]
  | succ d ih =>
    intro i x hi hx
    have hlt : i < l.length := by omega
    have hL := hs _ (List.getElem_mem hlt)
    obtain ⟨_, b1, b2⟩ := leaf_facts _ hL
    refine Ev.step (g := fun k => impl_ReplyPut.l1 k _ _ _ _) (fun k => by rw [impl_ReplyPut.l1]) (pos (by omega) (pos (by omega) (pos (by omega) ?_)))
    rw [rd31 _ _ hlt, wrap_id (x := (i : Int) + 1) (by omega) (by omega), List.drop_eq_getElem_cons hlt, mR]
    exact Ev.bind (impl_leaf _ hL) (pos (by omega) (ih (i + 1) _ (by omega) (by rw [ByteArray.size_append]; omega)))
theorem spec_l1R (a b : Int) (t : ByteArray) (m : List ByteArray) (l : List S31) (hl : l.length ≤ 8) (hs : ∀ y ∈ l, Leaf y) (d : Nat) : ∀ (i : Nat) (x : ByteArray), i + d = l.length → x.size ≤ 1000 + 1000 * i → Ev (fun k => spec_ReplyPut.l1 k x (i : Int) a b t m l) (mR x (l.drop i)) := by
  induction d with
  | zero =>
    intro i x hi hx
    refine Ev.step (g := fun k => spec_ReplyPut.l1 k _ _ _ _ _ _ _) (fun k => by rw [spec_ReplyPut.l1]) (neg (by omega) (ret' ?_))
    rw [List.drop_of_length_le (by omega), mR]
  | succ d ih =>
    intro i x hi hx
    have hlt : i < l.length := by omega
    have hL := hs _ (List.getElem_mem hlt)
    obtain ⟨_, b1, b2⟩ := leaf_facts _ hL
    refine Ev.step (g := fun k => spec_ReplyPut.l1 k _ _ _ _ _ _ _) (fun k => by rw [spec_ReplyPut.l1]) (pos (by omega) (pos (by omega) ?_))
    rw [rd31 _ _ hlt, wrap_id (x := (i : Int) + 1) (by omega) (by omega), List.drop_eq_getElem_cons hlt, mR]
    exact Ev.bind (spec_leaf _ hL) (pos (by omega) (ih (i + 1) _ (by omega) (by rw [ByteArray.size_append]; omega)))
/-- A reply of replies. -/
def headM (l : List S31) : ByteArray := ((⟨#[42]⟩ : ByteArray) ++ dS l.length) ++ (⟨#[13, 10]⟩ : ByteArray)
theorem impl_many (a : Int) (t : ByteArray) (m : List ByteArray) (l : List S31) (hl : l.length ≤ 8) (hs : ∀ y ∈ l, Leaf y) : Ev (fun k => impl_ReplyPut.f k 6 a t m l) (mR (headM l) l) := by
  have hd := dS_size l.length (by omega)
  refine Ev.step (g := fun k => impl_ReplyPut.f k _ _ _ _ _) (fun k => by rw [impl_ReplyPut.f]) (neg (by decide) (neg (by decide) (neg (by decide) (neg (by decide) (neg (by decide) (pos rfl ?_))))))
  refine Ev.bind (val (itoa_nat _ (by omega))) (pos (by omega) (pos (by rw [ByteArray.size_append, zb]; omega) ?_))
  exact impl_l1R l hl hs l.length 0 _ (by omega) (by simp only [ByteArray.size_append, zb, zc]; omega)
theorem spec_many (a : Int) (t : ByteArray) (m : List ByteArray) (l : List S31) (hl : l.length ≤ 8) (hs : ∀ y ∈ l, Leaf y) : Ev (fun k => spec_ReplyPut.f k 6 a t m l) (mR (headM l) l) := by
  have hd := dS_size l.length (by omega)
  refine Ev.step (g := fun k => spec_ReplyPut.f k _ _ _ _ _) (fun k => by rw [spec_ReplyPut.f]) (neg (by decide) (neg (by decide) (neg (by decide) (neg (by decide) (neg (by decide) (pos rfl ?_))))))
  refine Ev.bind (dec_nat _ (by omega)) (pos (by omega) (pos (by rw [ByteArray.size_append, zb]; omega) ?_))
  exact spec_l1R _ _ _ _ l hl hs l.length 0 _ (by omega) (by simp only [ByteArray.size_append, zb, zc]; omega)


end Go.Proofs.YtegelpeegbngiaaDoor.Q
/- Plain law: of a drawn reply both sides write the same, it ends a line, and a reply of replies ends with these. -/
namespace Go.Proofs.YtegelpeegbngiaaDoor.Q
open Go.RowKit Go.Proofs.YtegelpeegbngiaaDoorW.PrintWords Go.Proofs.YtegelpeegbngiaaDoorW.PrintLast Go.Proofs.YtegelpeegbngiaaDoor.P

theorem leaf_mk (a b : Int) (s : ByteArray) (l : List ByteArray) (m : List S31) (h6 : a ≠ 6) (hb : -1000000000 ≤ b ∧ b ≤ 1000000000) (hs : s.size ≤ 90) (hl : l.length ≤ 8) (hm : ∀ s ∈ l, s.size ≤ 90) (h1 : a = 1 → 1 ≤ s.size) : Leaf ⟨a, b, s, l, m⟩ := ⟨h6, hb, hs, hl, hm, h1⟩
theorem l11Reply_ev (c : List Int) (hc : Code c) (p : Int) (h0 : 0 ≤ p) (h1 : p ≤ 800000) : ∃ (x : S31) (q : Int), Ev (fun k => spec_l11Reply.f k c p) (x.f0, x.f1, x.f2, x.f3, x.f4, q) ∧ Leaf x ∧ p ≤ q ∧ q ≤ p + 10 := by
  obtain ⟨v, hv, v0, v1⟩ := pick_ev c hc p 7 h0 (by omega) (by omega) (by omega)
  unfold spec_l11Reply.f
  have z0 : (⟨#[]⟩ : ByteArray).size = 0 := rfl
  by_cases e0 : v = 0
  · exact ⟨⟨0, 0, ⟨#[]⟩, [], []⟩, p + 1, Ev.bind hv (pos e0 (ret _)), leaf_mk _ _ _ _ _ (by decide) (by decide) (by rw [z0]; omega) (by simp) (by simp) (by decide), by omega, by omega⟩
  by_cases e1 : v = 1
  · obtain ⟨s, hs, hmem⟩ := of_ev c hc (p + 1) (([(⟨#[107, 105, 110, 100]⟩ : ByteArray), (⟨#[110, 111, 110, 101]⟩ : ByteArray)] : List ByteArray)) (by omega) (by omega) (by simp) (by simp)
    have hz : s.size = 4 := by
      simp only [List.mem_cons, List.not_mem_nil, or_false] at hmem
      rcases hmem with rfl | rfl <;> rfl
    exact ⟨⟨1, 0, s, [], []⟩, p + 1 + 1, Ev.bind hv (neg e0 (pos e1 (Ev.bind hs (Ev.bind (val (show spec_l5Err.f s = _ from rfl)) (ret _))))), leaf_mk _ _ _ _ _ (by decide) (by decide) (by omega) (by simp) (by simp) (fun _ => by omega), by omega, by omega⟩
  by_cases e2 : v = 2
  · obtain ⟨s, hs, hmem⟩ := one_ev c hc (p + 1) (([0, (-5), 42, 1000000000] : List Int)) (by omega) (by omega) (by simp) (by simp)
    have hz : -1000000000 ≤ s ∧ s ≤ 1000000000 := by
      simp only [List.mem_cons, List.not_mem_nil, or_false] at hmem
      omega
    exact ⟨⟨2, s, ⟨#[]⟩, [], []⟩, p + 1 + 1, Ev.bind hv (neg e0 (neg e1 (pos e2 (Ev.bind hs (Ev.bind (val (show spec_l5Int.f s = _ from rfl)) (ret _)))))), leaf_mk _ _ _ _ _ (by decide) hz (by rw [z0]; omega) (by simp) (by simp) (by decide), by omega, by omega⟩
  by_cases e3 : v = 3
  · obtain ⟨s, hs, hz⟩ := l11Text_ev c hc (p + 1) (by omega) (by omega)
    exact ⟨⟨3, 0, s, [], []⟩, p + 1 + 1, Ev.bind hv (neg e0 (neg e1 (neg e2 (pos e3 (Ev.bind hs (Ev.bind (val (show spec_l5Text.f s = _ from rfl)) (ret _))))))), leaf_mk _ _ _ _ _ (by decide) (by decide) (by omega) (by simp) (by simp) (fun h => absurd h (by decide)), by omega, by omega⟩
  by_cases e4 : v = 4
  · exact ⟨⟨4, 0, ⟨#[]⟩, [], []⟩, p + 1, Ev.bind hv (neg e0 (neg e1 (neg e2 (neg e3 (pos e4 (Ev.bind (val (show spec_l5None.f = _ from rfl)) (ret _))))))), leaf_mk _ _ _ _ _ (by decide) (by decide) (by rw [z0]; omega) (by simp) (by simp) (by decide), by omega, by omega⟩
  by_cases e5 : v = 5
  · obtain ⟨l, q, hl, hS, q0, q1⟩ := l11Texts_ev c hc (p + 1) 3 (by omega) (by omega) (by omega)
    have hS1 := hS.1
    exact ⟨⟨5, 0, ⟨#[]⟩, l, []⟩, q, Ev.bind hv (neg e0 (neg e1 (neg e2 (neg e3 (neg e4 (pos e5 (Ev.bind hl (Ev.bind (val (show spec_l5Texts.f l = _ from rfl)) (ret _))))))))), leaf_mk _ _ _ _ _ (by decide) (by decide) (by rw [z0]; omega) (by omega) (fun s hs => by have := hS.2 s hs; omega) (by decide), by omega, by omega⟩
  · obtain ⟨s, hs, hmem⟩ := one_ev c hc (p + 1) (([(-1), 9] : List Int)) (by omega) (by omega) (by simp) (by simp)
    have hz : s = -1 ∨ s = 9 := by
      simpa only [List.mem_cons, List.not_mem_nil, or_false] using hmem
    exact ⟨⟨s, 0, ⟨#[]⟩, [], []⟩, p + 1 + 1, Ev.bind hv (neg e0 (neg e1 (neg e2 (neg e3 (neg e4 (neg e5 (Ev.bind hs (ret _)))))))), leaf_mk _ _ _ _ _ (by omega) (by decide) (by rw [z0]; omega) (by simp) (by simp) (fun h => by omega), by omega, by omega⟩
/-- What a drawn reply is: one by itself, or two under one. -/
theorem DrawReplyPut_ev (l : List Int) (hl : l.length ≤ maxLen) (hb : ∀ x ∈ l, (Lit.int .u8 x).wf = true) :
    (∃ x : S31, Ev (fun k => spec_DrawReplyPut.f k l) (x.f0, x.f1, x.f2, x.f3, x.f4) ∧ Leaf x) ∨
    (∃ x y : S31, Ev (fun k => spec_DrawReplyPut.f k l) (6, 0, (⟨#[]⟩ : ByteArray), [], [x, y]) ∧ Leaf x ∧ Leaf y) := by
  obtain ⟨c, hc, hC⟩ := l1Open_ev l hl hb
  obtain ⟨x, p, hx, hX, p0, p1⟩ := l11Reply_ev c hC 0 (by omega) (by omega)
  obtain ⟨v, hv, v0, v1⟩ := pick_ev c hC p 4 (by omega) (by omega) (by omega) (by omega)
  unfold spec_DrawReplyPut.f
  by_cases e : v = 0
  · obtain ⟨y, q, hy, hY, q0, q1⟩ := l11Reply_ev c hC (p + 1) (by omega) (by omega)
    exact .inr ⟨x, y, Ev.bind hc (Ev.bind hx (Ev.bind hv (pos e (Ev.bind hy (ret' (by cases x; cases y; rfl)))))), hX, hY⟩
  · exact .inl ⟨x, Ev.bind hc (Ev.bind hx (Ev.bind hv (neg e (ret _)))), hX⟩
theorem cut_end (s : ByteArray) (t : List UInt8) (n : Nat) (pre : List UInt8) (h : s.data.toList = pre ++ t) (hn : n = pre.length) : (s.extract n s.size).toList = t := by
  rw [ByteArray.toList_eq, Go.Lib.extract_to_end, h, hn, List.drop_left]
theorem all_l0 (a b : Int) (u : ByteArray) (m : List ByteArray) (l : List S31) (hl : l.length ≤ 8) (hs : ∀ y ∈ l, Leaf y) (s : ByteArray) (n : Int) (r : Bool) (hr : Ev (fun k => laws_FnReplyPut.l0 k s n (mR (⟨#[]⟩ : ByteArray) l) (l.length : Int) a b u m l) r) (d : Nat) :
    ∀ (i : Nat) (x : ByteArray), i + d = l.length → x.size ≤ 1000 * i → mR x (l.drop i) = mR (⟨#[]⟩ : ByteArray) l → Ev (fun k => laws_FnReplyPut.l0 k s n x (i : Int) a b u m l) r := by
  induction d with
  | zero =>
    intro i x hi hx he
    rw [List.drop_of_length_le (by omega), mR] at he
    rw [he, show (i : Int) = (l.length : Int) by omega]
    exact hr
  | succ d ih =>
    intro i x hi hx he
    have hlt : i < l.length := by omega
    have hL := hs _ (List.getElem_mem hlt)
    obtain ⟨_, b1, b2⟩ := leaf_facts _ hL
    rw [List.drop_eq_getElem_cons hlt, mR] at he
    refine Ev.step (g := fun k => laws_FnReplyPut.l0 k _ _ _ _ _ _ _ _ _) (fun k => by rw [laws_FnReplyPut.l0]) (pos (by omega) (pos (by omega) ?_))
    rw [rd31 _ _ hlt, wrap_id (x := (i : Int) + 1) (by omega) (by omega)]
    exact Ev.bind (impl_leaf _ hL) (pos (by omega) (ih (i + 1) _ (by omega) (by rw [ByteArray.size_append]; omega) he))
theorem FnReplyPut_pure (l : List Int) (hl : l.length ≤ maxLen) (hb : ∀ x ∈ l, (Lit.int .u8 x).wf = true) : ∃ k, laws_FnReplyPut.f k l = some true := by
  refine exists_of (r := true) ?_
  unfold laws_FnReplyPut.f
  refine both (fun _ => ret _) (fun _ => ?_)
  have tail : ∀ (R : ByteArray) (a b : Int) (u : ByteArray) (m : List ByteArray) (z : List S31), Ends R → 4 ≤ R.size → R.size ≤ 1000000 → Ev (fun k => laws_FnReplyPut.j0 k R (R.size : Int) false a b u m z) true →
      Ev (fun k => (if R.toList = R.toList then (if (R.size : Int) < 4 then (laws_FnReplyPut.j0 k R (R.size : Int) true a b u m z) else (if 0 ≤ (wrap64 ((R.size : Int) - 2)) then (if (wrap64 ((R.size : Int) - 2)) ≤ (R.size : Int) then (laws_FnReplyPut.j0 k R (R.size : Int) ((R.extract ((wrap64 ((R.size : Int) - 2)) : Int).toNat R.size).toList != ([13, 10] : List UInt8)) a b u m z) else (none)) else (none))) else (laws_FnReplyPut.j0 k R (R.size : Int) true a b u m z))) true := by
    intro R a b u m z hE h4 hz hJ
    obtain ⟨t, ht⟩ := hE
    have hlen : R.size = t.length + 2 := by
      have : R.data.toList.length = R.size := rfl
      rw [ht] at this
      simp at this
      omega
    have e2 : wrap64 ((R.size : Int) - 2) = ((R.size - 2 : Nat) : Int) := by rw [wrap_id (by omega) (by omega)]; omega
    rw [e2, Int.toNat_natCast, cut_end R [13, 10] (R.size - 2) t ht (by omega)]
    exact pos rfl (neg (by omega) (pos (by omega) (pos (by omega) hJ)))
  rcases DrawReplyPut_ev l hl hb with ⟨x, hD, hX⟩ | ⟨x, y, hD, hX, hY⟩
  · obtain ⟨f1, f2, f3⟩ := leaf_facts x hX
    refine Ev.bind hD (Ev.bind (impl_leaf x hX) (Ev.bind (spec_leaf x hX) (tail (leafM x) _ _ _ _ _ f1 f2 (by omega) ?_)))
    exact Ev.step (g := fun k => laws_FnReplyPut.j0 k _ _ _ _ _ _ _ _) (fun k => by rw [laws_FnReplyPut.j0]) (neg (by decide) (neg hX.1 (ret _)))
  · have hs : ∀ z ∈ [x, y], Leaf z := by
      intro z hz
      rcases List.mem_cons.1 hz with rfl | hz
      · exact hX
      · rw [List.mem_singleton.1 hz]; exact hY
    have hd := dS_size [x, y].length (by simp)
    have hH : (headM [x, y]).size = 3 + (dS [x, y].length).size := by
      unfold headM
      simp only [ByteArray.size_append, zb, zc]
      omega
    have hsz := mR_size [x, y] hs (headM [x, y])
    have hE : Ends (mR (headM [x, y]) [x, y]) := mR_facts _ hs _ (ends_app _)
    have hA := mR_size [x, y] hs (⟨#[]⟩ : ByteArray)
    have hsplit : mR (headM [x, y]) [x, y] = headM [x, y] ++ mR (⟨#[]⟩ : ByteArray) [x, y] := by
      have := mR_app [x, y] (headM [x, y]) (⟨#[]⟩ : ByteArray)
      rwa [show headM [x, y] ++ (⟨#[]⟩ : ByteArray) = headM [x, y] from ByteArray.append_empty] at this
    have hl2 : ([x, y] : List S31).length = 2 := rfl
    have z0 : (⟨#[]⟩ : ByteArray).size = 0 := rfl
    refine Ev.bind hD (Ev.bind (impl_many _ _ _ _ (by simp) hs) (Ev.bind (spec_many _ _ _ _ (by simp) hs) (tail (mR (headM [x, y]) [x, y]) _ _ _ _ _ hE (by omega) (by omega) ?_)))
    refine Ev.step (g := fun k => laws_FnReplyPut.j0 k _ _ _ _ _ _ _ _) (fun k => by rw [laws_FnReplyPut.j0]) (neg (by decide) (pos rfl ?_))
    refine all_l0 _ _ _ _ [x, y] (by simp) hs _ _ true ?_ 2 0 (⟨#[]⟩ : ByteArray) rfl (by decide) rfl
    generalize hR : mR (headM [x, y]) [x, y] = R at hsz hE hsplit ⊢
    generalize hB : mR (⟨#[]⟩ : ByteArray) [x, y] = B at hA hsplit ⊢
    have hRB : R.size = (headM [x, y]).size + B.size := by rw [hsplit, ByteArray.size_append]
    refine Ev.step (g := fun k => laws_FnReplyPut.l0 k _ _ _ _ _ _ _ _ _) (fun k => by rw [laws_FnReplyPut.l0]) (neg (by omega) (pos (by omega) ?_))
    have e2 : wrap64 ((R.size : Int) - (B.size : Int)) = ((headM [x, y]).size : Int) := by rw [wrap_id (by omega) (by omega)]; omega
    have hcut : (R.extract (headM [x, y]).size R.size).toList = B.toList := by
      rw [cut_end R B.data.toList (headM [x, y]).size (headM [x, y]).data.toList (by rw [hsplit, app_data]) rfl, ByteArray.toList_eq]
    rw [e2, Int.toNat_natCast]
    refine pos (by omega) (pos (by omega) (pos hcut (pos (by omega) (ret' ?_))))
    have hd0 : R.data.toList.head? = some 42 := by
      rw [hsplit, app_data, headM, app_data, app_data]
      rfl
    have hb0 : bt R 0 = 42 := by
      have hpos : 0 < R.size := by omega
      unfold bt
      rw [dif_pos (show (0 : Int).toNat < R.size from hpos)]
      have : R.data.toList.head? = some (R.data.toList[0]'hpos) := by rw [List.head?_eq_getElem?, List.getElem?_eq_getElem]
      rw [hd0] at this
      have h42 : (42 : UInt8) = R.data.toList[0]'hpos := Option.some.inj this
      show ((R.data.toList[0]'hpos).toNat : Int) = 42
      rw [← h42]
      rfl
    rw [hb0]
    rfl


end Go.Proofs.YtegelpeegbngiaaDoor.Q
