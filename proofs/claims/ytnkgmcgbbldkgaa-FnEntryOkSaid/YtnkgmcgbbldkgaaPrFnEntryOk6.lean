import Derived.Test.YtnkgmcgbbldkgaaPrFnEntryOk5
import Derived.ProofKit
import Derived.SizedLaws
/- Texts of this claim, one behind the other: words on worlds and rows, printed functions and their walks, plain lemmas. -/
namespace Go.Proofs.Ytnkgmcgbbldkgaa.P
open Go.RowKit Go.Proofs.YtnkgmcgbbldkgaaW.PrintWords Go.Proofs.YtnkgmcgbbldkgaaW.PrintLast Go.Proofs.YtnkgmcgbbldkgaaW.PrintMore
attribute [local go_sem] max2_int min2_int max_two min_two max_three min_three max_four min_four   -- for this text's walks alone
set_option linter.unusedVariables false
set_option linter.unusedSimpArgs false
set_option maxHeartbeats 8000000 in
set_option maxRecDepth 100000 in
theorem laws_FnEntryOk.calls_t (k : Nat) (A0 : Option Addr) (c0 : Nat) (l0 : List Int) (r : Bool) (w : World) (hr0 : Kd.C (Kd.int .u8) w A0 l0.length l0) (hc0 : l0.length ≤ c0) (h : laws_FnEntryOk.f k l0 = some r) (hr_ : r = true) :
 Calls Try.prog 4 #[.slice A0 l0.length c0] w fun e w' => e = .returned (.bool r) ∧ Below w.heap.size w w' := by
 have hu32 := Try.underlying32
 have HR0 := zq9 hr0
 have HC0 := zq9 hc0
 clear hr0 hc0
 have HB := zq9 (Below.refl w.heap.size w)
 have H : (if (l0.length : Int) > 1048576 then (some true) else ((spec_DrawEntryOk.f k l0).bind fun bt620 => ((impl_EntryOk.f k bt620.1 bt620.2.1 bt620.2.2.1 bt620.2.2.2.1 bt620.2.2.2.2.1 bt620.2.2.2.2.2.1 bt620.2.2.2.2.2.2).bind fun t634 => ((spec_EntryOk.f k bt620.1 bt620.2.1 bt620.2.2.1 bt620.2.2.2.1 bt620.2.2.2.2.1 bt620.2.2.2.2.2.1 bt620.2.2.2.2.2.2).bind fun t635 => (if (t634 != t635) = true then (laws_FnEntryOk.j0 k t634 true bt620.1 bt620.2.1 bt620.2.2.1 bt620.2.2.2.1 bt620.2.2.2.2.1 bt620.2.2.2.2.2.1 bt620.2.2.2.2.2.2) else (laws_FnEntryOk.j0 k t634 (!t634) bt620.1 bt620.2.1 bt620.2.2.1 bt620.2.2.2.1 bt620.2.2.2.2.1 bt620.2.2.2.2.2.1 bt620.2.2.2.2.2.2)))))) = some r := h
 clear h
 by_cases c2 : (l0.length : Int) > 1048576
 ·rw [if_pos c2] at H
  have c2b0 : decide (1048576 < (l0.length : Int)) = true := decide_eq_true c2
  have c2b1 : decide (1048576 < l0.length) = true := decide_eq_true (by omega)
  clear c2
  obtain rfl := Option.some.inj H
  go_enter Try.func4, Try.ntmps4
  go_wp2
  go_ret
  exact fz (by exact bl HB)
 ·rw [if_neg c2] at H
  have c2b0 : decide (1048576 < (l0.length : Int)) = false := decide_eq_false c2
  have c2b1 : decide (1048576 < l0.length) = false := decide_eq_false (by omega)
  clear c2
  replace H := Option.bind_eq_some_iff.mp H
  obtain ⟨⟨t620, t621, t622, t623, t624, t627, t630⟩, A30, H⟩ := H
  try dsimp only at H
  have A3 := zq9 A30
  clear A30
  replace H := Option.bind_eq_some_iff.mp H
  obtain ⟨t634, A40, H⟩ := H
  try dsimp only at H
  have A4 := zq9 A40
  clear A40
  have HC5 := zq9 H
  clear H
  go_enter Try.func4, Try.ntmps4
  go_upto_region 5 with (first | ((with_reducible refine zq24 (f := 15) rfl ?_); refine gl (some 11) Try.func15 #[.slice A0 l0.length c0] ?_; (with_reducible refine (spec_DrawEntryOk.calls k _ _ l0 t620 t621 t622 t623 t624 t627 t630 _ ?side1 ?side2 A3.out).mono ?_); (case side1 => repeat (first | exact HR0.out | (with_reducible refine zq18 ?_ _) | (with_reducible refine zq19 ?_ _) | (with_reducible refine zq20 ?_))); (case side2 => exact HC0.out); rintro e w6 ⟨v625, v628, v631, rfl, ho0, ho1, ho2, hb⟩; refine ⟨_, rfl, ?_⟩; have n0_ := zq9 (Kd.V_lower (Kd.V_mono (ok' := fun k_ => some k_ ≠ (v628 : Value).ownBlock ∧ some k_ ≠ (v631 : Value).ownBlock) ho0 (fun k_ hk_ => ⟨hk_.2.1, hk_.2.2⟩)) (zq29 (by exact bl HB))); have n1_ := zq9 (Kd.R_lower (Kd.R_mono (ok' := fun k_ => True) ho1 (fun _ hk_ => trivial)) (zq29 (by exact bl HB))); have n2_ := zq9 (Kd.R_lower (Kd.R_mono (ok' := fun k_ => True) ho2 (fun _ hk_ => trivial)) (zq29 (by exact bl HB))); have n3_ := zq9 (zq27 (by exact bl HB) hb); clear HB; have HO626 := n0_; have HO629 := n1_; have HO632 := n2_; have HB := n3_; clear n0_ n1_ n2_ n3_; (try clear hb); (try clear hb2); (try clear hk); (try clear hi); (try clear ho0); (try clear ho1); (try clear ho2)) | ((with_reducible refine zq25 (N := 3) rfl ?_); (try (refine gate_guard (by rfl) ?_; dsimp only)); refine bx 3 #[.string (⟨#[]⟩ : ByteArray), .int .i64 0, .int .i64 0, .string (⟨#[]⟩ : ByteArray), .slice none 0 0, .slice none 0 0, .slice none 0 0] 32 ?_; intro gb633 hg w7 hbox hb; have n0_ := zq9 (Kd.V_below (Kd.V_elderB (by exact vz HO626) gb633 (Nat.le_of_eq hg.symm)) hb); have n1_ := zq9 (Kd.R_below (by exact rz HO629) hb); have n2_ := zq9 (Kd.R_below (by exact rz HO632) hb); have n3_ := zq9 (zq27 (by exact bl HB) hb); have n4_ := zq9 (hbox); have n5_ := zq9 ((by rw [hg]; exact (zq29 (by exact bl HB)) : w.heap.size ≤ gb633)); have n6_ := n5_; clear HO626; clear HO629; clear HO632; clear HB; have HO626 := n0_; have HO629 := n1_; have HO632 := n2_; have HB := n3_; have BK633 := n4_; have GW633 := n5_; have GE633 := n6_; clear n0_ n1_ n2_ n3_ n4_ n5_ n6_; clear hb hbox hg; have hcz8_0 : w7.cell? ⟨gb633, 0, none⟩ = some (.string (⟨#[]⟩ : ByteArray)) := bc BK633 0; have hcz8_1 : w7.cell? ⟨gb633, 1, none⟩ = some (.int .i64 0) := bc BK633 1; have hcz8_2 : w7.cell? ⟨gb633, 2, none⟩ = some (.int .i64 0) := bc BK633 2; have hcz8_3 : w7.cell? ⟨gb633, 3, none⟩ = some (.string (⟨#[]⟩ : ByteArray)) := bc BK633 3; have hcz8_4 : w7.cell? ⟨gb633, 4, none⟩ = some (.slice none 0 0) := bc BK633 4; have hcz8_5 : w7.cell? ⟨gb633, 5, none⟩ = some (.slice none 0 0) := bc BK633 5; have hcz8_6 : w7.cell? ⟨gb633, 6, none⟩ = some (.slice none 0 0) := bc BK633 6; have hfz8_0 := zq6 BK633.out 0; have hfz8_1 := zq6 BK633.out 1; have hfz8_2 := zq6 BK633.out 2; have hfz8_3 := zq6 BK633.out 3; have hfz8_4 := zq6 BK633.out 4; have hfz8_5 := zq6 BK633.out 5; have hfz8_6 := zq6 BK633.out 6; obtain ⟨Ao9, co9, eo9⟩ := Kd.V_slice HO626.out; subst eo9; obtain ⟨Ao10, co10, eo10⟩ := Kd.R_slice HO629.out; subst eo10; obtain ⟨Ao11, co11, eo11⟩ := Kd.R_slice HO632.out; subst eo11) | ((with_reducible refine zq24 (f := 13) rfl ?_); refine gl (some 13) Try.func13 #[.agg #[.string t620, .int .i64 t621, .int .i64 t622, .string t623, .slice Ao9 t624.length co9, .slice Ao10 t627.length co10, .slice Ao11 t630.length co11]] ?_; (with_reducible refine (impl_EntryOk.calls k t620 t621 t622 t623 _ _ t624 _ _ t627 _ _ t630 t634 _ ?side1 ?side2 ?side3 ?side4 ?side5 ?side6 A4.out).mono ?_); (case side1 => refine (Kd.V_reads' (e := 9) (base := w.heap.size) (ok := fun k_ => ((some k_ ≠ (.slice Ao10 t627.length co10 : Value).ownBlock ∧ some k_ ≠ (.slice Ao11 t630.length co11 : Value).ownBlock) ∧ k_ ≠ gb633)) (n := t624.length) (c := co9) ?_).2.2; exact (by (with_reducible repeat (first | apply zq21 | apply zq22 | apply zq23)); exact (Kd.V_mono (Kd.V_far (p := ⟨gb633, 6, none⟩) (Kd.V_far (p := ⟨gb633, 5, none⟩) (Kd.V_far (p := ⟨gb633, 4, none⟩) (Kd.V_far (p := ⟨gb633, 3, none⟩) (Kd.V_far (p := ⟨gb633, 2, none⟩) (Kd.V_far (p := ⟨gb633, 1, none⟩) (Kd.V_far (p := ⟨gb633, 0, none⟩) (Kd.V_mono HO626.out (fun k_ hk => (⟨hk, by first | exact hk.2 | exact hk | exact hk.1⟩ : _ ∧ k_ ≠ gb633))) (fun _ hk => hk.2) (.string t620)) (fun _ hk => hk.2) (.int .i64 t621)) (fun _ hk => hk.2) (.int .i64 t622)) (fun _ hk => hk.2) (.string t623)) (fun _ hk => hk.2) (.slice Ao9 t624.length co9)) (fun _ hk => hk.2) (.slice Ao10 t627.length co10)) (fun _ hk => hk.2) (.slice Ao11 t630.length co11)) (fun _ h_ => h_.1)))); (case side2 => exact (Kd.V_reads' HO626.out).2.1); (case side3 => refine (Kd.R_reads' (e := 99) (base := w.heap.size) (ok := fun k_ => True) (n := t627.length) (c := co10) ?_).2.2; exact (by (with_reducible repeat (first | apply zq10 | apply zq11 | apply zq12)); exact (Kd.R_mono (Kd.R_far (p := ⟨gb633, 6, none⟩) (Kd.R_far (p := ⟨gb633, 5, none⟩) (Kd.R_far (p := ⟨gb633, 4, none⟩) (Kd.R_far (p := ⟨gb633, 3, none⟩) (Kd.R_far (p := ⟨gb633, 2, none⟩) (Kd.R_far (p := ⟨gb633, 1, none⟩) (Kd.R_far (p := ⟨gb633, 0, none⟩) (Kd.R_types HO629.out BK633.out (by decide)) (fun _ hk => hk.2) (.string t620)) (fun _ hk => hk.2) (.int .i64 t621)) (fun _ hk => hk.2) (.int .i64 t622)) (fun _ hk => hk.2) (.string t623)) (fun _ hk => hk.2) (.slice Ao9 t624.length co9)) (fun _ hk => hk.2) (.slice Ao10 t627.length co10)) (fun _ hk => hk.2) (.slice Ao11 t630.length co11)) (fun _ h_ => h_.1)))); (case side4 => exact (Kd.R_reads' HO629.out).2.1); (case side5 => refine (Kd.R_reads' (e := 101) (base := w.heap.size) (ok := fun k_ => True) (n := t630.length) (c := co11) ?_).2.2; exact (by (with_reducible repeat (first | apply zq10 | apply zq11 | apply zq12)); exact (Kd.R_mono (Kd.R_far (p := ⟨gb633, 6, none⟩) (Kd.R_far (p := ⟨gb633, 5, none⟩) (Kd.R_far (p := ⟨gb633, 4, none⟩) (Kd.R_far (p := ⟨gb633, 3, none⟩) (Kd.R_far (p := ⟨gb633, 2, none⟩) (Kd.R_far (p := ⟨gb633, 1, none⟩) (Kd.R_far (p := ⟨gb633, 0, none⟩) (Kd.R_types HO632.out BK633.out (by decide)) (fun _ hk => hk.2) (.string t620)) (fun _ hk => hk.2) (.int .i64 t621)) (fun _ hk => hk.2) (.int .i64 t622)) (fun _ hk => hk.2) (.string t623)) (fun _ hk => hk.2) (.slice Ao9 t624.length co9)) (fun _ hk => hk.2) (.slice Ao10 t627.length co10)) (fun _ hk => hk.2) (.slice Ao11 t630.length co11)) (fun _ h_ => h_.1)))); (case side6 => exact (Kd.R_reads' HO632.out).2.1); rintro e w12 ⟨rfl, hb⟩; refine ⟨_, rfl, ?_⟩; have n0_ := zq9 (Kd.V_below (by (with_reducible repeat (first | apply zq21 | apply zq22 | apply zq23)); exact (Kd.V_mono (Kd.V_far (p := ⟨gb633, 6, none⟩) (Kd.V_far (p := ⟨gb633, 5, none⟩) (Kd.V_far (p := ⟨gb633, 4, none⟩) (Kd.V_far (p := ⟨gb633, 3, none⟩) (Kd.V_far (p := ⟨gb633, 2, none⟩) (Kd.V_far (p := ⟨gb633, 1, none⟩) (Kd.V_far (p := ⟨gb633, 0, none⟩) (Kd.V_mono HO626.out (fun k_ hk => (⟨hk, by first | exact hk.2 | exact hk | exact hk.1⟩ : _ ∧ k_ ≠ gb633))) (fun _ hk => hk.2) (.string t620)) (fun _ hk => hk.2) (.int .i64 t621)) (fun _ hk => hk.2) (.int .i64 t622)) (fun _ hk => hk.2) (.string t623)) (fun _ hk => hk.2) (.slice Ao9 t624.length co9)) (fun _ hk => hk.2) (.slice Ao10 t627.length co10)) (fun _ hk => hk.2) (.slice Ao11 t630.length co11)) (fun _ h_ => h_.1))) hb); have n1_ := zq9 (Kd.R_below (by (with_reducible repeat (first | apply zq10 | apply zq11 | apply zq12)); exact (Kd.R_mono (Kd.R_far (p := ⟨gb633, 6, none⟩) (Kd.R_far (p := ⟨gb633, 5, none⟩) (Kd.R_far (p := ⟨gb633, 4, none⟩) (Kd.R_far (p := ⟨gb633, 3, none⟩) (Kd.R_far (p := ⟨gb633, 2, none⟩) (Kd.R_far (p := ⟨gb633, 1, none⟩) (Kd.R_far (p := ⟨gb633, 0, none⟩) (Kd.R_types HO629.out BK633.out (by decide)) (fun _ hk => hk.2) (.string t620)) (fun _ hk => hk.2) (.int .i64 t621)) (fun _ hk => hk.2) (.int .i64 t622)) (fun _ hk => hk.2) (.string t623)) (fun _ hk => hk.2) (.slice Ao9 t624.length co9)) (fun _ hk => hk.2) (.slice Ao10 t627.length co10)) (fun _ hk => hk.2) (.slice Ao11 t630.length co11)) (fun _ h_ => h_.1))) hb); have n2_ := zq9 (Kd.R_below (by (with_reducible repeat (first | apply zq10 | apply zq11 | apply zq12)); exact (Kd.R_mono (Kd.R_far (p := ⟨gb633, 6, none⟩) (Kd.R_far (p := ⟨gb633, 5, none⟩) (Kd.R_far (p := ⟨gb633, 4, none⟩) (Kd.R_far (p := ⟨gb633, 3, none⟩) (Kd.R_far (p := ⟨gb633, 2, none⟩) (Kd.R_far (p := ⟨gb633, 1, none⟩) (Kd.R_far (p := ⟨gb633, 0, none⟩) (Kd.R_types HO632.out BK633.out (by decide)) (fun _ hk => hk.2) (.string t620)) (fun _ hk => hk.2) (.int .i64 t621)) (fun _ hk => hk.2) (.int .i64 t622)) (fun _ hk => hk.2) (.string t623)) (fun _ hk => hk.2) (.slice Ao9 t624.length co9)) (fun _ hk => hk.2) (.slice Ao10 t627.length co10)) (fun _ hk => hk.2) (.slice Ao11 t630.length co11)) (fun _ h_ => h_.1))) hb); have n3_ := zq9 (zq30 (g := gb633) (o := .cells #[.string t620, .int .i64 t621, .int .i64 t622, .string t623, .slice Ao9 t624.length co9, .slice Ao10 t627.length co10, .slice Ao11 t630.length co11] 32 (0, 0)) (by refine bp ?_; refine blk_put (cs := #[.string t620, .int .i64 t621, .int .i64 t622, .string t623, .slice Ao9 t624.length co9, .slice Ao10 t627.length co10, .slice none 0 0]) ?_ 6 _ rfl; refine bp ?_; refine blk_put (cs := #[.string t620, .int .i64 t621, .int .i64 t622, .string t623, .slice Ao9 t624.length co9, .slice none 0 0, .slice none 0 0]) ?_ 5 _ rfl; refine bp ?_; refine blk_put (cs := #[.string t620, .int .i64 t621, .int .i64 t622, .string t623, .slice none 0 0, .slice none 0 0, .slice none 0 0]) ?_ 4 _ rfl; refine bp ?_; refine blk_put (cs := #[.string t620, .int .i64 t621, .int .i64 t622, .string (⟨#[]⟩ : ByteArray), .slice none 0 0, .slice none 0 0, .slice none 0 0]) ?_ 3 _ rfl; refine bp ?_; refine blk_put (cs := #[.string t620, .int .i64 t621, .int .i64 0, .string (⟨#[]⟩ : ByteArray), .slice none 0 0, .slice none 0 0, .slice none 0 0]) ?_ 2 _ rfl; refine bp ?_; refine blk_put (cs := #[.string t620, .int .i64 0, .int .i64 0, .string (⟨#[]⟩ : ByteArray), .slice none 0 0, .slice none 0 0, .slice none 0 0]) ?_ 1 _ rfl; refine bp ?_; refine blk_put (cs := #[.string (⟨#[]⟩ : ByteArray), .int .i64 0, .int .i64 0, .string (⟨#[]⟩ : ByteArray), .slice none 0 0, .slice none 0 0, .slice none 0 0]) ?_ 0 _ rfl; refine bp ?_; exact BK633.out) hb); have n4_ := zq9 (zq27 (by exact b1 HB GE633) hb); clear HO626; clear HO629; clear HO632; clear BK633; clear HB; have HO626 := n0_; have HO629 := n1_; have HO632 := n2_; have BK633 := n3_; have HB := n4_; clear n0_ n1_ n2_ n3_ n4_; (try clear hb); (try clear hb2); (try clear hk); (try clear hi)))
  (try simp only [Act.put, zq0, zq1, zq2])
  go_cut [21] (fun v21 wc => ∃ (kq : Nat) (x21_4 : Bool), v21 = .bool x21_4 ∧ Aside0 (laws_FnEntryOk.j0 kq t634 x21_4 t620 t621 t622 t623 t624 t627 t630 = some r) ∧ Aside0 (kq ≤ k) ∧ Aside0 (Kd.V Kd.string 9 wc w.heap.size (fun k_ => some k_ ≠ ((.slice Ao10 t627.length co10) : Value).ownBlock ∧ some k_ ≠ ((.slice Ao11 t630.length co11) : Value).ownBlock ∧ k_ ≠ gb633) (.slice Ao9 t624.length co9) t624) ∧ Aside0 (Kd.R k99 99 wc w.heap.size (fun _ => True) (.slice Ao10 t627.length co10) t627) ∧ Aside0 (Kd.R k101 101 wc w.heap.size (fun _ => True) (.slice Ao11 t630.length co11) t630) ∧ Aside0 (wc.heap[gb633]? = some (.cells #[.string t620, .int .i64 t621, .int .i64 t622, .string t623, (.slice Ao9 t624.length co9), (.slice Ao10 t627.length co10), (.slice Ao11 t630.length co11)] 32 (0, 0))) ∧ Aside0 (Below w.heap.size w wc))
  case first =>
   have H := HC5.out
   clear HC5
   replace H := Option.bind_eq_some_iff.mp H
   obtain ⟨t635, A130, H⟩ := H
   try dsimp only at H
   have A13 := zq9 A130
   clear A130
   by_cases c14 : (t634 != t635) = true
   ·rw [if_pos c14] at H
    have c14b0 : (t634 != t635) = true := c14
    (try (have c14b1 : decide (t634 = t635) = false := by simpa using c14))
    (try (have c14b2 : (t634 == t635) = false := by simpa using c14))
    (try (have c14b3 : ¬ (t634 = t635) := by simpa using c14))
    clear c14
    (first | rw [c14b0] | (simp only [i64_w, i32_w]; rw [c14b0]) | skip)
    have H' := zq9 H
    clear H
    have hcz15_0 : w12.cell? ⟨gb633, 0, none⟩ = some (.string t620) := bc BK633 0
    have hcz15_1 : w12.cell? ⟨gb633, 1, none⟩ = some (.int .i64 t621) := bc BK633 1
    have hcz15_2 : w12.cell? ⟨gb633, 2, none⟩ = some (.int .i64 t622) := bc BK633 2
    have hcz15_3 : w12.cell? ⟨gb633, 3, none⟩ = some (.string t623) := bc BK633 3
    have hcz15_4 : w12.cell? ⟨gb633, 4, none⟩ = some (.slice Ao9 t624.length co9) := bc BK633 4
    have hcz15_5 : w12.cell? ⟨gb633, 5, none⟩ = some (.slice Ao10 t627.length co10) := bc BK633 5
    have hcz15_6 : w12.cell? ⟨gb633, 6, none⟩ = some (.slice Ao11 t630.length co11) := bc BK633 6
    have hfz15_0 := zq6 BK633.out 0
    have hfz15_1 := zq6 BK633.out 1
    have hfz15_2 := zq6 BK633.out 2
    have hfz15_3 := zq6 BK633.out 3
    have hfz15_4 := zq6 BK633.out 4
    have hfz15_5 := zq6 BK633.out 5
    have hfz15_6 := zq6 BK633.out 6
    go_wp2_with (first | ((with_reducible refine zq24 (f := 11) rfl ?_); refine gl (some 16) Try.func11 #[.agg #[.string t620, .int .i64 t621, .int .i64 t622, .string t623, .slice Ao9 t624.length co9, .slice Ao10 t627.length co10, .slice Ao11 t630.length co11]] ?_; (with_reducible refine (spec_EntryOk.calls k t620 t621 t622 t623 _ _ t624 _ _ t627 _ _ t630 t635 _ ?side1 ?side2 ?side3 ?side4 ?side5 ?side6 A13.out).mono ?_); (case side1 => repeat (first | exact (Kd.V_reads' HO626.out).2.2 | (with_reducible refine zq18 ?_ _) | (with_reducible refine zq19 ?_ _) | (with_reducible refine zq20 ?_))); (case side2 => exact (Kd.V_reads' HO626.out).2.1); (case side3 => repeat (first | exact (Kd.R_reads' HO629.out).2.2 | (with_reducible refine zq18 ?_ _) | (with_reducible refine zq19 ?_ _) | (with_reducible refine zq20 ?_))); (case side4 => exact (Kd.R_reads' HO629.out).2.1); (case side5 => repeat (first | exact (Kd.R_reads' HO632.out).2.2 | (with_reducible refine zq18 ?_ _) | (with_reducible refine zq19 ?_ _) | (with_reducible refine zq20 ?_))); (case side6 => exact (Kd.R_reads' HO632.out).2.1); rintro e w16 ⟨rfl, hb⟩; refine ⟨_, rfl, ?_⟩; have n0_ := zq9 (Kd.V_below (by exact vz HO626) hb); have n1_ := zq9 (Kd.R_below (by exact rz HO629) hb); have n2_ := zq9 (Kd.R_below (by exact rz HO632) hb); have n3_ := zq9 (zq30 (g := gb633) (o := .cells #[.string t620, .int .i64 t621, .int .i64 t622, .string t623, .slice Ao9 t624.length co9, .slice Ao10 t627.length co10, .slice Ao11 t630.length co11] 32 (0, 0)) (by exact bk BK633) hb); have n4_ := zq9 (zq27 (by exact b1 HB GE633) hb); clear HO626; clear HO629; clear HO632; clear BK633; clear HB; have HO626 := n0_; have HO629 := n1_; have HO632 := n2_; have BK633 := n3_; have HB := n4_; clear n0_ n1_ n2_ n3_ n4_; (try clear hb); (try clear hb2); (try clear hk); (try clear hi)))
    go_meet
    case rel => exact ⟨_, (true), (by first | rfl | (simp; done) | (simp [*]; done)), H', ⟨by first | omega | exact Nat.le_refl _⟩, ⟨by (with_reducible repeat (first | apply zq21 | apply zq22 | apply zq23)); exact Kd.V_mono HO626.out (fun _ hk => ⟨hk.1.1, ⟨hk.1.2, hk.2⟩⟩)⟩, ⟨by (with_reducible repeat (first | apply zq10 | apply zq11 | apply zq12)); exact HO629.out⟩, ⟨by (with_reducible repeat (first | apply zq10 | apply zq11 | apply zq12)); exact HO632.out⟩, ⟨by refine bp ?_; exact BK633.out⟩, ⟨by exact b1 HB GE633⟩⟩
   ·rw [if_neg c14] at H
    have c14b0 : (t634 != t635) = false := by simpa using c14
    (try (have c14b1 : decide (t634 = t635) = true := by simpa using c14))
    (try (have c14b2 : (t634 == t635) = true := by simpa using c14))
    clear c14
    (first | rw [c14b0] | (simp only [i64_w, i32_w]; rw [c14b0]) | skip)
    have H' := zq9 H
    clear H
    have hcz17_0 : w12.cell? ⟨gb633, 0, none⟩ = some (.string t620) := bc BK633 0
    have hcz17_1 : w12.cell? ⟨gb633, 1, none⟩ = some (.int .i64 t621) := bc BK633 1
    have hcz17_2 : w12.cell? ⟨gb633, 2, none⟩ = some (.int .i64 t622) := bc BK633 2
    have hcz17_3 : w12.cell? ⟨gb633, 3, none⟩ = some (.string t623) := bc BK633 3
    have hcz17_4 : w12.cell? ⟨gb633, 4, none⟩ = some (.slice Ao9 t624.length co9) := bc BK633 4
    have hcz17_5 : w12.cell? ⟨gb633, 5, none⟩ = some (.slice Ao10 t627.length co10) := bc BK633 5
    have hcz17_6 : w12.cell? ⟨gb633, 6, none⟩ = some (.slice Ao11 t630.length co11) := bc BK633 6
    have hfz17_0 := zq6 BK633.out 0
    have hfz17_1 := zq6 BK633.out 1
    have hfz17_2 := zq6 BK633.out 2
    have hfz17_3 := zq6 BK633.out 3
    have hfz17_4 := zq6 BK633.out 4
    have hfz17_5 := zq6 BK633.out 5
    have hfz17_6 := zq6 BK633.out 6
    go_wp2_with (first | ((with_reducible refine zq24 (f := 11) rfl ?_); refine gl (some 16) Try.func11 #[.agg #[.string t620, .int .i64 t621, .int .i64 t622, .string t623, .slice Ao9 t624.length co9, .slice Ao10 t627.length co10, .slice Ao11 t630.length co11]] ?_; (with_reducible refine (spec_EntryOk.calls k t620 t621 t622 t623 _ _ t624 _ _ t627 _ _ t630 t635 _ ?side1 ?side2 ?side3 ?side4 ?side5 ?side6 A13.out).mono ?_); (case side1 => repeat (first | exact (Kd.V_reads' HO626.out).2.2 | (with_reducible refine zq18 ?_ _) | (with_reducible refine zq19 ?_ _) | (with_reducible refine zq20 ?_))); (case side2 => exact (Kd.V_reads' HO626.out).2.1); (case side3 => repeat (first | exact (Kd.R_reads' HO629.out).2.2 | (with_reducible refine zq18 ?_ _) | (with_reducible refine zq19 ?_ _) | (with_reducible refine zq20 ?_))); (case side4 => exact (Kd.R_reads' HO629.out).2.1); (case side5 => repeat (first | exact (Kd.R_reads' HO632.out).2.2 | (with_reducible refine zq18 ?_ _) | (with_reducible refine zq19 ?_ _) | (with_reducible refine zq20 ?_))); (case side6 => exact (Kd.R_reads' HO632.out).2.1); rintro e w18 ⟨rfl, hb⟩; refine ⟨_, rfl, ?_⟩; have n0_ := zq9 (Kd.V_below (by exact vz HO626) hb); have n1_ := zq9 (Kd.R_below (by exact rz HO629) hb); have n2_ := zq9 (Kd.R_below (by exact rz HO632) hb); have n3_ := zq9 (zq30 (g := gb633) (o := .cells #[.string t620, .int .i64 t621, .int .i64 t622, .string t623, .slice Ao9 t624.length co9, .slice Ao10 t627.length co10, .slice Ao11 t630.length co11] 32 (0, 0)) (by exact bk BK633) hb); have n4_ := zq9 (zq27 (by exact b1 HB GE633) hb); clear HO626; clear HO629; clear HO632; clear BK633; clear HB; have HO626 := n0_; have HO629 := n1_; have HO632 := n2_; have BK633 := n3_; have HB := n4_; clear n0_ n1_ n2_ n3_ n4_; (try clear hb); (try clear hb2); (try clear hk); (try clear hi)))
    go_meet
    case rel => exact ⟨_, (!t634), (by first | rfl | (simp; done) | (simp [*]; done)), H', ⟨by first | omega | exact Nat.le_refl _⟩, ⟨by (with_reducible repeat (first | apply zq21 | apply zq22 | apply zq23)); exact Kd.V_mono HO626.out (fun _ hk => ⟨hk.1.1, ⟨hk.1.2, hk.2⟩⟩)⟩, ⟨by (with_reducible repeat (first | apply zq10 | apply zq11 | apply zq12)); exact HO629.out⟩, ⟨by (with_reducible repeat (first | apply zq10 | apply zq11 | apply zq12)); exact HO632.out⟩, ⟨by refine bp ?_; exact BK633.out⟩, ⟨by exact b1 HB GE633⟩⟩
  case rest =>
   clear HC5
   try clear c1
   try clear c2
   try clear c2b0
   try clear c2b1
   try clear p2
   try clear c4
   try clear c11
   try clear c13
   try clear c14
   try clear c14b0
   try clear c14b1
   try clear c14b2
   try clear c15
   try clear hcz15_0
   try clear hcz15_1
   try clear hcz15_2
   try clear hcz15_3
   try clear hcz15_4
   try clear hcz15_5
   try clear hcz15_6
   try clear hcz17_0
   try clear hcz17_1
   try clear hcz17_2
   try clear hcz17_3
   try clear hcz17_4
   try clear hcz17_5
   try clear hcz17_6
   try clear hcz8_0
   try clear hcz8_1
   try clear hcz8_2
   try clear hcz8_3
   try clear hcz8_4
   try clear hcz8_5
   try clear hcz8_6
   try clear hfz15_0
   try clear hfz15_1
   try clear hfz15_2
   try clear hfz15_3
   try clear hfz15_4
   try clear hfz15_5
   try clear hfz15_6
   try clear hfz17_0
   try clear hfz17_1
   try clear hfz17_2
   try clear hfz17_3
   try clear hfz17_4
   try clear hfz17_5
   try clear hfz17_6
   try clear hfz8_0
   try clear hfz8_1
   try clear hfz8_2
   try clear hfz8_3
   try clear hfz8_4
   try clear hfz8_5
   try clear hfz8_6
   obtain ⟨kq, x21_4, rfl, HA, HJ4, HO_634004, HO_634005, HO_634006, BK633, HB⟩ := hcut
   cases kq with
   | zero => exact absurd HA.out (by simp [laws_FnEntryOk.j0])
   | succ kj4 =>
    have H := HA.out
    clear HA
    simp only [laws_FnEntryOk.j0] at H
    by_cases c19 : x21_4 = true
    ·subst c19
     have H1 : ((spec_EntryOk.f kj4 t620 t621 t622 t623 t624 t627 t630).bind fun t636 => (some (t634 == t636))) = some r := by rw [if_pos rfl] at H; exact H
     clear H
     have H := H1
     clear H1
     replace H := Option.bind_eq_some_iff.mp H
     obtain ⟨t636, A200, H⟩ := H
     try dsimp only at H
     have A20 := zq9 A200
     clear A200
     obtain rfl := Option.some.inj H
     have hcz21_0 : wc.cell? ⟨gb633, 0, none⟩ = some (.string t620) := bc BK633 0
     have hcz21_1 : wc.cell? ⟨gb633, 1, none⟩ = some (.int .i64 t621) := bc BK633 1
     have hcz21_2 : wc.cell? ⟨gb633, 2, none⟩ = some (.int .i64 t622) := bc BK633 2
     have hcz21_3 : wc.cell? ⟨gb633, 3, none⟩ = some (.string t623) := bc BK633 3
     have hcz21_4 : wc.cell? ⟨gb633, 4, none⟩ = some (.slice Ao9 t624.length co9) := bc BK633 4
     have hcz21_5 : wc.cell? ⟨gb633, 5, none⟩ = some (.slice Ao10 t627.length co10) := bc BK633 5
     have hcz21_6 : wc.cell? ⟨gb633, 6, none⟩ = some (.slice Ao11 t630.length co11) := bc BK633 6
     have hfz21_0 := zq6 BK633.out 0
     have hfz21_1 := zq6 BK633.out 1
     have hfz21_2 := zq6 BK633.out 2
     have hfz21_3 := zq6 BK633.out 3
     have hfz21_4 := zq6 BK633.out 4
     have hfz21_5 := zq6 BK633.out 5
     have hfz21_6 := zq6 BK633.out 6
     go_wp2_with (first | ((with_reducible refine zq24 (f := 11) rfl ?_); refine gl (some 24) Try.func11 #[.agg #[.string t620, .int .i64 t621, .int .i64 t622, .string t623, .slice Ao9 t624.length co9, .slice Ao10 t627.length co10, .slice Ao11 t630.length co11]] ?_; (with_reducible refine (spec_EntryOk.calls kj4 t620 t621 t622 t623 _ _ t624 _ _ t627 _ _ t630 t636 _ ?side1 ?side2 ?side3 ?side4 ?side5 ?side6 A20.out).mono ?_); (case side1 => repeat (first | exact (Kd.V_reads' HO_634004.out).2.2 | (with_reducible refine zq18 ?_ _) | (with_reducible refine zq19 ?_ _) | (with_reducible refine zq20 ?_))); (case side2 => exact (Kd.V_reads' HO_634004.out).2.1); (case side3 => repeat (first | exact (Kd.R_reads' HO_634005.out).2.2 | (with_reducible refine zq18 ?_ _) | (with_reducible refine zq19 ?_ _) | (with_reducible refine zq20 ?_))); (case side4 => exact (Kd.R_reads' HO_634005.out).2.1); (case side5 => repeat (first | exact (Kd.R_reads' HO_634006.out).2.2 | (with_reducible refine zq18 ?_ _) | (with_reducible refine zq19 ?_ _) | (with_reducible refine zq20 ?_))); (case side6 => exact (Kd.R_reads' HO_634006.out).2.1); rintro e w22 ⟨rfl, hb⟩; refine ⟨_, rfl, ?_⟩; have n0_ := zq9 (Kd.V_below (by exact vz HO_634004) hb); have n1_ := zq9 (Kd.R_below (by exact rz HO_634005) hb); have n2_ := zq9 (Kd.R_below (by exact rz HO_634006) hb); have n3_ := zq9 (zq30 (g := gb633) (o := .cells #[.string t620, .int .i64 t621, .int .i64 t622, .string t623, .slice Ao9 t624.length co9, .slice Ao10 t627.length co10, .slice Ao11 t630.length co11] 32 (0, 0)) (by exact bk BK633) hb); have n4_ := zq9 (zq27 (by exact b1 HB GE633) hb); clear HO_634004; clear HO_634005; clear HO_634006; clear BK633; clear HB; have HO_634004 := n0_; have HO_634005 := n1_; have HO_634006 := n2_; have BK633 := n3_; have HB := n4_; clear n0_ n1_ n2_ n3_ n4_; (try clear hb); (try clear hb2); (try clear hk); (try clear hi)))
     go_ret
     exact fz (by exact b1 HB GE633)
    ·replace c19 := Bool.eq_false_iff.mpr c19
     subst c19
     have H1 : (if t622 = 2 then (laws_FnEntryOk.j1 kj4 true t620 t621 t622 t623 t624 t627 t630 t620 t621 (wrap64 ((Int.tmod t622 5) + 1)) t623 t624 t627 t630) else (if t622 = 1 then (laws_FnEntryOk.j1 kj4 (t623.toList == ([] : List UInt8)) t620 t621 t622 t623 t624 t627 t630 t620 t621 (wrap64 ((Int.tmod t622 5) + 1)) t623 t624 t627 t630) else (laws_FnEntryOk.j1 kj4 false t620 t621 t622 t623 t624 t627 t630 t620 t621 (wrap64 ((Int.tmod t622 5) + 1)) t623 t624 t627 t630))) = some r := by rw [if_neg (show ¬ (false = true) by decide)] at H; exact H
     clear H
     have H := H1
     clear H1
     have HC23 := zq9 H
     clear H
     have hcz24_0 : wc.cell? ⟨gb633, 0, none⟩ = some (.string t620) := bc BK633 0
     have hcz24_1 : wc.cell? ⟨gb633, 1, none⟩ = some (.int .i64 t621) := bc BK633 1
     have hcz24_2 : wc.cell? ⟨gb633, 2, none⟩ = some (.int .i64 t622) := bc BK633 2
     have hcz24_3 : wc.cell? ⟨gb633, 3, none⟩ = some (.string t623) := bc BK633 3
     have hcz24_4 : wc.cell? ⟨gb633, 4, none⟩ = some (.slice Ao9 t624.length co9) := bc BK633 4
     have hcz24_5 : wc.cell? ⟨gb633, 5, none⟩ = some (.slice Ao10 t627.length co10) := bc BK633 5
     have hcz24_6 : wc.cell? ⟨gb633, 6, none⟩ = some (.slice Ao11 t630.length co11) := bc BK633 6
     have hfz24_0 := zq6 BK633.out 0
     have hfz24_1 := zq6 BK633.out 1
     have hfz24_2 := zq6 BK633.out 2
     have hfz24_3 := zq6 BK633.out 3
     have hfz24_4 := zq6 BK633.out 4
     have hfz24_5 := zq6 BK633.out 5
     have hfz24_6 := zq6 BK633.out 6
     go_upto_region 9 with (first | ((with_reducible refine zq25 (N := 5) rfl ?_); (try (refine gate_guard (by rfl) ?_; dsimp only)); refine bx 5 #[.string (⟨#[]⟩ : ByteArray), .int .i64 0, .int .i64 0, .string (⟨#[]⟩ : ByteArray), .slice none 0 0, .slice none 0 0, .slice none 0 0] 32 ?_; intro gb637 hg w25 hbox hb; have n0_ := zq9 (Kd.V_below (Kd.V_elderB (by exact vz HO_634004) gb637 (Nat.le_of_eq hg.symm)) hb); have n1_ := zq9 (Kd.R_below (by exact rz HO_634005) hb); have n2_ := zq9 (Kd.R_below (by exact rz HO_634006) hb); have n3_ := zq9 (zq30 (g := gb633) (o := .cells #[.string t620, .int .i64 t621, .int .i64 t622, .string t623, .slice Ao9 t624.length co9, .slice Ao10 t627.length co10, .slice Ao11 t630.length co11] 32 (0, 0)) (by exact bk BK633) hb); have n4_ := zq9 (zq27 (by exact b1 HB GE633) hb); have n5_ := zq9 (hbox); have n6_ := zq9 ((by rw [hg]; exact (zq29 (by exact b1 HB GE633)) : w.heap.size ≤ gb637)); have n7_ := n6_; have n8_ := zq9 ((by rw [hg]; exact Nat.ne_of_lt (blk_lt (g := gb633) (o := .cells #[.string t620, .int .i64 t621, .int .i64 t622, .string t623, .slice Ao9 t624.length co9, .slice Ao10 t627.length co10, .slice Ao11 t630.length co11] 32 (0, 0)) (by exact bk BK633)) : gb633 ≠ gb637)); have n9_ := zq9 ((by rw [hg]; exact Nat.ne_of_gt (blk_lt (g := gb633) (o := .cells #[.string t620, .int .i64 t621, .int .i64 t622, .string t623, .slice Ao9 t624.length co9, .slice Ao10 t627.length co10, .slice Ao11 t630.length co11] 32 (0, 0)) (by exact bk BK633)) : gb637 ≠ gb633)); clear HO_634004; clear HO_634005; clear HO_634006; clear BK633; clear HB; have HO_634004 := n0_; have HO_634005 := n1_; have HO_634006 := n2_; have BK633 := n3_; have HB := n4_; have BK637 := n5_; have GW637 := n6_; have GE637 := n7_; have NB633_637 := n8_; have NB637_633 := n9_; clear n0_ n1_ n2_ n3_ n4_ n5_ n6_ n7_ n8_ n9_; clear hb hbox hg; have hnb26 := NB637_633.out; have hnc26 := NB633_637.out; have hcz27_0 : w25.cell? ⟨gb637, 0, none⟩ = some (.string (⟨#[]⟩ : ByteArray)) := bc BK637 0; have hcz27_1 : w25.cell? ⟨gb637, 1, none⟩ = some (.int .i64 0) := bc BK637 1; have hcz27_2 : w25.cell? ⟨gb637, 2, none⟩ = some (.int .i64 0) := bc BK637 2; have hcz27_3 : w25.cell? ⟨gb637, 3, none⟩ = some (.string (⟨#[]⟩ : ByteArray)) := bc BK637 3; have hcz27_4 : w25.cell? ⟨gb637, 4, none⟩ = some (.slice none 0 0) := bc BK637 4; have hcz27_5 : w25.cell? ⟨gb637, 5, none⟩ = some (.slice none 0 0) := bc BK637 5; have hcz27_6 : w25.cell? ⟨gb637, 6, none⟩ = some (.slice none 0 0) := bc BK637 6; have hfz27_0 := zq6 BK637.out 0; have hfz27_1 := zq6 BK637.out 1; have hfz27_2 := zq6 BK637.out 2; have hfz27_3 := zq6 BK637.out 3; have hfz27_4 := zq6 BK637.out 4; have hfz27_5 := zq6 BK637.out 5; have hfz27_6 := zq6 BK637.out 6; have hcz28_0 : w25.cell? ⟨gb633, 0, none⟩ = some (.string t620) := bc BK633 0; have hcz28_1 : w25.cell? ⟨gb633, 1, none⟩ = some (.int .i64 t621) := bc BK633 1; have hcz28_2 : w25.cell? ⟨gb633, 2, none⟩ = some (.int .i64 t622) := bc BK633 2; have hcz28_3 : w25.cell? ⟨gb633, 3, none⟩ = some (.string t623) := bc BK633 3; have hcz28_4 : w25.cell? ⟨gb633, 4, none⟩ = some (.slice Ao9 t624.length co9) := bc BK633 4; have hcz28_5 : w25.cell? ⟨gb633, 5, none⟩ = some (.slice Ao10 t627.length co10) := bc BK633 5; have hcz28_6 : w25.cell? ⟨gb633, 6, none⟩ = some (.slice Ao11 t630.length co11) := bc BK633 6; have hfz28_0 := zq6 BK633.out 0; have hfz28_1 := zq6 BK633.out 1; have hfz28_2 := zq6 BK633.out 2; have hfz28_3 := zq6 BK633.out 3; have hfz28_4 := zq6 BK633.out 4; have hfz28_5 := zq6 BK633.out 5; have hfz28_6 := zq6 BK633.out 6))
     (try simp only [Act.put, zq0, zq1, zq2])
     go_cut [44] (fun v44 wc => ∃ (kq : Nat) (x44_22 : Bool), v44 = .bool x44_22 ∧ Aside0 (laws_FnEntryOk.j1 kq x44_22 t620 t621 t622 t623 t624 t627 t630 t620 t621 (wrap64 ((Int.tmod t622 5) + 1)) t623 t624 t627 t630 = some r) ∧ Aside0 (kq ≤ kj4) ∧ Aside0 (Kd.V Kd.string 9 wc w.heap.size (fun k_ => some k_ ≠ ((.slice Ao10 t627.length co10) : Value).ownBlock ∧ some k_ ≠ ((.slice Ao11 t630.length co11) : Value).ownBlock ∧ some k_ ≠ ((.slice Ao10 t627.length co10) : Value).ownBlock ∧ some k_ ≠ ((.slice Ao11 t630.length co11) : Value).ownBlock ∧ k_ ≠ gb633 ∧ k_ ≠ gb637) (.slice Ao9 t624.length co9) t624) ∧ Aside0 (Kd.R k99 99 wc w.heap.size (fun _ => True) (.slice Ao10 t627.length co10) t627) ∧ Aside0 (Kd.R k101 101 wc w.heap.size (fun _ => True) (.slice Ao11 t630.length co11) t630) ∧ Aside0 (Kd.V Kd.string 9 wc w.heap.size (fun k_ => some k_ ≠ ((.slice Ao10 t627.length co10) : Value).ownBlock ∧ some k_ ≠ ((.slice Ao11 t630.length co11) : Value).ownBlock ∧ some k_ ≠ ((.slice Ao10 t627.length co10) : Value).ownBlock ∧ some k_ ≠ ((.slice Ao11 t630.length co11) : Value).ownBlock ∧ k_ ≠ gb633 ∧ k_ ≠ gb637) (.slice Ao9 t624.length co9) t624) ∧ Aside0 (Kd.R k99 99 wc w.heap.size (fun _ => True) (.slice Ao10 t627.length co10) t627) ∧ Aside0 (Kd.R k101 101 wc w.heap.size (fun _ => True) (.slice Ao11 t630.length co11) t630) ∧ Aside0 (wc.heap[gb633]? = some (.cells #[.string t620, .int .i64 t621, .int .i64 t622, .string t623, (.slice Ao9 t624.length co9), (.slice Ao10 t627.length co10), (.slice Ao11 t630.length co11)] 32 (0, 0))) ∧ Aside0 (wc.heap[gb637]? = some (.cells #[.string t620, .int .i64 t621, .int .i64 (wrap64 ((Int.tmod t622 5) + 1)), .string t623, (.slice Ao9 t624.length co9), (.slice Ao10 t627.length co10), (.slice Ao11 t630.length co11)] 32 (0, 0))) ∧ Aside0 (Below w.heap.size w wc))
     case first =>
      have H := HC23.out
      clear HC23
      by_cases c29 : t622 = 2
      ·rw [if_pos c29] at H
       have c29b0 : (t622 == 2) = true := beq_iff_eq.mpr c29
       have c29b1 : (t622 != 2) = false := bne_eq_false_iff_eq.mpr c29
       clear c29
       (first | rw [c29b0] | (simp only [i64_w, i32_w]; rw [c29b0]) | skip)
       have H' := zq9 H
       clear H
       have hnb30 := NB633_637.out
       have hnc30 := NB637_633.out
       have hcz31_0 : w25.cell? ⟨gb633, 0, none⟩ = some (.string t620) := bc BK633 0
       have hcz31_1 : w25.cell? ⟨gb633, 1, none⟩ = some (.int .i64 t621) := bc BK633 1
       have hcz31_2 : w25.cell? ⟨gb633, 2, none⟩ = some (.int .i64 t622) := bc BK633 2
       have hcz31_3 : w25.cell? ⟨gb633, 3, none⟩ = some (.string t623) := bc BK633 3
       have hcz31_4 : w25.cell? ⟨gb633, 4, none⟩ = some (.slice Ao9 t624.length co9) := bc BK633 4
       have hcz31_5 : w25.cell? ⟨gb633, 5, none⟩ = some (.slice Ao10 t627.length co10) := bc BK633 5
       have hcz31_6 : w25.cell? ⟨gb633, 6, none⟩ = some (.slice Ao11 t630.length co11) := bc BK633 6
       have hfz31_0 := zq6 BK633.out 0
       have hfz31_1 := zq6 BK633.out 1
       have hfz31_2 := zq6 BK633.out 2
       have hfz31_3 := zq6 BK633.out 3
       have hfz31_4 := zq6 BK633.out 4
       have hfz31_5 := zq6 BK633.out 5
       have hfz31_6 := zq6 BK633.out 6
       go_wp2
       go_meet
       case rel => exact ⟨_, (true), (by first | rfl | (simp; done) | (simp [*]; done)), H', ⟨by have := HJ4.out; first | omega | exact Nat.le_refl _⟩, ⟨by (with_reducible repeat (first | apply zq21 | apply zq22 | apply zq23)); exact Kd.V_mono (Kd.V_far (p := ⟨gb637, 2, none⟩) (Kd.V_far (p := ⟨gb637, 6, none⟩) (Kd.V_far (p := ⟨gb637, 5, none⟩) (Kd.V_far (p := ⟨gb637, 4, none⟩) (Kd.V_far (p := ⟨gb637, 3, none⟩) (Kd.V_far (p := ⟨gb637, 2, none⟩) (Kd.V_far (p := ⟨gb637, 1, none⟩) (Kd.V_far (p := ⟨gb637, 0, none⟩) (Kd.V_mono HO_634004.out (fun k_ hk => (⟨hk, by first | exact hk.2 | exact hk | exact hk.1⟩ : _ ∧ k_ ≠ gb637))) (fun _ hk => hk.2) (.string t620)) (fun _ hk => hk.2) (.int .i64 t621)) (fun _ hk => hk.2) (.int .i64 t622)) (fun _ hk => hk.2) (.string t623)) (fun _ hk => hk.2) (.slice Ao9 t624.length co9)) (fun _ hk => hk.2) (.slice Ao10 t627.length co10)) (fun _ hk => hk.2) (.slice Ao11 t630.length co11)) (fun _ hk => hk.2) (.int .i64 (wrap64 ((Int.tmod t622 5) + 1)))) (fun _ hk => ⟨hk.1.1.1, ⟨hk.1.1.2.1, ⟨hk.1.1.1, ⟨hk.1.1.2.1, ⟨hk.1.1.2.2, hk.1.2⟩⟩⟩⟩⟩)⟩, ⟨by (with_reducible repeat (first | apply zq10 | apply zq11 | apply zq12)); exact Kd.R_mono (Kd.R_far (p := ⟨gb637, 2, none⟩) (Kd.R_far (p := ⟨gb637, 6, none⟩) (Kd.R_far (p := ⟨gb637, 5, none⟩) (Kd.R_far (p := ⟨gb637, 4, none⟩) (Kd.R_far (p := ⟨gb637, 3, none⟩) (Kd.R_far (p := ⟨gb637, 2, none⟩) (Kd.R_far (p := ⟨gb637, 1, none⟩) (Kd.R_far (p := ⟨gb637, 0, none⟩) (Kd.R_types HO_634005.out BK637.out (by decide)) (fun _ hk => hk.2) (.string t620)) (fun _ hk => hk.2) (.int .i64 t621)) (fun _ hk => hk.2) (.int .i64 t622)) (fun _ hk => hk.2) (.string t623)) (fun _ hk => hk.2) (.slice Ao9 t624.length co9)) (fun _ hk => hk.2) (.slice Ao10 t627.length co10)) (fun _ hk => hk.2) (.slice Ao11 t630.length co11)) (fun _ hk => hk.2) (.int .i64 (wrap64 ((Int.tmod t622 5) + 1)))) (fun _ hk => trivial)⟩, ⟨by (with_reducible repeat (first | apply zq10 | apply zq11 | apply zq12)); exact Kd.R_mono (Kd.R_far (p := ⟨gb637, 2, none⟩) (Kd.R_far (p := ⟨gb637, 6, none⟩) (Kd.R_far (p := ⟨gb637, 5, none⟩) (Kd.R_far (p := ⟨gb637, 4, none⟩) (Kd.R_far (p := ⟨gb637, 3, none⟩) (Kd.R_far (p := ⟨gb637, 2, none⟩) (Kd.R_far (p := ⟨gb637, 1, none⟩) (Kd.R_far (p := ⟨gb637, 0, none⟩) (Kd.R_types HO_634006.out BK637.out (by decide)) (fun _ hk => hk.2) (.string t620)) (fun _ hk => hk.2) (.int .i64 t621)) (fun _ hk => hk.2) (.int .i64 t622)) (fun _ hk => hk.2) (.string t623)) (fun _ hk => hk.2) (.slice Ao9 t624.length co9)) (fun _ hk => hk.2) (.slice Ao10 t627.length co10)) (fun _ hk => hk.2) (.slice Ao11 t630.length co11)) (fun _ hk => hk.2) (.int .i64 (wrap64 ((Int.tmod t622 5) + 1)))) (fun _ hk => trivial)⟩, ⟨by (with_reducible repeat (first | apply zq21 | apply zq22 | apply zq23)); exact Kd.V_mono (Kd.V_far (p := ⟨gb637, 2, none⟩) (Kd.V_far (p := ⟨gb637, 6, none⟩) (Kd.V_far (p := ⟨gb637, 5, none⟩) (Kd.V_far (p := ⟨gb637, 4, none⟩) (Kd.V_far (p := ⟨gb637, 3, none⟩) (Kd.V_far (p := ⟨gb637, 2, none⟩) (Kd.V_far (p := ⟨gb637, 1, none⟩) (Kd.V_far (p := ⟨gb637, 0, none⟩) (Kd.V_mono HO_634004.out (fun k_ hk => (⟨hk, by first | exact hk.2 | exact hk | exact hk.1⟩ : _ ∧ k_ ≠ gb637))) (fun _ hk => hk.2) (.string t620)) (fun _ hk => hk.2) (.int .i64 t621)) (fun _ hk => hk.2) (.int .i64 t622)) (fun _ hk => hk.2) (.string t623)) (fun _ hk => hk.2) (.slice Ao9 t624.length co9)) (fun _ hk => hk.2) (.slice Ao10 t627.length co10)) (fun _ hk => hk.2) (.slice Ao11 t630.length co11)) (fun _ hk => hk.2) (.int .i64 (wrap64 ((Int.tmod t622 5) + 1)))) (fun _ hk => ⟨hk.1.1.1, ⟨hk.1.1.2.1, ⟨hk.1.1.1, ⟨hk.1.1.2.1, ⟨hk.1.1.2.2, hk.1.2⟩⟩⟩⟩⟩)⟩, ⟨by (with_reducible repeat (first | apply zq10 | apply zq11 | apply zq12)); exact Kd.R_mono (Kd.R_far (p := ⟨gb637, 2, none⟩) (Kd.R_far (p := ⟨gb637, 6, none⟩) (Kd.R_far (p := ⟨gb637, 5, none⟩) (Kd.R_far (p := ⟨gb637, 4, none⟩) (Kd.R_far (p := ⟨gb637, 3, none⟩) (Kd.R_far (p := ⟨gb637, 2, none⟩) (Kd.R_far (p := ⟨gb637, 1, none⟩) (Kd.R_far (p := ⟨gb637, 0, none⟩) (Kd.R_types HO_634005.out BK637.out (by decide)) (fun _ hk => hk.2) (.string t620)) (fun _ hk => hk.2) (.int .i64 t621)) (fun _ hk => hk.2) (.int .i64 t622)) (fun _ hk => hk.2) (.string t623)) (fun _ hk => hk.2) (.slice Ao9 t624.length co9)) (fun _ hk => hk.2) (.slice Ao10 t627.length co10)) (fun _ hk => hk.2) (.slice Ao11 t630.length co11)) (fun _ hk => hk.2) (.int .i64 (wrap64 ((Int.tmod t622 5) + 1)))) (fun _ hk => trivial)⟩, ⟨by (with_reducible repeat (first | apply zq10 | apply zq11 | apply zq12)); exact Kd.R_mono (Kd.R_far (p := ⟨gb637, 2, none⟩) (Kd.R_far (p := ⟨gb637, 6, none⟩) (Kd.R_far (p := ⟨gb637, 5, none⟩) (Kd.R_far (p := ⟨gb637, 4, none⟩) (Kd.R_far (p := ⟨gb637, 3, none⟩) (Kd.R_far (p := ⟨gb637, 2, none⟩) (Kd.R_far (p := ⟨gb637, 1, none⟩) (Kd.R_far (p := ⟨gb637, 0, none⟩) (Kd.R_types HO_634006.out BK637.out (by decide)) (fun _ hk => hk.2) (.string t620)) (fun _ hk => hk.2) (.int .i64 t621)) (fun _ hk => hk.2) (.int .i64 t622)) (fun _ hk => hk.2) (.string t623)) (fun _ hk => hk.2) (.slice Ao9 t624.length co9)) (fun _ hk => hk.2) (.slice Ao10 t627.length co10)) (fun _ hk => hk.2) (.slice Ao11 t630.length co11)) (fun _ hk => hk.2) (.int .i64 (wrap64 ((Int.tmod t622 5) + 1)))) (fun _ hk => trivial)⟩, ⟨by refine bp ?_; refine blk_far ?_ NB633_637.out _; refine bp ?_; refine blk_far ?_ NB633_637.out _; refine bp ?_; refine blk_far ?_ NB633_637.out _; refine bp ?_; refine blk_far ?_ NB633_637.out _; refine bp ?_; refine blk_far ?_ NB633_637.out _; refine bp ?_; refine blk_far ?_ NB633_637.out _; refine bp ?_; refine blk_far ?_ NB633_637.out _; refine bp ?_; refine blk_far ?_ NB633_637.out _; refine bp ?_; exact BK633.out⟩, ⟨by refine bp ?_; refine blk_put (cs := #[.string t620, .int .i64 t621, .int .i64 t622, .string t623, .slice Ao9 t624.length co9, .slice Ao10 t627.length co10, .slice Ao11 t630.length co11]) ?_ 2 _ rfl; refine bp ?_; refine blk_put (cs := #[.string t620, .int .i64 t621, .int .i64 t622, .string t623, .slice Ao9 t624.length co9, .slice Ao10 t627.length co10, .slice none 0 0]) ?_ 6 _ rfl; refine bp ?_; refine blk_put (cs := #[.string t620, .int .i64 t621, .int .i64 t622, .string t623, .slice Ao9 t624.length co9, .slice none 0 0, .slice none 0 0]) ?_ 5 _ rfl; refine bp ?_; refine blk_put (cs := #[.string t620, .int .i64 t621, .int .i64 t622, .string t623, .slice none 0 0, .slice none 0 0, .slice none 0 0]) ?_ 4 _ rfl; refine bp ?_; refine blk_put (cs := #[.string t620, .int .i64 t621, .int .i64 t622, .string (⟨#[]⟩ : ByteArray), .slice none 0 0, .slice none 0 0, .slice none 0 0]) ?_ 3 _ rfl; refine bp ?_; refine blk_put (cs := #[.string t620, .int .i64 t621, .int .i64 0, .string (⟨#[]⟩ : ByteArray), .slice none 0 0, .slice none 0 0, .slice none 0 0]) ?_ 2 _ rfl; refine bp ?_; refine blk_put (cs := #[.string t620, .int .i64 0, .int .i64 0, .string (⟨#[]⟩ : ByteArray), .slice none 0 0, .slice none 0 0, .slice none 0 0]) ?_ 1 _ rfl; refine bp ?_; refine blk_put (cs := #[.string (⟨#[]⟩ : ByteArray), .int .i64 0, .int .i64 0, .string (⟨#[]⟩ : ByteArray), .slice none 0 0, .slice none 0 0, .slice none 0 0]) ?_ 0 _ rfl; refine bp ?_; exact BK637.out⟩, ⟨by exact b2 HB GE633 GE637⟩⟩
      ·rw [if_neg c29] at H
       have c29b0 : (t622 == 2) = false := beq_eq_false_iff_ne.mpr c29
       have c29b1 : (t622 != 2) = true := bne_iff_ne.mpr c29
       (first | rw [c29b0] | (simp only [i64_w, i32_w]; rw [c29b0]) | skip)
       have hnb33 := NB633_637.out
       have hnc33 := NB637_633.out
       have hcz34_0 : w25.cell? ⟨gb633, 0, none⟩ = some (.string t620) := bc BK633 0
       have hcz34_1 : w25.cell? ⟨gb633, 1, none⟩ = some (.int .i64 t621) := bc BK633 1
       have hcz34_2 : w25.cell? ⟨gb633, 2, none⟩ = some (.int .i64 t622) := bc BK633 2
       have hcz34_3 : w25.cell? ⟨gb633, 3, none⟩ = some (.string t623) := bc BK633 3
       have hcz34_4 : w25.cell? ⟨gb633, 4, none⟩ = some (.slice Ao9 t624.length co9) := bc BK633 4
       have hcz34_5 : w25.cell? ⟨gb633, 5, none⟩ = some (.slice Ao10 t627.length co10) := bc BK633 5
       have hcz34_6 : w25.cell? ⟨gb633, 6, none⟩ = some (.slice Ao11 t630.length co11) := bc BK633 6
       have hfz34_0 := zq6 BK633.out 0
       have hfz34_1 := zq6 BK633.out 1
       have hfz34_2 := zq6 BK633.out 2
       have hfz34_3 := zq6 BK633.out 3
       have hfz34_4 := zq6 BK633.out 4
       have hfz34_5 := zq6 BK633.out 5
       have hfz34_6 := zq6 BK633.out 6
       by_cases c32 : t622 = 1
       ·rw [if_pos c32] at H
        have c32b0 : (t622 == 1) = true := beq_iff_eq.mpr c32
        have c32b1 : (t622 != 1) = false := bne_eq_false_iff_eq.mpr c32
        clear c32
        have H' := zq9 H
        clear H
        go_wp2
        go_meet
        case rel => exact ⟨_, ((t623.toList == ([] : List UInt8))), (by first | rfl | (simp; done) | (simp [*]; done)), H', ⟨by have := HJ4.out; first | omega | exact Nat.le_refl _⟩, ⟨by (with_reducible repeat (first | apply zq21 | apply zq22 | apply zq23)); exact Kd.V_mono (Kd.V_far (p := ⟨gb637, 2, none⟩) (Kd.V_far (p := ⟨gb637, 6, none⟩) (Kd.V_far (p := ⟨gb637, 5, none⟩) (Kd.V_far (p := ⟨gb637, 4, none⟩) (Kd.V_far (p := ⟨gb637, 3, none⟩) (Kd.V_far (p := ⟨gb637, 2, none⟩) (Kd.V_far (p := ⟨gb637, 1, none⟩) (Kd.V_far (p := ⟨gb637, 0, none⟩) (Kd.V_mono HO_634004.out (fun k_ hk => (⟨hk, by first | exact hk.2 | exact hk | exact hk.1⟩ : _ ∧ k_ ≠ gb637))) (fun _ hk => hk.2) (.string t620)) (fun _ hk => hk.2) (.int .i64 t621)) (fun _ hk => hk.2) (.int .i64 t622)) (fun _ hk => hk.2) (.string t623)) (fun _ hk => hk.2) (.slice Ao9 t624.length co9)) (fun _ hk => hk.2) (.slice Ao10 t627.length co10)) (fun _ hk => hk.2) (.slice Ao11 t630.length co11)) (fun _ hk => hk.2) (.int .i64 (wrap64 ((Int.tmod t622 5) + 1)))) (fun _ hk => ⟨hk.1.1.1, ⟨hk.1.1.2.1, ⟨hk.1.1.1, ⟨hk.1.1.2.1, ⟨hk.1.1.2.2, hk.1.2⟩⟩⟩⟩⟩)⟩, ⟨by (with_reducible repeat (first | apply zq10 | apply zq11 | apply zq12)); exact Kd.R_mono (Kd.R_far (p := ⟨gb637, 2, none⟩) (Kd.R_far (p := ⟨gb637, 6, none⟩) (Kd.R_far (p := ⟨gb637, 5, none⟩) (Kd.R_far (p := ⟨gb637, 4, none⟩) (Kd.R_far (p := ⟨gb637, 3, none⟩) (Kd.R_far (p := ⟨gb637, 2, none⟩) (Kd.R_far (p := ⟨gb637, 1, none⟩) (Kd.R_far (p := ⟨gb637, 0, none⟩) (Kd.R_types HO_634005.out BK637.out (by decide)) (fun _ hk => hk.2) (.string t620)) (fun _ hk => hk.2) (.int .i64 t621)) (fun _ hk => hk.2) (.int .i64 t622)) (fun _ hk => hk.2) (.string t623)) (fun _ hk => hk.2) (.slice Ao9 t624.length co9)) (fun _ hk => hk.2) (.slice Ao10 t627.length co10)) (fun _ hk => hk.2) (.slice Ao11 t630.length co11)) (fun _ hk => hk.2) (.int .i64 (wrap64 ((Int.tmod t622 5) + 1)))) (fun _ hk => trivial)⟩, ⟨by (with_reducible repeat (first | apply zq10 | apply zq11 | apply zq12)); exact Kd.R_mono (Kd.R_far (p := ⟨gb637, 2, none⟩) (Kd.R_far (p := ⟨gb637, 6, none⟩) (Kd.R_far (p := ⟨gb637, 5, none⟩) (Kd.R_far (p := ⟨gb637, 4, none⟩) (Kd.R_far (p := ⟨gb637, 3, none⟩) (Kd.R_far (p := ⟨gb637, 2, none⟩) (Kd.R_far (p := ⟨gb637, 1, none⟩) (Kd.R_far (p := ⟨gb637, 0, none⟩) (Kd.R_types HO_634006.out BK637.out (by decide)) (fun _ hk => hk.2) (.string t620)) (fun _ hk => hk.2) (.int .i64 t621)) (fun _ hk => hk.2) (.int .i64 t622)) (fun _ hk => hk.2) (.string t623)) (fun _ hk => hk.2) (.slice Ao9 t624.length co9)) (fun _ hk => hk.2) (.slice Ao10 t627.length co10)) (fun _ hk => hk.2) (.slice Ao11 t630.length co11)) (fun _ hk => hk.2) (.int .i64 (wrap64 ((Int.tmod t622 5) + 1)))) (fun _ hk => trivial)⟩, ⟨by (with_reducible repeat (first | apply zq21 | apply zq22 | apply zq23)); exact Kd.V_mono (Kd.V_far (p := ⟨gb637, 2, none⟩) (Kd.V_far (p := ⟨gb637, 6, none⟩) (Kd.V_far (p := ⟨gb637, 5, none⟩) (Kd.V_far (p := ⟨gb637, 4, none⟩) (Kd.V_far (p := ⟨gb637, 3, none⟩) (Kd.V_far (p := ⟨gb637, 2, none⟩) (Kd.V_far (p := ⟨gb637, 1, none⟩) (Kd.V_far (p := ⟨gb637, 0, none⟩) (Kd.V_mono HO_634004.out (fun k_ hk => (⟨hk, by first | exact hk.2 | exact hk | exact hk.1⟩ : _ ∧ k_ ≠ gb637))) (fun _ hk => hk.2) (.string t620)) (fun _ hk => hk.2) (.int .i64 t621)) (fun _ hk => hk.2) (.int .i64 t622)) (fun _ hk => hk.2) (.string t623)) (fun _ hk => hk.2) (.slice Ao9 t624.length co9)) (fun _ hk => hk.2) (.slice Ao10 t627.length co10)) (fun _ hk => hk.2) (.slice Ao11 t630.length co11)) (fun _ hk => hk.2) (.int .i64 (wrap64 ((Int.tmod t622 5) + 1)))) (fun _ hk => ⟨hk.1.1.1, ⟨hk.1.1.2.1, ⟨hk.1.1.1, ⟨hk.1.1.2.1, ⟨hk.1.1.2.2, hk.1.2⟩⟩⟩⟩⟩)⟩, ⟨by (with_reducible repeat (first | apply zq10 | apply zq11 | apply zq12)); exact Kd.R_mono (Kd.R_far (p := ⟨gb637, 2, none⟩) (Kd.R_far (p := ⟨gb637, 6, none⟩) (Kd.R_far (p := ⟨gb637, 5, none⟩) (Kd.R_far (p := ⟨gb637, 4, none⟩) (Kd.R_far (p := ⟨gb637, 3, none⟩) (Kd.R_far (p := ⟨gb637, 2, none⟩) (Kd.R_far (p := ⟨gb637, 1, none⟩) (Kd.R_far (p := ⟨gb637, 0, none⟩) (Kd.R_types HO_634005.out BK637.out (by decide)) (fun _ hk => hk.2) (.string t620)) (fun _ hk => hk.2) (.int .i64 t621)) (fun _ hk => hk.2) (.int .i64 t622)) (fun _ hk => hk.2) (.string t623)) (fun _ hk => hk.2) (.slice Ao9 t624.length co9)) (fun _ hk => hk.2) (.slice Ao10 t627.length co10)) (fun _ hk => hk.2) (.slice Ao11 t630.length co11)) (fun _ hk => hk.2) (.int .i64 (wrap64 ((Int.tmod t622 5) + 1)))) (fun _ hk => trivial)⟩, ⟨by (with_reducible repeat (first | apply zq10 | apply zq11 | apply zq12)); exact Kd.R_mono (Kd.R_far (p := ⟨gb637, 2, none⟩) (Kd.R_far (p := ⟨gb637, 6, none⟩) (Kd.R_far (p := ⟨gb637, 5, none⟩) (Kd.R_far (p := ⟨gb637, 4, none⟩) (Kd.R_far (p := ⟨gb637, 3, none⟩) (Kd.R_far (p := ⟨gb637, 2, none⟩) (Kd.R_far (p := ⟨gb637, 1, none⟩) (Kd.R_far (p := ⟨gb637, 0, none⟩) (Kd.R_types HO_634006.out BK637.out (by decide)) (fun _ hk => hk.2) (.string t620)) (fun _ hk => hk.2) (.int .i64 t621)) (fun _ hk => hk.2) (.int .i64 t622)) (fun _ hk => hk.2) (.string t623)) (fun _ hk => hk.2) (.slice Ao9 t624.length co9)) (fun _ hk => hk.2) (.slice Ao10 t627.length co10)) (fun _ hk => hk.2) (.slice Ao11 t630.length co11)) (fun _ hk => hk.2) (.int .i64 (wrap64 ((Int.tmod t622 5) + 1)))) (fun _ hk => trivial)⟩, ⟨by refine bp ?_; refine blk_far ?_ NB633_637.out _; refine bp ?_; refine blk_far ?_ NB633_637.out _; refine bp ?_; refine blk_far ?_ NB633_637.out _; refine bp ?_; refine blk_far ?_ NB633_637.out _; refine bp ?_; refine blk_far ?_ NB633_637.out _; refine bp ?_; refine blk_far ?_ NB633_637.out _; refine bp ?_; refine blk_far ?_ NB633_637.out _; refine bp ?_; refine blk_far ?_ NB633_637.out _; refine bp ?_; exact BK633.out⟩, ⟨by refine bp ?_; refine blk_put (cs := #[.string t620, .int .i64 t621, .int .i64 t622, .string t623, .slice Ao9 t624.length co9, .slice Ao10 t627.length co10, .slice Ao11 t630.length co11]) ?_ 2 _ rfl; refine bp ?_; refine blk_put (cs := #[.string t620, .int .i64 t621, .int .i64 t622, .string t623, .slice Ao9 t624.length co9, .slice Ao10 t627.length co10, .slice none 0 0]) ?_ 6 _ rfl; refine bp ?_; refine blk_put (cs := #[.string t620, .int .i64 t621, .int .i64 t622, .string t623, .slice Ao9 t624.length co9, .slice none 0 0, .slice none 0 0]) ?_ 5 _ rfl; refine bp ?_; refine blk_put (cs := #[.string t620, .int .i64 t621, .int .i64 t622, .string t623, .slice none 0 0, .slice none 0 0, .slice none 0 0]) ?_ 4 _ rfl; refine bp ?_; refine blk_put (cs := #[.string t620, .int .i64 t621, .int .i64 t622, .string (⟨#[]⟩ : ByteArray), .slice none 0 0, .slice none 0 0, .slice none 0 0]) ?_ 3 _ rfl; refine bp ?_; refine blk_put (cs := #[.string t620, .int .i64 t621, .int .i64 0, .string (⟨#[]⟩ : ByteArray), .slice none 0 0, .slice none 0 0, .slice none 0 0]) ?_ 2 _ rfl; refine bp ?_; refine blk_put (cs := #[.string t620, .int .i64 0, .int .i64 0, .string (⟨#[]⟩ : ByteArray), .slice none 0 0, .slice none 0 0, .slice none 0 0]) ?_ 1 _ rfl; refine bp ?_; refine blk_put (cs := #[.string (⟨#[]⟩ : ByteArray), .int .i64 0, .int .i64 0, .string (⟨#[]⟩ : ByteArray), .slice none 0 0, .slice none 0 0, .slice none 0 0]) ?_ 0 _ rfl; refine bp ?_; exact BK637.out⟩, ⟨by exact b2 HB GE633 GE637⟩⟩
       ·rw [if_neg c32] at H
        have c32b0 : (t622 == 1) = false := beq_eq_false_iff_ne.mpr c32
        have c32b1 : (t622 != 1) = true := bne_iff_ne.mpr c32
        have H' := zq9 H
        clear H
        go_wp2
        go_meet
        case rel => exact ⟨_, (false), (by first | rfl | (simp; done) | (simp [*]; done)), H', ⟨by have := HJ4.out; first | omega | exact Nat.le_refl _⟩, ⟨by (with_reducible repeat (first | apply zq21 | apply zq22 | apply zq23)); exact Kd.V_mono (Kd.V_far (p := ⟨gb637, 2, none⟩) (Kd.V_far (p := ⟨gb637, 6, none⟩) (Kd.V_far (p := ⟨gb637, 5, none⟩) (Kd.V_far (p := ⟨gb637, 4, none⟩) (Kd.V_far (p := ⟨gb637, 3, none⟩) (Kd.V_far (p := ⟨gb637, 2, none⟩) (Kd.V_far (p := ⟨gb637, 1, none⟩) (Kd.V_far (p := ⟨gb637, 0, none⟩) (Kd.V_mono HO_634004.out (fun k_ hk => (⟨hk, by first | exact hk.2 | exact hk | exact hk.1⟩ : _ ∧ k_ ≠ gb637))) (fun _ hk => hk.2) (.string t620)) (fun _ hk => hk.2) (.int .i64 t621)) (fun _ hk => hk.2) (.int .i64 t622)) (fun _ hk => hk.2) (.string t623)) (fun _ hk => hk.2) (.slice Ao9 t624.length co9)) (fun _ hk => hk.2) (.slice Ao10 t627.length co10)) (fun _ hk => hk.2) (.slice Ao11 t630.length co11)) (fun _ hk => hk.2) (.int .i64 (wrap64 ((Int.tmod t622 5) + 1)))) (fun _ hk => ⟨hk.1.1.1, ⟨hk.1.1.2.1, ⟨hk.1.1.1, ⟨hk.1.1.2.1, ⟨hk.1.1.2.2, hk.1.2⟩⟩⟩⟩⟩)⟩, ⟨by (with_reducible repeat (first | apply zq10 | apply zq11 | apply zq12)); exact Kd.R_mono (Kd.R_far (p := ⟨gb637, 2, none⟩) (Kd.R_far (p := ⟨gb637, 6, none⟩) (Kd.R_far (p := ⟨gb637, 5, none⟩) (Kd.R_far (p := ⟨gb637, 4, none⟩) (Kd.R_far (p := ⟨gb637, 3, none⟩) (Kd.R_far (p := ⟨gb637, 2, none⟩) (Kd.R_far (p := ⟨gb637, 1, none⟩) (Kd.R_far (p := ⟨gb637, 0, none⟩) (Kd.R_types HO_634005.out BK637.out (by decide)) (fun _ hk => hk.2) (.string t620)) (fun _ hk => hk.2) (.int .i64 t621)) (fun _ hk => hk.2) (.int .i64 t622)) (fun _ hk => hk.2) (.string t623)) (fun _ hk => hk.2) (.slice Ao9 t624.length co9)) (fun _ hk => hk.2) (.slice Ao10 t627.length co10)) (fun _ hk => hk.2) (.slice Ao11 t630.length co11)) (fun _ hk => hk.2) (.int .i64 (wrap64 ((Int.tmod t622 5) + 1)))) (fun _ hk => trivial)⟩, ⟨by (with_reducible repeat (first | apply zq10 | apply zq11 | apply zq12)); exact Kd.R_mono (Kd.R_far (p := ⟨gb637, 2, none⟩) (Kd.R_far (p := ⟨gb637, 6, none⟩) (Kd.R_far (p := ⟨gb637, 5, none⟩) (Kd.R_far (p := ⟨gb637, 4, none⟩) (Kd.R_far (p := ⟨gb637, 3, none⟩) (Kd.R_far (p := ⟨gb637, 2, none⟩) (Kd.R_far (p := ⟨gb637, 1, none⟩) (Kd.R_far (p := ⟨gb637, 0, none⟩) (Kd.R_types HO_634006.out BK637.out (by decide)) (fun _ hk => hk.2) (.string t620)) (fun _ hk => hk.2) (.int .i64 t621)) (fun _ hk => hk.2) (.int .i64 t622)) (fun _ hk => hk.2) (.string t623)) (fun _ hk => hk.2) (.slice Ao9 t624.length co9)) (fun _ hk => hk.2) (.slice Ao10 t627.length co10)) (fun _ hk => hk.2) (.slice Ao11 t630.length co11)) (fun _ hk => hk.2) (.int .i64 (wrap64 ((Int.tmod t622 5) + 1)))) (fun _ hk => trivial)⟩, ⟨by (with_reducible repeat (first | apply zq21 | apply zq22 | apply zq23)); exact Kd.V_mono (Kd.V_far (p := ⟨gb637, 2, none⟩) (Kd.V_far (p := ⟨gb637, 6, none⟩) (Kd.V_far (p := ⟨gb637, 5, none⟩) (Kd.V_far (p := ⟨gb637, 4, none⟩) (Kd.V_far (p := ⟨gb637, 3, none⟩) (Kd.V_far (p := ⟨gb637, 2, none⟩) (Kd.V_far (p := ⟨gb637, 1, none⟩) (Kd.V_far (p := ⟨gb637, 0, none⟩) (Kd.V_mono HO_634004.out (fun k_ hk => (⟨hk, by first | exact hk.2 | exact hk | exact hk.1⟩ : _ ∧ k_ ≠ gb637))) (fun _ hk => hk.2) (.string t620)) (fun _ hk => hk.2) (.int .i64 t621)) (fun _ hk => hk.2) (.int .i64 t622)) (fun _ hk => hk.2) (.string t623)) (fun _ hk => hk.2) (.slice Ao9 t624.length co9)) (fun _ hk => hk.2) (.slice Ao10 t627.length co10)) (fun _ hk => hk.2) (.slice Ao11 t630.length co11)) (fun _ hk => hk.2) (.int .i64 (wrap64 ((Int.tmod t622 5) + 1)))) (fun _ hk => ⟨hk.1.1.1, ⟨hk.1.1.2.1, ⟨hk.1.1.1, ⟨hk.1.1.2.1, ⟨hk.1.1.2.2, hk.1.2⟩⟩⟩⟩⟩)⟩, ⟨by (with_reducible repeat (first | apply zq10 | apply zq11 | apply zq12)); exact Kd.R_mono (Kd.R_far (p := ⟨gb637, 2, none⟩) (Kd.R_far (p := ⟨gb637, 6, none⟩) (Kd.R_far (p := ⟨gb637, 5, none⟩) (Kd.R_far (p := ⟨gb637, 4, none⟩) (Kd.R_far (p := ⟨gb637, 3, none⟩) (Kd.R_far (p := ⟨gb637, 2, none⟩) (Kd.R_far (p := ⟨gb637, 1, none⟩) (Kd.R_far (p := ⟨gb637, 0, none⟩) (Kd.R_types HO_634005.out BK637.out (by decide)) (fun _ hk => hk.2) (.string t620)) (fun _ hk => hk.2) (.int .i64 t621)) (fun _ hk => hk.2) (.int .i64 t622)) (fun _ hk => hk.2) (.string t623)) (fun _ hk => hk.2) (.slice Ao9 t624.length co9)) (fun _ hk => hk.2) (.slice Ao10 t627.length co10)) (fun _ hk => hk.2) (.slice Ao11 t630.length co11)) (fun _ hk => hk.2) (.int .i64 (wrap64 ((Int.tmod t622 5) + 1)))) (fun _ hk => trivial)⟩, ⟨by (with_reducible repeat (first | apply zq10 | apply zq11 | apply zq12)); exact Kd.R_mono (Kd.R_far (p := ⟨gb637, 2, none⟩) (Kd.R_far (p := ⟨gb637, 6, none⟩) (Kd.R_far (p := ⟨gb637, 5, none⟩) (Kd.R_far (p := ⟨gb637, 4, none⟩) (Kd.R_far (p := ⟨gb637, 3, none⟩) (Kd.R_far (p := ⟨gb637, 2, none⟩) (Kd.R_far (p := ⟨gb637, 1, none⟩) (Kd.R_far (p := ⟨gb637, 0, none⟩) (Kd.R_types HO_634006.out BK637.out (by decide)) (fun _ hk => hk.2) (.string t620)) (fun _ hk => hk.2) (.int .i64 t621)) (fun _ hk => hk.2) (.int .i64 t622)) (fun _ hk => hk.2) (.string t623)) (fun _ hk => hk.2) (.slice Ao9 t624.length co9)) (fun _ hk => hk.2) (.slice Ao10 t627.length co10)) (fun _ hk => hk.2) (.slice Ao11 t630.length co11)) (fun _ hk => hk.2) (.int .i64 (wrap64 ((Int.tmod t622 5) + 1)))) (fun _ hk => trivial)⟩, ⟨by refine bp ?_; refine blk_far ?_ NB633_637.out _; refine bp ?_; refine blk_far ?_ NB633_637.out _; refine bp ?_; refine blk_far ?_ NB633_637.out _; refine bp ?_; refine blk_far ?_ NB633_637.out _; refine bp ?_; refine blk_far ?_ NB633_637.out _; refine bp ?_; refine blk_far ?_ NB633_637.out _; refine bp ?_; refine blk_far ?_ NB633_637.out _; refine bp ?_; refine blk_far ?_ NB633_637.out _; refine bp ?_; exact BK633.out⟩, ⟨by refine bp ?_; refine blk_put (cs := #[.string t620, .int .i64 t621, .int .i64 t622, .string t623, .slice Ao9 t624.length co9, .slice Ao10 t627.length co10, .slice Ao11 t630.length co11]) ?_ 2 _ rfl; refine bp ?_; refine blk_put (cs := #[.string t620, .int .i64 t621, .int .i64 t622, .string t623, .slice Ao9 t624.length co9, .slice Ao10 t627.length co10, .slice none 0 0]) ?_ 6 _ rfl; refine bp ?_; refine blk_put (cs := #[.string t620, .int .i64 t621, .int .i64 t622, .string t623, .slice Ao9 t624.length co9, .slice none 0 0, .slice none 0 0]) ?_ 5 _ rfl; refine bp ?_; refine blk_put (cs := #[.string t620, .int .i64 t621, .int .i64 t622, .string t623, .slice none 0 0, .slice none 0 0, .slice none 0 0]) ?_ 4 _ rfl; refine bp ?_; refine blk_put (cs := #[.string t620, .int .i64 t621, .int .i64 t622, .string (⟨#[]⟩ : ByteArray), .slice none 0 0, .slice none 0 0, .slice none 0 0]) ?_ 3 _ rfl; refine bp ?_; refine blk_put (cs := #[.string t620, .int .i64 t621, .int .i64 0, .string (⟨#[]⟩ : ByteArray), .slice none 0 0, .slice none 0 0, .slice none 0 0]) ?_ 2 _ rfl; refine bp ?_; refine blk_put (cs := #[.string t620, .int .i64 0, .int .i64 0, .string (⟨#[]⟩ : ByteArray), .slice none 0 0, .slice none 0 0, .slice none 0 0]) ?_ 1 _ rfl; refine bp ?_; refine blk_put (cs := #[.string (⟨#[]⟩ : ByteArray), .int .i64 0, .int .i64 0, .string (⟨#[]⟩ : ByteArray), .slice none 0 0, .slice none 0 0, .slice none 0 0]) ?_ 0 _ rfl; refine bp ?_; exact BK637.out⟩, ⟨by exact b2 HB GE633 GE637⟩⟩
     case rest =>
      clear HC23
      try clear c1
      try clear c2
      try clear c2b0
      try clear c2b1
      try clear p2
      try clear c3
      try clear c4
      try clear p6
      try clear c11
      try clear c13
      try clear c14
      try clear c14b0
      try clear c14b1
      try clear c14b2
      try clear c15
      try clear c19
      try clear c26
      try clear c29
      try clear c29b0
      try clear c29b1
      try clear c30
      try clear c32
      try clear c32b0
      try clear c32b1
      try clear c33
      try clear c35
      try clear hcz15_0
      try clear hcz15_1
      try clear hcz15_2
      try clear hcz15_3
      try clear hcz15_4
      try clear hcz15_5
      try clear hcz15_6
      try clear hcz17_0
      try clear hcz17_1
      try clear hcz17_2
      try clear hcz17_3
      try clear hcz17_4
      try clear hcz17_5
      try clear hcz17_6
      try clear hcz21_0
      try clear hcz21_1
      try clear hcz21_2
      try clear hcz21_3
      try clear hcz21_4
      try clear hcz21_5
      try clear hcz21_6
      try clear hcz24_0
      try clear hcz24_1
      try clear hcz24_2
      try clear hcz24_3
      try clear hcz24_4
      try clear hcz24_5
      try clear hcz24_6
      try clear hcz27_0
      try clear hcz27_1
      try clear hcz27_2
      try clear hcz27_3
      try clear hcz27_4
      try clear hcz27_5
      try clear hcz27_6
      try clear hcz28_0
      try clear hcz28_1
      try clear hcz28_2
      try clear hcz28_3
      try clear hcz28_4
      try clear hcz28_5
      try clear hcz28_6
      try clear hcz31_0
      try clear hcz31_1
      try clear hcz31_2
      try clear hcz31_3
      try clear hcz31_4
      try clear hcz31_5
      try clear hcz31_6
      try clear hcz34_0
      try clear hcz34_1
      try clear hcz34_2
      try clear hcz34_3
      try clear hcz34_4
      try clear hcz34_5
      try clear hcz34_6
      try clear hcz36_0
      try clear hcz36_1
      try clear hcz36_2
      try clear hcz36_3
      try clear hcz36_4
      try clear hcz36_5
      try clear hcz36_6
      try clear hcz8_0
      try clear hcz8_1
      try clear hcz8_2
      try clear hcz8_3
      try clear hcz8_4
      try clear hcz8_5
      try clear hcz8_6
      try clear hfz15_0
      try clear hfz15_1
      try clear hfz15_2
      try clear hfz15_3
      try clear hfz15_4
      try clear hfz15_5
      try clear hfz15_6
      try clear hfz17_0
      try clear hfz17_1
      try clear hfz17_2
      try clear hfz17_3
      try clear hfz17_4
      try clear hfz17_5
      try clear hfz17_6
      try clear hfz21_0
      try clear hfz21_1
      try clear hfz21_2
      try clear hfz21_3
      try clear hfz21_4
      try clear hfz21_5
      try clear hfz21_6
      try clear hfz24_0
      try clear hfz24_1
      try clear hfz24_2
      try clear hfz24_3
      try clear hfz24_4
      try clear hfz24_5
      try clear hfz24_6
      try clear hfz27_0
      try clear hfz27_1
      try clear hfz27_2
      try clear hfz27_3
      try clear hfz27_4
      try clear hfz27_5
      try clear hfz27_6
      try clear hfz28_0
      try clear hfz28_1
      try clear hfz28_2
      try clear hfz28_3
      try clear hfz28_4
      try clear hfz28_5
      try clear hfz28_6
      try clear hfz31_0
      try clear hfz31_1
      try clear hfz31_2
      try clear hfz31_3
      try clear hfz31_4
      try clear hfz31_5
      try clear hfz31_6
      try clear hfz34_0
      try clear hfz34_1
      try clear hfz34_2
      try clear hfz34_3
      try clear hfz34_4
      try clear hfz34_5
      try clear hfz34_6
      try clear hfz36_0
      try clear hfz36_1
      try clear hfz36_2
      try clear hfz36_3
      try clear hfz36_4
      try clear hfz36_5
      try clear hfz36_6
      try clear hfz8_0
      try clear hfz8_1
      try clear hfz8_2
      try clear hfz8_3
      try clear hfz8_4
      try clear hfz8_5
      try clear hfz8_6
      try clear p2
      obtain ⟨kq, x44_22, rfl, HA, HJ22, HO_634004, HO_634005, HO_634006, HO_638004, HO_638005, HO_638006, BK633, BK637, HB⟩ := hcut
      cases kq with
      | zero => exact absurd HA.out (by simp [laws_FnEntryOk.j1])
      | succ kj22 =>
       have H := HA.out
       clear HA
       simp only [laws_FnEntryOk.j1] at H
       have HC37 := zq9 H
       clear H
       go_upto_if 44 with (fail)
       go_cut [] (fun wc => ∃ (kq : Nat) (x638002_36 : Int), Aside0 (laws_FnEntryOk.j2 kq t620 t621 t622 t623 t624 t627 t630 t620 t621 x638002_36 t623 t624 t627 t630 = some r) ∧ Aside0 (kq ≤ kj22) ∧ Aside0 (Kd.V Kd.string 9 wc w.heap.size (fun k_ => some k_ ≠ ((.slice Ao10 t627.length co10) : Value).ownBlock ∧ some k_ ≠ ((.slice Ao11 t630.length co11) : Value).ownBlock ∧ some k_ ≠ ((.slice Ao10 t627.length co10) : Value).ownBlock ∧ some k_ ≠ ((.slice Ao11 t630.length co11) : Value).ownBlock ∧ k_ ≠ gb633 ∧ k_ ≠ gb637) (.slice Ao9 t624.length co9) t624) ∧ Aside0 (Kd.R k99 99 wc w.heap.size (fun _ => True) (.slice Ao10 t627.length co10) t627) ∧ Aside0 (Kd.R k101 101 wc w.heap.size (fun _ => True) (.slice Ao11 t630.length co11) t630) ∧ Aside0 (Kd.V Kd.string 9 wc w.heap.size (fun k_ => some k_ ≠ ((.slice Ao10 t627.length co10) : Value).ownBlock ∧ some k_ ≠ ((.slice Ao11 t630.length co11) : Value).ownBlock ∧ some k_ ≠ ((.slice Ao10 t627.length co10) : Value).ownBlock ∧ some k_ ≠ ((.slice Ao11 t630.length co11) : Value).ownBlock ∧ k_ ≠ gb633 ∧ k_ ≠ gb637) (.slice Ao9 t624.length co9) t624) ∧ Aside0 (Kd.R k99 99 wc w.heap.size (fun _ => True) (.slice Ao10 t627.length co10) t627) ∧ Aside0 (Kd.R k101 101 wc w.heap.size (fun _ => True) (.slice Ao11 t630.length co11) t630) ∧ Aside0 (wc.heap[gb633]? = some (.cells #[.string t620, .int .i64 t621, .int .i64 t622, .string t623, (.slice Ao9 t624.length co9), (.slice Ao10 t627.length co10), (.slice Ao11 t630.length co11)] 32 (0, 0))) ∧ Aside0 (wc.heap[gb637]? = some (.cells #[.string t620, .int .i64 t621, .int .i64 x638002_36, .string t623, (.slice Ao9 t624.length co9), (.slice Ao10 t627.length co10), (.slice Ao11 t630.length co11)] 32 (0, 0))) ∧ Aside0 (Below w.heap.size w wc))
       case first =>
        have H := HC37.out
        clear HC37
        by_cases c38 : x44_22 = true
        ·subst c38
         have H1 : (laws_FnEntryOk.j2 kj22 t620 t621 t622 t623 t624 t627 t630 t620 t621 4 t623 t624 t627 t630) = some r := by rw [if_pos rfl] at H; exact H
         clear H
         have H := H1
         clear H1
         have H' := zq9 H
         clear H
         have hnb39 := NB637_633.out
         have hnc39 := NB633_637.out
         have hcz40_0 : wc.cell? ⟨gb637, 0, none⟩ = some (.string t620) := bc BK637 0
         have hcz40_1 : wc.cell? ⟨gb637, 1, none⟩ = some (.int .i64 t621) := bc BK637 1
         have hcz40_2 : wc.cell? ⟨gb637, 2, none⟩ = some (.int .i64 (wrap64 ((Int.tmod t622 5) + 1))) := bc BK637 2
         have hcz40_3 : wc.cell? ⟨gb637, 3, none⟩ = some (.string t623) := bc BK637 3
         have hcz40_4 : wc.cell? ⟨gb637, 4, none⟩ = some (.slice Ao9 t624.length co9) := bc BK637 4
         have hcz40_5 : wc.cell? ⟨gb637, 5, none⟩ = some (.slice Ao10 t627.length co10) := bc BK637 5
         have hcz40_6 : wc.cell? ⟨gb637, 6, none⟩ = some (.slice Ao11 t630.length co11) := bc BK637 6
         have hfz40_0 := zq6 BK637.out 0
         have hfz40_1 := zq6 BK637.out 1
         have hfz40_2 := zq6 BK637.out 2
         have hfz40_3 := zq6 BK637.out 3
         have hfz40_4 := zq6 BK637.out 4
         have hfz40_5 := zq6 BK637.out 5
         have hfz40_6 := zq6 BK637.out 6
         go_wp2
         go_meet
         case rel => exact ⟨_, (4), H', ⟨by have := HJ4.out; have := HJ22.out; first | omega | exact Nat.le_refl _⟩, ⟨by (with_reducible repeat (first | apply zq21 | apply zq22 | apply zq23)); exact Kd.V_mono (Kd.V_far (p := ⟨gb637, 2, none⟩) (Kd.V_mono HO_634004.out (fun k_ hk => (⟨hk, hk.2.2.2.2.2⟩ : _ ∧ k_ ≠ gb637))) (fun _ hk => hk.2) (.int .i64 4)) (fun _ hk => ⟨hk.1.1, ⟨hk.1.2.1, ⟨hk.1.2.2.1, ⟨hk.1.2.2.2.1, ⟨hk.1.2.2.2.2.1, hk.1.2.2.2.2.2⟩⟩⟩⟩⟩)⟩, ⟨by (with_reducible repeat (first | apply zq10 | apply zq11 | apply zq12)); exact Kd.R_mono (Kd.R_far (p := ⟨gb637, 2, none⟩) (Kd.R_types HO_634005.out BK637.out (by decide)) (fun _ hk => hk.2) (.int .i64 4)) (fun _ hk => trivial)⟩, ⟨by (with_reducible repeat (first | apply zq10 | apply zq11 | apply zq12)); exact Kd.R_mono (Kd.R_far (p := ⟨gb637, 2, none⟩) (Kd.R_types HO_634006.out BK637.out (by decide)) (fun _ hk => hk.2) (.int .i64 4)) (fun _ hk => trivial)⟩, ⟨by (with_reducible repeat (first | apply zq21 | apply zq22 | apply zq23)); exact Kd.V_mono (Kd.V_far (p := ⟨gb637, 2, none⟩) (Kd.V_mono HO_638004.out (fun k_ hk => (⟨hk, hk.2.2.2.2.2⟩ : _ ∧ k_ ≠ gb637))) (fun _ hk => hk.2) (.int .i64 4)) (fun _ hk => ⟨hk.1.1, ⟨hk.1.2.1, ⟨hk.1.2.2.1, ⟨hk.1.2.2.2.1, ⟨hk.1.2.2.2.2.1, hk.1.2.2.2.2.2⟩⟩⟩⟩⟩)⟩, ⟨by (with_reducible repeat (first | apply zq10 | apply zq11 | apply zq12)); exact Kd.R_mono (Kd.R_far (p := ⟨gb637, 2, none⟩) (Kd.R_types HO_638005.out BK637.out (by decide)) (fun _ hk => hk.2) (.int .i64 4)) (fun _ hk => trivial)⟩, ⟨by (with_reducible repeat (first | apply zq10 | apply zq11 | apply zq12)); exact Kd.R_mono (Kd.R_far (p := ⟨gb637, 2, none⟩) (Kd.R_types HO_638006.out BK637.out (by decide)) (fun _ hk => hk.2) (.int .i64 4)) (fun _ hk => trivial)⟩, ⟨by refine bp ?_; refine blk_far ?_ NB633_637.out _; refine bp ?_; exact BK633.out⟩, ⟨by refine bp ?_; refine blk_put (cs := #[.string t620, .int .i64 t621, .int .i64 (wrap64 ((Int.tmod t622 5) + 1)), .string t623, .slice Ao9 t624.length co9, .slice Ao10 t627.length co10, .slice Ao11 t630.length co11]) ?_ 2 _ rfl; refine bp ?_; exact BK637.out⟩, ⟨by exact b2 HB GE633 GE637⟩⟩
        ·replace c38 := Bool.eq_false_iff.mpr c38
         subst c38
         have H1 : (laws_FnEntryOk.j2 kj22 t620 t621 t622 t623 t624 t627 t630 t620 t621 (wrap64 ((Int.tmod t622 5) + 1)) t623 t624 t627 t630) = some r := by rw [if_neg (show ¬ (false = true) by decide)] at H; exact H
         clear H
         have H := H1
         clear H1
         have H' := zq9 H
         clear H
         go_wp2
         go_meet
         case rel => exact ⟨_, ((wrap64 ((Int.tmod t622 5) + 1))), H', ⟨by have := HJ4.out; have := HJ22.out; first | omega | exact Nat.le_refl _⟩, ⟨by (with_reducible repeat (first | apply zq21 | apply zq22 | apply zq23)); exact HO_634004.out⟩, ⟨by (with_reducible repeat (first | apply zq10 | apply zq11 | apply zq12)); exact HO_634005.out⟩, ⟨by (with_reducible repeat (first | apply zq10 | apply zq11 | apply zq12)); exact HO_634006.out⟩, ⟨by (with_reducible repeat (first | apply zq21 | apply zq22 | apply zq23)); exact HO_638004.out⟩, ⟨by (with_reducible repeat (first | apply zq10 | apply zq11 | apply zq12)); exact HO_638005.out⟩, ⟨by (with_reducible repeat (first | apply zq10 | apply zq11 | apply zq12)); exact HO_638006.out⟩, ⟨by refine bp ?_; exact BK633.out⟩, ⟨by refine bp ?_; exact BK637.out⟩, ⟨by exact b2 HB GE633 GE637⟩⟩
       case rest =>
        clear HC37
        try clear c1
        try clear c2
        try clear c2b0
        try clear c2b1
        try clear p2
        try clear c3
        try clear c4
        try clear p6
        try clear c11
        try clear c13
        try clear c14
        try clear c14b0
        try clear c14b1
        try clear c14b2
        try clear c15
        try clear c19
        try clear c26
        try clear c29
        try clear c29b0
        try clear c29b1
        try clear c30
        try clear c32
        try clear c32b0
        try clear c32b1
        try clear c33
        try clear c35
        try clear c38
        try clear c39
        try clear hcz15_0
        try clear hcz15_1
        try clear hcz15_2
        try clear hcz15_3
        try clear hcz15_4
        try clear hcz15_5
        try clear hcz15_6
        try clear hcz17_0
        try clear hcz17_1
        try clear hcz17_2
        try clear hcz17_3
        try clear hcz17_4
        try clear hcz17_5
        try clear hcz17_6
        try clear hcz21_0
        try clear hcz21_1
        try clear hcz21_2
        try clear hcz21_3
        try clear hcz21_4
        try clear hcz21_5
        try clear hcz21_6
        try clear hcz24_0
        try clear hcz24_1
        try clear hcz24_2
        try clear hcz24_3
        try clear hcz24_4
        try clear hcz24_5
        try clear hcz24_6
        try clear hcz27_0
        try clear hcz27_1
        try clear hcz27_2
        try clear hcz27_3
        try clear hcz27_4
        try clear hcz27_5
        try clear hcz27_6
        try clear hcz28_0
        try clear hcz28_1
        try clear hcz28_2
        try clear hcz28_3
        try clear hcz28_4
        try clear hcz28_5
        try clear hcz28_6
        try clear hcz31_0
        try clear hcz31_1
        try clear hcz31_2
        try clear hcz31_3
        try clear hcz31_4
        try clear hcz31_5
        try clear hcz31_6
        try clear hcz34_0
        try clear hcz34_1
        try clear hcz34_2
        try clear hcz34_3
        try clear hcz34_4
        try clear hcz34_5
        try clear hcz34_6
        try clear hcz36_0
        try clear hcz36_1
        try clear hcz36_2
        try clear hcz36_3
        try clear hcz36_4
        try clear hcz36_5
        try clear hcz36_6
        try clear hcz40_0
        try clear hcz40_1
        try clear hcz40_2
        try clear hcz40_3
        try clear hcz40_4
        try clear hcz40_5
        try clear hcz40_6
        try clear hcz8_0
        try clear hcz8_1
        try clear hcz8_2
        try clear hcz8_3
        try clear hcz8_4
        try clear hcz8_5
        try clear hcz8_6
        try clear hfz15_0
        try clear hfz15_1
        try clear hfz15_2
        try clear hfz15_3
        try clear hfz15_4
        try clear hfz15_5
        try clear hfz15_6
        try clear hfz17_0
        try clear hfz17_1
        try clear hfz17_2
        try clear hfz17_3
        try clear hfz17_4
        try clear hfz17_5
        try clear hfz17_6
        try clear hfz21_0
        try clear hfz21_1
        try clear hfz21_2
        try clear hfz21_3
        try clear hfz21_4
        try clear hfz21_5
        try clear hfz21_6
        try clear hfz24_0
        try clear hfz24_1
        try clear hfz24_2
        try clear hfz24_3
        try clear hfz24_4
        try clear hfz24_5
        try clear hfz24_6
        try clear hfz27_0
        try clear hfz27_1
        try clear hfz27_2
        try clear hfz27_3
        try clear hfz27_4
        try clear hfz27_5
        try clear hfz27_6
        try clear hfz28_0
        try clear hfz28_1
        try clear hfz28_2
        try clear hfz28_3
        try clear hfz28_4
        try clear hfz28_5
        try clear hfz28_6
        try clear hfz31_0
        try clear hfz31_1
        try clear hfz31_2
        try clear hfz31_3
        try clear hfz31_4
        try clear hfz31_5
        try clear hfz31_6
        try clear hfz34_0
        try clear hfz34_1
        try clear hfz34_2
        try clear hfz34_3
        try clear hfz34_4
        try clear hfz34_5
        try clear hfz34_6
        try clear hfz36_0
        try clear hfz36_1
        try clear hfz36_2
        try clear hfz36_3
        try clear hfz36_4
        try clear hfz36_5
        try clear hfz36_6
        try clear hfz40_0
        try clear hfz40_1
        try clear hfz40_2
        try clear hfz40_3
        try clear hfz40_4
        try clear hfz40_5
        try clear hfz40_6
        try clear hfz8_0
        try clear hfz8_1
        try clear hfz8_2
        try clear hfz8_3
        try clear hfz8_4
        try clear hfz8_5
        try clear hfz8_6
        try clear p2
        try clear p6
        obtain ⟨kq, x638002_36, HA, HJ36, HO_634004, HO_634005, HO_634006, HO_638004, HO_638005, HO_638006, BK633, BK637, HB⟩ := hcut
        cases kq with
        | zero => exact absurd HA.out (by simp [laws_FnEntryOk.j2])
        | succ kj36 =>
         have H := HA.out
         clear HA
         simp only [laws_FnEntryOk.j2] at H
         replace H := Option.bind_eq_some_iff.mp H
         obtain ⟨t639, A410, H⟩ := H
         try dsimp only at H
         have A41 := zq9 A410
         clear A410
         by_cases c42 : t639 = true
         ·subst c42
          have H1 : (some false) = some r := by rw [if_pos rfl] at H; exact H
          clear H
          have H := H1
          clear H1
          obtain rfl := Option.some.inj H
          cases hr_
         ·replace c42 := Bool.eq_false_iff.mpr c42
          subst c42
          have H1 : ((impl_EntryOk.f kj36 t620 t621 0 t623 t624 t627 t630).bind fun t640 => (if t640 = true then (some false) else (if t622 = 1 then (some true) else (some (decide ((wrap64 ((wrap64 ((t624.length : Int) + (t627.length : Int))) + (t630.length : Int))) > 0)))))) = some r := by rw [if_neg (show ¬ (false = true) by decide)] at H; exact H
          clear H
          have H := H1
          clear H1
          replace H := Option.bind_eq_some_iff.mp H
          obtain ⟨t640, A510, H⟩ := H
          try dsimp only at H
          have A51 := zq9 A510
          clear A510
          by_cases c52 : t640 = true
          ·subst c52
           have H1 : (some false) = some r := by rw [if_pos rfl] at H; exact H
           clear H
           have H := H1
           clear H1
           obtain rfl := Option.some.inj H
           cases hr_
          ·replace c52 := Bool.eq_false_iff.mpr c52
           subst c52
           have H1 : (if t622 = 1 then (some true) else (some (decide ((wrap64 ((wrap64 ((t624.length : Int) + (t627.length : Int))) + (t630.length : Int))) > 0)))) = some r := by rw [if_neg (show ¬ (false = true) by decide)] at H; exact H
           clear H
           have H := H1
           clear H1
           have hnb64 := NB633_637.out
           have hnc64 := NB637_633.out
           have hcz65_0 : wc.cell? ⟨gb633, 0, none⟩ = some (.string t620) := bc BK633 0
           have hcz65_1 : wc.cell? ⟨gb633, 1, none⟩ = some (.int .i64 t621) := bc BK633 1
           have hcz65_2 : wc.cell? ⟨gb633, 2, none⟩ = some (.int .i64 t622) := bc BK633 2
           have hcz65_3 : wc.cell? ⟨gb633, 3, none⟩ = some (.string t623) := bc BK633 3
           have hcz65_4 : wc.cell? ⟨gb633, 4, none⟩ = some (.slice Ao9 t624.length co9) := bc BK633 4
           have hcz65_5 : wc.cell? ⟨gb633, 5, none⟩ = some (.slice Ao10 t627.length co10) := bc BK633 5
           have hcz65_6 : wc.cell? ⟨gb633, 6, none⟩ = some (.slice Ao11 t630.length co11) := bc BK633 6
           have hfz65_0 := zq6 BK633.out 0
           have hfz65_1 := zq6 BK633.out 1
           have hfz65_2 := zq6 BK633.out 2
           have hfz65_3 := zq6 BK633.out 3
           have hfz65_4 := zq6 BK633.out 4
           have hfz65_5 := zq6 BK633.out 5
           have hfz65_6 := zq6 BK633.out 6
           by_cases c63 : t622 = 1
           ·rw [if_pos c63] at H
            have c63b0 : (t622 == 1) = true := beq_iff_eq.mpr c63
            have c63b1 : (t622 != 1) = false := bne_eq_false_iff_eq.mpr c63
            clear c63
            obtain rfl := Option.some.inj H
            go_wp2_with (first | ((with_reducible refine zq25 (N := 6) rfl ?_); (try (refine gate_guard (by rfl) ?_; dsimp only)); refine bx 6 #[.string (⟨#[]⟩ : ByteArray), .int .i64 0, .int .i64 0, .string (⟨#[]⟩ : ByteArray), .slice none 0 0, .slice none 0 0, .slice none 0 0] 32 ?_; intro gb638 hg w66 hbox hb; have n0_ := zq9 (Kd.V_below (Kd.V_elderB (by exact vz HO_634004) gb638 (Nat.le_of_eq hg.symm)) hb); have n1_ := zq9 (Kd.R_below (by exact rz HO_634005) hb); have n2_ := zq9 (Kd.R_below (by exact rz HO_634006) hb); have n3_ := zq9 (Kd.V_below (Kd.V_elderB (by exact vz HO_638004) gb638 (Nat.le_of_eq hg.symm)) hb); have n4_ := zq9 (Kd.R_below (by exact rz HO_638005) hb); have n5_ := zq9 (Kd.R_below (by exact rz HO_638006) hb); have n6_ := zq9 (zq30 (g := gb633) (o := .cells #[.string t620, .int .i64 t621, .int .i64 t622, .string t623, .slice Ao9 t624.length co9, .slice Ao10 t627.length co10, .slice Ao11 t630.length co11] 32 (0, 0)) (by exact bk BK633) hb); have n7_ := zq9 (zq30 (g := gb637) (o := .cells #[.string t620, .int .i64 t621, .int .i64 x638002_36, .string t623, .slice Ao9 t624.length co9, .slice Ao10 t627.length co10, .slice Ao11 t630.length co11] 32 (0, 0)) (by exact bk BK637) hb); have n8_ := zq9 (zq27 (by exact b2 HB GE633 GE637) hb); have n9_ := zq9 (hbox); have n10_ := zq9 ((by rw [hg]; exact (zq29 (by exact b2 HB GE633 GE637)) : w.heap.size ≤ gb638)); have n11_ := n10_; have n12_ := zq9 ((by rw [hg]; exact Nat.ne_of_lt (blk_lt (g := gb633) (o := .cells #[.string t620, .int .i64 t621, .int .i64 t622, .string t623, .slice Ao9 t624.length co9, .slice Ao10 t627.length co10, .slice Ao11 t630.length co11] 32 (0, 0)) (by exact bk BK633)) : gb633 ≠ gb638)); have n13_ := zq9 ((by rw [hg]; exact Nat.ne_of_gt (blk_lt (g := gb633) (o := .cells #[.string t620, .int .i64 t621, .int .i64 t622, .string t623, .slice Ao9 t624.length co9, .slice Ao10 t627.length co10, .slice Ao11 t630.length co11] 32 (0, 0)) (by exact bk BK633)) : gb638 ≠ gb633)); have n14_ := zq9 ((by rw [hg]; exact Nat.ne_of_lt (blk_lt (g := gb637) (o := .cells #[.string t620, .int .i64 t621, .int .i64 x638002_36, .string t623, .slice Ao9 t624.length co9, .slice Ao10 t627.length co10, .slice Ao11 t630.length co11] 32 (0, 0)) (by exact bk BK637)) : gb637 ≠ gb638)); have n15_ := zq9 ((by rw [hg]; exact Nat.ne_of_gt (blk_lt (g := gb637) (o := .cells #[.string t620, .int .i64 t621, .int .i64 x638002_36, .string t623, .slice Ao9 t624.length co9, .slice Ao10 t627.length co10, .slice Ao11 t630.length co11] 32 (0, 0)) (by exact bk BK637)) : gb638 ≠ gb637)); clear HO_634004; clear HO_634005; clear HO_634006; clear HO_638004; clear HO_638005; clear HO_638006; clear BK633; clear BK637; clear HB; have HO_634004 := n0_; have HO_634005 := n1_; have HO_634006 := n2_; have HO_638004 := n3_; have HO_638005 := n4_; have HO_638006 := n5_; have BK633 := n6_; have BK637 := n7_; have HB := n8_; have BK638 := n9_; have GW638 := n10_; have GE638 := n11_; have NB633_638 := n12_; have NB638_633 := n13_; have NB637_638 := n14_; have NB638_637 := n15_; clear n0_ n1_ n2_ n3_ n4_ n5_ n6_ n7_ n8_ n9_ n10_ n11_ n12_ n13_ n14_ n15_; clear hb hbox hg; have hnb67 := NB638_633.out; have hnc67 := NB633_638.out; have hnb68 := NB638_637.out; have hnc68 := NB637_638.out; have hcz69_0 : w66.cell? ⟨gb638, 0, none⟩ = some (.string (⟨#[]⟩ : ByteArray)) := bc BK638 0; have hcz69_1 : w66.cell? ⟨gb638, 1, none⟩ = some (.int .i64 0) := bc BK638 1; have hcz69_2 : w66.cell? ⟨gb638, 2, none⟩ = some (.int .i64 0) := bc BK638 2; have hcz69_3 : w66.cell? ⟨gb638, 3, none⟩ = some (.string (⟨#[]⟩ : ByteArray)) := bc BK638 3; have hcz69_4 : w66.cell? ⟨gb638, 4, none⟩ = some (.slice none 0 0) := bc BK638 4; have hcz69_5 : w66.cell? ⟨gb638, 5, none⟩ = some (.slice none 0 0) := bc BK638 5; have hcz69_6 : w66.cell? ⟨gb638, 6, none⟩ = some (.slice none 0 0) := bc BK638 6; have hfz69_0 := zq6 BK638.out 0; have hfz69_1 := zq6 BK638.out 1; have hfz69_2 := zq6 BK638.out 2; have hfz69_3 := zq6 BK638.out 3; have hfz69_4 := zq6 BK638.out 4; have hfz69_5 := zq6 BK638.out 5; have hfz69_6 := zq6 BK638.out 6; have hcz70_0 : w66.cell? ⟨gb637, 0, none⟩ = some (.string t620) := bc BK637 0; have hcz70_1 : w66.cell? ⟨gb637, 1, none⟩ = some (.int .i64 t621) := bc BK637 1; have hcz70_2 : w66.cell? ⟨gb637, 2, none⟩ = some (.int .i64 x638002_36) := bc BK637 2; have hcz70_3 : w66.cell? ⟨gb637, 3, none⟩ = some (.string t623) := bc BK637 3; have hcz70_4 : w66.cell? ⟨gb637, 4, none⟩ = some (.slice Ao9 t624.length co9) := bc BK637 4; have hcz70_5 : w66.cell? ⟨gb637, 5, none⟩ = some (.slice Ao10 t627.length co10) := bc BK637 5; have hcz70_6 : w66.cell? ⟨gb637, 6, none⟩ = some (.slice Ao11 t630.length co11) := bc BK637 6; have hfz70_0 := zq6 BK637.out 0; have hfz70_1 := zq6 BK637.out 1; have hfz70_2 := zq6 BK637.out 2; have hfz70_3 := zq6 BK637.out 3; have hfz70_4 := zq6 BK637.out 4; have hfz70_5 := zq6 BK637.out 5; have hfz70_6 := zq6 BK637.out 6) | ((with_reducible refine zq24 (f := 13) rfl ?_); refine gl (some 49) Try.func13 #[.agg #[.string t620, .int .i64 t621, .int .i64 x638002_36, .string t623, .slice Ao9 t624.length co9, .slice Ao10 t627.length co10, .slice Ao11 t630.length co11]] ?_; (with_reducible refine (impl_EntryOk.calls kj36 t620 t621 x638002_36 t623 _ _ t624 _ _ t627 _ _ t630 false _ ?side1 ?side2 ?side3 ?side4 ?side5 ?side6 A41.out).mono ?_); (case side1 => refine (Kd.V_reads' (e := 9) (base := w.heap.size) (ok := fun k_ => ((some k_ ≠ (.slice Ao10 t627.length co10 : Value).ownBlock ∧ (some k_ ≠ (.slice Ao11 t630.length co11 : Value).ownBlock ∧ (some k_ ≠ (.slice Ao10 t627.length co10 : Value).ownBlock ∧ (some k_ ≠ (.slice Ao11 t630.length co11 : Value).ownBlock ∧ (k_ ≠ gb633 ∧ k_ ≠ gb637))))) ∧ k_ ≠ gb638)) (n := t624.length) (c := co9) ?_).2.2; exact (by (with_reducible repeat (first | apply zq21 | apply zq22 | apply zq23)); exact (Kd.V_mono (Kd.V_far (p := ⟨gb638, 2, none⟩) (Kd.V_far (p := ⟨gb638, 6, none⟩) (Kd.V_far (p := ⟨gb638, 5, none⟩) (Kd.V_far (p := ⟨gb638, 4, none⟩) (Kd.V_far (p := ⟨gb638, 3, none⟩) (Kd.V_far (p := ⟨gb638, 2, none⟩) (Kd.V_far (p := ⟨gb638, 1, none⟩) (Kd.V_far (p := ⟨gb638, 0, none⟩) (Kd.V_mono HO_638004.out (fun k_ hk => (⟨hk, by first | exact hk.2 | exact hk | exact hk.1⟩ : _ ∧ k_ ≠ gb638))) (fun _ hk => hk.2) (.string t620)) (fun _ hk => hk.2) (.int .i64 t621)) (fun _ hk => hk.2) (.int .i64 t622)) (fun _ hk => hk.2) (.string t623)) (fun _ hk => hk.2) (.slice Ao9 t624.length co9)) (fun _ hk => hk.2) (.slice Ao10 t627.length co10)) (fun _ hk => hk.2) (.slice Ao11 t630.length co11)) (fun _ hk => hk.2) (.int .i64 0)) (fun _ h_ => h_.1)))); (case side2 => exact (Kd.V_reads' HO_638004.out).2.1); (case side3 => refine (Kd.R_reads' (e := 99) (base := w.heap.size) (ok := fun k_ => True) (n := t627.length) (c := co10) ?_).2.2; exact (by (with_reducible repeat (first | apply zq10 | apply zq11 | apply zq12)); exact (Kd.R_mono (Kd.R_far (p := ⟨gb638, 2, none⟩) (Kd.R_far (p := ⟨gb638, 6, none⟩) (Kd.R_far (p := ⟨gb638, 5, none⟩) (Kd.R_far (p := ⟨gb638, 4, none⟩) (Kd.R_far (p := ⟨gb638, 3, none⟩) (Kd.R_far (p := ⟨gb638, 2, none⟩) (Kd.R_far (p := ⟨gb638, 1, none⟩) (Kd.R_far (p := ⟨gb638, 0, none⟩) (Kd.R_types HO_638005.out BK638.out (by decide)) (fun _ hk => hk.2) (.string t620)) (fun _ hk => hk.2) (.int .i64 t621)) (fun _ hk => hk.2) (.int .i64 t622)) (fun _ hk => hk.2) (.string t623)) (fun _ hk => hk.2) (.slice Ao9 t624.length co9)) (fun _ hk => hk.2) (.slice Ao10 t627.length co10)) (fun _ hk => hk.2) (.slice Ao11 t630.length co11)) (fun _ hk => hk.2) (.int .i64 0)) (fun _ h_ => h_.1)))); (case side4 => exact (Kd.R_reads' HO_638005.out).2.1); (case side5 => refine (Kd.R_reads' (e := 101) (base := w.heap.size) (ok := fun k_ => True) (n := t630.length) (c := co11) ?_).2.2; exact (by (with_reducible repeat (first | apply zq10 | apply zq11 | apply zq12)); exact (Kd.R_mono (Kd.R_far (p := ⟨gb638, 2, none⟩) (Kd.R_far (p := ⟨gb638, 6, none⟩) (Kd.R_far (p := ⟨gb638, 5, none⟩) (Kd.R_far (p := ⟨gb638, 4, none⟩) (Kd.R_far (p := ⟨gb638, 3, none⟩) (Kd.R_far (p := ⟨gb638, 2, none⟩) (Kd.R_far (p := ⟨gb638, 1, none⟩) (Kd.R_far (p := ⟨gb638, 0, none⟩) (Kd.R_types HO_638006.out BK638.out (by decide)) (fun _ hk => hk.2) (.string t620)) (fun _ hk => hk.2) (.int .i64 t621)) (fun _ hk => hk.2) (.int .i64 t622)) (fun _ hk => hk.2) (.string t623)) (fun _ hk => hk.2) (.slice Ao9 t624.length co9)) (fun _ hk => hk.2) (.slice Ao10 t627.length co10)) (fun _ hk => hk.2) (.slice Ao11 t630.length co11)) (fun _ hk => hk.2) (.int .i64 0)) (fun _ h_ => h_.1)))); (case side6 => exact (Kd.R_reads' HO_638006.out).2.1); rintro e w71 ⟨rfl, hb⟩; refine ⟨_, rfl, ?_⟩; have n0_ := zq9 (Kd.V_below (by (with_reducible repeat (first | apply zq21 | apply zq22 | apply zq23)); exact (Kd.V_mono (Kd.V_far (p := ⟨gb638, 2, none⟩) (Kd.V_far (p := ⟨gb638, 6, none⟩) (Kd.V_far (p := ⟨gb638, 5, none⟩) (Kd.V_far (p := ⟨gb638, 4, none⟩) (Kd.V_far (p := ⟨gb638, 3, none⟩) (Kd.V_far (p := ⟨gb638, 2, none⟩) (Kd.V_far (p := ⟨gb638, 1, none⟩) (Kd.V_far (p := ⟨gb638, 0, none⟩) (Kd.V_mono HO_634004.out (fun k_ hk => (⟨hk, by first | exact hk.2 | exact hk | exact hk.1⟩ : _ ∧ k_ ≠ gb638))) (fun _ hk => hk.2) (.string t620)) (fun _ hk => hk.2) (.int .i64 t621)) (fun _ hk => hk.2) (.int .i64 t622)) (fun _ hk => hk.2) (.string t623)) (fun _ hk => hk.2) (.slice Ao9 t624.length co9)) (fun _ hk => hk.2) (.slice Ao10 t627.length co10)) (fun _ hk => hk.2) (.slice Ao11 t630.length co11)) (fun _ hk => hk.2) (.int .i64 0)) (fun _ h_ => h_.1))) hb); have n1_ := zq9 (Kd.R_below (by (with_reducible repeat (first | apply zq10 | apply zq11 | apply zq12)); exact (Kd.R_mono (Kd.R_far (p := ⟨gb638, 2, none⟩) (Kd.R_far (p := ⟨gb638, 6, none⟩) (Kd.R_far (p := ⟨gb638, 5, none⟩) (Kd.R_far (p := ⟨gb638, 4, none⟩) (Kd.R_far (p := ⟨gb638, 3, none⟩) (Kd.R_far (p := ⟨gb638, 2, none⟩) (Kd.R_far (p := ⟨gb638, 1, none⟩) (Kd.R_far (p := ⟨gb638, 0, none⟩) (Kd.R_types HO_634005.out BK638.out (by decide)) (fun _ hk => hk.2) (.string t620)) (fun _ hk => hk.2) (.int .i64 t621)) (fun _ hk => hk.2) (.int .i64 t622)) (fun _ hk => hk.2) (.string t623)) (fun _ hk => hk.2) (.slice Ao9 t624.length co9)) (fun _ hk => hk.2) (.slice Ao10 t627.length co10)) (fun _ hk => hk.2) (.slice Ao11 t630.length co11)) (fun _ hk => hk.2) (.int .i64 0)) (fun _ h_ => h_.1))) hb); have n2_ := zq9 (Kd.R_below (by (with_reducible repeat (first | apply zq10 | apply zq11 | apply zq12)); exact (Kd.R_mono (Kd.R_far (p := ⟨gb638, 2, none⟩) (Kd.R_far (p := ⟨gb638, 6, none⟩) (Kd.R_far (p := ⟨gb638, 5, none⟩) (Kd.R_far (p := ⟨gb638, 4, none⟩) (Kd.R_far (p := ⟨gb638, 3, none⟩) (Kd.R_far (p := ⟨gb638, 2, none⟩) (Kd.R_far (p := ⟨gb638, 1, none⟩) (Kd.R_far (p := ⟨gb638, 0, none⟩) (Kd.R_types HO_634006.out BK638.out (by decide)) (fun _ hk => hk.2) (.string t620)) (fun _ hk => hk.2) (.int .i64 t621)) (fun _ hk => hk.2) (.int .i64 t622)) (fun _ hk => hk.2) (.string t623)) (fun _ hk => hk.2) (.slice Ao9 t624.length co9)) (fun _ hk => hk.2) (.slice Ao10 t627.length co10)) (fun _ hk => hk.2) (.slice Ao11 t630.length co11)) (fun _ hk => hk.2) (.int .i64 0)) (fun _ h_ => h_.1))) hb); have n3_ := zq9 (Kd.V_below (by (with_reducible repeat (first | apply zq21 | apply zq22 | apply zq23)); exact (Kd.V_mono (Kd.V_far (p := ⟨gb638, 2, none⟩) (Kd.V_far (p := ⟨gb638, 6, none⟩) (Kd.V_far (p := ⟨gb638, 5, none⟩) (Kd.V_far (p := ⟨gb638, 4, none⟩) (Kd.V_far (p := ⟨gb638, 3, none⟩) (Kd.V_far (p := ⟨gb638, 2, none⟩) (Kd.V_far (p := ⟨gb638, 1, none⟩) (Kd.V_far (p := ⟨gb638, 0, none⟩) (Kd.V_mono HO_638004.out (fun k_ hk => (⟨hk, by first | exact hk.2 | exact hk | exact hk.1⟩ : _ ∧ k_ ≠ gb638))) (fun _ hk => hk.2) (.string t620)) (fun _ hk => hk.2) (.int .i64 t621)) (fun _ hk => hk.2) (.int .i64 t622)) (fun _ hk => hk.2) (.string t623)) (fun _ hk => hk.2) (.slice Ao9 t624.length co9)) (fun _ hk => hk.2) (.slice Ao10 t627.length co10)) (fun _ hk => hk.2) (.slice Ao11 t630.length co11)) (fun _ hk => hk.2) (.int .i64 0)) (fun _ h_ => h_.1))) hb); have n4_ := zq9 (Kd.R_below (by (with_reducible repeat (first | apply zq10 | apply zq11 | apply zq12)); exact (Kd.R_mono (Kd.R_far (p := ⟨gb638, 2, none⟩) (Kd.R_far (p := ⟨gb638, 6, none⟩) (Kd.R_far (p := ⟨gb638, 5, none⟩) (Kd.R_far (p := ⟨gb638, 4, none⟩) (Kd.R_far (p := ⟨gb638, 3, none⟩) (Kd.R_far (p := ⟨gb638, 2, none⟩) (Kd.R_far (p := ⟨gb638, 1, none⟩) (Kd.R_far (p := ⟨gb638, 0, none⟩) (Kd.R_types HO_638005.out BK638.out (by decide)) (fun _ hk => hk.2) (.string t620)) (fun _ hk => hk.2) (.int .i64 t621)) (fun _ hk => hk.2) (.int .i64 t622)) (fun _ hk => hk.2) (.string t623)) (fun _ hk => hk.2) (.slice Ao9 t624.length co9)) (fun _ hk => hk.2) (.slice Ao10 t627.length co10)) (fun _ hk => hk.2) (.slice Ao11 t630.length co11)) (fun _ hk => hk.2) (.int .i64 0)) (fun _ h_ => h_.1))) hb); have n5_ := zq9 (Kd.R_below (by (with_reducible repeat (first | apply zq10 | apply zq11 | apply zq12)); exact (Kd.R_mono (Kd.R_far (p := ⟨gb638, 2, none⟩) (Kd.R_far (p := ⟨gb638, 6, none⟩) (Kd.R_far (p := ⟨gb638, 5, none⟩) (Kd.R_far (p := ⟨gb638, 4, none⟩) (Kd.R_far (p := ⟨gb638, 3, none⟩) (Kd.R_far (p := ⟨gb638, 2, none⟩) (Kd.R_far (p := ⟨gb638, 1, none⟩) (Kd.R_far (p := ⟨gb638, 0, none⟩) (Kd.R_types HO_638006.out BK638.out (by decide)) (fun _ hk => hk.2) (.string t620)) (fun _ hk => hk.2) (.int .i64 t621)) (fun _ hk => hk.2) (.int .i64 t622)) (fun _ hk => hk.2) (.string t623)) (fun _ hk => hk.2) (.slice Ao9 t624.length co9)) (fun _ hk => hk.2) (.slice Ao10 t627.length co10)) (fun _ hk => hk.2) (.slice Ao11 t630.length co11)) (fun _ hk => hk.2) (.int .i64 0)) (fun _ h_ => h_.1))) hb); have n6_ := zq9 (zq30 (g := gb633) (o := .cells #[.string t620, .int .i64 t621, .int .i64 t622, .string t623, .slice Ao9 t624.length co9, .slice Ao10 t627.length co10, .slice Ao11 t630.length co11] 32 (0, 0)) (by refine bp ?_; refine blk_far ?_ NB633_638.out _; refine bp ?_; refine blk_far ?_ NB633_638.out _; refine bp ?_; refine blk_far ?_ NB633_638.out _; refine bp ?_; refine blk_far ?_ NB633_638.out _; refine bp ?_; refine blk_far ?_ NB633_638.out _; refine bp ?_; refine blk_far ?_ NB633_638.out _; refine bp ?_; refine blk_far ?_ NB633_638.out _; refine bp ?_; refine blk_far ?_ NB633_638.out _; refine bp ?_; exact BK633.out) hb); have n7_ := zq9 (zq30 (g := gb637) (o := .cells #[.string t620, .int .i64 t621, .int .i64 x638002_36, .string t623, .slice Ao9 t624.length co9, .slice Ao10 t627.length co10, .slice Ao11 t630.length co11] 32 (0, 0)) (by refine bp ?_; refine blk_far ?_ NB637_638.out _; refine bp ?_; refine blk_far ?_ NB637_638.out _; refine bp ?_; refine blk_far ?_ NB637_638.out _; refine bp ?_; refine blk_far ?_ NB637_638.out _; refine bp ?_; refine blk_far ?_ NB637_638.out _; refine bp ?_; refine blk_far ?_ NB637_638.out _; refine bp ?_; refine blk_far ?_ NB637_638.out _; refine bp ?_; refine blk_far ?_ NB637_638.out _; refine bp ?_; exact BK637.out) hb); have n8_ := zq9 (zq30 (g := gb638) (o := .cells #[.string t620, .int .i64 t621, .int .i64 0, .string t623, .slice Ao9 t624.length co9, .slice Ao10 t627.length co10, .slice Ao11 t630.length co11] 32 (0, 0)) (by refine bp ?_; refine blk_put (cs := #[.string t620, .int .i64 t621, .int .i64 t622, .string t623, .slice Ao9 t624.length co9, .slice Ao10 t627.length co10, .slice Ao11 t630.length co11]) ?_ 2 _ rfl; refine bp ?_; refine blk_put (cs := #[.string t620, .int .i64 t621, .int .i64 t622, .string t623, .slice Ao9 t624.length co9, .slice Ao10 t627.length co10, .slice none 0 0]) ?_ 6 _ rfl; refine bp ?_; refine blk_put (cs := #[.string t620, .int .i64 t621, .int .i64 t622, .string t623, .slice Ao9 t624.length co9, .slice none 0 0, .slice none 0 0]) ?_ 5 _ rfl; refine bp ?_; refine blk_put (cs := #[.string t620, .int .i64 t621, .int .i64 t622, .string t623, .slice none 0 0, .slice none 0 0, .slice none 0 0]) ?_ 4 _ rfl; refine bp ?_; refine blk_put (cs := #[.string t620, .int .i64 t621, .int .i64 t622, .string (⟨#[]⟩ : ByteArray), .slice none 0 0, .slice none 0 0, .slice none 0 0]) ?_ 3 _ rfl; refine bp ?_; refine blk_put (cs := #[.string t620, .int .i64 t621, .int .i64 0, .string (⟨#[]⟩ : ByteArray), .slice none 0 0, .slice none 0 0, .slice none 0 0]) ?_ 2 _ rfl; refine bp ?_; refine blk_put (cs := #[.string t620, .int .i64 0, .int .i64 0, .string (⟨#[]⟩ : ByteArray), .slice none 0 0, .slice none 0 0, .slice none 0 0]) ?_ 1 _ rfl; refine bp ?_; refine blk_put (cs := #[.string (⟨#[]⟩ : ByteArray), .int .i64 0, .int .i64 0, .string (⟨#[]⟩ : ByteArray), .slice none 0 0, .slice none 0 0, .slice none 0 0]) ?_ 0 _ rfl; refine bp ?_; exact BK638.out) hb); have n9_ := zq9 (zq27 (by exact b3 HB GE633 GE637 GE638) hb); clear HO_634004; clear HO_634005; clear HO_634006; clear HO_638004; clear HO_638005; clear HO_638006; clear BK633; clear BK637; clear BK638; clear HB; have HO_634004 := n0_; have HO_634005 := n1_; have HO_634006 := n2_; have HO_638004 := n3_; have HO_638005 := n4_; have HO_638006 := n5_; have BK633 := n6_; have BK637 := n7_; have BK638 := n8_; have HB := n9_; clear n0_ n1_ n2_ n3_ n4_ n5_ n6_ n7_ n8_ n9_; (try clear hb); (try clear hb2); (try clear hk); (try clear hi); have hcz72_0 : w71.cell? ⟨gb638, 0, none⟩ = some (.string t620) := bc BK638 0; have hcz72_1 : w71.cell? ⟨gb638, 1, none⟩ = some (.int .i64 t621) := bc BK638 1; have hcz72_2 : w71.cell? ⟨gb638, 2, none⟩ = some (.int .i64 0) := bc BK638 2; have hcz72_3 : w71.cell? ⟨gb638, 3, none⟩ = some (.string t623) := bc BK638 3; have hcz72_4 : w71.cell? ⟨gb638, 4, none⟩ = some (.slice Ao9 t624.length co9) := bc BK638 4; have hcz72_5 : w71.cell? ⟨gb638, 5, none⟩ = some (.slice Ao10 t627.length co10) := bc BK638 5; have hcz72_6 : w71.cell? ⟨gb638, 6, none⟩ = some (.slice Ao11 t630.length co11) := bc BK638 6; have hfz72_0 := zq6 BK638.out 0; have hfz72_1 := zq6 BK638.out 1; have hfz72_2 := zq6 BK638.out 2; have hfz72_3 := zq6 BK638.out 3; have hfz72_4 := zq6 BK638.out 4; have hfz72_5 := zq6 BK638.out 5; have hfz72_6 := zq6 BK638.out 6) | (go_at_call 13; (with_reducible refine (impl_EntryOk.calls kj36 t620 t621 0 t623 _ _ t624 _ _ t627 _ _ t630 false _ ?side1 ?side2 ?side3 ?side4 ?side5 ?side6 A51.out).mono ?_); (case side1 => repeat (first | exact (Kd.V_reads' HO_634004.out).2.2 | (with_reducible refine zq18 ?_ _) | (with_reducible refine zq19 ?_ _) | (with_reducible refine zq20 ?_))); (case side2 => exact (Kd.V_reads' HO_634004.out).2.1); (case side3 => repeat (first | exact (Kd.R_reads' HO_634005.out).2.2 | (with_reducible refine zq18 ?_ _) | (with_reducible refine zq19 ?_ _) | (with_reducible refine zq20 ?_))); (case side4 => exact (Kd.R_reads' HO_634005.out).2.1); (case side5 => repeat (first | exact (Kd.R_reads' HO_634006.out).2.2 | (with_reducible refine zq18 ?_ _) | (with_reducible refine zq19 ?_ _) | (with_reducible refine zq20 ?_))); (case side6 => exact (Kd.R_reads' HO_634006.out).2.1); rintro e w73 ⟨rfl, hb⟩; have n0_ := zq9 (Kd.V_below (by exact vz HO_634004) hb); have n1_ := zq9 (Kd.R_below (by exact rz HO_634005) hb); have n2_ := zq9 (Kd.R_below (by exact rz HO_634006) hb); have n3_ := zq9 (Kd.V_below (by exact vz HO_638004) hb); have n4_ := zq9 (Kd.R_below (by exact rz HO_638005) hb); have n5_ := zq9 (Kd.R_below (by exact rz HO_638006) hb); have n6_ := zq9 (zq30 (g := gb633) (o := .cells #[.string t620, .int .i64 t621, .int .i64 t622, .string t623, .slice Ao9 t624.length co9, .slice Ao10 t627.length co10, .slice Ao11 t630.length co11] 32 (0, 0)) (by exact bk BK633) hb); have n7_ := zq9 (zq30 (g := gb637) (o := .cells #[.string t620, .int .i64 t621, .int .i64 x638002_36, .string t623, .slice Ao9 t624.length co9, .slice Ao10 t627.length co10, .slice Ao11 t630.length co11] 32 (0, 0)) (by exact bk BK637) hb); have n8_ := zq9 (zq30 (g := gb638) (o := .cells #[.string t620, .int .i64 t621, .int .i64 0, .string t623, .slice Ao9 t624.length co9, .slice Ao10 t627.length co10, .slice Ao11 t630.length co11] 32 (0, 0)) (by exact bk BK638) hb); have n9_ := zq9 (zq27 (by exact b3 HB GE633 GE637 GE638) hb); clear HO_634004; clear HO_634005; clear HO_634006; clear HO_638004; clear HO_638005; clear HO_638006; clear BK633; clear BK637; clear BK638; clear HB; have HO_634004 := n0_; have HO_634005 := n1_; have HO_634006 := n2_; have HO_638004 := n3_; have HO_638005 := n4_; have HO_638006 := n5_; have BK633 := n6_; have BK637 := n7_; have BK638 := n8_; have HB := n9_; clear n0_ n1_ n2_ n3_ n4_ n5_ n6_ n7_ n8_ n9_; (try clear hb); (try clear hb2); (try clear hk); (try clear hi); have hcz74_0 : w73.cell? ⟨gb633, 0, none⟩ = some (.string t620) := bc BK633 0; have hcz74_1 : w73.cell? ⟨gb633, 1, none⟩ = some (.int .i64 t621) := bc BK633 1; have hcz74_2 : w73.cell? ⟨gb633, 2, none⟩ = some (.int .i64 t622) := bc BK633 2; have hcz74_3 : w73.cell? ⟨gb633, 3, none⟩ = some (.string t623) := bc BK633 3; have hcz74_4 : w73.cell? ⟨gb633, 4, none⟩ = some (.slice Ao9 t624.length co9) := bc BK633 4; have hcz74_5 : w73.cell? ⟨gb633, 5, none⟩ = some (.slice Ao10 t627.length co10) := bc BK633 5; have hcz74_6 : w73.cell? ⟨gb633, 6, none⟩ = some (.slice Ao11 t630.length co11) := bc BK633 6; have hfz74_0 := zq6 BK633.out 0; have hfz74_1 := zq6 BK633.out 1; have hfz74_2 := zq6 BK633.out 2; have hfz74_3 := zq6 BK633.out 3; have hfz74_4 := zq6 BK633.out 4; have hfz74_5 := zq6 BK633.out 5; have hfz74_6 := zq6 BK633.out 6))
            go_ret
            exact fz (by exact b3 HB GE633 GE637 GE638)
           ·rw [if_neg c63] at H
            have c63b0 : (t622 == 1) = false := beq_eq_false_iff_ne.mpr c63
            have c63b1 : (t622 != 1) = true := bne_iff_ne.mpr c63
            obtain rfl := Option.some.inj H
            go_wp2_with (first | ((with_reducible refine zq25 (N := 6) rfl ?_); (try (refine gate_guard (by rfl) ?_; dsimp only)); refine bx 6 #[.string (⟨#[]⟩ : ByteArray), .int .i64 0, .int .i64 0, .string (⟨#[]⟩ : ByteArray), .slice none 0 0, .slice none 0 0, .slice none 0 0] 32 ?_; intro gb638 hg w66 hbox hb; have n0_ := zq9 (Kd.V_below (Kd.V_elderB (by exact vz HO_634004) gb638 (Nat.le_of_eq hg.symm)) hb); have n1_ := zq9 (Kd.R_below (by exact rz HO_634005) hb); have n2_ := zq9 (Kd.R_below (by exact rz HO_634006) hb); have n3_ := zq9 (Kd.V_below (Kd.V_elderB (by exact vz HO_638004) gb638 (Nat.le_of_eq hg.symm)) hb); have n4_ := zq9 (Kd.R_below (by exact rz HO_638005) hb); have n5_ := zq9 (Kd.R_below (by exact rz HO_638006) hb); have n6_ := zq9 (zq30 (g := gb633) (o := .cells #[.string t620, .int .i64 t621, .int .i64 t622, .string t623, .slice Ao9 t624.length co9, .slice Ao10 t627.length co10, .slice Ao11 t630.length co11] 32 (0, 0)) (by exact bk BK633) hb); have n7_ := zq9 (zq30 (g := gb637) (o := .cells #[.string t620, .int .i64 t621, .int .i64 x638002_36, .string t623, .slice Ao9 t624.length co9, .slice Ao10 t627.length co10, .slice Ao11 t630.length co11] 32 (0, 0)) (by exact bk BK637) hb); have n8_ := zq9 (zq27 (by exact b2 HB GE633 GE637) hb); have n9_ := zq9 (hbox); have n10_ := zq9 ((by rw [hg]; exact (zq29 (by exact b2 HB GE633 GE637)) : w.heap.size ≤ gb638)); have n11_ := n10_; have n12_ := zq9 ((by rw [hg]; exact Nat.ne_of_lt (blk_lt (g := gb633) (o := .cells #[.string t620, .int .i64 t621, .int .i64 t622, .string t623, .slice Ao9 t624.length co9, .slice Ao10 t627.length co10, .slice Ao11 t630.length co11] 32 (0, 0)) (by exact bk BK633)) : gb633 ≠ gb638)); have n13_ := zq9 ((by rw [hg]; exact Nat.ne_of_gt (blk_lt (g := gb633) (o := .cells #[.string t620, .int .i64 t621, .int .i64 t622, .string t623, .slice Ao9 t624.length co9, .slice Ao10 t627.length co10, .slice Ao11 t630.length co11] 32 (0, 0)) (by exact bk BK633)) : gb638 ≠ gb633)); have n14_ := zq9 ((by rw [hg]; exact Nat.ne_of_lt (blk_lt (g := gb637) (o := .cells #[.string t620, .int .i64 t621, .int .i64 x638002_36, .string t623, .slice Ao9 t624.length co9, .slice Ao10 t627.length co10, .slice Ao11 t630.length co11] 32 (0, 0)) (by exact bk BK637)) : gb637 ≠ gb638)); have n15_ := zq9 ((by rw [hg]; exact Nat.ne_of_gt (blk_lt (g := gb637) (o := .cells #[.string t620, .int .i64 t621, .int .i64 x638002_36, .string t623, .slice Ao9 t624.length co9, .slice Ao10 t627.length co10, .slice Ao11 t630.length co11] 32 (0, 0)) (by exact bk BK637)) : gb638 ≠ gb637)); clear HO_634004; clear HO_634005; clear HO_634006; clear HO_638004; clear HO_638005; clear HO_638006; clear BK633; clear BK637; clear HB; have HO_634004 := n0_; have HO_634005 := n1_; have HO_634006 := n2_; have HO_638004 := n3_; have HO_638005 := n4_; have HO_638006 := n5_; have BK633 := n6_; have BK637 := n7_; have HB := n8_; have BK638 := n9_; have GW638 := n10_; have GE638 := n11_; have NB633_638 := n12_; have NB638_633 := n13_; have NB637_638 := n14_; have NB638_637 := n15_; clear n0_ n1_ n2_ n3_ n4_ n5_ n6_ n7_ n8_ n9_ n10_ n11_ n12_ n13_ n14_ n15_; clear hb hbox hg; have hnb67 := NB638_633.out; have hnc67 := NB633_638.out; have hnb68 := NB638_637.out; have hnc68 := NB637_638.out; have hcz69_0 : w66.cell? ⟨gb638, 0, none⟩ = some (.string (⟨#[]⟩ : ByteArray)) := bc BK638 0; have hcz69_1 : w66.cell? ⟨gb638, 1, none⟩ = some (.int .i64 0) := bc BK638 1; have hcz69_2 : w66.cell? ⟨gb638, 2, none⟩ = some (.int .i64 0) := bc BK638 2; have hcz69_3 : w66.cell? ⟨gb638, 3, none⟩ = some (.string (⟨#[]⟩ : ByteArray)) := bc BK638 3; have hcz69_4 : w66.cell? ⟨gb638, 4, none⟩ = some (.slice none 0 0) := bc BK638 4; have hcz69_5 : w66.cell? ⟨gb638, 5, none⟩ = some (.slice none 0 0) := bc BK638 5; have hcz69_6 : w66.cell? ⟨gb638, 6, none⟩ = some (.slice none 0 0) := bc BK638 6; have hfz69_0 := zq6 BK638.out 0; have hfz69_1 := zq6 BK638.out 1; have hfz69_2 := zq6 BK638.out 2; have hfz69_3 := zq6 BK638.out 3; have hfz69_4 := zq6 BK638.out 4; have hfz69_5 := zq6 BK638.out 5; have hfz69_6 := zq6 BK638.out 6; have hcz70_0 : w66.cell? ⟨gb637, 0, none⟩ = some (.string t620) := bc BK637 0; have hcz70_1 : w66.cell? ⟨gb637, 1, none⟩ = some (.int .i64 t621) := bc BK637 1; have hcz70_2 : w66.cell? ⟨gb637, 2, none⟩ = some (.int .i64 x638002_36) := bc BK637 2; have hcz70_3 : w66.cell? ⟨gb637, 3, none⟩ = some (.string t623) := bc BK637 3; have hcz70_4 : w66.cell? ⟨gb637, 4, none⟩ = some (.slice Ao9 t624.length co9) := bc BK637 4; have hcz70_5 : w66.cell? ⟨gb637, 5, none⟩ = some (.slice Ao10 t627.length co10) := bc BK637 5; have hcz70_6 : w66.cell? ⟨gb637, 6, none⟩ = some (.slice Ao11 t630.length co11) := bc BK637 6; have hfz70_0 := zq6 BK637.out 0; have hfz70_1 := zq6 BK637.out 1; have hfz70_2 := zq6 BK637.out 2; have hfz70_3 := zq6 BK637.out 3; have hfz70_4 := zq6 BK637.out 4; have hfz70_5 := zq6 BK637.out 5; have hfz70_6 := zq6 BK637.out 6) | ((with_reducible refine zq24 (f := 13) rfl ?_); refine gl (some 49) Try.func13 #[.agg #[.string t620, .int .i64 t621, .int .i64 x638002_36, .string t623, .slice Ao9 t624.length co9, .slice Ao10 t627.length co10, .slice Ao11 t630.length co11]] ?_; (with_reducible refine (impl_EntryOk.calls kj36 t620 t621 x638002_36 t623 _ _ t624 _ _ t627 _ _ t630 false _ ?side1 ?side2 ?side3 ?side4 ?side5 ?side6 A41.out).mono ?_); (case side1 => refine (Kd.V_reads' (e := 9) (base := w.heap.size) (ok := fun k_ => ((some k_ ≠ (.slice Ao10 t627.length co10 : Value).ownBlock ∧ (some k_ ≠ (.slice Ao11 t630.length co11 : Value).ownBlock ∧ (some k_ ≠ (.slice Ao10 t627.length co10 : Value).ownBlock ∧ (some k_ ≠ (.slice Ao11 t630.length co11 : Value).ownBlock ∧ (k_ ≠ gb633 ∧ k_ ≠ gb637))))) ∧ k_ ≠ gb638)) (n := t624.length) (c := co9) ?_).2.2; exact (by (with_reducible repeat (first | apply zq21 | apply zq22 | apply zq23)); exact (Kd.V_mono (Kd.V_far (p := ⟨gb638, 2, none⟩) (Kd.V_far (p := ⟨gb638, 6, none⟩) (Kd.V_far (p := ⟨gb638, 5, none⟩) (Kd.V_far (p := ⟨gb638, 4, none⟩) (Kd.V_far (p := ⟨gb638, 3, none⟩) (Kd.V_far (p := ⟨gb638, 2, none⟩) (Kd.V_far (p := ⟨gb638, 1, none⟩) (Kd.V_far (p := ⟨gb638, 0, none⟩) (Kd.V_mono HO_638004.out (fun k_ hk => (⟨hk, by first | exact hk.2 | exact hk | exact hk.1⟩ : _ ∧ k_ ≠ gb638))) (fun _ hk => hk.2) (.string t620)) (fun _ hk => hk.2) (.int .i64 t621)) (fun _ hk => hk.2) (.int .i64 t622)) (fun _ hk => hk.2) (.string t623)) (fun _ hk => hk.2) (.slice Ao9 t624.length co9)) (fun _ hk => hk.2) (.slice Ao10 t627.length co10)) (fun _ hk => hk.2) (.slice Ao11 t630.length co11)) (fun _ hk => hk.2) (.int .i64 0)) (fun _ h_ => h_.1)))); (case side2 => exact (Kd.V_reads' HO_638004.out).2.1); (case side3 => refine (Kd.R_reads' (e := 99) (base := w.heap.size) (ok := fun k_ => True) (n := t627.length) (c := co10) ?_).2.2; exact (by (with_reducible repeat (first | apply zq10 | apply zq11 | apply zq12)); exact (Kd.R_mono (Kd.R_far (p := ⟨gb638, 2, none⟩) (Kd.R_far (p := ⟨gb638, 6, none⟩) (Kd.R_far (p := ⟨gb638, 5, none⟩) (Kd.R_far (p := ⟨gb638, 4, none⟩) (Kd.R_far (p := ⟨gb638, 3, none⟩) (Kd.R_far (p := ⟨gb638, 2, none⟩) (Kd.R_far (p := ⟨gb638, 1, none⟩) (Kd.R_far (p := ⟨gb638, 0, none⟩) (Kd.R_types HO_638005.out BK638.out (by decide)) (fun _ hk => hk.2) (.string t620)) (fun _ hk => hk.2) (.int .i64 t621)) (fun _ hk => hk.2) (.int .i64 t622)) (fun _ hk => hk.2) (.string t623)) (fun _ hk => hk.2) (.slice Ao9 t624.length co9)) (fun _ hk => hk.2) (.slice Ao10 t627.length co10)) (fun _ hk => hk.2) (.slice Ao11 t630.length co11)) (fun _ hk => hk.2) (.int .i64 0)) (fun _ h_ => h_.1)))); (case side4 => exact (Kd.R_reads' HO_638005.out).2.1); (case side5 => refine (Kd.R_reads' (e := 101) (base := w.heap.size) (ok := fun k_ => True) (n := t630.length) (c := co11) ?_).2.2; exact (by (with_reducible repeat (first | apply zq10 | apply zq11 | apply zq12)); exact (Kd.R_mono (Kd.R_far (p := ⟨gb638, 2, none⟩) (Kd.R_far (p := ⟨gb638, 6, none⟩) (Kd.R_far (p := ⟨gb638, 5, none⟩) (Kd.R_far (p := ⟨gb638, 4, none⟩) (Kd.R_far (p := ⟨gb638, 3, none⟩) (Kd.R_far (p := ⟨gb638, 2, none⟩) (Kd.R_far (p := ⟨gb638, 1, none⟩) (Kd.R_far (p := ⟨gb638, 0, none⟩) (Kd.R_types HO_638006.out BK638.out (by decide)) (fun _ hk => hk.2) (.string t620)) (fun _ hk => hk.2) (.int .i64 t621)) (fun _ hk => hk.2) (.int .i64 t622)) (fun _ hk => hk.2) (.string t623)) (fun _ hk => hk.2) (.slice Ao9 t624.length co9)) (fun _ hk => hk.2) (.slice Ao10 t627.length co10)) (fun _ hk => hk.2) (.slice Ao11 t630.length co11)) (fun _ hk => hk.2) (.int .i64 0)) (fun _ h_ => h_.1)))); (case side6 => exact (Kd.R_reads' HO_638006.out).2.1); rintro e w71 ⟨rfl, hb⟩; refine ⟨_, rfl, ?_⟩; have n0_ := zq9 (Kd.V_below (by (with_reducible repeat (first | apply zq21 | apply zq22 | apply zq23)); exact (Kd.V_mono (Kd.V_far (p := ⟨gb638, 2, none⟩) (Kd.V_far (p := ⟨gb638, 6, none⟩) (Kd.V_far (p := ⟨gb638, 5, none⟩) (Kd.V_far (p := ⟨gb638, 4, none⟩) (Kd.V_far (p := ⟨gb638, 3, none⟩) (Kd.V_far (p := ⟨gb638, 2, none⟩) (Kd.V_far (p := ⟨gb638, 1, none⟩) (Kd.V_far (p := ⟨gb638, 0, none⟩) (Kd.V_mono HO_634004.out (fun k_ hk => (⟨hk, by first | exact hk.2 | exact hk | exact hk.1⟩ : _ ∧ k_ ≠ gb638))) (fun _ hk => hk.2) (.string t620)) (fun _ hk => hk.2) (.int .i64 t621)) (fun _ hk => hk.2) (.int .i64 t622)) (fun _ hk => hk.2) (.string t623)) (fun _ hk => hk.2) (.slice Ao9 t624.length co9)) (fun _ hk => hk.2) (.slice Ao10 t627.length co10)) (fun _ hk => hk.2) (.slice Ao11 t630.length co11)) (fun _ hk => hk.2) (.int .i64 0)) (fun _ h_ => h_.1))) hb); have n1_ := zq9 (Kd.R_below (by (with_reducible repeat (first | apply zq10 | apply zq11 | apply zq12)); exact (Kd.R_mono (Kd.R_far (p := ⟨gb638, 2, none⟩) (Kd.R_far (p := ⟨gb638, 6, none⟩) (Kd.R_far (p := ⟨gb638, 5, none⟩) (Kd.R_far (p := ⟨gb638, 4, none⟩) (Kd.R_far (p := ⟨gb638, 3, none⟩) (Kd.R_far (p := ⟨gb638, 2, none⟩) (Kd.R_far (p := ⟨gb638, 1, none⟩) (Kd.R_far (p := ⟨gb638, 0, none⟩) (Kd.R_types HO_634005.out BK638.out (by decide)) (fun _ hk => hk.2) (.string t620)) (fun _ hk => hk.2) (.int .i64 t621)) (fun _ hk => hk.2) (.int .i64 t622)) (fun _ hk => hk.2) (.string t623)) (fun _ hk => hk.2) (.slice Ao9 t624.length co9)) (fun _ hk => hk.2) (.slice Ao10 t627.length co10)) (fun _ hk => hk.2) (.slice Ao11 t630.length co11)) (fun _ hk => hk.2) (.int .i64 0)) (fun _ h_ => h_.1))) hb); have n2_ := zq9 (Kd.R_below (by (with_reducible repeat (first | apply zq10 | apply zq11 | apply zq12)); exact (Kd.R_mono (Kd.R_far (p := ⟨gb638, 2, none⟩) (Kd.R_far (p := ⟨gb638, 6, none⟩) (Kd.R_far (p := ⟨gb638, 5, none⟩) (Kd.R_far (p := ⟨gb638, 4, none⟩) (Kd.R_far (p := ⟨gb638, 3, none⟩) (Kd.R_far (p := ⟨gb638, 2, none⟩) (Kd.R_far (p := ⟨gb638, 1, none⟩) (Kd.R_far (p := ⟨gb638, 0, none⟩) (Kd.R_types HO_634006.out BK638.out (by decide)) (fun _ hk => hk.2) (.string t620)) (fun _ hk => hk.2) (.int .i64 t621)) (fun _ hk => hk.2) (.int .i64 t622)) (fun _ hk => hk.2) (.string t623)) (fun _ hk => hk.2) (.slice Ao9 t624.length co9)) (fun _ hk => hk.2) (.slice Ao10 t627.length co10)) (fun _ hk => hk.2) (.slice Ao11 t630.length co11)) (fun _ hk => hk.2) (.int .i64 0)) (fun _ h_ => h_.1))) hb); have n3_ := zq9 (Kd.V_below (by (with_reducible repeat (first | apply zq21 | apply zq22 | apply zq23)); exact (Kd.V_mono (Kd.V_far (p := ⟨gb638, 2, none⟩) (Kd.V_far (p := ⟨gb638, 6, none⟩) (Kd.V_far (p := ⟨gb638, 5, none⟩) (Kd.V_far (p := ⟨gb638, 4, none⟩) (Kd.V_far (p := ⟨gb638, 3, none⟩) (Kd.V_far (p := ⟨gb638, 2, none⟩) (Kd.V_far (p := ⟨gb638, 1, none⟩) (Kd.V_far (p := ⟨gb638, 0, none⟩) (Kd.V_mono HO_638004.out (fun k_ hk => (⟨hk, by first | exact hk.2 | exact hk | exact hk.1⟩ : _ ∧ k_ ≠ gb638))) (fun _ hk => hk.2) (.string t620)) (fun _ hk => hk.2) (.int .i64 t621)) (fun _ hk => hk.2) (.int .i64 t622)) (fun _ hk => hk.2) (.string t623)) (fun _ hk => hk.2) (.slice Ao9 t624.length co9)) (fun _ hk => hk.2) (.slice Ao10 t627.length co10)) (fun _ hk => hk.2) (.slice Ao11 t630.length co11)) (fun _ hk => hk.2) (.int .i64 0)) (fun _ h_ => h_.1))) hb); have n4_ := zq9 (Kd.R_below (by (with_reducible repeat (first | apply zq10 | apply zq11 | apply zq12)); exact (Kd.R_mono (Kd.R_far (p := ⟨gb638, 2, none⟩) (Kd.R_far (p := ⟨gb638, 6, none⟩) (Kd.R_far (p := ⟨gb638, 5, none⟩) (Kd.R_far (p := ⟨gb638, 4, none⟩) (Kd.R_far (p := ⟨gb638, 3, none⟩) (Kd.R_far (p := ⟨gb638, 2, none⟩) (Kd.R_far (p := ⟨gb638, 1, none⟩) (Kd.R_far (p := ⟨gb638, 0, none⟩) (Kd.R_types HO_638005.out BK638.out (by decide)) (fun _ hk => hk.2) (.string t620)) (fun _ hk => hk.2) (.int .i64 t621)) (fun _ hk => hk.2) (.int .i64 t622)) (fun _ hk => hk.2) (.string t623)) (fun _ hk => hk.2) (.slice Ao9 t624.length co9)) (fun _ hk => hk.2) (.slice Ao10 t627.length co10)) (fun _ hk => hk.2) (.slice Ao11 t630.length co11)) (fun _ hk => hk.2) (.int .i64 0)) (fun _ h_ => h_.1))) hb); have n5_ := zq9 (Kd.R_below (by (with_reducible repeat (first | apply zq10 | apply zq11 | apply zq12)); exact (Kd.R_mono (Kd.R_far (p := ⟨gb638, 2, none⟩) (Kd.R_far (p := ⟨gb638, 6, none⟩) (Kd.R_far (p := ⟨gb638, 5, none⟩) (Kd.R_far (p := ⟨gb638, 4, none⟩) (Kd.R_far (p := ⟨gb638, 3, none⟩) (Kd.R_far (p := ⟨gb638, 2, none⟩) (Kd.R_far (p := ⟨gb638, 1, none⟩) (Kd.R_far (p := ⟨gb638, 0, none⟩) (Kd.R_types HO_638006.out BK638.out (by decide)) (fun _ hk => hk.2) (.string t620)) (fun _ hk => hk.2) (.int .i64 t621)) (fun _ hk => hk.2) (.int .i64 t622)) (fun _ hk => hk.2) (.string t623)) (fun _ hk => hk.2) (.slice Ao9 t624.length co9)) (fun _ hk => hk.2) (.slice Ao10 t627.length co10)) (fun _ hk => hk.2) (.slice Ao11 t630.length co11)) (fun _ hk => hk.2) (.int .i64 0)) (fun _ h_ => h_.1))) hb); have n6_ := zq9 (zq30 (g := gb633) (o := .cells #[.string t620, .int .i64 t621, .int .i64 t622, .string t623, .slice Ao9 t624.length co9, .slice Ao10 t627.length co10, .slice Ao11 t630.length co11] 32 (0, 0)) (by refine bp ?_; refine blk_far ?_ NB633_638.out _; refine bp ?_; refine blk_far ?_ NB633_638.out _; refine bp ?_; refine blk_far ?_ NB633_638.out _; refine bp ?_; refine blk_far ?_ NB633_638.out _; refine bp ?_; refine blk_far ?_ NB633_638.out _; refine bp ?_; refine blk_far ?_ NB633_638.out _; refine bp ?_; refine blk_far ?_ NB633_638.out _; refine bp ?_; refine blk_far ?_ NB633_638.out _; refine bp ?_; exact BK633.out) hb); have n7_ := zq9 (zq30 (g := gb637) (o := .cells #[.string t620, .int .i64 t621, .int .i64 x638002_36, .string t623, .slice Ao9 t624.length co9, .slice Ao10 t627.length co10, .slice Ao11 t630.length co11] 32 (0, 0)) (by refine bp ?_; refine blk_far ?_ NB637_638.out _; refine bp ?_; refine blk_far ?_ NB637_638.out _; refine bp ?_; refine blk_far ?_ NB637_638.out _; refine bp ?_; refine blk_far ?_ NB637_638.out _; refine bp ?_; refine blk_far ?_ NB637_638.out _; refine bp ?_; refine blk_far ?_ NB637_638.out _; refine bp ?_; refine blk_far ?_ NB637_638.out _; refine bp ?_; refine blk_far ?_ NB637_638.out _; refine bp ?_; exact BK637.out) hb); have n8_ := zq9 (zq30 (g := gb638) (o := .cells #[.string t620, .int .i64 t621, .int .i64 0, .string t623, .slice Ao9 t624.length co9, .slice Ao10 t627.length co10, .slice Ao11 t630.length co11] 32 (0, 0)) (by refine bp ?_; refine blk_put (cs := #[.string t620, .int .i64 t621, .int .i64 t622, .string t623, .slice Ao9 t624.length co9, .slice Ao10 t627.length co10, .slice Ao11 t630.length co11]) ?_ 2 _ rfl; refine bp ?_; refine blk_put (cs := #[.string t620, .int .i64 t621, .int .i64 t622, .string t623, .slice Ao9 t624.length co9, .slice Ao10 t627.length co10, .slice none 0 0]) ?_ 6 _ rfl; refine bp ?_; refine blk_put (cs := #[.string t620, .int .i64 t621, .int .i64 t622, .string t623, .slice Ao9 t624.length co9, .slice none 0 0, .slice none 0 0]) ?_ 5 _ rfl; refine bp ?_; refine blk_put (cs := #[.string t620, .int .i64 t621, .int .i64 t622, .string t623, .slice none 0 0, .slice none 0 0, .slice none 0 0]) ?_ 4 _ rfl; refine bp ?_; refine blk_put (cs := #[.string t620, .int .i64 t621, .int .i64 t622, .string (⟨#[]⟩ : ByteArray), .slice none 0 0, .slice none 0 0, .slice none 0 0]) ?_ 3 _ rfl; refine bp ?_; refine blk_put (cs := #[.string t620, .int .i64 t621, .int .i64 0, .string (⟨#[]⟩ : ByteArray), .slice none 0 0, .slice none 0 0, .slice none 0 0]) ?_ 2 _ rfl; refine bp ?_; refine blk_put (cs := #[.string t620, .int .i64 0, .int .i64 0, .string (⟨#[]⟩ : ByteArray), .slice none 0 0, .slice none 0 0, .slice none 0 0]) ?_ 1 _ rfl; refine bp ?_; refine blk_put (cs := #[.string (⟨#[]⟩ : ByteArray), .int .i64 0, .int .i64 0, .string (⟨#[]⟩ : ByteArray), .slice none 0 0, .slice none 0 0, .slice none 0 0]) ?_ 0 _ rfl; refine bp ?_; exact BK638.out) hb); have n9_ := zq9 (zq27 (by exact b3 HB GE633 GE637 GE638) hb); clear HO_634004; clear HO_634005; clear HO_634006; clear HO_638004; clear HO_638005; clear HO_638006; clear BK633; clear BK637; clear BK638; clear HB; have HO_634004 := n0_; have HO_634005 := n1_; have HO_634006 := n2_; have HO_638004 := n3_; have HO_638005 := n4_; have HO_638006 := n5_; have BK633 := n6_; have BK637 := n7_; have BK638 := n8_; have HB := n9_; clear n0_ n1_ n2_ n3_ n4_ n5_ n6_ n7_ n8_ n9_; (try clear hb); (try clear hb2); (try clear hk); (try clear hi); have hcz72_0 : w71.cell? ⟨gb638, 0, none⟩ = some (.string t620) := bc BK638 0; have hcz72_1 : w71.cell? ⟨gb638, 1, none⟩ = some (.int .i64 t621) := bc BK638 1; have hcz72_2 : w71.cell? ⟨gb638, 2, none⟩ = some (.int .i64 0) := bc BK638 2; have hcz72_3 : w71.cell? ⟨gb638, 3, none⟩ = some (.string t623) := bc BK638 3; have hcz72_4 : w71.cell? ⟨gb638, 4, none⟩ = some (.slice Ao9 t624.length co9) := bc BK638 4; have hcz72_5 : w71.cell? ⟨gb638, 5, none⟩ = some (.slice Ao10 t627.length co10) := bc BK638 5; have hcz72_6 : w71.cell? ⟨gb638, 6, none⟩ = some (.slice Ao11 t630.length co11) := bc BK638 6; have hfz72_0 := zq6 BK638.out 0; have hfz72_1 := zq6 BK638.out 1; have hfz72_2 := zq6 BK638.out 2; have hfz72_3 := zq6 BK638.out 3; have hfz72_4 := zq6 BK638.out 4; have hfz72_5 := zq6 BK638.out 5; have hfz72_6 := zq6 BK638.out 6) | (go_at_call 13; (with_reducible refine (impl_EntryOk.calls kj36 t620 t621 0 t623 _ _ t624 _ _ t627 _ _ t630 false _ ?side1 ?side2 ?side3 ?side4 ?side5 ?side6 A51.out).mono ?_); (case side1 => repeat (first | exact (Kd.V_reads' HO_634004.out).2.2 | (with_reducible refine zq18 ?_ _) | (with_reducible refine zq19 ?_ _) | (with_reducible refine zq20 ?_))); (case side2 => exact (Kd.V_reads' HO_634004.out).2.1); (case side3 => repeat (first | exact (Kd.R_reads' HO_634005.out).2.2 | (with_reducible refine zq18 ?_ _) | (with_reducible refine zq19 ?_ _) | (with_reducible refine zq20 ?_))); (case side4 => exact (Kd.R_reads' HO_634005.out).2.1); (case side5 => repeat (first | exact (Kd.R_reads' HO_634006.out).2.2 | (with_reducible refine zq18 ?_ _) | (with_reducible refine zq19 ?_ _) | (with_reducible refine zq20 ?_))); (case side6 => exact (Kd.R_reads' HO_634006.out).2.1); rintro e w73 ⟨rfl, hb⟩; have n0_ := zq9 (Kd.V_below (by exact vz HO_634004) hb); have n1_ := zq9 (Kd.R_below (by exact rz HO_634005) hb); have n2_ := zq9 (Kd.R_below (by exact rz HO_634006) hb); have n3_ := zq9 (Kd.V_below (by exact vz HO_638004) hb); have n4_ := zq9 (Kd.R_below (by exact rz HO_638005) hb); have n5_ := zq9 (Kd.R_below (by exact rz HO_638006) hb); have n6_ := zq9 (zq30 (g := gb633) (o := .cells #[.string t620, .int .i64 t621, .int .i64 t622, .string t623, .slice Ao9 t624.length co9, .slice Ao10 t627.length co10, .slice Ao11 t630.length co11] 32 (0, 0)) (by exact bk BK633) hb); have n7_ := zq9 (zq30 (g := gb637) (o := .cells #[.string t620, .int .i64 t621, .int .i64 x638002_36, .string t623, .slice Ao9 t624.length co9, .slice Ao10 t627.length co10, .slice Ao11 t630.length co11] 32 (0, 0)) (by exact bk BK637) hb); have n8_ := zq9 (zq30 (g := gb638) (o := .cells #[.string t620, .int .i64 t621, .int .i64 0, .string t623, .slice Ao9 t624.length co9, .slice Ao10 t627.length co10, .slice Ao11 t630.length co11] 32 (0, 0)) (by exact bk BK638) hb); have n9_ := zq9 (zq27 (by exact b3 HB GE633 GE637 GE638) hb); clear HO_634004; clear HO_634005; clear HO_634006; clear HO_638004; clear HO_638005; clear HO_638006; clear BK633; clear BK637; clear BK638; clear HB; have HO_634004 := n0_; have HO_634005 := n1_; have HO_634006 := n2_; have HO_638004 := n3_; have HO_638005 := n4_; have HO_638006 := n5_; have BK633 := n6_; have BK637 := n7_; have BK638 := n8_; have HB := n9_; clear n0_ n1_ n2_ n3_ n4_ n5_ n6_ n7_ n8_ n9_; (try clear hb); (try clear hb2); (try clear hk); (try clear hi); have hcz74_0 : w73.cell? ⟨gb633, 0, none⟩ = some (.string t620) := bc BK633 0; have hcz74_1 : w73.cell? ⟨gb633, 1, none⟩ = some (.int .i64 t621) := bc BK633 1; have hcz74_2 : w73.cell? ⟨gb633, 2, none⟩ = some (.int .i64 t622) := bc BK633 2; have hcz74_3 : w73.cell? ⟨gb633, 3, none⟩ = some (.string t623) := bc BK633 3; have hcz74_4 : w73.cell? ⟨gb633, 4, none⟩ = some (.slice Ao9 t624.length co9) := bc BK633 4; have hcz74_5 : w73.cell? ⟨gb633, 5, none⟩ = some (.slice Ao10 t627.length co10) := bc BK633 5; have hcz74_6 : w73.cell? ⟨gb633, 6, none⟩ = some (.slice Ao11 t630.length co11) := bc BK633 6; have hfz74_0 := zq6 BK633.out 0; have hfz74_1 := zq6 BK633.out 1; have hfz74_2 := zq6 BK633.out 2; have hfz74_3 := zq6 BK633.out 3; have hfz74_4 := zq6 BK633.out 4; have hfz74_5 := zq6 BK633.out 5; have hfz74_6 := zq6 BK633.out 6))
            go_ret
            exact fz (by exact b3 HB GE633 GE637 GE638)
end Go.Proofs.Ytnkgmcgbbldkgaa.P
namespace Go.Proofs.Ytnkgmcgbbldkgaa.Q
open Go.RowKit Go.Proofs.YtnkgmcgbbldkgaaW.PrintWords Go.Proofs.YtnkgmcgbbldkgaaW.PrintLast
def Opens {α H : Type} (enc : TypeId × Value → H) (P : Program) (W : World) (t : TypeId) (d : Kd α) (ok : α → Prop) : Prop :=
  ∀ (fuel : Nat) (cs : List Value) (y : DataW H × List MemPlace), DataW.trod enc P W 0 (fun _ => true) true fuel t cs = some y → ∃ x : α, d.K W x cs ∧ ok x
section
variable {α β H : Type} {enc : TypeId × Value → H} {P : Program} {W : World} {t e : TypeId}
theorem Opens.int {k : IntKind} (ht : P.underlying t = some (.int k)) : Opens enc P W t (Kd.int k) (fun x => (Lit.int k x).wf = true) := by
  intro fuel cs y h
  obtain ⟨n, rfl, _, hn⟩ := DataW.trod_int ht h
  exact ⟨n, rfl, hn⟩
theorem Opens.string (ht : P.underlying t = some .string) : Opens enc P W t Kd.string (fun x => x.size ≤ maxLen) := by
  intro fuel cs y h
  obtain ⟨s, rfl, _, hs⟩ := DataW.trod_string ht h
  exact ⟨s, rfl, hs⟩
theorem cells_len {b : Nat} {a : Addr} {n : Nat} {cs : List Value} (h : W.cells? b a n = some cs) : cs.length = n := by
  unfold World.cells? at h
  split at h
  · simpa using mapM_some_length h
  · cases h
theorem cells_get {b : Nat} {a : Addr} {n : Nat} {cs : List Value} (h : W.cells? b a n = some cs) (i : Nat) (u : Value) (hu : cs[i]? = some u) : W.cell? (a.add i) = some u := by
  have hl := cells_len h
  have hi : i < n := by rw [← hl]; exact (List.getElem?_eq_some_iff.1 hu).1
  unfold World.cells? at h
  split at h
  · rw [← hu]; exact mapM_some_get h i i (by simp [hi])
  · cases h
theorem each_of {γ : Type} {Q : Nat → γ → Prop} (n : Nat) (h : ∀ i, i < n → ∃ x, Q i x) : ∃ l : List γ, l.length = n ∧ ∀ i x, l[i]? = some x → Q i x := by
  induction n with
  | zero => exact ⟨[], rfl, fun i x hx => by simp at hx⟩
  | succ n ih =>
    obtain ⟨l, hl, hq⟩ := ih (fun i hi => h i (by omega))
    obtain ⟨x, hx⟩ := h n (by omega)
    refine ⟨l ++ [x], by simp [hl], fun i y hy => ?_⟩
    rcases Nat.lt_or_ge i l.length with hi | hi
    · rw [List.getElem?_append_left hi] at hy
      exact hq i y hy
    · rw [List.getElem?_append_right hi] at hy
      have : i - l.length = 0 := by
        have := (List.getElem?_eq_some_iff.1 hy).1
        simp at this
        omega
      rw [this] at hy
      injection hy with hy
      obtain rfl : i = n := by omega
      exact hy ▸ hx
theorem Opens.slice {d : Kd α} {ok : α → Prop} (ht : P.underlying t = some (.slice e)) (hc : P.cellsOf e = d.sz) (h : Opens enc P W e d ok) :
    Opens enc P W t (Kd.slice e d) (fun xs => xs.length ≤ maxLen ∧ ∀ x ∈ xs, ok x) := by
  intro fuel cs y hy
  rcases DataW.trod_slice ht hy with ⟨rfl, _⟩ | ⟨a, len, cap, elems, rest, n, _, rfl, _, hb, hl, hm, hlen, hel, _, _⟩
  · exact ⟨[], ⟨none, 0, rfl, Nat.le_refl _, rfl, by simp, fun h => by simp at h⟩, by simp, by simp⟩
  · have each : ∀ i, i < len → ∃ x : α, (∃ c, c.length = d.sz ∧ d.K W x c ∧ ∀ j u, c[j]? = some u → W.cell? (a.add (i * d.sz + j)) = some u) ∧ ok x := by
      intro i hi
      have h1 := hel i hi
      rw [List.getElem?_eq_getElem (by omega)] at h1
      obtain ⟨c, h2, h3⟩ := Option.bind_eq_some_iff.1 h1
      obtain ⟨x, hK, hx⟩ := h _ _ _ h3
      rw [hc] at h2
      refine ⟨x, ⟨c, d.K_len hK, hK, fun j u hu => ?_⟩, hx⟩
      have h4 := cells_get h2 j u hu
      rwa [add_add] at h4
    obtain ⟨l, hll, hq⟩ := each_of len each
    subst hll
    refine ⟨l, ⟨some a, cap, rfl, hl, rfl, ?_, fun _ => ⟨a, rfl, fun j p hp => (hq j p hp).1⟩⟩, by omega, fun x hx => ?_⟩
    · unfold maxLen at hm; omega
    · obtain ⟨i, hi, rfl⟩ := List.getElem_of_mem hx
      exact (hq i _ (List.getElem?_eq_getElem hi)).2
theorem Opens.iso {d : Kd α} {ok : α → Prop} (f : β → α) (g : α → β) (hfg : ∀ a, f (g a) = a) (h : Opens enc P W t d ok) : Opens enc P W t (Kd.iso d f) (fun x => ok (f x)) := by
  intro fuel cs y hy
  obtain ⟨x, hK, hx⟩ := h _ _ _ hy
  exact ⟨g x, by show d.K W (f (g x)) cs; rw [hfg]; exact hK, by show ok (f (g x)); rw [hfg]; exact hx⟩
theorem Opens.imp {d : Kd α} {ok ok' : α → Prop} (h : Opens enc P W t d ok) (hi : ∀ x, ok x → ok' x) : Opens enc P W t d ok' := fun fuel cs y hy => by
  obtain ⟨x, hK, hx⟩ := h _ _ _ hy
  exact ⟨x, hK, hi x hx⟩
def OpensF {α H : Type} (enc : TypeId × Value → H) (P : Program) (W : World) (fs : List Field) (o : Nat) (d : Kd α) (ok : α → Prop) : Prop :=
  ∀ (n : Nat) (cs : List Value) (xs : List (DataW H × List MemPlace)), cs.length = o + d.sz → xs.length = fs.length →
    (∀ (i : Nat) (f : Field), fs[i]? = some f → DataW.trod enc P W 0 (fun _ => true) true n f.type ((cs.drop f.offset).take (P.cellsOf f.type)) = xs[i]?) → ∃ x : α, d.K W x (cs.drop o) ∧ ok x
theorem OpensF.one {d : Kd α} {ok : α → Prop} {f : Field} {o : Nat} (ho : f.offset = o) (hc : P.cellsOf f.type = d.sz) (h : Opens enc P W f.type d ok) : OpensF enc P W [f] o d ok := by
  intro n cs xs hl hx hf
  match xs, hx with
  | [x0], _ =>
    have h0 := hf 0 f rfl
    rw [ho, hc, List.take_of_length_le (by rw [List.length_drop]; omega)] at h0
    exact h n _ x0 (by simpa using h0)
theorem OpensF.cons {d : Kd α} {ok : α → Prop} {d' : Kd β} {ok' : β → Prop} {f : Field} {fs : List Field} {o : Nat} (ho : f.offset = o) (hc : P.cellsOf f.type = d.sz) (h : Opens enc P W f.type d ok)
    (hs : OpensF enc P W fs (o + d.sz) d' ok') : OpensF enc P W (f :: fs) o (Kd.pair d d') (fun x => ok x.1 ∧ ok' x.2) := by
  intro n cs xs hl hx hf
  have hsz : (Kd.pair d d').sz = d.sz + d'.sz := rfl
  match xs, hx with
  | x0 :: xs', hx =>
    have h0 := hf 0 f rfl
    rw [ho, hc] at h0
    obtain ⟨a, ha, oka⟩ := h n _ x0 (by simpa using h0)
    obtain ⟨b, hb, okb⟩ := hs n cs xs' (by omega) (by simpa using hx) (fun i g hg => by simpa using hf (i + 1) g (by simpa using hg))
    refine ⟨(a, b), ⟨(cs.drop o).take d.sz, cs.drop (o + d.sz), ?_, ha, hb⟩, oka, okb⟩
    rw [← List.drop_drop, List.take_append_drop]
theorem Opens.struct {d : Kd α} {ok : α → Prop} {fs : Array Field} (ht : P.underlying t = some (.struct fs)) (hc : P.cellsOf t = d.sz) (h : OpensF enc P W fs.toList 0 d ok) : Opens enc P W t d ok := by
  intro fuel cs y hy
  obtain ⟨xs, n, _, _, hl, hx, hf⟩ := DataW.trod_struct ht hy
  have := h n cs xs (by omega) (by simpa using hx) (fun i f hf' => hf i f (by simpa using hf'))
  simpa using this
end
theorem pos {α : Type} {c : Prop} [Decidable c] {t e : Nat → Option α} {r : α} (h : c) (x : Ev t r) : Ev (fun k => if c then t k else e k) r := by
  obtain ⟨K, hK⟩ := x
  exact ⟨K, fun k hk => (if_pos h).trans (hK k hk)⟩
theorem neg {α : Type} {c : Prop} [Decidable c] {t e : Nat → Option α} {r : α} (h : ¬ c) (x : Ev e r) : Ev (fun k => if c then t k else e k) r := by
  obtain ⟨K, hK⟩ := x
  exact ⟨K, fun k hk => (if_neg h).trans (hK k hk)⟩
theorem both {α : Type} {c : Prop} [Decidable c] {t e : Nat → Option α} {r : α} (x : c → Ev t r) (y : ¬ c → Ev e r) : Ev (fun k => if c then t k else e k) r := by
  by_cases h : c
  · exact pos h (x h)
  · exact neg h (y h)
theorem ret {α : Type} (r : α) : Ev (fun _ => some r) r := Ev.now r
theorem ret' {α : Type} {r q : α} (h : r = q) : Ev (fun _ => some r) q := h ▸ Ev.now r
theorem val {α : Type} {g : Option α} {r : α} (h : g = some r) : Ev (fun _ => g) r := ⟨0, fun _ _ => h⟩
theorem of_eq {α : Type} {g : Nat → Option α} {r q : α} (h : Ev g r) (e : r = q) : Ev g q := e ▸ h
theorem exists_of {α : Type} {g : Nat → Option α} {r : α} (h : Ev g r) : ∃ k, g k = some r := by
  obtain ⟨K, hK⟩ := h
  exact ⟨K, hK K (Nat.le_refl _)⟩
theorem wrap_id {x : Int} (h1 : -9223372036854775808 ≤ x) (h2 : x ≤ 9223372036854775807) : wrap64 x = x := by
  unfold wrap64
  omega
theorem rdOf_lt {α : Type} (d : α) (l : List α) (i : Nat) (h : i < l.length) : rdOf d l (i : Int) = l[i] := by
  simp [rdOf, List.getD_eq_getElem?_getD, h]
theorem toList_inj {a b : ByteArray} (h : a.toList = b.toList) : a = b := by
  rw [ByteArray.toList_eq, ByteArray.toList_eq] at h
  cases a with
  | mk x => cases b with
    | mk y =>
      congr
      exact Array.toList_inj.1 h
end Go.Proofs.Ytnkgmcgbbldkgaa.Q
namespace Go.Proofs.Ytnkgmcgbbldkgaa.Q
open Go.RowKit Go.Proofs.YtnkgmcgbbldkgaaW.PrintWords Go.Proofs.YtnkgmcgbbldkgaaW.PrintLast Go.Proofs.Ytnkgmcgbbldkgaa.P
abbrev Score := S99
instance : DecidableEq Score := fun a b => decidable_of_iff (a.f0 = b.f0 ∧ a.f1 = b.f1) ⟨fun h => by cases a; cases b; simp at h; simp [h], fun h => by rw [h]; exact ⟨rfl, rfl⟩⟩
theorem rdScore_lt (l : List Score) (i : Nat) (h : i < l.length) : rd_T99 l (i : Int) = l[i] := by
  simp [rd_T99, List.getD_eq_getElem?_getD, h]
end Go.Proofs.Ytnkgmcgbbldkgaa.Q
namespace Go.Proofs.Ytnkgmcgbbldkgaa.Q
open Go.RowKit Go.Proofs.YtnkgmcgbbldkgaaW.PrintWords Go.Proofs.YtnkgmcgbbldkgaaW.PrintLast
theorem bl_irrefl (a : List UInt8) : Op.bytesLess a a = false := by
  induction a with
  | nil => rfl
  | cons x r ih => simp [Op.bytesLess, ih]
theorem bl_trans (a : List UInt8) : ∀ (b c : List UInt8), Op.bytesLess a b = true → Op.bytesLess b c = true → Op.bytesLess a c = true := by
  induction a with
  | nil =>
    intro b c h1 h2
    cases c with
    | nil => cases b <;> simp [Op.bytesLess] at h2
    | cons z c => rfl
  | cons x a ih =>
    intro b c h1 h2
    cases b with
    | nil => simp [Op.bytesLess] at h1
    | cons y b =>
      cases c with
      | nil => simp [Op.bytesLess] at h2
      | cons z c =>
        simp only [Op.bytesLess, Bool.or_eq_true, Bool.and_eq_true, decide_eq_true_eq, beq_iff_eq] at h1 h2 ⊢
        rcases h1 with h1 | ⟨rfl, h1⟩
        · rcases h2 with h2 | ⟨rfl, h2⟩
          · exact .inl (UInt8.lt_trans h1 h2)
          · exact .inl h1
        · rcases h2 with h2 | ⟨rfl, h2⟩
          · exact .inl h2
          · exact .inr ⟨rfl, ih b c h1 h2⟩
theorem bl_tri (a : List UInt8) : ∀ (b : List UInt8), Op.bytesLess a b = true ∨ a = b ∨ Op.bytesLess b a = true := by
  induction a with
  | nil =>
    intro b
    cases b with
    | nil => exact .inr (.inl rfl)
    | cons y b => exact .inl rfl
  | cons x a ih =>
    intro b
    cases b with
    | nil => exact .inr (.inr rfl)
    | cons y b =>
      simp only [Op.bytesLess, Bool.or_eq_true, Bool.and_eq_true, decide_eq_true_eq, beq_iff_eq]
      by_cases h : x < y
      · exact .inl (.inl h)
      · by_cases h' : y < x
        · exact .inr (.inr (.inl h'))
        · obtain rfl : x = y := UInt8.le_antisymm (UInt8.not_lt.1 h') (UInt8.not_lt.1 h)
          rcases ih b with h | rfl | h
          · exact .inl (.inr ⟨rfl, h⟩)
          · exact .inr (.inl rfl)
          · exact .inr (.inr (.inr ⟨rfl, h⟩))
def lt (a b : ByteArray) : Bool := Op.bytesLess a.toList b.toList
theorem lt_irrefl (a : ByteArray) : lt a a = false := bl_irrefl _
theorem lt_trans {a b c : ByteArray} (h : lt a b = true) (h' : lt b c = true) : lt a c = true := bl_trans _ _ _ h h'
theorem lt_tri (a b : ByteArray) : lt a b = true ∨ a = b ∨ lt b a = true := by
  rcases bl_tri a.toList b.toList with h | h | h
  · exact .inl h
  · exact .inr (.inl (toList_inj h))
  · exact .inr (.inr h)
end Go.Proofs.Ytnkgmcgbbldkgaa.Q
namespace Go.Proofs.Ytnkgmcgbbldkgaa.Q
open Go.RowKit Go.Proofs.YtnkgmcgbbldkgaaW.PrintWords Go.Proofs.YtnkgmcgbbldkgaaW.PrintLast Go.Proofs.Ytnkgmcgbbldkgaa.P
def inB (n low high : Int) : Bool := decide (low ≤ n) && decide (n ≤ high)
def placeB (n : Int) : Bool := inB n (-1000000000) 1000000000
theorem inB_iff {n low high : Int} : inB n low high = true ↔ low ≤ n ∧ n ≤ high := by simp [inB]
theorem l1In_eq (n low high : Int) : spec_l1In.f n low high = some (inB n low high) := by
  unfold spec_l1In.f inB
  by_cases h : low ≤ n
  · rw [if_pos (show n ≥ low from h)]; simp [h]
  · rw [if_neg (show ¬ n ≥ low from h)]; simp [h]
theorem within_eq (n low high : Int) : impl_within.f n low high = some (inB n low high) := by
  unfold impl_within.f inB
  by_cases h : low ≤ n
  · rw [if_pos (show n ≥ low from h)]; simp [h]
  · rw [if_neg (show ¬ n ≥ low from h)]; simp [h]
theorem position_eq (n : Int) : impl_position.f n = some (placeB n) := by
  unfold impl_position.f
  rw [within_eq]
  rfl
theorem l1In_ev (n low high : Int) : Ev (fun _ => spec_l1In.f n low high) (inB n low high) := val (l1In_eq n low high)
theorem within_ev (n low high : Int) : Ev (fun _ => impl_within.f n low high) (inB n low high) := val (within_eq n low high)
theorem position_ev (n : Int) : Ev (fun _ => impl_position.f n) (placeB n) := val (position_eq n)
def ahd (a b : Score) : Bool := decide (a.f1 < b.f1) || (decide (a.f1 = b.f1) && lt a.f0 b.f0)
theorem l3Ahead_eq (a b : Score) : spec_l3Ahead.f a.f0 a.f1 b.f0 b.f1 = some (ahd a b) := by
  unfold spec_l3Ahead.f ahd
  by_cases h : a.f1 < b.f1
  · rw [if_pos h]; simp [h]
  · rw [if_neg h]
    by_cases h' : a.f1 = b.f1
    · rw [if_pos h']; simp [h', lt]
    · rw [if_neg h']; simp [h, h']
theorem Compare_int_eq (a b : Int) : cmp_Compare_int.f a b = some (if a < b then -1 else if a > b then 1 else 0) := by
  unfold cmp_Compare_int.f cmp_isNaN_int.f
  simp
  split
  · rfl
  · split <;> rfl
theorem Compare_string_eq (a b : ByteArray) : cmp_Compare_string.f a b = some (if lt a b = true then -1 else if lt b a = true then 1 else 0) := by
  unfold cmp_Compare_string.f cmp_isNaN_string.f lt
  simp
  split
  · rfl
  · split <;> rfl
theorem Or_ev (a b : Int) : Ev (fun k => cmp_Or_int.f k [a, b]) (if a = 0 then b else a) := by
  unfold cmp_Or_int.f
  refine Ev.step (g := fun k => cmp_Or_int.l0 k _ _ _ _) (fun k => by rw [cmp_Or_int.l0]) (pos (by simp) (pos (by omega) (pos (by simp) ?_)))
  rw [show rd [a, b] 0 = a by rfl]
  refine both (fun h => ?_) (fun h => ret' (if_neg h).symm)
  rw [if_pos h, show wrap64 (0 + 1) = 1 by unfold wrap64; decide]
  refine Ev.step (g := fun k => cmp_Or_int.l0 k _ _ _ _) (fun k => by rw [cmp_Or_int.l0]) (pos (by simp) (pos (by omega) (pos (by simp) ?_)))
  rw [show rd [a, b] 1 = b by rfl, show wrap64 (1 + 1) = 2 by unfold wrap64; decide]
  refine both (fun h' => ?_) (fun h' => ret _)
  exact Ev.step (g := fun k => cmp_Or_int.l0 k _ _ _ _) (fun k => by rw [cmp_Or_int.l0]) (neg (by simp) (ret' h'.symm))
def ordM (a b : Score) : Int := if a.f1 < b.f1 then -1 else if a.f1 > b.f1 then 1 else if lt a.f0 b.f0 = true then -1 else if lt b.f0 a.f0 = true then 1 else 0
theorem scoreOrder_ev (a b : Score) : Ev (fun k => impl_scoreOrder.f k a.f0 a.f1 b.f0 b.f1) (ordM a b) := by
  unfold impl_scoreOrder.f
  refine Ev.bind (val (Compare_int_eq _ _)) (Ev.bind (val (Compare_string_eq _ _)) (Ev.bind (Or_ev _ _) (ret' ?_)))
  unfold ordM
  by_cases h : a.f1 < b.f1
  · simp [h]
  · by_cases h' : a.f1 > b.f1
    · simp [h, h']
    · simp [h, h']
theorem ordM_ahd (a b : Score) : ordM a b ≥ 0 ↔ ahd a b = false := by
  unfold ordM ahd
  by_cases h : a.f1 < b.f1
  · simp [h]
  · by_cases h' : a.f1 > b.f1
    · have : ¬ a.f1 = b.f1 := by omega
      simp [h, h', this]
    · have : a.f1 = b.f1 := by omega
      cases hl : lt a.f0 b.f0 with
      | true => simp [this]
      | false => simp [this]; split <;> decide
def fresh (l : List Score) (i : Nat) : Bool := (List.range i).all (fun k => !decide ((rd_T99 l (k : Int)).f0 = (rd_T99 l (i : Int)).f0))
def sOk (l : List Score) (i : Nat) : Bool :=
  decide ((rd_T99 l (i : Int)).f0.size ≤ 40) && (placeB (rd_T99 l (i : Int)).f1 && ((decide (i = 0) || ahd (rd_T99 l ((i - 1 : Nat) : Int)) (rd_T99 l (i : Int))) && fresh l i))
theorem sOk_eq {l : List Score} {i : Nat} (h40 : (rd_T99 l (i : Int)).f0.size ≤ 40) (hp : placeB (rd_T99 l (i : Int)).f1 = true) (ha : i = 0 ∨ ahd (rd_T99 l ((i - 1 : Nat) : Int)) (rd_T99 l (i : Int)) = true) : sOk l i = fresh l i := by
  unfold sOk
  rw [decide_eq_true h40, hp, Bool.true_and, Bool.true_and]
  rcases ha with ha | ha
  · rw [decide_eq_true ha, Bool.true_or, Bool.true_and]
  · rw [ha, Bool.or_true, Bool.true_and]
theorem sOk_no {l : List Score} {i : Nat} (h : ¬ (rd_T99 l (i : Int)).f0.size ≤ 40 ∨ placeB (rd_T99 l (i : Int)).f1 = false ∨ (¬ i = 0 ∧ ahd (rd_T99 l ((i - 1 : Nat) : Int)) (rd_T99 l (i : Int)) = false) ∨ fresh l i = false) : sOk l i = false := by
  unfold sOk
  rcases h with h | h | ⟨h, h'⟩ | h
  · rw [decide_eq_false h, Bool.false_and]
  · rw [h, Bool.false_and, Bool.and_false]
  · rw [decide_eq_false h, h', Bool.false_or, Bool.false_and, Bool.and_false, Bool.and_false]
  · rw [h, Bool.and_false, Bool.and_false, Bool.and_false]
def scoresB (l : List Score) : Bool := (List.range' 0 l.length).all (sOk l) && decide ((l.length : Int) ≤ 16)
theorem spec_ScoresOk_l1 (l : List Score) (hl : l.length ≤ maxLen) (i : Nat) (hi : i < l.length) (r : Bool) (hr : Ev (fun k => spec_ScoresOk.l0 k l (wrap64 ((i : Int) + 1))) r) (d : Nat) : ∀ (j : Nat), j + d = i →
    Ev (fun k => spec_ScoresOk.l1 k l (i : Int) (j : Int)) ((List.range' j d).all (fun k => !decide ((rd_T99 l (k : Int)).f0 = (rd_T99 l (i : Int)).f0)) && r) := by
  unfold maxLen at hl
  induction d with
  | zero =>
    intro j hj
    refine Ev.step (g := fun k => spec_ScoresOk.l1 k _ _ _) (fun k => by rw [spec_ScoresOk.l1]) (neg (by omega) ?_)
    simpa using hr
  | succ d ih =>
    intro j hj
    refine Ev.step (g := fun k => spec_ScoresOk.l1 k _ _ _) (fun k => by rw [spec_ScoresOk.l1]) (pos (by omega) (pos (by omega) (pos (by omega) (pos (by omega) (pos (by omega) ?_)))))
    rw [wrap_id (x := (j : Int) + 1) (by omega) (by omega), List.range'_succ, List.all_cons]
    refine both (fun h => ret' ?_) (fun h => ?_)
    · simp [toList_inj h]
    · have : ¬ (rd_T99 l (j : Int)).f0 = (rd_T99 l (i : Int)).f0 := fun e => h (by rw [e])
      refine of_eq (ih (j + 1) (by omega)) ?_
      simp [this]
theorem spec_ScoresOk_l0 (l : List Score) (hl : l.length ≤ maxLen) (d : Nat) : ∀ (i : Nat), i + d = l.length → Ev (fun k => spec_ScoresOk.l0 k l (i : Int)) ((List.range' i d).all (sOk l) && decide ((l.length : Int) ≤ 16)) := by
  have hl' := hl
  unfold maxLen at hl'
  induction d with
  | zero =>
    intro i hi
    refine Ev.step (g := fun k => spec_ScoresOk.l0 k _ _) (fun k => by rw [spec_ScoresOk.l0]) (neg (by omega) (ret' ?_))
    simp
  | succ d ih =>
    intro i hi
    have hw : wrap64 ((i : Int) + 1) = ((i + 1 : Nat) : Int) := by rw [wrap_id (by omega) (by omega)]; omega
    have ih' := ih (i + 1) (by omega)
    have hin := spec_ScoresOk_l1 l hl i (by omega) _ (by rw [hw]; exact ih') i 0 (by omega)
    rw [← List.range_eq_range'] at hin
    refine Ev.step (g := fun k => spec_ScoresOk.l0 k _ _) (fun k => by rw [spec_ScoresOk.l0]) (pos (by omega) (pos (by omega) ?_))
    rw [List.range'_succ, List.all_cons]
    refine both (fun h => ?_) (fun h => ?_)
    · refine Ev.step (g := fun k => spec_ScoresOk.j1 k _ _ _) (fun k => by rw [spec_ScoresOk.j1]) ?_
      exact pos rfl (ret' (by rw [sOk_no (.inl (by omega))]; rfl))
    · have h40 : (rd_T99 l (i : Int)).f0.size ≤ 40 := by omega
      refine Ev.bind (l1In_ev _ _ _) ?_
      rw [show inB (rd_T99 l (i : Int)).f1 (-1000000000) 1000000000 = placeB (rd_T99 l (i : Int)).f1 from rfl]
      cases hp : placeB (rd_T99 l (i : Int)).f1 with
      | false =>
        refine neg (by decide) ?_
        refine Ev.step (g := fun k => spec_ScoresOk.j1 k _ _ _) (fun k => by rw [spec_ScoresOk.j1]) ?_
        exact pos rfl (ret' (by rw [sOk_no (.inr (.inl hp))]; rfl))
      | true =>
        refine pos rfl ?_
        by_cases h0 : i = 0
        · refine neg (by omega) ?_
          refine Ev.step (g := fun k => spec_ScoresOk.j1 k _ _ _) (fun k => by rw [spec_ScoresOk.j1]) ?_
          exact neg (by decide) (of_eq hin (by rw [sOk_eq h40 hp (.inl h0), Bool.and_assoc]; rfl))
        · refine pos (by omega) ?_
          rw [show wrap64 ((i : Int) - 1) = ((i - 1 : Nat) : Int) by rw [wrap_id (by omega) (by omega)]; omega]
          refine pos (by omega) (pos (by omega) (Ev.bind (val (l3Ahead_eq _ _)) ?_))
          cases ha : ahd (rd_T99 l ((i - 1 : Nat) : Int)) (rd_T99 l (i : Int)) with
          | false =>
            refine Ev.step (g := fun k => spec_ScoresOk.j1 k _ _ _) (fun k => by rw [spec_ScoresOk.j1]) ?_
            exact pos rfl (ret' (by rw [sOk_no (.inr (.inr (.inl ⟨h0, ha⟩)))]; rfl))
          | true =>
            refine Ev.step (g := fun k => spec_ScoresOk.j1 k _ _ _) (fun k => by rw [spec_ScoresOk.j1]) ?_
            exact neg (by decide) (of_eq hin (by rw [sOk_eq h40 hp (.inr ha), Bool.and_assoc]; rfl))
theorem spec_ScoresOk_ev (l : List Score) (hl : l.length ≤ maxLen) : Ev (fun k => spec_ScoresOk.f k l) (scoresB l) := spec_ScoresOk_l0 l hl l.length 0 (by omega)
theorem from_ge (t : ByteArray) (r : List Score) : ∀ o : Nat, impl_scoreAt.from t r o = -1 ∨ (o : Int) ≤ impl_scoreAt.from t r o ∧ impl_scoreAt.from t r o < o + r.length := by
  induction r with
  | nil => intro o; exact .inl rfl
  | cons x r ih =>
    intro o
    rw [impl_scoreAt.from]
    by_cases h : x.f0.toList = t.toList
    · rw [if_pos h]; right; simp; omega
    · rw [if_neg h]
      rcases ih (o + 1) with h | h
      · exact .inl h
      · right; simp; omega
theorem from_iff (t : ByteArray) (r : List Score) : ∀ (o j : Nat), impl_scoreAt.from t r o = ((o + j : Nat) : Int) ↔ ∃ h : j < r.length, r[j].f0 = t ∧ ∀ k (hk : k < j), (r[k]'(by omega)).f0 ≠ t := by
  induction r with
  | nil =>
    intro o j
    refine ⟨fun h => ?_, fun ⟨h, _⟩ => ?_⟩
    · have : (-1 : Int) = ((o + j : Nat) : Int) := h
      omega
    · simp at h
  | cons x r ih =>
    intro o j
    rw [impl_scoreAt.from]
    by_cases h : x.f0.toList = t.toList
    · rw [if_pos h]
      refine ⟨fun e => ?_, fun ⟨h1, h2, h3⟩ => ?_⟩
      · obtain rfl : j = 0 := by omega
        exact ⟨by simp, toList_inj h, fun k hk => by omega⟩
      · cases j with
        | zero => rfl
        | succ j => exact absurd (toList_inj h) (h3 0 (by omega))
    · rw [if_neg h]
      cases j with
      | zero =>
        refine ⟨fun e => ?_, fun ⟨h1, h2, h3⟩ => ?_⟩
        · rcases from_ge t r (o + 1) with q | q <;> omega
        · exact absurd (by rw [← h2]; rfl) h
      | succ j =>
        rw [show o + (j + 1) = (o + 1) + j by omega, ih (o + 1) j]
        refine ⟨fun ⟨h1, h2, h3⟩ => ⟨by simp; omega, h2, fun k hk => ?_⟩, fun ⟨h1, h2, h3⟩ => ⟨by simp at h1; omega, h2, fun k hk => h3 (k + 1) (by omega)⟩⟩
        cases k with
        | zero => exact fun e => h (by rw [← e]; rfl)
        | succ k => exact h3 k (by omega)
theorem from_fresh (l : List Score) (i : Nat) (hi : i < l.length) : decide (impl_scoreAt.from (rd_T99 l (i : Int)).f0 l 0 = (i : Int)) = fresh l i := by
  have := from_iff (rd_T99 l (i : Int)).f0 l 0 i
  rw [Nat.zero_add] at this
  rw [Bool.eq_iff_iff, decide_eq_true_iff, this]
  unfold fresh
  simp only [List.all_eq_true, List.mem_range, Bool.not_eq_true', decide_eq_false_iff_not]
  rw [rdScore_lt _ _ hi]
  refine ⟨fun ⟨_, _, h⟩ k hk => ?_, fun h => ⟨hi, rfl, fun k hk => ?_⟩⟩
  · rw [rdScore_lt _ _ (by omega)]; exact h k hk
  · have := h k hk
    rw [rdScore_lt _ _ (by omega)] at this
    exact this
theorem impl_ScoresOk_l0 (l : List Score) (hl : l.length ≤ maxLen) (d : Nat) : ∀ (i : Nat), i + d = l.length → Ev (fun k => impl_ScoresOk.l0 k l l (l.length : Int) (i : Int)) ((List.range' i d).all (sOk l) && decide ((l.length : Int) ≤ 16)) := by
  have hl' := hl
  unfold maxLen at hl'
  induction d with
  | zero =>
    intro i hi
    refine Ev.step (g := fun k => impl_ScoresOk.l0 k _ _ _ _) (fun k => by rw [impl_ScoresOk.l0]) (neg (by omega) (ret' ?_))
    simp
  | succ d ih =>
    intro i hi
    have ih' := ih (i + 1) (by omega)
    have hf := from_fresh l i (by omega)
    refine Ev.step (g := fun k => impl_ScoresOk.l0 k _ _ _ _) (fun k => by rw [impl_ScoresOk.l0]) (pos (by omega) (pos (by omega) (pos (by omega) ?_)))
    rw [List.range'_succ, List.all_cons, wrap_id (x := (i : Int) + 1) (by omega) (by omega)]
    refine both (fun h => ret' (by rw [sOk_no (.inl (by omega))]; rfl)) (fun h => ?_)
    · have h40 : (rd_T99 l (i : Int)).f0.size ≤ 40 := by omega
      refine Ev.bind (position_ev _) ?_
      cases hp : placeB (rd_T99 l (i : Int)).f1 with
      | false => exact neg (by decide) (ret' (by rw [sOk_no (.inr (.inl hp))]; rfl))
      | true =>
        refine pos rfl ?_
        by_cases h0 : i = 0
        · refine neg (by omega) (Ev.bind (val rfl) ?_)
          refine both (fun q => ?_) (fun q => ret' ?_)
          · rw [decide_eq_true q] at hf
            exact of_eq ih' (by rw [sOk_eq h40 hp (.inl h0), ← hf, Bool.true_and])
          · rw [decide_eq_false q] at hf
            rw [sOk_no (.inr (.inr (.inr hf.symm)))]; rfl
        · refine pos (by omega) ?_
          rw [show wrap64 ((i : Int) - 1) = ((i - 1 : Nat) : Int) by rw [wrap_id (by omega) (by omega)]; omega]
          refine pos (by omega) (pos (by omega) (Ev.bind (scoreOrder_ev _ _) ?_))
          refine both (fun q => ret' ?_) (fun q => ?_)
          · rw [sOk_no (.inr (.inr (.inl ⟨h0, (ordM_ahd _ _).1 q⟩)))]; rfl
          · have ha : ahd (rd_T99 l ((i - 1 : Nat) : Int)) (rd_T99 l (i : Int)) = true := by
              cases e : ahd (rd_T99 l ((i - 1 : Nat) : Int)) (rd_T99 l (i : Int)) with
              | true => rfl
              | false => exact absurd ((ordM_ahd _ _).2 e) q
            refine Ev.bind (val rfl) ?_
            refine both (fun q => ?_) (fun q => ret' ?_)
            · rw [decide_eq_true q] at hf
              exact of_eq ih' (by rw [sOk_eq h40 hp (.inr ha), ← hf, Bool.true_and])
            · rw [decide_eq_false q] at hf
              rw [sOk_no (.inr (.inr (.inr hf.symm)))]; rfl
theorem impl_ScoresOk_ev (l : List Score) (hl : l.length ≤ maxLen) : Ev (fun k => impl_ScoresOk.f k l) (scoresB l) := impl_ScoresOk_l0 l hl l.length 0 (by omega)
abbrev Pair := S101
instance : DecidableEq Pair := fun a b => decidable_of_iff (a.f0 = b.f0 ∧ a.f1 = b.f1) ⟨fun h => by cases a; cases b; simp at h; simp [h], fun h => by rw [h]; exact ⟨rfl, rfl⟩⟩
theorem rdPair_lt (l : List Pair) (i : Nat) (h : i < l.length) : rd_T101 l (i : Int) = l[i] := by
  simp [rd_T101, List.getD_eq_getElem?_getD, h]
def ahead : Option ByteArray → ByteArray → Bool
  | none, _ => true
  | some y, x => lt y x
def fieldsUp : Option ByteArray → List Pair → Bool
  | _, [] => true
  | p, x :: r => decide (x.f0.size ≤ 40) && (decide (x.f1.size ≤ 40) && (ahead p x.f0 && fieldsUp (some x.f0) r))
def fieldsB (l : List Pair) : Bool := fieldsUp none l && decide ((l.length : Int) ≤ 16)
def before (l : List Pair) (i : Nat) : Option ByteArray := if h : 0 < i ∧ i - 1 < l.length then some (l[i - 1]'h.2).f0 else none
theorem spec_FieldsOk_l0 (l : List Pair) (hl : l.length ≤ maxLen) (d : Nat) : ∀ (i : Nat), i + d = l.length → Ev (fun k => spec_FieldsOk.l0 k l (i : Int)) (fieldsUp (before l i) (l.drop i) && decide ((l.length : Int) ≤ 16)) := by
  unfold maxLen at hl
  induction d with
  | zero =>
    intro i hi
    refine Ev.step (g := fun k => spec_FieldsOk.l0 k _ _) (fun k => by rw [spec_FieldsOk.l0]) (neg (by omega) (ret' ?_))
    rw [List.drop_of_length_le (by omega), fieldsUp, Bool.true_and]
  | succ d ih =>
    intro i hi
    have hlt : i < l.length := by omega
    refine Ev.step (g := fun k => spec_FieldsOk.l0 k _ _) (fun k => by rw [spec_FieldsOk.l0]) (pos (by omega) (pos (by omega) ?_))
    try refine pos (by omega) ?_
    rw [rdPair_lt _ _ hlt, List.drop_eq_getElem_cons hlt, fieldsUp, wrap_id (x := (i : Int) + 1) (by omega) (by omega)]
    have hb : before l (i + 1) = some l[i].f0 := by unfold before; rw [dif_pos ⟨by omega, by omega⟩]; rfl
    have ih := ih (i + 1) (by omega)
    rw [hb] at ih
    refine both (fun h => ret' ?_) (fun h => both (fun h' => ret' ?_) (fun h' => ?_))
    · rw [decide_eq_false (by omega), Bool.false_and, Bool.false_and]
    · rw [decide_eq_false (p := l[i].f1.size ≤ 40) (by omega)]; simp
    · rw [decide_eq_true (by omega), decide_eq_true (p := l[i].f1.size ≤ 40) (by omega), Bool.true_and, Bool.true_and]
      by_cases h0 : i = 0
      · subst h0
        refine neg (by omega) (of_eq ih ?_)
        simp [before, ahead]
      · have hlt1 : i - 1 < l.length := by omega
        have hp : before l i = some l[i - 1].f0 := by unfold before; rw [dif_pos ⟨by omega, hlt1⟩]
        have e : wrap64 ((i : Int) - 1) = ((i - 1 : Nat) : Int) := by rw [wrap_id (by omega) (by omega)]; omega
        rw [hp, e, rdPair_lt _ _ hlt1]
        refine pos (by omega) (pos (by omega) (pos (by omega) (both (fun h => ?_) (fun h => ret' ?_))))
        · refine of_eq ih ?_
          show _ = (lt l[i - 1].f0 l[i].f0 && fieldsUp (some l[i].f0) (l.drop (i + 1)) && _)
          rw [show lt l[i - 1].f0 l[i].f0 = true from h, Bool.true_and]
        · show false = (lt l[i - 1].f0 l[i].f0 && fieldsUp (some l[i].f0) (l.drop (i + 1)) && _)
          rw [show lt l[i - 1].f0 l[i].f0 = false from Bool.eq_false_iff.2 h, Bool.false_and, Bool.false_and]
theorem spec_FieldsOk_ev (l : List Pair) (hl : l.length ≤ maxLen) : Ev (fun k => spec_FieldsOk.f k l) (fieldsB l) := by
  have := spec_FieldsOk_l0 l hl l.length 0 (by omega)
  simpa [before, spec_FieldsOk.f, fieldsB] using this
theorem impl_FieldsOk_l0 (l : List Pair) (hl : l.length ≤ maxLen) (d : Nat) : ∀ (i : Nat), i + d = l.length → Ev (fun k => impl_FieldsOk.l0 k l l (l.length : Int) (i : Int)) (fieldsUp (before l i) (l.drop i) && decide ((l.length : Int) ≤ 16)) := by
  unfold maxLen at hl
  induction d with
  | zero =>
    intro i hi
    refine Ev.step (g := fun k => impl_FieldsOk.l0 k _ _ _ _) (fun k => by rw [impl_FieldsOk.l0]) (neg (by omega) (ret' ?_))
    rw [List.drop_of_length_le (by omega), fieldsUp, Bool.true_and]
  | succ d ih =>
    intro i hi
    have hlt : i < l.length := by omega
    refine Ev.step (g := fun k => impl_FieldsOk.l0 k _ _ _ _) (fun k => by rw [impl_FieldsOk.l0]) (pos (by omega) (pos (by omega) ?_))
    try refine pos (by omega) ?_
    rw [rdPair_lt _ _ hlt, List.drop_eq_getElem_cons hlt, fieldsUp, wrap_id (x := (i : Int) + 1) (by omega) (by omega)]
    have hb : before l (i + 1) = some l[i].f0 := by unfold before; rw [dif_pos ⟨by omega, by omega⟩]; rfl
    have ih := ih (i + 1) (by omega)
    rw [hb] at ih
    refine both (fun h => ret' ?_) (fun h => both (fun h' => ret' ?_) (fun h' => ?_))
    · rw [decide_eq_false (by omega), Bool.false_and, Bool.false_and]
    · rw [decide_eq_false (p := l[i].f1.size ≤ 40) (by omega)]; simp
    · rw [decide_eq_true (by omega), decide_eq_true (p := l[i].f1.size ≤ 40) (by omega), Bool.true_and, Bool.true_and]
      by_cases h0 : i = 0
      · subst h0
        refine neg (by omega) (of_eq ih ?_)
        simp [before, ahead]
      · have hlt1 : i - 1 < l.length := by omega
        have hp : before l i = some l[i - 1].f0 := by unfold before; rw [dif_pos ⟨by omega, hlt1⟩]
        have e : wrap64 ((i : Int) - 1) = ((i - 1 : Nat) : Int) := by rw [wrap_id (by omega) (by omega)]; omega
        rw [hp, e, rdPair_lt _ _ hlt1]
        refine pos (by omega) (pos (by omega) (pos (by omega) (both (fun h => ?_) (fun h => ret' ?_))))
        · refine of_eq ih ?_
          show _ = (lt l[i - 1].f0 l[i].f0 && fieldsUp (some l[i].f0) (l.drop (i + 1)) && _)
          rw [show lt l[i - 1].f0 l[i].f0 = true from h, Bool.true_and]
        · show false = (lt l[i - 1].f0 l[i].f0 && fieldsUp (some l[i].f0) (l.drop (i + 1)) && _)
          rw [show lt l[i - 1].f0 l[i].f0 = false from Bool.eq_false_iff.2 h, Bool.false_and, Bool.false_and]
theorem impl_FieldsOk_ev (l : List Pair) (hl : l.length ≤ maxLen) : Ev (fun k => impl_FieldsOk.f k l) (fieldsB l) := by
  have := impl_FieldsOk_l0 l hl l.length 0 (by omega)
  simpa [before, impl_FieldsOk.f, fieldsB] using this
def textsB (l : List ByteArray) (m : Int) : Bool := l.all (fun s => decide (s.size ≤ 40)) && decide ((l.length : Int) ≤ m)
theorem l2Texts_l0 (l : List ByteArray) (hl : l.length ≤ maxLen) (d : Nat) : ∀ (i : Nat), i + d = l.length → Ev (fun k => spec_l2Texts.l0 k l (i : Int)) ((l.drop i).all (fun s => decide (s.size ≤ 40)) && decide ((l.length : Int) ≤ 16)) := by
  unfold maxLen at hl
  induction d with
  | zero =>
    intro i hi
    refine Ev.step (fun k => by rw [spec_l2Texts.l0]) (neg (by omega) (ret' ?_))
    rw [List.drop_of_length_le (by omega)]
    simp
  | succ d ih =>
    intro i hi
    have hlt : i < l.length := by omega
    refine Ev.step (fun k => by rw [spec_l2Texts.l0]) (pos (by omega) (pos (by omega) ?_))
    rw [rdOf_lt _ _ _ hlt, List.drop_eq_getElem_cons hlt, List.all_cons, wrap_id (by omega) (by omega)]
    refine both (fun h => ret' ?_) (fun h => ?_)
    · have : ¬ l[i].size ≤ 40 := by omega
      simp [this]
    · have : l[i].size ≤ 40 := by omega
      simp only [this, decide_true, Bool.true_and]
      exact ih (i + 1) (by omega)
theorem l2Texts_ev (l : List ByteArray) (hl : l.length ≤ maxLen) : Ev (fun k => spec_l2Texts.f k l) (textsB l 16) := l2Texts_l0 l hl l.length 0 (by omega)
theorem textsOk_l0 (l : List ByteArray) (hl : l.length ≤ maxLen) (m : Int) (d : Nat) : ∀ (i : Nat), i + d = l.length → Ev (fun k => impl_textsOk.l0 k l m l (l.length : Int) (i : Int)) ((l.drop i).all (fun s => decide (s.size ≤ 40)) && decide ((l.length : Int) ≤ m)) := by
  unfold maxLen at hl
  induction d with
  | zero =>
    intro i hi
    refine Ev.step (fun k => by rw [impl_textsOk.l0]) (neg (by omega) (ret' ?_))
    rw [List.drop_of_length_le (by omega)]
    simp
  | succ d ih =>
    intro i hi
    have hlt : i < l.length := by omega
    refine Ev.step (fun k => by rw [impl_textsOk.l0]) (pos (by omega) (pos (by omega) (pos (by omega) ?_)))
    rw [rdOf_lt _ _ _ hlt, List.drop_eq_getElem_cons hlt, List.all_cons, wrap_id (by omega) (by omega)]
    refine both (fun h => ret' ?_) (fun h => ?_)
    · have : ¬ l[i].size ≤ 40 := by omega
      simp [this]
    · have : l[i].size ≤ 40 := by omega
      simp only [this, decide_true, Bool.true_and]
      exact ih (i + 1) (by omega)
theorem textsOk_ev (l : List ByteArray) (hl : l.length ≤ maxLen) (m : Int) : Ev (fun k => impl_textsOk.f k l m) (textsB l m) := textsOk_l0 l hl m l.length 0 (by omega)
theorem listOk_ev (l : List ByteArray) (hl : l.length ≤ maxLen) : Ev (fun k => impl_listOk.f k l) (textsB l 16) := by
  unfold impl_listOk.f
  exact Ev.bind (textsOk_ev l hl 16) (ret _)
def ascB : List ByteArray → Bool
  | a :: b :: r => lt a b && ascB (b :: r)
  | _ => true
def setB (l : List ByteArray) : Bool := ascB l && textsB l 16
theorem spec_SetOk_l0 (l : List ByteArray) (hl : l.length ≤ maxLen) (d : Nat) : ∀ (j : Nat), j + 1 + d = l.length → Ev (fun k => spec_SetOk.l0 k l ((j : Int) + 1)) (ascB (l.drop j) && textsB l 16) := by
  have hl' := hl
  unfold maxLen at hl'
  induction d with
  | zero =>
    intro j hj
    refine Ev.step (fun k => by rw [spec_SetOk.l0]) (neg (by omega) ?_)
    rw [List.drop_eq_getElem_cons (by omega : j < l.length), List.drop_of_length_le (by omega)]
    exact Ev.bind (l2Texts_ev l hl) (ret' (by simp [ascB]))
  | succ d ih =>
    intro j hj
    have h1 : j < l.length := by omega
    have h2 : j + 1 < l.length := by omega
    have e : (j : Int) + 1 = ((j + 1 : Nat) : Int) := by omega
    refine Ev.step (fun k => by rw [spec_SetOk.l0]) (pos (by omega) ?_)
    rw [wrap_id (x := (j : Int) + 1 - 1) (by omega) (by omega), show (j : Int) + 1 - 1 = (j : Int) by omega]
    refine pos (by omega) (pos (by omega) (pos (by omega) ?_))
    rw [rdOf_lt _ _ _ h1, e, rdOf_lt _ _ _ h2, wrap_id (by omega) (by omega)]
    have hd : l.drop j = l[j] :: l[j + 1] :: l.drop (j + 2) := by rw [List.drop_eq_getElem_cons h1, List.drop_eq_getElem_cons h2]
    have hd1 : l.drop (j + 1) = l[j + 1] :: l.drop (j + 2) := List.drop_eq_getElem_cons h2
    rw [hd]
    refine both (fun h => ?_) (fun h => ret' ?_)
    · have := ih (j + 1) (by omega)
      rw [hd1] at this
      refine of_eq this ?_
      show _ = (lt l[j] l[j + 1] && ascB (l[j + 1] :: l.drop (j + 2)) && textsB l 16)
      rw [show lt l[j] l[j + 1] = true from h, Bool.true_and]
    · show false = (lt l[j] l[j + 1] && ascB (l[j + 1] :: l.drop (j + 2)) && textsB l 16)
      rw [show lt l[j] l[j + 1] = false from Bool.eq_false_iff.2 h, Bool.false_and, Bool.false_and]
theorem spec_SetOk_ev (l : List ByteArray) (hl : l.length ≤ maxLen) : Ev (fun k => spec_SetOk.f k l) (setB l) := by
  unfold spec_SetOk.f setB
  by_cases h : l.length = 0
  · obtain rfl : l = [] := List.length_eq_zero_iff.1 h
    refine Ev.step (fun k => by rw [spec_SetOk.l0]) (neg (by simp) ?_)
    exact Ev.bind (l2Texts_ev [] (by simp)) (ret' (by simp [ascB]))
  · exact spec_SetOk_l0 l hl (l.length - 1) 0 (by omega)
theorem impl_SetOk_l0 (l : List ByteArray) (hl : l.length ≤ maxLen) (d : Nat) : ∀ (j : Nat), j + 1 + d = l.length → Ev (fun k => impl_SetOk.l0 k l ((j : Int) + 1)) (ascB (l.drop j) && textsB l 16) := by
  have hl' := hl
  unfold maxLen at hl'
  induction d with
  | zero =>
    intro j hj
    refine Ev.step (fun k => by rw [impl_SetOk.l0]) (neg (by omega) ?_)
    rw [List.drop_eq_getElem_cons (by omega : j < l.length), List.drop_of_length_le (by omega)]
    exact Ev.bind (listOk_ev l hl) (ret' (by simp [ascB]))
  | succ d ih =>
    intro j hj
    have h1 : j < l.length := by omega
    have h2 : j + 1 < l.length := by omega
    have e : (j : Int) + 1 = ((j + 1 : Nat) : Int) := by omega
    refine Ev.step (fun k => by rw [impl_SetOk.l0]) (pos (by omega) ?_)
    rw [wrap_id (x := (j : Int) + 1 - 1) (by omega) (by omega), show (j : Int) + 1 - 1 = (j : Int) by omega]
    refine pos (by omega) (pos (by omega) (pos (by omega) ?_))
    rw [rdOf_lt _ _ _ h1, e, rdOf_lt _ _ _ h2, wrap_id (by omega) (by omega)]
    have hd : l.drop j = l[j] :: l[j + 1] :: l.drop (j + 2) := by rw [List.drop_eq_getElem_cons h1, List.drop_eq_getElem_cons h2]
    have hd1 : l.drop (j + 1) = l[j + 1] :: l.drop (j + 2) := List.drop_eq_getElem_cons h2
    rw [hd]
    refine both (fun h => ?_) (fun h => ret' ?_)
    · have := ih (j + 1) (by omega)
      rw [hd1] at this
      refine of_eq this ?_
      show _ = (lt l[j] l[j + 1] && ascB (l[j + 1] :: l.drop (j + 2)) && textsB l 16)
      rw [show lt l[j] l[j + 1] = true from h, Bool.true_and]
    · show false = (lt l[j] l[j + 1] && ascB (l[j + 1] :: l.drop (j + 2)) && textsB l 16)
      rw [show lt l[j] l[j + 1] = false from Bool.eq_false_iff.2 h, Bool.false_and, Bool.false_and]
theorem impl_SetOk_ev (l : List ByteArray) (hl : l.length ≤ maxLen) : Ev (fun k => impl_SetOk.f k l) (setB l) := by
  unfold impl_SetOk.f setB
  by_cases h : l.length = 0
  · obtain rfl : l = [] := List.length_eq_zero_iff.1 h
    refine Ev.step (fun k => by rw [impl_SetOk.l0]) (neg (by simp) ?_)
    exact Ev.bind (listOk_ev [] (by simp)) (ret' (by simp [ascB]))
  · exact impl_SetOk_l0 l hl (l.length - 1) 0 (by omega)
end Go.Proofs.Ytnkgmcgbbldkgaa.Q
namespace Go.Proofs.Ytnkgmcgbbldkgaa.Q
open Go.RowKit Go.Proofs.YtnkgmcgbbldkgaaW.PrintWords Go.Proofs.YtnkgmcgbbldkgaaW.PrintLast Go.Proofs.Ytnkgmcgbbldkgaa.P
set_option linter.unusedSimpArgs false
def kindB (kd : Int) (sz bt bl bs bf T S C F : Bool) : Bool :=
  if kd = 1 then sz && (bl && (bs && bf)) else if kd = 2 then bt && (!bl && (T && (bs && bf))) else if kd = 3 then bt && (!bl && (S && (bs && bf))) else if kd = 4 then bt && (bl && (!bs && (C && bf))) else if kd = 5 then bt && (bl && (bs && (!bf && F))) else false
def entryB (key : ByteArray) (exp kd : Int) (t : ByteArray) (l : List ByteArray) (s : List Score) (f : List Pair) : Bool :=
  inB (key.size : Int) 1 12 && (inB exp 0 2000000 && kindB kd (decide ((t.size : Int) ≤ 40)) (decide (t.toList = [])) (decide (l.length = 0)) (decide (s.length = 0)) (decide (f.length = 0)) (textsB l 16) (setB l) (scoresB s) (fieldsB f))
theorem len_pos (n : Nat) : ((n : Int) > 0) = (decide (n = 0) = false) := by
  rw [decide_eq_false_iff_not]
  exact propext (by omega)
theorem len_zero (n : Nat) : ((n : Int) = 0) = (decide (n = 0) = true) := by
  rw [decide_eq_true_iff]
  exact propext (by omega)
theorem len_beq (n : Nat) : ((n : Int) == 0) = decide (n = 0) := by
  rw [Bool.eq_iff_iff, beq_iff_eq, decide_eq_true_iff]
  omega
theorem len_dec (n : Nat) : decide ((n : Int) > 0) = !decide (n = 0) := by
  rw [Bool.eq_iff_iff, decide_eq_true_iff, Bool.not_eq_true', decide_eq_false_iff_not]
  omega
theorem text_nil (t : ByteArray) : (t.toList = ([] : List UInt8)) = (decide (t.toList = ([] : List UInt8)) = true) := by rw [decide_eq_true_iff]
theorem spec_EntryOk_j0 (key : ByteArray) (exp kd : Int) (t : ByteArray) (l : List ByteArray) (s : List Score) (f : List Pair) (hl : l.length ≤ maxLen) (hs : s.length ≤ maxLen) (hf : f.length ≤ maxLen) :
    Ev (fun k => spec_EntryOk.j0 k false key exp kd t l s f) (kindB kd (decide ((t.size : Int) ≤ 40)) (decide (t.toList = [])) (decide (l.length = 0)) (decide (s.length = 0)) (decide (f.length = 0)) (textsB l 16) (setB l) (scoresB s) (fieldsB f)) := by
  have hT := l2Texts_ev l hl
  have hT' := listOk_ev l hl
  have hS := spec_SetOk_ev l hl
  have hC := spec_ScoresOk_ev s hs
  have hF := spec_FieldsOk_ev f hf
  refine Ev.step (g := fun k => spec_EntryOk.j0 k _ _ _ _ _ _ _ _) (fun k => by rw [spec_EntryOk.j0]) (neg (by decide) ?_)
  generalize hbl : decide (l.length = 0) = bl
  generalize hbs : decide (s.length = 0) = bs
  generalize hbf : decide (f.length = 0) = bf
  generalize hbt : decide (t.toList = ([] : List UInt8)) = bt
  generalize hz : decide ((t.size : Int) ≤ 40) = sz
  have z1 : ((t.size : Int) ≤ 40) = (sz = true) := by rw [← hz, decide_eq_true_iff]
  have a1 := len_pos l.length
  have a2 := len_pos s.length
  have a3 := len_pos f.length
  have b1 := len_zero l.length
  have b2 := len_zero s.length
  have b3 := len_zero f.length
  have c1 := len_beq f.length
  have d1 := len_dec f.length
  have d2 := len_dec s.length
  have e1 := text_nil t
  rw [hbl] at a1 b1
  rw [hbs] at a2 b2 d2
  rw [hbf] at a3 b3 c1 d1
  rw [hbt] at e1
  generalize textsB l 16 = T at hT hT'
  generalize setB l = S at hS
  generalize scoresB s = C at hC
  generalize fieldsB f = F at hF
  clear hbl hbs hbf hbt hz
  simp only [a1, a2, a3, b1, b2, b3, c1, d1, d2, e1, z1]
  clear a1 a2 a3 b1 b2 b3 c1 d1 d2 e1 z1
  repeat' first
    | refine Ev.bind hT ?_
    | refine Ev.bind hT' ?_
    | refine Ev.bind hS ?_
    | refine Ev.bind hC ?_
    | refine Ev.bind hF ?_
    | (refine ret' ?_; simp_all [kindB]; done)
    | refine both (fun _ => ?_) (fun _ => ?_)
theorem spec_EntryOk_ev (key : ByteArray) (exp kd : Int) (t : ByteArray) (l : List ByteArray) (s : List Score) (f : List Pair) (hl : l.length ≤ maxLen) (hs : s.length ≤ maxLen) (hf : f.length ≤ maxLen) :
    Ev (fun k => spec_EntryOk.f k key exp kd t l s f) (entryB key exp kd t l s f) := by
  have hj := spec_EntryOk_j0 key exp kd t l s f hl hs hf
  unfold spec_EntryOk.f entryB
  have no : Ev (fun k => spec_EntryOk.j0 k true key exp kd t l s f) false := by
    refine Ev.step (g := fun k => spec_EntryOk.j0 k _ _ _ _ _ _ _ _) (fun k => by rw [spec_EntryOk.j0]) ?_
    exact pos rfl (ret _)
  have hK : Ev (fun _ => spec_l4Key.f key) (inB (key.size : Int) 1 12) := by
    unfold spec_l4Key.f
    exact Ev.bind (l1In_ev _ _ _) (ret _)
  have hK' : Ev (fun _ => impl_keyOk.f key) (inB (key.size : Int) 1 12) := by
    unfold impl_keyOk.f
    exact Ev.bind (within_ev _ _ _) (ret _)
  have hE := l1In_ev exp 0 2000000
  have hE' := within_ev exp 0 2000000
  first
    | refine Ev.bind hK ?_
    | refine Ev.bind hK' ?_
  cases inB (key.size : Int) 1 12 with
  | false => exact neg (by decide) no
  | true =>
    refine pos rfl ?_
    first
      | refine Ev.bind hE ?_
      | refine Ev.bind hE' ?_
    cases inB exp 0 2000000 with
    | false => exact no
    | true => exact hj
theorem impl_EntryOk_j0 (key : ByteArray) (exp kd : Int) (t : ByteArray) (l : List ByteArray) (s : List Score) (f : List Pair) (hl : l.length ≤ maxLen) (hs : s.length ≤ maxLen) (hf : f.length ≤ maxLen) :
    Ev (fun k => impl_EntryOk.j0 k false key exp kd t l s f) (kindB kd (decide ((t.size : Int) ≤ 40)) (decide (t.toList = [])) (decide (l.length = 0)) (decide (s.length = 0)) (decide (f.length = 0)) (textsB l 16) (setB l) (scoresB s) (fieldsB f)) := by
  have hT := l2Texts_ev l hl
  have hT' := listOk_ev l hl
  have hS := impl_SetOk_ev l hl
  have hC := impl_ScoresOk_ev s hs
  have hF := impl_FieldsOk_ev f hf
  refine Ev.step (g := fun k => impl_EntryOk.j0 k _ _ _ _ _ _ _ _) (fun k => by rw [impl_EntryOk.j0]) (neg (by decide) ?_)
  generalize hbl : decide (l.length = 0) = bl
  generalize hbs : decide (s.length = 0) = bs
  generalize hbf : decide (f.length = 0) = bf
  generalize hbt : decide (t.toList = ([] : List UInt8)) = bt
  generalize hz : decide ((t.size : Int) ≤ 40) = sz
  have z1 : ((t.size : Int) ≤ 40) = (sz = true) := by rw [← hz, decide_eq_true_iff]
  have a1 := len_pos l.length
  have a2 := len_pos s.length
  have a3 := len_pos f.length
  have b1 := len_zero l.length
  have b2 := len_zero s.length
  have b3 := len_zero f.length
  have c1 := len_beq f.length
  have d1 := len_dec f.length
  have d2 := len_dec s.length
  have e1 := text_nil t
  rw [hbl] at a1 b1
  rw [hbs] at a2 b2 d2
  rw [hbf] at a3 b3 c1 d1
  rw [hbt] at e1
  generalize textsB l 16 = T at hT hT'
  generalize setB l = S at hS
  generalize scoresB s = C at hC
  generalize fieldsB f = F at hF
  clear hbl hbs hbf hbt hz
  simp only [a1, a2, a3, b1, b2, b3, c1, d1, d2, e1, z1]
  clear a1 a2 a3 b1 b2 b3 c1 d1 d2 e1 z1
  repeat' first
    | refine Ev.bind hT ?_
    | refine Ev.bind hT' ?_
    | refine Ev.bind hS ?_
    | refine Ev.bind hC ?_
    | refine Ev.bind hF ?_
    | (refine ret' ?_; simp_all [kindB]; done)
    | refine both (fun _ => ?_) (fun _ => ?_)
theorem impl_EntryOk_ev (key : ByteArray) (exp kd : Int) (t : ByteArray) (l : List ByteArray) (s : List Score) (f : List Pair) (hl : l.length ≤ maxLen) (hs : s.length ≤ maxLen) (hf : f.length ≤ maxLen) :
    Ev (fun k => impl_EntryOk.f k key exp kd t l s f) (entryB key exp kd t l s f) := by
  have hj := impl_EntryOk_j0 key exp kd t l s f hl hs hf
  unfold impl_EntryOk.f entryB
  have no : Ev (fun k => impl_EntryOk.j0 k true key exp kd t l s f) false := by
    refine Ev.step (g := fun k => impl_EntryOk.j0 k _ _ _ _ _ _ _ _) (fun k => by rw [impl_EntryOk.j0]) ?_
    exact pos rfl (ret _)
  have hK : Ev (fun _ => spec_l4Key.f key) (inB (key.size : Int) 1 12) := by
    unfold spec_l4Key.f
    exact Ev.bind (l1In_ev _ _ _) (ret _)
  have hK' : Ev (fun _ => impl_keyOk.f key) (inB (key.size : Int) 1 12) := by
    unfold impl_keyOk.f
    exact Ev.bind (within_ev _ _ _) (ret _)
  have hE := l1In_ev exp 0 2000000
  have hE' := within_ev exp 0 2000000
  first
    | refine Ev.bind hK ?_
    | refine Ev.bind hK' ?_
  cases inB (key.size : Int) 1 12 with
  | false => exact neg (by decide) no
  | true =>
    refine pos rfl ?_
    first
      | refine Ev.bind hE ?_
      | refine Ev.bind hE' ?_
    cases inB exp 0 2000000 with
    | false => exact no
    | true => exact hj
end Go.Proofs.Ytnkgmcgbbldkgaa.Q
namespace Go.Proofs.Ytnkgmcgbbldkgaa.Q
open Go.RowKit Go.Proofs.YtnkgmcgbbldkgaaW.PrintWords Go.Proofs.YtnkgmcgbbldkgaaW.PrintLast Go.Proofs.Ytnkgmcgbbldkgaa.P
end Go.Proofs.Ytnkgmcgbbldkgaa.Q
namespace Go.Proofs.Ytnkgmcgbbldkgaa.Q
open Go.RowKit Go.Proofs.YtnkgmcgbbldkgaaW.PrintWords Go.Proofs.YtnkgmcgbbldkgaaW.PrintLast Go.Proofs.YtnkgmcgbbldkgaaW.PrintMore Go.Proofs.Ytnkgmcgbbldkgaa.P
theorem scoresB_len {l : List Score} (h : scoresB l = true) : l.length ≤ 16 := by
  simp only [scoresB, Bool.and_eq_true, decide_eq_true_eq] at h
  omega
theorem scoresB_fresh {l : List Score} (h : scoresB l = true) (i : Nat) (hi : i < l.length) : fresh l i = true := by
  simp only [scoresB, Bool.and_eq_true, List.all_eq_true] at h
  have := h.1 i (by simp [List.mem_range'_1]; exact hi)
  unfold sOk at this
  simp only [Bool.and_eq_true] at this
  exact this.2.2.2
theorem scoresB_apart {l : List Score} (h : scoresB l = true) : l.Pairwise (fun a b => a.f0 ≠ b.f0) := by
  rw [List.pairwise_iff_getElem]
  intro i j hi hj hij
  have := scoresB_fresh h j hj
  unfold fresh at this
  simp only [List.all_eq_true, List.mem_range, Bool.not_eq_true', decide_eq_false_iff_not] at this
  have := this i hij
  rw [rdScore_lt _ _ hi, rdScore_lt _ _ hj] at this
  exact this
theorem filter_cons' (p : Score → Bool) (x : Score) (r : List Score) : (x :: r).filter p = if p x = true then x :: r.filter p else r.filter p := by
  by_cases h : p x = true <;> simp [h]
def withoutM (l : List Score) (t : ByteArray) : List Score := l.filter (fun s => !decide (s.f0 = t))
theorem withoutM_cons (x : Score) (r : List Score) (t : ByteArray) : withoutM (x :: r) t = if x.f0 = t then withoutM r t else x :: withoutM r t := by
  unfold withoutM
  by_cases h : x.f0 = t <;> simp [h]
theorem l3Without_l0 (l : List Score) (hl : l.length ≤ 1048576) (t : ByteArray) (d : Nat) : ∀ (i : Nat) (x : List Score), i + d = l.length → x.length ≤ i → Ev (fun k => spec_l3Without.l0 k l t x (i : Int)) (x ++ withoutM (l.drop i) t) := by
  induction d with
  | zero =>
    intro i x hi hx
    refine Ev.step (g := fun k => spec_l3Without.l0 k _ _ _ _) (fun k => by rw [spec_l3Without.l0]) (neg (by omega) (ret' ?_))
    rw [List.drop_of_length_le (by omega)]
    simp [withoutM]
  | succ d ih =>
    intro i x hi hx
    have hlt : i < l.length := by omega
    refine Ev.step (g := fun k => spec_l3Without.l0 k _ _ _ _) (fun k => by rw [spec_l3Without.l0]) (pos (by omega) (pos (by omega) ?_))
    rw [rdScore_lt _ _ hlt, List.drop_eq_getElem_cons hlt, wrap_id (by omega) (by omega), withoutM_cons]
    refine both (fun q => ?_) (fun q => ?_)
    · rw [if_pos (toList_inj q)]
      exact ih (i + 1) x (by omega) (by omega)
    · rw [if_neg (fun e => q (by rw [e]))]
      exact pos (by omega) (of_eq (ih (i + 1) (x ++ [l[i]]) (by omega) (by simp; omega)) (by simp))
theorem l3Without_ev (l : List Score) (hl : l.length ≤ 1048576) (t : ByteArray) : Ev (fun k => spec_l3Without.f k l t) (withoutM l t) := by
  have := l3Without_l0 l hl t l.length 0 [] (by omega) (by simp)
  simpa [spec_l3Without.f] using this
theorem withoutM_len (l : List Score) (t : ByteArray) : (withoutM l t).length ≤ l.length := List.length_filter_le _ _
theorem withoutM_all {l : List Score} {t : ByteArray} (h : ∀ s ∈ l, s.f0 ≠ t) : withoutM l t = l := by
  unfold withoutM
  rw [List.filter_eq_self]
  intro s hs
  simp [h s hs]
end Go.Proofs.Ytnkgmcgbbldkgaa.Q
namespace Go.Proofs.Ytnkgmcgbbldkgaa.Q
open Go.RowKit Go.Proofs.YtnkgmcgbbldkgaaW.PrintWords Go.Proofs.YtnkgmcgbbldkgaaW.PrintLast Go.Proofs.Ytnkgmcgbbldkgaa.P
theorem ahd_iff {a b : Score} : ahd a b = true ↔ a.f1 < b.f1 ∨ (a.f1 = b.f1 ∧ lt a.f0 b.f0 = true) := by simp [ahd]
theorem ahd_trans {a b c : Score} (h : ahd a b = true) (h' : ahd b c = true) : ahd a c = true := by
  rw [ahd_iff] at h h' ⊢
  rcases h with h | ⟨h, g⟩ <;> rcases h' with h' | ⟨h', g'⟩
  · left; omega
  · left; omega
  · left; omega
  · right; exact ⟨by omega, lt_trans g g'⟩
theorem ahd_total {a b : Score} (h : a.f0 ≠ b.f0) (h' : ¬ ahd a b = true) : ahd b a = true := by
  rw [ahd_iff] at h' ⊢
  rcases Int.lt_trichotomy a.f1 b.f1 with q | q | q
  · exact absurd (.inl q) h'
  · rcases lt_tri a.f0 b.f0 with w | w | w
    · exact absurd (.inr ⟨q, w⟩) h'
    · exact absurd w h
    · exact .inr ⟨q.symm, w⟩
  · exact .inl q
theorem scoresB_iff (l : List Score) : scoresB l = true ↔ (∀ x ∈ l, x.f0.size ≤ 40 ∧ placeB x.f1 = true) ∧ l.Pairwise (fun a b => ahd a b = true) ∧ l.Pairwise (fun a b => a.f0 ≠ b.f0) ∧ l.length ≤ 16 := by
  constructor
  · intro h
    have hf := scoresB_apart h
    have h16 := scoresB_len h
    have hs : ∀ i (hi : i < l.length), sOk l i = true := by
      intro i hi
      simp only [scoresB, Bool.and_eq_true, List.all_eq_true] at h
      exact h.1 i (by simp [List.mem_range'_1]; exact hi)
    have hadj : ∀ i (hi : i + 1 < l.length), ahd l[i] l[i + 1] = true := by
      intro i hi
      have := hs (i + 1) hi
      unfold sOk at this
      simp only [Bool.and_eq_true, Bool.or_eq_true, decide_eq_true_eq] at this
      obtain ⟨_, _, h3, _⟩ := this
      rcases h3 with h3 | h3
      · omega
      · rw [show i + 1 - 1 = i by omega, rdScore_lt _ _ (by omega), rdScore_lt _ _ hi] at h3
        exact h3
    refine ⟨fun x hx => ?_, ?_, hf, h16⟩
    · obtain ⟨i, hi, rfl⟩ := List.getElem_of_mem hx
      have := hs i hi
      unfold sOk at this
      simp only [Bool.and_eq_true, decide_eq_true_eq] at this
      rw [rdScore_lt _ _ hi] at this
      exact ⟨this.1, this.2.1⟩
    · rw [List.pairwise_iff_getElem]
      intro i j hi hj hij
      obtain ⟨d, rfl⟩ : ∃ d, j = i + 1 + d := ⟨j - (i + 1), by omega⟩
      clear hij
      induction d with
      | zero => exact hadj i hj
      | succ d ih => exact ahd_trans (ih (by omega)) (hadj (i + 1 + d) hj)
  · rintro ⟨h1, h2, h3, h4⟩
    simp only [scoresB, Bool.and_eq_true, List.all_eq_true, decide_eq_true_eq]
    refine ⟨fun i hi => ?_, by omega⟩
    have hi : i < l.length := by simpa [List.mem_range'_1] using hi
    obtain ⟨a, b⟩ := h1 _ (List.getElem_mem hi)
    rw [sOk_eq (by rw [rdScore_lt _ _ hi]; exact a) (by rw [rdScore_lt _ _ hi]; exact b)]
    · unfold fresh
      simp only [List.all_eq_true, List.mem_range, Bool.not_eq_true', decide_eq_false_iff_not]
      intro k hk
      rw [rdScore_lt _ _ (show k < l.length by omega), rdScore_lt _ _ hi]
      exact List.pairwise_iff_getElem.1 h3 k i (by omega) hi hk
    · by_cases h0 : i = 0
      · exact .inl h0
      · right
        rw [rdScore_lt _ _ (show i - 1 < l.length by omega), rdScore_lt _ _ hi]
        exact List.pairwise_iff_getElem.1 h2 (i - 1) i (by omega) hi (by omega)
def insM (s : Score) : List Score → List Score
  | [] => [s]
  | x :: r => if ahd x s = true then x :: insM s r else s :: x :: r
theorem insM_len (s : Score) (l : List Score) : (insM s l).length = l.length + 1 := by
  induction l with
  | nil => rfl
  | cons x r ih =>
    rw [insM]
    split
    · simp [ih]
    · rfl
theorem insM_mem (s : Score) (l : List Score) (x : Score) : x ∈ insM s l ↔ x = s ∨ x ∈ l := by
  induction l with
  | nil => simp [insM]
  | cons y r ih =>
    rw [insM]
    split
    · rw [List.mem_cons, ih, List.mem_cons]
      constructor
      · rintro (h | h | h)
        · exact .inr (.inl h)
        · exact .inl h
        · exact .inr (.inr h)
      · rintro (h | h | h)
        · exact .inr (.inl h)
        · exact .inl h
        · exact .inr (.inr h)
    · simp
theorem insM_asc (s : Score) (l : List Score) (h : l.Pairwise (fun a b => ahd a b = true)) (hs : ∀ x ∈ l, x.f0 ≠ s.f0) : (insM s l).Pairwise (fun a b => ahd a b = true) := by
  induction l with
  | nil => simp [insM]
  | cons x r ih =>
    obtain ⟨h1, h2⟩ := List.pairwise_cons.1 h
    rw [insM]
    by_cases hx : ahd x s = true
    · rw [if_pos hx, List.pairwise_cons]
      refine ⟨fun y hy => ?_, ih h2 (fun y hy => hs y (List.mem_cons_of_mem _ hy))⟩
      rcases (insM_mem s r y).1 hy with rfl | hy
      · exact hx
      · exact h1 y hy
    · rw [if_neg hx, List.pairwise_cons]
      have ht : ahd s x = true := ahd_total (hs x (by simp)) hx
      refine ⟨fun y hy => ?_, h⟩
      rcases List.mem_cons.1 hy with rfl | hy
      · exact ht
      · exact ahd_trans ht (h1 y hy)
theorem insM_apart (s : Score) (l : List Score) (h : l.Pairwise (fun a b => a.f0 ≠ b.f0)) (hs : ∀ x ∈ l, x.f0 ≠ s.f0) : (insM s l).Pairwise (fun a b => a.f0 ≠ b.f0) := by
  induction l with
  | nil => simp [insM]
  | cons x r ih =>
    obtain ⟨h1, h2⟩ := List.pairwise_cons.1 h
    rw [insM]
    by_cases hx : ahd x s = true
    · rw [if_pos hx, List.pairwise_cons]
      refine ⟨fun y hy => ?_, ih h2 (fun y hy => hs y (List.mem_cons_of_mem _ hy))⟩
      rcases (insM_mem s r y).1 hy with rfl | hy
      · exact hs x (by simp)
      · exact h1 y hy
    · rw [if_neg hx, List.pairwise_cons]
      refine ⟨fun y hy => ?_, h⟩
      rcases List.mem_cons.1 hy with rfl | hy
      · exact fun e => hs y (by simp) e.symm
      · exact fun e => hs y (List.mem_cons_of_mem _ hy) e.symm
theorem without_mem {l : List Score} {t : ByteArray} {x : Score} (h : x ∈ withoutM l t) : x ∈ l ∧ x.f0 ≠ t := by
  have := List.mem_filter.1 h
  exact ⟨this.1, by simpa using this.2⟩
def scoresPutM (l : List Score) (s : Score) : List Score × Bool × Bool :=
  if scoresB l = true then (if scoresB (insM s (withoutM l s.f0)) = true then (insM s (withoutM l s.f0), (((withoutM l s.f0).length : Int) == (l.length : Int)), true) else (l, false, false)) else ([], false, false)
theorem scoresPutM_len (l : List Score) (s : Score) : (scoresPutM l s).1.length ≤ l.length + 1 := by
  have := withoutM_len l s.f0
  unfold scoresPutM
  split
  · split
    · rw [insM_len]; omega
    · simp
  · simp
theorem scoresPutM_ok {l : List Score} (s : Score) (h : scoresB l = true) : scoresB (scoresPutM l s).1 = true := by
  unfold scoresPutM
  rw [if_pos h]
  split
  · assumption
  · exact h
theorem scoresPutM_mem {l : List Score} {s x : Score} (hx : x ∈ (scoresPutM l s).1) : x = s ∨ x ∈ l := by
  unfold scoresPutM at hx
  split at hx
  · split at hx
    · rcases (insM_mem _ _ _).1 hx with h | h
      · exact .inl h
      · exact .inr (without_mem h).1
    · exact .inr hx
  · simp at hx
theorem scoresPutM_new {l : List Score} {s : Score} (h : scoresB l = true) (hn : ∀ x ∈ l, x.f0 ≠ s.f0) (hl : l.length < 16) (hs : s.f0.size ≤ 40) (hp : placeB s.f1 = true) : (scoresPutM l s).1 = insM s l ∧ scoresB (insM s l) = true := by
  obtain ⟨h1, h2, h3, h4⟩ := (scoresB_iff l).1 h
  have hw : withoutM l s.f0 = l := withoutM_all hn
  have hok : scoresB (insM s l) = true := (scoresB_iff _).2 ⟨fun x hx => by
    rcases (insM_mem _ _ _).1 hx with rfl | hx
    · exact ⟨hs, hp⟩
    · exact h1 x hx, insM_asc s l h2 hn, insM_apart s l h3 hn, by rw [insM_len]; omega⟩
  refine ⟨?_, hok⟩
  unfold scoresPutM
  rw [if_pos h, hw, if_pos hok]
theorem spec_ScoresPut_l0 (l0 : List Score) (hl0 : l0.length ≤ 1048576) (l : List Score) (hl : l.length ≤ 1048576) (s : Score) (d : Nat) : ∀ (i : Nat), i + d = l.length →
    Ev (fun k => spec_ScoresPut.l0 k l0 l (i : Int) s.f0 s.f1) (if scoresB (l.take i ++ insM s (l.drop i)) = true then (l.take i ++ insM s (l.drop i), ((l.length : Int) == (l0.length : Int)), true) else (l0, false, false)) := by
  have last : ∀ (i : Nat) (o : List Score), i ≤ l.length → l.take i ++ [s] ++ l.drop i = o → Ev (fun k => (spec_ScoresOk.f k o).bind fun t434 => (if t434 = true then (some (o, ((l.length : Int) == (l0.length : Int)), true)) else ((some (([] : List Score) : List Score)).bind fun y435 => (if y435.length + l0.length < 5864062014805 then (some ((y435 ++ l0), false, false)) else (none))))) (if scoresB o = true then (o, ((l.length : Int) == (l0.length : Int)), true) else (l0, false, false)) := by
    intro i o hi e
    have hlen : o.length ≤ maxLen := by
      rw [← e]
      unfold maxLen
      simp
      omega
    refine Ev.bind (spec_ScoresOk_ev o hlen) (both (fun h => ?_) (fun h => ?_))
    · rw [if_pos h]; exact ret _
    · rw [if_neg h]
      exact Ev.bind (ret _) (pos (by simp; omega) (ret' (by simp)))
  induction d with
  | zero =>
    intro i hi
    refine Ev.step (g := fun k => spec_ScoresPut.l0 k _ _ _ _ _) (fun k => by rw [spec_ScoresPut.l0]) (neg (by omega) ?_)
    refine Ev.step (g := fun k => spec_ScoresPut.j1 k _ _ _ _ _) (fun k => by rw [spec_ScoresPut.j1]) ?_
    refine Ev.bind (ret _) (pos (by omega) (pos (by omega) (Ev.bind (ret _) ?_)))
    refine pos (by simp; omega) (Ev.bind (ret _) (Ev.bind (ret _) ?_))
    refine pos (by simp; omega) (Ev.bind (ret _) (Ev.bind (ret _) ?_))
    refine pos (by simp; omega) (Ev.bind (ret _) ?_)
    have e : l.take i ++ insM s (l.drop i) = [] ++ l.take (i : Int).toNat ++ [(⟨s.f0, s.f1⟩ : Score)] ++ l.drop (i : Int).toNat := by
      rw [Int.toNat_natCast, List.drop_of_length_le (by omega)]
      simp [insM]
    rw [e]
    refine last i _ (by omega) ?_
    rw [Int.toNat_natCast]
    rfl
  | succ d ih =>
    intro i hi
    have hlt : i < l.length := by omega
    have hd := List.drop_eq_getElem_cons hlt
    refine Ev.step (g := fun k => spec_ScoresPut.l0 k _ _ _ _ _) (fun k => by rw [spec_ScoresPut.l0]) (pos (by omega) (pos (by omega) ?_))
    refine Ev.bind (val (l3Ahead_eq _ s)) ?_
    rw [rdScore_lt _ _ hlt, wrap_id (x := (i : Int) + 1) (by omega) (by omega)]
    refine both (fun h => ?_) (fun h => ?_)
    · have e : l.take i ++ insM s (l.drop i) = l.take (i + 1) ++ insM s (l.drop (i + 1)) := by
        rw [hd, insM, if_pos h, List.take_succ_eq_append_getElem hlt, List.append_assoc, List.singleton_append]
      rw [e]
      exact ih (i + 1) (by omega)
    · refine Ev.step (g := fun k => spec_ScoresPut.j1 k _ _ _ _ _) (fun k => by rw [spec_ScoresPut.j1]) ?_
      refine Ev.bind (ret _) (pos (by omega) (pos (by omega) (Ev.bind (ret _) ?_)))
      refine pos (by simp; omega) (Ev.bind (ret _) (Ev.bind (ret _) ?_))
      refine pos (by simp; omega) (Ev.bind (ret _) (Ev.bind (ret _) ?_))
      refine pos (by simp; omega) (Ev.bind (ret _) ?_)
      have e : l.take i ++ insM s (l.drop i) = [] ++ l.take (i : Int).toNat ++ [(⟨s.f0, s.f1⟩ : Score)] ++ l.drop (i : Int).toNat := by
        rw [Int.toNat_natCast, hd, insM, if_neg h]
        simp
      rw [e]
      refine last i _ (by omega) ?_
      rw [Int.toNat_natCast]
      rfl
theorem spec_ScoresPut_ev (l : List Score) (hl : l.length ≤ 1048576) (s : Score) : Ev (fun k => spec_ScoresPut.f k l s.f0 s.f1) (scoresPutM l s) := by
  unfold spec_ScoresPut.f scoresPutM
  refine Ev.bind (spec_ScoresOk_ev l (by unfold maxLen; omega)) (both (fun h => ?_) (fun h => ?_))
  · rw [if_pos h]
    have hw := withoutM_len l s.f0
    refine Ev.bind (l3Without_ev l hl s.f0) ?_
    have := spec_ScoresPut_l0 l hl (withoutM l s.f0) (by omega) s (withoutM l s.f0).length 0 (by omega)
    exact this
  · rw [if_neg h]; exact ret _
def Code (l : List Int) : Prop := l.length ≤ 2000 ∧ ∀ x ∈ l, 0 ≤ x ∧ x ≤ 255
theorem xor_nonneg (x y : Int) (hx : 0 ≤ x) (hx' : x < 9223372036854775808) (hy : 0 ≤ y) (hy' : y < 9223372036854775808) : 0 ≤ Go.bits .xor .i64 x y := by
  have h1 : (BitVec.ofInt 64 x) = BitVec.ofNat 64 x.toNat := by
    apply BitVec.eq_of_toNat_eq
    rw [BitVec.toNat_ofInt, BitVec.toNat_ofNat]
    omega
  have h2 : (BitVec.ofInt 64 y) = BitVec.ofNat 64 y.toNat := by
    apply BitVec.eq_of_toNat_eq
    rw [BitVec.toNat_ofInt, BitVec.toNat_ofNat]
    omega
  have h3 : (BitVec.ofNat 64 x.toNat ^^^ BitVec.ofNat 64 y.toNat).toNat < 2 ^ 63 := by
    rw [BitVec.toNat_xor, BitVec.toNat_ofNat, BitVec.toNat_ofNat, Nat.mod_eq_of_lt (by omega), Nat.mod_eq_of_lt (by omega)]
    exact Nat.xor_lt_two_pow (by omega) (by omega)
  show 0 ≤ IntKind.i64.wrap ((BitVec.ofInt 64 x ^^^ BitVec.ofInt 64 y).toNat : Int)
  rw [h1, h2]
  generalize (BitVec.ofNat 64 x.toNat ^^^ BitVec.ofNat 64 y.toNat).toNat = m at h3
  have h4 : IntKind.i64.wrap (m : Int) = wrap64 (m : Int) := i64_w _
  rw [h4, wrap_id (by omega) (by omega)]
  omega
theorem l1Open_ev (l : List Int) (hl : l.length ≤ maxLen) (hb : ∀ x ∈ l, (Lit.int .u8 x).wf = true) : ∃ c, Ev (fun _ => spec_l1Open.f l) (c, 0) ∧ Code c := by
  unfold maxLen at hl
  have hb' : ∀ x ∈ l, 0 ≤ x ∧ x ≤ 255 := by
    intro x hx
    have := hb x hx
    simp only [Lit.wf, Bool.and_eq_true, decide_eq_true_eq] at this
    exact this
  unfold spec_l1Open.f
  by_cases h : (l.length : Int) > 2000
  · refine ⟨l.take 2000, pos h (pos (by omega) (ret _)), by simp; omega, fun x hx => hb' x (List.mem_of_mem_take hx)⟩
  · exact ⟨l, neg h (ret _), by omega, hb'⟩
theorem rd_code {l : List Int} (hl : Code l) (i : Int) (h0 : 0 ≤ i) (h1 : i < l.length) : 0 ≤ rd l i ∧ rd l i ≤ 255 := by
  obtain ⟨n, rfl⟩ := Int.eq_ofNat_of_zero_le h0
  have hn : n < l.length := by omega
  have : rd l (n : Int) = l[n] := by simp [rd, List.getD_eq_getElem?_getD, hn]
  rw [this]
  exact hl.2 _ (List.getElem_mem hn)
theorem tmod_bd (a n : Int) (ha : 0 ≤ a) (hn : 0 < n) : 0 ≤ Int.tmod a n ∧ Int.tmod a n < n := ⟨Int.tmod_nonneg _ ha, Int.tmod_lt_of_pos _ hn⟩
theorem tdiv_bd (a n : Int) (ha : 0 ≤ a) (hn : 0 < n) : 0 ≤ Int.tdiv a n ∧ Int.tdiv a n ≤ a := by
  rw [Int.tdiv_eq_ediv_of_nonneg ha]
  exact ⟨Int.ediv_nonneg ha (by omega), Int.ediv_le_self _ ha⟩
theorem pick_ev (l : List Int) (hl : Code l) (p n : Int) (h0 : 0 ≤ p) (h1 : p ≤ 1000000000) (hn : 1 ≤ n) (hn' : n ≤ 4294967296) : ∃ v, Ev (fun k => spec_l1Rd_pick.f k l p n) (v, p + 1) ∧ 0 ≤ v ∧ v < n := by
  have hlen := hl.1
  have e1 : wrap64 (p + 1) = p + 1 := wrap_id (by omega) (by omega)
  have e2 : wrap64 (p + 1 - 1) = p := by rw [wrap_id (by omega) (by omega)]; omega
  unfold spec_l1Rd_pick.f
  rw [e1]
  by_cases hz : l.length = 0
  · have e : ((l.length : Int) == 0) = true := by simp [hz]
    refine ⟨0, neg (by omega) ?_, by omega, by omega⟩
    rw [e]
    refine Ev.step (g := fun k => spec_l1Rd_pick.j0 k _ _ _ _) (fun k => by rw [spec_l1Rd_pick.j0]) ?_
    exact pos rfl (ret _)
  · have e : ((l.length : Int) == 0) = false := by simp; exact fun h => hz (by simp [h])
    rw [e]
    by_cases hlt : p < l.length
    · obtain ⟨b0, b1⟩ := rd_code hl p h0 hlt
      have e3 : wrap64 (rd l p) = rd l p := wrap_id (by omega) (by omega)
      obtain ⟨c0, c1⟩ := tmod_bd (rd l p) n b0 (by omega)
      refine ⟨Int.tmod (rd l p) n, neg (by omega) ?_, c0, c1⟩
      refine Ev.step (g := fun k => spec_l1Rd_pick.j0 k _ _ _ _) (fun k => by rw [spec_l1Rd_pick.j0]) (neg (by decide) ?_)
      rw [e2, e3]
      exact pos hlt (pos h0 (neg (by omega) (ret _)))
    · have hpos : (0 : Int) < l.length := by omega
      obtain ⟨m0, m1⟩ := tmod_bd p l.length h0 hpos
      have e7 : wrap64 (p * 7) = p * 7 := wrap_id (by omega) (by omega)
      have e73 : wrap64 (p * 7 + 3) = p * 7 + 3 := wrap_id (by omega) (by omega)
      obtain ⟨q0, q1⟩ := tmod_bd (p * 7 + 3) l.length (by omega) hpos
      obtain ⟨d0, d1⟩ := tdiv_bd p l.length h0 hpos
      obtain ⟨b0, b1⟩ := rd_code hl _ m0 m1
      obtain ⟨b2, b3⟩ := rd_code hl _ q0 q1
      generalize hA : rd l (Int.tmod p (l.length : Int)) = A at b0 b1
      generalize hB : rd l (Int.tmod (p * 7 + 3) (l.length : Int)) = B at b2 b3
      generalize hD : Int.tdiv p (l.length : Int) = D at d0 d1
      have f1 : wrap64 A = A := wrap_id (by omega) (by omega)
      have f2 : wrap64 (A * 131) = A * 131 := wrap_id (by omega) (by omega)
      have f3 : wrap64 B = B := wrap_id (by omega) (by omega)
      have f4 : wrap64 (B * 1117) = B * 1117 := wrap_id (by omega) (by omega)
      have f5 : wrap64 (A * 131 + B * 1117) = A * 131 + B * 1117 := wrap_id (by omega) (by omega)
      have f6 : wrap64 (p * 29) = p * 29 := wrap_id (by omega) (by omega)
      have f7 : wrap64 (A * 131 + B * 1117 + p * 29) = A * 131 + B * 1117 + p * 29 := wrap_id (by omega) (by omega)
      have f8 : wrap64 D = D := wrap_id (by omega) (by omega)
      have f9 : wrap64 (D * 53) = D * 53 := wrap_id (by omega) (by omega)
      have f10 : wrap64 (A * 131 + B * 1117 + p * 29 + D * 53) = A * 131 + B * 1117 + p * 29 + D * 53 := wrap_id (by omega) (by omega)
      generalize hX : A * 131 + B * 1117 + p * 29 + D * 53 = X at f10
      have x0 : 0 ≤ X := by omega
      have x1 : X ≤ 1000000000000 := by omega
      obtain ⟨y0, y1⟩ := tdiv_bd X 64 x0 (by omega)
      have f11 : wrap64 (Int.tdiv X 64) = Int.tdiv X 64 := wrap_id (by omega) (by omega)
      have z0 := xor_nonneg X (Int.tdiv X 64) x0 (by omega) y0 (by omega)
      obtain ⟨c0, c1⟩ := tmod_bd _ n z0 (by omega)
      refine ⟨_, neg (by omega) ?_, c0, c1⟩
      refine Ev.step (g := fun k => spec_l1Rd_pick.j0 k _ _ _ _) (fun k => by rw [spec_l1Rd_pick.j0]) (neg (by decide) ?_)
      rw [e2, e7, e73, hA, hB, hD, f1, f2, f3, f4, f5, f6, f7, f8, f9, hX, f10, f11]
      exact neg hlt (neg (by omega) (pos m0 (pos m1 (pos q0 (pos q1 (neg (by omega) (ret _)))))))
theorem of_ev (l : List Int) (hl : Code l) (p : Int) (t : List ByteArray) (h0 : 0 ≤ p) (h1 : p ≤ 1000000000) (ht : 0 < t.length) (ht' : t.length ≤ 1000) : ∃ s, Ev (fun k => spec_l1Rd_of.f k l p t) (s, p + 1) ∧ s ∈ t := by
  obtain ⟨v, hv, v0, v1⟩ := pick_ev l hl p t.length h0 h1 (by omega) (by omega)
  obtain ⟨n, rfl⟩ := Int.eq_ofNat_of_zero_le v0
  have hn : n < t.length := by omega
  refine ⟨t[n], ?_, List.getElem_mem hn⟩
  unfold spec_l1Rd_of.f
  refine Ev.bind hv (pos v0 (pos v1 (ret' ?_)))
  rw [rdOf_lt _ _ _ hn]
theorem l1Many_l0 (d : Nat) : ∀ (n : Nat) (x y : ByteArray), n ≤ d → n ≤ 1000000 → y.size + x.size * n ≤ 1000000 → ∃ s, Ev (fun k => spec_l1Many.l0 k x (n : Int) y) s ∧ s.size = y.size + x.size * n := by
  induction d with
  | zero =>
    intro n x y hn _ h
    obtain rfl : n = 0 := by omega
    exact ⟨y, Ev.step (g := fun k => spec_l1Many.l0 k _ _ _) (fun k => by rw [spec_l1Many.l0]) (neg (by omega) (ret _)), by simp⟩
  | succ d ih =>
    intro n x y hn hb h
    by_cases h0 : n = 0
    · subst h0
      exact ⟨y, Ev.step (g := fun k => spec_l1Many.l0 k _ _ _) (fun k => by rw [spec_l1Many.l0]) (neg (by omega) (ret _)), by simp⟩
    · have e1 : Int.tmod (n : Int) 2 = (n : Int) % 2 := Int.tmod_eq_emod_of_nonneg (by omega)
      have e2 : Int.tdiv (n : Int) 2 = ((n / 2 : Nat) : Int) := by rw [Int.tdiv_eq_ediv_of_nonneg (by omega)]; omega
      have hx : x.size ≤ x.size * n := Nat.le_mul_of_pos_right _ (by omega)
      have sq : (x ++ x).size = x.size + x.size := ByteArray.size_append
      have hm : x.size * n = (x.size + x.size) * (n / 2) + x.size * (n % 2) := by
        have : n = 2 * (n / 2) + n % 2 := by omega
        conv => lhs; rw [this, Nat.mul_add, ← Nat.mul_assoc, Nat.mul_two]
      rcases (show n % 2 = 1 ∨ n % 2 = 0 by omega) with ho | ho
      · have sy : (y ++ x).size = y.size + x.size := ByteArray.size_append
        rw [ho, Nat.mul_one] at hm
        obtain ⟨s, hs, hz⟩ := ih (n / 2) (x ++ x) (y ++ x) (by omega) (by omega) (by rw [sq, sy]; omega)
        rw [sq, sy] at hz
        refine ⟨s, Ev.step (g := fun k => spec_l1Many.l0 k _ _ _) (fun k => by rw [spec_l1Many.l0]) (pos (by omega) ?_), by omega⟩
        rw [e1, e2, wrap_id (by omega) (by omega)]
        exact pos (by omega) (pos (by omega) (pos (by omega) hs))
      · rw [ho, Nat.mul_zero, Nat.add_zero] at hm
        obtain ⟨s, hs, hz⟩ := ih (n / 2) (x ++ x) y (by omega) (by omega) (by rw [sq]; omega)
        rw [sq] at hz
        refine ⟨s, Ev.step (g := fun k => spec_l1Many.l0 k _ _ _) (fun k => by rw [spec_l1Many.l0]) (pos (by omega) ?_), by omega⟩
        rw [e1, e2, wrap_id (by omega) (by omega)]
        exact neg (by omega) (pos (by omega) hs)
theorem l1Many_ev (x : ByteArray) (n : Nat) (h : n ≤ 1000) (hx : x.size = 1) : ∃ s, Ev (fun k => spec_l1Many.f k x (n : Int)) s ∧ s.size = n := by
  obtain ⟨s, hs, hz⟩ := l1Many_l0 n n x (⟨#[]⟩ : ByteArray) (Nat.le_refl _) (by omega) (by rw [hx]; show 0 + 1 * n ≤ _; omega)
  refine ⟨s, hs, ?_⟩
  rw [hz, hx]
  show 0 + 1 * n = n
  omega
theorem l11Text_ev (l : List Int) (hl : Code l) (p : Int) (h0 : 0 ≤ p) (h1 : p ≤ 1000000000) : ∃ s, Ev (fun k => spec_l11Text.f k l p) (s, p + 1) ∧ s.size ≤ 40 := by
  obtain ⟨m, hm, hz⟩ := l1Many_ev (⟨#[120]⟩ : ByteArray) 40 (by omega) rfl
  obtain ⟨s, hs, hmem⟩ := of_ev l hl p (([(⟨#[]⟩ : ByteArray), (⟨#[97]⟩ : ByteArray), (⟨#[98]⟩ : ByteArray), (⟨#[99]⟩ : ByteArray), (⟨#[53]⟩ : ByteArray), (⟨#[45, 51]⟩ : ByteArray), (⟨#[104, 101, 108, 108, 111]⟩ : ByteArray), (⟨#[13, 10]⟩ : ByteArray), (⟨#[255]⟩ : ByteArray), m, (⟨#[57, 57, 57, 57, 57, 57, 57, 57, 57]⟩ : ByteArray)] : List ByteArray)) h0 h1 (by simp) (by simp)
  refine ⟨s, ?_, ?_⟩
  · unfold spec_l11Text.f
    exact Ev.bind hm (Ev.bind hs (ret _))
  · simp only [List.mem_cons, List.not_mem_nil, or_false] at hmem
    rcases hmem with rfl | rfl | rfl | rfl | rfl | rfl | rfl | rfl | rfl | rfl | rfl <;> first | decide | omega
def decS (n : Nat) : ByteArray := if n < 10 then strOfNums (([(wrap64 (48 + (n : Int))) % 256] : List Int)) else strOfNums (([(wrap64 (48 + ((n / 10 : Nat) : Int))) % 256] : List Int)) ++ strOfNums (([(wrap64 (48 + (Int.tmod (n : Int) 10))) % 256] : List Int))
def nT (n : Nat) : ByteArray := (⟨#[110]⟩ : ByteArray) ++ decS n
theorem one_size (x : Int) : (strOfNums [x]).size = 1 := rfl
theorem decS_size (n : Nat) : (decS n).size ≤ 2 := by
  unfold decS
  split
  · rw [one_size]; omega
  · rw [ByteArray.size_append, one_size, one_size]; omega
theorem nT_size (n : Nat) : (nT n).size ≤ 3 := by
  have := decS_size n
  unfold nT
  rw [ByteArray.size_append]
  show 1 + (decS n).size ≤ 3
  omega
theorem decS_ev (n : Nat) (h : n < 100) : Ev (fun k => spec_l1Dec.f k (n : Int)) (decS n) := by
  have small : ∀ m : Nat, m < 10 → Ev (fun k => spec_l1Dec.f k (m : Int)) (strOfNums (([(wrap64 (48 + (m : Int))) % 256] : List Int))) := fun m hm =>
    Ev.step (g := fun k => spec_l1Dec.f k _) (fun k => by rw [spec_l1Dec.f]) (neg (by omega) (neg (by omega) (pos (by omega) (ret _))))
  unfold decS
  by_cases h10 : n < 10
  · rw [if_pos h10]; exact small n h10
  · rw [if_neg h10]
    have e2 : Int.tdiv (n : Int) 10 = ((n / 10 : Nat) : Int) := by rw [Int.tdiv_eq_ediv_of_nonneg (by omega)]; omega
    refine Ev.step (g := fun k => spec_l1Dec.f k _) (fun k => by rw [spec_l1Dec.f]) (neg (by omega) (neg (by omega) (neg (by omega) ?_)))
    rw [e2, wrap_id (by omega) (by omega)]
    refine Ev.bind (small (n / 10) (by omega)) (Ev.bind (ret _) (pos ?_ (ret _)))
    rw [one_size, one_size]
    omega
theorem nT_inj (i j : Nat) (hi : i < 17) (hj : j < 17) (hn : i ≠ j) : nT i ≠ nT j := by
  have : ∀ i : Fin 17, ∀ j : Fin 17, i ≠ j → nT i.1 ≠ nT j.1 := by decide +kernel
  exact this ⟨i, hi⟩ ⟨j, hj⟩ (fun e => hn (by injection e))
theorem nT_other : ∀ s ∈ (([(⟨#[]⟩ : ByteArray), (⟨#[97]⟩ : ByteArray), (⟨#[98]⟩ : ByteArray), (⟨#[99]⟩ : ByteArray), (⟨#[53]⟩ : ByteArray), (⟨#[45, 51]⟩ : ByteArray), (⟨#[104, 101, 108, 108, 111]⟩ : ByteArray), (⟨#[13, 10]⟩ : ByteArray), (⟨#[255]⟩ : ByteArray), (⟨#[57, 57, 57, 57, 57, 57, 57, 57, 57]⟩ : ByteArray)] : List ByteArray)), ∀ k, k < 17 → s ≠ nT k := by
  have : ∀ s ∈ (([(⟨#[]⟩ : ByteArray), (⟨#[97]⟩ : ByteArray), (⟨#[98]⟩ : ByteArray), (⟨#[99]⟩ : ByteArray), (⟨#[53]⟩ : ByteArray), (⟨#[45, 51]⟩ : ByteArray), (⟨#[104, 101, 108, 108, 111]⟩ : ByteArray), (⟨#[13, 10]⟩ : ByteArray), (⟨#[255]⟩ : ByteArray), (⟨#[57, 57, 57, 57, 57, 57, 57, 57, 57]⟩ : ByteArray)] : List ByteArray)), ∀ k : Fin 17, s ≠ nT k.1 := by decide +kernel
  exact fun s hs k hk => this s hs ⟨k, hk⟩
theorem l11TextN_ev (l : List Int) (hl : Code l) (p : Int) (h0 : 0 ≤ p) (h1 : p ≤ 1000000000) : ∃ s, Ev (fun k => spec_l11Text.f k l p) (s, p + 1) ∧ s.size ≤ 40 ∧ ∀ k, k < 17 → s ≠ nT k := by
  obtain ⟨m, hm, hz⟩ := l1Many_ev (⟨#[120]⟩ : ByteArray) 40 (by omega) rfl
  obtain ⟨s, hs, hmem⟩ := of_ev l hl p (([(⟨#[]⟩ : ByteArray), (⟨#[97]⟩ : ByteArray), (⟨#[98]⟩ : ByteArray), (⟨#[99]⟩ : ByteArray), (⟨#[53]⟩ : ByteArray), (⟨#[45, 51]⟩ : ByteArray), (⟨#[104, 101, 108, 108, 111]⟩ : ByteArray), (⟨#[13, 10]⟩ : ByteArray), (⟨#[255]⟩ : ByteArray), m, (⟨#[57, 57, 57, 57, 57, 57, 57, 57, 57]⟩ : ByteArray)] : List ByteArray)) h0 h1 (by simp) (by simp)
  refine ⟨s, ?_, ?_, ?_⟩
  · unfold spec_l11Text.f
    exact Ev.bind hm (Ev.bind hs (ret _))
  · simp only [List.mem_cons, List.not_mem_nil, or_false] at hmem
    rcases hmem with rfl | rfl | rfl | rfl | rfl | rfl | rfl | rfl | rfl | rfl | rfl <;> first | decide | omega
  · intro k hk
    by_cases e : s = m
    · intro q
      have := nT_size k
      rw [← q, e] at this
      omega
    · refine nT_other s ?_ k hk
      simp only [List.mem_cons, List.not_mem_nil, or_false] at hmem ⊢
      rcases hmem with h | h | h | h | h | h | h | h | h | h | h
      all_goals first | exact absurd h e | simp [h]
theorem one_ev (l : List Int) (hl : Code l) (p : Int) (t : List Int) (h0 : 0 ≤ p) (h1 : p ≤ 1000000000) (ht : 0 < t.length) (ht' : t.length ≤ 1000) : ∃ s, Ev (fun k => spec_l1Rd_one.f k l p t) (s, p + 1) ∧ s ∈ t := by
  obtain ⟨v, hv, v0, v1⟩ := pick_ev l hl p t.length h0 h1 (by omega) (by omega)
  obtain ⟨n, rfl⟩ := Int.eq_ofNat_of_zero_le v0
  have hn : n < t.length := by omega
  refine ⟨t[n], ?_, List.getElem_mem hn⟩
  unfold spec_l1Rd_one.f
  refine Ev.bind hv (pos v0 (pos v1 (ret' ?_)))
  have : rd t (n : Int) = t[n] := by simp [rd, List.getD_eq_getElem?_getD, hn]
  rw [this]
def Free (l : List Score) (j : Nat) : Prop := scoresB l = true ∧ ∀ x ∈ l, ∀ k, j ≤ k → k < 17 → x.f0 ≠ nT k
theorem l11Scores_l1 (c : List Int) (p : Int) (d : Nat) : ∀ (x : List Score) (j : Nat), x.length + d = 16 → j + d ≤ 16 → Free x j → ∃ l, Ev (fun k => spec_l11Scores.l1 k x (j : Int) c p) (l, p) ∧ scoresB l = true := by
  induction d with
  | zero =>
    intro x j hx _ hF
    exact ⟨x, Ev.step (g := fun k => spec_l11Scores.l1 k _ _ _ _) (fun k => by rw [spec_l11Scores.l1]) (neg (by omega) (ret _)), hF.1⟩
  | succ d ih =>
    intro x j hx hj hF
    have hmod : Int.tmod (j : Int) 3 = (j : Int) % 3 := Int.tmod_eq_emod_of_nonneg (by omega)
    have hp : placeB (Int.tmod (j : Int) 3) = true := inB_iff.2 (by omega)
    obtain ⟨e, hok⟩ := scoresPutM_new (s := ⟨nT j, Int.tmod (j : Int) 3⟩) hF.1 (fun y hy => hF.2 y hy j (Nat.le_refl _) (by omega)) (by omega) (by have := nT_size j; show (nT j).size ≤ 40; omega) hp
    have hP := spec_ScoresPut_ev x (by omega) ⟨nT j, Int.tmod (j : Int) 3⟩
    obtain ⟨l, hl, hS⟩ := ih (insM ⟨nT j, Int.tmod (j : Int) 3⟩ x) (j + 1) (by rw [insM_len]; omega) (by omega) ⟨hok, fun y hy k hk hk' => by
      rcases (insM_mem _ _ _).1 hy with rfl | hy
      · exact fun q => nT_inj j k (by omega) hk' (by omega) q
      · exact hF.2 y hy k (by omega) hk'⟩
    refine ⟨l, Ev.step (g := fun k => spec_l11Scores.l1 k _ _ _ _) (fun k => by rw [spec_l11Scores.l1]) (pos (by omega) ?_), hS⟩
    have hsz := nT_size j
    refine Ev.bind (decS_ev j (by omega)) (pos ?_ (Ev.bind hP ?_))
    · have : (nT j).size = 1 + (decS j).size := by unfold nT; rw [ByteArray.size_append]; rfl
      omega
    · rw [e, wrap_id (by omega) (by omega)]
      exact hl
theorem l11Scores_l0 (c : List Int) (hc : Code c) (n : Nat) : ∀ (x : List Score) (p : Int), 0 ≤ p → p + 2 * n ≤ 10000 → x.length + n ≤ 6 → Free x 0 →
    ∃ l q, Ev (fun k => spec_l11Scores.l0 k x (n : Int) c p) (l, q) ∧ scoresB l = true ∧ p ≤ q ∧ q ≤ p + 2 * n + 1 := by
  induction n with
  | zero =>
    intro x p h0 h1 hx hF
    obtain ⟨v, hv, v0, v1⟩ := pick_ev c hc p 30 h0 (by omega) (by omega) (by omega)
    by_cases e : v = 0
    · obtain ⟨l, hl, hS⟩ := l11Scores_l1 c (p + 1) (16 - x.length) x 0 (by omega) (by omega) hF
      refine ⟨l, p + 1, Ev.step (g := fun k => spec_l11Scores.l0 k _ _ _ _) (fun k => by rw [spec_l11Scores.l0]) (neg (by omega) ?_), hS, by omega, by omega⟩
      exact Ev.bind hv (pos e hl)
    · refine ⟨x, p + 1, Ev.step (g := fun k => spec_l11Scores.l0 k _ _ _ _) (fun k => by rw [spec_l11Scores.l0]) (neg (by omega) ?_), hF.1, by omega, by omega⟩
      exact Ev.bind hv (neg e (ret _))
  | succ n ih =>
    intro x p h0 h1 hx hF
    obtain ⟨s, hs, hz, hn⟩ := l11TextN_ev c hc p h0 (by omega)
    obtain ⟨v, hv, hmem⟩ := one_ev c hc (p + 1) ([0, 1, 1, 2, (-5), 7, 1000000000] : List Int) (by omega) (by omega) (by simp) (by simp)
    have hlen := scoresPutM_len x ⟨s, v⟩
    obtain ⟨l, q, hl, hS, q0, q1⟩ := ih (scoresPutM x ⟨s, v⟩).1 (p + 1 + 1) (by omega) (by omega) (by omega) ⟨scoresPutM_ok _ hF.1, fun y hy k hk hk' => by
      rcases scoresPutM_mem hy with rfl | hy
      · exact hn k hk'
      · exact hF.2 y hy k hk hk'⟩
    refine ⟨l, q, Ev.step (g := fun k => spec_l11Scores.l0 k _ _ _ _) (fun k => by rw [spec_l11Scores.l0]) (pos (by omega) ?_), hS, by omega, by omega⟩
    refine Ev.bind hs (Ev.bind hv ?_)
    refine Ev.bind (spec_ScoresPut_ev x (by omega) ⟨s, v⟩) ?_
    rw [show wrap64 (((n + 1 : Nat) : Int) - 1) = (n : Int) by rw [wrap_id (by omega) (by omega)]; omega]
    exact hl
theorem l11AnyScores_ev (c : List Int) (hc : Code c) (p : Int) (h0 : 0 ≤ p) (h1 : p ≤ 1000) : ∃ l q, Ev (fun k => spec_l11AnyScores.f k c p) (l, q) ∧ l.length ≤ 17 ∧ p ≤ q ∧ q ≤ p + 30 := by
  obtain ⟨v, hv, v0, v1⟩ := pick_ev c hc p 7 h0 (by omega) (by omega) (by omega)
  obtain ⟨n, rfl⟩ := Int.eq_ofNat_of_zero_le v0
  have hnil : scoresB ([] : List Score) = true := (scoresB_iff _).2 ⟨by simp, by simp, by simp, by simp⟩
  obtain ⟨l, q, hl, hS, q0, q1⟩ := l11Scores_l0 c hc n [] (p + 1) (by omega) (by omega) (by simp; omega) ⟨hnil, by simp⟩
  have h16 := scoresB_len hS
  have hL : Ev (fun k => spec_l11Scores.f k c p) (l, q) := by
    unfold spec_l11Scores.f
    exact Ev.bind hv hl
  obtain ⟨u, hu, u0, u1⟩ := pick_ev c hc q 10 (by omega) (by omega) (by omega) (by omega)
  obtain ⟨s, hs, z⟩ := l11Text_ev c hc (q + 1) (by omega) (by omega)
  obtain ⟨w, hw, hmem⟩ := one_ev c hc (q + 1 + 1) ([0, 1000000001] : List Int) (by omega) (by omega) (by simp) (by simp)
  unfold spec_l11AnyScores.f
  by_cases e : u = 0
  · refine ⟨l ++ [⟨s, w⟩], q + 1 + 1 + 1, Ev.bind hL (Ev.bind hu (pos e ?_)), by simp; omega, by omega, by omega⟩
    refine Ev.bind hs (Ev.bind hw (pos (by dsimp only; omega) (ret _)))
  · exact ⟨l, q + 1, Ev.bind hL (Ev.bind hu (neg e (ret _))), by omega, by omega, by omega⟩
def atP (t : ByteArray) : List Pair → Nat → Nat × Bool
  | [], i => (i, false)
  | x :: r, i => if lt x.f0 t = true then atP t r (i + 1) else (i, x.f0.toList == t.toList)
theorem l3At_l0 (l : List Pair) (hl : l.length ≤ maxLen) (t : ByteArray) (d : Nat) : ∀ (i : Nat), i + d = l.length → Ev (fun k => spec_l3At.l0 k l t (i : Int)) (((atP t (l.drop i) i).1 : Int), (atP t (l.drop i) i).2) := by
  unfold maxLen at hl
  induction d with
  | zero =>
    intro i hi
    refine Ev.step (g := fun k => spec_l3At.l0 k _ _ _) (fun k => by rw [spec_l3At.l0]) (neg (by omega) (ret' ?_))
    rw [List.drop_of_length_le (by omega)]
    rfl
  | succ d ih =>
    intro i hi
    have hlt : i < l.length := by omega
    refine Ev.step (g := fun k => spec_l3At.l0 k _ _ _) (fun k => by rw [spec_l3At.l0]) (pos (by omega) (pos (by omega) ?_))
    rw [rdPair_lt _ _ hlt, List.drop_eq_getElem_cons hlt, wrap_id (x := (i : Int) + 1) (by omega) (by omega), atP]
    refine both (fun h => ?_) (fun h => ?_)
    · rw [if_pos (show lt l[i].f0 t = true from h)]
      exact ih (i + 1) (by omega)
    · rw [if_neg (show ¬ lt l[i].f0 t = true from h)]
      exact ret _
theorem l3At_ev (l : List Pair) (hl : l.length ≤ maxLen) (t : ByteArray) : Ev (fun k => spec_l3At.f k l t) (((atP t l 0).1 : Int), (atP t l 0).2) := l3At_l0 l hl t l.length 0 (by omega)
theorem atP_bd (t : ByteArray) (r : List Pair) : ∀ (i : Nat), i ≤ (atP t r i).1 ∧ (atP t r i).1 ≤ i + r.length ∧ ((atP t r i).2 = true → (atP t r i).1 < i + r.length) := by
  induction r with
  | nil => intro i; simp [atP]
  | cons x r ih =>
    intro i
    rw [atP]
    by_cases h : lt x.f0 t = true
    · rw [if_pos h]
      obtain ⟨a, b, c⟩ := ih (i + 1)
      refine ⟨by omega, by simp; omega, fun q => ?_⟩
      have := c q
      simp; omega
    · rw [if_neg h]
      simp
theorem fieldsB_len {l : List Pair} (h : fieldsB l = true) : l.length ≤ 16 := by
  simp only [fieldsB, Bool.and_eq_true, decide_eq_true_eq] at h
  omega
theorem fieldsB_up {l : List Pair} (h : fieldsB l = true) : fieldsUp none l = true := by
  simp only [fieldsB, Bool.and_eq_true] at h
  exact h.1
def insF (p : Pair) : List Pair → List Pair
  | [] => [p]
  | x :: r => if lt x.f0 p.f0 = true then x :: insF p r else if (x.f0.toList == p.f0.toList) = true then p :: r else p :: x :: r
theorem insF_at (p : Pair) (l : List Pair) : ∀ (i : Nat), insF p l = if (atP p.f0 l i).2 = true then l.set ((atP p.f0 l i).1 - i) p else l.take ((atP p.f0 l i).1 - i) ++ p :: l.drop ((atP p.f0 l i).1 - i) := by
  induction l with
  | nil => intro i; simp [insF, atP]
  | cons x r ih =>
    intro i
    rw [insF, atP]
    by_cases h : lt x.f0 p.f0 = true
    · rw [if_pos h, if_pos h, ih (i + 1)]
      have hb := (atP_bd p.f0 r (i + 1)).1
      rw [show (atP p.f0 r (i + 1)).1 - i = ((atP p.f0 r (i + 1)).1 - (i + 1)) + 1 by omega]
      split
      · rw [List.set_cons_succ]
      · rw [List.take_succ_cons, List.drop_succ_cons, List.cons_append]
    · rw [if_neg h, if_neg h]
      simp
theorem mem_insF {p y : Pair} {l : List Pair} (h : y ∈ insF p l) : y = p ∨ y ∈ l := by
  induction l with
  | nil => simpa [insF] using h
  | cons x r ih =>
    rw [insF] at h
    split at h
    · rcases List.mem_cons.1 h with rfl | h
      · exact .inr (by simp)
      · rcases ih h with h | h
        · exact .inl h
        · exact .inr (by simp [h])
    · split at h
      · rcases List.mem_cons.1 h with rfl | h
        · exact .inl rfl
        · exact .inr (by simp [h])
      · rcases List.mem_cons.1 h with rfl | h
        · exact .inl rfl
        · exact .inr h
theorem insF_up {p : Pair} {l : List Pair} (h : l.Pairwise fun a b => lt a.f0 b.f0 = true) : (insF p l).Pairwise fun a b => lt a.f0 b.f0 = true := by
  induction l with
  | nil => simp [insF]
  | cons x r ih =>
    rw [List.pairwise_cons] at h
    rw [insF]
    split
    · rename_i hx
      rw [List.pairwise_cons]
      refine ⟨fun y hy => ?_, ih h.2⟩
      rcases mem_insF hy with rfl | hy
      · exact hx
      · exact h.1 y hy
    · rename_i hx
      split
      · rename_i he
        have e : x.f0 = p.f0 := toList_inj (by simpa using he)
        rw [List.pairwise_cons]
        exact ⟨fun y hy => e ▸ h.1 y hy, h.2⟩
      · rename_i he
        have hp : lt p.f0 x.f0 = true := by
          rcases lt_tri x.f0 p.f0 with q | q | q
          · exact absurd q hx
          · exact absurd (by simp [q]) he
          · exact q
        rw [List.pairwise_cons, List.pairwise_cons]
        refine ⟨fun y hy => ?_, h⟩
        rcases List.mem_cons.1 hy with rfl | hy
        · exact hp
        · exact lt_trans hp (h.1 y hy)
theorem insF_len (p : Pair) (l : List Pair) : (insF p l).length ≤ l.length + 1 := by
  induction l with
  | nil => simp [insF]
  | cons x r ih =>
    rw [insF]
    split
    · simp; omega
    · split <;> simp
theorem fieldsUp_pw (l : List Pair) : ∀ (o : Option ByteArray), fieldsUp o l = true → l.Pairwise (fun a b => lt a.f0 b.f0 = true) ∧ ∀ y, o = some y → ∀ a ∈ l, lt y a.f0 = true := by
  induction l with
  | nil => intro o _; exact ⟨List.Pairwise.nil, fun y _ a ha => by cases ha⟩
  | cons x r ih =>
    intro o h
    simp only [fieldsUp, Bool.and_eq_true] at h
    obtain ⟨_, _, h1, h2⟩ := h
    obtain ⟨a, b⟩ := ih _ h2
    refine ⟨List.pairwise_cons.2 ⟨b x.f0 rfl, a⟩, fun y hy z hz => ?_⟩
    subst hy
    have h1 : lt y x.f0 = true := h1
    rcases List.mem_cons.1 hz with rfl | hz
    · exact h1
    · exact lt_trans h1 (b x.f0 rfl z hz)
theorem fieldsB_pw {l : List Pair} (h : fieldsB l = true) : l.Pairwise fun a b => lt a.f0 b.f0 = true := (fieldsUp_pw l none (fieldsB_up h)).1
def fieldsPutM (l : List Pair) (p : Pair) : List Pair × Bool × Bool :=
  if fieldsB l = true then (if fieldsB (insF p l) = true then (insF p l, !(atP p.f0 l 0).2, true) else (l, false, false)) else ([], false, false)
theorem fieldsPutM_len (l : List Pair) (p : Pair) : (fieldsPutM l p).1.length ≤ l.length + 1 := by
  unfold fieldsPutM
  split
  · split
    · exact insF_len p l
    · simp
  · simp
theorem spec_FieldsPut_ev (l : List Pair) (hl : l.length ≤ maxLen) (p : Pair) : Ev (fun k => spec_FieldsPut.f k l p.f0 p.f1) (fieldsPutM l p) := by
  unfold spec_FieldsPut.f fieldsPutM
  refine Ev.bind (spec_FieldsOk_ev l hl) ?_
  obtain ⟨h1, h2, h3⟩ := atP_bd p.f0 l 0
  cases hF : fieldsB l with
  | false => exact neg (by decide) (ret' (by simp))
  | true =>
    have h16 := fieldsB_len hF
    refine pos rfl (Ev.bind (l3At_ev l hl p.f0) ?_)
    have hi := insF_at p l 0
    have hil := insF_len p l
    have hK := spec_FieldsOk_ev (insF p l) (by unfold maxLen; omega)
    simp only [Nat.sub_zero] at hi
    rw [if_pos rfl]
    have fin : Ev (fun k => spec_FieldsPut.j0 k l (atP p.f0 l 0).2 (insF p l)) (if fieldsB (insF p l) = true then (insF p l, !(atP p.f0 l 0).2, true) else (l, false, false)) := by
      refine Ev.step (g := fun k => spec_FieldsPut.j0 k _ _ _) (fun k => by rw [spec_FieldsPut.j0]) (Ev.bind hK ?_)
      cases hb : fieldsB (insF p l) with
      | true => exact pos rfl (ret' rfl)
      | false => exact neg (by decide) (Ev.bind (ret _) (pos (by simp; omega) (ret' (by simp))))
    dsimp only
    refine Ev.bind (ret _) (pos (by simp; omega) (Ev.bind (ret _) ?_))
    rw [List.nil_append]
    cases hA : (atP p.f0 l 0).2 with
    | true =>
      have := h3 hA
      rw [hA] at fin
      rw [if_pos hA] at hi
      rw [hi] at fin
      refine pos rfl (pos (by omega) (pos (by omega) ?_))
      rw [Int.toNat_natCast]
      rw [hi]
      exact fin
    | false =>
      rw [hA] at fin
      rw [if_neg (by rw [hA]; decide)] at hi
      refine neg (by decide) (Ev.bind (ret _) (pos (by omega) (pos (by omega) (Ev.bind (ret _) ?_))))
      rw [Int.toNat_natCast]
      refine pos (by simp; omega) (Ev.bind (ret _) (Ev.bind (ret _) (pos (by simp; omega) (Ev.bind (ret _) (Ev.bind (ret _) (pos (by simp; omega) ?_))))))
      rw [List.nil_append, List.append_assoc, List.singleton_append, ← hi]
      exact fin
def fT (n : Nat) : ByteArray := (⟨#[102]⟩ : ByteArray) ++ decS n
theorem fT_size (n : Nat) : (fT n).size ≤ 3 := by
  have := decS_size n
  unfold fT
  rw [ByteArray.size_append]
  show 1 + (decS n).size ≤ 3
  omega
theorem fT_inj (i j : Nat) (_hi : 10 ≤ i) (hi' : i < 27) (_hj : 10 ≤ j) (hj' : j < 27) (hn : i ≠ j) : fT i ≠ fT j := by
  have : ∀ i : Fin 27, ∀ j : Fin 27, i ≠ j → fT i.1 ≠ fT j.1 := by decide +kernel
  exact this ⟨i, hi'⟩ ⟨j, hj'⟩ (fun e => hn (by injection e))
theorem fT_other : ∀ s ∈ (([(⟨#[]⟩ : ByteArray), (⟨#[97]⟩ : ByteArray), (⟨#[98]⟩ : ByteArray), (⟨#[99]⟩ : ByteArray), (⟨#[53]⟩ : ByteArray), (⟨#[45, 51]⟩ : ByteArray), (⟨#[104, 101, 108, 108, 111]⟩ : ByteArray), (⟨#[13, 10]⟩ : ByteArray), (⟨#[255]⟩ : ByteArray), (⟨#[57, 57, 57, 57, 57, 57, 57, 57, 57]⟩ : ByteArray)] : List ByteArray)), ∀ k, k < 27 → s ≠ fT k := by
  have : ∀ s ∈ (([(⟨#[]⟩ : ByteArray), (⟨#[97]⟩ : ByteArray), (⟨#[98]⟩ : ByteArray), (⟨#[99]⟩ : ByteArray), (⟨#[53]⟩ : ByteArray), (⟨#[45, 51]⟩ : ByteArray), (⟨#[104, 101, 108, 108, 111]⟩ : ByteArray), (⟨#[13, 10]⟩ : ByteArray), (⟨#[255]⟩ : ByteArray), (⟨#[57, 57, 57, 57, 57, 57, 57, 57, 57]⟩ : ByteArray)] : List ByteArray)), ∀ k : Fin 27, s ≠ fT k.1 := by decide +kernel
  exact fun s hs k hk => this s hs ⟨k, hk⟩
theorem l11TextF_ev (l : List Int) (hl : Code l) (p : Int) (h0 : 0 ≤ p) (h1 : p ≤ 1000000000) : ∃ s, Ev (fun k => spec_l11Text.f k l p) (s, p + 1) ∧ s.size ≤ 40 ∧ ∀ k, k < 27 → s ≠ fT k := by
  obtain ⟨m, hm, hz⟩ := l1Many_ev (⟨#[120]⟩ : ByteArray) 40 (by omega) rfl
  obtain ⟨s, hs, hmem⟩ := of_ev l hl p (([(⟨#[]⟩ : ByteArray), (⟨#[97]⟩ : ByteArray), (⟨#[98]⟩ : ByteArray), (⟨#[99]⟩ : ByteArray), (⟨#[53]⟩ : ByteArray), (⟨#[45, 51]⟩ : ByteArray), (⟨#[104, 101, 108, 108, 111]⟩ : ByteArray), (⟨#[13, 10]⟩ : ByteArray), (⟨#[255]⟩ : ByteArray), m, (⟨#[57, 57, 57, 57, 57, 57, 57, 57, 57]⟩ : ByteArray)] : List ByteArray)) h0 h1 (by simp) (by simp)
  refine ⟨s, ?_, ?_, ?_⟩
  · unfold spec_l11Text.f
    exact Ev.bind hm (Ev.bind hs (ret _))
  · simp only [List.mem_cons, List.not_mem_nil, or_false] at hmem
    rcases hmem with rfl | rfl | rfl | rfl | rfl | rfl | rfl | rfl | rfl | rfl | rfl <;> first | decide | omega
  · intro k hk
    by_cases e : s = m
    · intro q
      have := fT_size k
      rw [← q, e] at this
      omega
    · refine fT_other s ?_ k hk
      simp only [List.mem_cons, List.not_mem_nil, or_false] at hmem ⊢
      rcases hmem with h | h | h | h | h | h | h | h | h | h | h
      all_goals first | exact absurd h e | simp [h]
theorem fieldsUp_of (l : List Pair) : ∀ (o : Option ByteArray), (∀ x ∈ l, x.f0.size ≤ 40 ∧ x.f1.size ≤ 40) → l.Pairwise (fun a b => lt a.f0 b.f0 = true) → (∀ y, o = some y → ∀ a ∈ l, lt y a.f0 = true) → fieldsUp o l = true := by
  induction l with
  | nil => intro o _ _ _; rfl
  | cons x r ih =>
    intro o h1 h2 h3
    rw [List.pairwise_cons] at h2
    obtain ⟨a, b⟩ := h1 x (by simp)
    simp only [fieldsUp, Bool.and_eq_true, decide_eq_true_eq]
    refine ⟨a, b, ?_, ih _ (fun y hy => h1 y (by simp [hy])) h2.2 (fun y hy z hz => ?_)⟩
    · cases o with
      | none => rfl
      | some y => exact h3 y rfl x (by simp)
    · injection hy with hy
      rw [← hy]
      exact h2.1 z hz
theorem fieldsUp_small (l : List Pair) : ∀ (o : Option ByteArray), fieldsUp o l = true → ∀ x ∈ l, x.f0.size ≤ 40 ∧ x.f1.size ≤ 40 := by
  induction l with
  | nil => intro o _ x hx; cases hx
  | cons y r ih =>
    intro o h x hx
    simp only [fieldsUp, Bool.and_eq_true, decide_eq_true_eq] at h
    rcases List.mem_cons.1 hx with rfl | hx
    · exact ⟨h.1, h.2.1⟩
    · exact ih _ h.2.2.2 x hx
theorem fieldsB_iff (l : List Pair) : fieldsB l = true ↔ (∀ x ∈ l, x.f0.size ≤ 40 ∧ x.f1.size ≤ 40) ∧ l.Pairwise (fun a b => lt a.f0 b.f0 = true) ∧ l.length ≤ 16 :=
  ⟨fun h => ⟨fieldsUp_small l none (fieldsB_up h), fieldsB_pw h, fieldsB_len h⟩, fun ⟨h1, h2, h3⟩ => by
    simp only [fieldsB, Bool.and_eq_true, decide_eq_true_eq]
    exact ⟨fieldsUp_of l none h1 h2 (fun y hy => by cases hy), by omega⟩⟩
theorem fieldsPutM_ok {l : List Pair} (p : Pair) (h : fieldsB l = true) : fieldsB (fieldsPutM l p).1 = true := by
  unfold fieldsPutM
  rw [if_pos h]
  split
  · assumption
  · exact h
theorem fieldsPutM_mem {l : List Pair} {p y : Pair} (h : y ∈ (fieldsPutM l p).1) : y = p ∨ y ∈ l := by
  unfold fieldsPutM at h
  split at h
  · split at h
    · exact mem_insF h
    · exact .inr h
  · simp at h
theorem insF_new (p : Pair) (l : List Pair) (h : ∀ x ∈ l, x.f0 ≠ p.f0) : (insF p l).length = l.length + 1 := by
  induction l with
  | nil => rfl
  | cons x r ih =>
    rw [insF]
    split
    · simp [ih (fun y hy => h y (by simp [hy]))]
    · split
      · rename_i he
        exact absurd (toList_inj (by simpa using he)) (h x (by simp))
      · rfl
def FreeF (l : List Pair) (j : Nat) : Prop := fieldsB l = true ∧ ∀ x ∈ l, ∀ k, j ≤ k → k < 27 → x.f0 ≠ fT k
theorem l11AnyFields_l0 (c : List Int) (p : Int) (d : Nat) : ∀ (x : List Pair) (j : Nat), x.length + d = 16 → 10 ≤ j → j + d ≤ 26 → FreeF x j → ∃ l, Ev (fun k => spec_l11AnyFields.l0 k x (j : Int) c p) (l, p) ∧ l.length ≤ 16 := by
  induction d with
  | zero =>
    intro x j hx _ _ hF
    exact ⟨x, Ev.step (g := fun k => spec_l11AnyFields.l0 k _ _ _ _) (fun k => by rw [spec_l11AnyFields.l0]) (neg (by omega) (ret _)), by omega⟩
  | succ d ih =>
    intro x j hx h10 hj hF
    have hnew := insF_new ⟨fT j, ⟨#[]⟩⟩ x (fun y hy => hF.2 y hy j (Nat.le_refl _) (by omega))
    obtain ⟨s1, s2, s3⟩ := (fieldsB_iff x).1 hF.1
    have hz := fT_size j
    have hok : fieldsB (insF ⟨fT j, ⟨#[]⟩⟩ x) = true := (fieldsB_iff _).2 ⟨fun y hy => by
      rcases mem_insF hy with rfl | hy
      · exact ⟨by show (fT j).size ≤ 40; omega, by show (0 : Nat) ≤ 40; omega⟩
      · exact s1 y hy, insF_up s2, by omega⟩
    have e : (fieldsPutM x ⟨fT j, ⟨#[]⟩⟩).1 = insF ⟨fT j, ⟨#[]⟩⟩ x := by
      unfold fieldsPutM
      rw [if_pos hF.1, if_pos hok]
    have hP := spec_FieldsPut_ev x (by unfold maxLen; omega) ⟨fT j, ⟨#[]⟩⟩
    obtain ⟨l, hl, hS⟩ := ih (insF ⟨fT j, ⟨#[]⟩⟩ x) (j + 1) (by omega) (by omega) (by omega) ⟨hok, fun y hy k hk hk' => by
      rcases mem_insF hy with rfl | hy
      · exact fT_inj j k h10 (by omega) (by omega) hk' (by omega)
      · exact hF.2 y hy k (by omega) hk'⟩
    refine ⟨l, Ev.step (g := fun k => spec_l11AnyFields.l0 k _ _ _ _) (fun k => by rw [spec_l11AnyFields.l0]) (pos (by omega) ?_), hS⟩
    have hd := decS_size j
    refine Ev.bind (decS_ev j (by omega)) (pos (by omega) (Ev.bind hP ?_))
    rw [e, wrap_id (by omega) (by omega)]
    exact hl
theorem l11Fields_l0 (c : List Int) (hc : Code c) (n : Nat) : ∀ (x : List Pair) (p : Int), 0 ≤ p → p + 2 * n ≤ 10000 → x.length + n ≤ 6 → FreeF x 10 →
    ∃ l q, Ev (fun k => spec_l11Fields.l0 k x (n : Int) c p) (l, q) ∧ FreeF l 10 ∧ l.length ≤ 6 ∧ p ≤ q ∧ q ≤ p + 2 * n := by
  induction n with
  | zero =>
    intro x p h0 h1 hx hF
    exact ⟨x, p, Ev.step (g := fun k => spec_l11Fields.l0 k _ _ _ _) (fun k => by rw [spec_l11Fields.l0]) (neg (by omega) (ret _)), hF, by omega, by omega, by omega⟩
  | succ n ih =>
    intro x p h0 h1 hx hF
    obtain ⟨s, hs, hz, hn⟩ := l11TextF_ev c hc p h0 (by omega)
    obtain ⟨t, ht, hz2, _⟩ := l11TextF_ev c hc (p + 1) (by omega) (by omega)
    have hlen := fieldsPutM_len x ⟨s, t⟩
    obtain ⟨l, q, hl, hS, h6, q0, q1⟩ := ih (fieldsPutM x ⟨s, t⟩).1 (p + 1 + 1) (by omega) (by omega) (by omega) ⟨fieldsPutM_ok _ hF.1, fun y hy k hk hk' => by
      rcases fieldsPutM_mem hy with rfl | hy
      · exact hn k hk'
      · exact hF.2 y hy k hk hk'⟩
    refine ⟨l, q, Ev.step (g := fun k => spec_l11Fields.l0 k _ _ _ _) (fun k => by rw [spec_l11Fields.l0]) (pos (by omega) ?_), hS, h6, by omega, by omega⟩
    refine Ev.bind hs (Ev.bind ht ?_)
    refine Ev.bind (spec_FieldsPut_ev x (by unfold maxLen; omega) ⟨s, t⟩) ?_
    rw [show wrap64 (((n + 1 : Nat) : Int) - 1) = (n : Int) by rw [wrap_id (by omega) (by omega)]; omega]
    exact hl
theorem l11AnyFields_ev (c : List Int) (hc : Code c) (p : Int) (h0 : 0 ≤ p) (h1 : p ≤ 1000) : ∃ l q, Ev (fun k => spec_l11AnyFields.f k c p) (l, q) ∧ l.length ≤ 16 ∧ p ≤ q ∧ q ≤ p + 30 := by
  obtain ⟨v, hv, v0, v1⟩ := pick_ev c hc p 5 h0 (by omega) (by omega) (by omega)
  obtain ⟨n, rfl⟩ := Int.eq_ofNat_of_zero_le v0
  have hnil : fieldsB ([] : List Pair) = true := by decide
  obtain ⟨l, q, hl, hS, h6, q0, q1⟩ := l11Fields_l0 c hc n [] (p + 1) (by omega) (by omega) (by simp; omega) ⟨hnil, by simp⟩
  have hL : Ev (fun k => spec_l11Fields.f k c p) (l, q) := by
    unfold spec_l11Fields.f
    exact Ev.bind hv hl
  obtain ⟨u, hu, u0, u1⟩ := pick_ev c hc q 12 (by omega) (by omega) (by omega) (by omega)
  obtain ⟨s, hs, z⟩ := l11Text_ev c hc (q + 1) (by omega) (by omega)
  unfold spec_l11AnyFields.f
  by_cases e : u = 0
  · refine ⟨l ++ [⟨s, ⟨#[]⟩⟩], q + 1 + 1, Ev.bind hL (Ev.bind hu (pos e ?_)), by simp; omega, by omega, by omega⟩
    exact Ev.bind hs (pos (by dsimp only; omega) (ret _))
  · by_cases e1 : u = 1
    · obtain ⟨m, hm, h16⟩ := l11AnyFields_l0 c (q + 1) (16 - l.length) l 10 (by omega) (by omega) (by omega) hS
      exact ⟨m, q + 1, Ev.bind hL (Ev.bind hu (neg e (pos e1 hm))), h16, by omega, by omega⟩
    · exact ⟨l, q + 1, Ev.bind hL (Ev.bind hu (neg e (neg e1 (ret _)))), by omega, by omega, by omega⟩
theorem strOfNums_one' (x : Int) : (strOfNums [x]).size = 1 := rfl
theorem l1Dec_ev (n : Nat) (h : n < 100) : ∃ s, Ev (fun k => spec_l1Dec.f k (n : Int)) s ∧ s.size ≤ 2 := by
  have small : ∀ m : Nat, m < 10 → Ev (fun k => spec_l1Dec.f k (m : Int)) (strOfNums (([(wrap64 (48 + (m : Int))) % 256] : List Int))) := fun m hm =>
    Ev.step (g := fun k => spec_l1Dec.f k _) (fun k => by rw [spec_l1Dec.f]) (neg (by omega) (neg (by omega) (pos (by omega) (ret _))))
  by_cases h10 : n < 10
  · exact ⟨_, small n h10, by rw [strOfNums_one']; omega⟩
  · have e2 : Int.tdiv (n : Int) 10 = ((n / 10 : Nat) : Int) := by rw [Int.tdiv_eq_ediv_of_nonneg (by omega)]; omega
    refine ⟨strOfNums (([(wrap64 (48 + ((n / 10 : Nat) : Int))) % 256] : List Int)) ++ strOfNums (([(wrap64 (48 + (Int.tmod (n : Int) 10))) % 256] : List Int)), Ev.step (g := fun k => spec_l1Dec.f k _) (fun k => by rw [spec_l1Dec.f]) (neg (by omega) (neg (by omega) (neg (by omega) ?_))), ?_⟩
    · rw [e2, wrap_id (by omega) (by omega)]
      refine Ev.bind (small (n / 10) (by omega)) (Ev.bind (ret _) (pos ?_ (ret _)))
      rw [strOfNums_one', strOfNums_one']
      omega
    · rw [ByteArray.size_append, strOfNums_one', strOfNums_one']
      omega
def Small (l : List ByteArray) (n : Nat) : Prop := l.length ≤ n ∧ ∀ s ∈ l, s.size ≤ 41
theorem Small.app {l : List ByteArray} {n : Nat} (h : Small l n) {s : ByteArray} (hs : s.size ≤ 41) : Small (l ++ [s]) (n + 1) :=
  ⟨by rw [List.length_append]; have := h.1; simp; omega, fun t ht => by
    rcases List.mem_append.1 ht with ht | ht
    · exact h.2 t ht
    · rw [List.mem_singleton.1 ht]; exact hs⟩
theorem Small.le {l : List ByteArray} {n m : Nat} (h : Small l n) (hm : n ≤ m) : Small l m := ⟨Nat.le_trans h.1 hm, h.2⟩
theorem l11Texts_l0 (c : List Int) (hc : Code c) (n : Nat) : ∀ (x : List ByteArray) (p : Int) (m : Nat), 0 ≤ p → p + n ≤ 1000000 → m + n ≤ 1000 → Small x m →
    ∃ l, Ev (fun k => spec_l11Texts.l0 k x (n : Int) c p) (l, p + n) ∧ Small l (m + n) := by
  induction n with
  | zero =>
    intro x p m h0 h1 hm hx
    exact ⟨x, Ev.step (g := fun k => spec_l11Texts.l0 k _ _ _ _) (fun k => by rw [spec_l11Texts.l0]) (neg (by omega) (ret' (by simp))), hx⟩
  | succ n ih =>
    intro x p m h0 h1 hm hx
    obtain ⟨s, hs, hz⟩ := l11Text_ev c hc p h0 (by omega)
    obtain ⟨l, hl, hS⟩ := ih (x ++ [s]) (p + 1) (m + 1) (by omega) (by omega) (by omega) (hx.app (by omega))
    have hx1 := hx.1
    refine ⟨l, Ev.step (g := fun k => spec_l11Texts.l0 k _ _ _ _) (fun k => by rw [spec_l11Texts.l0]) (pos (by omega) (Ev.bind hs ?_)), hS.le (by omega)⟩
    rw [show wrap64 (((n + 1 : Nat) : Int) - 1) = (n : Int) by rw [wrap_id (by omega) (by omega)]; omega]
    refine pos (by omega) (of_eq hl ?_)
    rw [show p + 1 + (n : Int) = p + ((n + 1 : Nat) : Int) by omega]
theorem l11Texts_ev (c : List Int) (hc : Code c) (p : Int) (n : Nat) (h0 : 0 ≤ p) (h1 : p ≤ 900000) (hn : n ≤ 900) : ∃ l q, Ev (fun k => spec_l11Texts.f k c p (n : Int)) (l, q) ∧ Small l n ∧ p ≤ q ∧ q ≤ p + 1 + n := by
  obtain ⟨v, hv, v0, v1⟩ := pick_ev c hc p ((n : Int) + 1) h0 (by omega) (by omega) (by omega)
  obtain ⟨m, rfl⟩ := Int.eq_ofNat_of_zero_le v0
  obtain ⟨l, hl, hS⟩ := l11Texts_l0 c hc m [] (p + 1) 0 (by omega) (by omega) (by omega) ⟨by simp, by simp⟩
  refine ⟨l, p + 1 + m, ?_, hS.le (by omega), by omega, by omega⟩
  unfold spec_l11Texts.f
  rw [wrap_id (by omega) (by omega)]
  exact Ev.bind hv hl
theorem l11AnyTexts_l0 (c : List Int) (hc : Code c) (d : Nat) : ∀ (x : List ByteArray) (p : Int), 0 ≤ p → p ≤ 1000000 - d → x.length + d = 17 → d ≤ 17 → Small x 17 →
    ∃ l q, Ev (fun k => spec_l11AnyTexts.l0 k x c p) (l, q) ∧ Small l 17 ∧ p ≤ q ∧ q ≤ p + d + 1 := by
  induction d with
  | zero =>
    intro x p h0 h1 hx _ hS
    obtain ⟨v, hv, v0, v1⟩ := pick_ev c hc p 2 h0 (by omega) (by omega) (by omega)
    refine ⟨x, p + 1, Ev.step (g := fun k => spec_l11AnyTexts.l0 k _ _ _) (fun k => by rw [spec_l11AnyTexts.l0]) (Ev.bind hv ?_), hS, by omega, by omega⟩
    dsimp only
    rw [wrap_id (by omega) (by omega)]
    exact neg (by omega) (ret _)
  | succ d ih =>
    intro x p h0 h1 hx _ hS
    obtain ⟨v, hv, v0, v1⟩ := pick_ev c hc p 2 h0 (by omega) (by omega) (by omega)
    by_cases hlt : (x.length : Int) < 16 + v
    · obtain ⟨s, hs, hz⟩ := l1Dec_ev x.length (by omega)
      have hz1 : ((⟨#[110]⟩ : ByteArray) ++ s).size ≤ 41 := by
        rw [ByteArray.size_append]
        show 1 + s.size ≤ 41
        omega
      obtain ⟨l, q, hl, hS', h2, h3⟩ := ih (x ++ [(⟨#[110]⟩ : ByteArray) ++ s]) (p + 1) (by omega) (by omega) (by simp; omega) (by omega) ⟨by simp; omega, (hS.app hz1).2⟩
      refine ⟨l, q, Ev.step (g := fun k => spec_l11AnyTexts.l0 k _ _ _) (fun k => by rw [spec_l11AnyTexts.l0]) (Ev.bind hv ?_), hS', by omega, by omega⟩
      dsimp only
      rw [wrap_id (by omega) (by omega)]
      exact pos hlt (Ev.bind hs (pos (by omega) (pos (by omega) hl)))
    · refine ⟨x, p + 1, Ev.step (g := fun k => spec_l11AnyTexts.l0 k _ _ _) (fun k => by rw [spec_l11AnyTexts.l0]) (Ev.bind hv ?_), hS, by omega, by omega⟩
      dsimp only
      rw [wrap_id (by omega) (by omega)]
      exact neg hlt (ret _)
theorem l11AnyTexts_ev (c : List Int) (hc : Code c) (p : Int) (h0 : 0 ≤ p) (h1 : p ≤ 100000) : ∃ l q, Ev (fun k => spec_l11AnyTexts.f k c p) (l, q) ∧ Small l 17 ∧ p ≤ q ∧ q ≤ p + 100 := by
  obtain ⟨x, p1, hx, hS, a1, a2⟩ := l11Texts_ev c hc p 6 h0 (by omega) (by omega)
  obtain ⟨v, hv, v0, v1⟩ := pick_ev c hc p1 16 (by omega) (by omega) (by omega) (by omega)
  obtain ⟨m, hm, hz⟩ := l1Many_ev (⟨#[121]⟩ : ByteArray) 41 (by omega) rfl
  have h6 := hS.1
  by_cases e0 : v = 0
  · refine ⟨x ++ [m], p1 + 1, ?_, (hS.app (by omega)).le (by omega), by omega, by omega⟩
    unfold spec_l11AnyTexts.f
    refine Ev.bind hx (Ev.bind hv (pos e0 (Ev.bind hm (pos (by dsimp only; omega) (ret _)))))
  · by_cases e1 : v = 1
    · obtain ⟨l, q, hl, hS', h2, h3⟩ := l11AnyTexts_l0 c hc (17 - x.length) x (p1 + 1) (by omega) (by omega) (by omega) (by omega) (hS.le (by omega))
      refine ⟨l, q, ?_, hS', by omega, by omega⟩
      unfold spec_l11AnyTexts.f
      exact Ev.bind hx (Ev.bind hv (neg e0 (pos e1 hl)))
    · refine ⟨x, p1 + 1, ?_, hS.le (by omega), by omega, by omega⟩
      unfold spec_l11AnyTexts.f
      exact Ev.bind hx (Ev.bind hv (neg e0 (neg e1 (ret _))))

theorem toList_iff {a b : ByteArray} : a.toList = b.toList ↔ a = b := ⟨toList_inj, fun h => by rw [h]⟩
def putM (t : ByteArray) : List ByteArray → List ByteArray
  | [] => [t]
  | x :: r => if lt x t = true then x :: putM t r else if x = t then x :: r else t :: x :: r
theorem l2Put_l0 (l : List ByteArray) (hl : l.length ≤ 1048576) (t : ByteArray) (d : Nat) : ∀ (i : Nat), i + d = l.length → Ev (fun k => spec_l2Put.l0 k l t (i : Int)) (l.take i ++ putM t (l.drop i)) := by
  induction d with
  | zero =>
    intro i hi
    refine Ev.step (g := fun k => spec_l2Put.l0 k _ _ _) (fun k => by rw [spec_l2Put.l0]) (neg (by omega) ?_)
    refine Ev.bind (ret _) (pos (by omega) (pos (by omega) (Ev.bind (ret _) ?_)))
    refine pos (by simp; omega) (Ev.bind (ret _) (Ev.bind (ret _) ?_))
    refine pos (by simp; omega) (Ev.bind (ret _) (Ev.bind (ret _) ?_))
    refine pos (by simp; omega) (ret' ?_)
    rw [Int.toNat_natCast, List.drop_of_length_le (by omega)]
    simp [putM]
  | succ d ih =>
    intro i hi
    have hlt : i < l.length := by omega
    refine Ev.step (g := fun k => spec_l2Put.l0 k _ _ _) (fun k => by rw [spec_l2Put.l0]) (pos (by omega) (pos (by omega) ?_))
    rw [rdOf_lt _ _ _ hlt, wrap_id (x := (i : Int) + 1) (by omega) (by omega)]
    have hd := List.drop_eq_getElem_cons hlt
    refine both (fun h => ?_) (fun h => both (fun h' => ?_) (fun h' => ?_))
    · refine of_eq (ih (i + 1) (by omega)) ?_
      rw [hd, putM, if_pos (show lt l[i] t = true from h), List.take_succ_eq_append_getElem hlt, List.append_assoc, List.singleton_append]
    · refine ret' ?_
      rw [hd, putM, if_neg (show ¬ lt l[i] t = true from h), if_pos (toList_iff.1 h'), ← hd, List.take_append_drop]
    · refine Ev.bind (ret _) (pos (by omega) (Ev.bind (ret _) ?_))
      refine pos (by simp; omega) (Ev.bind (ret _) (Ev.bind (ret _) ?_))
      refine pos (by simp; omega) (Ev.bind (ret _) (Ev.bind (ret _) ?_))
      refine pos (by simp; omega) (ret' ?_)
      rw [Int.toNat_natCast, hd, putM, if_neg (show ¬ lt l[i] t = true from h), if_neg (fun e => h' (toList_iff.2 e))]
      simp
theorem l2Put_ev (l : List ByteArray) (hl : l.length ≤ 1048576) (t : ByteArray) : Ev (fun k => spec_l2Put.f k l t) (putM t l) := by
  have := l2Put_l0 l hl t l.length 0 (by omega)
  simpa [spec_l2Put.f] using this
theorem putM_len (t : ByteArray) (l : List ByteArray) : (putM t l).length ≤ l.length + 1 := by
  induction l with
  | nil => simp [putM]
  | cons x r ih =>
    rw [putM]
    split
    · simp; omega
    · split <;> simp
theorem putM_mem (t : ByteArray) (l : List ByteArray) (s : ByteArray) : s ∈ putM t l ↔ s = t ∨ s ∈ l := by
  induction l with
  | nil => simp [putM]
  | cons x r ih =>
    rw [putM]
    split
    · rw [List.mem_cons, ih, List.mem_cons]
      constructor
      · rintro (h | h | h)
        · exact .inr (.inl h)
        · exact .inl h
        · exact .inr (.inr h)
      · rintro (h | h | h)
        · exact .inr (.inl h)
        · exact .inl h
        · exact .inr (.inr h)
    · split
      · rename_i h
        constructor
        · exact .inr
        · rintro (e | e)
          · rw [e, ← h]; simp
          · exact e
      · simp
theorem l11Set_l0 (c : List Int) (p : Int) (l : List ByteArray) (hl : Small l 17) (d : Nat) : ∀ (i : Nat) (x : List ByteArray), i + d = l.length → Small x i → ∃ r, Ev (fun k => spec_l11Set.l0 k x l (i : Int) c p) (r, p) ∧ Small r 17 := by
  have h17 := hl.1
  induction d with
  | zero =>
    intro i x hi hx
    exact ⟨x, Ev.step (g := fun k => spec_l11Set.l0 k _ _ _ _ _) (fun k => by rw [spec_l11Set.l0]) (neg (by omega) (ret _)), hx.le (by omega)⟩
  | succ d ih =>
    intro i x hi hx
    have hlt : i < l.length := by omega
    have hx1 := hx.1
    have hw : wrap64 ((i : Int) + 1) = ((i + 1 : Nat) : Int) := by rw [wrap_id (by omega) (by omega)]; omega
    by_cases h : l[i].size ≤ 40
    · obtain ⟨r, hr, hS⟩ := ih (i + 1) (putM l[i] x) (by omega) ⟨by have := putM_len l[i] x; omega, fun s hs => by
        rcases (putM_mem _ _ _).1 hs with rfl | hs
        · omega
        · exact hx.2 s hs⟩
      refine ⟨r, Ev.step (g := fun k => spec_l11Set.l0 k _ _ _ _ _) (fun k => by rw [spec_l11Set.l0]) (pos (by omega) (pos (by omega) ?_)), hS⟩
      rw [rdOf_lt _ _ _ hlt, hw]
      exact pos (by omega) (Ev.bind (l2Put_ev x (by omega) _) hr)
    · obtain ⟨r, hr, hS⟩ := ih (i + 1) x (by omega) (hx.le (by omega))
      refine ⟨r, Ev.step (g := fun k => spec_l11Set.l0 k _ _ _ _ _) (fun k => by rw [spec_l11Set.l0]) (pos (by omega) (pos (by omega) ?_)), hS⟩
      rw [rdOf_lt _ _ _ hlt, hw]
      exact neg (by omega) hr
theorem l11AnySet_ev (c : List Int) (hc : Code c) (p : Int) (h0 : 0 ≤ p) (h1 : p ≤ 10000) : ∃ l q, Ev (fun k => spec_l11AnySet.f k c p) (l, q) ∧ Small l 17 ∧ p ≤ q ∧ q ≤ p + 101 := by
  obtain ⟨v, hv, v0, v1⟩ := pick_ev c hc p 10 h0 (by omega) (by omega) (by omega)
  obtain ⟨t, q, ht, hS, a1, a2⟩ := l11AnyTexts_ev c hc (p + 1) (by omega) (by omega)
  unfold spec_l11AnySet.f
  by_cases e : v = 0
  · refine ⟨t, q, Ev.bind hv (pos e ?_), hS, by omega, by omega⟩
    exact Ev.bind ht (ret _)
  · obtain ⟨r, hr, hS'⟩ := l11Set_l0 c q t hS t.length 0 [] (by omega) ⟨by simp, by simp⟩
    refine ⟨r, q, Ev.bind hv (neg e ?_), hS', by omega, by omega⟩
    unfold spec_l11Set.f
    refine Ev.bind (Ev.bind ht hr) (ret _)
theorem l11Entry_j0 (c : List Int) (hc : Code c) (p : Int) (h0 : 0 ≤ p) (h1 : p ≤ 100000) (key : ByteArray) (exp kd : Int) (t : ByteArray) (l : List ByteArray) (s : List Score) (f : List Pair) :
    ∃ kd' q, Ev (fun k => spec_l11Entry.j0 k c p key exp kd t l s f) (key, exp, kd', t, l, s, f, q) ∧ (kd' = kd ∨ 0 ≤ kd' ∧ kd' < 7) := by
  obtain ⟨v, hv, v0, v1⟩ := pick_ev c hc p 16 h0 (by omega) (by omega) (by omega)
  obtain ⟨u, hu, u0, u1⟩ := pick_ev c hc (p + 1) 7 (by omega) (by omega) (by omega) (by omega)
  by_cases e : v = 0
  · refine ⟨u, p + 1 + 1, Ev.step (g := fun k => spec_l11Entry.j0 k _ _ _ _ _ _ _ _ _) (fun k => by rw [spec_l11Entry.j0]) (Ev.bind hv ?_), .inr ⟨u0, u1⟩⟩
    dsimp only
    refine pos e (Ev.bind hu ?_)
    exact ret _
  · refine ⟨kd, p + 1, Ev.step (g := fun k => spec_l11Entry.j0 k _ _ _ _ _ _ _ _ _) (fun k => by rw [spec_l11Entry.j0]) (Ev.bind hv ?_), .inl rfl⟩
    dsimp only
    exact neg e (ret _)
theorem DrawEntryOk_ev (l : List Int) (hl : l.length ≤ maxLen) (hb : ∀ x ∈ l, (Lit.int .u8 x).wf = true) : ∃ key exp kd t m s f, Ev (fun k => spec_DrawEntryOk.f k l) (key, exp, kd, t, m, s, f) ∧ m.length ≤ 17 ∧ s.length ≤ 17 ∧ f.length ≤ 17 ∧ 0 ≤ kd ∧ kd < 7 := by
  obtain ⟨c, hc, hC⟩ := l1Open_ev l hl hb
  obtain ⟨key, hk, _⟩ := of_ev c hC 0 ([(⟨#[107]⟩ : ByteArray), (⟨#[108]⟩ : ByteArray), (⟨#[110, 101, 119]⟩ : ByteArray), (⟨#[]⟩ : ByteArray), (⟨#[109, 117, 99, 104, 116, 111, 111, 108, 111, 110, 103, 107, 101, 121]⟩ : ByteArray)] : List ByteArray) (by omega) (by omega) (by simp) (by simp)
  obtain ⟨v, hv, v0, v1⟩ := pick_ev c hC (0 + 1) 5 (by omega) (by omega) (by omega) (by omega)
  obtain ⟨u, hu, _⟩ := one_ev c hC (0 + 1 + 1) ([0, 0, 20, 2000001, 1] : List Int) (by omega) (by omega) (by simp) (by simp)
  have hw : wrap64 (1 + v) = 1 + v := wrap_id (by omega) (by omega)
  have all : ∃ key exp kd t m s f q, Ev (fun k => spec_l11Entry.f k c 0) (key, exp, kd, t, m, s, f, q) ∧ m.length ≤ 17 ∧ s.length ≤ 17 ∧ f.length ≤ 17 ∧ 0 ≤ kd ∧ kd < 7 := by
    have cases5 : v = 0 ∨ v = 1 ∨ v = 2 ∨ v = 3 ∨ v = 4 := by omega
    rcases cases5 with rfl | rfl | rfl | rfl | rfl
    · obtain ⟨t, ht, _⟩ := l11Text_ev c hC (0 + 1 + 1 + 1) (by omega) (by omega)
      obtain ⟨kd', q, h, hk'⟩ := l11Entry_j0 c hC (0 + 1 + 1 + 1 + 1) (by omega) (by omega) key u (wrap64 (1 + 0)) t [] [] []
      rw [hw] at hk'
      refine ⟨key, u, kd', t, [], [], [], q, ?_, by simp, by simp, by simp, by omega, by omega⟩
      · unfold spec_l11Entry.f
        exact Ev.bind hk (Ev.bind hv (Ev.bind hu (pos (by rw [hw]; rfl) (Ev.bind ht h))))
    · obtain ⟨m, q1, hm, hS, a1, a2⟩ := l11AnyTexts_ev c hC (0 + 1 + 1 + 1) (by omega) (by omega)
      obtain ⟨kd', q, h, hk'⟩ := l11Entry_j0 c hC q1 (by omega) (by omega) key u (wrap64 (1 + 1)) (⟨#[]⟩ : ByteArray) m [] []
      rw [hw] at hk'
      refine ⟨key, u, kd', (⟨#[]⟩ : ByteArray), m, [], [], q, ?_, hS.1, by simp, by simp, by omega, by omega⟩
      · unfold spec_l11Entry.f
        exact Ev.bind hk (Ev.bind hv (Ev.bind hu (neg (by rw [hw]; decide) (pos (by rw [hw]; rfl) (Ev.bind hm h)))))
    · obtain ⟨m, q1, hm, hS, a1, a2⟩ := l11AnySet_ev c hC (0 + 1 + 1 + 1) (by omega) (by omega)
      obtain ⟨kd', q, h, hk'⟩ := l11Entry_j0 c hC q1 (by omega) (by omega) key u (wrap64 (1 + 2)) (⟨#[]⟩ : ByteArray) m [] []
      rw [hw] at hk'
      refine ⟨key, u, kd', (⟨#[]⟩ : ByteArray), m, [], [], q, ?_, hS.1, by simp, by simp, by omega, by omega⟩
      · unfold spec_l11Entry.f
        exact Ev.bind hk (Ev.bind hv (Ev.bind hu (neg (by rw [hw]; decide) (neg (by rw [hw]; decide) (pos (by rw [hw]; rfl) (Ev.bind hm h))))))
    · obtain ⟨m, q1, hm, hS, a1, a2⟩ := l11AnyScores_ev c hC (0 + 1 + 1 + 1) (by omega) (by omega)
      obtain ⟨kd', q, h, hk'⟩ := l11Entry_j0 c hC q1 (by omega) (by omega) key u (wrap64 (1 + 3)) (⟨#[]⟩ : ByteArray) [] m []
      rw [hw] at hk'
      refine ⟨key, u, kd', (⟨#[]⟩ : ByteArray), [], m, [], q, ?_, by simp, hS, by simp, by omega, by omega⟩
      · unfold spec_l11Entry.f
        exact Ev.bind hk (Ev.bind hv (Ev.bind hu (neg (by rw [hw]; decide) (neg (by rw [hw]; decide) (neg (by rw [hw]; decide) (pos (by rw [hw]; rfl) (Ev.bind hm h)))))))
    · obtain ⟨m, q1, hm, hS, a1, a2⟩ := l11AnyFields_ev c hC (0 + 1 + 1 + 1) (by omega) (by omega)
      obtain ⟨kd', q, h, hk'⟩ := l11Entry_j0 c hC q1 (by omega) (by omega) key u (wrap64 (1 + 4)) (⟨#[]⟩ : ByteArray) [] [] m
      rw [hw] at hk'
      refine ⟨key, u, kd', (⟨#[]⟩ : ByteArray), [], [], m, q, ?_, by simp, by simp, by omega, by omega, by omega⟩
      · unfold spec_l11Entry.f
        exact Ev.bind hk (Ev.bind hv (Ev.bind hu (neg (by rw [hw]; decide) (neg (by rw [hw]; decide) (neg (by rw [hw]; decide) (neg (by rw [hw]; decide) (pos (by rw [hw]; rfl) (Ev.bind hm h))))))))
  obtain ⟨key, exp, kd, t, m, s, f, q, h, r⟩ := all
  refine ⟨key, exp, kd, t, m, s, f, ?_, r⟩
  unfold spec_DrawEntryOk.f
  exact Ev.bind hc (Ev.bind h (ret _))
theorem kind_other (kd : Int) (t : ByteArray) (sz bl bs bf T S C F : Bool) (h0 : 0 ≤ kd) (h7 : kd < 7) (h : kindB kd sz (decide (t.toList = [])) bl bs bf T S C F = true) :
    kindB (if kd = 2 ∨ kd = 1 ∧ t.toList = [] then 4 else kd % 5 + 1) sz (decide (t.toList = [])) bl bs bf T S C F = false ∧ (kd = 1 ∨ bl = false ∨ bs = false ∨ bf = false) := by
  have hk : kd = 0 ∨ kd = 1 ∨ kd = 2 ∨ kd = 3 ∨ kd = 4 ∨ kd = 5 ∨ kd = 6 := by omega
  by_cases ht : t.toList = []
  · rcases hk with rfl | rfl | rfl | rfl | rfl | rfl | rfl <;> revert h <;> simp only [ht, decide_true] <;> revert sz bl bs bf T S C F <;> decide
  · rcases hk with rfl | rfl | rfl | rfl | rfl | rfl | rfl <;> revert h <;> simp only [ht, decide_false] <;> revert sz bl bs bf T S C F <;> decide
theorem FnEntryOk_pure (l : List Int) (hl : l.length ≤ maxLen) (hb : ∀ x ∈ l, (Lit.int .u8 x).wf = true) : ∃ k, laws_FnEntryOk.f k l = some true := by
  refine exists_of (r := true) ?_
  unfold laws_FnEntryOk.f
  refine both (fun _ => ret _) (fun _ => ?_)
  obtain ⟨key, exp, kd, t, m, s, f, hD, hm, hs, hf, k0, k7⟩ := DrawEntryOk_ev l hl hb
  have hm' : m.length ≤ maxLen := by unfold maxLen; omega
  have hs' : s.length ≤ maxLen := by unfold maxLen; omega
  have hf' : f.length ≤ maxLen := by unfold maxLen; omega
  have hI := fun q => impl_EntryOk_ev key exp q t m s f hm' hs' hf'
  have hW := fun q => spec_EntryOk_ev key exp q t m s f hm' hs' hf'
  refine Ev.bind hD (Ev.bind (hI kd) (Ev.bind (hW kd) (neg (by simp) ?_)))
  dsimp only
  cases hok : entryB key exp kd t m s f with
  | false =>
    refine Ev.step (g := fun k => laws_FnEntryOk.j0 k _ _ _ _ _ _ _ _ _) (fun k => by rw [laws_FnEntryOk.j0]) ?_
    refine pos (by decide) ?_
    exact Ev.bind (hW kd) (ret' (by rw [hok]; rfl))
  | true =>
    refine Ev.step (g := fun k => laws_FnEntryOk.j0 k _ _ _ _ _ _ _ _ _) (fun k => by rw [laws_FnEntryOk.j0]) ?_
    refine neg (by decide) ?_
    have hk : kindB kd (decide ((t.size : Int) ≤ 40)) (decide (t.toList = [])) (decide (m.length = 0)) (decide (s.length = 0)) (decide (f.length = 0)) (textsB m 16) (setB m) (scoresB s) (fieldsB f) = true := by
      simp only [entryB, Bool.and_eq_true] at hok
      exact hok.2.2
    obtain ⟨o1, o2⟩ := kind_other kd t _ _ _ _ _ _ _ _ k0 k7 hk
    have z1 : entryB key exp (if kd = 2 ∨ kd = 1 ∧ t.toList = [] then 4 else kd % 5 + 1) t m s f = false := by
      unfold entryB
      rw [o1, Bool.and_false, Bool.and_false]
    have z2 : entryB key exp 0 t m s f = false := by
      unfold entryB
      rw [show kindB 0 (decide ((t.size : Int) ≤ 40)) (decide (t.toList = [])) (decide (m.length = 0)) (decide (s.length = 0)) (decide (f.length = 0)) (textsB m 16) (setB m) (scoresB s) (fieldsB f) = false from rfl, Bool.and_false, Bool.and_false]
    have hmod : wrap64 (Int.tmod kd 5 + 1) = kd % 5 + 1 := by
      rw [Int.tmod_eq_emod_of_nonneg k0, wrap_id (by omega) (by omega)]
    have j2 : Ev (fun k => laws_FnEntryOk.j2 k key exp kd t m s f key exp (if kd = 2 ∨ kd = 1 ∧ t.toList = [] then 4 else kd % 5 + 1) t m s f) true := by
      refine Ev.step (g := fun k => laws_FnEntryOk.j2 k _ _ _ _ _ _ _ _ _ _ _ _ _ _) (fun k => by rw [laws_FnEntryOk.j2]) (Ev.bind (hI _) ?_)
      rw [z1]
      refine neg (by decide) (Ev.bind (hI 0) ?_)
      rw [z2]
      refine neg (by decide) (both (fun _ => ret _) (fun h => ret' (decide_eq_true ?_)))
      rw [wrap_id (x := (m.length : Int) + s.length) (by omega) (by omega), wrap_id (by omega) (by omega)]
      rcases o2 with o2 | o2 | o2 | o2
      · exact absurd o2 h
      · have := of_decide_eq_false o2; omega
      · have := of_decide_eq_false o2; omega
      · have := of_decide_eq_false o2; omega
    have j1 : ∀ b : Bool, b = decide (kd = 2 ∨ kd = 1 ∧ t.toList = []) → Ev (fun k => laws_FnEntryOk.j1 k b key exp kd t m s f key exp (wrap64 (Int.tmod kd 5 + 1)) t m s f) true := by
      intro b hb
      rw [hmod]
      refine Ev.step (g := fun k => laws_FnEntryOk.j1 k _ _ _ _ _ _ _ _ _ _ _ _ _ _ _) (fun k => by rw [laws_FnEntryOk.j1]) ?_
      by_cases h : kd = 2 ∨ kd = 1 ∧ t.toList = []
      · rw [if_pos h] at j2
        rw [decide_eq_true h] at hb
        exact pos hb j2
      · rw [if_neg h] at j2
        rw [decide_eq_false h] at hb
        exact neg (by rw [hb]; decide) j2
    refine both (fun h => j1 _ (by simp [h])) (fun h => both (fun h' => j1 _ ?_) (fun h' => j1 _ (by simp [h, h'])))
    rw [Bool.eq_iff_iff, beq_iff_eq, decide_eq_true_iff]
    exact ⟨fun q => .inr ⟨h', q⟩, fun q => by
      rcases q with q | q
      · exact absurd q h
      · exact q.2⟩
end Go.Proofs.Ytnkgmcgbbldkgaa.Q
