import Derived.Test.YtnkgmcgbbldkgaaPrFnEntryOk4
/- Texts of this claim, one behind the other: words on worlds and rows, printed functions and their walks, plain lemmas. -/
namespace Go.Proofs.Ytnkgmcgbbldkgaa.P
open Go.RowKit Go.Proofs.YtnkgmcgbbldkgaaW.PrintWords Go.Proofs.YtnkgmcgbbldkgaaW.PrintLast Go.Proofs.YtnkgmcgbbldkgaaW.PrintMore
attribute [local go_sem] max2_int min2_int max_two min_two max_three min_three max_four min_four   -- for this text's walks alone
set_option linter.unusedVariables false
set_option linter.unusedSimpArgs false
def spec_FieldsPut.T7 : Bool × List (List Nat × List Nat) := (true, [([], []), ([], []), ([], []), ([1, 2], [1, 2]), ([0, 3], [0, 3]), ([], []), ([5], [5]), ([4, 6, 4], [4, 6]), ([], []), ([], []), ([8, 9], [8, 9]), ([7, 10, 7], [7, 10]), ([11, 11, 0, 1, 2, 3, 4, 5, 6, 7, 8, 9, 10, 11], [11])])
def spec_FieldsPut.B7 : List Nat := [0, 0, 0, 6, 15, 0, 32, 127, 0, 0, 768, 2047, 4095]
theorem spec_FieldsPut.tab7 : rtab .any (opsOf Try.f115 7) = spec_FieldsPut.T7 := by kernel_rfl
theorem spec_FieldsPut.bits7 : waitsOk spec_FieldsPut.T7.2 spec_FieldsPut.B7 = true := by kernel_rfl
set_option maxHeartbeats 8000000 in
set_option maxRecDepth 100000 in
theorem spec_FieldsPut.calls (k : Nat) (A0 : Option Addr) (c0 : Nat) (l0 : List (S101)) (a1_0 : ByteArray) (a1_1 : ByteArray) (r1 : List (S101)) (r2 : Bool) (r3 : Bool) (w : World) (hr0 : Kd.C k101 w A0 l0.length l0) (hc0 : l0.length ≤ c0) (h : spec_FieldsPut.f k l0 a1_0 a1_1 = some (r1, r2, r3)) :
  Calls Try.prog 115 #[.slice A0 l0.length c0, .agg #[.string a1_0, .string a1_1]] w fun e w' => ∃ v0_ : Value, e = .returned (.tuple #[v0_, .bool r2, .bool r3]) ∧ Kd.R k101 101 w' w.heap.size (fun _ => True) v0_ r1 ∧ Below w.heap.size w w' := by
 have hu101 := Try.underlying101
 have HR0 := zq9 hr0
 have HC0 := zq9 hc0
 clear hr0 hc0
 have HB := zq9 (Below.refl w.heap.size w)
 have H : ((spec_FieldsOk.f k l0).bind fun t489 => (if t489 = true then ((spec_l3At.f k l0 a1_0).bind fun bt493 => ((some (([] : List (S101)) : List (S101))).bind fun y495 => (if y495.length + l0.length < 4398046511104 then ((some (y495 ++ l0 : List (S101))).bind fun y498 => (if bt493.2 = true then (if 0 ≤ bt493.1 then (if bt493.1 < (y498.length : Int) then (spec_FieldsPut.j0 k l0 bt493.2 (y498.set (bt493.1 : Int).toNat (⟨a1_0, a1_1⟩ : S101))) else (none)) else (none)) else ((some (([] : List (S101)) : List (S101))).bind fun y502 => (if 0 ≤ bt493.1 then (if bt493.1 ≤ (l0.length : Int) then ((some (l0.take (bt493.1 : Int).toNat : List (S101))).bind fun y505 => (if y502.length + y505.length < 4398046511104 then ((some (y502 ++ y505 : List (S101))).bind fun y509 => ((some (([(⟨a1_0, a1_1⟩ : S101)] : List (S101)) : List (S101))).bind fun y512 => (if y509.length + y512.length < 4398046511104 then ((some (y509 ++ y512 : List (S101))).bind fun y515 => ((some (l0.drop (bt493.1 : Int).toNat : List (S101))).bind fun y518 => (if y515.length + y518.length < 4398046511104 then (spec_FieldsPut.j0 k l0 bt493.2 (y515 ++ y518)) else (none)))) else (none)))) else (none))) else (none)) else (none))))) else (none)))) else (some ((([] : List (S101))), false, false)))) = some (r1, r2, r3) := h
 clear h
 replace H := Option.bind_eq_some_iff.mp H
 obtain ⟨t489, A30, H⟩ := H
 try dsimp only at H
 have A3 := zq9 A30
 clear A30
 by_cases c4 : t489 = true
 ·subst c4
  have H1 : ((spec_l3At.f k l0 a1_0).bind fun bt493 => ((some (([] : List (S101)) : List (S101))).bind fun y495 => (if y495.length + l0.length < 4398046511104 then ((some (y495 ++ l0 : List (S101))).bind fun y498 => (if bt493.2 = true then (if 0 ≤ bt493.1 then (if bt493.1 < (y498.length : Int) then (spec_FieldsPut.j0 k l0 bt493.2 (y498.set (bt493.1 : Int).toNat (⟨a1_0, a1_1⟩ : S101))) else (none)) else (none)) else ((some (([] : List (S101)) : List (S101))).bind fun y502 => (if 0 ≤ bt493.1 then (if bt493.1 ≤ (l0.length : Int) then ((some (l0.take (bt493.1 : Int).toNat : List (S101))).bind fun y505 => (if y502.length + y505.length < 4398046511104 then ((some (y502 ++ y505 : List (S101))).bind fun y509 => ((some (([(⟨a1_0, a1_1⟩ : S101)] : List (S101)) : List (S101))).bind fun y512 => (if y509.length + y512.length < 4398046511104 then ((some (y509 ++ y512 : List (S101))).bind fun y515 => ((some (l0.drop (bt493.1 : Int).toNat : List (S101))).bind fun y518 => (if y515.length + y518.length < 4398046511104 then (spec_FieldsPut.j0 k l0 bt493.2 (y515 ++ y518)) else (none)))) else (none)))) else (none))) else (none)) else (none))))) else (none)))) = some (r1, r2, r3) := by rw [if_pos rfl] at H; exact H
  clear H
  have H := H1
  clear H1
  replace H := Option.bind_eq_some_iff.mp H
  obtain ⟨⟨t493, t494⟩, A50, H⟩ := H
  try dsimp only at H
  have A5 := zq9 A50
  clear A50
  obtain ⟨y495, hy495⟩ : ∃ y_ : List (S101), y_ = (([] : List (S101))) := ⟨_, rfl⟩
  replace H : (if y495.length + l0.length < 4398046511104 then ((some (y495 ++ l0 : List (S101))).bind fun y498 => (if t494 = true then (if 0 ≤ t493 then (if t493 < (y498.length : Int) then (spec_FieldsPut.j0 k l0 t494 (y498.set (t493 : Int).toNat (⟨a1_0, a1_1⟩ : S101))) else (none)) else (none)) else ((some (([] : List (S101)) : List (S101))).bind fun y502 => (if 0 ≤ t493 then (if t493 ≤ (l0.length : Int) then ((some (l0.take (t493 : Int).toNat : List (S101))).bind fun y505 => (if y502.length + y505.length < 4398046511104 then ((some (y502 ++ y505 : List (S101))).bind fun y509 => ((some (([(⟨a1_0, a1_1⟩ : S101)] : List (S101)) : List (S101))).bind fun y512 => (if y509.length + y512.length < 4398046511104 then ((some (y509 ++ y512 : List (S101))).bind fun y515 => ((some (l0.drop (t493 : Int).toNat : List (S101))).bind fun y518 => (if y515.length + y518.length < 4398046511104 then (spec_FieldsPut.j0 k l0 t494 (y515 ++ y518)) else (none)))) else (none)))) else (none))) else (none)) else (none))))) else (none)) = some (r1, r2, r3) := by first | (rw [hy495]; with_reducible exact H) | (have H2_ := (Option.bind_some _ _).symm.trans H; rw [hy495]; with_reducible exact H2_) | (have H2_ := (Option.bind_some _ _).symm.trans H; with_reducible exact H2_) | with_reducible exact H | (rw [hy495]; exact H) | exact H
  have Ny495 := zq9 hy495
  clear hy495
  by_cases c6 : y495.length + l0.length < 4398046511104
  ·rw [if_pos c6] at H
   have LMc6 := zq9 c6
   clear c6
   obtain ⟨y498, hy498⟩ : ∃ y_ : List (S101), y_ = (y495 ++ l0) := ⟨_, rfl⟩
   replace H : (if t494 = true then (if 0 ≤ t493 then (if t493 < (y498.length : Int) then (spec_FieldsPut.j0 k l0 t494 (y498.set (t493 : Int).toNat (⟨a1_0, a1_1⟩ : S101))) else (none)) else (none)) else ((some (([] : List (S101)) : List (S101))).bind fun y502 => (if 0 ≤ t493 then (if t493 ≤ (l0.length : Int) then ((some (l0.take (t493 : Int).toNat : List (S101))).bind fun y505 => (if y502.length + y505.length < 4398046511104 then ((some (y502 ++ y505 : List (S101))).bind fun y509 => ((some (([(⟨a1_0, a1_1⟩ : S101)] : List (S101)) : List (S101))).bind fun y512 => (if y509.length + y512.length < 4398046511104 then ((some (y509 ++ y512 : List (S101))).bind fun y515 => ((some (l0.drop (t493 : Int).toNat : List (S101))).bind fun y518 => (if y515.length + y518.length < 4398046511104 then (spec_FieldsPut.j0 k l0 t494 (y515 ++ y518)) else (none)))) else (none)))) else (none))) else (none)) else (none)))) = some (r1, r2, r3) := by first | (rw [hy498]; with_reducible exact H) | (have H2_ := (Option.bind_some _ _).symm.trans H; rw [hy498]; with_reducible exact H2_) | (have H2_ := (Option.bind_some _ _).symm.trans H; with_reducible exact H2_) | with_reducible exact H | (rw [hy498]; exact H) | exact H
   have Ny498 := zq9 hy498
   clear hy498
   have HC7 := zq9 H
   clear H
   go_enter Try.func115, Try.ntmps115
   go_upto_if 24 with (first | ((with_reducible refine zq25 (N := 3) rfl ?_); refine bx 3 #[.string a1_0, .string a1_1] 101 ?_; intro gb488 hg w8 hbox hb; have n0_ := zq9 (zq27 (by exact bl HB) hb); have n1_ := zq9 (hbox); have n2_ := zq9 ((by rw [hg]; exact (zq29 (by exact bl HB)) : w.heap.size ≤ gb488)); have n3_ := n2_; clear HB; have HB := n0_; have BK488 := n1_; have GW488 := n2_; have GE488 := n3_; clear n0_ n1_ n2_ n3_; clear hb hbox hg) | ((with_reducible refine zq24 (f := 44) rfl ?_); refine gl (some 11) Try.func44 #[.slice A0 l0.length c0] ?_; (with_reducible refine (spec_FieldsOk.calls k _ _ l0 true _ ?side1 ?side2 A3.out).mono ?_); (case side1 => exact kc HR0 HB); (case side2 => exact HC0.out); rintro e w' ⟨rfl, ⟨nd, rfl⟩⟩; refine ⟨_, rfl, ?_⟩; have hcz9_0 : w8.cell? ⟨gb488, 0, none⟩ = some (.string a1_0) := bc BK488 0; have hcz9_1 : w8.cell? ⟨gb488, 1, none⟩ = some (.string a1_1) := bc BK488 1; have hfz9_0 := zq6 BK488.out 0; have hfz9_1 := zq6 BK488.out 1) | ((with_reducible refine zq24 (f := 121) rfl ?_); refine gl (some 18) Try.func121 #[.slice A0 l0.length c0, .string a1_0] ?_; (with_reducible refine (spec_l3At.calls k _ _ l0 a1_0 t493 t494 _ ?side1 ?side2 A5.out).mono ?_); (case side1 => repeat (first | exact (zq31 HR0.out (by exact b1 HB GE488)) | (with_reducible refine zq18 ?_ _) | (with_reducible refine zq19 ?_ _) | (with_reducible refine zq20 ?_))); (case side2 => exact HC0.out); rintro e w' ⟨rfl, ⟨nd, rfl⟩⟩; refine ⟨_, rfl, ?_⟩) | ((with_reducible refine zq25 (N := 21) rfl ?_); refine Kd.R_lit k101 _ 101 ?hg (N := 21) ?hd (xs := ([] : List (S101))) (inner := []) (ok := fun _ => True) (okp := fun _ => True) ?hr ?hp (fun _ hk => hk) trivial (Below.refl _ _) (Nat.le_refl _) (by simp) ?_; (case hd => rfl); (case hg => rfl); (case hr => first | (go_simp; done) | (go_simp; rfl)); (case hp => exact (Reps.none _ _)); intro v496 w10 ho11 hb hg_ hnew_; clear hg_ hnew_; (first | rw [← Ny495.out] at ho11 | (simp only [Int.reduceToNat] at ho11; rw [← Ny495.out] at ho11)); have n0_ := zq9 (Kd.R_lower (Kd.R_newB ho11 (g := gb488) (o := .cells #[.string a1_0, .string a1_1] 101 (0, 0)) (by exact bk BK488)) (zq29 (by exact b1 HB GE488))); have n1_ := zq9 (zq30 (g := gb488) (o := .cells #[.string a1_0, .string a1_1] 101 (0, 0)) (by exact bk BK488) hb); have n2_ := zq9 (zq27 (by exact b1 HB GE488) hb); clear BK488; clear HB; have HO497 := n0_; have BK488 := n1_; have HB := n2_; clear n0_ n1_ n2_; clear hb ho11) | ((with_reducible refine gate_builtin (b := .append) (xs := #[.tmp 21, .tmp 22]) rfl ?_); at_builtin; refine Kd.R_append_rows k101 (w0 := w) w.heap.size rfl (.tmp 21) (.tmp 22) 30 101 (.agg #[(.string ⟨#[]⟩), (.string ⟨#[]⟩)]) 32 rfl Try.underlying30 info101 rfl (by decide) (by omega) v496 y495 l0 _ _ _ (fun k_ => k_ ≠ gb488) (fun _ => False) rfl rfl ?aO ?aR (fun _ _ h => h) (fun _ h => h.elim) ?aF ?aB ?aS ?aL ?_; (case aR => exact kc HR0 HB); (case aB => exact (by exact b1 HB GE488)); (case aF => exact (fun k_ hk => Kd.freshB (g := gb488) (o := .cells #[.string a1_0, .string a1_1] 101 (0, 0)) (by exact bk BK488) k_ hk)); (case aO => exact (by (with_reducible repeat (first | apply zq10 | apply zq11 | apply zq12)); exact Kd.R_mono HO497.out (fun _ hk => hk.2))); (case aS => exact (zq29 (by exact b1 HB GE488))); (case aL => have := LMc6.out; omega); intro v499 w12 ho hb hg hat; rw [← Ny498.out] at ho; have n0_ := zq9 (blk_grown (g := gb488) (o := .cells #[.string a1_0, .string a1_1] 101 (0, 0)) (by exact bk BK488) hg (Kd.R_away HO497.out (fun _ hk => hk.2))); have n1_ := zq9 (hb); have n2_ := zq9 (ho); clear BK488; clear HB; clear HO497; have BK488 := n0_; have HB := n1_; have HO500 := n2_; clear n0_ n1_ n2_; clear ho hb hg hat))
   (try simp only [Act.put, zq0, zq1, zq2])
   go_cut [9] (fun v9 wc => ∃ (kq : Nat) (x9_6 : List (S101)) (x489000_6 : ByteArray) (x489001_6 : ByteArray), Aside0 (spec_FieldsPut.j0 kq l0 t494 x9_6 = some (r1, r2, r3)) ∧ Aside0 (kq ≤ k) ∧ Aside0 (Kd.R k101 101 wc w.heap.size (fun k_ => k_ ≠ gb488) v9 x9_6) ∧ Aside0 (wc.heap[gb488]? = some (.cells #[.string x489000_6, .string x489001_6] 101 (0, 0))) ∧ Aside0 (Below w.heap.size w wc))
   case first =>
    have H := HC7.out
    clear HC7
    by_cases c13 : t494 = true
    ·subst c13
     have H1 : (if 0 ≤ t493 then (if t493 < (y498.length : Int) then (spec_FieldsPut.j0 k l0 true (y498.set (t493 : Int).toNat (⟨a1_0, a1_1⟩ : S101))) else (none)) else (none)) = some (r1, r2, r3) := by rw [if_pos rfl] at H; exact H
     clear H
     have H := H1
     clear H1
     by_cases c14 : 0 ≤ t493
     ·rw [if_pos c14] at H
      have c14b0 : decide (0 ≤ t493) = true := decide_eq_true c14
      clear c14
      (first | rw [c14b0] | (simp only [i64_w, i32_w]; rw [c14b0]) | skip)
      by_cases c15 : t493 < (y498.length : Int)
      ·rw [if_pos c15] at H
       have c15b0 : decide (t493 < (y498.length : Int)) = true := decide_eq_true c15
       clear c15
       obtain ⟨y501, hy501⟩ : ∃ y_ : List (S101), y_ = (y498.set (t493 : Int).toNat (⟨a1_0, a1_1⟩ : S101)) := ⟨_, rfl⟩
       replace H : (spec_FieldsPut.j0 k l0 true y501) = some (r1, r2, r3) := by first | (rw [hy501]; with_reducible exact H) | (have H2_ := (Option.bind_some _ _).symm.trans H; rw [hy501]; with_reducible exact H2_) | (have H2_ := (Option.bind_some _ _).symm.trans H; with_reducible exact H2_) | with_reducible exact H | (rw [hy501]; exact H) | exact H
       have Ny501 := zq9 hy501
       clear hy501
       have H' := zq9 H
       clear H
       have hcz17_0 : w12.cell? ⟨gb488, 0, none⟩ = some (.string a1_0) := bc BK488 0
       have hcz17_1 : w12.cell? ⟨gb488, 1, none⟩ = some (.string a1_1) := bc BK488 1
       have hfz17_0 := zq6 BK488.out 0
       have hfz17_1 := zq6 BK488.out 1
       have p16 : 0 ≤ (t493 : Int) := of_decide_eq_true ‹_›
       have q16 : (t493 : Int) < ((y498.length : Int) : Int) := of_decide_eq_true ‹_›
       obtain ⟨go16, co16, eo16, gb16, gl16, cl16, HG16⟩ := Kd.R_form HO500.out (by omega)
       (first | cases eo16 | (injection eo16 with ea_ en_ ec_; (first | subst ea_ | (injection ea_ with ea_; subst ea_)); subst ec_; clear en_))
       have GB16 := zq9 gb16
       have GG16 := zq9 HG16
       clear gb16 gl16 HG16
       obtain ⟨ce16, hcl16, hM16, hcc16, hfr16⟩ := Kd.R_elem HO500.out z101 (t493 : Int) p16 q16
       obtain rfl := k101_openM hM16
       have hx16_0 : w12.cell? ⟨go16, (t493 : Int).toNat * 2, none⟩ = some (.string ((rd_T101 y498 t493).f0)) := hcc16 0 _ rfl
       have hx16_1 : w12.cell? ⟨go16, (t493 : Int).toNat * 2 + 1, none⟩ = some (.string ((rd_T101 y498 t493).f1)) := hcc16 1 _ rfl
       have hf16_0 : w12.frozen? ⟨go16, (t493 : Int).toNat * 2, none⟩ = false := hfr16 0
       have hf16_1 : w12.frozen? ⟨go16, (t493 : Int).toNat * 2 + 1, none⟩ = false := hfr16 1
       clear hcl16 hcc16 hfr16 hM16
       replace p16 := eq_true p16
       replace q16 := eq_true q16
       have HX18 := zq9 (show Kd.R k101 101 w12 w.heap.size (fun k_ => k_ ≠ gb488) (.slice (some ⟨go16, 0, none⟩) y498.length co16) y498 from (by exact rz HO500))
       obtain ⟨ce18, hcl18, hM18, hcc18, hfr18⟩ := Kd.R_elem HX18.out z101 (t493 : Int) (of_decide_eq_true ‹_›) (by have h_ : (t493 : Int) < ((y498.length : Int) : Int) := of_decide_eq_true ‹_›; first | exact h_ | (have e_ := (Kd.R_reads' HO500.out).1; omega) | simpa using h_)
       obtain rfl := k101_openM hM18
       have HP18 := Kd.R_seg HX18.out (t493 : Int) (of_decide_eq_true ‹_›) (by have h_ : (t493 : Int) < ((y498.length : Int) : Int) := of_decide_eq_true ‹_›; first | exact h_ | (have e_ := (Kd.R_reads' HO500.out).1; omega) | simpa using h_) (seg := [.string a1_0, .string a1_1]) (j := 0) hcl18 hcc18 (show 2 ≤ 2 from by decide) (x' := (⟨a1_0, a1_1⟩ : S101)) (k101_mkM _ _ _ (⟨a1_0, a1_1⟩ : S101) ) (fun _ hk => hk)
       have hx18_0 := hcc18 0 _ rfl
       (try simp only [show (k101).sz = 2 from rfl, Nat.mul_one, Nat.add_zero] at hx18_0)
       have hf18_0 := hfr18 0
       (try simp only [show (k101).sz = 2 from rfl, Nat.mul_one, Nat.add_zero] at hf18_0)
       have hx18_1 := hcc18 1 _ rfl
       (try simp only [show (k101).sz = 2 from rfl, Nat.mul_one, Nat.add_zero] at hx18_1)
       have hf18_1 := hfr18 1
       (try simp only [show (k101).sz = 2 from rfl, Nat.mul_one, Nat.add_zero] at hf18_1)
       clear hcl18 hcc18 hfr18 hM18
       go_wp2_with (first | ((with_reducible refine zq26 (t := 101) (p := 28) rfl ?_); refine store_event (t := 101) (p := 28) (v := ?vo_w19) (w1 := ((w12.setCell ⟨go16, (t493 : Int).toNat * 2, none⟩ (.string a1_0)).setCell ⟨go16, (t493 : Int).toNat * 2 + 1, none⟩ (.string a1_1))) ?hg ?ho ?hn ?hr ?_; (case ho => rfl); (case hg => rfl); (case hn => rfl); (case hr => first | (go_simp; done) | (go_simp; rfl)); intro w19 hw; have hg : w12.grownBy w19 (some go16) := (by rw [hw]; exact HP18.2); have hp_ : Kd.R k101 101 w19 w.heap.size (fun k_ => k_ ≠ gb488) (.slice (some ⟨go16, 0, none⟩) y498.length co16) y501 := (by rw [hw, Ny501.out]; exact HP18.1); clear HP18; have n0_ := zq9 (blk_grown (g := gb488) (o := .cells #[.string a1_0, .string a1_1] 101 (0, 0)) (by exact bk BK488) hg (Kd.R_away HO500.out (fun _ hk => hk))); have n1_ := zq9 (hp_); have n2_ := zq9 ((by rw [hw]; exact zq28 (zq28 (HB.out) GB16.out) GB16.out : Below w.heap.size w w19)); clear BK488; clear HO500; clear HB; have BK488 := n0_; have HO500 := n1_; have HB := n2_; clear n0_ n1_ n2_; clear hg hw hp_))
       go_meet
       case rel => exact ⟨_, (y501), (a1_0), (a1_1), H', ⟨by first | omega | exact Nat.le_refl _⟩, ⟨by (with_reducible repeat (first | apply zq10 | apply zq11 | apply zq12)); exact HO500.out⟩, ⟨by refine bp ?_; exact BK488.out⟩, ⟨by exact b1 HB GE488⟩⟩
      ·rw [if_neg c15] at H
       exact absurd H (by simp)
     ·rw [if_neg c14] at H
      exact absurd H (by simp)
    ·replace c13 := Bool.eq_false_iff.mpr c13
     subst c13
     have H1 : ((some (([] : List (S101)) : List (S101))).bind fun y502 => (if 0 ≤ t493 then (if t493 ≤ (l0.length : Int) then ((some (l0.take (t493 : Int).toNat : List (S101))).bind fun y505 => (if y502.length + y505.length < 4398046511104 then ((some (y502 ++ y505 : List (S101))).bind fun y509 => ((some (([(⟨a1_0, a1_1⟩ : S101)] : List (S101)) : List (S101))).bind fun y512 => (if y509.length + y512.length < 4398046511104 then ((some (y509 ++ y512 : List (S101))).bind fun y515 => ((some (l0.drop (t493 : Int).toNat : List (S101))).bind fun y518 => (if y515.length + y518.length < 4398046511104 then (spec_FieldsPut.j0 k l0 false (y515 ++ y518)) else (none)))) else (none)))) else (none))) else (none)) else (none))) = some (r1, r2, r3) := by rw [if_neg (show ¬ (false = true) by decide)] at H; exact H
     clear H
     have H := H1
     clear H1
     obtain ⟨y502, hy502⟩ : ∃ y_ : List (S101), y_ = (([] : List (S101))) := ⟨_, rfl⟩
     replace H : (if 0 ≤ t493 then (if t493 ≤ (l0.length : Int) then ((some (l0.take (t493 : Int).toNat : List (S101))).bind fun y505 => (if y502.length + y505.length < 4398046511104 then ((some (y502 ++ y505 : List (S101))).bind fun y509 => ((some (([(⟨a1_0, a1_1⟩ : S101)] : List (S101)) : List (S101))).bind fun y512 => (if y509.length + y512.length < 4398046511104 then ((some (y509 ++ y512 : List (S101))).bind fun y515 => ((some (l0.drop (t493 : Int).toNat : List (S101))).bind fun y518 => (if y515.length + y518.length < 4398046511104 then (spec_FieldsPut.j0 k l0 false (y515 ++ y518)) else (none)))) else (none)))) else (none))) else (none)) else (none)) = some (r1, r2, r3) := by first | (rw [hy502]; with_reducible exact H) | (have H2_ := (Option.bind_some _ _).symm.trans H; rw [hy502]; with_reducible exact H2_) | (have H2_ := (Option.bind_some _ _).symm.trans H; with_reducible exact H2_) | with_reducible exact H | (rw [hy502]; exact H) | exact H
     have Ny502 := zq9 hy502
     clear hy502
     by_cases c20 : 0 ≤ t493
     ·rw [if_pos c20] at H
      have c20b0 := eq_true c20
      have c20b1 : decide (0 ≤ t493) = true := decide_eq_true c20
      clear c20
      by_cases c21 : t493 ≤ (l0.length : Int)
      ·rw [if_pos c21] at H
       have c21b0 := eq_true c21
       have c21b1 : decide (t493 ≤ (l0.length : Int)) = true := decide_eq_true c21
       clear c21
       obtain ⟨y505, hy505⟩ : ∃ y_ : List (S101), y_ = (l0.take (t493 : Int).toNat) := ⟨_, rfl⟩
       replace H : (if y502.length + y505.length < 4398046511104 then ((some (y502 ++ y505 : List (S101))).bind fun y509 => ((some (([(⟨a1_0, a1_1⟩ : S101)] : List (S101)) : List (S101))).bind fun y512 => (if y509.length + y512.length < 4398046511104 then ((some (y509 ++ y512 : List (S101))).bind fun y515 => ((some (l0.drop (t493 : Int).toNat : List (S101))).bind fun y518 => (if y515.length + y518.length < 4398046511104 then (spec_FieldsPut.j0 k l0 false (y515 ++ y518)) else (none)))) else (none)))) else (none)) = some (r1, r2, r3) := by first | (rw [hy505]; with_reducible exact H) | (have H2_ := (Option.bind_some _ _).symm.trans H; rw [hy505]; with_reducible exact H2_) | (have H2_ := (Option.bind_some _ _).symm.trans H; with_reducible exact H2_) | with_reducible exact H | (rw [hy505]; exact H) | exact H
       have Ny505 := zq9 hy505
       clear hy505
       by_cases c22 : y502.length + y505.length < 4398046511104
       ·rw [if_pos c22] at H
        have LMc22 := zq9 c22
        clear c22
        obtain ⟨y509, hy509⟩ : ∃ y_ : List (S101), y_ = (y502 ++ y505) := ⟨_, rfl⟩
        replace H : ((some (([(⟨a1_0, a1_1⟩ : S101)] : List (S101)) : List (S101))).bind fun y512 => (if y509.length + y512.length < 4398046511104 then ((some (y509 ++ y512 : List (S101))).bind fun y515 => ((some (l0.drop (t493 : Int).toNat : List (S101))).bind fun y518 => (if y515.length + y518.length < 4398046511104 then (spec_FieldsPut.j0 k l0 false (y515 ++ y518)) else (none)))) else (none))) = some (r1, r2, r3) := by first | (rw [hy509]; with_reducible exact H) | (have H2_ := (Option.bind_some _ _).symm.trans H; rw [hy509]; with_reducible exact H2_) | (have H2_ := (Option.bind_some _ _).symm.trans H; with_reducible exact H2_) | with_reducible exact H | (rw [hy509]; exact H) | exact H
        have Ny509 := zq9 hy509
        clear hy509
        obtain ⟨y512, hy512⟩ : ∃ y_ : List (S101), y_ = (([(⟨a1_0, a1_1⟩ : S101)] : List (S101))) := ⟨_, rfl⟩
        replace H : (if y509.length + y512.length < 4398046511104 then ((some (y509 ++ y512 : List (S101))).bind fun y515 => ((some (l0.drop (t493 : Int).toNat : List (S101))).bind fun y518 => (if y515.length + y518.length < 4398046511104 then (spec_FieldsPut.j0 k l0 false (y515 ++ y518)) else (none)))) else (none)) = some (r1, r2, r3) := by first | (rw [hy512]; with_reducible exact H) | (have H2_ := (Option.bind_some _ _).symm.trans H; rw [hy512]; with_reducible exact H2_) | (have H2_ := (Option.bind_some _ _).symm.trans H; with_reducible exact H2_) | with_reducible exact H | (rw [hy512]; exact H) | exact H
        have Ny512 := zq9 hy512
        clear hy512
        by_cases c23 : y509.length + y512.length < 4398046511104
        ·rw [if_pos c23] at H
         have LMc23 := zq9 c23
         clear c23
         obtain ⟨y515, hy515⟩ : ∃ y_ : List (S101), y_ = (y509 ++ y512) := ⟨_, rfl⟩
         replace H : ((some (l0.drop (t493 : Int).toNat : List (S101))).bind fun y518 => (if y515.length + y518.length < 4398046511104 then (spec_FieldsPut.j0 k l0 false (y515 ++ y518)) else (none))) = some (r1, r2, r3) := by first | (rw [hy515]; with_reducible exact H) | (have H2_ := (Option.bind_some _ _).symm.trans H; rw [hy515]; with_reducible exact H2_) | (have H2_ := (Option.bind_some _ _).symm.trans H; with_reducible exact H2_) | with_reducible exact H | (rw [hy515]; exact H) | exact H
         have Ny515 := zq9 hy515
         clear hy515
         have c24b0 := eq_true (of_decide_eq_true ‹_› : 0 ≤ t493)
         have c25b0 := eq_true (of_decide_eq_true ‹_› : t493 ≤ (l0.length : Int))
         obtain ⟨y518, hy518⟩ : ∃ y_ : List (S101), y_ = (l0.drop (t493 : Int).toNat) := ⟨_, rfl⟩
         replace H : (if y515.length + y518.length < 4398046511104 then (spec_FieldsPut.j0 k l0 false (y515 ++ y518)) else (none)) = some (r1, r2, r3) := by first | (rw [hy518]; with_reducible exact H) | (have H2_ := (Option.bind_some _ _).symm.trans H; rw [hy518]; with_reducible exact H2_) | (have H2_ := (Option.bind_some _ _).symm.trans H; with_reducible exact H2_) | with_reducible exact H | (rw [hy518]; exact H) | exact H
         have Ny518 := zq9 hy518
         clear hy518
         by_cases c26 : y515.length + y518.length < 4398046511104
         ·rw [if_pos c26] at H
          have LMc26 := zq9 c26
          clear c26
          obtain ⟨y522, hy522⟩ : ∃ y_ : List (S101), y_ = (y515 ++ y518) := ⟨_, rfl⟩
          replace H : (spec_FieldsPut.j0 k l0 false y522) = some (r1, r2, r3) := by first | (rw [hy522]; with_reducible exact H) | (have H2_ := (Option.bind_some _ _).symm.trans H; rw [hy522]; with_reducible exact H2_) | (have H2_ := (Option.bind_some _ _).symm.trans H; with_reducible exact H2_) | with_reducible exact H | (rw [hy522]; exact H) | exact H
          have Ny522 := zq9 hy522
          clear hy522
          have H' := zq9 H
          clear H
          try go_wp2
          have n0_ := zq9 (zq12 HO500.out)
          have n1_ := zq9 (blk_drew BK488.out)
          have n2_ := zq9 (zq4 HB.out)
          clear HO500
          clear BK488
          clear HB
          have HO500 := n0_
          have BK488 := n1_
          have HB := n2_
          clear n0_ n1_ n2_
          have q28 : (t493 : Int) ≤ ((l0.length : Int) : Int) := of_decide_eq_true ‹_›
          obtain ⟨i028, hi028, _, hsz28, _⟩ := info_parts info101
          have hroom28 : l0.length ≤ c0 := HC0.out
          have hC28 : Kd.C k101 _ A0 l0.length l0 := HR0.out
          have hcut28 := cut_to (P := Try.prog) 30 101 .i64 Try.underlying30 hi028 A0 l0.length c0 t493 (of_decide_eq_true ‹_›) q28 hroom28
          have hr28 := Kd.C_take (m := (t493 : Int).toNat) hC28 (by omega)
          have hy28 : y505.length = (t493 : Int).toNat := (by rw [Ny505.out, zq34]; omega)
          rw [← Ny505.out] at hr28
          rw [← hy28] at hcut28
          have HR508 := zq9 hr28
          have HC508 := zq9 (show y505.length ≤ c0 from by omega)
          clear hr28 hC28 hroom28 hi028 hsz28
          have KY28 := zq9 hy28
          clear hy28
          replace q28 := eq_true q28
          have q29 : (t493 : Int) ≤ ((l0.length : Int) : Int) := of_decide_eq_true ‹_›
          obtain ⟨i029, hi029, _, hsz29, _⟩ := info_parts info101
          have hroom29 : l0.length ≤ c0 := HC0.out
          have hC29 : Kd.C k101 _ A0 l0.length l0 := HR0.out
          have q029 : (0 : Int) ≤ (t493 : Int) := of_decide_eq_true ‹_›
          have hcut29 := cut_from (P := Try.prog) 30 101 .i64 Try.underlying30 hi029 2 hsz29 A0 l0.length c0 t493 q029 q29
          have hr29 := Kd.C_drop (m := (t493 : Int).toNat) (c := c0) hC29 (by omega) hroom29
          obtain ⟨A29, hA29⟩ : ∃ A1, A1 = (if c0 = (t493 : Int).toNat then A0 else (A0 : Option Addr).map (·.add ((t493 : Int).toNat * 2))) := ⟨_, rfl⟩
          obtain ⟨c29, hc29⟩ : ∃ c1, c1 = c0 - (t493 : Int).toNat := ⟨_, rfl⟩
          have hy29 : y518.length = l0.length - (t493 : Int).toNat := (by rw [Ny518.out, zq33] <;> omega)
          rw [show (l0).drop (t493 : Int).toNat = y518 from Ny518.out.symm] at hr29
          replace hr29 : Kd.C k101 _ A29 y518.length y518 := (by rw [hA29]; exact hr29)
          rw [← hy29, ← hA29, ← hc29] at hcut29
          have HR521 := zq9 hr29
          have HC521 := zq9 (show y518.length ≤ c29 from by rw [hy29, hc29]; exact Nat.sub_le_sub_right hroom29 _)
          clear hr29 hC29 hroom29 hi029 hsz29 hc29
          have KY29 := zq9 hy29
          have KA29 := zq9 hA29
          clear hy29 hA29
          replace q29 := eq_true q29
          refine start_ (n := 13) (S := fun w' => w'.cell? ⟨gb488, 0, none⟩ = some (.string a1_0) ∧ w'.cell? ⟨gb488, 1, none⟩ = some (.string a1_1)) (ds := []) #[false, false, false, false, false, false, false, false, false, false, false, false, false] (by kernel_rfl) rfl rfl ⟨bc BK488 0, bc BK488 1⟩ (fun hHeld => ?_); refine with_tabW spec_FieldsPut.tab7 spec_FieldsPut.bits7 (fun HT_ HW_ => ?_)
          generalize w12.drew = w27 at HO500 BK488 HB HR508 HR521 hHeld ⊢
          refine pa HT_ 1 30 (zb 13 2) ?_
          refine pa HT_ 2 31 (zb 13 6) ?_
          refine pa HT_ 3 32 (zb 13 14) ?_
          refine pa HT_ 8 37 (zb 13 270) ?_
          refine pa HT_ 9 38 (zb 13 782) ?_
          refine pa HT_ 10 39 (zb 13 1806) ?_
          refine take_ (i := 5) (N := some 34) (v := ?_) (a' := ?_) (zb 13 1838) rfl rfl (take_ofW HT_.out HW_.out (by kernel_rfl)) (fun _ _ _ h => h) (Or.inl ⟨by rfl, ?_⟩) hHeld ?_ ?_
          rotate_left; ·rintro w' ⟨s0, s1⟩; go_simp; with_reducible rfl
          rotate_left; ·simp only [Act.put, zq0, zq1, zq2, i64_w, i32_w]; rfl
          refine join_ (σ := Value × Value × Value) 3 #[true, true, true, true, true, true, true, false, true, true, true, false, false] (fun s_ => [(29, s_.1), (33, s_.2.1), (35, s_.2.2)]) (fun s_ w' => (w'.cell? ⟨gb488, 0, none⟩ = some (.string a1_0) ∧ w'.cell? ⟨gb488, 1, none⟩ = some (.string a1_1)) ∧ (Kd.R k101 101 w' w.heap.size (fun k_ => some k_ ≠ (s_.2.1 : Value).ownBlock ∧ some k_ ≠ (s_.2.2 : Value).ownBlock ∧ k_ ≠ gb488) v499 y498) ∧ (Kd.R k101 101 w' w.heap.size (fun k_ => some k_ ≠ (v499 : Value).ownBlock ∧ some k_ ≠ (s_.2.2 : Value).ownBlock ∧ k_ ≠ gb488) s_.2.1 y509) ∧ (Kd.R k101 101 w' w.heap.size (fun k_ => some k_ ≠ (v499 : Value).ownBlock ∧ some k_ ≠ (s_.2.1 : Value).ownBlock ∧ k_ ≠ gb488) s_.2.2 y512) ∧ (w'.heap[gb488]? = some (.cells #[.string a1_0, .string a1_1] 101 (0, 0))) ∧ (Below w.heap.size w w')) ?_ ?_
          rotate_left
          ·intro hCont
           refine two_ (i := 0) (j := 6) (Ni := some 29) (Nj := some 35) #[true, true, true, true, false, true, false, false, true, true, true, false, false] #[false, true, true, true, false, true, true, false, true, true, true, false, false] rfl rfl rfl rfl (two_of HT_.out (by kernel_rfl)) (by decide) (by decide) (fun K hK => ?_) (fun K hK => ?_)
           ·skip
            refine Kd.R_lit_step k101 _ 101 ?hg (N := 29) ?hd (xs := ([] : List (S101))) (inner := []) (ok := fun _ => True) (okp := fun _ => True) ?hr ?hp (fun _ hk => hk) trivial (Below.refl _ _) (Nat.le_refl _) (by simp) ?_; (case hd => rfl); (case hg => rfl); (case hr => first | (go_simp; done) | (go_simp; rfl)); (case hp => exact (Reps.none _ _))
            intro v503 w30 ho31 hb hg_ hnew_
            clear hg_ hnew_
            (first | rw [← Ny502.out] at ho31 | (simp only [Int.reduceToNat] at ho31; rw [← Ny502.out] at ho31))
            have n0_ := zq9 (Kd.R_elder' (by exact rz HO500) (Kd.R_base ho31) hb)
            have n1_ := zq9 (Kd.R_lower (Kd.R_newB (Kd.R_new' ho31 (Kd.R_lt (by exact rz HO500))) (g := gb488) (o := .cells #[.string a1_0, .string a1_1] 101 (0, 0)) (by exact bk BK488)) (zq29 (by exact b1 HB GE488)))
            have n2_ := zq9 (zq30 (g := gb488) (o := .cells #[.string a1_0, .string a1_1] 101 (0, 0)) (by exact bk BK488) hb)
            have n3_ := zq9 (zq27 (by exact b1 HB GE488) hb)
            clear HO500
            clear BK488
            clear HB
            have HO500 := n0_
            have HO504 := n1_
            have BK488 := n2_
            have HB := n3_
            clear n0_ n1_ n2_ n3_
            clear hb ho31
            refine hK.out _ _ ⟨bc BK488 0, bc BK488 1⟩ (fun hHeld => ?_)
            clear hK K
            refine norm_ (a' := ?_) ?_ ?_
            rotate_left; ·show Act.put _ (some 29) _ = _; simp only [Act.put, zq0, zq1, zq2, i64_w, i32_w]; rfl
            refine two_ (i := 4) (j := 6) (Ni := some 33) (Nj := some 35) #[true, true, true, true, true, true, false, false, true, true, true, false, false] #[true, true, true, true, false, true, true, false, true, true, true, false, false] rfl rfl rfl rfl (two_of HT_.out (by kernel_rfl)) (by decide) (by decide) (fun K hK => ?_) (fun K hK => ?_)
            ·skip
             refine Kd.R_append_rows_step k101 (w0 := w) w.heap.size (by rfl) (.tmp 29) (.tmp 32) 30 101 (.agg #[(.string ⟨#[]⟩), (.string ⟨#[]⟩)]) 32 rfl Try.underlying30 info101 rfl (by decide) (by omega) v503 y502 y505 _ _ _ (fun k_ => some k_ ≠ (v499 : Value).ownBlock ∧ k_ ≠ gb488) (fun _ => False) rfl rfl ?aO ?aR (fun _ _ h => h) (fun _ h => h.elim) ?aF ?aB ?aS ?aL ?_
             (case aR => exact kc HR508 HB)
             (case aB => exact (by exact b1 HB GE488))
             (case aF => exact (fun k_ hk => ⟨Kd.fresh' (Kd.R_lt (by exact rz HO500)) k_ hk, Kd.freshB (g := gb488) (o := .cells #[.string a1_0, .string a1_1] 101 (0, 0)) (by exact bk BK488) k_ hk⟩))
             (case aO => exact (by (with_reducible repeat (first | apply zq10 | apply zq11 | apply zq12)); exact Kd.R_mono HO504.out (fun _ hk => ⟨hk.1.2, hk.2⟩)))
             (case aS => exact (zq29 (by exact b1 HB GE488)))
             (case aL => have := LMc22.out; omega)
             intro v510 w32 ho hb hg hat
             rw [← Ny509.out] at ho
             have n0_ := zq9 (blk_grown (g := gb488) (o := .cells #[.string a1_0, .string a1_1] 101 (0, 0)) (by exact bk BK488) hg (Kd.R_away HO504.out (fun _ hk => hk.2)))
             have n1_ := zq9 (Kd.R_after (ok := (fun k_ => k_ ≠ gb488)) (by exact rz HO500) hg hat)
             have n2_ := zq9 (hb)
             have n3_ := zq9 (ho)
             clear BK488
             clear HO500
             clear HB
             clear HO504
             have BK488 := n0_
             have HO500 := n1_
             have HB := n2_
             have HO511 := n3_
             clear n0_ n1_ n2_ n3_
             clear ho hb hg hat
             refine hK.out _ _ ⟨bc BK488 0, bc BK488 1⟩ (fun hHeld => ?_)
             clear hK K
             refine norm_ (a' := ?_) ?_ ?_
             rotate_left; ·show Act.put _ (some 33) _ = _; simp only [Act.put, zq0, zq1, zq2, i64_w, i32_w]; rfl
             refine one_ (i := 6) (N := some 35) (zb 13 1919) rfl rfl (one_of HT_.out (by kernel_rfl)) (by decide) (fun K hK => ?_)
             refine Kd.R_lit_step k101 _ 101 ?hg (N := 35) ?hd (xs := ([(⟨a1_0, a1_1⟩ : S101)] : List (S101))) (inner := [.string a1_0, .string a1_1]) (ok := fun _ => True) (okp := fun _ => True) ?hr ?hp (fun _ hk => hk) trivial (Below.refl _ _) (Nat.le_refl _) (by simp) ?_; (case hd => rfl); (case hg => rfl); (case hr => first | (go_simp; done) | (go_simp; rfl)); (case hp => exact (Reps.c2 (show Kd.M k101 _ _ _ (⟨a1_0, a1_1⟩ : S101) [.string a1_0, .string a1_1] from (k101_mkM _ _ _ (⟨a1_0, a1_1⟩ : S101) )) (Reps.none _ _)))
             intro v513 w33 ho34 hb hg_ hnew_
             clear hg_ hnew_
             (first | rw [← Ny512.out] at ho34 | (simp only [Int.reduceToNat] at ho34; rw [← Ny512.out] at ho34))
             have n0_ := zq9 (Kd.R_elder' (by exact rz HO500) (Kd.R_base ho34) hb)
             have n1_ := zq9 (Kd.R_elder' (by exact rz HO511) (Kd.R_base ho34) hb)
             have n2_ := zq9 (Kd.R_lower (Kd.R_newB (Kd.R_new' (Kd.R_new' ho34 (Kd.R_lt (by exact rz HO500))) (Kd.R_lt (by exact rz HO511))) (g := gb488) (o := .cells #[.string a1_0, .string a1_1] 101 (0, 0)) (by exact bk BK488)) (zq29 (by exact b1 HB GE488)))
             have n3_ := zq9 (zq30 (g := gb488) (o := .cells #[.string a1_0, .string a1_1] 101 (0, 0)) (by exact bk BK488) hb)
             have n4_ := zq9 (zq27 (by exact b1 HB GE488) hb)
             clear HO500
             clear HO511
             clear BK488
             clear HB
             have HO500 := n0_
             have HO511 := n1_
             have HO514 := n2_
             have BK488 := n3_
             have HB := n4_
             clear n0_ n1_ n2_ n3_ n4_
             clear hb ho34
             refine hK.out _ _ ⟨bc BK488 0, bc BK488 1⟩ (fun hHeld => ?_)
             clear hK K
             refine norm_ (a' := ?_) ?_ ?_
             rotate_left; ·show Act.put _ (some 35) _ = _; simp only [Act.put, zq0, zq1, zq2, i64_w, i32_w]; rfl
             exact norm_ (by simp only [putAll, Act.put, zq0, zq1, zq2]) (hCont (v503, v510, v513) _ ⟨hHeld, (by (with_reducible repeat (first | apply zq10 | apply zq11 | apply zq12)); exact Kd.R_mono HO500.out (fun _ hk => ⟨hk.1.2, ⟨hk.2, hk.1.1⟩⟩)), (by (with_reducible repeat (first | apply zq10 | apply zq11 | apply zq12)); exact Kd.R_mono HO511.out (fun _ hk => ⟨hk.1.1, ⟨hk.2, hk.1.2⟩⟩)), (by (with_reducible repeat (first | apply zq10 | apply zq11 | apply zq12)); exact Kd.R_mono HO514.out (fun _ hk => ⟨hk.1.1.2, ⟨hk.1.2, hk.2⟩⟩)), (by exact bk BK488), (by exact b1 HB GE488)⟩)
            ·skip
             refine Kd.R_lit_step k101 _ 101 ?hg (N := 35) ?hd (xs := ([(⟨a1_0, a1_1⟩ : S101)] : List (S101))) (inner := [.string a1_0, .string a1_1]) (ok := fun _ => True) (okp := fun _ => True) ?hr ?hp (fun _ hk => hk) trivial (Below.refl _ _) (Nat.le_refl _) (by simp) ?_; (case hd => rfl); (case hg => rfl); (case hr => first | (go_simp; done) | (go_simp; rfl)); (case hp => exact (Reps.c2 (show Kd.M k101 _ _ _ (⟨a1_0, a1_1⟩ : S101) [.string a1_0, .string a1_1] from (k101_mkM _ _ _ (⟨a1_0, a1_1⟩ : S101) )) (Reps.none _ _)))
             intro v513 w32 ho33 hb hg_ hnew_
             clear hg_ hnew_
             (first | rw [← Ny512.out] at ho33 | (simp only [Int.reduceToNat] at ho33; rw [← Ny512.out] at ho33))
             have n0_ := zq9 (Kd.R_elder' (by exact rz HO500) (Kd.R_base ho33) hb)
             have n1_ := zq9 (Kd.R_elder' (by exact rz HO504) (Kd.R_base ho33) hb)
             have n2_ := zq9 (Kd.R_lower (Kd.R_newB (Kd.R_new' (Kd.R_new' ho33 (Kd.R_lt (by exact rz HO500))) (Kd.R_lt (by exact rz HO504))) (g := gb488) (o := .cells #[.string a1_0, .string a1_1] 101 (0, 0)) (by exact bk BK488)) (zq29 (by exact b1 HB GE488)))
             have n3_ := zq9 (zq30 (g := gb488) (o := .cells #[.string a1_0, .string a1_1] 101 (0, 0)) (by exact bk BK488) hb)
             have n4_ := zq9 (zq27 (by exact b1 HB GE488) hb)
             clear HO500
             clear HO504
             clear BK488
             clear HB
             have HO500 := n0_
             have HO504 := n1_
             have HO514 := n2_
             have BK488 := n3_
             have HB := n4_
             clear n0_ n1_ n2_ n3_ n4_
             clear hb ho33
             refine hK.out _ _ ⟨bc BK488 0, bc BK488 1⟩ (fun hHeld => ?_)
             clear hK K
             refine norm_ (a' := ?_) ?_ ?_
             rotate_left; ·show Act.put _ (some 35) _ = _; simp only [Act.put, zq0, zq1, zq2, i64_w, i32_w]; rfl
             refine one_ (i := 4) (N := some 33) (zb 13 1919) rfl rfl (one_of HT_.out (by kernel_rfl)) (by decide) (fun K hK => ?_)
             refine Kd.R_append_rows_step k101 (w0 := w) w.heap.size (by rfl) (.tmp 29) (.tmp 32) 30 101 (.agg #[(.string ⟨#[]⟩), (.string ⟨#[]⟩)]) 32 rfl Try.underlying30 info101 rfl (by decide) (by omega) v503 y502 y505 _ _ _ (fun k_ => some k_ ≠ (v499 : Value).ownBlock ∧ some k_ ≠ (v513 : Value).ownBlock ∧ k_ ≠ gb488) (fun _ => False) rfl rfl ?aO ?aR (fun _ _ h => h) (fun _ h => h.elim) ?aF ?aB ?aS ?aL ?_
             (case aR => exact kc HR508 HB)
             (case aB => exact (by exact b1 HB GE488))
             (case aF => exact (fun k_ hk => ⟨Kd.fresh' (Kd.R_lt (by exact rz HO500)) k_ hk, Kd.fresh' (Kd.R_lt (by exact rz HO514)) k_ hk, Kd.freshB (g := gb488) (o := .cells #[.string a1_0, .string a1_1] 101 (0, 0)) (by exact bk BK488) k_ hk⟩))
             (case aO => exact (by (with_reducible repeat (first | apply zq10 | apply zq11 | apply zq12)); exact Kd.R_mono HO504.out (fun _ hk => ⟨hk.1.1.2, ⟨hk.2, hk.1.2⟩⟩)))
             (case aS => exact (zq29 (by exact b1 HB GE488)))
             (case aL => have := LMc22.out; omega)
             intro v510 w34 ho hb hg hat
             rw [← Ny509.out] at ho
             have n0_ := zq9 (blk_grown (g := gb488) (o := .cells #[.string a1_0, .string a1_1] 101 (0, 0)) (by exact bk BK488) hg (Kd.R_away HO504.out (fun _ hk => hk.1.2)))
             have n1_ := zq9 (Kd.R_after (ok := (fun k_ => some k_ ≠ (v513 : Value).ownBlock ∧ k_ ≠ gb488)) (by (with_reducible repeat (first | apply zq10 | apply zq11 | apply zq12)); exact Kd.R_mono HO500.out (fun _ hk => ⟨⟨hk.2, hk.1.1⟩, hk.1.2⟩)) hg hat)
             have n2_ := zq9 (Kd.R_after (ok := (fun k_ => some k_ ≠ (v499 : Value).ownBlock ∧ k_ ≠ gb488)) (by (with_reducible repeat (first | apply zq10 | apply zq11 | apply zq12)); exact Kd.R_mono HO514.out (fun _ hk => ⟨⟨hk.1.1.2, hk.2⟩, hk.1.2⟩)) hg hat)
             have n3_ := zq9 (hb)
             have n4_ := zq9 (ho)
             clear BK488
             clear HO500
             clear HO514
             clear HB
             clear HO504
             have BK488 := n0_
             have HO500 := n1_
             have HO514 := n2_
             have HB := n3_
             have HO511 := n4_
             clear n0_ n1_ n2_ n3_ n4_
             clear ho hb hg hat
             refine hK.out _ _ ⟨bc BK488 0, bc BK488 1⟩ (fun hHeld => ?_)
             clear hK K
             refine norm_ (a' := ?_) ?_ ?_
             rotate_left; ·show Act.put _ (some 33) _ = _; simp only [Act.put, zq0, zq1, zq2, i64_w, i32_w]; rfl
             exact norm_ (by simp only [putAll, Act.put, zq0, zq1, zq2]) (hCont (v503, v510, v513) _ ⟨hHeld, (by (with_reducible repeat (first | apply zq10 | apply zq11 | apply zq12)); exact Kd.R_mono HO500.out (fun _ hk => ⟨hk.2, ⟨hk.1.1, hk.1.2⟩⟩)), (by exact rz HO511), (by (with_reducible repeat (first | apply zq10 | apply zq11 | apply zq12)); exact Kd.R_mono HO514.out (fun _ hk => ⟨hk.1.1, ⟨hk.2, hk.1.2⟩⟩)), (by exact bk BK488), (by exact b1 HB GE488)⟩)
           ·skip
            refine Kd.R_lit_step k101 _ 101 ?hg (N := 35) ?hd (xs := ([(⟨a1_0, a1_1⟩ : S101)] : List (S101))) (inner := [.string a1_0, .string a1_1]) (ok := fun _ => True) (okp := fun _ => True) ?hr ?hp (fun _ hk => hk) trivial (Below.refl _ _) (Nat.le_refl _) (by simp) ?_; (case hd => rfl); (case hg => rfl); (case hr => first | (go_simp; done) | (go_simp; rfl)); (case hp => exact (Reps.c2 (show Kd.M k101 _ _ _ (⟨a1_0, a1_1⟩ : S101) [.string a1_0, .string a1_1] from (k101_mkM _ _ _ (⟨a1_0, a1_1⟩ : S101) )) (Reps.none _ _)))
            intro v513 w30 ho31 hb hg_ hnew_
            clear hg_ hnew_
            (first | rw [← Ny512.out] at ho31 | (simp only [Int.reduceToNat] at ho31; rw [← Ny512.out] at ho31))
            have n0_ := zq9 (Kd.R_elder' (by exact rz HO500) (Kd.R_base ho31) hb)
            have n1_ := zq9 (Kd.R_lower (Kd.R_newB (Kd.R_new' ho31 (Kd.R_lt (by exact rz HO500))) (g := gb488) (o := .cells #[.string a1_0, .string a1_1] 101 (0, 0)) (by exact bk BK488)) (zq29 (by exact b1 HB GE488)))
            have n2_ := zq9 (zq30 (g := gb488) (o := .cells #[.string a1_0, .string a1_1] 101 (0, 0)) (by exact bk BK488) hb)
            have n3_ := zq9 (zq27 (by exact b1 HB GE488) hb)
            clear HO500
            clear BK488
            clear HB
            have HO500 := n0_
            have HO514 := n1_
            have BK488 := n2_
            have HB := n3_
            clear n0_ n1_ n2_ n3_
            clear hb ho31
            refine hK.out _ _ ⟨bc BK488 0, bc BK488 1⟩ (fun hHeld => ?_)
            clear hK K
            refine norm_ (a' := ?_) ?_ ?_
            rotate_left; ·show Act.put _ (some 35) _ = _; simp only [Act.put, zq0, zq1, zq2, i64_w, i32_w]; rfl
            refine one_ (i := 0) (N := some 29) (zb 13 1903) rfl rfl (one_of HT_.out (by kernel_rfl)) (by decide) (fun K hK => ?_)
            refine Kd.R_lit_step k101 _ 101 ?hg (N := 29) ?hd (xs := ([] : List (S101))) (inner := []) (ok := fun _ => True) (okp := fun _ => True) ?hr ?hp (fun _ hk => hk) trivial (Below.refl _ _) (Nat.le_refl _) (by simp) ?_; (case hd => rfl); (case hg => rfl); (case hr => first | (go_simp; done) | (go_simp; rfl)); (case hp => exact (Reps.none _ _))
            intro v503 w32 ho33 hb hg_ hnew_
            clear hg_ hnew_
            (first | rw [← Ny502.out] at ho33 | (simp only [Int.reduceToNat] at ho33; rw [← Ny502.out] at ho33))
            have n0_ := zq9 (Kd.R_elder' (by exact rz HO500) (Kd.R_base ho33) hb)
            have n1_ := zq9 (Kd.R_elder' (by exact rz HO514) (Kd.R_base ho33) hb)
            have n2_ := zq9 (Kd.R_lower (Kd.R_newB (Kd.R_new' (Kd.R_new' ho33 (Kd.R_lt (by exact rz HO500))) (Kd.R_lt (by exact rz HO514))) (g := gb488) (o := .cells #[.string a1_0, .string a1_1] 101 (0, 0)) (by exact bk BK488)) (zq29 (by exact b1 HB GE488)))
            have n3_ := zq9 (zq30 (g := gb488) (o := .cells #[.string a1_0, .string a1_1] 101 (0, 0)) (by exact bk BK488) hb)
            have n4_ := zq9 (zq27 (by exact b1 HB GE488) hb)
            clear HO500
            clear HO514
            clear BK488
            clear HB
            have HO500 := n0_
            have HO514 := n1_
            have HO504 := n2_
            have BK488 := n3_
            have HB := n4_
            clear n0_ n1_ n2_ n3_ n4_
            clear hb ho33
            refine hK.out _ _ ⟨bc BK488 0, bc BK488 1⟩ (fun hHeld => ?_)
            clear hK K
            refine norm_ (a' := ?_) ?_ ?_
            rotate_left; ·show Act.put _ (some 29) _ = _; simp only [Act.put, zq0, zq1, zq2, i64_w, i32_w]; rfl
            refine one_ (i := 4) (N := some 33) (zb 13 1919) rfl rfl (one_of HT_.out (by kernel_rfl)) (by decide) (fun K hK => ?_)
            refine Kd.R_append_rows_step k101 (w0 := w) w.heap.size (by rfl) (.tmp 29) (.tmp 32) 30 101 (.agg #[(.string ⟨#[]⟩), (.string ⟨#[]⟩)]) 32 rfl Try.underlying30 info101 rfl (by decide) (by omega) v503 y502 y505 _ _ _ (fun k_ => some k_ ≠ (v499 : Value).ownBlock ∧ some k_ ≠ (v513 : Value).ownBlock ∧ k_ ≠ gb488) (fun _ => False) rfl rfl ?aO ?aR (fun _ _ h => h) (fun _ h => h.elim) ?aF ?aB ?aS ?aL ?_
            (case aR => exact kc HR508 HB)
            (case aB => exact (by exact b1 HB GE488))
            (case aF => exact (fun k_ hk => ⟨Kd.fresh' (Kd.R_lt (by exact rz HO500)) k_ hk, Kd.fresh' (Kd.R_lt (by exact rz HO514)) k_ hk, Kd.freshB (g := gb488) (o := .cells #[.string a1_0, .string a1_1] 101 (0, 0)) (by exact bk BK488) k_ hk⟩))
            (case aO => exact (by (with_reducible repeat (first | apply zq10 | apply zq11 | apply zq12)); exact Kd.R_mono HO504.out (fun _ hk => ⟨hk.1.1.2, ⟨hk.1.2, hk.2⟩⟩)))
            (case aS => exact (zq29 (by exact b1 HB GE488)))
            (case aL => have := LMc22.out; omega)
            intro v510 w34 ho hb hg hat
            rw [← Ny509.out] at ho
            have n0_ := zq9 (blk_grown (g := gb488) (o := .cells #[.string a1_0, .string a1_1] 101 (0, 0)) (by exact bk BK488) hg (Kd.R_away HO504.out (fun _ hk => hk.2)))
            have n1_ := zq9 (Kd.R_after (ok := (fun k_ => some k_ ≠ (v513 : Value).ownBlock ∧ k_ ≠ gb488)) (by (with_reducible repeat (first | apply zq10 | apply zq11 | apply zq12)); exact Kd.R_mono HO500.out (fun _ hk => ⟨⟨hk.1.2, hk.1.1⟩, hk.2⟩)) hg hat)
            have n2_ := zq9 (Kd.R_after (ok := (fun k_ => some k_ ≠ (v499 : Value).ownBlock ∧ k_ ≠ gb488)) (by (with_reducible repeat (first | apply zq10 | apply zq11 | apply zq12)); exact Kd.R_mono HO514.out (fun _ hk => ⟨⟨hk.1.1.2, hk.1.2⟩, hk.2⟩)) hg hat)
            have n3_ := zq9 (hb)
            have n4_ := zq9 (ho)
            clear BK488
            clear HO500
            clear HO514
            clear HB
            clear HO504
            have BK488 := n0_
            have HO500 := n1_
            have HO514 := n2_
            have HB := n3_
            have HO511 := n4_
            clear n0_ n1_ n2_ n3_ n4_
            clear ho hb hg hat
            refine hK.out _ _ ⟨bc BK488 0, bc BK488 1⟩ (fun hHeld => ?_)
            clear hK K
            refine norm_ (a' := ?_) ?_ ?_
            rotate_left; ·show Act.put _ (some 33) _ = _; simp only [Act.put, zq0, zq1, zq2, i64_w, i32_w]; rfl
            exact norm_ (by simp only [putAll, Act.put, zq0, zq1, zq2]) (hCont (v503, v510, v513) _ ⟨hHeld, (by (with_reducible repeat (first | apply zq10 | apply zq11 | apply zq12)); exact Kd.R_mono HO500.out (fun _ hk => ⟨hk.2, ⟨hk.1.1, hk.1.2⟩⟩)), (by exact rz HO511), (by (with_reducible repeat (first | apply zq10 | apply zq11 | apply zq12)); exact Kd.R_mono HO514.out (fun _ hk => ⟨hk.1.1, ⟨hk.2, hk.1.2⟩⟩)), (by exact bk BK488), (by exact b1 HB GE488)⟩)
          rintro ⟨v503, v510, v513⟩ w35 ⟨hS_, h0_, h1_, h2_, h3_, h4_⟩
          have n0_ : Aside0 (Kd.R k101 101 w35 w.heap.size (fun k_ => some k_ ≠ (v510 : Value).ownBlock ∧ some k_ ≠ (v513 : Value).ownBlock ∧ k_ ≠ gb488) v499 y498) := ⟨h0_⟩
          have n1_ : Aside0 (Kd.R k101 101 w35 w.heap.size (fun k_ => some k_ ≠ (v499 : Value).ownBlock ∧ some k_ ≠ (v513 : Value).ownBlock ∧ k_ ≠ gb488) v510 y509) := ⟨h1_⟩
          have n2_ : Aside0 (Kd.R k101 101 w35 w.heap.size (fun k_ => some k_ ≠ (v499 : Value).ownBlock ∧ some k_ ≠ (v510 : Value).ownBlock ∧ k_ ≠ gb488) v513 y512) := ⟨h2_⟩
          have n3_ : Aside0 (w35.heap[gb488]? = some (.cells #[.string a1_0, .string a1_1] 101 (0, 0))) := ⟨h3_⟩
          have n4_ : Aside0 (Below w.heap.size w w35) := ⟨h4_⟩
          clear HO500
          clear BK488
          clear HB
          clear h0_ h1_ h2_ h3_ h4_
          have HO500 := n0_
          have HO511 := n1_
          have HO514 := n2_
          have BK488 := n3_
          have HB := n4_
          clear n0_ n1_ n2_ n3_ n4_
          have hHeld : w35.cell? ⟨gb488, 0, none⟩ = some (.string a1_0) ∧ w35.cell? ⟨gb488, 1, none⟩ = some (.string a1_1) := hS_
          obtain ⟨Ao37, co37, eo37⟩ := Kd.R_slice HO514.out
          (first | subst eo37 | (injection eo37 with f1_ f2_ f3_; have f4_ := f1_.symm; have f5_ := f3_.symm; clear f1_ f2_ f3_; subst f4_; subst f5_))
          refine norm_ (a' := ?_) ?_ ?_
          rotate_left; ·simp only [putAll, Act.put, zq0, zq1, zq2]; rfl
          refine one_ (i := 7) (N := some 36) (zb 13 2047) rfl rfl (one_of HT_.out (by kernel_rfl)) (by decide) (fun K hK => ?_)
          refine Kd.R_append_rows_step k101 (w0 := w) w.heap.size (by rfl) (.tmp 33) (.tmp 35) 30 101 (.agg #[(.string ⟨#[]⟩), (.string ⟨#[]⟩)]) 32 rfl Try.underlying30 info101 rfl (by decide) (by omega) v510 y509 y512 _ _ _ (fun k_ => some k_ ≠ (v499 : Value).ownBlock ∧ some k_ ≠ (.slice Ao37 y512.length co37 : Value).ownBlock ∧ k_ ≠ gb488) (fun _ => False) rfl rfl ?aO ?aR (fun _ _ h => h) (fun _ h => h.elim) ?aF ?aB ?aS ?aL ?_
          (case aR => repeat (first | exact (Kd.R_reads' HO514.out).2.2 | (with_reducible refine zq18 ?_ _) | (with_reducible refine zq19 ?_ _) | (with_reducible refine zq20 ?_)))
          (case aB => exact (by exact b1 HB GE488))
          (case aF => exact (fun k_ hk => ⟨Kd.fresh' (Kd.R_lt (by exact rz HO500)) k_ hk, Kd.fresh' (Kd.R_lt (by exact rz HO514)) k_ hk, Kd.freshB (g := gb488) (o := .cells #[.string a1_0, .string a1_1] 101 (0, 0)) (by exact bk BK488) k_ hk⟩))
          (case aO => exact (by exact rz HO511))
          (case aS => exact (zq29 (by exact b1 HB GE488)))
          (case aL => have := LMc23.out; omega)
          intro v516 w36 ho hb hg hat
          rw [← Ny515.out] at ho
          have n0_ := zq9 (blk_grown (g := gb488) (o := .cells #[.string a1_0, .string a1_1] 101 (0, 0)) (by exact bk BK488) hg (Kd.R_away HO511.out (fun _ hk => hk.2.2)))
          have n1_ := zq9 (Kd.R_after (ok := (fun k_ => some k_ ≠ (.slice Ao37 y512.length co37 : Value).ownBlock ∧ k_ ≠ gb488)) (by (with_reducible repeat (first | apply zq10 | apply zq11 | apply zq12)); exact Kd.R_mono HO500.out (fun _ hk => ⟨⟨hk.2.1, hk.2.2⟩, hk.1⟩)) hg hat)
          have n2_ := zq9 (Kd.R_after (ok := (fun k_ => some k_ ≠ (v499 : Value).ownBlock ∧ k_ ≠ gb488)) (by (with_reducible repeat (first | apply zq10 | apply zq11 | apply zq12)); exact Kd.R_mono HO514.out (fun _ hk => ⟨⟨hk.1, hk.2.2⟩, hk.2.1⟩)) hg hat)
          have n3_ := zq9 (hb)
          have n4_ := zq9 (ho)
          clear BK488
          clear HO500
          clear HO514
          clear HB
          clear HO511
          have BK488 := n0_
          have HO500 := n1_
          have HO514 := n2_
          have HB := n3_
          have HO517 := n4_
          clear n0_ n1_ n2_ n3_ n4_
          clear ho hb hg hat
          refine hK.out _ _ ⟨bc BK488 0, bc BK488 1⟩ (fun hHeld => ?_)
          clear hK K
          refine norm_ (a' := ?_) ?_ ?_
          rotate_left; ·show Act.put _ (some 36) _ = _; simp only [Act.put, zq0, zq1, zq2, i64_w, i32_w]; rfl
          refine one_ (i := 11) (N := some 40) (zb 13 4095) rfl rfl (one_of HT_.out (by kernel_rfl)) (by decide) (fun K hK => ?_)
          refine Kd.R_append_rows_step k101 (w0 := w) w.heap.size (by rfl) (.tmp 36) (.tmp 39) 30 101 (.agg #[(.string ⟨#[]⟩), (.string ⟨#[]⟩)]) 32 rfl Try.underlying30 info101 rfl (by decide) (by omega) v516 y515 y518 _ _ _ (fun k_ => some k_ ≠ (v499 : Value).ownBlock ∧ some k_ ≠ (.slice Ao37 y512.length co37 : Value).ownBlock ∧ k_ ≠ gb488) (fun _ => False) rfl rfl ?aO ?aR (fun _ _ h => h) (fun _ h => h.elim) ?aF ?aB ?aS ?aL ?_
          (case aR => exact kc HR521 HB)
          (case aB => exact (by exact b1 HB GE488))
          (case aF => exact (fun k_ hk => ⟨Kd.fresh' (Kd.R_lt (by exact rz HO500)) k_ hk, Kd.fresh' (Kd.R_lt (by exact rz HO514)) k_ hk, Kd.freshB (g := gb488) (o := .cells #[.string a1_0, .string a1_1] 101 (0, 0)) (by exact bk BK488) k_ hk⟩))
          (case aO => exact (by exact rz HO517))
          (case aS => exact (zq29 (by exact b1 HB GE488)))
          (case aL => have := LMc26.out; omega)
          intro v523 w38 ho hb hg hat
          rw [← Ny522.out] at ho
          have n0_ := zq9 (blk_grown (g := gb488) (o := .cells #[.string a1_0, .string a1_1] 101 (0, 0)) (by exact bk BK488) hg (Kd.R_away HO517.out (fun _ hk => hk.2.2)))
          have n1_ := zq9 (Kd.R_after (ok := (fun k_ => some k_ ≠ (.slice Ao37 y512.length co37 : Value).ownBlock ∧ k_ ≠ gb488)) (by exact rz HO500) hg hat)
          have n2_ := zq9 (Kd.R_after (ok := (fun k_ => some k_ ≠ (v499 : Value).ownBlock ∧ k_ ≠ gb488)) (by exact rz HO514) hg hat)
          have n3_ := zq9 (hb)
          have n4_ := zq9 (ho)
          clear BK488
          clear HO500
          clear HO514
          clear HB
          clear HO517
          have BK488 := n0_
          have HO500 := n1_
          have HO514 := n2_
          have HB := n3_
          have HO524 := n4_
          clear n0_ n1_ n2_ n3_ n4_
          clear ho hb hg hat
          refine hK.out _ _ ⟨bc BK488 0, bc BK488 1⟩ (fun hHeld => ?_)
          clear hK K
          refine norm_ (a' := ?_) ?_ ?_
          rotate_left; ·show Act.put _ (some 40) _ = _; simp only [Act.put, zq0, zq1, zq2, i64_w, i32_w]; rfl
          refine pa HT_ 12 9 (zb 13 8191) ?_
          refine done_ (done_of HT_.out (by kernel_rfl)) ?_
          try go_wp2
          go_meet
          case rel => exact ⟨_, (y522), (a1_0), (a1_1), H', ⟨by first | omega | exact Nat.le_refl _⟩, ⟨by (with_reducible repeat (first | apply zq10 | apply zq11 | apply zq12)); exact Kd.R_mono HO524.out (fun _ hk => hk.2.2)⟩, ⟨by refine bp ?_; exact BK488.out⟩, ⟨by exact b1 HB GE488⟩⟩
         ·rw [if_neg c26] at H
          exact absurd H (by simp)
        ·rw [if_neg c23] at H
         exact absurd H (by simp)
       ·rw [if_neg c22] at H
        exact absurd H (by simp)
      ·rw [if_neg c21] at H
       exact absurd H (by simp)
     ·rw [if_neg c20] at H
      exact absurd H (by simp)
   case rest =>
    clear HC7
    try clear c1
    try clear p1
    try clear q1
    try clear hx1
    try clear c2
    try clear p2
    try clear q2
    try clear c4
    try clear c6
    try clear c11
    try clear c12
    try clear c13
    try clear c14
    try clear c14b0
    try clear c15
    try clear c15b0
    try clear c16
    try clear p16
    try clear q16
    try clear hx16
    try clear hf16
    try clear c18
    try clear hx18
    try clear hf18
    try clear c20
    try clear c20b0
    try clear c20b1
    try clear c21
    try clear c21b0
    try clear c21b1
    try clear c22
    try clear c23
    try clear c24
    try clear c24b0
    try clear c25
    try clear c25b0
    try clear c26
    try clear q28
    try clear c29
    try clear q29
    try clear hcz17_0
    try clear hcz17_1
    try clear hcz9_0
    try clear hcz9_1
    try clear hfz17_0
    try clear hfz17_1
    try clear hfz9_0
    try clear hfz9_1
    try clear hx16_0
    try clear hx16_1
    try clear hx18_0
    try clear hx18_1
    try clear p16
    try clear q029
    try clear q16
    try clear q28
    try clear q29
    obtain ⟨kq, x9_6, x489000_6, x489001_6, HA, HJ6, HO_9, BK488, HB⟩ := hcut
    cases kq with
    | zero => exact absurd HA.out (by simp [spec_FieldsPut.j0])
    | succ kj6 =>
     have H := HA.out
     clear HA
     simp only [spec_FieldsPut.j0] at H
     replace H := Option.bind_eq_some_iff.mp H
     obtain ⟨t525, A390, H⟩ := H
     try dsimp only at H
     have A39 := zq9 A390
     clear A390
     obtain ⟨Ao41, co41, eo41⟩ := Kd.R_slice HO_9.out
     subst eo41
     by_cases c40 : t525 = true
     ·subst c40
      have H1 : (some (x9_6, !t494, true)) = some (r1, r2, r3) := by rw [if_pos rfl] at H; exact H
      clear H
      have H := H1
      clear H1
      simp only [Option.some.injEq, Prod.mk.injEq] at H
      obtain ⟨rfl, rfl, rfl⟩ := H
      go_wp2_with (first | ((with_reducible refine zq24 (f := 44) rfl ?_); refine gl (some 42) Try.func44 #[.slice Ao41 x9_6.length co41] ?_; (with_reducible refine (spec_FieldsOk.calls kj6 _ _ x9_6 true _ ?side1 ?side2 A39.out).mono ?_); (case side1 => repeat (first | exact (Kd.R_reads' HO_9.out).2.2 | (with_reducible refine zq18 ?_ _) | (with_reducible refine zq19 ?_ _) | (with_reducible refine zq20 ?_))); (case side2 => exact (Kd.R_reads' HO_9.out).2.1); rintro e w' ⟨rfl, ⟨nd, rfl⟩⟩; refine ⟨_, rfl, ?_⟩))
      go_ret3
      exact ⟨_, by first | rfl | (simp [errW_none, errW_some] <;> rfl) | (simp [*, errW_none, errW_some] <;> rfl), by (with_reducible repeat (first | apply zq10 | apply zq11 | apply zq12)); exact Kd.R_mono HO_9.out (fun _ hk => trivial), by exact b1 HB GE488⟩
     ·replace c40 := Bool.eq_false_iff.mpr c40
      subst c40
      have H1 : ((some (([] : List (S101)) : List (S101))).bind fun y526 => (if y526.length + l0.length < 4398046511104 then (some ((y526 ++ l0), false, false)) else (none))) = some (r1, r2, r3) := by rw [if_neg (show ¬ (false = true) by decide)] at H; exact H
      clear H
      have H := H1
      clear H1
      obtain ⟨y526, hy526⟩ : ∃ y_ : List (S101), y_ = (([] : List (S101))) := ⟨_, rfl⟩
      replace H : (if y526.length + l0.length < 4398046511104 then (some ((y526 ++ l0), false, false)) else (none)) = some (r1, r2, r3) := by first | (rw [hy526]; with_reducible exact H) | (have H2_ := (Option.bind_some _ _).symm.trans H; rw [hy526]; with_reducible exact H2_) | (have H2_ := (Option.bind_some _ _).symm.trans H; with_reducible exact H2_) | with_reducible exact H | (rw [hy526]; exact H) | exact H
      have Ny526 := zq9 hy526
      clear hy526
      by_cases c42 : y526.length + l0.length < 4398046511104
      ·rw [if_pos c42] at H
       have LMc42 := zq9 c42
       clear c42
       obtain ⟨y529, hy529⟩ : ∃ y_ : List (S101), y_ = (y526 ++ l0) := ⟨_, rfl⟩
       replace H : (some (y529, false, false)) = some (r1, r2, r3) := by first | (rw [hy529]; with_reducible exact H) | (have H2_ := (Option.bind_some _ _).symm.trans H; rw [hy529]; with_reducible exact H2_) | (have H2_ := (Option.bind_some _ _).symm.trans H; with_reducible exact H2_) | with_reducible exact H | (rw [hy529]; exact H) | exact H
       have Ny529 := zq9 hy529
       clear hy529
       simp only [Option.some.injEq, Prod.mk.injEq] at H
       obtain ⟨rfl, rfl, rfl⟩ := H
       go_wp2_with (first | ((with_reducible refine zq24 (f := 44) rfl ?_); refine gl (some 42) Try.func44 #[.slice Ao41 x9_6.length co41] ?_; (with_reducible refine (spec_FieldsOk.calls kj6 _ _ x9_6 false _ ?side1 ?side2 A39.out).mono ?_); (case side1 => repeat (first | exact (Kd.R_reads' HO_9.out).2.2 | (with_reducible refine zq18 ?_ _) | (with_reducible refine zq19 ?_ _) | (with_reducible refine zq20 ?_))); (case side2 => exact (Kd.R_reads' HO_9.out).2.1); rintro e w' ⟨rfl, ⟨nd, rfl⟩⟩; refine ⟨_, rfl, ?_⟩) | ((with_reducible refine zq25 (N := 44) rfl ?_); refine Kd.R_lit k101 _ 101 ?hg (N := 44) ?hd (xs := ([] : List (S101))) (inner := []) (ok := fun _ => True) (okp := fun _ => True) ?hr ?hp (fun _ hk => hk) trivial (Below.refl _ _) (Nat.le_refl _) (by simp) ?_; (case hd => rfl); (case hg => rfl); (case hr => first | (go_simp; done) | (go_simp; rfl)); (case hp => exact (Reps.none _ _)); intro v527 w44 ho45 hb hg_ hnew_; clear hg_ hnew_; (first | rw [← Ny526.out] at ho45 | (simp only [Int.reduceToNat] at ho45; rw [← Ny526.out] at ho45)); have n0_ := zq9 (Kd.R_elder' (by exact rz HO_9) (Kd.R_base ho45) hb); have n1_ := zq9 (Kd.R_lower (Kd.R_newB (Kd.R_new' ho45 (Kd.R_lt (by exact rz HO_9))) (g := gb488) (o := .cells #[.string x489000_6, .string x489001_6] 101 (0, 0)) (by exact bk BK488)) (zq29 (by exact b1 HB GE488))); have n2_ := zq9 (zq30 (g := gb488) (o := .cells #[.string x489000_6, .string x489001_6] 101 (0, 0)) (by exact bk BK488) hb); have n3_ := zq9 (zq27 (by exact b1 HB GE488) hb); clear HO_9; clear BK488; clear HB; have HO_9 := n0_; have HO528 := n1_; have BK488 := n2_; have HB := n3_; clear n0_ n1_ n2_ n3_; clear hb ho45) | ((with_reducible refine gate_builtin (b := .append) (xs := #[.tmp 44, .tmp 45]) rfl ?_); at_builtin; refine Kd.R_append_rows k101 (w0 := w) w.heap.size rfl (.tmp 44) (.tmp 45) 30 101 (.agg #[(.string ⟨#[]⟩), (.string ⟨#[]⟩)]) 32 rfl Try.underlying30 info101 rfl (by decide) (by omega) v527 y526 l0 _ _ _ (fun k_ => some k_ ≠ (.slice Ao41 x9_6.length co41 : Value).ownBlock ∧ k_ ≠ gb488) (fun _ => False) rfl rfl ?aO ?aR (fun _ _ h => h) (fun _ h => h.elim) ?aF ?aB ?aS ?aL ?_; (case aR => exact kc HR0 HB); (case aB => exact (by exact b1 HB GE488)); (case aF => exact (fun k_ hk => ⟨Kd.fresh' (Kd.R_lt (by exact rz HO_9)) k_ hk, Kd.freshB (g := gb488) (o := .cells #[.string x489000_6, .string x489001_6] 101 (0, 0)) (by exact bk BK488) k_ hk⟩)); (case aO => exact (by (with_reducible repeat (first | apply zq10 | apply zq11 | apply zq12)); exact Kd.R_mono HO528.out (fun _ hk => ⟨hk.1.2, hk.2⟩))); (case aS => exact (zq29 (by exact b1 HB GE488))); (case aL => have := LMc42.out; omega); intro v530 w46 ho hb hg hat; rw [← Ny529.out] at ho; have n0_ := zq9 (Kd.R_after (ok := (fun k_ => k_ ≠ gb488)) (by exact rz HO_9) hg hat); have n1_ := zq9 (blk_grown (g := gb488) (o := .cells #[.string x489000_6, .string x489001_6] 101 (0, 0)) (by exact bk BK488) hg (Kd.R_away HO528.out (fun _ hk => hk.2))); have n2_ := zq9 (hb); have n3_ := zq9 (ho); clear HO_9; clear BK488; clear HB; clear HO528; have HO_9 := n0_; have BK488 := n1_; have HB := n2_; have HO531 := n3_; clear n0_ n1_ n2_ n3_; clear ho hb hg hat))
       go_ret3
       exact ⟨_, by first | rfl | (simp [errW_none, errW_some] <;> rfl) | (simp [*, errW_none, errW_some] <;> rfl), by (with_reducible repeat (first | apply zq10 | apply zq11 | apply zq12)); exact Kd.R_mono HO531.out (fun _ hk => trivial), by exact b1 HB GE488⟩
      ·rw [if_neg c42] at H
       exact absurd H (by simp)
  ·rw [if_neg c6] at H
   exact absurd H (by simp)
 ·replace c4 := Bool.eq_false_iff.mpr c4
  subst c4
  have H1 : (some ((([] : List (S101))), false, false)) = some (r1, r2, r3) := by rw [if_neg (show ¬ (false = true) by decide)] at H; exact H
  clear H
  have H := H1
  clear H1
  obtain ⟨y490, hy490⟩ : ∃ y_ : List (S101), y_ = (([] : List (S101))) := ⟨_, rfl⟩
  replace H : (some (y490, false, false)) = some (r1, r2, r3) := by first | (rw [hy490]; with_reducible exact H) | (have H2_ := (Option.bind_some _ _).symm.trans H; rw [hy490]; with_reducible exact H2_) | (have H2_ := (Option.bind_some _ _).symm.trans H; with_reducible exact H2_) | with_reducible exact H | (rw [hy490]; exact H) | exact H
  have Ny490 := zq9 hy490
  clear hy490
  simp only [Option.some.injEq, Prod.mk.injEq] at H
  obtain ⟨rfl, rfl, rfl⟩ := H
  go_enter Try.func115, Try.ntmps115
  go_wp2_with (first | ((with_reducible refine zq25 (N := 3) rfl ?_); refine bx 3 #[.string a1_0, .string a1_1] 101 ?_; intro gb488 hg w47 hbox hb; have n0_ := zq9 (zq27 (by exact bl HB) hb); have n1_ := zq9 (hbox); have n2_ := zq9 ((by rw [hg]; exact (zq29 (by exact bl HB)) : w.heap.size ≤ gb488)); have n3_ := n2_; clear HB; have HB := n0_; have BK488 := n1_; have GW488 := n2_; have GE488 := n3_; clear n0_ n1_ n2_ n3_; clear hb hbox hg) | ((with_reducible refine zq24 (f := 44) rfl ?_); refine gl (some 11) Try.func44 #[.slice A0 l0.length c0] ?_; (with_reducible refine (spec_FieldsOk.calls k _ _ l0 false _ ?side1 ?side2 A3.out).mono ?_); (case side1 => exact kc HR0 HB); (case side2 => exact HC0.out); rintro e w' ⟨rfl, ⟨nd, rfl⟩⟩; refine ⟨_, rfl, ?_⟩) | ((with_reducible refine zq25 (N := 13) rfl ?_); refine Kd.R_lit k101 _ 101 ?hg (N := 13) ?hd (xs := ([] : List (S101))) (inner := []) (ok := fun _ => True) (okp := fun _ => True) ?hr ?hp (fun _ hk => hk) trivial (Below.refl _ _) (Nat.le_refl _) (by simp) ?_; (case hd => rfl); (case hg => rfl); (case hr => first | (go_simp; done) | (go_simp; rfl)); (case hp => exact (Reps.none _ _)); intro v491 w48 ho49 hb hg_ hnew_; clear hg_ hnew_; (first | rw [← Ny490.out] at ho49 | (simp only [Int.reduceToNat] at ho49; rw [← Ny490.out] at ho49)); have n0_ := zq9 (Kd.R_lower (Kd.R_newB ho49 (g := gb488) (o := .cells #[.string a1_0, .string a1_1] 101 (0, 0)) (by exact bk BK488)) (zq29 (by exact b1 HB GE488))); have n1_ := zq9 (zq30 (g := gb488) (o := .cells #[.string a1_0, .string a1_1] 101 (0, 0)) (by exact bk BK488) hb); have n2_ := zq9 (zq27 (by exact b1 HB GE488) hb); clear BK488; clear HB; have HO492 := n0_; have BK488 := n1_; have HB := n2_; clear n0_ n1_ n2_; clear hb ho49))
  go_ret3
  exact ⟨_, by first | rfl | (simp [errW_none, errW_some] <;> rfl) | (simp [*, errW_none, errW_some] <;> rfl), by (with_reducible repeat (first | apply zq10 | apply zq11 | apply zq12)); exact Kd.R_mono HO492.out (fun _ hk => trivial), by exact b1 HB GE488⟩
set_option maxHeartbeats 8000000 in
set_option maxRecDepth 100000 in
theorem spec_l11Fields.calls (k : Nat) (g : Nat) (s0_0 : List Int) (s0_1 : Int) (r1 : List (S101)) (r2 : Int) (w0 w : World) (hI : IsS118 w0 w g s0_0 s0_1) (hB : Below w0.heap.size w0 w) (h : spec_l11Fields.f k s0_0 s0_1 = some (r1, r2)) :
    Calls Try.prog 114 #[.pointer (some ⟨g, 0, none⟩)] w fun e w' => ∃ v0_ : Value, e = .returned (v0_) ∧ Kd.R k101 101 w' w.heap.size (fun _ => True) v0_ r1 ∧ IsS118 w0 w' g s0_0 r2 ∧ Below w0.heap.size w0 w' ∧ KeepBut w w' g none := by
  have hu101 := Try.underlying101
  have HI0 := zq9 hI
  have HK := zq9 (KeepBut.refl w g none)
  have HL := zq9 hB.size
  clear hI
  have HW0 := zq9 hB.size
  have HB := zq9 hB
  clear hB
  have H : ((spec_l1Rd_pick.f k s0_0 s0_1 5).bind fun bt535 => (spec_l11Fields.l0 k (([] : List (S101))) bt535.1 s0_0 bt535.2)) = some (r1, r2) := h
  clear h
  obtain ⟨y532, hy532⟩ : ∃ y_ : List (S101), y_ = (([] : List (S101))) := ⟨_, rfl⟩
  replace H : ((spec_l1Rd_pick.f k s0_0 s0_1 5).bind fun bt535 => (spec_l11Fields.l0 k y532 bt535.1 s0_0 bt535.2)) = some (r1, r2) := by first | (rw [hy532]; with_reducible exact H) | (have H2_ := (Option.bind_some _ _).symm.trans H; rw [hy532]; with_reducible exact H2_) | (have H2_ := (Option.bind_some _ _).symm.trans H; with_reducible exact H2_) | with_reducible exact H | (rw [hy532]; exact H) | exact H
  have Ny532 := zq9 hy532
  clear hy532
  replace H := Option.bind_eq_some_iff.mp H
  obtain ⟨⟨t535, t536⟩, A20, H⟩ := H
  try dsimp only at H
  have A2 := zq9 A20
  clear A20
  have H' := zq9 H
  clear H
  go_enter Try.func114, Try.ntmps114
  go_wp2_with (first | ((with_reducible refine zq25 (N := 5) rfl ?_); refine Kd.R_lit k101 _ 101 ?hg (N := 5) ?hd (xs := ([] : List (S101))) (inner := []) (ok := fun _ => True) (okp := fun _ => True) ?hr ?hp (fun _ hk => hk) trivial (Below.refl _ _) (Nat.le_refl _) (by simp) ?_; (case hd => rfl); (case hg => rfl); (case hr => first | (go_simp; done) | (go_simp; rfl)); (case hp => exact (Reps.none _ _)); intro v533 w3 ho4 hb hg_ hnew_; clear hg_ hnew_; (first | rw [← Ny532.out] at ho4 | (simp only [Int.reduceToNat] at ho4; rw [← Ny532.out] at ho4)); have n0_ := zq9 (Kd.R_lower ho4 (keep_size (w := w) (g := g) (row := none) (by exact kz HK))); have n1_ := zq9 (IsS118.below (by exact iz118 HI0) hb); have n2_ := zq9 (KeepBut.trans (by exact kz HK) (KeepBut.of_below hb g none) (.inl rfl)); have n3_ := zq9 (zq27 (by exact b1 HB (zq9 (IsS118.ge HI0.out))) hb); clear HI0; clear HK; clear HB; have HO534 := n0_; have HI0 := n1_; have HK := n2_; have HB := n3_; clear n0_ n1_ n2_ n3_; clear hb ho4) | ((with_reducible refine zq24 (f := 91) rfl ?_); refine gl (some 7) Try.func91 #[.pointer (some ⟨g, 0, none⟩), .int .i64 5] ?_; (with_reducible refine (spec_l1Rd_pick.calls k g s0_0 s0_1 5 t535 t536 w0 _ ?side1 ?side2 A2.out).mono ?_); (case side1 => exact iz118 HI0); (case side2 => exact b1 HB (zq9 (IsS118.ge HI0.out))); rintro e w5 ⟨rfl, hi, hb, hk⟩; refine ⟨_, rfl, ?_⟩; have n0_ := zq9 (Kd.R_mono (Kd.R_keep (IsS118.apart (show IsS118 w0 _ g s0_0 s0_1 from by exact iz118 HI0) (by exact rz HO534) (by decide)) hk (fun _ h => h.2)) (fun _ h => h.1)); have n1_ := zq9 (KeepBut.trans (by exact kz HK) hk (.inl rfl)); have n2_ := zq9 (hb); have n3_ := zq9 (hi); clear HO534; clear HK; clear HB; clear HI0; have HO534 := n0_; have HK := n1_; have HB := n2_; have HI0 := n3_; clear n0_ n1_ n2_ n3_; (try clear hb); (try clear hb2); (try clear hk); (try clear hi)))
  go_loopg [3, 4] k (fun kq v3 v4 w' => ∃ (x3_1 : List (S101)) (x4_1 : Int) (x1001_1 : Int), v4 = .int .i64 x4_1 ∧ Aside0 (spec_l11Fields.l0 kq x3_1 x4_1 s0_0 x1001_1 = some (r1, r2)) ∧ Aside0 (kq ≤ k) ∧ Aside0 (Kd.R k101 101 w' w.heap.size (fun _ => True) v3 x3_1) ∧ Aside0 (IsS118 w0 w' g s0_0 x1001_1) ∧ Aside0 (KeepBut w w' g none) ∧ Aside0 (Below w0.heap.size w0 w'))
  case atStart => exact ⟨(y532), (t535), (t536), (by first | rfl | (simp; done) | (simp [*]; done)), H', ⟨Nat.le_refl _⟩, ⟨by (with_reducible repeat (first | apply zq10 | apply zq11 | apply zq12)); exact HO534.out⟩, ⟨by exact iz118 HI0⟩, ⟨by exact kz HK⟩, ⟨by exact b1 HB (zq9 (IsS118.ge HI0.out))⟩⟩
  case round =>
    clear H'
    try clear c1
    try clear p2
    obtain ⟨x3_1, x4_1, x1001_1, rfl, HA, HK1, HO_3, HI0, HK, HB⟩ := hrel
    cases gk with
    | zero => exact absurd HA.out (by simp [spec_l11Fields.l0])
    | succ k1 =>
      have H := HA.out
      clear HA
      simp only [spec_l11Fields.l0] at H
      by_cases c6 : x4_1 > 0
      · rw [if_pos c6] at H
        have c6b0 : decide (0 < x4_1) = true := decide_eq_true c6
        clear c6
        replace H := Option.bind_eq_some_iff.mp H
        obtain ⟨⟨t537, t538⟩, A70, H⟩ := H
        try dsimp only at H
        have A7 := zq9 A70
        clear A70
        replace H := Option.bind_eq_some_iff.mp H
        obtain ⟨⟨t539, t540⟩, A80, H⟩ := H
        try dsimp only at H
        have A8 := zq9 A80
        clear A80
        replace H := Option.bind_eq_some_iff.mp H
        obtain ⟨⟨t541, t544, t545⟩, A90, H⟩ := H
        try dsimp only at H
        have A9 := zq9 A90
        clear A90
        have H' := zq9 H
        clear H
        go_wp2_with (first | ((with_reducible refine zq24 (f := 93) rfl ?_); refine gl (some 15) Try.func93 #[.pointer (some ⟨g, 0, none⟩)] ?_; (with_reducible refine (spec_l11Text.calls k1 g s0_0 x1001_1 t537 t538 w0 _ ?side1 ?side2 A7.out).mono ?_); (case side1 => exact iz118 HI0); (case side2 => exact b1 HB (zq9 (IsS118.ge HI0.out))); rintro e w10 ⟨rfl, hi, hb, hk⟩; refine ⟨_, rfl, ?_⟩; have n0_ := zq9 (Kd.R_mono (Kd.R_keep (IsS118.apart (show IsS118 w0 _ g s0_0 x1001_1 from by exact iz118 HI0) (by exact rz HO_3) (by decide)) hk (fun _ h => h.2)) (fun _ h => h.1)); have n1_ := zq9 (KeepBut.trans (by exact kz HK) hk (.inl rfl)); have n2_ := zq9 (hb); have n3_ := zq9 (hi); clear HO_3; clear HK; clear HB; clear HI0; have HO_3 := n0_; have HK := n1_; have HB := n2_; have HI0 := n3_; clear n0_ n1_ n2_ n3_; (try clear hb); (try clear hb2); (try clear hk); (try clear hi)) | ((with_reducible refine zq24 (f := 93) rfl ?_); refine gl (some 17) Try.func93 #[.pointer (some ⟨g, 0, none⟩)] ?_; (with_reducible refine (spec_l11Text.calls k1 g s0_0 t538 t539 t540 w0 _ ?side1 ?side2 A8.out).mono ?_); (case side1 => exact iz118 HI0); (case side2 => exact b1 HB (zq9 (IsS118.ge HI0.out))); rintro e w11 ⟨rfl, hi, hb, hk⟩; refine ⟨_, rfl, ?_⟩; have n0_ := zq9 (Kd.R_mono (Kd.R_keep (IsS118.apart (show IsS118 w0 _ g s0_0 t538 from by exact iz118 HI0) (by exact rz HO_3) (by decide)) hk (fun _ h => h.2)) (fun _ h => h.1)); have n1_ := zq9 (KeepBut.trans (by exact kz HK) hk (.inl rfl)); have n2_ := zq9 (hb); have n3_ := zq9 (hi); clear HO_3; clear HK; clear HB; clear HI0; have HO_3 := n0_; have HK := n1_; have HB := n2_; have HI0 := n3_; clear n0_ n1_ n2_ n3_; (try clear hb); (try clear hb2); (try clear hk); (try clear hi); obtain ⟨Ao12, co12, eo12⟩ := Kd.R_slice HO_3.out; subst eo12) | ((with_reducible refine zq24 (f := 115) rfl ?_); refine gl (some 19) Try.func115 #[.slice Ao12 x3_1.length co12, .agg #[.string t537, .string t539]] ?_; (with_reducible refine (spec_FieldsPut.calls k1 _ _ x3_1 t537 t539 t541 t544 t545 _ ?side1 ?side2 A9.out).mono ?_); (case side1 => repeat (first | exact (Kd.R_reads' HO_3.out).2.2 | (with_reducible refine zq18 ?_ _) | (with_reducible refine zq19 ?_ _) | (with_reducible refine zq20 ?_))); (case side2 => exact (Kd.R_reads' HO_3.out).2.1); rintro e w13 ⟨v542, rfl, ho0, hb⟩; refine ⟨_, rfl, ?_⟩; have n0_ := zq9 (Kd.R_elder' (by exact rz HO_3) (Kd.R_base ho0) hb); have n1_ := zq9 (Kd.R_lower (Kd.R_new' ho0 (Kd.R_lt (by exact rz HO_3))) (keep_size (w := w) (g := g) (row := none) (by exact kz HK))); have n2_ := zq9 (IsS118.below (by exact iz118 HI0) hb); have n3_ := zq9 (KeepBut.trans (by exact kz HK) (KeepBut.of_below hb g none) (.inl rfl)); have n4_ := zq9 (zq27 (by exact b1 HB (zq9 (IsS118.ge HI0.out))) hb); clear HO_3; clear HI0; clear HK; clear HB; have HO_3 := n0_; have HO543 := n1_; have HI0 := n2_; have HK := n3_; have HB := n4_; clear n0_ n1_ n2_ n3_ n4_; (try clear hb); (try clear hb2); (try clear hk); (try clear hi); (try clear ho0)))
        go_roundg k1
        case measure => have := HK1.out; omega
        case rel => exact ⟨(t541), (wrap64 (x4_1 - 1)), (t540), (by first | rfl | (simp; done) | (simp [*]; done)), H', ⟨by have := HK1.out; omega⟩, ⟨by (with_reducible repeat (first | apply zq10 | apply zq11 | apply zq12)); exact Kd.R_mono HO543.out (fun _ hk => trivial)⟩, ⟨by exact iz118 HI0⟩, ⟨by exact kz HK⟩, ⟨by exact b1 HB (zq9 (IsS118.ge HI0.out))⟩⟩
      · rw [if_neg c6] at H
        have c6b0 : decide (0 < x4_1) = false := decide_eq_false c6
        clear c6
        simp only [Option.some.injEq, Prod.mk.injEq] at H
        obtain ⟨rfl, rfl⟩ := H
        go_wp2
        go_ret
        exact ⟨_, by first | rfl | (simp [errW_none, errW_some] <;> rfl) | (simp [*, errW_none, errW_some] <;> rfl), by (with_reducible repeat (first | apply zq10 | apply zq11 | apply zq12)); exact HO_3.out, by exact iz118 HI0, by exact b1 HB (zq9 (IsS118.ge HI0.out)), by exact kz HK⟩
set_option maxHeartbeats 8000000 in
set_option maxRecDepth 100000 in
theorem spec_l11AnyFields.calls (k : Nat) (g : Nat) (s0_0 : List Int) (s0_1 : Int) (r1 : List (S101)) (r2 : Int) (w0 w : World) (hI : IsS118 w0 w g s0_0 s0_1) (hB : Below w0.heap.size w0 w) (h : spec_l11AnyFields.f k s0_0 s0_1 = some (r1, r2)) :
  Calls Try.prog 97 #[.pointer (some ⟨g, 0, none⟩)] w fun e w' => ∃ v0_ : Value, e = .returned (v0_) ∧ Kd.R k101 101 w' w.heap.size (fun _ => True) v0_ r1 ∧ IsS118 w0 w' g s0_0 r2 ∧ Below w0.heap.size w0 w' ∧ KeepBut w w' g none := by
 have hu101 := Try.underlying101
 have HI0 := zq9 hI
 have HK := zq9 (KeepBut.refl w g none)
 have HL := zq9 hB.size
 clear hI
 have HW0 := zq9 hB.size
 have HB := zq9 hB
 clear hB
 have H : ((spec_l11Fields.f k s0_0 s0_1).bind fun bt546 => ((spec_l1Rd_pick.f k s0_0 bt546.2 12).bind fun bt550 => (if bt550.1 = 0 then ((spec_l11Text.f k s0_0 bt550.2).bind fun bt552 => (if bt546.1.length < 4398046511104 then (some ((bt546.1 ++ [(⟨bt552.1, (⟨#[]⟩ : ByteArray)⟩ : S101)]), bt552.2)) else (none))) else (if bt550.1 = 1 then (spec_l11AnyFields.l0 k bt546.1 10 s0_0 bt550.2) else (some (bt546.1, bt550.2)))))) = some (r1, r2) := h
 clear h
 replace H := Option.bind_eq_some_iff.mp H
 obtain ⟨⟨t546, t549⟩, A20, H⟩ := H
 try dsimp only at H
 have A2 := zq9 A20
 clear A20
 replace H := Option.bind_eq_some_iff.mp H
 obtain ⟨⟨t550, t551⟩, A30, H⟩ := H
 try dsimp only at H
 have A3 := zq9 A30
 clear A30
 go_enter Try.func97, Try.ntmps97
 by_cases c4 : t550 = 0
 ·rw [if_pos c4] at H
  have c4b0 : (t550 == 0) = true := beq_iff_eq.mpr c4
  have c4b1 : (t550 != 0) = false := bne_eq_false_iff_eq.mpr c4
  clear c4
  replace H := Option.bind_eq_some_iff.mp H
  obtain ⟨⟨t552, t553⟩, A50, H⟩ := H
  try dsimp only at H
  have A5 := zq9 A50
  clear A50
  by_cases c6 : t546.length < 4398046511104
  ·rw [if_pos c6] at H
   have LMc6 := zq9 c6
   clear c6
   obtain ⟨y554, hy554⟩ : ∃ y_ : List (S101), y_ = (t546 ++ [(⟨t552, (⟨#[]⟩ : ByteArray)⟩ : S101)]) := ⟨_, rfl⟩
   replace H : (some (y554, t553)) = some (r1, r2) := by first | (rw [hy554]; with_reducible exact H) | (have H2_ := (Option.bind_some _ _).symm.trans H; rw [hy554]; with_reducible exact H2_) | (have H2_ := (Option.bind_some _ _).symm.trans H; with_reducible exact H2_) | with_reducible exact H | (rw [hy554]; exact H) | exact H
   have Ny554 := zq9 hy554
   clear hy554
   simp only [Option.some.injEq, Prod.mk.injEq] at H
   obtain ⟨rfl, rfl⟩ := H
   go_wp2_with (first | ((with_reducible refine zq24 (f := 114) rfl ?_); refine gl (some 6) Try.func114 #[.pointer (some ⟨g, 0, none⟩)] ?_; (with_reducible refine (spec_l11Fields.calls k g s0_0 s0_1 t546 t549 w0 _ ?side1 ?side2 A2.out).mono ?_); (case side1 => exact iz118 HI0); (case side2 => exact b1 HB (zq9 (IsS118.ge HI0.out))); rintro e w7 ⟨v547, rfl, ho0, hi, hb, hk⟩; refine ⟨_, rfl, ?_⟩; have n0_ := zq9 (Kd.R_lower ho0 (keep_size (w := w) (g := g) (row := none) (by exact kz HK))); have n1_ := zq9 (KeepBut.trans (by exact kz HK) hk (.inl rfl)); have n2_ := zq9 (hb); have n3_ := zq9 (hi); clear HK; clear HB; clear HI0; have HO548 := n0_; have HK := n1_; have HB := n2_; have HI0 := n3_; clear n0_ n1_ n2_ n3_; (try clear hb); (try clear hb2); (try clear hk); (try clear hi); (try clear ho0)) | ((with_reducible refine zq24 (f := 91) rfl ?_); refine gl (some 8) Try.func91 #[.pointer (some ⟨g, 0, none⟩), .int .i64 12] ?_; (with_reducible refine (spec_l1Rd_pick.calls k g s0_0 t549 12 t550 t551 w0 _ ?side1 ?side2 A3.out).mono ?_); (case side1 => exact iz118 HI0); (case side2 => exact b1 HB (zq9 (IsS118.ge HI0.out))); rintro e w8 ⟨rfl, hi, hb, hk⟩; refine ⟨_, rfl, ?_⟩; have n0_ := zq9 (Kd.R_mono (Kd.R_keep (IsS118.apart (show IsS118 w0 _ g s0_0 t549 from by exact iz118 HI0) (by exact rz HO548) (by decide)) hk (fun _ h => h.2)) (fun _ h => h.1)); have n1_ := zq9 (KeepBut.trans (by exact kz HK) hk (.inl rfl)); have n2_ := zq9 (hb); have n3_ := zq9 (hi); clear HO548; clear HK; clear HB; clear HI0; have HO548 := n0_; have HK := n1_; have HB := n2_; have HI0 := n3_; clear n0_ n1_ n2_ n3_; (try clear hb); (try clear hb2); (try clear hk); (try clear hi)) | ((with_reducible refine zq24 (f := 93) rfl ?_); refine gl (some 13) Try.func93 #[.pointer (some ⟨g, 0, none⟩)] ?_; (with_reducible refine (spec_l11Text.calls k g s0_0 t551 t552 t553 w0 _ ?side1 ?side2 A5.out).mono ?_); (case side1 => exact iz118 HI0); (case side2 => exact b1 HB (zq9 (IsS118.ge HI0.out))); rintro e w9 ⟨rfl, hi, hb, hk⟩; refine ⟨_, rfl, ?_⟩; have n0_ := zq9 (Kd.R_mono (Kd.R_keep (IsS118.apart (show IsS118 w0 _ g s0_0 t551 from by exact iz118 HI0) (by exact rz HO548) (by decide)) hk (fun _ h => h.2)) (fun _ h => h.1)); have n1_ := zq9 (KeepBut.trans (by exact kz HK) hk (.inl rfl)); have n2_ := zq9 (hb); have n3_ := zq9 (hi); clear HO548; clear HK; clear HB; clear HI0; have HO548 := n0_; have HK := n1_; have HB := n2_; have HI0 := n3_; clear n0_ n1_ n2_ n3_; (try clear hb); (try clear hb2); (try clear hk); (try clear hi)) | ((with_reducible refine gate_builtin (b := .append) (xs := #[.tmp 11, .tmp 15]) rfl ?_); at_builtin; refine Kd.R_append k101 w.heap.size rfl (.tmp 11) (.tmp 15) 30 101 (.agg #[(.string ⟨#[]⟩), (.string ⟨#[]⟩)]) 32 rfl Try.underlying30 info101 rfl (by decide) (by omega) v547 t546 (⟨t552, (⟨#[]⟩ : ByteArray)⟩ : S101) [.string t552, .string (⟨#[]⟩ : ByteArray)] (fun _ => True) (fun _ => False) rfl rfl ?aP (fun _ hk => hk.elim) ?aF ?aO (Below.refl _ _) ?aS ?aL ?_; (case aP => exact k101_mkM _ _ _ (⟨t552, (⟨#[]⟩ : ByteArray)⟩ : S101)); (case aF => exact (fun _ _ => trivial)); (case aO => exact (by exact rz HO548)); (case aS => exact (keep_size (w := w) (g := g) (row := none) (by exact kz HK))); (case aL => have := LMc6.out; omega); intro v555 w10 ho hb hg hat; rw [← Ny554.out] at ho; have n0_ := zq9 (IsS118.grown (by exact iz118 HI0) hg (IsS118.own_ne HI0.out HO548.out (by decide))); have n1_ := zq9 (below_weaken (by exact b1 HB (zq9 (IsS118.ge HI0.out))) HL.out hb); have n2_ := zq9 (KeepBut.trans (by exact kz HK) (KeepBut.of_grown hg g) (Kd.R_base2 HO548.out)); have n3_ := zq9 (ho); clear HI0; clear HB; clear HK; clear HO548; have HI0 := n0_; have HB := n1_; have HK := n2_; have HO556 := n3_; clear n0_ n1_ n2_ n3_; clear ho hb hg hat))
   go_ret
   exact ⟨_, by first | rfl | (simp [errW_none, errW_some] <;> rfl) | (simp [*, errW_none, errW_some] <;> rfl), by (with_reducible repeat (first | apply zq10 | apply zq11 | apply zq12)); exact HO556.out, by exact iz118 HI0, by exact b1 HB (zq9 (IsS118.ge HI0.out)), by exact kz HK⟩
  ·rw [if_neg c6] at H
   exact absurd H (by simp)
 ·rw [if_neg c4] at H
  have c4b0 : (t550 == 0) = false := beq_eq_false_iff_ne.mpr c4
  have c4b1 : (t550 != 0) = true := bne_iff_ne.mpr c4
  by_cases c11 : t550 = 1
  ·rw [if_pos c11] at H
   have c11b0 : (t550 == 1) = true := beq_iff_eq.mpr c11
   have c11b1 : (t550 != 1) = false := bne_eq_false_iff_eq.mpr c11
   clear c11
   have H' := zq9 H
   clear H
   go_wp2_with (first | ((with_reducible refine zq24 (f := 114) rfl ?_); refine gl (some 6) Try.func114 #[.pointer (some ⟨g, 0, none⟩)] ?_; (with_reducible refine (spec_l11Fields.calls k g s0_0 s0_1 t546 t549 w0 _ ?side1 ?side2 A2.out).mono ?_); (case side1 => exact iz118 HI0); (case side2 => exact b1 HB (zq9 (IsS118.ge HI0.out))); rintro e w12 ⟨v547, rfl, ho0, hi, hb, hk⟩; refine ⟨_, rfl, ?_⟩; have n0_ := zq9 (Kd.R_lower ho0 (keep_size (w := w) (g := g) (row := none) (by exact kz HK))); have n1_ := zq9 (KeepBut.trans (by exact kz HK) hk (.inl rfl)); have n2_ := zq9 (hb); have n3_ := zq9 (hi); clear HK; clear HB; clear HI0; have HO548 := n0_; have HK := n1_; have HB := n2_; have HI0 := n3_; clear n0_ n1_ n2_ n3_; (try clear hb); (try clear hb2); (try clear hk); (try clear hi); (try clear ho0)) | ((with_reducible refine zq24 (f := 91) rfl ?_); refine gl (some 8) Try.func91 #[.pointer (some ⟨g, 0, none⟩), .int .i64 12] ?_; (with_reducible refine (spec_l1Rd_pick.calls k g s0_0 t549 12 t550 t551 w0 _ ?side1 ?side2 A3.out).mono ?_); (case side1 => exact iz118 HI0); (case side2 => exact b1 HB (zq9 (IsS118.ge HI0.out))); rintro e w13 ⟨rfl, hi, hb, hk⟩; refine ⟨_, rfl, ?_⟩; have n0_ := zq9 (Kd.R_mono (Kd.R_keep (IsS118.apart (show IsS118 w0 _ g s0_0 t549 from by exact iz118 HI0) (by exact rz HO548) (by decide)) hk (fun _ h => h.2)) (fun _ h => h.1)); have n1_ := zq9 (KeepBut.trans (by exact kz HK) hk (.inl rfl)); have n2_ := zq9 (hb); have n3_ := zq9 (hi); clear HO548; clear HK; clear HB; clear HI0; have HO548 := n0_; have HK := n1_; have HB := n2_; have HI0 := n3_; clear n0_ n1_ n2_ n3_; (try clear hb); (try clear hb2); (try clear hk); (try clear hi)))
   go_loopg [3, 4] k (fun kq v3 v4 w' => ∃ (x3_1 : List (S101)) (x4_1 : Int), v4 = .int .i64 x4_1 ∧ Aside0 (spec_l11AnyFields.l0 kq x3_1 x4_1 s0_0 t551 = some (r1, r2)) ∧ Aside0 (kq ≤ k) ∧ Aside0 (Kd.R k101 101 w' w.heap.size (fun _ => True) v3 x3_1) ∧ Aside0 (IsS118 w0 w' g s0_0 t551) ∧ Aside0 (KeepBut w w' g none) ∧ Aside0 (Below w0.heap.size w0 w'))
   case atStart => exact ⟨(t546), (10), (by first | rfl | (simp; done) | (simp [*]; done)), H', ⟨Nat.le_refl _⟩, ⟨by (with_reducible repeat (first | apply zq10 | apply zq11 | apply zq12)); exact HO548.out⟩, ⟨by exact iz118 HI0⟩, ⟨by exact kz HK⟩, ⟨by exact b1 HB (zq9 (IsS118.ge HI0.out))⟩⟩
   case round =>
    clear H'
    try clear c1
    try clear p2
    try clear c4
    try clear c4b0
    try clear c4b1
    try clear c6
    try clear c9
    try clear c11
    try clear c11b0
    try clear c11b1
    obtain ⟨x3_1, x4_1, rfl, HA, HK1, HO_3, HI0, HK, HB⟩ := hrel
    cases gk with
    | zero => exact absurd HA.out (by simp [spec_l11AnyFields.l0])
    | succ k1 =>
     have H := HA.out
     clear HA
     simp only [spec_l11AnyFields.l0] at H
     by_cases c14 : (x3_1.length : Int) < 16
     ·rw [if_pos c14] at H
      have c14b0 : decide ((x3_1.length : Int) < 16) = true := decide_eq_true c14
      have c14b1 : decide (x3_1.length < 16) = true := decide_eq_true (by omega)
      clear c14
      replace H := Option.bind_eq_some_iff.mp H
      obtain ⟨t557, A150, H⟩ := H
      try dsimp only at H
      have A15 := zq9 A150
      clear A150
      by_cases c16 : 1 + t557.size ≤ 9223372036854775807
      ·rw [if_pos c16] at H
       have c16b0 := eq_true c16
       have c16b1 : decide (1 + t557.size ≤ 9223372036854775807) = true := decide_eq_true c16
       try have c16b2 : (9223372036854775807 < 1 + t557.size) = False := eq_false (Nat.not_lt.2 c16)
       replace H := Option.bind_eq_some_iff.mp H
       obtain ⟨⟨t558, t561, t562⟩, A170, H⟩ := H
       try dsimp only at H
       have A17 := zq9 A170
       clear A170
       have H' := zq9 H
       clear H
       obtain ⟨Ao18, co18, eo18⟩ := Kd.R_slice HO_3.out
       subst eo18
       go_wp2_with (first | ((with_reducible refine zq24 (f := 111) rfl ?_); refine gl (some 27) Try.func111 #[.int .i64 x4_1] ?_; (with_reducible refine (spec_l1Dec.calls k1 x4_1 t557 _ A15.out).mono ?_); rintro e w19 ⟨rfl, hb⟩; refine ⟨_, rfl, ?_⟩; have n0_ := zq9 (Kd.R_below (by exact rz HO_3) hb); have n1_ := zq9 (IsS118.below (by exact iz118 HI0) hb); have n2_ := zq9 (KeepBut.trans (by exact kz HK) (KeepBut.of_below hb g none) (.inl rfl)); have n3_ := zq9 (zq27 (by exact b1 HB (zq9 (IsS118.ge HI0.out))) hb); clear HO_3; clear HI0; clear HK; clear HB; have HO_3 := n0_; have HI0 := n1_; have HK := n2_; have HB := n3_; clear n0_ n1_ n2_ n3_; (try clear hb); (try clear hb2); (try clear hk); (try clear hi)) | ((with_reducible refine zq24 (f := 115) rfl ?_); refine gl (some 30) Try.func115 #[.slice Ao18 x3_1.length co18, .agg #[.string ((⟨#[102]⟩ : ByteArray) ++ t557), .string (⟨#[]⟩ : ByteArray)]] ?_; (with_reducible refine (spec_FieldsPut.calls k1 _ _ x3_1 ((⟨#[102]⟩ : ByteArray) ++ t557) (⟨#[]⟩ : ByteArray) t558 t561 t562 _ ?side1 ?side2 A17.out).mono ?_); (case side1 => repeat (first | exact (Kd.R_reads' HO_3.out).2.2 | (with_reducible refine zq18 ?_ _) | (with_reducible refine zq19 ?_ _) | (with_reducible refine zq20 ?_))); (case side2 => exact (Kd.R_reads' HO_3.out).2.1); rintro e w20 ⟨v559, rfl, ho0, hb⟩; refine ⟨_, rfl, ?_⟩; have n0_ := zq9 (Kd.R_elder' (by exact rz HO_3) (Kd.R_base ho0) hb); have n1_ := zq9 (Kd.R_lower (Kd.R_new' ho0 (Kd.R_lt (by exact rz HO_3))) (keep_size (w := w) (g := g) (row := none) (by exact kz HK))); have n2_ := zq9 (IsS118.below (by exact iz118 HI0) hb); have n3_ := zq9 (KeepBut.trans (by exact kz HK) (KeepBut.of_below hb g none) (.inl rfl)); have n4_ := zq9 (zq27 (by exact b1 HB (zq9 (IsS118.ge HI0.out))) hb); clear HO_3; clear HI0; clear HK; clear HB; have HO_3 := n0_; have HO560 := n1_; have HI0 := n2_; have HK := n3_; have HB := n4_; clear n0_ n1_ n2_ n3_ n4_; (try clear hb); (try clear hb2); (try clear hk); (try clear hi); (try clear ho0)))
       go_roundg k1
       case measure => have := HK1.out; omega
       case rel => exact ⟨(t558), (wrap64 (x4_1 + 1)), (by first | rfl | (simp; done) | (simp [*]; done)), H', ⟨by have := HK1.out; omega⟩, ⟨by (with_reducible repeat (first | apply zq10 | apply zq11 | apply zq12)); exact Kd.R_mono HO560.out (fun _ hk => trivial)⟩, ⟨by exact iz118 HI0⟩, ⟨by exact kz HK⟩, ⟨by exact b1 HB (zq9 (IsS118.ge HI0.out))⟩⟩
      ·rw [if_neg c16] at H
       exact absurd H (by simp)
     ·rw [if_neg c14] at H
      have c14b0 : decide ((x3_1.length : Int) < 16) = false := decide_eq_false c14
      have c14b1 : decide (x3_1.length < 16) = false := decide_eq_false (by omega)
      clear c14
      simp only [Option.some.injEq, Prod.mk.injEq] at H
      obtain ⟨rfl, rfl⟩ := H
      obtain ⟨Ao21, co21, eo21⟩ := Kd.R_slice HO_3.out
      subst eo21
      go_wp2
      go_ret
      exact ⟨_, by first | rfl | (simp [errW_none, errW_some] <;> rfl) | (simp [*, errW_none, errW_some] <;> rfl), by (with_reducible repeat (first | apply zq10 | apply zq11 | apply zq12)); exact HO_3.out, by exact iz118 HI0, by exact b1 HB (zq9 (IsS118.ge HI0.out)), by exact kz HK⟩
  ·rw [if_neg c11] at H
   have c11b0 : (t550 == 1) = false := beq_eq_false_iff_ne.mpr c11
   have c11b1 : (t550 != 1) = true := bne_iff_ne.mpr c11
   simp only [Option.some.injEq, Prod.mk.injEq] at H
   obtain ⟨rfl, rfl⟩ := H
   go_wp2_with (first | ((with_reducible refine zq24 (f := 114) rfl ?_); refine gl (some 6) Try.func114 #[.pointer (some ⟨g, 0, none⟩)] ?_; (with_reducible refine (spec_l11Fields.calls k g s0_0 s0_1 t546 t549 w0 _ ?side1 ?side2 A2.out).mono ?_); (case side1 => exact iz118 HI0); (case side2 => exact b1 HB (zq9 (IsS118.ge HI0.out))); rintro e w12 ⟨v547, rfl, ho0, hi, hb, hk⟩; refine ⟨_, rfl, ?_⟩; have n0_ := zq9 (Kd.R_lower ho0 (keep_size (w := w) (g := g) (row := none) (by exact kz HK))); have n1_ := zq9 (KeepBut.trans (by exact kz HK) hk (.inl rfl)); have n2_ := zq9 (hb); have n3_ := zq9 (hi); clear HK; clear HB; clear HI0; have HO548 := n0_; have HK := n1_; have HB := n2_; have HI0 := n3_; clear n0_ n1_ n2_ n3_; (try clear hb); (try clear hb2); (try clear hk); (try clear hi); (try clear ho0)) | ((with_reducible refine zq24 (f := 91) rfl ?_); refine gl (some 8) Try.func91 #[.pointer (some ⟨g, 0, none⟩), .int .i64 12] ?_; (with_reducible refine (spec_l1Rd_pick.calls k g s0_0 t549 12 t550 t551 w0 _ ?side1 ?side2 A3.out).mono ?_); (case side1 => exact iz118 HI0); (case side2 => exact b1 HB (zq9 (IsS118.ge HI0.out))); rintro e w13 ⟨rfl, hi, hb, hk⟩; refine ⟨_, rfl, ?_⟩; have n0_ := zq9 (Kd.R_mono (Kd.R_keep (IsS118.apart (show IsS118 w0 _ g s0_0 t549 from by exact iz118 HI0) (by exact rz HO548) (by decide)) hk (fun _ h => h.2)) (fun _ h => h.1)); have n1_ := zq9 (KeepBut.trans (by exact kz HK) hk (.inl rfl)); have n2_ := zq9 (hb); have n3_ := zq9 (hi); clear HO548; clear HK; clear HB; clear HI0; have HO548 := n0_; have HK := n1_; have HB := n2_; have HI0 := n3_; clear n0_ n1_ n2_ n3_; (try clear hb); (try clear hb2); (try clear hk); (try clear hi)))
   go_ret
   exact ⟨_, by first | rfl | (simp [errW_none, errW_some] <;> rfl) | (simp [*, errW_none, errW_some] <;> rfl), by (with_reducible repeat (first | apply zq10 | apply zq11 | apply zq12)); exact HO548.out, by exact iz118 HI0, by exact b1 HB (zq9 (IsS118.ge HI0.out)), by exact kz HK⟩
set_option maxHeartbeats 8000000 in
set_option maxRecDepth 100000 in
theorem spec_l11Entry.calls (k : Nat) (g : Nat) (s0_0 : List Int) (s0_1 : Int) (r1 : ByteArray) (r2 : Int) (r3 : Int) (r4 : ByteArray) (r5 : List ByteArray) (r6 : List (S99)) (r7 : List (S101)) (r8 : Int) (w0 w : World) (hI : IsS118 w0 w g s0_0 s0_1) (hB : Below w0.heap.size w0 w) (h : spec_l11Entry.f k s0_0 s0_1 = some (r1, r2, r3, r4, r5, r6, r7, r8)) :
  Calls Try.prog 56 #[.pointer (some ⟨g, 0, none⟩)] w fun e w' => ∃ v4_ v5_ v6_ : Value, e = .returned (.agg #[.string r1, .int .i64 r2, .int .i64 r3, .string r4, v4_, v5_, v6_]) ∧ Kd.V Kd.string 9 w' w.heap.size (fun k_ => (w.heap.size ≤ k_) ∧ some k_ ≠ (v5_ : Value).ownBlock ∧ some k_ ≠ (v6_ : Value).ownBlock) v4_ r5 ∧ Kd.R k99 99 w' w.heap.size (fun k_ => (w.heap.size ≤ k_)) v5_ r6 ∧ Kd.R k101 101 w' w.heap.size (fun k_ => (w.heap.size ≤ k_)) v6_ r7 ∧ IsS118 w0 w' g s0_0 r8 ∧ Below w0.heap.size w0 w' ∧ KeepBut w w' g none := by
 have hu32 := Try.underlying32
 have HI0 := zq9 hI
 have HK := zq9 (KeepBut.refl w g none)
 have HL := zq9 hB.size
 clear hI
 have HW0 := zq9 hB.size
 have HB := zq9 hB
 clear hB
 have H : ((spec_l1Rd_of.f k s0_0 s0_1 (([(⟨#[107]⟩ : ByteArray), (⟨#[108]⟩ : ByteArray), (⟨#[110, 101, 119]⟩ : ByteArray), (⟨#[]⟩ : ByteArray), (⟨#[109, 117, 99, 104, 116, 111, 111, 108, 111, 110, 103, 107, 101, 121]⟩ : ByteArray)] : List ByteArray))).bind fun bt567 => ((spec_l1Rd_pick.f k s0_0 bt567.2 5).bind fun bt569 => ((spec_l1Rd_one.f k s0_0 bt569.2 (([0, 0, 20, 2000001, 1] : List Int))).bind fun bt574 => (if (wrap64 (1 + bt569.1)) = 1 then ((spec_l11Text.f k s0_0 bt574.2).bind fun bt577 => (spec_l11Entry.j0 k s0_0 bt577.2 bt567.1 bt574.1 (wrap64 (1 + bt569.1)) bt577.1 ([] : List ByteArray) ([] : List (S99)) ([] : List (S101)))) else (if (wrap64 (1 + bt569.1)) = 2 then ((spec_l11AnyTexts.f k s0_0 bt574.2).bind fun bt579 => (spec_l11Entry.j0 k s0_0 bt579.2 bt567.1 bt574.1 (wrap64 (1 + bt569.1)) (⟨#[]⟩ : ByteArray) bt579.1 ([] : List (S99)) ([] : List (S101)))) else (if (wrap64 (1 + bt569.1)) = 3 then ((spec_l11AnySet.f k s0_0 bt574.2).bind fun bt583 => (spec_l11Entry.j0 k s0_0 bt583.2 bt567.1 bt574.1 (wrap64 (1 + bt569.1)) (⟨#[]⟩ : ByteArray) bt583.1 ([] : List (S99)) ([] : List (S101)))) else (if (wrap64 (1 + bt569.1)) = 4 then ((spec_l11AnyScores.f k s0_0 bt574.2).bind fun bt587 => (spec_l11Entry.j0 k s0_0 bt587.2 bt567.1 bt574.1 (wrap64 (1 + bt569.1)) (⟨#[]⟩ : ByteArray) ([] : List ByteArray) bt587.1 ([] : List (S101)))) else (if (wrap64 (1 + bt569.1)) = 5 then ((spec_l11AnyFields.f k s0_0 bt574.2).bind fun bt591 => (spec_l11Entry.j0 k s0_0 bt591.2 bt567.1 bt574.1 (wrap64 (1 + bt569.1)) (⟨#[]⟩ : ByteArray) ([] : List ByteArray) ([] : List (S99)) bt591.1)) else (spec_l11Entry.j0 k s0_0 bt574.2 bt567.1 bt574.1 (wrap64 (1 + bt569.1)) (⟨#[]⟩ : ByteArray) ([] : List ByteArray) ([] : List (S99)) ([] : List (S101))))))))))) = some (r1, r2, r3, r4, r5, r6, r7, r8) := h
 clear h
 obtain ⟨y564, hy564⟩ : ∃ y_ : List ByteArray, y_ = (([(⟨#[107]⟩ : ByteArray), (⟨#[108]⟩ : ByteArray), (⟨#[110, 101, 119]⟩ : ByteArray), (⟨#[]⟩ : ByteArray), (⟨#[109, 117, 99, 104, 116, 111, 111, 108, 111, 110, 103, 107, 101, 121]⟩ : ByteArray)] : List ByteArray)) := ⟨_, rfl⟩
 replace H : ((spec_l1Rd_of.f k s0_0 s0_1 y564).bind fun bt567 => ((spec_l1Rd_pick.f k s0_0 bt567.2 5).bind fun bt569 => ((spec_l1Rd_one.f k s0_0 bt569.2 (([0, 0, 20, 2000001, 1] : List Int))).bind fun bt574 => (if (wrap64 (1 + bt569.1)) = 1 then ((spec_l11Text.f k s0_0 bt574.2).bind fun bt577 => (spec_l11Entry.j0 k s0_0 bt577.2 bt567.1 bt574.1 (wrap64 (1 + bt569.1)) bt577.1 ([] : List ByteArray) ([] : List (S99)) ([] : List (S101)))) else (if (wrap64 (1 + bt569.1)) = 2 then ((spec_l11AnyTexts.f k s0_0 bt574.2).bind fun bt579 => (spec_l11Entry.j0 k s0_0 bt579.2 bt567.1 bt574.1 (wrap64 (1 + bt569.1)) (⟨#[]⟩ : ByteArray) bt579.1 ([] : List (S99)) ([] : List (S101)))) else (if (wrap64 (1 + bt569.1)) = 3 then ((spec_l11AnySet.f k s0_0 bt574.2).bind fun bt583 => (spec_l11Entry.j0 k s0_0 bt583.2 bt567.1 bt574.1 (wrap64 (1 + bt569.1)) (⟨#[]⟩ : ByteArray) bt583.1 ([] : List (S99)) ([] : List (S101)))) else (if (wrap64 (1 + bt569.1)) = 4 then ((spec_l11AnyScores.f k s0_0 bt574.2).bind fun bt587 => (spec_l11Entry.j0 k s0_0 bt587.2 bt567.1 bt574.1 (wrap64 (1 + bt569.1)) (⟨#[]⟩ : ByteArray) ([] : List ByteArray) bt587.1 ([] : List (S101)))) else (if (wrap64 (1 + bt569.1)) = 5 then ((spec_l11AnyFields.f k s0_0 bt574.2).bind fun bt591 => (spec_l11Entry.j0 k s0_0 bt591.2 bt567.1 bt574.1 (wrap64 (1 + bt569.1)) (⟨#[]⟩ : ByteArray) ([] : List ByteArray) ([] : List (S99)) bt591.1)) else (spec_l11Entry.j0 k s0_0 bt574.2 bt567.1 bt574.1 (wrap64 (1 + bt569.1)) (⟨#[]⟩ : ByteArray) ([] : List ByteArray) ([] : List (S99)) ([] : List (S101))))))))))) = some (r1, r2, r3, r4, r5, r6, r7, r8) := by first | (rw [hy564]; with_reducible exact H) | (have H2_ := (Option.bind_some _ _).symm.trans H; rw [hy564]; with_reducible exact H2_) | (have H2_ := (Option.bind_some _ _).symm.trans H; with_reducible exact H2_) | with_reducible exact H | (rw [hy564]; exact H) | exact H
 have Ny564 := zq9 hy564
 clear hy564
 replace H := Option.bind_eq_some_iff.mp H
 obtain ⟨⟨t567, t568⟩, A20, H⟩ := H
 try dsimp only at H
 have A2 := zq9 A20
 clear A20
 replace H := Option.bind_eq_some_iff.mp H
 obtain ⟨⟨t569, t570⟩, A30, H⟩ := H
 try dsimp only at H
 have A3 := zq9 A30
 clear A30
 obtain ⟨y571, hy571⟩ : ∃ y_ : List Int, y_ = (([0, 0, 20, 2000001, 1] : List Int)) := ⟨_, rfl⟩
 replace H : ((spec_l1Rd_one.f k s0_0 t570 y571).bind fun bt574 => (if (wrap64 (1 + t569)) = 1 then ((spec_l11Text.f k s0_0 bt574.2).bind fun bt577 => (spec_l11Entry.j0 k s0_0 bt577.2 t567 bt574.1 (wrap64 (1 + t569)) bt577.1 ([] : List ByteArray) ([] : List (S99)) ([] : List (S101)))) else (if (wrap64 (1 + t569)) = 2 then ((spec_l11AnyTexts.f k s0_0 bt574.2).bind fun bt579 => (spec_l11Entry.j0 k s0_0 bt579.2 t567 bt574.1 (wrap64 (1 + t569)) (⟨#[]⟩ : ByteArray) bt579.1 ([] : List (S99)) ([] : List (S101)))) else (if (wrap64 (1 + t569)) = 3 then ((spec_l11AnySet.f k s0_0 bt574.2).bind fun bt583 => (spec_l11Entry.j0 k s0_0 bt583.2 t567 bt574.1 (wrap64 (1 + t569)) (⟨#[]⟩ : ByteArray) bt583.1 ([] : List (S99)) ([] : List (S101)))) else (if (wrap64 (1 + t569)) = 4 then ((spec_l11AnyScores.f k s0_0 bt574.2).bind fun bt587 => (spec_l11Entry.j0 k s0_0 bt587.2 t567 bt574.1 (wrap64 (1 + t569)) (⟨#[]⟩ : ByteArray) ([] : List ByteArray) bt587.1 ([] : List (S101)))) else (if (wrap64 (1 + t569)) = 5 then ((spec_l11AnyFields.f k s0_0 bt574.2).bind fun bt591 => (spec_l11Entry.j0 k s0_0 bt591.2 t567 bt574.1 (wrap64 (1 + t569)) (⟨#[]⟩ : ByteArray) ([] : List ByteArray) ([] : List (S99)) bt591.1)) else (spec_l11Entry.j0 k s0_0 bt574.2 t567 bt574.1 (wrap64 (1 + t569)) (⟨#[]⟩ : ByteArray) ([] : List ByteArray) ([] : List (S99)) ([] : List (S101))))))))) = some (r1, r2, r3, r4, r5, r6, r7, r8) := by first | (rw [hy571]; with_reducible exact H) | (have H2_ := (Option.bind_some _ _).symm.trans H; rw [hy571]; with_reducible exact H2_) | (have H2_ := (Option.bind_some _ _).symm.trans H; with_reducible exact H2_) | with_reducible exact H | (rw [hy571]; exact H) | exact H
 have Ny571 := zq9 hy571
 clear hy571
 replace H := Option.bind_eq_some_iff.mp H
 obtain ⟨⟨t574, t575⟩, A40, H⟩ := H
 try dsimp only at H
 have A4 := zq9 A40
 clear A40
 have HC5 := zq9 H
 clear H
 go_enter Try.func56, Try.ntmps56
 go_upto_block 0 with (first | ((with_reducible refine zq25 (N := 2) rfl ?_); refine bx 2 #[.string (⟨#[]⟩ : ByteArray), .int .i64 0, .int .i64 0, .string (⟨#[]⟩ : ByteArray), .slice none 0 0, .slice none 0 0, .slice none 0 0] 32 ?_; intro gb563 hg w6 hbox hb; have n0_ := zq9 (IsS118.below (by exact iz118 HI0) hb); have n1_ := zq9 (KeepBut.trans (by exact kz HK) (KeepBut.of_below hb g none) (.inl rfl)); have n2_ := zq9 (zq27 (by exact b1 HB (zq9 (IsS118.ge HI0.out))) hb); have n3_ := zq9 (hbox); have n4_ := zq9 ((by rw [hg]; exact (keep_size (w := w) (g := g) (row := none) (by exact kz HK)) : w.heap.size ≤ gb563)); have n5_ := zq9 ((Nat.le_trans HW0.out (by rw [hg]; exact (keep_size (w := w) (g := g) (row := none) (by exact kz HK)) : w.heap.size ≤ gb563) : w0.heap.size ≤ gb563)); have n6_ := zq9 ((by rw [hg]; exact Nat.ne_of_lt (IsS118.lt (show IsS118 w0 _ g s0_0 s0_1 from by exact iz118 HI0)) : g ≠ gb563)); have n7_ := zq9 ((by rw [hg]; exact Nat.ne_of_gt (IsS118.lt (show IsS118 w0 _ g s0_0 s0_1 from by exact iz118 HI0)) : gb563 ≠ g)); clear HI0; clear HK; clear HB; have HI0 := n0_; have HK := n1_; have HB := n2_; have BK563 := n3_; have GW563 := n4_; have GE563 := n5_; have NB0_563 := n6_; have NB563_0 := n7_; clear n0_ n1_ n2_ n3_ n4_ n5_ n6_ n7_; clear hb hbox hg) | ((with_reducible refine zq25 (N := 5) rfl ?_); refine Kd.R_lit Kd.string _ 9 ?hg (N := 5) ?hd (xs := ([(⟨#[107]⟩ : ByteArray), (⟨#[108]⟩ : ByteArray), (⟨#[110, 101, 119]⟩ : ByteArray), (⟨#[]⟩ : ByteArray), (⟨#[109, 117, 99, 104, 116, 111, 111, 108, 111, 110, 103, 107, 101, 121]⟩ : ByteArray)] : List ByteArray)) (inner := [.string (⟨#[107]⟩ : ByteArray), .string (⟨#[108]⟩ : ByteArray), .string (⟨#[110, 101, 119]⟩ : ByteArray), .string (⟨#[]⟩ : ByteArray), .string (⟨#[109, 117, 99, 104, 116, 111, 111, 108, 111, 110, 103, 107, 101, 121]⟩ : ByteArray)]) (ok := fun _ => True) (okp := fun _ => True) ?hr ?hp (fun _ hk => hk) trivial (Below.refl _ _) (Nat.le_refl _) (by simp) ?_; (case hd => rfl); (case hg => rfl); (case hr => first | (go_simp; done) | (go_simp; rfl)); (case hp => exact (Reps.one (show Kd.M Kd.string _ _ _ (⟨#[107]⟩ : ByteArray) [.string (⟨#[107]⟩ : ByteArray)] from rfl) (Reps.one (show Kd.M Kd.string _ _ _ (⟨#[108]⟩ : ByteArray) [.string (⟨#[108]⟩ : ByteArray)] from rfl) (Reps.one (show Kd.M Kd.string _ _ _ (⟨#[110, 101, 119]⟩ : ByteArray) [.string (⟨#[110, 101, 119]⟩ : ByteArray)] from rfl) (Reps.one (show Kd.M Kd.string _ _ _ (⟨#[]⟩ : ByteArray) [.string (⟨#[]⟩ : ByteArray)] from rfl) (Reps.one (show Kd.M Kd.string _ _ _ (⟨#[109, 117, 99, 104, 116, 111, 111, 108, 111, 110, 103, 107, 101, 121]⟩ : ByteArray) [.string (⟨#[109, 117, 99, 104, 116, 111, 111, 108, 111, 110, 103, 107, 101, 121]⟩ : ByteArray)] from rfl) (Reps.none _ _))))))); intro v565 w7 ho8 hb hg_ hnew_; clear hg_ hnew_; (first | rw [← Ny564.out] at ho8 | (simp only [Int.reduceToNat] at ho8; rw [← Ny564.out] at ho8)); have n0_ := zq9 (Kd.R_lower (Kd.R_newM (M := fun k_ => (w.heap.size ≤ k_)) ho8 (keep_size (w := w) (g := g) (row := none) (by repeat (first | (with_reducible first | exact HK.out | apply zq13 | apply zq14 | apply zq15 | apply zq16 | refine zq17 ?_ GW563.out _) | exact HK.out))) (fun k_ h_ => h_)) (keep_size (w := w) (g := g) (row := none) (by repeat (first | (with_reducible first | exact HK.out | apply zq13 | apply zq14 | apply zq15 | apply zq16 | refine zq17 ?_ GW563.out _) | exact HK.out)))); have n1_ := zq9 (IsS118.below (by repeat (first | (with_reducible first | exact HI0.out | apply IsS118.alloc | apply IsS118.drewN | apply IsS118.drew | apply IsS118.set_1 | refine IsS118.far ?_ NB0_563.out _) | exact HI0.out)) hb); have n2_ := zq9 (zq30 (g := gb563) (o := .cells #[.string (⟨#[]⟩ : ByteArray), .int .i64 0, .int .i64 0, .string (⟨#[]⟩ : ByteArray), .slice none 0 0, .slice none 0 0, .slice none 0 0] 32 (0, 0)) (by exact bk BK563) hb); have n3_ := zq9 (KeepBut.trans (by repeat (first | (with_reducible first | exact HK.out | apply zq13 | apply zq14 | apply zq15 | apply zq16 | refine zq17 ?_ GW563.out _) | exact HK.out)) (KeepBut.of_below hb g none) (.inl rfl)); have n4_ := zq9 (zq27 (by exact b2 HB (zq9 (IsS118.ge HI0.out)) GE563) hb); clear HI0; clear BK563; clear HK; clear HB; have HO566 := n0_; have HI0 := n1_; have BK563 := n2_; have HK := n3_; have HB := n4_; clear n0_ n1_ n2_ n3_ n4_; clear hb ho8; obtain ⟨Ao9, co9, eo9⟩ := Kd.R_slice HO566.out; subst eo9) | ((with_reducible refine zq24 (f := 90) rfl ?_); refine gl (some 6) Try.func90 #[.pointer (some ⟨g, 0, none⟩), .slice Ao9 y564.length co9] ?_; (with_reducible refine (spec_l1Rd_of.calls k g s0_0 s0_1 _ _ y564 t567 t568 w0 _ ?side1 ?side2 ?side3 ?side4 ?side5 A2.out).mono ?_); (case side1 => repeat (first | (with_reducible first | exact HI0.out | apply IsS118.alloc | apply IsS118.drewN | apply IsS118.drew | apply IsS118.set_1 | refine IsS118.far ?_ NB0_563.out _) | exact HI0.out)); (case side2 => exact b2 HB (zq9 (IsS118.ge HI0.out)) GE563); (case side3 => repeat (first | exact (Kd.R_reads' HO566.out).2.2 | (with_reducible refine zq18 ?_ _) | (with_reducible refine zq19 ?_ _) | (with_reducible refine zq20 ?_))); (case side4 => exact (Kd.R_reads' HO566.out).2.1); (case side5 => exact far_slice (IsS118.own_ne HI0.out HO566.out (by decide))); rintro e w10 ⟨rfl, hi, hb, hk⟩; refine ⟨_, rfl, ?_⟩; have n0_ := zq9 (KeepBut.blk hk (g' := gb563) (o := .cells #[.string (⟨#[]⟩ : ByteArray), .int .i64 0, .int .i64 0, .string (⟨#[]⟩ : ByteArray), .slice none 0 0, .slice none 0 0, .slice none 0 0] 32 (0, 0)) (by exact bk BK563) NB563_0.out (by simp)); have n1_ := zq9 (Kd.R_mono (Kd.R_keep (IsS118.apart (show IsS118 w0 _ g s0_0 s0_1 from by repeat (first | (with_reducible first | exact HI0.out | apply IsS118.alloc | apply IsS118.drewN | apply IsS118.drew | apply IsS118.set_1 | refine IsS118.far ?_ NB0_563.out _) | exact HI0.out)) (by exact rz HO566) (by decide)) hk (fun _ h => h.2)) (fun _ h => h.1)); have n2_ := zq9 (KeepBut.trans (by repeat (first | (with_reducible first | exact HK.out | apply zq13 | apply zq14 | apply zq15 | apply zq16 | refine zq17 ?_ GW563.out _) | exact HK.out)) hk (.inl rfl)); have n3_ := zq9 (hb); have n4_ := zq9 (hi); clear BK563; clear HO566; clear HK; clear HB; clear HI0; have BK563 := n0_; have HO566 := n1_; have HK := n2_; have HB := n3_; have HI0 := n4_; clear n0_ n1_ n2_ n3_ n4_; (try clear hb); (try clear hb2); (try clear hk); (try clear hi)) | ((with_reducible refine zq24 (f := 91) rfl ?_); refine gl (some 8) Try.func91 #[.pointer (some ⟨g, 0, none⟩), .int .i64 5] ?_; (with_reducible refine (spec_l1Rd_pick.calls k g s0_0 t568 5 t569 t570 w0 _ ?side1 ?side2 A3.out).mono ?_); (case side1 => repeat (first | (with_reducible first | exact HI0.out | apply IsS118.alloc | apply IsS118.drewN | apply IsS118.drew | apply IsS118.set_1 | refine IsS118.far ?_ NB0_563.out _) | exact HI0.out)); (case side2 => exact b2 HB (zq9 (IsS118.ge HI0.out)) GE563); rintro e w11 ⟨rfl, hi, hb, hk⟩; refine ⟨_, rfl, ?_⟩; have n0_ := zq9 (KeepBut.blk hk (g' := gb563) (o := .cells #[.string (⟨#[]⟩ : ByteArray), .int .i64 0, .int .i64 0, .string (⟨#[]⟩ : ByteArray), .slice none 0 0, .slice none 0 0, .slice none 0 0] 32 (0, 0)) (by exact bk BK563) NB563_0.out (by simp)); have n1_ := zq9 (Kd.R_mono (Kd.R_keep (IsS118.apart (show IsS118 w0 _ g s0_0 t568 from by repeat (first | (with_reducible first | exact HI0.out | apply IsS118.alloc | apply IsS118.drewN | apply IsS118.drew | apply IsS118.set_1 | refine IsS118.far ?_ NB0_563.out _) | exact HI0.out)) (by exact rz HO566) (by decide)) hk (fun _ h => h.2)) (fun _ h => h.1)); have n2_ := zq9 (KeepBut.trans (by repeat (first | (with_reducible first | exact HK.out | apply zq13 | apply zq14 | apply zq15 | apply zq16 | refine zq17 ?_ GW563.out _) | exact HK.out)) hk (.inl rfl)); have n3_ := zq9 (hb); have n4_ := zq9 (hi); clear BK563; clear HO566; clear HK; clear HB; clear HI0; have BK563 := n0_; have HO566 := n1_; have HK := n2_; have HB := n3_; have HI0 := n4_; clear n0_ n1_ n2_ n3_ n4_; (try clear hb); (try clear hb2); (try clear hk); (try clear hi)) | ((with_reducible refine zq25 (N := 11) rfl ?_); refine Kd.R_lit (Kd.int .i64) _ 3 ?hg (N := 11) ?hd (xs := ([0, 0, 20, 2000001, 1] : List Int)) (inner := [.int .i64 0, .int .i64 0, .int .i64 20, .int .i64 2000001, .int .i64 1]) (ok := fun _ => True) (okp := fun _ => True) ?hr ?hp (fun _ hk => hk) trivial (Below.refl _ _) (Nat.le_refl _) (by simp) ?_; (case hd => rfl); (case hg => rfl); (case hr => first | (go_simp; done) | (go_simp; rfl)); (case hp => exact (Reps.one (show Kd.M (Kd.int .i64) _ _ _ 0 [.int .i64 0] from rfl) (Reps.one (show Kd.M (Kd.int .i64) _ _ _ 0 [.int .i64 0] from rfl) (Reps.one (show Kd.M (Kd.int .i64) _ _ _ 20 [.int .i64 20] from rfl) (Reps.one (show Kd.M (Kd.int .i64) _ _ _ 2000001 [.int .i64 2000001] from rfl) (Reps.one (show Kd.M (Kd.int .i64) _ _ _ 1 [.int .i64 1] from rfl) (Reps.none _ _))))))); intro v572 w12 ho13 hb hg_ hnew_; clear hg_ hnew_; (first | rw [← Ny571.out] at ho13 | (simp only [Int.reduceToNat] at ho13; rw [← Ny571.out] at ho13)); have n0_ := zq9 (Kd.R_below (by exact rz HO566) hb); have n1_ := zq9 (Kd.R_lower (Kd.R_newM (M := fun k_ => (w.heap.size ≤ k_)) ho13 (keep_size (w := w) (g := g) (row := none) (by repeat (first | (with_reducible first | exact HK.out | apply zq13 | apply zq14 | apply zq15 | apply zq16 | refine zq17 ?_ GW563.out _) | exact HK.out))) (fun k_ h_ => h_)) (keep_size (w := w) (g := g) (row := none) (by repeat (first | (with_reducible first | exact HK.out | apply zq13 | apply zq14 | apply zq15 | apply zq16 | refine zq17 ?_ GW563.out _) | exact HK.out)))); have n2_ := zq9 (IsS118.below (by repeat (first | (with_reducible first | exact HI0.out | apply IsS118.alloc | apply IsS118.drewN | apply IsS118.drew | apply IsS118.set_1 | refine IsS118.far ?_ NB0_563.out _) | exact HI0.out)) hb); have n3_ := zq9 (zq30 (g := gb563) (o := .cells #[.string (⟨#[]⟩ : ByteArray), .int .i64 0, .int .i64 0, .string (⟨#[]⟩ : ByteArray), .slice none 0 0, .slice none 0 0, .slice none 0 0] 32 (0, 0)) (by exact bk BK563) hb); have n4_ := zq9 (KeepBut.trans (by repeat (first | (with_reducible first | exact HK.out | apply zq13 | apply zq14 | apply zq15 | apply zq16 | refine zq17 ?_ GW563.out _) | exact HK.out)) (KeepBut.of_below hb g none) (.inl rfl)); have n5_ := zq9 (zq27 (by exact b2 HB (zq9 (IsS118.ge HI0.out)) GE563) hb); clear HO566; clear HI0; clear BK563; clear HK; clear HB; have HO566 := n0_; have HO573 := n1_; have HI0 := n2_; have BK563 := n3_; have HK := n4_; have HB := n5_; clear n0_ n1_ n2_ n3_ n4_ n5_; clear hb ho13; obtain ⟨Ao14, co14, eo14⟩ := Kd.R_slice HO573.out; subst eo14) | ((with_reducible refine zq24 (f := 92) rfl ?_); refine gl (some 12) Try.func92 #[.pointer (some ⟨g, 0, none⟩), .slice Ao14 y571.length co14] ?_; (with_reducible refine (spec_l1Rd_one.calls k g s0_0 t570 _ _ y571 t574 t575 w0 _ ?side1 ?side2 ?side3 ?side4 ?side5 A4.out).mono ?_); (case side1 => repeat (first | (with_reducible first | exact HI0.out | apply IsS118.alloc | apply IsS118.drewN | apply IsS118.drew | apply IsS118.set_1 | refine IsS118.far ?_ NB0_563.out _) | exact HI0.out)); (case side2 => exact b2 HB (zq9 (IsS118.ge HI0.out)) GE563); (case side3 => repeat (first | exact (Kd.R_reads' HO573.out).2.2 | (with_reducible refine zq18 ?_ _) | (with_reducible refine zq19 ?_ _) | (with_reducible refine zq20 ?_))); (case side4 => exact (Kd.R_reads' HO573.out).2.1); (case side5 => exact far_slice (IsS118.own_ne HI0.out HO573.out (by decide))); rintro e w15 ⟨rfl, hi, hb, hk⟩; refine ⟨_, rfl, ?_⟩; have n0_ := zq9 (KeepBut.blk hk (g' := gb563) (o := .cells #[.string (⟨#[]⟩ : ByteArray), .int .i64 0, .int .i64 0, .string (⟨#[]⟩ : ByteArray), .slice none 0 0, .slice none 0 0, .slice none 0 0] 32 (0, 0)) (by exact bk BK563) NB563_0.out (by simp)); have n1_ := zq9 (Kd.R_mono (Kd.R_keep (IsS118.apart (show IsS118 w0 _ g s0_0 t570 from by repeat (first | (with_reducible first | exact HI0.out | apply IsS118.alloc | apply IsS118.drewN | apply IsS118.drew | apply IsS118.set_1 | refine IsS118.far ?_ NB0_563.out _) | exact HI0.out)) (by exact rz HO566) (by decide)) hk (fun _ h => h.2)) (fun _ h => h.1)); have n2_ := zq9 (Kd.R_mono (Kd.R_keep (IsS118.apart (show IsS118 w0 _ g s0_0 t570 from by repeat (first | (with_reducible first | exact HI0.out | apply IsS118.alloc | apply IsS118.drewN | apply IsS118.drew | apply IsS118.set_1 | refine IsS118.far ?_ NB0_563.out _) | exact HI0.out)) (by exact rz HO573) (by decide)) hk (fun _ h => h.2)) (fun _ h => h.1)); have n3_ := zq9 (KeepBut.trans (by repeat (first | (with_reducible first | exact HK.out | apply zq13 | apply zq14 | apply zq15 | apply zq16 | refine zq17 ?_ GW563.out _) | exact HK.out)) hk (.inl rfl)); have n4_ := zq9 (hb); have n5_ := zq9 (hi); clear BK563; clear HO566; clear HO573; clear HK; clear HB; clear HI0; have BK563 := n0_; have HO566 := n1_; have HO573 := n2_; have HK := n3_; have HB := n4_; have HI0 := n5_; clear n0_ n1_ n2_ n3_ n4_ n5_; (try clear hb); (try clear hb2); (try clear hk); (try clear hi)) | ((with_reducible refine zq25 (N := 3) rfl ?_); refine bx 3 #[.string (⟨#[]⟩ : ByteArray), .int .i64 0, .int .i64 0, .string (⟨#[]⟩ : ByteArray), .slice none 0 0, .slice none 0 0, .slice none 0 0] 32 ?_; intro gb576 hg w16 hbox hb; have n0_ := zq9 (Kd.R_below (by exact rz HO566) hb); have n1_ := zq9 (Kd.R_below (by exact rz HO573) hb); have n2_ := zq9 (IsS118.below (by repeat (first | (with_reducible first | exact HI0.out | apply IsS118.alloc | apply IsS118.drewN | apply IsS118.drew | apply IsS118.set_1 | refine IsS118.far ?_ NB0_563.out _) | exact HI0.out)) hb); have n3_ := zq9 (zq30 (g := gb563) (o := .cells #[.string (⟨#[]⟩ : ByteArray), .int .i64 0, .int .i64 0, .string (⟨#[]⟩ : ByteArray), .slice none 0 0, .slice none 0 0, .slice none 0 0] 32 (0, 0)) (by exact bk BK563) hb); have n4_ := zq9 (KeepBut.trans (by repeat (first | (with_reducible first | exact HK.out | apply zq13 | apply zq14 | apply zq15 | apply zq16 | refine zq17 ?_ GW563.out _) | exact HK.out)) (KeepBut.of_below hb g none) (.inl rfl)); have n5_ := zq9 (zq27 (by exact b2 HB (zq9 (IsS118.ge HI0.out)) GE563) hb); have n6_ := zq9 (hbox); have n7_ := zq9 ((by rw [hg]; exact (keep_size (w := w) (g := g) (row := none) (by repeat (first | (with_reducible first | exact HK.out | apply zq13 | apply zq14 | apply zq15 | apply zq16 | refine zq17 ?_ GW563.out _) | exact HK.out))) : w.heap.size ≤ gb576)); have n8_ := zq9 ((Nat.le_trans HW0.out (by rw [hg]; exact (keep_size (w := w) (g := g) (row := none) (by repeat (first | (with_reducible first | exact HK.out | apply zq13 | apply zq14 | apply zq15 | apply zq16 | refine zq17 ?_ GW563.out _) | exact HK.out))) : w.heap.size ≤ gb576) : w0.heap.size ≤ gb576)); have n9_ := zq9 ((by rw [hg]; exact Nat.ne_of_lt (blk_lt (g := gb563) (o := .cells #[.string (⟨#[]⟩ : ByteArray), .int .i64 0, .int .i64 0, .string (⟨#[]⟩ : ByteArray), .slice none 0 0, .slice none 0 0, .slice none 0 0] 32 (0, 0)) (by exact bk BK563)) : gb563 ≠ gb576)); have n10_ := zq9 ((by rw [hg]; exact Nat.ne_of_gt (blk_lt (g := gb563) (o := .cells #[.string (⟨#[]⟩ : ByteArray), .int .i64 0, .int .i64 0, .string (⟨#[]⟩ : ByteArray), .slice none 0 0, .slice none 0 0, .slice none 0 0] 32 (0, 0)) (by exact bk BK563)) : gb576 ≠ gb563)); have n11_ := zq9 ((by rw [hg]; exact Nat.ne_of_lt (IsS118.lt (show IsS118 w0 _ g s0_0 t575 from by repeat (first | (with_reducible first | exact HI0.out | apply IsS118.alloc | apply IsS118.drewN | apply IsS118.drew | apply IsS118.set_1 | refine IsS118.far ?_ NB0_563.out _) | exact HI0.out))) : g ≠ gb576)); have n12_ := zq9 ((by rw [hg]; exact Nat.ne_of_gt (IsS118.lt (show IsS118 w0 _ g s0_0 t575 from by repeat (first | (with_reducible first | exact HI0.out | apply IsS118.alloc | apply IsS118.drewN | apply IsS118.drew | apply IsS118.set_1 | refine IsS118.far ?_ NB0_563.out _) | exact HI0.out))) : gb576 ≠ g)); clear HO566; clear HO573; clear HI0; clear BK563; clear HK; clear HB; have HO566 := n0_; have HO573 := n1_; have HI0 := n2_; have BK563 := n3_; have HK := n4_; have HB := n5_; have BK576 := n6_; have GW576 := n7_; have GE576 := n8_; have NB563_576 := n9_; have NB576_563 := n10_; have NB0_576 := n11_; have NB576_0 := n12_; clear n0_ n1_ n2_ n3_ n4_ n5_ n6_ n7_ n8_ n9_ n10_ n11_ n12_; clear hb hbox hg; have hnb17 := NB576_563.out; have hnc17 := NB563_576.out; have hnb18 := NB576_0.out; have hnc18 := NB0_576.out; have hcz19_0 : w16.cell? ⟨gb576, 0, none⟩ = some (.string (⟨#[]⟩ : ByteArray)) := bc BK576 0; have hcz19_1 : w16.cell? ⟨gb576, 1, none⟩ = some (.int .i64 0) := bc BK576 1; have hcz19_2 : w16.cell? ⟨gb576, 2, none⟩ = some (.int .i64 0) := bc BK576 2; have hcz19_3 : w16.cell? ⟨gb576, 3, none⟩ = some (.string (⟨#[]⟩ : ByteArray)) := bc BK576 3; have hcz19_4 : w16.cell? ⟨gb576, 4, none⟩ = some (.slice none 0 0) := bc BK576 4; have hcz19_5 : w16.cell? ⟨gb576, 5, none⟩ = some (.slice none 0 0) := bc BK576 5; have hcz19_6 : w16.cell? ⟨gb576, 6, none⟩ = some (.slice none 0 0) := bc BK576 6; have hfz19_0 := zq6 BK576.out 0; have hfz19_1 := zq6 BK576.out 1; have hfz19_2 := zq6 BK576.out 2; have hfz19_3 := zq6 BK576.out 3; have hfz19_4 := zq6 BK576.out 4; have hfz19_5 := zq6 BK576.out 5; have hfz19_6 := zq6 BK576.out 6))
 (try simp only [Act.put, zq0, zq1, zq2])
 go_cut [] (fun wc => ∃ (kq : Nat) (x1001_4 : Int) (x577003_4 : ByteArray) (x577004_4 : List ByteArray) (x577005_4 : List (S99)) (x577006_4 : List (S101)) (u577004 : Value) (u577005 : Value) (u577006 : Value), Aside0 (spec_l11Entry.j0 kq s0_0 x1001_4 t567 t574 (wrap64 (1 + t569)) x577003_4 x577004_4 x577005_4 x577006_4 = some (r1, r2, r3, r4, r5, r6, r7, r8)) ∧ Aside0 (kq ≤ k) ∧ Aside0 (Kd.V Kd.string 9 wc w.heap.size (fun k_ => (w.heap.size ≤ k_) ∧ some k_ ≠ (u577005 : Value).ownBlock ∧ some k_ ≠ (u577006 : Value).ownBlock ∧ k_ ≠ gb563 ∧ k_ ≠ gb576 ∧ k_ ≠ g) u577004 x577004_4) ∧ Aside0 (Kd.R k99 99 wc w.heap.size (fun k_ => (w.heap.size ≤ k_)) u577005 x577005_4) ∧ Aside0 (Kd.R k101 101 wc w.heap.size (fun k_ => (w.heap.size ≤ k_)) u577006 x577006_4) ∧ Aside0 (wc.heap[gb563]? = some (.cells #[.string (⟨#[]⟩ : ByteArray), .int .i64 0, .int .i64 0, .string (⟨#[]⟩ : ByteArray), (.slice none 0 0), (.slice none 0 0), (.slice none 0 0)] 32 (0, 0))) ∧ Aside0 (wc.heap[gb576]? = some (.cells #[.string t567, .int .i64 t574, .int .i64 (wrap64 (1 + t569)), .string x577003_4, u577004, u577005, u577006] 32 (0, 0))) ∧ Aside0 (IsS118 w0 wc g s0_0 x1001_4) ∧ Aside0 (KeepBut w wc g none) ∧ Aside0 (Below w0.heap.size w0 wc))
 case first =>
  have H := HC5.out
  clear HC5
  by_cases c20 : (wrap64 (1 + t569)) = 1
  ·rw [if_pos c20] at H
   have c20b0 : ((wrap64 (1 + t569)) == 1) = true := beq_iff_eq.mpr c20
   have c20b1 : ((wrap64 (1 + t569)) != 1) = false := bne_eq_false_iff_eq.mpr c20
   clear c20
   (first | rw [c20b0] | (simp only [i64_w, i32_w]; rw [c20b0]) | skip)
   replace H := Option.bind_eq_some_iff.mp H
   obtain ⟨⟨t577, t578⟩, A210, H⟩ := H
   try dsimp only at H
   have A21 := zq9 A210
   clear A210
   have H' := zq9 H
   clear H
   go_wp2_with (first | ((with_reducible refine zq24 (f := 93) rfl ?_); refine gl (some 19) Try.func93 #[.pointer (some ⟨g, 0, none⟩)] ?_; (with_reducible refine (spec_l11Text.calls k g s0_0 t575 t577 t578 w0 _ ?side1 ?side2 A21.out).mono ?_); (case side1 => repeat (first | (with_reducible first | exact HI0.out | apply IsS118.alloc | apply IsS118.drewN | apply IsS118.drew | apply IsS118.set_1 | refine IsS118.far ?_ NB0_563.out _ | refine IsS118.far ?_ NB0_576.out _) | exact HI0.out)); (case side2 => exact b3 HB (zq9 (IsS118.ge HI0.out)) GE563 GE576); rintro e w22 ⟨rfl, hi, hb, hk⟩; refine ⟨_, rfl, ?_⟩; have n0_ := zq9 (KeepBut.blk hk (g' := gb563) (o := .cells #[.string (⟨#[]⟩ : ByteArray), .int .i64 0, .int .i64 0, .string (⟨#[]⟩ : ByteArray), .slice none 0 0, .slice none 0 0, .slice none 0 0] 32 (0, 0)) (by refine bp ?_; refine blk_far ?_ NB563_576.out _; refine bp ?_; refine blk_far ?_ NB563_576.out _; refine bp ?_; refine blk_far ?_ NB563_576.out _; refine bp ?_; refine blk_far ?_ NB563_576.out _; refine bp ?_; refine blk_far ?_ NB563_576.out _; refine bp ?_; refine blk_far ?_ NB563_576.out _; refine bp ?_; refine blk_far ?_ NB563_576.out _; refine bp ?_; exact BK563.out) NB563_0.out (by simp)); have n1_ := zq9 (Kd.R_mono (Kd.R_keep (IsS118.apart (show IsS118 w0 _ g s0_0 t575 from by repeat (first | (with_reducible first | exact HI0.out | apply IsS118.alloc | apply IsS118.drewN | apply IsS118.drew | apply IsS118.set_1 | refine IsS118.far ?_ NB0_563.out _ | refine IsS118.far ?_ NB0_576.out _) | exact HI0.out)) (by (with_reducible repeat (first | apply zq10 | apply zq11 | apply zq12)); exact (Kd.R_mono (Kd.R_far (p := ⟨gb576, 6, none⟩) (Kd.R_far (p := ⟨gb576, 5, none⟩) (Kd.R_far (p := ⟨gb576, 4, none⟩) (Kd.R_far (p := ⟨gb576, 3, none⟩) (Kd.R_far (p := ⟨gb576, 2, none⟩) (Kd.R_far (p := ⟨gb576, 1, none⟩) (Kd.R_far (p := ⟨gb576, 0, none⟩) (Kd.R_types HO566.out BK576.out (by decide)) (fun _ hk => hk.2) (.string t567)) (fun _ hk => hk.2) (.int .i64 t574)) (fun _ hk => hk.2) (.int .i64 (wrap64 (1 + t569)))) (fun _ hk => hk.2) (.string (⟨#[]⟩ : ByteArray))) (fun _ hk => hk.2) (.slice none 0 0)) (fun _ hk => hk.2) (.slice none 0 0)) (fun _ hk => hk.2) (.slice none 0 0)) (fun _ h_ => h_.1))) (by decide)) hk (fun _ h => h.2)) (fun _ h => h.1)); have n2_ := zq9 (Kd.R_mono (Kd.R_keep (IsS118.apart (show IsS118 w0 _ g s0_0 t575 from by repeat (first | (with_reducible first | exact HI0.out | apply IsS118.alloc | apply IsS118.drewN | apply IsS118.drew | apply IsS118.set_1 | refine IsS118.far ?_ NB0_563.out _ | refine IsS118.far ?_ NB0_576.out _) | exact HI0.out)) (by (with_reducible repeat (first | apply zq10 | apply zq11 | apply zq12)); exact (Kd.R_mono (Kd.R_far (p := ⟨gb576, 6, none⟩) (Kd.R_far (p := ⟨gb576, 5, none⟩) (Kd.R_far (p := ⟨gb576, 4, none⟩) (Kd.R_far (p := ⟨gb576, 3, none⟩) (Kd.R_far (p := ⟨gb576, 2, none⟩) (Kd.R_far (p := ⟨gb576, 1, none⟩) (Kd.R_far (p := ⟨gb576, 0, none⟩) (Kd.R_types HO573.out BK576.out (by decide)) (fun _ hk => hk.2) (.string t567)) (fun _ hk => hk.2) (.int .i64 t574)) (fun _ hk => hk.2) (.int .i64 (wrap64 (1 + t569)))) (fun _ hk => hk.2) (.string (⟨#[]⟩ : ByteArray))) (fun _ hk => hk.2) (.slice none 0 0)) (fun _ hk => hk.2) (.slice none 0 0)) (fun _ hk => hk.2) (.slice none 0 0)) (fun _ h_ => h_.1))) (by decide)) hk (fun _ h => h.2)) (fun _ h => h.1)); have n3_ := zq9 (KeepBut.blk hk (g' := gb576) (o := .cells #[.string t567, .int .i64 t574, .int .i64 (wrap64 (1 + t569)), .string (⟨#[]⟩ : ByteArray), .slice none 0 0, .slice none 0 0, .slice none 0 0] 32 (0, 0)) (by refine bp ?_; refine blk_put (cs := #[.string t567, .int .i64 t574, .int .i64 (wrap64 (1 + t569)), .string (⟨#[]⟩ : ByteArray), .slice none 0 0, .slice none 0 0, .slice none 0 0]) ?_ 6 _ rfl; refine bp ?_; refine blk_put (cs := #[.string t567, .int .i64 t574, .int .i64 (wrap64 (1 + t569)), .string (⟨#[]⟩ : ByteArray), .slice none 0 0, .slice none 0 0, .slice none 0 0]) ?_ 5 _ rfl; refine bp ?_; refine blk_put (cs := #[.string t567, .int .i64 t574, .int .i64 (wrap64 (1 + t569)), .string (⟨#[]⟩ : ByteArray), .slice none 0 0, .slice none 0 0, .slice none 0 0]) ?_ 4 _ rfl; refine bp ?_; refine blk_put (cs := #[.string t567, .int .i64 t574, .int .i64 (wrap64 (1 + t569)), .string (⟨#[]⟩ : ByteArray), .slice none 0 0, .slice none 0 0, .slice none 0 0]) ?_ 3 _ rfl; refine bp ?_; refine blk_put (cs := #[.string t567, .int .i64 t574, .int .i64 0, .string (⟨#[]⟩ : ByteArray), .slice none 0 0, .slice none 0 0, .slice none 0 0]) ?_ 2 _ rfl; refine bp ?_; refine blk_put (cs := #[.string t567, .int .i64 0, .int .i64 0, .string (⟨#[]⟩ : ByteArray), .slice none 0 0, .slice none 0 0, .slice none 0 0]) ?_ 1 _ rfl; refine bp ?_; refine blk_put (cs := #[.string (⟨#[]⟩ : ByteArray), .int .i64 0, .int .i64 0, .string (⟨#[]⟩ : ByteArray), .slice none 0 0, .slice none 0 0, .slice none 0 0]) ?_ 0 _ rfl; refine bp ?_; exact BK576.out) NB576_0.out (by simp)); have n4_ := zq9 (KeepBut.trans (by repeat (first | (with_reducible first | exact HK.out | apply zq13 | apply zq14 | apply zq15 | apply zq16 | refine zq17 ?_ GW563.out _ | refine zq17 ?_ GW576.out _) | exact HK.out)) hk (.inl rfl)); have n5_ := zq9 (hb); have n6_ := zq9 (hi); clear BK563; clear HO566; clear HO573; clear BK576; clear HK; clear HB; clear HI0; have BK563 := n0_; have HO566 := n1_; have HO573 := n2_; have BK576 := n3_; have HK := n4_; have HB := n5_; have HI0 := n6_; clear n0_ n1_ n2_ n3_ n4_ n5_ n6_; (try clear hb); (try clear hb2); (try clear hk); (try clear hi); have hnb23 := NB576_563.out; have hnc23 := NB563_576.out; have hnb24 := NB576_0.out; have hnc24 := NB0_576.out; have hcz25_0 : w22.cell? ⟨gb576, 0, none⟩ = some (.string t567) := bc BK576 0; have hcz25_1 : w22.cell? ⟨gb576, 1, none⟩ = some (.int .i64 t574) := bc BK576 1; have hcz25_2 : w22.cell? ⟨gb576, 2, none⟩ = some (.int .i64 (wrap64 (1 + t569))) := bc BK576 2; have hcz25_3 : w22.cell? ⟨gb576, 3, none⟩ = some (.string (⟨#[]⟩ : ByteArray)) := bc BK576 3; have hcz25_4 : w22.cell? ⟨gb576, 4, none⟩ = some (.slice none 0 0) := bc BK576 4; have hcz25_5 : w22.cell? ⟨gb576, 5, none⟩ = some (.slice none 0 0) := bc BK576 5; have hcz25_6 : w22.cell? ⟨gb576, 6, none⟩ = some (.slice none 0 0) := bc BK576 6; have hfz25_0 := zq6 BK576.out 0; have hfz25_1 := zq6 BK576.out 1; have hfz25_2 := zq6 BK576.out 2; have hfz25_3 := zq6 BK576.out 3; have hfz25_4 := zq6 BK576.out 4; have hfz25_5 := zq6 BK576.out 5; have hfz25_6 := zq6 BK576.out 6))
   go_meet
   case rel => exact ⟨_, (t578), (t577), (([] : List ByteArray)), (([] : List (S99))), (([] : List (S101))), (.slice none 0 0), (.slice none 0 0), (.slice none 0 0), H', ⟨by first | omega | exact Nat.le_refl _⟩, ⟨Kd.R_V (base := 0) (by first | exact Kd.R_nil _ _ _ _ _ | exact Kd.N_nil _ _ _ _ _ | exact Kd.V_nil _ _ _ _ _ | exact Kd.Q_nil _ _ _ _ _ | exact Kd.S_nil _ _ _ _ _)⟩, ⟨by first | exact Kd.R_nil _ _ _ _ _ | exact Kd.N_nil _ _ _ _ _ | exact Kd.V_nil _ _ _ _ _ | exact Kd.Q_nil _ _ _ _ _ | exact Kd.S_nil _ _ _ _ _⟩, ⟨by first | exact Kd.R_nil _ _ _ _ _ | exact Kd.N_nil _ _ _ _ _ | exact Kd.V_nil _ _ _ _ _ | exact Kd.Q_nil _ _ _ _ _ | exact Kd.S_nil _ _ _ _ _⟩, ⟨by refine bp ?_; refine blk_far ?_ NB563_576.out _; refine bp ?_; exact BK563.out⟩, ⟨by refine bp ?_; refine blk_put (cs := #[.string t567, .int .i64 t574, .int .i64 (wrap64 (1 + t569)), .string (⟨#[]⟩ : ByteArray), .slice none 0 0, .slice none 0 0, .slice none 0 0]) ?_ 3 _ rfl; refine bp ?_; exact BK576.out⟩, ⟨by repeat (first | (with_reducible first | exact HI0.out | apply IsS118.alloc | apply IsS118.drewN | apply IsS118.drew | apply IsS118.set_1 | refine IsS118.far ?_ NB0_563.out _ | refine IsS118.far ?_ NB0_576.out _) | exact HI0.out)⟩, ⟨by repeat (first | (with_reducible first | exact HK.out | apply zq13 | apply zq14 | apply zq15 | apply zq16 | refine zq17 ?_ GW563.out _ | refine zq17 ?_ GW576.out _) | exact HK.out)⟩, ⟨by exact b3 HB (zq9 (IsS118.ge HI0.out)) GE563 GE576⟩⟩
  ·rw [if_neg c20] at H
   have c20b0 : ((wrap64 (1 + t569)) == 1) = false := beq_eq_false_iff_ne.mpr c20
   have c20b1 : ((wrap64 (1 + t569)) != 1) = true := bne_iff_ne.mpr c20
   (first | rw [c20b0] | (simp only [i64_w, i32_w]; rw [c20b0]) | skip)
   by_cases c26 : (wrap64 (1 + t569)) = 2
   ·rw [if_pos c26] at H
    have c26b0 : ((wrap64 (1 + t569)) == 2) = true := beq_iff_eq.mpr c26
    have c26b1 : ((wrap64 (1 + t569)) != 2) = false := bne_eq_false_iff_eq.mpr c26
    clear c26
    replace H := Option.bind_eq_some_iff.mp H
    obtain ⟨⟨t579, t582⟩, A270, H⟩ := H
    try dsimp only at H
    have A27 := zq9 A270
    clear A270
    have H' := zq9 H
    clear H
    go_wp2_with (first | ((with_reducible refine zq24 (f := 94) rfl ?_); refine gl (some 24) Try.func94 #[.pointer (some ⟨g, 0, none⟩)] ?_; (with_reducible refine (spec_l11AnyTexts.calls k g s0_0 t575 t579 t582 w0 _ ?side1 ?side2 A27.out).mono ?_); (case side1 => repeat (first | (with_reducible first | exact HI0.out | apply IsS118.alloc | apply IsS118.drewN | apply IsS118.drew | apply IsS118.set_1 | refine IsS118.far ?_ NB0_563.out _ | refine IsS118.far ?_ NB0_576.out _) | exact HI0.out)); (case side2 => exact b3 HB (zq9 (IsS118.ge HI0.out)) GE563 GE576); rintro e w28 ⟨v580, rfl, ho0, hi, hb, hk⟩; refine ⟨_, rfl, ?_⟩; have n0_ := zq9 (KeepBut.blk hk (g' := gb563) (o := .cells #[.string (⟨#[]⟩ : ByteArray), .int .i64 0, .int .i64 0, .string (⟨#[]⟩ : ByteArray), .slice none 0 0, .slice none 0 0, .slice none 0 0] 32 (0, 0)) (by refine bp ?_; refine blk_far ?_ NB563_576.out _; refine bp ?_; refine blk_far ?_ NB563_576.out _; refine bp ?_; refine blk_far ?_ NB563_576.out _; refine bp ?_; refine blk_far ?_ NB563_576.out _; refine bp ?_; refine blk_far ?_ NB563_576.out _; refine bp ?_; refine blk_far ?_ NB563_576.out _; refine bp ?_; refine blk_far ?_ NB563_576.out _; refine bp ?_; exact BK563.out) NB563_0.out (by simp)); have n1_ := zq9 (Kd.R_mono (Kd.R_told (Kd.R_oldK (IsS118.apart (show IsS118 w0 _ g s0_0 t575 from by repeat (first | (with_reducible first | exact HI0.out | apply IsS118.alloc | apply IsS118.drewN | apply IsS118.drew | apply IsS118.set_1 | refine IsS118.far ?_ NB0_563.out _ | refine IsS118.far ?_ NB0_576.out _) | exact HI0.out)) (by (with_reducible repeat (first | apply zq10 | apply zq11 | apply zq12)); exact (Kd.R_mono (Kd.R_far (p := ⟨gb576, 6, none⟩) (Kd.R_far (p := ⟨gb576, 5, none⟩) (Kd.R_far (p := ⟨gb576, 4, none⟩) (Kd.R_far (p := ⟨gb576, 3, none⟩) (Kd.R_far (p := ⟨gb576, 2, none⟩) (Kd.R_far (p := ⟨gb576, 1, none⟩) (Kd.R_far (p := ⟨gb576, 0, none⟩) (Kd.R_types HO566.out BK576.out (by decide)) (fun _ hk => hk.2) (.string t567)) (fun _ hk => hk.2) (.int .i64 t574)) (fun _ hk => hk.2) (.int .i64 (wrap64 (1 + t569)))) (fun _ hk => hk.2) (.string (⟨#[]⟩ : ByteArray))) (fun _ hk => hk.2) (.slice none 0 0)) (fun _ hk => hk.2) (.slice none 0 0)) (fun _ hk => hk.2) (.slice none 0 0)) (fun _ h_ => h_.1))) (by decide)) hk) (Kd.R_base ho0)) (fun _ h_ => h_.1)); have n2_ := zq9 (Kd.R_mono (Kd.R_keep (IsS118.apart (show IsS118 w0 _ g s0_0 t575 from by repeat (first | (with_reducible first | exact HI0.out | apply IsS118.alloc | apply IsS118.drewN | apply IsS118.drew | apply IsS118.set_1 | refine IsS118.far ?_ NB0_563.out _ | refine IsS118.far ?_ NB0_576.out _) | exact HI0.out)) (by (with_reducible repeat (first | apply zq10 | apply zq11 | apply zq12)); exact (Kd.R_mono (Kd.R_far (p := ⟨gb576, 6, none⟩) (Kd.R_far (p := ⟨gb576, 5, none⟩) (Kd.R_far (p := ⟨gb576, 4, none⟩) (Kd.R_far (p := ⟨gb576, 3, none⟩) (Kd.R_far (p := ⟨gb576, 2, none⟩) (Kd.R_far (p := ⟨gb576, 1, none⟩) (Kd.R_far (p := ⟨gb576, 0, none⟩) (Kd.R_types HO573.out BK576.out (by decide)) (fun _ hk => hk.2) (.string t567)) (fun _ hk => hk.2) (.int .i64 t574)) (fun _ hk => hk.2) (.int .i64 (wrap64 (1 + t569)))) (fun _ hk => hk.2) (.string (⟨#[]⟩ : ByteArray))) (fun _ hk => hk.2) (.slice none 0 0)) (fun _ hk => hk.2) (.slice none 0 0)) (fun _ hk => hk.2) (.slice none 0 0)) (fun _ h_ => h_.1))) (by decide)) hk (fun _ h => h.2)) (fun _ h => h.1)); have n3_ := zq9 (KeepBut.blk hk (g' := gb576) (o := .cells #[.string t567, .int .i64 t574, .int .i64 (wrap64 (1 + t569)), .string (⟨#[]⟩ : ByteArray), .slice none 0 0, .slice none 0 0, .slice none 0 0] 32 (0, 0)) (by refine bp ?_; refine blk_put (cs := #[.string t567, .int .i64 t574, .int .i64 (wrap64 (1 + t569)), .string (⟨#[]⟩ : ByteArray), .slice none 0 0, .slice none 0 0, .slice none 0 0]) ?_ 6 _ rfl; refine bp ?_; refine blk_put (cs := #[.string t567, .int .i64 t574, .int .i64 (wrap64 (1 + t569)), .string (⟨#[]⟩ : ByteArray), .slice none 0 0, .slice none 0 0, .slice none 0 0]) ?_ 5 _ rfl; refine bp ?_; refine blk_put (cs := #[.string t567, .int .i64 t574, .int .i64 (wrap64 (1 + t569)), .string (⟨#[]⟩ : ByteArray), .slice none 0 0, .slice none 0 0, .slice none 0 0]) ?_ 4 _ rfl; refine bp ?_; refine blk_put (cs := #[.string t567, .int .i64 t574, .int .i64 (wrap64 (1 + t569)), .string (⟨#[]⟩ : ByteArray), .slice none 0 0, .slice none 0 0, .slice none 0 0]) ?_ 3 _ rfl; refine bp ?_; refine blk_put (cs := #[.string t567, .int .i64 t574, .int .i64 0, .string (⟨#[]⟩ : ByteArray), .slice none 0 0, .slice none 0 0, .slice none 0 0]) ?_ 2 _ rfl; refine bp ?_; refine blk_put (cs := #[.string t567, .int .i64 0, .int .i64 0, .string (⟨#[]⟩ : ByteArray), .slice none 0 0, .slice none 0 0, .slice none 0 0]) ?_ 1 _ rfl; refine bp ?_; refine blk_put (cs := #[.string (⟨#[]⟩ : ByteArray), .int .i64 0, .int .i64 0, .string (⟨#[]⟩ : ByteArray), .slice none 0 0, .slice none 0 0, .slice none 0 0]) ?_ 0 _ rfl; refine bp ?_; exact BK576.out) NB576_0.out (by simp)); have n4_ := zq9 (Kd.R_lower (Kd.R_new' (Kd.R_newM (M := fun k_ => (w.heap.size ≤ k_)) ho0 (keep_size (w := w) (g := g) (row := none) (by repeat (first | (with_reducible first | exact HK.out | apply zq13 | apply zq14 | apply zq15 | apply zq16 | refine zq17 ?_ GW563.out _ | refine zq17 ?_ GW576.out _) | exact HK.out))) (fun k_ h_ => h_)) (Kd.R_lt (by (with_reducible repeat (first | apply zq10 | apply zq11 | apply zq12)); exact (Kd.R_mono (Kd.R_far (p := ⟨gb576, 6, none⟩) (Kd.R_far (p := ⟨gb576, 5, none⟩) (Kd.R_far (p := ⟨gb576, 4, none⟩) (Kd.R_far (p := ⟨gb576, 3, none⟩) (Kd.R_far (p := ⟨gb576, 2, none⟩) (Kd.R_far (p := ⟨gb576, 1, none⟩) (Kd.R_far (p := ⟨gb576, 0, none⟩) (Kd.R_types HO566.out BK576.out (by decide)) (fun _ hk => hk.2) (.string t567)) (fun _ hk => hk.2) (.int .i64 t574)) (fun _ hk => hk.2) (.int .i64 (wrap64 (1 + t569)))) (fun _ hk => hk.2) (.string (⟨#[]⟩ : ByteArray))) (fun _ hk => hk.2) (.slice none 0 0)) (fun _ hk => hk.2) (.slice none 0 0)) (fun _ hk => hk.2) (.slice none 0 0)) (fun _ h_ => h_.1))))) (keep_size (w := w) (g := g) (row := none) (by repeat (first | (with_reducible first | exact HK.out | apply zq13 | apply zq14 | apply zq15 | apply zq16 | refine zq17 ?_ GW563.out _ | refine zq17 ?_ GW576.out _) | exact HK.out)))); have n5_ := zq9 (KeepBut.trans (by repeat (first | (with_reducible first | exact HK.out | apply zq13 | apply zq14 | apply zq15 | apply zq16 | refine zq17 ?_ GW563.out _ | refine zq17 ?_ GW576.out _) | exact HK.out)) hk (.inl rfl)); have n6_ := zq9 (hb); have n7_ := zq9 (hi); clear BK563; clear HO566; clear HO573; clear BK576; clear HK; clear HB; clear HI0; have BK563 := n0_; have HO566 := n1_; have HO573 := n2_; have BK576 := n3_; have HO581 := n4_; have HK := n5_; have HB := n6_; have HI0 := n7_; clear n0_ n1_ n2_ n3_ n4_ n5_ n6_ n7_; (try clear hb); (try clear hb2); (try clear hk); (try clear hi); (try clear ho0); obtain ⟨Ao29, co29, eo29⟩ := Kd.R_slice HO581.out; subst eo29; have hnb30 := NB576_563.out; have hnc30 := NB563_576.out; have hnb31 := NB576_0.out; have hnc31 := NB0_576.out; have hcz32_0 : w28.cell? ⟨gb576, 0, none⟩ = some (.string t567) := bc BK576 0; have hcz32_1 : w28.cell? ⟨gb576, 1, none⟩ = some (.int .i64 t574) := bc BK576 1; have hcz32_2 : w28.cell? ⟨gb576, 2, none⟩ = some (.int .i64 (wrap64 (1 + t569))) := bc BK576 2; have hcz32_3 : w28.cell? ⟨gb576, 3, none⟩ = some (.string (⟨#[]⟩ : ByteArray)) := bc BK576 3; have hcz32_4 : w28.cell? ⟨gb576, 4, none⟩ = some (.slice none 0 0) := bc BK576 4; have hcz32_5 : w28.cell? ⟨gb576, 5, none⟩ = some (.slice none 0 0) := bc BK576 5; have hcz32_6 : w28.cell? ⟨gb576, 6, none⟩ = some (.slice none 0 0) := bc BK576 6; have hfz32_0 := zq6 BK576.out 0; have hfz32_1 := zq6 BK576.out 1; have hfz32_2 := zq6 BK576.out 2; have hfz32_3 := zq6 BK576.out 3; have hfz32_4 := zq6 BK576.out 4; have hfz32_5 := zq6 BK576.out 5; have hfz32_6 := zq6 BK576.out 6))
    go_meet
    case rel => exact ⟨_, (t582), ((⟨#[]⟩ : ByteArray)), (t579), (([] : List (S99))), (([] : List (S101))), (.slice Ao29 t579.length co29), (.slice none 0 0), (.slice none 0 0), H', ⟨by first | omega | exact Nat.le_refl _⟩, ⟨Kd.R_V (by (with_reducible repeat (first | apply zq10 | apply zq11 | apply zq12)); exact Kd.R_mono (Kd.R_far (p := ⟨gb576, 4, none⟩) (Kd.R_types (IsS118.apart HI0.out (Kd.R_types (Kd.R_types HO581.out BK563.out (by decide)) BK576.out (by decide)) (by decide)) BK576.out (by decide)) (fun _ hk => hk.2) (.slice Ao29 t579.length co29)) (fun _ hk => ⟨hk.1.1.1.1.1.1, ⟨(by simp [Value.ownBlock]), ⟨(by simp [Value.ownBlock]), ⟨hk.1.1.1.2, ⟨hk.1.1.2, hk.1.2⟩⟩⟩⟩⟩))⟩, ⟨by first | exact Kd.R_nil _ _ _ _ _ | exact Kd.N_nil _ _ _ _ _ | exact Kd.V_nil _ _ _ _ _ | exact Kd.Q_nil _ _ _ _ _ | exact Kd.S_nil _ _ _ _ _⟩, ⟨by first | exact Kd.R_nil _ _ _ _ _ | exact Kd.N_nil _ _ _ _ _ | exact Kd.V_nil _ _ _ _ _ | exact Kd.Q_nil _ _ _ _ _ | exact Kd.S_nil _ _ _ _ _⟩, ⟨by refine bp ?_; refine blk_far ?_ NB563_576.out _; refine bp ?_; exact BK563.out⟩, ⟨by refine bp ?_; refine blk_put (cs := #[.string t567, .int .i64 t574, .int .i64 (wrap64 (1 + t569)), .string (⟨#[]⟩ : ByteArray), .slice none 0 0, .slice none 0 0, .slice none 0 0]) ?_ 4 _ rfl; refine bp ?_; exact BK576.out⟩, ⟨by repeat (first | (with_reducible first | exact HI0.out | apply IsS118.alloc | apply IsS118.drewN | apply IsS118.drew | apply IsS118.set_1 | refine IsS118.far ?_ NB0_563.out _ | refine IsS118.far ?_ NB0_576.out _) | exact HI0.out)⟩, ⟨by repeat (first | (with_reducible first | exact HK.out | apply zq13 | apply zq14 | apply zq15 | apply zq16 | refine zq17 ?_ GW563.out _ | refine zq17 ?_ GW576.out _) | exact HK.out)⟩, ⟨by exact b3 HB (zq9 (IsS118.ge HI0.out)) GE563 GE576⟩⟩
   ·rw [if_neg c26] at H
    have c26b0 : ((wrap64 (1 + t569)) == 2) = false := beq_eq_false_iff_ne.mpr c26
    have c26b1 : ((wrap64 (1 + t569)) != 2) = true := bne_iff_ne.mpr c26
    by_cases c33 : (wrap64 (1 + t569)) = 3
    ·rw [if_pos c33] at H
     have c33b0 : ((wrap64 (1 + t569)) == 3) = true := beq_iff_eq.mpr c33
     have c33b1 : ((wrap64 (1 + t569)) != 3) = false := bne_eq_false_iff_eq.mpr c33
     clear c33
     replace H := Option.bind_eq_some_iff.mp H
     obtain ⟨⟨t583, t586⟩, A340, H⟩ := H
     try dsimp only at H
     have A34 := zq9 A340
     clear A340
     have H' := zq9 H
     clear H
     go_wp2_with (first | ((with_reducible refine zq24 (f := 95) rfl ?_); refine gl (some 29) Try.func95 #[.pointer (some ⟨g, 0, none⟩)] ?_; (with_reducible refine (spec_l11AnySet.calls k g s0_0 t575 t583 t586 w0 _ ?side1 ?side2 A34.out).mono ?_); (case side1 => repeat (first | (with_reducible first | exact HI0.out | apply IsS118.alloc | apply IsS118.drewN | apply IsS118.drew | apply IsS118.set_1 | refine IsS118.far ?_ NB0_563.out _ | refine IsS118.far ?_ NB0_576.out _) | exact HI0.out)); (case side2 => exact b3 HB (zq9 (IsS118.ge HI0.out)) GE563 GE576); rintro e w35 ⟨v584, rfl, ho0, hi, hb, hk⟩; refine ⟨_, rfl, ?_⟩; have n0_ := zq9 (KeepBut.blk hk (g' := gb563) (o := .cells #[.string (⟨#[]⟩ : ByteArray), .int .i64 0, .int .i64 0, .string (⟨#[]⟩ : ByteArray), .slice none 0 0, .slice none 0 0, .slice none 0 0] 32 (0, 0)) (by refine bp ?_; refine blk_far ?_ NB563_576.out _; refine bp ?_; refine blk_far ?_ NB563_576.out _; refine bp ?_; refine blk_far ?_ NB563_576.out _; refine bp ?_; refine blk_far ?_ NB563_576.out _; refine bp ?_; refine blk_far ?_ NB563_576.out _; refine bp ?_; refine blk_far ?_ NB563_576.out _; refine bp ?_; refine blk_far ?_ NB563_576.out _; refine bp ?_; exact BK563.out) NB563_0.out (by simp)); have n1_ := zq9 (Kd.R_mono (Kd.R_keep (IsS118.apart (show IsS118 w0 _ g s0_0 t575 from by repeat (first | (with_reducible first | exact HI0.out | apply IsS118.alloc | apply IsS118.drewN | apply IsS118.drew | apply IsS118.set_1 | refine IsS118.far ?_ NB0_563.out _ | refine IsS118.far ?_ NB0_576.out _) | exact HI0.out)) (by (with_reducible repeat (first | apply zq10 | apply zq11 | apply zq12)); exact (Kd.R_mono (Kd.R_far (p := ⟨gb576, 6, none⟩) (Kd.R_far (p := ⟨gb576, 5, none⟩) (Kd.R_far (p := ⟨gb576, 4, none⟩) (Kd.R_far (p := ⟨gb576, 3, none⟩) (Kd.R_far (p := ⟨gb576, 2, none⟩) (Kd.R_far (p := ⟨gb576, 1, none⟩) (Kd.R_far (p := ⟨gb576, 0, none⟩) (Kd.R_types HO566.out BK576.out (by decide)) (fun _ hk => hk.2) (.string t567)) (fun _ hk => hk.2) (.int .i64 t574)) (fun _ hk => hk.2) (.int .i64 (wrap64 (1 + t569)))) (fun _ hk => hk.2) (.string (⟨#[]⟩ : ByteArray))) (fun _ hk => hk.2) (.slice none 0 0)) (fun _ hk => hk.2) (.slice none 0 0)) (fun _ hk => hk.2) (.slice none 0 0)) (fun _ h_ => h_.1))) (by decide)) hk (fun _ h => h.2)) (fun _ h => h.1)); have n2_ := zq9 (Kd.R_mono (Kd.R_keep (IsS118.apart (show IsS118 w0 _ g s0_0 t575 from by repeat (first | (with_reducible first | exact HI0.out | apply IsS118.alloc | apply IsS118.drewN | apply IsS118.drew | apply IsS118.set_1 | refine IsS118.far ?_ NB0_563.out _ | refine IsS118.far ?_ NB0_576.out _) | exact HI0.out)) (by (with_reducible repeat (first | apply zq10 | apply zq11 | apply zq12)); exact (Kd.R_mono (Kd.R_far (p := ⟨gb576, 6, none⟩) (Kd.R_far (p := ⟨gb576, 5, none⟩) (Kd.R_far (p := ⟨gb576, 4, none⟩) (Kd.R_far (p := ⟨gb576, 3, none⟩) (Kd.R_far (p := ⟨gb576, 2, none⟩) (Kd.R_far (p := ⟨gb576, 1, none⟩) (Kd.R_far (p := ⟨gb576, 0, none⟩) (Kd.R_types HO573.out BK576.out (by decide)) (fun _ hk => hk.2) (.string t567)) (fun _ hk => hk.2) (.int .i64 t574)) (fun _ hk => hk.2) (.int .i64 (wrap64 (1 + t569)))) (fun _ hk => hk.2) (.string (⟨#[]⟩ : ByteArray))) (fun _ hk => hk.2) (.slice none 0 0)) (fun _ hk => hk.2) (.slice none 0 0)) (fun _ hk => hk.2) (.slice none 0 0)) (fun _ h_ => h_.1))) (by decide)) hk (fun _ h => h.2)) (fun _ h => h.1)); have n3_ := zq9 (KeepBut.blk hk (g' := gb576) (o := .cells #[.string t567, .int .i64 t574, .int .i64 (wrap64 (1 + t569)), .string (⟨#[]⟩ : ByteArray), .slice none 0 0, .slice none 0 0, .slice none 0 0] 32 (0, 0)) (by refine bp ?_; refine blk_put (cs := #[.string t567, .int .i64 t574, .int .i64 (wrap64 (1 + t569)), .string (⟨#[]⟩ : ByteArray), .slice none 0 0, .slice none 0 0, .slice none 0 0]) ?_ 6 _ rfl; refine bp ?_; refine blk_put (cs := #[.string t567, .int .i64 t574, .int .i64 (wrap64 (1 + t569)), .string (⟨#[]⟩ : ByteArray), .slice none 0 0, .slice none 0 0, .slice none 0 0]) ?_ 5 _ rfl; refine bp ?_; refine blk_put (cs := #[.string t567, .int .i64 t574, .int .i64 (wrap64 (1 + t569)), .string (⟨#[]⟩ : ByteArray), .slice none 0 0, .slice none 0 0, .slice none 0 0]) ?_ 4 _ rfl; refine bp ?_; refine blk_put (cs := #[.string t567, .int .i64 t574, .int .i64 (wrap64 (1 + t569)), .string (⟨#[]⟩ : ByteArray), .slice none 0 0, .slice none 0 0, .slice none 0 0]) ?_ 3 _ rfl; refine bp ?_; refine blk_put (cs := #[.string t567, .int .i64 t574, .int .i64 0, .string (⟨#[]⟩ : ByteArray), .slice none 0 0, .slice none 0 0, .slice none 0 0]) ?_ 2 _ rfl; refine bp ?_; refine blk_put (cs := #[.string t567, .int .i64 0, .int .i64 0, .string (⟨#[]⟩ : ByteArray), .slice none 0 0, .slice none 0 0, .slice none 0 0]) ?_ 1 _ rfl; refine bp ?_; refine blk_put (cs := #[.string (⟨#[]⟩ : ByteArray), .int .i64 0, .int .i64 0, .string (⟨#[]⟩ : ByteArray), .slice none 0 0, .slice none 0 0, .slice none 0 0]) ?_ 0 _ rfl; refine bp ?_; exact BK576.out) NB576_0.out (by simp)); have n4_ := zq9 (Kd.V_lower (Kd.V_mono (ok' := fun k_ => (w.heap.size ≤ k_) ∧ some k_ ≠ (.slice Ao9 y564.length co9 : Value).ownBlock ∧ some k_ ≠ (.slice Ao14 y571.length co14 : Value).ownBlock ∧ k_ ≠ gb563 ∧ k_ ≠ gb576 ∧ k_ ≠ g) ho0 (fun k_ hk_ => ⟨(Nat.le_trans (keep_size (w := w) (g := g) (row := none) (by repeat (first | (with_reducible first | exact HK.out | apply zq13 | apply zq14 | apply zq15 | apply zq16 | refine zq17 ?_ GW563.out _ | refine zq17 ?_ GW576.out _) | exact HK.out))) hk_), (Kd.fresh' (Kd.R_lt (by (with_reducible repeat (first | apply zq10 | apply zq11 | apply zq12)); exact (Kd.R_mono (Kd.R_far (p := ⟨gb576, 6, none⟩) (Kd.R_far (p := ⟨gb576, 5, none⟩) (Kd.R_far (p := ⟨gb576, 4, none⟩) (Kd.R_far (p := ⟨gb576, 3, none⟩) (Kd.R_far (p := ⟨gb576, 2, none⟩) (Kd.R_far (p := ⟨gb576, 1, none⟩) (Kd.R_far (p := ⟨gb576, 0, none⟩) (Kd.R_types HO566.out BK576.out (by decide)) (fun _ hk => hk.2) (.string t567)) (fun _ hk => hk.2) (.int .i64 t574)) (fun _ hk => hk.2) (.int .i64 (wrap64 (1 + t569)))) (fun _ hk => hk.2) (.string (⟨#[]⟩ : ByteArray))) (fun _ hk => hk.2) (.slice none 0 0)) (fun _ hk => hk.2) (.slice none 0 0)) (fun _ hk => hk.2) (.slice none 0 0)) (fun _ h_ => h_.1)))) k_ hk_), (Kd.fresh' (Kd.R_lt (by (with_reducible repeat (first | apply zq10 | apply zq11 | apply zq12)); exact (Kd.R_mono (Kd.R_far (p := ⟨gb576, 6, none⟩) (Kd.R_far (p := ⟨gb576, 5, none⟩) (Kd.R_far (p := ⟨gb576, 4, none⟩) (Kd.R_far (p := ⟨gb576, 3, none⟩) (Kd.R_far (p := ⟨gb576, 2, none⟩) (Kd.R_far (p := ⟨gb576, 1, none⟩) (Kd.R_far (p := ⟨gb576, 0, none⟩) (Kd.R_types HO573.out BK576.out (by decide)) (fun _ hk => hk.2) (.string t567)) (fun _ hk => hk.2) (.int .i64 t574)) (fun _ hk => hk.2) (.int .i64 (wrap64 (1 + t569)))) (fun _ hk => hk.2) (.string (⟨#[]⟩ : ByteArray))) (fun _ hk => hk.2) (.slice none 0 0)) (fun _ hk => hk.2) (.slice none 0 0)) (fun _ hk => hk.2) (.slice none 0 0)) (fun _ h_ => h_.1)))) k_ hk_), (Kd.freshB (g := gb563) (o := .cells #[.string (⟨#[]⟩ : ByteArray), .int .i64 0, .int .i64 0, .string (⟨#[]⟩ : ByteArray), .slice none 0 0, .slice none 0 0, .slice none 0 0] 32 (0, 0)) (by refine bp ?_; refine blk_far ?_ NB563_576.out _; refine bp ?_; refine blk_far ?_ NB563_576.out _; refine bp ?_; refine blk_far ?_ NB563_576.out _; refine bp ?_; refine blk_far ?_ NB563_576.out _; refine bp ?_; refine blk_far ?_ NB563_576.out _; refine bp ?_; refine blk_far ?_ NB563_576.out _; refine bp ?_; refine blk_far ?_ NB563_576.out _; refine bp ?_; exact BK563.out) k_ hk_), (Kd.freshB (g := gb576) (o := .cells #[.string t567, .int .i64 t574, .int .i64 (wrap64 (1 + t569)), .string (⟨#[]⟩ : ByteArray), .slice none 0 0, .slice none 0 0, .slice none 0 0] 32 (0, 0)) (by refine bp ?_; refine blk_put (cs := #[.string t567, .int .i64 t574, .int .i64 (wrap64 (1 + t569)), .string (⟨#[]⟩ : ByteArray), .slice none 0 0, .slice none 0 0, .slice none 0 0]) ?_ 6 _ rfl; refine bp ?_; refine blk_put (cs := #[.string t567, .int .i64 t574, .int .i64 (wrap64 (1 + t569)), .string (⟨#[]⟩ : ByteArray), .slice none 0 0, .slice none 0 0, .slice none 0 0]) ?_ 5 _ rfl; refine bp ?_; refine blk_put (cs := #[.string t567, .int .i64 t574, .int .i64 (wrap64 (1 + t569)), .string (⟨#[]⟩ : ByteArray), .slice none 0 0, .slice none 0 0, .slice none 0 0]) ?_ 4 _ rfl; refine bp ?_; refine blk_put (cs := #[.string t567, .int .i64 t574, .int .i64 (wrap64 (1 + t569)), .string (⟨#[]⟩ : ByteArray), .slice none 0 0, .slice none 0 0, .slice none 0 0]) ?_ 3 _ rfl; refine bp ?_; refine blk_put (cs := #[.string t567, .int .i64 t574, .int .i64 0, .string (⟨#[]⟩ : ByteArray), .slice none 0 0, .slice none 0 0, .slice none 0 0]) ?_ 2 _ rfl; refine bp ?_; refine blk_put (cs := #[.string t567, .int .i64 0, .int .i64 0, .string (⟨#[]⟩ : ByteArray), .slice none 0 0, .slice none 0 0, .slice none 0 0]) ?_ 1 _ rfl; refine bp ?_; refine blk_put (cs := #[.string (⟨#[]⟩ : ByteArray), .int .i64 0, .int .i64 0, .string (⟨#[]⟩ : ByteArray), .slice none 0 0, .slice none 0 0, .slice none 0 0]) ?_ 0 _ rfl; refine bp ?_; exact BK576.out) k_ hk_), (IsS118.fresh (by repeat (first | (with_reducible first | exact HI0.out | apply IsS118.alloc | apply IsS118.drewN | apply IsS118.drew | apply IsS118.set_1 | refine IsS118.far ?_ NB0_563.out _ | refine IsS118.far ?_ NB0_576.out _) | exact HI0.out)) k_ hk_)⟩)) (keep_size (w := w) (g := g) (row := none) (by repeat (first | (with_reducible first | exact HK.out | apply zq13 | apply zq14 | apply zq15 | apply zq16 | refine zq17 ?_ GW563.out _ | refine zq17 ?_ GW576.out _) | exact HK.out)))); have n5_ := zq9 (KeepBut.trans (by repeat (first | (with_reducible first | exact HK.out | apply zq13 | apply zq14 | apply zq15 | apply zq16 | refine zq17 ?_ GW563.out _ | refine zq17 ?_ GW576.out _) | exact HK.out)) hk (.inl rfl)); have n6_ := zq9 (hb); have n7_ := zq9 (hi); clear BK563; clear HO566; clear HO573; clear BK576; clear HK; clear HB; clear HI0; have BK563 := n0_; have HO566 := n1_; have HO573 := n2_; have BK576 := n3_; have HO585 := n4_; have HK := n5_; have HB := n6_; have HI0 := n7_; clear n0_ n1_ n2_ n3_ n4_ n5_ n6_ n7_; (try clear hb); (try clear hb2); (try clear hk); (try clear hi); (try clear ho0); obtain ⟨Ao36, co36, eo36⟩ := Kd.V_slice HO585.out; subst eo36; have hnb37 := NB576_563.out; have hnc37 := NB563_576.out; have hnb38 := NB576_0.out; have hnc38 := NB0_576.out; have hcz39_0 : w35.cell? ⟨gb576, 0, none⟩ = some (.string t567) := bc BK576 0; have hcz39_1 : w35.cell? ⟨gb576, 1, none⟩ = some (.int .i64 t574) := bc BK576 1; have hcz39_2 : w35.cell? ⟨gb576, 2, none⟩ = some (.int .i64 (wrap64 (1 + t569))) := bc BK576 2; have hcz39_3 : w35.cell? ⟨gb576, 3, none⟩ = some (.string (⟨#[]⟩ : ByteArray)) := bc BK576 3; have hcz39_4 : w35.cell? ⟨gb576, 4, none⟩ = some (.slice none 0 0) := bc BK576 4; have hcz39_5 : w35.cell? ⟨gb576, 5, none⟩ = some (.slice none 0 0) := bc BK576 5; have hcz39_6 : w35.cell? ⟨gb576, 6, none⟩ = some (.slice none 0 0) := bc BK576 6; have hfz39_0 := zq6 BK576.out 0; have hfz39_1 := zq6 BK576.out 1; have hfz39_2 := zq6 BK576.out 2; have hfz39_3 := zq6 BK576.out 3; have hfz39_4 := zq6 BK576.out 4; have hfz39_5 := zq6 BK576.out 5; have hfz39_6 := zq6 BK576.out 6))
     go_meet
     case rel => exact ⟨_, (t586), ((⟨#[]⟩ : ByteArray)), (t583), (([] : List (S99))), (([] : List (S101))), (.slice Ao36 t583.length co36), (.slice none 0 0), (.slice none 0 0), H', ⟨by first | omega | exact Nat.le_refl _⟩, ⟨by (with_reducible repeat (first | apply zq21 | apply zq22 | apply zq23)); exact Kd.V_mono (Kd.V_far (p := ⟨gb576, 4, none⟩) (Kd.V_mono HO585.out (fun k_ hk => (⟨hk, hk.2.2.2.2.1⟩ : _ ∧ k_ ≠ gb576))) (fun _ hk => hk.2) (.slice Ao36 t583.length co36)) (fun _ hk => ⟨hk.1.1, ⟨(by simp [Value.ownBlock]), ⟨(by simp [Value.ownBlock]), ⟨hk.1.2.2.2.1, ⟨hk.1.2.2.2.2.1, hk.1.2.2.2.2.2⟩⟩⟩⟩⟩)⟩, ⟨by first | exact Kd.R_nil _ _ _ _ _ | exact Kd.N_nil _ _ _ _ _ | exact Kd.V_nil _ _ _ _ _ | exact Kd.Q_nil _ _ _ _ _ | exact Kd.S_nil _ _ _ _ _⟩, ⟨by first | exact Kd.R_nil _ _ _ _ _ | exact Kd.N_nil _ _ _ _ _ | exact Kd.V_nil _ _ _ _ _ | exact Kd.Q_nil _ _ _ _ _ | exact Kd.S_nil _ _ _ _ _⟩, ⟨by refine bp ?_; refine blk_far ?_ NB563_576.out _; refine bp ?_; exact BK563.out⟩, ⟨by refine bp ?_; refine blk_put (cs := #[.string t567, .int .i64 t574, .int .i64 (wrap64 (1 + t569)), .string (⟨#[]⟩ : ByteArray), .slice none 0 0, .slice none 0 0, .slice none 0 0]) ?_ 4 _ rfl; refine bp ?_; exact BK576.out⟩, ⟨by repeat (first | (with_reducible first | exact HI0.out | apply IsS118.alloc | apply IsS118.drewN | apply IsS118.drew | apply IsS118.set_1 | refine IsS118.far ?_ NB0_563.out _ | refine IsS118.far ?_ NB0_576.out _) | exact HI0.out)⟩, ⟨by repeat (first | (with_reducible first | exact HK.out | apply zq13 | apply zq14 | apply zq15 | apply zq16 | refine zq17 ?_ GW563.out _ | refine zq17 ?_ GW576.out _) | exact HK.out)⟩, ⟨by exact b3 HB (zq9 (IsS118.ge HI0.out)) GE563 GE576⟩⟩
    ·rw [if_neg c33] at H
     have c33b0 : ((wrap64 (1 + t569)) == 3) = false := beq_eq_false_iff_ne.mpr c33
     have c33b1 : ((wrap64 (1 + t569)) != 3) = true := bne_iff_ne.mpr c33
     by_cases c40 : (wrap64 (1 + t569)) = 4
     ·rw [if_pos c40] at H
      have c40b0 : ((wrap64 (1 + t569)) == 4) = true := beq_iff_eq.mpr c40
      have c40b1 : ((wrap64 (1 + t569)) != 4) = false := bne_eq_false_iff_eq.mpr c40
      clear c40
      replace H := Option.bind_eq_some_iff.mp H
      obtain ⟨⟨t587, t590⟩, A410, H⟩ := H
      try dsimp only at H
      have A41 := zq9 A410
      clear A410
      have H' := zq9 H
      clear H
      go_wp2_with (first | ((with_reducible refine zq24 (f := 96) rfl ?_); refine gl (some 34) Try.func96 #[.pointer (some ⟨g, 0, none⟩)] ?_; (with_reducible refine (spec_l11AnyScores.calls k g s0_0 t575 t587 t590 w0 _ ?side1 ?side2 A41.out).mono ?_); (case side1 => repeat (first | (with_reducible first | exact HI0.out | apply IsS118.alloc | apply IsS118.drewN | apply IsS118.drew | apply IsS118.set_1 | refine IsS118.far ?_ NB0_563.out _ | refine IsS118.far ?_ NB0_576.out _) | exact HI0.out)); (case side2 => exact b3 HB (zq9 (IsS118.ge HI0.out)) GE563 GE576); rintro e w42 ⟨v588, rfl, ho0, hi, hb, hk⟩; refine ⟨_, rfl, ?_⟩; have n0_ := zq9 (KeepBut.blk hk (g' := gb563) (o := .cells #[.string (⟨#[]⟩ : ByteArray), .int .i64 0, .int .i64 0, .string (⟨#[]⟩ : ByteArray), .slice none 0 0, .slice none 0 0, .slice none 0 0] 32 (0, 0)) (by refine bp ?_; refine blk_far ?_ NB563_576.out _; refine bp ?_; refine blk_far ?_ NB563_576.out _; refine bp ?_; refine blk_far ?_ NB563_576.out _; refine bp ?_; refine blk_far ?_ NB563_576.out _; refine bp ?_; refine blk_far ?_ NB563_576.out _; refine bp ?_; refine blk_far ?_ NB563_576.out _; refine bp ?_; refine blk_far ?_ NB563_576.out _; refine bp ?_; exact BK563.out) NB563_0.out (by simp)); have n1_ := zq9 (Kd.R_mono (Kd.R_keep (IsS118.apart (show IsS118 w0 _ g s0_0 t575 from by repeat (first | (with_reducible first | exact HI0.out | apply IsS118.alloc | apply IsS118.drewN | apply IsS118.drew | apply IsS118.set_1 | refine IsS118.far ?_ NB0_563.out _ | refine IsS118.far ?_ NB0_576.out _) | exact HI0.out)) (by (with_reducible repeat (first | apply zq10 | apply zq11 | apply zq12)); exact (Kd.R_mono (Kd.R_far (p := ⟨gb576, 6, none⟩) (Kd.R_far (p := ⟨gb576, 5, none⟩) (Kd.R_far (p := ⟨gb576, 4, none⟩) (Kd.R_far (p := ⟨gb576, 3, none⟩) (Kd.R_far (p := ⟨gb576, 2, none⟩) (Kd.R_far (p := ⟨gb576, 1, none⟩) (Kd.R_far (p := ⟨gb576, 0, none⟩) (Kd.R_types HO566.out BK576.out (by decide)) (fun _ hk => hk.2) (.string t567)) (fun _ hk => hk.2) (.int .i64 t574)) (fun _ hk => hk.2) (.int .i64 (wrap64 (1 + t569)))) (fun _ hk => hk.2) (.string (⟨#[]⟩ : ByteArray))) (fun _ hk => hk.2) (.slice none 0 0)) (fun _ hk => hk.2) (.slice none 0 0)) (fun _ hk => hk.2) (.slice none 0 0)) (fun _ h_ => h_.1))) (by decide)) hk (fun _ h => h.2)) (fun _ h => h.1)); have n2_ := zq9 (Kd.R_mono (Kd.R_keep (IsS118.apart (show IsS118 w0 _ g s0_0 t575 from by repeat (first | (with_reducible first | exact HI0.out | apply IsS118.alloc | apply IsS118.drewN | apply IsS118.drew | apply IsS118.set_1 | refine IsS118.far ?_ NB0_563.out _ | refine IsS118.far ?_ NB0_576.out _) | exact HI0.out)) (by (with_reducible repeat (first | apply zq10 | apply zq11 | apply zq12)); exact (Kd.R_mono (Kd.R_far (p := ⟨gb576, 6, none⟩) (Kd.R_far (p := ⟨gb576, 5, none⟩) (Kd.R_far (p := ⟨gb576, 4, none⟩) (Kd.R_far (p := ⟨gb576, 3, none⟩) (Kd.R_far (p := ⟨gb576, 2, none⟩) (Kd.R_far (p := ⟨gb576, 1, none⟩) (Kd.R_far (p := ⟨gb576, 0, none⟩) (Kd.R_types HO573.out BK576.out (by decide)) (fun _ hk => hk.2) (.string t567)) (fun _ hk => hk.2) (.int .i64 t574)) (fun _ hk => hk.2) (.int .i64 (wrap64 (1 + t569)))) (fun _ hk => hk.2) (.string (⟨#[]⟩ : ByteArray))) (fun _ hk => hk.2) (.slice none 0 0)) (fun _ hk => hk.2) (.slice none 0 0)) (fun _ hk => hk.2) (.slice none 0 0)) (fun _ h_ => h_.1))) (by decide)) hk (fun _ h => h.2)) (fun _ h => h.1)); have n3_ := zq9 (KeepBut.blk hk (g' := gb576) (o := .cells #[.string t567, .int .i64 t574, .int .i64 (wrap64 (1 + t569)), .string (⟨#[]⟩ : ByteArray), .slice none 0 0, .slice none 0 0, .slice none 0 0] 32 (0, 0)) (by refine bp ?_; refine blk_put (cs := #[.string t567, .int .i64 t574, .int .i64 (wrap64 (1 + t569)), .string (⟨#[]⟩ : ByteArray), .slice none 0 0, .slice none 0 0, .slice none 0 0]) ?_ 6 _ rfl; refine bp ?_; refine blk_put (cs := #[.string t567, .int .i64 t574, .int .i64 (wrap64 (1 + t569)), .string (⟨#[]⟩ : ByteArray), .slice none 0 0, .slice none 0 0, .slice none 0 0]) ?_ 5 _ rfl; refine bp ?_; refine blk_put (cs := #[.string t567, .int .i64 t574, .int .i64 (wrap64 (1 + t569)), .string (⟨#[]⟩ : ByteArray), .slice none 0 0, .slice none 0 0, .slice none 0 0]) ?_ 4 _ rfl; refine bp ?_; refine blk_put (cs := #[.string t567, .int .i64 t574, .int .i64 (wrap64 (1 + t569)), .string (⟨#[]⟩ : ByteArray), .slice none 0 0, .slice none 0 0, .slice none 0 0]) ?_ 3 _ rfl; refine bp ?_; refine blk_put (cs := #[.string t567, .int .i64 t574, .int .i64 0, .string (⟨#[]⟩ : ByteArray), .slice none 0 0, .slice none 0 0, .slice none 0 0]) ?_ 2 _ rfl; refine bp ?_; refine blk_put (cs := #[.string t567, .int .i64 0, .int .i64 0, .string (⟨#[]⟩ : ByteArray), .slice none 0 0, .slice none 0 0, .slice none 0 0]) ?_ 1 _ rfl; refine bp ?_; refine blk_put (cs := #[.string (⟨#[]⟩ : ByteArray), .int .i64 0, .int .i64 0, .string (⟨#[]⟩ : ByteArray), .slice none 0 0, .slice none 0 0, .slice none 0 0]) ?_ 0 _ rfl; refine bp ?_; exact BK576.out) NB576_0.out (by simp)); have n4_ := zq9 (Kd.R_lower (Kd.R_newM (M := fun k_ => (w.heap.size ≤ k_)) ho0 (keep_size (w := w) (g := g) (row := none) (by repeat (first | (with_reducible first | exact HK.out | apply zq13 | apply zq14 | apply zq15 | apply zq16 | refine zq17 ?_ GW563.out _ | refine zq17 ?_ GW576.out _) | exact HK.out))) (fun k_ h_ => h_)) (keep_size (w := w) (g := g) (row := none) (by repeat (first | (with_reducible first | exact HK.out | apply zq13 | apply zq14 | apply zq15 | apply zq16 | refine zq17 ?_ GW563.out _ | refine zq17 ?_ GW576.out _) | exact HK.out)))); have n5_ := zq9 (KeepBut.trans (by repeat (first | (with_reducible first | exact HK.out | apply zq13 | apply zq14 | apply zq15 | apply zq16 | refine zq17 ?_ GW563.out _ | refine zq17 ?_ GW576.out _) | exact HK.out)) hk (.inl rfl)); have n6_ := zq9 (hb); have n7_ := zq9 (hi); clear BK563; clear HO566; clear HO573; clear BK576; clear HK; clear HB; clear HI0; have BK563 := n0_; have HO566 := n1_; have HO573 := n2_; have BK576 := n3_; have HO589 := n4_; have HK := n5_; have HB := n6_; have HI0 := n7_; clear n0_ n1_ n2_ n3_ n4_ n5_ n6_ n7_; (try clear hb); (try clear hb2); (try clear hk); (try clear hi); (try clear ho0); obtain ⟨Ao43, co43, eo43⟩ := Kd.R_slice HO589.out; subst eo43; have hnb44 := NB576_563.out; have hnc44 := NB563_576.out; have hnb45 := NB576_0.out; have hnc45 := NB0_576.out; have hcz46_0 : w42.cell? ⟨gb576, 0, none⟩ = some (.string t567) := bc BK576 0; have hcz46_1 : w42.cell? ⟨gb576, 1, none⟩ = some (.int .i64 t574) := bc BK576 1; have hcz46_2 : w42.cell? ⟨gb576, 2, none⟩ = some (.int .i64 (wrap64 (1 + t569))) := bc BK576 2; have hcz46_3 : w42.cell? ⟨gb576, 3, none⟩ = some (.string (⟨#[]⟩ : ByteArray)) := bc BK576 3; have hcz46_4 : w42.cell? ⟨gb576, 4, none⟩ = some (.slice none 0 0) := bc BK576 4; have hcz46_5 : w42.cell? ⟨gb576, 5, none⟩ = some (.slice none 0 0) := bc BK576 5; have hcz46_6 : w42.cell? ⟨gb576, 6, none⟩ = some (.slice none 0 0) := bc BK576 6; have hfz46_0 := zq6 BK576.out 0; have hfz46_1 := zq6 BK576.out 1; have hfz46_2 := zq6 BK576.out 2; have hfz46_3 := zq6 BK576.out 3; have hfz46_4 := zq6 BK576.out 4; have hfz46_5 := zq6 BK576.out 5; have hfz46_6 := zq6 BK576.out 6))
      go_meet
      case rel => exact ⟨_, (t590), ((⟨#[]⟩ : ByteArray)), (([] : List ByteArray)), (t587), (([] : List (S101))), (.slice none 0 0), (.slice Ao43 t587.length co43), (.slice none 0 0), H', ⟨by first | omega | exact Nat.le_refl _⟩, ⟨Kd.R_V (base := 0) (by first | exact Kd.R_nil _ _ _ _ _ | exact Kd.N_nil _ _ _ _ _ | exact Kd.V_nil _ _ _ _ _ | exact Kd.Q_nil _ _ _ _ _ | exact Kd.S_nil _ _ _ _ _)⟩, ⟨by (with_reducible repeat (first | apply zq10 | apply zq11 | apply zq12)); exact Kd.R_mono (Kd.R_far (p := ⟨gb576, 5, none⟩) (Kd.R_types HO589.out BK576.out (by decide)) (fun _ hk => hk.2) (.slice Ao43 t587.length co43)) (fun _ hk => hk.1.1)⟩, ⟨by first | exact Kd.R_nil _ _ _ _ _ | exact Kd.N_nil _ _ _ _ _ | exact Kd.V_nil _ _ _ _ _ | exact Kd.Q_nil _ _ _ _ _ | exact Kd.S_nil _ _ _ _ _⟩, ⟨by refine bp ?_; refine blk_far ?_ NB563_576.out _; refine bp ?_; exact BK563.out⟩, ⟨by refine bp ?_; refine blk_put (cs := #[.string t567, .int .i64 t574, .int .i64 (wrap64 (1 + t569)), .string (⟨#[]⟩ : ByteArray), .slice none 0 0, .slice none 0 0, .slice none 0 0]) ?_ 5 _ rfl; refine bp ?_; exact BK576.out⟩, ⟨by repeat (first | (with_reducible first | exact HI0.out | apply IsS118.alloc | apply IsS118.drewN | apply IsS118.drew | apply IsS118.set_1 | refine IsS118.far ?_ NB0_563.out _ | refine IsS118.far ?_ NB0_576.out _) | exact HI0.out)⟩, ⟨by repeat (first | (with_reducible first | exact HK.out | apply zq13 | apply zq14 | apply zq15 | apply zq16 | refine zq17 ?_ GW563.out _ | refine zq17 ?_ GW576.out _) | exact HK.out)⟩, ⟨by exact b3 HB (zq9 (IsS118.ge HI0.out)) GE563 GE576⟩⟩
     ·rw [if_neg c40] at H
      have c40b0 : ((wrap64 (1 + t569)) == 4) = false := beq_eq_false_iff_ne.mpr c40
      have c40b1 : ((wrap64 (1 + t569)) != 4) = true := bne_iff_ne.mpr c40
      by_cases c47 : (wrap64 (1 + t569)) = 5
      ·rw [if_pos c47] at H
       have c47b0 : ((wrap64 (1 + t569)) == 5) = true := beq_iff_eq.mpr c47
       have c47b1 : ((wrap64 (1 + t569)) != 5) = false := bne_eq_false_iff_eq.mpr c47
       clear c47
       replace H := Option.bind_eq_some_iff.mp H
       obtain ⟨⟨t591, t594⟩, A480, H⟩ := H
       try dsimp only at H
       have A48 := zq9 A480
       clear A480
       have H' := zq9 H
       clear H
       go_wp2_with (first | ((with_reducible refine zq24 (f := 97) rfl ?_); refine gl (some 39) Try.func97 #[.pointer (some ⟨g, 0, none⟩)] ?_; (with_reducible refine (spec_l11AnyFields.calls k g s0_0 t575 t591 t594 w0 _ ?side1 ?side2 A48.out).mono ?_); (case side1 => repeat (first | (with_reducible first | exact HI0.out | apply IsS118.alloc | apply IsS118.drewN | apply IsS118.drew | apply IsS118.set_1 | refine IsS118.far ?_ NB0_563.out _ | refine IsS118.far ?_ NB0_576.out _) | exact HI0.out)); (case side2 => exact b3 HB (zq9 (IsS118.ge HI0.out)) GE563 GE576); rintro e w49 ⟨v592, rfl, ho0, hi, hb, hk⟩; refine ⟨_, rfl, ?_⟩; have n0_ := zq9 (KeepBut.blk hk (g' := gb563) (o := .cells #[.string (⟨#[]⟩ : ByteArray), .int .i64 0, .int .i64 0, .string (⟨#[]⟩ : ByteArray), .slice none 0 0, .slice none 0 0, .slice none 0 0] 32 (0, 0)) (by refine bp ?_; refine blk_far ?_ NB563_576.out _; refine bp ?_; refine blk_far ?_ NB563_576.out _; refine bp ?_; refine blk_far ?_ NB563_576.out _; refine bp ?_; refine blk_far ?_ NB563_576.out _; refine bp ?_; refine blk_far ?_ NB563_576.out _; refine bp ?_; refine blk_far ?_ NB563_576.out _; refine bp ?_; refine blk_far ?_ NB563_576.out _; refine bp ?_; exact BK563.out) NB563_0.out (by simp)); have n1_ := zq9 (Kd.R_mono (Kd.R_keep (IsS118.apart (show IsS118 w0 _ g s0_0 t575 from by repeat (first | (with_reducible first | exact HI0.out | apply IsS118.alloc | apply IsS118.drewN | apply IsS118.drew | apply IsS118.set_1 | refine IsS118.far ?_ NB0_563.out _ | refine IsS118.far ?_ NB0_576.out _) | exact HI0.out)) (by (with_reducible repeat (first | apply zq10 | apply zq11 | apply zq12)); exact (Kd.R_mono (Kd.R_far (p := ⟨gb576, 6, none⟩) (Kd.R_far (p := ⟨gb576, 5, none⟩) (Kd.R_far (p := ⟨gb576, 4, none⟩) (Kd.R_far (p := ⟨gb576, 3, none⟩) (Kd.R_far (p := ⟨gb576, 2, none⟩) (Kd.R_far (p := ⟨gb576, 1, none⟩) (Kd.R_far (p := ⟨gb576, 0, none⟩) (Kd.R_types HO566.out BK576.out (by decide)) (fun _ hk => hk.2) (.string t567)) (fun _ hk => hk.2) (.int .i64 t574)) (fun _ hk => hk.2) (.int .i64 (wrap64 (1 + t569)))) (fun _ hk => hk.2) (.string (⟨#[]⟩ : ByteArray))) (fun _ hk => hk.2) (.slice none 0 0)) (fun _ hk => hk.2) (.slice none 0 0)) (fun _ hk => hk.2) (.slice none 0 0)) (fun _ h_ => h_.1))) (by decide)) hk (fun _ h => h.2)) (fun _ h => h.1)); have n2_ := zq9 (Kd.R_mono (Kd.R_keep (IsS118.apart (show IsS118 w0 _ g s0_0 t575 from by repeat (first | (with_reducible first | exact HI0.out | apply IsS118.alloc | apply IsS118.drewN | apply IsS118.drew | apply IsS118.set_1 | refine IsS118.far ?_ NB0_563.out _ | refine IsS118.far ?_ NB0_576.out _) | exact HI0.out)) (by (with_reducible repeat (first | apply zq10 | apply zq11 | apply zq12)); exact (Kd.R_mono (Kd.R_far (p := ⟨gb576, 6, none⟩) (Kd.R_far (p := ⟨gb576, 5, none⟩) (Kd.R_far (p := ⟨gb576, 4, none⟩) (Kd.R_far (p := ⟨gb576, 3, none⟩) (Kd.R_far (p := ⟨gb576, 2, none⟩) (Kd.R_far (p := ⟨gb576, 1, none⟩) (Kd.R_far (p := ⟨gb576, 0, none⟩) (Kd.R_types HO573.out BK576.out (by decide)) (fun _ hk => hk.2) (.string t567)) (fun _ hk => hk.2) (.int .i64 t574)) (fun _ hk => hk.2) (.int .i64 (wrap64 (1 + t569)))) (fun _ hk => hk.2) (.string (⟨#[]⟩ : ByteArray))) (fun _ hk => hk.2) (.slice none 0 0)) (fun _ hk => hk.2) (.slice none 0 0)) (fun _ hk => hk.2) (.slice none 0 0)) (fun _ h_ => h_.1))) (by decide)) hk (fun _ h => h.2)) (fun _ h => h.1)); have n3_ := zq9 (KeepBut.blk hk (g' := gb576) (o := .cells #[.string t567, .int .i64 t574, .int .i64 (wrap64 (1 + t569)), .string (⟨#[]⟩ : ByteArray), .slice none 0 0, .slice none 0 0, .slice none 0 0] 32 (0, 0)) (by refine bp ?_; refine blk_put (cs := #[.string t567, .int .i64 t574, .int .i64 (wrap64 (1 + t569)), .string (⟨#[]⟩ : ByteArray), .slice none 0 0, .slice none 0 0, .slice none 0 0]) ?_ 6 _ rfl; refine bp ?_; refine blk_put (cs := #[.string t567, .int .i64 t574, .int .i64 (wrap64 (1 + t569)), .string (⟨#[]⟩ : ByteArray), .slice none 0 0, .slice none 0 0, .slice none 0 0]) ?_ 5 _ rfl; refine bp ?_; refine blk_put (cs := #[.string t567, .int .i64 t574, .int .i64 (wrap64 (1 + t569)), .string (⟨#[]⟩ : ByteArray), .slice none 0 0, .slice none 0 0, .slice none 0 0]) ?_ 4 _ rfl; refine bp ?_; refine blk_put (cs := #[.string t567, .int .i64 t574, .int .i64 (wrap64 (1 + t569)), .string (⟨#[]⟩ : ByteArray), .slice none 0 0, .slice none 0 0, .slice none 0 0]) ?_ 3 _ rfl; refine bp ?_; refine blk_put (cs := #[.string t567, .int .i64 t574, .int .i64 0, .string (⟨#[]⟩ : ByteArray), .slice none 0 0, .slice none 0 0, .slice none 0 0]) ?_ 2 _ rfl; refine bp ?_; refine blk_put (cs := #[.string t567, .int .i64 0, .int .i64 0, .string (⟨#[]⟩ : ByteArray), .slice none 0 0, .slice none 0 0, .slice none 0 0]) ?_ 1 _ rfl; refine bp ?_; refine blk_put (cs := #[.string (⟨#[]⟩ : ByteArray), .int .i64 0, .int .i64 0, .string (⟨#[]⟩ : ByteArray), .slice none 0 0, .slice none 0 0, .slice none 0 0]) ?_ 0 _ rfl; refine bp ?_; exact BK576.out) NB576_0.out (by simp)); have n4_ := zq9 (Kd.R_lower (Kd.R_newM (M := fun k_ => (w.heap.size ≤ k_)) ho0 (keep_size (w := w) (g := g) (row := none) (by repeat (first | (with_reducible first | exact HK.out | apply zq13 | apply zq14 | apply zq15 | apply zq16 | refine zq17 ?_ GW563.out _ | refine zq17 ?_ GW576.out _) | exact HK.out))) (fun k_ h_ => h_)) (keep_size (w := w) (g := g) (row := none) (by repeat (first | (with_reducible first | exact HK.out | apply zq13 | apply zq14 | apply zq15 | apply zq16 | refine zq17 ?_ GW563.out _ | refine zq17 ?_ GW576.out _) | exact HK.out)))); have n5_ := zq9 (KeepBut.trans (by repeat (first | (with_reducible first | exact HK.out | apply zq13 | apply zq14 | apply zq15 | apply zq16 | refine zq17 ?_ GW563.out _ | refine zq17 ?_ GW576.out _) | exact HK.out)) hk (.inl rfl)); have n6_ := zq9 (hb); have n7_ := zq9 (hi); clear BK563; clear HO566; clear HO573; clear BK576; clear HK; clear HB; clear HI0; have BK563 := n0_; have HO566 := n1_; have HO573 := n2_; have BK576 := n3_; have HO593 := n4_; have HK := n5_; have HB := n6_; have HI0 := n7_; clear n0_ n1_ n2_ n3_ n4_ n5_ n6_ n7_; (try clear hb); (try clear hb2); (try clear hk); (try clear hi); (try clear ho0); obtain ⟨Ao50, co50, eo50⟩ := Kd.R_slice HO593.out; subst eo50; have hnb51 := NB576_563.out; have hnc51 := NB563_576.out; have hnb52 := NB576_0.out; have hnc52 := NB0_576.out; have hcz53_0 : w49.cell? ⟨gb576, 0, none⟩ = some (.string t567) := bc BK576 0; have hcz53_1 : w49.cell? ⟨gb576, 1, none⟩ = some (.int .i64 t574) := bc BK576 1; have hcz53_2 : w49.cell? ⟨gb576, 2, none⟩ = some (.int .i64 (wrap64 (1 + t569))) := bc BK576 2; have hcz53_3 : w49.cell? ⟨gb576, 3, none⟩ = some (.string (⟨#[]⟩ : ByteArray)) := bc BK576 3; have hcz53_4 : w49.cell? ⟨gb576, 4, none⟩ = some (.slice none 0 0) := bc BK576 4; have hcz53_5 : w49.cell? ⟨gb576, 5, none⟩ = some (.slice none 0 0) := bc BK576 5; have hcz53_6 : w49.cell? ⟨gb576, 6, none⟩ = some (.slice none 0 0) := bc BK576 6; have hfz53_0 := zq6 BK576.out 0; have hfz53_1 := zq6 BK576.out 1; have hfz53_2 := zq6 BK576.out 2; have hfz53_3 := zq6 BK576.out 3; have hfz53_4 := zq6 BK576.out 4; have hfz53_5 := zq6 BK576.out 5; have hfz53_6 := zq6 BK576.out 6))
       go_meet
       case rel => exact ⟨_, (t594), ((⟨#[]⟩ : ByteArray)), (([] : List ByteArray)), (([] : List (S99))), (t591), (.slice none 0 0), (.slice none 0 0), (.slice Ao50 t591.length co50), H', ⟨by first | omega | exact Nat.le_refl _⟩, ⟨Kd.R_V (base := 0) (by first | exact Kd.R_nil _ _ _ _ _ | exact Kd.N_nil _ _ _ _ _ | exact Kd.V_nil _ _ _ _ _ | exact Kd.Q_nil _ _ _ _ _ | exact Kd.S_nil _ _ _ _ _)⟩, ⟨by first | exact Kd.R_nil _ _ _ _ _ | exact Kd.N_nil _ _ _ _ _ | exact Kd.V_nil _ _ _ _ _ | exact Kd.Q_nil _ _ _ _ _ | exact Kd.S_nil _ _ _ _ _⟩, ⟨by (with_reducible repeat (first | apply zq10 | apply zq11 | apply zq12)); exact Kd.R_mono (Kd.R_far (p := ⟨gb576, 6, none⟩) (Kd.R_types HO593.out BK576.out (by decide)) (fun _ hk => hk.2) (.slice Ao50 t591.length co50)) (fun _ hk => hk.1.1)⟩, ⟨by refine bp ?_; refine blk_far ?_ NB563_576.out _; refine bp ?_; exact BK563.out⟩, ⟨by refine bp ?_; refine blk_put (cs := #[.string t567, .int .i64 t574, .int .i64 (wrap64 (1 + t569)), .string (⟨#[]⟩ : ByteArray), .slice none 0 0, .slice none 0 0, .slice none 0 0]) ?_ 6 _ rfl; refine bp ?_; exact BK576.out⟩, ⟨by repeat (first | (with_reducible first | exact HI0.out | apply IsS118.alloc | apply IsS118.drewN | apply IsS118.drew | apply IsS118.set_1 | refine IsS118.far ?_ NB0_563.out _ | refine IsS118.far ?_ NB0_576.out _) | exact HI0.out)⟩, ⟨by repeat (first | (with_reducible first | exact HK.out | apply zq13 | apply zq14 | apply zq15 | apply zq16 | refine zq17 ?_ GW563.out _ | refine zq17 ?_ GW576.out _) | exact HK.out)⟩, ⟨by exact b3 HB (zq9 (IsS118.ge HI0.out)) GE563 GE576⟩⟩
      ·rw [if_neg c47] at H
       have c47b0 : ((wrap64 (1 + t569)) == 5) = false := beq_eq_false_iff_ne.mpr c47
       have c47b1 : ((wrap64 (1 + t569)) != 5) = true := bne_iff_ne.mpr c47
       have H' := zq9 H
       clear H
       go_wp2
       go_meet
       case rel => exact ⟨_, (t575), ((⟨#[]⟩ : ByteArray)), (([] : List ByteArray)), (([] : List (S99))), (([] : List (S101))), (.slice none 0 0), (.slice none 0 0), (.slice none 0 0), H', ⟨by first | omega | exact Nat.le_refl _⟩, ⟨Kd.R_V (base := 0) (by first | exact Kd.R_nil _ _ _ _ _ | exact Kd.N_nil _ _ _ _ _ | exact Kd.V_nil _ _ _ _ _ | exact Kd.Q_nil _ _ _ _ _ | exact Kd.S_nil _ _ _ _ _)⟩, ⟨by first | exact Kd.R_nil _ _ _ _ _ | exact Kd.N_nil _ _ _ _ _ | exact Kd.V_nil _ _ _ _ _ | exact Kd.Q_nil _ _ _ _ _ | exact Kd.S_nil _ _ _ _ _⟩, ⟨by first | exact Kd.R_nil _ _ _ _ _ | exact Kd.N_nil _ _ _ _ _ | exact Kd.V_nil _ _ _ _ _ | exact Kd.Q_nil _ _ _ _ _ | exact Kd.S_nil _ _ _ _ _⟩, ⟨by refine bp ?_; refine blk_far ?_ NB563_576.out _; refine bp ?_; refine blk_far ?_ NB563_576.out _; refine bp ?_; refine blk_far ?_ NB563_576.out _; refine bp ?_; refine blk_far ?_ NB563_576.out _; refine bp ?_; refine blk_far ?_ NB563_576.out _; refine bp ?_; refine blk_far ?_ NB563_576.out _; refine bp ?_; refine blk_far ?_ NB563_576.out _; refine bp ?_; exact BK563.out⟩, ⟨by refine bp ?_; refine blk_put (cs := #[.string t567, .int .i64 t574, .int .i64 (wrap64 (1 + t569)), .string (⟨#[]⟩ : ByteArray), .slice none 0 0, .slice none 0 0, .slice none 0 0]) ?_ 6 _ rfl; refine bp ?_; refine blk_put (cs := #[.string t567, .int .i64 t574, .int .i64 (wrap64 (1 + t569)), .string (⟨#[]⟩ : ByteArray), .slice none 0 0, .slice none 0 0, .slice none 0 0]) ?_ 5 _ rfl; refine bp ?_; refine blk_put (cs := #[.string t567, .int .i64 t574, .int .i64 (wrap64 (1 + t569)), .string (⟨#[]⟩ : ByteArray), .slice none 0 0, .slice none 0 0, .slice none 0 0]) ?_ 4 _ rfl; refine bp ?_; refine blk_put (cs := #[.string t567, .int .i64 t574, .int .i64 (wrap64 (1 + t569)), .string (⟨#[]⟩ : ByteArray), .slice none 0 0, .slice none 0 0, .slice none 0 0]) ?_ 3 _ rfl; refine bp ?_; refine blk_put (cs := #[.string t567, .int .i64 t574, .int .i64 0, .string (⟨#[]⟩ : ByteArray), .slice none 0 0, .slice none 0 0, .slice none 0 0]) ?_ 2 _ rfl; refine bp ?_; refine blk_put (cs := #[.string t567, .int .i64 0, .int .i64 0, .string (⟨#[]⟩ : ByteArray), .slice none 0 0, .slice none 0 0, .slice none 0 0]) ?_ 1 _ rfl; refine bp ?_; refine blk_put (cs := #[.string (⟨#[]⟩ : ByteArray), .int .i64 0, .int .i64 0, .string (⟨#[]⟩ : ByteArray), .slice none 0 0, .slice none 0 0, .slice none 0 0]) ?_ 0 _ rfl; refine bp ?_; exact BK576.out⟩, ⟨by repeat (first | (with_reducible first | exact HI0.out | apply IsS118.alloc | apply IsS118.drewN | apply IsS118.drew | apply IsS118.set_1 | refine IsS118.far ?_ NB0_563.out _ | refine IsS118.far ?_ NB0_576.out _) | exact HI0.out)⟩, ⟨by repeat (first | (with_reducible first | exact HK.out | apply zq13 | apply zq14 | apply zq15 | apply zq16 | refine zq17 ?_ GW563.out _ | refine zq17 ?_ GW576.out _) | exact HK.out)⟩, ⟨by exact b3 HB (zq9 (IsS118.ge HI0.out)) GE563 GE576⟩⟩
 case rest =>
  clear HC5
  try clear c1
  try clear c2
  try clear p2
  try clear c3
  try clear c4
  try clear c5
  try clear p6
  try clear c9
  try clear c17
  try clear c18
  try clear c20
  try clear c20b0
  try clear c20b1
  try clear c23
  try clear c24
  try clear c26
  try clear c26b0
  try clear c26b1
  try clear c30
  try clear c31
  try clear c33
  try clear c33b0
  try clear c33b1
  try clear c37
  try clear c38
  try clear c40
  try clear c40b0
  try clear c40b1
  try clear c44
  try clear c45
  try clear c47
  try clear c47b0
  try clear c47b1
  try clear c51
  try clear c52
  try clear hcz19_0
  try clear hcz19_1
  try clear hcz19_2
  try clear hcz19_3
  try clear hcz19_4
  try clear hcz19_5
  try clear hcz19_6
  try clear hcz25_0
  try clear hcz25_1
  try clear hcz25_2
  try clear hcz25_3
  try clear hcz25_4
  try clear hcz25_5
  try clear hcz25_6
  try clear hcz32_0
  try clear hcz32_1
  try clear hcz32_2
  try clear hcz32_3
  try clear hcz32_4
  try clear hcz32_5
  try clear hcz32_6
  try clear hcz39_0
  try clear hcz39_1
  try clear hcz39_2
  try clear hcz39_3
  try clear hcz39_4
  try clear hcz39_5
  try clear hcz39_6
  try clear hcz46_0
  try clear hcz46_1
  try clear hcz46_2
  try clear hcz46_3
  try clear hcz46_4
  try clear hcz46_5
  try clear hcz46_6
  try clear hcz53_0
  try clear hcz53_1
  try clear hcz53_2
  try clear hcz53_3
  try clear hcz53_4
  try clear hcz53_5
  try clear hcz53_6
  try clear hfz19_0
  try clear hfz19_1
  try clear hfz19_2
  try clear hfz19_3
  try clear hfz19_4
  try clear hfz19_5
  try clear hfz19_6
  try clear hfz25_0
  try clear hfz25_1
  try clear hfz25_2
  try clear hfz25_3
  try clear hfz25_4
  try clear hfz25_5
  try clear hfz25_6
  try clear hfz32_0
  try clear hfz32_1
  try clear hfz32_2
  try clear hfz32_3
  try clear hfz32_4
  try clear hfz32_5
  try clear hfz32_6
  try clear hfz39_0
  try clear hfz39_1
  try clear hfz39_2
  try clear hfz39_3
  try clear hfz39_4
  try clear hfz39_5
  try clear hfz39_6
  try clear hfz46_0
  try clear hfz46_1
  try clear hfz46_2
  try clear hfz46_3
  try clear hfz46_4
  try clear hfz46_5
  try clear hfz46_6
  try clear hfz53_0
  try clear hfz53_1
  try clear hfz53_2
  try clear hfz53_3
  try clear hfz53_4
  try clear hfz53_5
  try clear hfz53_6
  obtain ⟨kq, x1001_4, x577003_4, x577004_4, x577005_4, x577006_4, u577004, u577005, u577006, HA, HJ4, HO_577004, HO_577005, HO_577006, BK563, BK576, HI0, HK, HB⟩ := hcut
  cases kq with
  | zero => exact absurd HA.out (by simp [spec_l11Entry.j0])
  | succ kj4 =>
   have H := HA.out
   clear HA
   simp only [spec_l11Entry.j0] at H
   replace H := Option.bind_eq_some_iff.mp H
   obtain ⟨⟨t595, t596⟩, A540, H⟩ := H
   try dsimp only at H
   have A54 := zq9 A540
   clear A540
   by_cases c55 : t595 = 0
   ·rw [if_pos c55] at H
    have c55b0 : (t595 == 0) = true := beq_iff_eq.mpr c55
    have c55b1 : (t595 != 0) = false := bne_eq_false_iff_eq.mpr c55
    clear c55
    replace H := Option.bind_eq_some_iff.mp H
    obtain ⟨⟨t597, t598⟩, A560, H⟩ := H
    try dsimp only at H
    have A56 := zq9 A560
    clear A560
    simp only [Option.some.injEq, Prod.mk.injEq] at H
    obtain ⟨rfl, rfl, rfl, rfl, rfl, rfl, rfl, rfl⟩ := H
    go_wp2_with (first | ((with_reducible refine zq24 (f := 91) rfl ?_); refine gl (some 42) Try.func91 #[.pointer (some ⟨g, 0, none⟩), .int .i64 16] ?_; (with_reducible refine (spec_l1Rd_pick.calls kj4 g s0_0 x1001_4 16 t595 t596 w0 _ ?side1 ?side2 A54.out).mono ?_); (case side1 => repeat (first | (with_reducible first | exact HI0.out | apply IsS118.alloc | apply IsS118.drewN | apply IsS118.drew | apply IsS118.set_1 | refine IsS118.far ?_ NB0_563.out _ | refine IsS118.far ?_ NB0_576.out _) | exact HI0.out)); (case side2 => exact b3 HB (zq9 (IsS118.ge HI0.out)) GE563 GE576); rintro e w57 ⟨rfl, hi, hb, hk⟩; refine ⟨_, rfl, ?_⟩; have n0_ := zq9 (Kd.V_mono (Kd.V_keep (Kd.V_mono (ok := fun k_ => (((w.heap.size ≤ k_)) ∧ (some k_ ≠ (u577005 : Value).ownBlock ∧ (some k_ ≠ (u577006 : Value).ownBlock ∧ (k_ ≠ gb563 ∧ (k_ ≠ gb576 ∧ k_ ≠ g)))))) (by exact vz HO_577004) (fun k_ hk_ => (⟨hk_, hk_.2.2.2.2.2⟩ : _ ∧ k_ ≠ g))) hk (fun _ h => h.2)) (fun _ h => h.1)); have n1_ := zq9 (Kd.R_mono (Kd.R_keep (IsS118.apart (show IsS118 w0 _ g s0_0 x1001_4 from by repeat (first | (with_reducible first | exact HI0.out | apply IsS118.alloc | apply IsS118.drewN | apply IsS118.drew | apply IsS118.set_1 | refine IsS118.far ?_ NB0_563.out _ | refine IsS118.far ?_ NB0_576.out _) | exact HI0.out)) (by exact rz HO_577005) (by decide)) hk (fun _ h => h.2)) (fun _ h => h.1)); have n2_ := zq9 (Kd.R_mono (Kd.R_keep (IsS118.apart (show IsS118 w0 _ g s0_0 x1001_4 from by repeat (first | (with_reducible first | exact HI0.out | apply IsS118.alloc | apply IsS118.drewN | apply IsS118.drew | apply IsS118.set_1 | refine IsS118.far ?_ NB0_563.out _ | refine IsS118.far ?_ NB0_576.out _) | exact HI0.out)) (by exact rz HO_577006) (by decide)) hk (fun _ h => h.2)) (fun _ h => h.1)); have n3_ := zq9 (KeepBut.blk hk (g' := gb563) (o := .cells #[.string (⟨#[]⟩ : ByteArray), .int .i64 0, .int .i64 0, .string (⟨#[]⟩ : ByteArray), .slice none 0 0, .slice none 0 0, .slice none 0 0] 32 (0, 0)) (by exact bk BK563) NB563_0.out (by simp)); have n4_ := zq9 (KeepBut.blk hk (g' := gb576) (o := .cells #[.string t567, .int .i64 t574, .int .i64 (wrap64 (1 + t569)), .string x577003_4, u577004, u577005, u577006] 32 (0, 0)) (by exact bk BK576) NB576_0.out (by simp)); have n5_ := zq9 (KeepBut.trans (by repeat (first | (with_reducible first | exact HK.out | apply zq13 | apply zq14 | apply zq15 | apply zq16 | refine zq17 ?_ GW563.out _ | refine zq17 ?_ GW576.out _) | exact HK.out)) hk (.inl rfl)); have n6_ := zq9 (hb); have n7_ := zq9 (hi); clear HO_577004; clear HO_577005; clear HO_577006; clear BK563; clear BK576; clear HK; clear HB; clear HI0; have HO_577004 := n0_; have HO_577005 := n1_; have HO_577006 := n2_; have BK563 := n3_; have BK576 := n4_; have HK := n5_; have HB := n6_; have HI0 := n7_; clear n0_ n1_ n2_ n3_ n4_ n5_ n6_ n7_; (try clear hb); (try clear hb2); (try clear hk); (try clear hi)) | ((with_reducible refine zq24 (f := 91) rfl ?_); refine gl (some 45) Try.func91 #[.pointer (some ⟨g, 0, none⟩), .int .i64 7] ?_; (with_reducible refine (spec_l1Rd_pick.calls kj4 g s0_0 t596 7 t597 t598 w0 _ ?side1 ?side2 A56.out).mono ?_); (case side1 => repeat (first | (with_reducible first | exact HI0.out | apply IsS118.alloc | apply IsS118.drewN | apply IsS118.drew | apply IsS118.set_1 | refine IsS118.far ?_ NB0_563.out _ | refine IsS118.far ?_ NB0_576.out _) | exact HI0.out)); (case side2 => exact b3 HB (zq9 (IsS118.ge HI0.out)) GE563 GE576); rintro e w58 ⟨rfl, hi, hb, hk⟩; refine ⟨_, rfl, ?_⟩; have n0_ := zq9 (Kd.V_mono (Kd.V_keep (Kd.V_mono (ok := fun k_ => (((w.heap.size ≤ k_)) ∧ (some k_ ≠ (u577005 : Value).ownBlock ∧ (some k_ ≠ (u577006 : Value).ownBlock ∧ (k_ ≠ gb563 ∧ (k_ ≠ gb576 ∧ k_ ≠ g)))))) (by exact vz HO_577004) (fun k_ hk_ => (⟨hk_, hk_.2.2.2.2.2⟩ : _ ∧ k_ ≠ g))) hk (fun _ h => h.2)) (fun _ h => h.1)); have n1_ := zq9 (Kd.R_mono (Kd.R_keep (IsS118.apart (show IsS118 w0 _ g s0_0 t596 from by repeat (first | (with_reducible first | exact HI0.out | apply IsS118.alloc | apply IsS118.drewN | apply IsS118.drew | apply IsS118.set_1 | refine IsS118.far ?_ NB0_563.out _ | refine IsS118.far ?_ NB0_576.out _) | exact HI0.out)) (by exact rz HO_577005) (by decide)) hk (fun _ h => h.2)) (fun _ h => h.1)); have n2_ := zq9 (Kd.R_mono (Kd.R_keep (IsS118.apart (show IsS118 w0 _ g s0_0 t596 from by repeat (first | (with_reducible first | exact HI0.out | apply IsS118.alloc | apply IsS118.drewN | apply IsS118.drew | apply IsS118.set_1 | refine IsS118.far ?_ NB0_563.out _ | refine IsS118.far ?_ NB0_576.out _) | exact HI0.out)) (by exact rz HO_577006) (by decide)) hk (fun _ h => h.2)) (fun _ h => h.1)); have n3_ := zq9 (KeepBut.blk hk (g' := gb563) (o := .cells #[.string (⟨#[]⟩ : ByteArray), .int .i64 0, .int .i64 0, .string (⟨#[]⟩ : ByteArray), .slice none 0 0, .slice none 0 0, .slice none 0 0] 32 (0, 0)) (by exact bk BK563) NB563_0.out (by simp)); have n4_ := zq9 (KeepBut.blk hk (g' := gb576) (o := .cells #[.string t567, .int .i64 t574, .int .i64 (wrap64 (1 + t569)), .string x577003_4, u577004, u577005, u577006] 32 (0, 0)) (by exact bk BK576) NB576_0.out (by simp)); have n5_ := zq9 (KeepBut.trans (by repeat (first | (with_reducible first | exact HK.out | apply zq13 | apply zq14 | apply zq15 | apply zq16 | refine zq17 ?_ GW563.out _ | refine zq17 ?_ GW576.out _) | exact HK.out)) hk (.inl rfl)); have n6_ := zq9 (hb); have n7_ := zq9 (hi); clear HO_577004; clear HO_577005; clear HO_577006; clear BK563; clear BK576; clear HK; clear HB; clear HI0; have HO_577004 := n0_; have HO_577005 := n1_; have HO_577006 := n2_; have BK563 := n3_; have BK576 := n4_; have HK := n5_; have HB := n6_; have HI0 := n7_; clear n0_ n1_ n2_ n3_ n4_ n5_ n6_ n7_; (try clear hb); (try clear hb2); (try clear hk); (try clear hi); have hnb59 := NB576_563.out; have hnc59 := NB563_576.out; have hnb60 := NB576_0.out; have hnc60 := NB0_576.out; have hcz61_0 : w58.cell? ⟨gb576, 0, none⟩ = some (.string t567) := bc BK576 0; have hcz61_1 : w58.cell? ⟨gb576, 1, none⟩ = some (.int .i64 t574) := bc BK576 1; have hcz61_2 : w58.cell? ⟨gb576, 2, none⟩ = some (.int .i64 (wrap64 (1 + t569))) := bc BK576 2; have hcz61_3 : w58.cell? ⟨gb576, 3, none⟩ = some (.string x577003_4) := bc BK576 3; have hcz61_4 : w58.cell? ⟨gb576, 4, none⟩ = some (u577004) := bc BK576 4; have hcz61_5 : w58.cell? ⟨gb576, 5, none⟩ = some (u577005) := bc BK576 5; have hcz61_6 : w58.cell? ⟨gb576, 6, none⟩ = some (u577006) := bc BK576 6; have hfz61_0 := zq6 BK576.out 0; have hfz61_1 := zq6 BK576.out 1; have hfz61_2 := zq6 BK576.out 2; have hfz61_3 := zq6 BK576.out 3; have hfz61_4 := zq6 BK576.out 4; have hfz61_5 := zq6 BK576.out 5; have hfz61_6 := zq6 BK576.out 6; have hnb62 := NB563_0.out; have hnc62 := NB0_563.out; have hcz63_0 : w58.cell? ⟨gb563, 0, none⟩ = some (.string (⟨#[]⟩ : ByteArray)) := bc BK563 0; have hcz63_1 : w58.cell? ⟨gb563, 1, none⟩ = some (.int .i64 0) := bc BK563 1; have hcz63_2 : w58.cell? ⟨gb563, 2, none⟩ = some (.int .i64 0) := bc BK563 2; have hcz63_3 : w58.cell? ⟨gb563, 3, none⟩ = some (.string (⟨#[]⟩ : ByteArray)) := bc BK563 3; have hcz63_4 : w58.cell? ⟨gb563, 4, none⟩ = some (.slice none 0 0) := bc BK563 4; have hcz63_5 : w58.cell? ⟨gb563, 5, none⟩ = some (.slice none 0 0) := bc BK563 5; have hcz63_6 : w58.cell? ⟨gb563, 6, none⟩ = some (.slice none 0 0) := bc BK563 6; have hfz63_0 := zq6 BK563.out 0; have hfz63_1 := zq6 BK563.out 1; have hfz63_2 := zq6 BK563.out 2; have hfz63_3 := zq6 BK563.out 3; have hfz63_4 := zq6 BK563.out 4; have hfz63_5 := zq6 BK563.out 5; have hfz63_6 := zq6 BK563.out 6; obtain ⟨Ao64, co64, eo64⟩ := Kd.V_slice HO_577004.out; subst eo64; obtain ⟨Ao65, co65, eo65⟩ := Kd.R_slice HO_577005.out; subst eo65; obtain ⟨Ao66, co66, eo66⟩ := Kd.R_slice HO_577006.out; subst eo66))
    refine bodyPost_ret (results_cell_row rfl _ _ gb563 32 #[.string t567, .int .i64 t574, .int .i64 t597, .string x577003_4, .slice Ao64 x577004_4.length co64, .slice Ao65 x577005_4.length co65, .slice Ao66 x577006_4.length co66] (0, 0) _ rfl (by refine bp ?_; refine blk_put (cs := #[.string t567, .int .i64 t574, .int .i64 t597, .string x577003_4, .slice Ao64 x577004_4.length co64, .slice Ao65 x577005_4.length co65, .slice none 0 0]) ?_ 6 _ rfl; refine bp ?_; refine blk_put (cs := #[.string t567, .int .i64 t574, .int .i64 t597, .string x577003_4, .slice Ao64 x577004_4.length co64, .slice none 0 0, .slice none 0 0]) ?_ 5 _ rfl; refine bp ?_; refine blk_put (cs := #[.string t567, .int .i64 t574, .int .i64 t597, .string x577003_4, .slice none 0 0, .slice none 0 0, .slice none 0 0]) ?_ 4 _ rfl; refine bp ?_; refine blk_put (cs := #[.string t567, .int .i64 t574, .int .i64 t597, .string (⟨#[]⟩ : ByteArray), .slice none 0 0, .slice none 0 0, .slice none 0 0]) ?_ 3 _ rfl; refine bp ?_; refine blk_put (cs := #[.string t567, .int .i64 t574, .int .i64 0, .string (⟨#[]⟩ : ByteArray), .slice none 0 0, .slice none 0 0, .slice none 0 0]) ?_ 2 _ rfl; refine bp ?_; refine blk_put (cs := #[.string t567, .int .i64 0, .int .i64 0, .string (⟨#[]⟩ : ByteArray), .slice none 0 0, .slice none 0 0, .slice none 0 0]) ?_ 1 _ rfl; refine bp ?_; refine blk_put (cs := #[.string (⟨#[]⟩ : ByteArray), .int .i64 0, .int .i64 0, .string (⟨#[]⟩ : ByteArray), .slice none 0 0, .slice none 0 0, .slice none 0 0]) ?_ 0 _ rfl; refine bp ?_; refine blk_far ?_ NB563_576.out _; refine bp ?_; exact BK563.out) Try.underlying32 rfl (by kernel_rfl)) rfl ?_
    exact ⟨_, _, _, by first | rfl | (simp [errW_none, errW_some] <;> rfl) | (simp [*, errW_none, errW_some] <;> rfl), by (with_reducible repeat (first | apply zq21 | apply zq22 | apply zq23)); exact Kd.V_mono (Kd.V_far (p := ⟨gb563, 6, none⟩) (Kd.V_far (p := ⟨gb563, 5, none⟩) (Kd.V_far (p := ⟨gb563, 4, none⟩) (Kd.V_far (p := ⟨gb563, 3, none⟩) (Kd.V_far (p := ⟨gb563, 2, none⟩) (Kd.V_far (p := ⟨gb563, 1, none⟩) (Kd.V_far (p := ⟨gb563, 0, none⟩) (Kd.V_far (p := ⟨gb576, 2, none⟩) (Kd.V_mono (Kd.V_mono HO_577004.out (fun k_ hk => (⟨hk, hk.2.2.2.2.1⟩ : _ ∧ k_ ≠ gb576))) (fun k_ hk => (⟨hk, hk.1.2.2.2.1⟩ : _ ∧ k_ ≠ gb563))) (fun _ hk => hk.1.2) (.int .i64 t597)) (fun _ hk => hk.2) (.string t567)) (fun _ hk => hk.2) (.int .i64 t574)) (fun _ hk => hk.2) (.int .i64 t597)) (fun _ hk => hk.2) (.string x577003_4)) (fun _ hk => hk.2) (.slice Ao64 x577004_4.length co64)) (fun _ hk => hk.2) (.slice Ao65 x577005_4.length co65)) (fun _ hk => hk.2) (.slice Ao66 x577006_4.length co66)) (fun _ hk => ⟨hk.1.1.1, ⟨hk.1.1.2.1, hk.1.1.2.2.1⟩⟩), by (with_reducible repeat (first | apply zq10 | apply zq11 | apply zq12)); exact Kd.R_mono (Kd.R_far (p := ⟨gb563, 6, none⟩) (Kd.R_far (p := ⟨gb563, 5, none⟩) (Kd.R_far (p := ⟨gb563, 4, none⟩) (Kd.R_far (p := ⟨gb563, 3, none⟩) (Kd.R_far (p := ⟨gb563, 2, none⟩) (Kd.R_far (p := ⟨gb563, 1, none⟩) (Kd.R_far (p := ⟨gb563, 0, none⟩) (Kd.R_far (p := ⟨gb576, 2, none⟩) (Kd.R_types (Kd.R_types HO_577005.out BK576.out (by decide)) BK563.out (by decide)) (fun _ hk => hk.1.2) (.int .i64 t597)) (fun _ hk => hk.2) (.string t567)) (fun _ hk => hk.2) (.int .i64 t574)) (fun _ hk => hk.2) (.int .i64 t597)) (fun _ hk => hk.2) (.string x577003_4)) (fun _ hk => hk.2) (.slice Ao64 x577004_4.length co64)) (fun _ hk => hk.2) (.slice Ao65 x577005_4.length co65)) (fun _ hk => hk.2) (.slice Ao66 x577006_4.length co66)) (fun _ hk => hk.1.1), by (with_reducible repeat (first | apply zq10 | apply zq11 | apply zq12)); exact Kd.R_mono (Kd.R_far (p := ⟨gb563, 6, none⟩) (Kd.R_far (p := ⟨gb563, 5, none⟩) (Kd.R_far (p := ⟨gb563, 4, none⟩) (Kd.R_far (p := ⟨gb563, 3, none⟩) (Kd.R_far (p := ⟨gb563, 2, none⟩) (Kd.R_far (p := ⟨gb563, 1, none⟩) (Kd.R_far (p := ⟨gb563, 0, none⟩) (Kd.R_far (p := ⟨gb576, 2, none⟩) (Kd.R_types (Kd.R_types HO_577006.out BK576.out (by decide)) BK563.out (by decide)) (fun _ hk => hk.1.2) (.int .i64 t597)) (fun _ hk => hk.2) (.string t567)) (fun _ hk => hk.2) (.int .i64 t574)) (fun _ hk => hk.2) (.int .i64 t597)) (fun _ hk => hk.2) (.string x577003_4)) (fun _ hk => hk.2) (.slice Ao64 x577004_4.length co64)) (fun _ hk => hk.2) (.slice Ao65 x577005_4.length co65)) (fun _ hk => hk.2) (.slice Ao66 x577006_4.length co66)) (fun _ hk => hk.1.1), by repeat (first | (with_reducible first | exact HI0.out | apply IsS118.alloc | apply IsS118.drewN | apply IsS118.drew | apply IsS118.set_1 | refine IsS118.far ?_ NB0_563.out _ | refine IsS118.far ?_ NB0_576.out _) | exact HI0.out), by exact b3 HB (zq9 (IsS118.ge HI0.out)) GE563 GE576, by repeat (first | (with_reducible first | exact HK.out | apply zq13 | apply zq14 | apply zq15 | apply zq16 | refine zq17 ?_ GW563.out _ | refine zq17 ?_ GW576.out _) | exact HK.out)⟩
   ·rw [if_neg c55] at H
    have c55b0 : (t595 == 0) = false := beq_eq_false_iff_ne.mpr c55
    have c55b1 : (t595 != 0) = true := bne_iff_ne.mpr c55
    simp only [Option.some.injEq, Prod.mk.injEq] at H
    obtain ⟨rfl, rfl, rfl, rfl, rfl, rfl, rfl, rfl⟩ := H
    go_wp2_with (first | ((with_reducible refine zq24 (f := 91) rfl ?_); refine gl (some 42) Try.func91 #[.pointer (some ⟨g, 0, none⟩), .int .i64 16] ?_; (with_reducible refine (spec_l1Rd_pick.calls kj4 g s0_0 x1001_4 16 t595 t596 w0 _ ?side1 ?side2 A54.out).mono ?_); (case side1 => repeat (first | (with_reducible first | exact HI0.out | apply IsS118.alloc | apply IsS118.drewN | apply IsS118.drew | apply IsS118.set_1 | refine IsS118.far ?_ NB0_563.out _ | refine IsS118.far ?_ NB0_576.out _) | exact HI0.out)); (case side2 => exact b3 HB (zq9 (IsS118.ge HI0.out)) GE563 GE576); rintro e w67 ⟨rfl, hi, hb, hk⟩; refine ⟨_, rfl, ?_⟩; have n0_ := zq9 (Kd.V_mono (Kd.V_keep (Kd.V_mono (ok := fun k_ => (((w.heap.size ≤ k_)) ∧ (some k_ ≠ (u577005 : Value).ownBlock ∧ (some k_ ≠ (u577006 : Value).ownBlock ∧ (k_ ≠ gb563 ∧ (k_ ≠ gb576 ∧ k_ ≠ g)))))) (by exact vz HO_577004) (fun k_ hk_ => (⟨hk_, hk_.2.2.2.2.2⟩ : _ ∧ k_ ≠ g))) hk (fun _ h => h.2)) (fun _ h => h.1)); have n1_ := zq9 (Kd.R_mono (Kd.R_keep (IsS118.apart (show IsS118 w0 _ g s0_0 x1001_4 from by repeat (first | (with_reducible first | exact HI0.out | apply IsS118.alloc | apply IsS118.drewN | apply IsS118.drew | apply IsS118.set_1 | refine IsS118.far ?_ NB0_563.out _ | refine IsS118.far ?_ NB0_576.out _) | exact HI0.out)) (by exact rz HO_577005) (by decide)) hk (fun _ h => h.2)) (fun _ h => h.1)); have n2_ := zq9 (Kd.R_mono (Kd.R_keep (IsS118.apart (show IsS118 w0 _ g s0_0 x1001_4 from by repeat (first | (with_reducible first | exact HI0.out | apply IsS118.alloc | apply IsS118.drewN | apply IsS118.drew | apply IsS118.set_1 | refine IsS118.far ?_ NB0_563.out _ | refine IsS118.far ?_ NB0_576.out _) | exact HI0.out)) (by exact rz HO_577006) (by decide)) hk (fun _ h => h.2)) (fun _ h => h.1)); have n3_ := zq9 (KeepBut.blk hk (g' := gb563) (o := .cells #[.string (⟨#[]⟩ : ByteArray), .int .i64 0, .int .i64 0, .string (⟨#[]⟩ : ByteArray), .slice none 0 0, .slice none 0 0, .slice none 0 0] 32 (0, 0)) (by exact bk BK563) NB563_0.out (by simp)); have n4_ := zq9 (KeepBut.blk hk (g' := gb576) (o := .cells #[.string t567, .int .i64 t574, .int .i64 (wrap64 (1 + t569)), .string x577003_4, u577004, u577005, u577006] 32 (0, 0)) (by exact bk BK576) NB576_0.out (by simp)); have n5_ := zq9 (KeepBut.trans (by repeat (first | (with_reducible first | exact HK.out | apply zq13 | apply zq14 | apply zq15 | apply zq16 | refine zq17 ?_ GW563.out _ | refine zq17 ?_ GW576.out _) | exact HK.out)) hk (.inl rfl)); have n6_ := zq9 (hb); have n7_ := zq9 (hi); clear HO_577004; clear HO_577005; clear HO_577006; clear BK563; clear BK576; clear HK; clear HB; clear HI0; have HO_577004 := n0_; have HO_577005 := n1_; have HO_577006 := n2_; have BK563 := n3_; have BK576 := n4_; have HK := n5_; have HB := n6_; have HI0 := n7_; clear n0_ n1_ n2_ n3_ n4_ n5_ n6_ n7_; (try clear hb); (try clear hb2); (try clear hk); (try clear hi); have hnb68 := NB576_563.out; have hnc68 := NB563_576.out; have hnb69 := NB576_0.out; have hnc69 := NB0_576.out; have hcz70_0 : w67.cell? ⟨gb576, 0, none⟩ = some (.string t567) := bc BK576 0; have hcz70_1 : w67.cell? ⟨gb576, 1, none⟩ = some (.int .i64 t574) := bc BK576 1; have hcz70_2 : w67.cell? ⟨gb576, 2, none⟩ = some (.int .i64 (wrap64 (1 + t569))) := bc BK576 2; have hcz70_3 : w67.cell? ⟨gb576, 3, none⟩ = some (.string x577003_4) := bc BK576 3; have hcz70_4 : w67.cell? ⟨gb576, 4, none⟩ = some (u577004) := bc BK576 4; have hcz70_5 : w67.cell? ⟨gb576, 5, none⟩ = some (u577005) := bc BK576 5; have hcz70_6 : w67.cell? ⟨gb576, 6, none⟩ = some (u577006) := bc BK576 6; have hfz70_0 := zq6 BK576.out 0; have hfz70_1 := zq6 BK576.out 1; have hfz70_2 := zq6 BK576.out 2; have hfz70_3 := zq6 BK576.out 3; have hfz70_4 := zq6 BK576.out 4; have hfz70_5 := zq6 BK576.out 5; have hfz70_6 := zq6 BK576.out 6; have hnb71 := NB563_0.out; have hnc71 := NB0_563.out; have hcz72_0 : w67.cell? ⟨gb563, 0, none⟩ = some (.string (⟨#[]⟩ : ByteArray)) := bc BK563 0; have hcz72_1 : w67.cell? ⟨gb563, 1, none⟩ = some (.int .i64 0) := bc BK563 1; have hcz72_2 : w67.cell? ⟨gb563, 2, none⟩ = some (.int .i64 0) := bc BK563 2; have hcz72_3 : w67.cell? ⟨gb563, 3, none⟩ = some (.string (⟨#[]⟩ : ByteArray)) := bc BK563 3; have hcz72_4 : w67.cell? ⟨gb563, 4, none⟩ = some (.slice none 0 0) := bc BK563 4; have hcz72_5 : w67.cell? ⟨gb563, 5, none⟩ = some (.slice none 0 0) := bc BK563 5; have hcz72_6 : w67.cell? ⟨gb563, 6, none⟩ = some (.slice none 0 0) := bc BK563 6; have hfz72_0 := zq6 BK563.out 0; have hfz72_1 := zq6 BK563.out 1; have hfz72_2 := zq6 BK563.out 2; have hfz72_3 := zq6 BK563.out 3; have hfz72_4 := zq6 BK563.out 4; have hfz72_5 := zq6 BK563.out 5; have hfz72_6 := zq6 BK563.out 6; obtain ⟨Ao73, co73, eo73⟩ := Kd.V_slice HO_577004.out; subst eo73; obtain ⟨Ao74, co74, eo74⟩ := Kd.R_slice HO_577005.out; subst eo74; obtain ⟨Ao75, co75, eo75⟩ := Kd.R_slice HO_577006.out; subst eo75))
    refine bodyPost_ret (results_cell_row rfl _ _ gb563 32 #[.string t567, .int .i64 t574, .int .i64 (wrap64 (1 + t569)), .string x577003_4, .slice Ao73 x577004_4.length co73, .slice Ao74 x577005_4.length co74, .slice Ao75 x577006_4.length co75] (0, 0) _ rfl (by refine bp ?_; refine blk_put (cs := #[.string t567, .int .i64 t574, .int .i64 (wrap64 (1 + t569)), .string x577003_4, .slice Ao73 x577004_4.length co73, .slice Ao74 x577005_4.length co74, .slice none 0 0]) ?_ 6 _ rfl; refine bp ?_; refine blk_put (cs := #[.string t567, .int .i64 t574, .int .i64 (wrap64 (1 + t569)), .string x577003_4, .slice Ao73 x577004_4.length co73, .slice none 0 0, .slice none 0 0]) ?_ 5 _ rfl; refine bp ?_; refine blk_put (cs := #[.string t567, .int .i64 t574, .int .i64 (wrap64 (1 + t569)), .string x577003_4, .slice none 0 0, .slice none 0 0, .slice none 0 0]) ?_ 4 _ rfl; refine bp ?_; refine blk_put (cs := #[.string t567, .int .i64 t574, .int .i64 (wrap64 (1 + t569)), .string (⟨#[]⟩ : ByteArray), .slice none 0 0, .slice none 0 0, .slice none 0 0]) ?_ 3 _ rfl; refine bp ?_; refine blk_put (cs := #[.string t567, .int .i64 t574, .int .i64 0, .string (⟨#[]⟩ : ByteArray), .slice none 0 0, .slice none 0 0, .slice none 0 0]) ?_ 2 _ rfl; refine bp ?_; refine blk_put (cs := #[.string t567, .int .i64 0, .int .i64 0, .string (⟨#[]⟩ : ByteArray), .slice none 0 0, .slice none 0 0, .slice none 0 0]) ?_ 1 _ rfl; refine bp ?_; refine blk_put (cs := #[.string (⟨#[]⟩ : ByteArray), .int .i64 0, .int .i64 0, .string (⟨#[]⟩ : ByteArray), .slice none 0 0, .slice none 0 0, .slice none 0 0]) ?_ 0 _ rfl; refine bp ?_; exact BK563.out) Try.underlying32 rfl (by kernel_rfl)) rfl ?_
    exact ⟨_, _, _, by first | rfl | (simp [errW_none, errW_some] <;> rfl) | (simp [*, errW_none, errW_some] <;> rfl), by (with_reducible repeat (first | apply zq21 | apply zq22 | apply zq23)); exact Kd.V_mono (Kd.V_far (p := ⟨gb563, 6, none⟩) (Kd.V_far (p := ⟨gb563, 5, none⟩) (Kd.V_far (p := ⟨gb563, 4, none⟩) (Kd.V_far (p := ⟨gb563, 3, none⟩) (Kd.V_far (p := ⟨gb563, 2, none⟩) (Kd.V_far (p := ⟨gb563, 1, none⟩) (Kd.V_far (p := ⟨gb563, 0, none⟩) (Kd.V_mono HO_577004.out (fun k_ hk => (⟨hk, hk.2.2.2.1⟩ : _ ∧ k_ ≠ gb563))) (fun _ hk => hk.2) (.string t567)) (fun _ hk => hk.2) (.int .i64 t574)) (fun _ hk => hk.2) (.int .i64 (wrap64 (1 + t569)))) (fun _ hk => hk.2) (.string x577003_4)) (fun _ hk => hk.2) (.slice Ao73 x577004_4.length co73)) (fun _ hk => hk.2) (.slice Ao74 x577005_4.length co74)) (fun _ hk => hk.2) (.slice Ao75 x577006_4.length co75)) (fun _ hk => ⟨hk.1.1, ⟨hk.1.2.1, hk.1.2.2.1⟩⟩), by (with_reducible repeat (first | apply zq10 | apply zq11 | apply zq12)); exact Kd.R_mono (Kd.R_far (p := ⟨gb563, 6, none⟩) (Kd.R_far (p := ⟨gb563, 5, none⟩) (Kd.R_far (p := ⟨gb563, 4, none⟩) (Kd.R_far (p := ⟨gb563, 3, none⟩) (Kd.R_far (p := ⟨gb563, 2, none⟩) (Kd.R_far (p := ⟨gb563, 1, none⟩) (Kd.R_far (p := ⟨gb563, 0, none⟩) (Kd.R_types HO_577005.out BK563.out (by decide)) (fun _ hk => hk.2) (.string t567)) (fun _ hk => hk.2) (.int .i64 t574)) (fun _ hk => hk.2) (.int .i64 (wrap64 (1 + t569)))) (fun _ hk => hk.2) (.string x577003_4)) (fun _ hk => hk.2) (.slice Ao73 x577004_4.length co73)) (fun _ hk => hk.2) (.slice Ao74 x577005_4.length co74)) (fun _ hk => hk.2) (.slice Ao75 x577006_4.length co75)) (fun _ hk => hk.1), by (with_reducible repeat (first | apply zq10 | apply zq11 | apply zq12)); exact Kd.R_mono (Kd.R_far (p := ⟨gb563, 6, none⟩) (Kd.R_far (p := ⟨gb563, 5, none⟩) (Kd.R_far (p := ⟨gb563, 4, none⟩) (Kd.R_far (p := ⟨gb563, 3, none⟩) (Kd.R_far (p := ⟨gb563, 2, none⟩) (Kd.R_far (p := ⟨gb563, 1, none⟩) (Kd.R_far (p := ⟨gb563, 0, none⟩) (Kd.R_types HO_577006.out BK563.out (by decide)) (fun _ hk => hk.2) (.string t567)) (fun _ hk => hk.2) (.int .i64 t574)) (fun _ hk => hk.2) (.int .i64 (wrap64 (1 + t569)))) (fun _ hk => hk.2) (.string x577003_4)) (fun _ hk => hk.2) (.slice Ao73 x577004_4.length co73)) (fun _ hk => hk.2) (.slice Ao74 x577005_4.length co74)) (fun _ hk => hk.2) (.slice Ao75 x577006_4.length co75)) (fun _ hk => hk.1), by repeat (first | (with_reducible first | exact HI0.out | apply IsS118.alloc | apply IsS118.drewN | apply IsS118.drew | apply IsS118.set_1 | refine IsS118.far ?_ NB0_563.out _ | refine IsS118.far ?_ NB0_576.out _) | exact HI0.out), by exact b3 HB (zq9 (IsS118.ge HI0.out)) GE563 GE576, by repeat (first | (with_reducible first | exact HK.out | apply zq13 | apply zq14 | apply zq15 | apply zq16 | refine zq17 ?_ GW563.out _ | refine zq17 ?_ GW576.out _) | exact HK.out)⟩
set_option maxHeartbeats 8000000 in
set_option maxRecDepth 100000 in
theorem spec_l1Open.calls (A0 : Option Addr) (c0 : Nat) (l0 : List Int) (r1 : List Int) (r2 : Int) (w0 w : World) (hB : Below w0.heap.size w0 w) (hr0 : Kd.C (Kd.int .u8) w0 A0 l0.length l0) (hc0 : l0.length ≤ c0) (h : spec_l1Open.f l0 = some (r1, r2)) :
    Calls Try.prog 57 #[.slice A0 l0.length c0] w fun e w' => ∃ g_ : Nat, e = .returned (.pointer (some ⟨g_, 0, none⟩)) ∧ IsS118 w0 w' g_ r1 r2 ∧ Below w0.heap.size w0 w' ∧ Below w.heap.size w w' := by
  have hu118 := Try.underlying118
  have HR0 := zq9 hr0
  have HC0 := zq9 hc0
  clear hr0 hc0
  have HBW := zq9 (Below.refl w.heap.size w)
  have HW0 := zq9 hB.size
  have HB := zq9 hB
  clear hB
  have H : (if (l0.length : Int) > 2000 then (if 2000 ≤ (l0.length : Int) then (some (l0.take 2000, 0)) else (none)) else (some (l0, 0))) = some (r1, r2) := h
  clear h
  by_cases c2 : (l0.length : Int) > 2000
  · rw [if_pos c2] at H
    have c2b0 : decide (2000 < (l0.length : Int)) = true := decide_eq_true c2
    have c2b1 : decide (2000 < l0.length) = true := decide_eq_true (by omega)
    clear c2
    by_cases c3 : 2000 ≤ (l0.length : Int)
    · rw [if_pos c3] at H
      have c3b0 := eq_true c3
      have c3b1 : decide (2000 ≤ (l0.length : Int)) = true := decide_eq_true c3
      clear c3
      simp only [Option.some.injEq, Prod.mk.injEq] at H
      obtain ⟨rfl, rfl⟩ := H
      obtain ⟨i04, hi04, _, hsz4, _⟩ := info_parts info5
      obtain ⟨hcut4, hA4, hC4⟩ := print_take_of (P := Try.prog) (Value.int .u8) 0 36 5 .i64 Try.underlying36 hi04 hsz4 A0 c0 l0 2000 (by omega) (of_decide_eq_true ‹_›) HC0.out
      have HR599 := zq9 (Kd.C_of_reads (h1 := fun _ => rfl) (hA4 _ (Kd.reads_of_C HR0.out)))
      have HC599 := zq9 hC4
      clear hA4 hC4 hi04 hsz4
      go_enter Try.func57, Try.ntmps57
      go_wp2_with (first | ((with_reducible refine zq25 (N := 10) rfl ?_); refine bx 10 #[.slice A0 (l0.take 2000).length c0, .int .i64 0] 118 ?_; intro gb600 hg w5 hbox hb; have n0_ := zq9 (zq27 HBW.out hb); have n1_ := zq9 (zq27 (by exact bl HB) hb); have n2_ := zq9 (hbox); have n3_ := zq9 ((by rw [hg]; exact (zq29 (by exact bl HBW)) : w.heap.size ≤ gb600)); have n4_ := zq9 ((Nat.le_trans HW0.out (by rw [hg]; exact (zq29 (by exact bl HBW)) : w.heap.size ≤ gb600) : w0.heap.size ≤ gb600)); clear HBW; clear HB; have HBW := n0_; have HB := n1_; have BK600 := n2_; have GW600 := n3_; have GE600 := n4_; clear n0_ n1_ n2_ n3_ n4_; clear hb hbox hg))
      go_ret
      exact ⟨_, rfl, (show IsS118 w0 _ gb600 (l0.take 2000) 0 from ⟨_, _, by refine bp ?_; exact BK600.out, GE600.out, HR599.out⟩), by exact b1 HB GE600, by repeat (first | (with_reducible first | exact HBW.out | apply zq5 | apply zq3 | apply zq4 | refine zq28 ?_ GW600.out) | exact HBW.out)⟩
    · rw [if_neg c3] at H
      exact absurd H (by simp)
  · rw [if_neg c2] at H
    have c2b0 : decide (2000 < (l0.length : Int)) = false := decide_eq_false c2
    have c2b1 : decide (2000 < l0.length) = false := decide_eq_false (by omega)
    clear c2
    simp only [Option.some.injEq, Prod.mk.injEq] at H
    obtain ⟨rfl, rfl⟩ := H
    go_enter Try.func57, Try.ntmps57
    go_wp2_with (first | ((with_reducible refine zq25 (N := 10) rfl ?_); refine bx 10 #[.slice A0 l0.length c0, .int .i64 0] 118 ?_; intro gb601 hg w6 hbox hb; have n0_ := zq9 (zq27 HBW.out hb); have n1_ := zq9 (zq27 (by exact bl HB) hb); have n2_ := zq9 (hbox); have n3_ := zq9 ((by rw [hg]; exact (zq29 (by exact bl HBW)) : w.heap.size ≤ gb601)); have n4_ := zq9 ((Nat.le_trans HW0.out (by rw [hg]; exact (zq29 (by exact bl HBW)) : w.heap.size ≤ gb601) : w0.heap.size ≤ gb601)); clear HBW; clear HB; have HBW := n0_; have HB := n1_; have BK601 := n2_; have GW601 := n3_; have GE601 := n4_; clear n0_ n1_ n2_ n3_ n4_; clear hb hbox hg))
    go_ret
    exact ⟨_, rfl, (show IsS118 w0 _ gb601 l0 0 from ⟨_, _, by refine bp ?_; exact BK601.out, GE601.out, HR0.out⟩), by exact b1 HB GE601, by repeat (first | (with_reducible first | exact HBW.out | apply zq5 | apply zq3 | apply zq4 | refine zq28 ?_ GW601.out) | exact HBW.out)⟩
set_option maxHeartbeats 8000000 in
set_option maxRecDepth 100000 in
theorem spec_DrawEntryOk.calls (k : Nat) (A0 : Option Addr) (c0 : Nat) (l0 : List Int) (r1 : ByteArray) (r2 : Int) (r3 : Int) (r4 : ByteArray) (r5 : List ByteArray) (r6 : List (S99)) (r7 : List (S101)) (w : World) (hr0 : Kd.C (Kd.int .u8) w A0 l0.length l0) (hc0 : l0.length ≤ c0) (h : spec_DrawEntryOk.f k l0 = some (r1, r2, r3, r4, r5, r6, r7)) :
    Calls Try.prog 15 #[.slice A0 l0.length c0] w fun e w' => ∃ v4_ v5_ v6_ : Value, e = .returned (.agg #[.string r1, .int .i64 r2, .int .i64 r3, .string r4, v4_, v5_, v6_]) ∧ Kd.V Kd.string 9 w' w.heap.size (fun k_ => (w.heap.size ≤ k_) ∧ some k_ ≠ (v5_ : Value).ownBlock ∧ some k_ ≠ (v6_ : Value).ownBlock) v4_ r5 ∧ Kd.R k99 99 w' w.heap.size (fun k_ => (w.heap.size ≤ k_)) v5_ r6 ∧ Kd.R k101 101 w' w.heap.size (fun k_ => (w.heap.size ≤ k_)) v6_ r7 ∧ Below w.heap.size w w' := by
  have hu32 := Try.underlying32
  have HR0 := zq9 hr0
  have HC0 := zq9 hc0
  clear hr0 hc0
  have HB := zq9 (Below.refl w.heap.size w)
  have H : ((spec_l1Open.f l0).bind fun bt603 => ((spec_l11Entry.f k bt603.1 bt603.2).bind fun bt606 => (some (bt606.1, bt606.2.1, bt606.2.2.1, bt606.2.2.2.1, bt606.2.2.2.2.1, bt606.2.2.2.2.2.1, bt606.2.2.2.2.2.2.1)))) = some (r1, r2, r3, r4, r5, r6, r7) := h
  clear h
  replace H := Option.bind_eq_some_iff.mp H
  obtain ⟨⟨t603, t604⟩, A20, H⟩ := H
  try dsimp only at H
  have A2 := zq9 A20
  clear A20
  replace H := Option.bind_eq_some_iff.mp H
  obtain ⟨⟨t606, t607, t608, t609, t610, t613, t616, t619⟩, A30, H⟩ := H
  try dsimp only at H
  have A3 := zq9 A30
  clear A30
  simp only [Option.some.injEq, Prod.mk.injEq] at H
  obtain ⟨rfl, rfl, rfl, rfl, rfl, rfl, rfl⟩ := H
  go_enter Try.func15, Try.ntmps15
  go_wp2_with (first | ((with_reducible refine zq25 (N := 2) rfl ?_); refine bx 2 #[.string (⟨#[]⟩ : ByteArray), .int .i64 0, .int .i64 0, .string (⟨#[]⟩ : ByteArray), .slice none 0 0, .slice none 0 0, .slice none 0 0] 32 ?_; intro gb602 hg w4 hbox hb; have n0_ := zq9 (zq27 (by exact bl HB) hb); have n1_ := zq9 (hbox); have n2_ := zq9 ((by rw [hg]; exact (zq29 (by exact bl HB)) : w.heap.size ≤ gb602)); have n3_ := n2_; clear HB; have HB := n0_; have BK602 := n1_; have GW602 := n2_; have GE602 := n3_; clear n0_ n1_ n2_ n3_; clear hb hbox hg) | ((with_reducible refine zq24 (f := 57) rfl ?_); refine gl (some 4) Try.func57 #[.slice A0 l0.length c0] ?_; (with_reducible refine (spec_l1Open.calls _ _ l0 t603 t604 w _ ?side1 ?side2 ?side3 A2.out).mono ?_); (case side1 => exact b1 HB GE602); (case side2 => exact HR0.out); (case side3 => exact HC0.out); rintro e w5 ⟨g605, rfl, hi, hb, hb2⟩; refine ⟨_, rfl, ?_⟩; have n0_ := zq9 (zq30 (g := gb602) (o := .cells #[.string (⟨#[]⟩ : ByteArray), .int .i64 0, .int .i64 0, .string (⟨#[]⟩ : ByteArray), .slice none 0 0, .slice none 0 0, .slice none 0 0] 32 (0, 0)) (by exact bk BK602) hb2); have n1_ := zq9 (hb); have n2_ := zq9 (hi); have n3_ := zq9 (IsS118.ne_blk hi (zq30 (g := gb602) (o := .cells #[.string (⟨#[]⟩ : ByteArray), .int .i64 0, .int .i64 0, .string (⟨#[]⟩ : ByteArray), .slice none 0 0, .slice none 0 0, .slice none 0 0] 32 (0, 0)) (by exact bk BK602) hb2) (by decide)); have n4_ := zq9 (Ne.symm (IsS118.ne_blk hi (zq30 (g := gb602) (o := .cells #[.string (⟨#[]⟩ : ByteArray), .int .i64 0, .int .i64 0, .string (⟨#[]⟩ : ByteArray), .slice none 0 0, .slice none 0 0, .slice none 0 0] 32 (0, 0)) (by exact bk BK602) hb2) (by decide))); clear BK602; clear HB; have BK602 := n0_; have HB := n1_; have HI605 := n2_; have NB605_602 := n3_; have NB602_605 := n4_; clear n0_ n1_ n2_ n3_ n4_; (try clear hb); (try clear hb2); (try clear hk); (try clear hi)) | ((with_reducible refine zq24 (f := 56) rfl ?_); refine gl (some 5) Try.func56 #[.pointer (some ⟨g605, 0, none⟩)] ?_; (with_reducible refine (spec_l11Entry.calls k g605 t603 t604 t606 t607 t608 t609 t610 t613 t616 t619 w _ ?side1 ?side2 A3.out).mono ?_); (case side1 => repeat (first | (with_reducible first | exact HI605.out | apply IsS118.alloc | apply IsS118.drewN | apply IsS118.drew | apply IsS118.set_1 | refine IsS118.far ?_ NB605_602.out _) | exact HI605.out)); (case side2 => exact b2 HB (zq9 (IsS118.ge HI605.out)) GE602); rintro e w6 ⟨v611, v614, v617, rfl, ho0, ho1, ho2, hi, hb, hk⟩; refine ⟨_, rfl, ?_⟩; have n0_ := zq9 (KeepBut.blk hk (g' := gb602) (o := .cells #[.string (⟨#[]⟩ : ByteArray), .int .i64 0, .int .i64 0, .string (⟨#[]⟩ : ByteArray), .slice none 0 0, .slice none 0 0, .slice none 0 0] 32 (0, 0)) (by exact bk BK602) NB602_605.out (by simp)); have n1_ := zq9 (Kd.V_lower (Kd.V_mono (ok' := fun k_ => (w.heap.size ≤ k_) ∧ some k_ ≠ (v614 : Value).ownBlock ∧ some k_ ≠ (v617 : Value).ownBlock ∧ k_ ≠ gb602 ∧ k_ ≠ g605) ho0 (fun k_ hk_ => ⟨(Nat.le_trans (zq29 (by exact b2 HB (zq9 (IsS118.ge HI605.out)) GE602)) hk_.1), hk_.2.1, hk_.2.2, (Kd.freshB (g := gb602) (o := .cells #[.string (⟨#[]⟩ : ByteArray), .int .i64 0, .int .i64 0, .string (⟨#[]⟩ : ByteArray), .slice none 0 0, .slice none 0 0, .slice none 0 0] 32 (0, 0)) (by exact bk BK602) k_ hk_.1), (IsS118.fresh (by repeat (first | (with_reducible first | exact HI605.out | apply IsS118.alloc | apply IsS118.drewN | apply IsS118.drew | apply IsS118.set_1 | refine IsS118.far ?_ NB605_602.out _) | exact HI605.out)) k_ hk_.1)⟩)) (zq29 (by exact b2 HB (zq9 (IsS118.ge HI605.out)) GE602))); have n2_ := zq9 (Kd.R_lower (Kd.R_newM (M := fun k_ => (w.heap.size ≤ k_)) (Kd.R_mono (ok' := fun k_ => True) ho1 (fun _ hk_ => trivial)) (zq29 (by exact b2 HB (zq9 (IsS118.ge HI605.out)) GE602)) (fun k_ h_ => h_)) (zq29 (by exact b2 HB (zq9 (IsS118.ge HI605.out)) GE602))); have n3_ := zq9 (Kd.R_lower (Kd.R_newM (M := fun k_ => (w.heap.size ≤ k_)) (Kd.R_mono (ok' := fun k_ => True) ho2 (fun _ hk_ => trivial)) (zq29 (by exact b2 HB (zq9 (IsS118.ge HI605.out)) GE602)) (fun k_ h_ => h_)) (zq29 (by exact b2 HB (zq9 (IsS118.ge HI605.out)) GE602))); have n4_ := zq9 (hb); have n5_ := zq9 (hi); clear BK602; clear HB; clear HI605; have BK602 := n0_; have HO612 := n1_; have HO615 := n2_; have HO618 := n3_; have HB := n4_; have HI605 := n5_; clear n0_ n1_ n2_ n3_ n4_ n5_; (try clear hb); (try clear hb2); (try clear hk); (try clear hi); (try clear ho0); (try clear ho1); (try clear ho2); have hnb7 := NB602_605.out; have hnc7 := NB605_602.out; have hcz8_0 : w6.cell? ⟨gb602, 0, none⟩ = some (.string (⟨#[]⟩ : ByteArray)) := bc BK602 0; have hcz8_1 : w6.cell? ⟨gb602, 1, none⟩ = some (.int .i64 0) := bc BK602 1; have hcz8_2 : w6.cell? ⟨gb602, 2, none⟩ = some (.int .i64 0) := bc BK602 2; have hcz8_3 : w6.cell? ⟨gb602, 3, none⟩ = some (.string (⟨#[]⟩ : ByteArray)) := bc BK602 3; have hcz8_4 : w6.cell? ⟨gb602, 4, none⟩ = some (.slice none 0 0) := bc BK602 4; have hcz8_5 : w6.cell? ⟨gb602, 5, none⟩ = some (.slice none 0 0) := bc BK602 5; have hcz8_6 : w6.cell? ⟨gb602, 6, none⟩ = some (.slice none 0 0) := bc BK602 6; have hfz8_0 := zq6 BK602.out 0; have hfz8_1 := zq6 BK602.out 1; have hfz8_2 := zq6 BK602.out 2; have hfz8_3 := zq6 BK602.out 3; have hfz8_4 := zq6 BK602.out 4; have hfz8_5 := zq6 BK602.out 5; have hfz8_6 := zq6 BK602.out 6; obtain ⟨Ao9, co9, eo9⟩ := Kd.V_slice HO612.out; subst eo9; obtain ⟨Ao10, co10, eo10⟩ := Kd.R_slice HO615.out; subst eo10; obtain ⟨Ao11, co11, eo11⟩ := Kd.R_slice HO618.out; subst eo11))
  refine bodyPost_ret (results_cell_row rfl _ _ gb602 32 #[.string t606, .int .i64 t607, .int .i64 t608, .string t609, .slice Ao9 t610.length co9, .slice Ao10 t613.length co10, .slice Ao11 t616.length co11] (0, 0) _ rfl (by refine bp ?_; refine blk_put (cs := #[.string t606, .int .i64 t607, .int .i64 t608, .string t609, .slice Ao9 t610.length co9, .slice Ao10 t613.length co10, .slice none 0 0]) ?_ 6 _ rfl; refine bp ?_; refine blk_put (cs := #[.string t606, .int .i64 t607, .int .i64 t608, .string t609, .slice Ao9 t610.length co9, .slice none 0 0, .slice none 0 0]) ?_ 5 _ rfl; refine bp ?_; refine blk_put (cs := #[.string t606, .int .i64 t607, .int .i64 t608, .string t609, .slice none 0 0, .slice none 0 0, .slice none 0 0]) ?_ 4 _ rfl; refine bp ?_; refine blk_put (cs := #[.string t606, .int .i64 t607, .int .i64 t608, .string (⟨#[]⟩ : ByteArray), .slice none 0 0, .slice none 0 0, .slice none 0 0]) ?_ 3 _ rfl; refine bp ?_; refine blk_put (cs := #[.string t606, .int .i64 t607, .int .i64 0, .string (⟨#[]⟩ : ByteArray), .slice none 0 0, .slice none 0 0, .slice none 0 0]) ?_ 2 _ rfl; refine bp ?_; refine blk_put (cs := #[.string t606, .int .i64 0, .int .i64 0, .string (⟨#[]⟩ : ByteArray), .slice none 0 0, .slice none 0 0, .slice none 0 0]) ?_ 1 _ rfl; refine bp ?_; refine blk_put (cs := #[.string (⟨#[]⟩ : ByteArray), .int .i64 0, .int .i64 0, .string (⟨#[]⟩ : ByteArray), .slice none 0 0, .slice none 0 0, .slice none 0 0]) ?_ 0 _ rfl; refine bp ?_; exact BK602.out) Try.underlying32 rfl (by kernel_rfl)) rfl ?_
  exact ⟨_, _, _, by first | rfl | (simp [errW_none, errW_some] <;> rfl) | (simp [*, errW_none, errW_some] <;> rfl), by (with_reducible repeat (first | apply zq21 | apply zq22 | apply zq23)); exact Kd.V_mono (Kd.V_far (p := ⟨gb602, 6, none⟩) (Kd.V_far (p := ⟨gb602, 5, none⟩) (Kd.V_far (p := ⟨gb602, 4, none⟩) (Kd.V_far (p := ⟨gb602, 3, none⟩) (Kd.V_far (p := ⟨gb602, 2, none⟩) (Kd.V_far (p := ⟨gb602, 1, none⟩) (Kd.V_far (p := ⟨gb602, 0, none⟩) (Kd.V_mono HO612.out (fun k_ hk => (⟨hk, hk.2.2.2.1⟩ : _ ∧ k_ ≠ gb602))) (fun _ hk => hk.2) (.string t606)) (fun _ hk => hk.2) (.int .i64 t607)) (fun _ hk => hk.2) (.int .i64 t608)) (fun _ hk => hk.2) (.string t609)) (fun _ hk => hk.2) (.slice Ao9 t610.length co9)) (fun _ hk => hk.2) (.slice Ao10 t613.length co10)) (fun _ hk => hk.2) (.slice Ao11 t616.length co11)) (fun _ hk => ⟨hk.1.1, ⟨hk.1.2.1, hk.1.2.2.1⟩⟩), by (with_reducible repeat (first | apply zq10 | apply zq11 | apply zq12)); exact Kd.R_mono (Kd.R_far (p := ⟨gb602, 6, none⟩) (Kd.R_far (p := ⟨gb602, 5, none⟩) (Kd.R_far (p := ⟨gb602, 4, none⟩) (Kd.R_far (p := ⟨gb602, 3, none⟩) (Kd.R_far (p := ⟨gb602, 2, none⟩) (Kd.R_far (p := ⟨gb602, 1, none⟩) (Kd.R_far (p := ⟨gb602, 0, none⟩) (Kd.R_types HO615.out BK602.out (by decide)) (fun _ hk => hk.2) (.string t606)) (fun _ hk => hk.2) (.int .i64 t607)) (fun _ hk => hk.2) (.int .i64 t608)) (fun _ hk => hk.2) (.string t609)) (fun _ hk => hk.2) (.slice Ao9 t610.length co9)) (fun _ hk => hk.2) (.slice Ao10 t613.length co10)) (fun _ hk => hk.2) (.slice Ao11 t616.length co11)) (fun _ hk => hk.1.1), by (with_reducible repeat (first | apply zq10 | apply zq11 | apply zq12)); exact Kd.R_mono (Kd.R_far (p := ⟨gb602, 6, none⟩) (Kd.R_far (p := ⟨gb602, 5, none⟩) (Kd.R_far (p := ⟨gb602, 4, none⟩) (Kd.R_far (p := ⟨gb602, 3, none⟩) (Kd.R_far (p := ⟨gb602, 2, none⟩) (Kd.R_far (p := ⟨gb602, 1, none⟩) (Kd.R_far (p := ⟨gb602, 0, none⟩) (Kd.R_types HO618.out BK602.out (by decide)) (fun _ hk => hk.2) (.string t606)) (fun _ hk => hk.2) (.int .i64 t607)) (fun _ hk => hk.2) (.int .i64 t608)) (fun _ hk => hk.2) (.string t609)) (fun _ hk => hk.2) (.slice Ao9 t610.length co9)) (fun _ hk => hk.2) (.slice Ao10 t613.length co10)) (fun _ hk => hk.2) (.slice Ao11 t616.length co11)) (fun _ hk => hk.1.1), by exact b2 HB (zq9 (IsS118.ge HI605.out)) GE602⟩
end Go.Proofs.Ytnkgmcgbbldkgaa.P
