import Derived.Test.YtnkgmcgbbldkgaaPrFnExactBaseGet4
import Derived.ProofKit
import Derived.SizedLaws
/- Texts of this claim, one behind the other: words on worlds and rows, printed functions and their walks, plain lemmas. -/
namespace Go.Proofs.Ytnkgmcgbbldkgaa.P
open Go.RowKit Go.Proofs.YtnkgmcgbbldkgaaW.PrintWords Go.Proofs.YtnkgmcgbbldkgaaW.PrintLast Go.Proofs.YtnkgmcgbbldkgaaW.PrintMore
attribute [local go_sem] max2_int min2_int max_two min_two max_three min_three max_four min_four   -- for this text's walks alone
set_option linter.unusedVariables false
set_option linter.unusedSimpArgs false
set_option maxHeartbeats 8000000 in
set_option maxRecDepth 100000 in
theorem impl_EntryOk.calls (k : Nat) (a0_0 : ByteArray) (a0_1 : Int) (a0_2 : Int) (a0_3 : ByteArray) (A0_4 : Option Addr) (c0_4 : Nat) (l0_4 : List ByteArray) (A0_5 : Option Addr) (c0_5 : Nat) (l0_5 : List (S99)) (A0_6 : Option Addr) (c0_6 : Nat) (l0_6 : List (S101)) (r : Bool) (w : World) (hr0_4 : Kd.C Kd.string w A0_4 l0_4.length l0_4) (hc0_4 : l0_4.length ≤ c0_4) (hr0_5 : Kd.C k99 w A0_5 l0_5.length l0_5) (hc0_5 : l0_5.length ≤ c0_5) (hr0_6 : Kd.C k101 w A0_6 l0_6.length l0_6) (hc0_6 : l0_6.length ≤ c0_6) (h : impl_EntryOk.f k a0_0 a0_1 a0_2 a0_3 l0_4 l0_5 l0_6 = some r) :
  Calls Try.prog 13 #[.agg #[.string a0_0, .int .i64 a0_1, .int .i64 a0_2, .string a0_3, .slice A0_4 l0_4.length c0_4, .slice A0_5 l0_5.length c0_5, .slice A0_6 l0_6.length c0_6]] w fun e w' => e = .returned (.bool r) ∧ Below w.heap.size w w' := by
 have hu32 := Try.underlying32; have HR0_4 := zq9 hr0_4; have HC0_4 := zq9 hc0_4; clear hr0_4 hc0_4; have HR0_5 := zq9 hr0_5; have HC0_5 := zq9 hc0_5; clear hr0_5 hc0_5; have HR0_6 := zq9 hr0_6; have HC0_6 := zq9 hc0_6; clear hr0_6 hc0_6
 have HB := zq9 (Below.refl w.heap.size w)
 have H : ((impl_keyOk.f a0_0).bind fun t206 => (if t206 = true then ((impl_within.f a0_1 0 2000000).bind fun t207 => (impl_EntryOk.j0 k (!t207) a0_0 a0_1 a0_2 a0_3 l0_4 l0_5 l0_6)) else (impl_EntryOk.j0 k true a0_0 a0_1 a0_2 a0_3 l0_4 l0_5 l0_6))) = some r := h
 clear h; have HC2 := zq9 H; clear H
 go_enter Try.func13, Try.ntmps13
 go_upto_region 1 with (first | ((with_reducible refine zq25 (N := 1) rfl ?_); refine bx 1 #[.string a0_0, .int .i64 a0_1, .int .i64 a0_2, .string a0_3, .slice A0_4 l0_4.length c0_4, .slice A0_5 l0_5.length c0_5, .slice A0_6 l0_6.length c0_6] 32 ?_; intro gb205 hg w3 hbox hb; have n0_ := zq9 (zq27 (by exact bl HB) hb); have n1_ := zq9 (hbox); have n2_ := zq9 ((by rw [hg]; exact (zq29 (by exact bl HB)) : w.heap.size ≤ gb205)); have n3_ := n2_; clear HB; have HB := n0_; have BK205 := n1_; have GW205 := n2_; have GE205 := n3_; clear n0_ n1_ n2_ n3_; clear hb hbox hg))
 repeat (go_quiet (first | ((with_reducible refine zq25 (N := 1) rfl ?_); refine bx 1 #[.string a0_0, .int .i64 a0_1, .int .i64 a0_2, .string a0_3, .slice A0_4 l0_4.length c0_4, .slice A0_5 l0_5.length c0_5, .slice A0_6 l0_6.length c0_6] 32 ?_; intro gb205 hg w3 hbox hb; have n0_ := zq9 (zq27 (by exact bl HB) hb); have n1_ := zq9 (hbox); have n2_ := zq9 ((by rw [hg]; exact (zq29 (by exact bl HB)) : w.heap.size ≤ gb205)); have n3_ := n2_; clear HB; have HB := n0_; have BK205 := n1_; have GW205 := n2_; have GE205 := n3_; clear n0_ n1_ n2_ n3_; clear hb hbox hg)); go_upto_region 1 with (first | ((with_reducible refine zq25 (N := 1) rfl ?_); refine bx 1 #[.string a0_0, .int .i64 a0_1, .int .i64 a0_2, .string a0_3, .slice A0_4 l0_4.length c0_4, .slice A0_5 l0_5.length c0_5, .slice A0_6 l0_6.length c0_6] 32 ?_; intro gb205 hg w3 hbox hb; have n0_ := zq9 (zq27 (by exact bl HB) hb); have n1_ := zq9 (hbox); have n2_ := zq9 ((by rw [hg]; exact (zq29 (by exact bl HB)) : w.heap.size ≤ gb205)); have n3_ := n2_; clear HB; have HB := n0_; have BK205 := n1_; have GW205 := n2_; have GE205 := n3_; clear n0_ n1_ n2_ n3_; clear hb hbox hg)))
 (try simp only [Act.put, zq0, zq1, zq2])
 go_cut [16] (fun v16 wc => ∃ (kq : Nat) (x16_1 : Bool), v16 = .bool x16_1 ∧ Aside0 (impl_EntryOk.j0 kq x16_1 a0_0 a0_1 a0_2 a0_3 l0_4 l0_5 l0_6 = some r) ∧ Aside0 (kq ≤ k) ∧ Aside0 (wc.heap[gb205]? = some (.cells #[.string a0_0, .int .i64 a0_1, .int .i64 a0_2, .string a0_3, (.slice A0_4 l0_4.length c0_4), (.slice A0_5 l0_5.length c0_5), (.slice A0_6 l0_6.length c0_6)] 32 (0, 0))) ∧ Aside0 (Below w.heap.size w wc))
 case first =>
  have H := HC2.out; clear HC2; replace H := Option.bind_eq_some_iff.mp H; obtain ⟨t206, A40, H⟩ := H
  try dsimp only at H
  have A4 := zq9 A40; clear A40
  have hcz7_0 : w3.cell? ⟨gb205, 0, none⟩ = some (.string a0_0) := bc BK205 0
  have hcz7_1 : w3.cell? ⟨gb205, 1, none⟩ = some (.int .i64 a0_1) := bc BK205 1
  have hcz7_2 : w3.cell? ⟨gb205, 2, none⟩ = some (.int .i64 a0_2) := bc BK205 2
  have hcz7_3 : w3.cell? ⟨gb205, 3, none⟩ = some (.string a0_3) := bc BK205 3
  have hcz7_4 : w3.cell? ⟨gb205, 4, none⟩ = some (.slice A0_4 l0_4.length c0_4) := bc BK205 4
  have hcz7_5 : w3.cell? ⟨gb205, 5, none⟩ = some (.slice A0_5 l0_5.length c0_5) := bc BK205 5
  have hcz7_6 : w3.cell? ⟨gb205, 6, none⟩ = some (.slice A0_6 l0_6.length c0_6) := bc BK205 6
  have hfz7_0 := zq6 BK205.out 0
  have hfz7_1 := zq6 BK205.out 1
  have hfz7_2 := zq6 BK205.out 2
  have hfz7_3 := zq6 BK205.out 3
  have hfz7_4 := zq6 BK205.out 4
  have hfz7_5 := zq6 BK205.out 5
  have hfz7_6 := zq6 BK205.out 6
  by_cases c5 : t206 = true
  ·subst c5
   have H1 : ((impl_within.f a0_1 0 2000000).bind fun t207 => (impl_EntryOk.j0 k (!t207) a0_0 a0_1 a0_2 a0_3 l0_4 l0_5 l0_6)) = some r := by rw [if_pos rfl] at H; exact H
   clear H; have H := H1; clear H1; replace H := Option.bind_eq_some_iff.mp H; obtain ⟨t207, A60, H⟩ := H
   try dsimp only at H
   have A6 := zq9 A60; clear A60; have H' := zq9 H; clear H
   go_wp2_with (first | (go_at_call 48; (with_reducible refine (impl_keyOk.calls a0_0 true _ A4.out).mono ?_); rintro e w' ⟨rfl, ⟨nd, rfl⟩⟩; (try first | exact ⟨rfl, _, zq32 _ _ _⟩ | exact ⟨rfl, _, Eq.trans (zq32 _ _ _) (congrArg (World.drewN _) (Nat.add_assoc _ _ _))⟩)) | (go_at_call 49; (with_reducible refine (impl_within.calls a0_1 0 2000000 t207 _ A6.out).mono ?_); rintro e w' ⟨rfl, ⟨nd, rfl⟩⟩; (try first | exact ⟨rfl, _, zq32 _ _ _⟩ | exact ⟨rfl, _, Eq.trans (zq32 _ _ _) (congrArg (World.drewN _) (Nat.add_assoc _ _ _))⟩)))
   repeat (go_quiet (first | (go_at_call 48; (with_reducible refine (impl_keyOk.calls a0_0 true _ A4.out).mono ?_); rintro e w' ⟨rfl, ⟨nd, rfl⟩⟩; (try first | exact ⟨rfl, _, zq32 _ _ _⟩ | exact ⟨rfl, _, Eq.trans (zq32 _ _ _) (congrArg (World.drewN _) (Nat.add_assoc _ _ _))⟩)) | (go_at_call 49; (with_reducible refine (impl_within.calls a0_1 0 2000000 t207 _ A6.out).mono ?_); rintro e w' ⟨rfl, ⟨nd, rfl⟩⟩; (try first | exact ⟨rfl, _, zq32 _ _ _⟩ | exact ⟨rfl, _, Eq.trans (zq32 _ _ _) (congrArg (World.drewN _) (Nat.add_assoc _ _ _))⟩))); try go_wp2_with (first | (go_at_call 48; (with_reducible refine (impl_keyOk.calls a0_0 true _ A4.out).mono ?_); rintro e w' ⟨rfl, ⟨nd, rfl⟩⟩; (try first | exact ⟨rfl, _, zq32 _ _ _⟩ | exact ⟨rfl, _, Eq.trans (zq32 _ _ _) (congrArg (World.drewN _) (Nat.add_assoc _ _ _))⟩)) | (go_at_call 49; (with_reducible refine (impl_within.calls a0_1 0 2000000 t207 _ A6.out).mono ?_); rintro e w' ⟨rfl, ⟨nd, rfl⟩⟩; (try first | exact ⟨rfl, _, zq32 _ _ _⟩ | exact ⟨rfl, _, Eq.trans (zq32 _ _ _) (congrArg (World.drewN _) (Nat.add_assoc _ _ _))⟩))))
   go_meet
   case rel => exact ⟨_, (!t207), (by first | rfl | (simp; done) | (simp [*]; done)), H', ⟨by first | omega | exact Nat.le_refl _⟩, ⟨by refine bp ?_; exact BK205.out⟩, ⟨by exact b1 HB GE205⟩⟩
  ·replace c5 := Bool.eq_false_iff.mpr c5
   subst c5
   have H1 : (impl_EntryOk.j0 k true a0_0 a0_1 a0_2 a0_3 l0_4 l0_5 l0_6) = some r := by rw [if_neg (show ¬ (false = true) by decide)] at H; exact H
   clear H; have H := H1; clear H1; have H' := zq9 H; clear H
   go_wp2_with (first | (go_at_call 48; (with_reducible refine (impl_keyOk.calls a0_0 false _ A4.out).mono ?_); rintro e w' ⟨rfl, ⟨nd, rfl⟩⟩; (try first | exact ⟨rfl, _, zq32 _ _ _⟩ | exact ⟨rfl, _, Eq.trans (zq32 _ _ _) (congrArg (World.drewN _) (Nat.add_assoc _ _ _))⟩)))
   repeat (go_quiet (first | (go_at_call 48; (with_reducible refine (impl_keyOk.calls a0_0 false _ A4.out).mono ?_); rintro e w' ⟨rfl, ⟨nd, rfl⟩⟩; (try first | exact ⟨rfl, _, zq32 _ _ _⟩ | exact ⟨rfl, _, Eq.trans (zq32 _ _ _) (congrArg (World.drewN _) (Nat.add_assoc _ _ _))⟩))); try go_wp2_with (first | (go_at_call 48; (with_reducible refine (impl_keyOk.calls a0_0 false _ A4.out).mono ?_); rintro e w' ⟨rfl, ⟨nd, rfl⟩⟩; (try first | exact ⟨rfl, _, zq32 _ _ _⟩ | exact ⟨rfl, _, Eq.trans (zq32 _ _ _) (congrArg (World.drewN _) (Nat.add_assoc _ _ _))⟩))))
   go_meet
   case rel => exact ⟨_, (true), (by first | rfl | (simp; done) | (simp [*]; done)), H', ⟨by first | omega | exact Nat.le_refl _⟩, ⟨by refine bp ?_; exact BK205.out⟩, ⟨by exact b1 HB GE205⟩⟩
 case rest =>
  clear HC2
  try clear c1
  try clear p2
  try clear c5
  try clear hcz7_0
  try clear hcz7_1
  try clear hcz7_2
  try clear hcz7_3
  try clear hcz7_4
  try clear hcz7_5
  try clear hcz7_6
  try clear hcz8_0
  try clear hcz8_1
  try clear hcz8_2
  try clear hcz8_3
  try clear hcz8_4
  try clear hcz8_5
  try clear hcz8_6
  try clear hfz7_0
  try clear hfz7_1
  try clear hfz7_2
  try clear hfz7_3
  try clear hfz7_4
  try clear hfz7_5
  try clear hfz7_6
  try clear hfz8_0
  try clear hfz8_1
  try clear hfz8_2
  try clear hfz8_3
  try clear hfz8_4
  try clear hfz8_5
  try clear hfz8_6
  obtain ⟨kq, x16_1, rfl, HA, HJ1, BK205, HB⟩ := hcut
  cases kq with
  | zero => exact absurd HA.out (by simp [impl_EntryOk.j0])
  | succ kj1 =>
   have H := HA.out; clear HA
   simp only [impl_EntryOk.j0] at H
   refine (Classical.em (x16_1 = true)).elim (fun c9 => ?p1) (fun c9 => ?n1)
   case p1 =>
    subst c9
    have H1 : (some false) = some r := by rw [if_pos rfl] at H; exact H
    clear H; have H := H1; clear H1; obtain rfl := Option.some.inj H
    go_wp2
    repeat (go_quiet (fail); try go_wp2)
    go_ret
    exact fz (by exact b1 HB GE205)
   case' n1 =>
    replace c9 := Bool.eq_false_iff.mpr c9
    subst c9
    have H1 : (if a0_2 = 1 then (if (a0_3.size : Int) ≤ 40 then (if ((l0_4.length : Int) > 0) then (some false) else (if ((l0_5.length : Int) > 0) then (some false) else (some (!(decide ((l0_6.length : Int) > 0)))))) else (some false)) else (if a0_2 = 2 then (if (l0_4.length : Int) > 0 then ((impl_listOk.f kj1 l0_4).bind fun t208 => (if t208 = true then (if (¬ a0_3.toList = ([] : List UInt8)) then (some false) else (if ((l0_5.length : Int) > 0) then (some false) else (some (!(decide ((l0_6.length : Int) > 0)))))) else (some false))) else (some false)) else (if a0_2 = 3 then (if (l0_4.length : Int) > 0 then ((impl_SetOk.f kj1 l0_4).bind fun t209 => (if t209 = true then (if (¬ a0_3.toList = ([] : List UInt8)) then (some false) else (if ((l0_5.length : Int) > 0) then (some false) else (some (!(decide ((l0_6.length : Int) > 0)))))) else (some false))) else (some false)) else (if a0_2 = 4 then (if (l0_5.length : Int) > 0 then ((impl_ScoresOk.f kj1 l0_5).bind fun t210 => (if t210 = true then (if (¬ a0_3.toList = ([] : List UInt8)) then (some false) else (if ((l0_4.length : Int) > 0) then (some false) else (some (!(decide ((l0_6.length : Int) > 0)))))) else (some false))) else (some false)) else (if a0_2 = 5 then (if (l0_6.length : Int) > 0 then ((impl_FieldsOk.f kj1 l0_6).bind fun t211 => (if t211 = true then (if (¬ a0_3.toList = ([] : List UInt8)) then (some false) else (if ((l0_4.length : Int) > 0) then (some false) else (some (!(decide ((l0_5.length : Int) > 0)))))) else (some false))) else (some false)) else (some false)))))) = some r := by rw [if_neg (show ¬ (false = true) by decide)] at H; exact H
    clear H; have H := H1; clear H1
    have hcz13_0 : wc.cell? ⟨gb205, 0, none⟩ = some (.string a0_0) := bc BK205 0
    have hcz13_1 : wc.cell? ⟨gb205, 1, none⟩ = some (.int .i64 a0_1) := bc BK205 1
    have hcz13_2 : wc.cell? ⟨gb205, 2, none⟩ = some (.int .i64 a0_2) := bc BK205 2
    have hcz13_3 : wc.cell? ⟨gb205, 3, none⟩ = some (.string a0_3) := bc BK205 3
    have hcz13_4 : wc.cell? ⟨gb205, 4, none⟩ = some (.slice A0_4 l0_4.length c0_4) := bc BK205 4
    have hcz13_5 : wc.cell? ⟨gb205, 5, none⟩ = some (.slice A0_5 l0_5.length c0_5) := bc BK205 5
    have hcz13_6 : wc.cell? ⟨gb205, 6, none⟩ = some (.slice A0_6 l0_6.length c0_6) := bc BK205 6
    have hfz13_0 := zq6 BK205.out 0
    have hfz13_1 := zq6 BK205.out 1
    have hfz13_2 := zq6 BK205.out 2
    have hfz13_3 := zq6 BK205.out 3
    have hfz13_4 := zq6 BK205.out 4
    have hfz13_5 := zq6 BK205.out 5
    have hfz13_6 := zq6 BK205.out 6
    refine (Classical.em (a0_2 = 1)).elim (fun c10 => ?p2) (fun c10 => ?n2)
    case p2 =>
     rw [if_pos c10] at H
     have c10b0 : (a0_2 == 1) = true := beq_iff_eq.mpr c10
     have c10b1 : (a0_2 != 1) = false := bne_eq_false_iff_eq.mpr c10
     clear c10
     go_wp2
     by_cases c11 : (a0_3.size : Int) ≤ 40
     ·rw [if_pos c11] at H; have c11b0 : decide ((a0_3.size : Int) ≤ 40) = true := decide_eq_true c11
      have c11b1 : decide (a0_3.size ≤ 40) = true := decide_eq_true (by omega)
      clear c11
      by_cases c12 : ((l0_4.length : Int) > 0)
      ·rw [if_pos c12] at H; have c12b0 : decide (0 < (l0_4.length : Int)) = true := decide_eq_true c12
       have c12b1 : decide (0 < l0_4.length) = true := decide_eq_true (by omega)
       clear c12; obtain rfl := Option.some.inj H
       repeat (go_quiet (fail); try go_wp2)
       go_ret
       exact fz (by exact b1 HB GE205)
      ·rw [if_neg c12] at H; have c12b0 : decide (0 < (l0_4.length : Int)) = false := decide_eq_false c12
       have c12b1 : decide (0 < l0_4.length) = false := decide_eq_false (by omega)
       clear c12
       by_cases c14 : ((l0_5.length : Int) > 0)
       ·rw [if_pos c14] at H; have c14b0 : decide (0 < (l0_5.length : Int)) = true := decide_eq_true c14
        have c14b1 : decide (0 < l0_5.length) = true := decide_eq_true (by omega)
        clear c14; obtain rfl := Option.some.inj H
        repeat (go_quiet (fail); try go_wp2)
        go_ret
        exact fz (by exact b1 HB GE205)
       ·rw [if_neg c14] at H; have c14b0 : decide (0 < (l0_5.length : Int)) = false := decide_eq_false c14
        have c14b1 : decide (0 < l0_5.length) = false := decide_eq_false (by omega)
        clear c14; obtain rfl := Option.some.inj H
        repeat (go_quiet (fail); try go_wp2)
        go_ret
        exact fz (by exact b1 HB GE205)
     ·rw [if_neg c11] at H; have c11b0 : decide ((a0_3.size : Int) ≤ 40) = false := decide_eq_false c11
      have c11b1 : decide (a0_3.size ≤ 40) = false := decide_eq_false (by omega)
      clear c11; obtain rfl := Option.some.inj H
      repeat (go_quiet (fail); try go_wp2)
      go_ret
      exact fz (by exact b1 HB GE205)
    case' n2 =>
     rw [if_neg c10] at H
     have c10b0 : (a0_2 == 1) = false := beq_eq_false_iff_ne.mpr c10
     have c10b1 : (a0_2 != 1) = true := bne_iff_ne.mpr c10
     refine (Classical.em (a0_2 = 2)).elim (fun c18 => ?p6) (fun c18 => ?n6)
     case' p6 =>
      rw [if_pos c18] at H
      have c18b0 : (a0_2 == 2) = true := beq_iff_eq.mpr c18
      have c18b1 : (a0_2 != 2) = false := bne_eq_false_iff_eq.mpr c18
      clear c18
      refine (Classical.em ((l0_4.length : Int) > 0)).elim (fun c19 => ?p7) (fun c19 => ?n7)
      case' p7 =>
       rw [if_pos c19] at H; have c19b0 : decide (0 < (l0_4.length : Int)) = true := decide_eq_true c19
       have c19b1 : decide (0 < l0_4.length) = true := decide_eq_true (by omega)
       clear c19; replace H := Option.bind_eq_some_iff.mp H; obtain ⟨t208, A200, H⟩ := H
       try dsimp only at H
       have A20 := zq9 A200; clear A200
       go_wp2_with (first | (go_at_call 50; (with_reducible refine (impl_listOk.calls kj1 _ _ l0_4 t208 _ ?side1 ?side2 A20.out).mono ?_); (case side1 => exact kc HR0_4 HB); (case side2 => exact HC0_4.out); rintro e w' ⟨rfl, ⟨nd, rfl⟩⟩; (try first | exact ⟨rfl, _, zq32 _ _ _⟩ | exact ⟨rfl, _, Eq.trans (zq32 _ _ _) (congrArg (World.drewN _) (Nat.add_assoc _ _ _))⟩)))
       refine (Classical.em (t208 = true)).elim (fun c21 => ?p8) (fun c21 => ?n8)
       case' p8 =>
        subst c21
        have H1 : (if (¬ a0_3.toList = ([] : List UInt8)) then (some false) else (if ((l0_5.length : Int) > 0) then (some false) else (some (!(decide ((l0_6.length : Int) > 0)))))) = some r := by rw [if_pos rfl] at H; exact H
        clear H; have H := H1; clear H1
        refine (Classical.em ((¬ a0_3.toList = ([] : List UInt8)))).elim (fun c22 => ?p9) (fun c22 => ?n9)
        case' p9 =>
         rw [if_pos c22] at H
         have c22b0 : (a0_3.toList == ([] : List UInt8)) = false := beq_eq_false_iff_ne.mpr c22
         have c22b1 : (a0_3.toList != ([] : List UInt8)) = true := bne_iff_ne.mpr c22
         clear c22; obtain rfl := Option.some.inj H
        case' n9 =>
         rw [if_neg c22] at H
         have c22b0 : (a0_3.toList == ([] : List UInt8)) = true := beq_iff_eq.mpr (Decidable.not_not.mp c22)
         have c22b1 : (a0_3.toList != ([] : List UInt8)) = false := bne_eq_false_iff_eq.mpr (Decidable.not_not.mp c22)
         refine (Classical.em (((l0_5.length : Int) > 0))).elim (fun c24 => ?p10) (fun c24 => ?n10)
         case' p10 =>
          rw [if_pos c24] at H; have c24b0 : decide (0 < (l0_5.length : Int)) = true := decide_eq_true c24
          have c24b1 : decide (0 < l0_5.length) = true := decide_eq_true (by omega)
          clear c24; obtain rfl := Option.some.inj H
         case' n10 =>
          rw [if_neg c24] at H; have c24b0 : decide (0 < (l0_5.length : Int)) = false := decide_eq_false c24
          have c24b1 : decide (0 < l0_5.length) = false := decide_eq_false (by omega)
          clear c24; obtain rfl := Option.some.inj H
       case n8 =>
        replace c21 := Bool.eq_false_iff.mpr c21
        subst c21
        have H1 : (some false) = some r := by rw [if_neg (show ¬ (false = true) by decide)] at H; exact H
        clear H; have H := H1; clear H1; obtain rfl := Option.some.inj H
        repeat (go_quiet (first | (go_at_call 50; (with_reducible refine (impl_listOk.calls kj1 _ _ l0_4 false _ ?side1 ?side2 A20.out).mono ?_); (case side1 => exact kc HR0_4 HB); (case side2 => exact HC0_4.out); rintro e w' ⟨rfl, ⟨nd, rfl⟩⟩; (try first | exact ⟨rfl, _, zq32 _ _ _⟩ | exact ⟨rfl, _, Eq.trans (zq32 _ _ _) (congrArg (World.drewN _) (Nat.add_assoc _ _ _))⟩))); try go_wp2_with (first | (go_at_call 50; (with_reducible refine (impl_listOk.calls kj1 _ _ l0_4 false _ ?side1 ?side2 A20.out).mono ?_); (case side1 => exact kc HR0_4 HB); (case side2 => exact HC0_4.out); rintro e w' ⟨rfl, ⟨nd, rfl⟩⟩; (try first | exact ⟨rfl, _, zq32 _ _ _⟩ | exact ⟨rfl, _, Eq.trans (zq32 _ _ _) (congrArg (World.drewN _) (Nat.add_assoc _ _ _))⟩))))
        go_ret
        exact fz (by exact b1 HB GE205)
      case n7 =>
       rw [if_neg c19] at H; have c19b0 : decide (0 < (l0_4.length : Int)) = false := decide_eq_false c19
       have c19b1 : decide (0 < l0_4.length) = false := decide_eq_false (by omega)
       clear c19; obtain rfl := Option.some.inj H
       go_wp2
       repeat (go_quiet (fail); try go_wp2)
       go_ret
       exact fz (by exact b1 HB GE205)
     case' n6 =>
      rw [if_neg c18] at H
      have c18b0 : (a0_2 == 2) = false := beq_eq_false_iff_ne.mpr c18
      have c18b1 : (a0_2 != 2) = true := bne_iff_ne.mpr c18
      refine (Classical.em (a0_2 = 3)).elim (fun c29 => ?p11) (fun c29 => ?n11)
      case' p11 =>
       rw [if_pos c29] at H
       have c29b0 : (a0_2 == 3) = true := beq_iff_eq.mpr c29
       have c29b1 : (a0_2 != 3) = false := bne_eq_false_iff_eq.mpr c29
       clear c29
       refine (Classical.em ((l0_4.length : Int) > 0)).elim (fun c30 => ?p12) (fun c30 => ?n12)
       case' p12 =>
        rw [if_pos c30] at H; have c30b0 : decide (0 < (l0_4.length : Int)) = true := decide_eq_true c30
        have c30b1 : decide (0 < l0_4.length) = true := decide_eq_true (by omega)
        clear c30; replace H := Option.bind_eq_some_iff.mp H; obtain ⟨t209, A310, H⟩ := H
        try dsimp only at H
        have A31 := zq9 A310; clear A310
        go_wp2_with (first | (go_at_call 51; (with_reducible refine (impl_SetOk.calls kj1 _ _ l0_4 t209 _ ?side1 ?side2 A31.out).mono ?_); (case side1 => exact kc HR0_4 HB); (case side2 => exact HC0_4.out); rintro e w' ⟨rfl, ⟨nd, rfl⟩⟩; (try first | exact ⟨rfl, _, zq32 _ _ _⟩ | exact ⟨rfl, _, Eq.trans (zq32 _ _ _) (congrArg (World.drewN _) (Nat.add_assoc _ _ _))⟩)))
        refine (Classical.em (t209 = true)).elim (fun c32 => ?p13) (fun c32 => ?n13)
        case' p13 =>
         subst c32
         have H1 : (if (¬ a0_3.toList = ([] : List UInt8)) then (some false) else (if ((l0_5.length : Int) > 0) then (some false) else (some (!(decide ((l0_6.length : Int) > 0)))))) = some r := by rw [if_pos rfl] at H; exact H
         clear H; have H := H1; clear H1
         refine (Classical.em ((¬ a0_3.toList = ([] : List UInt8)))).elim (fun c33 => ?p14) (fun c33 => ?n14)
         case' p14 =>
          rw [if_pos c33] at H
          have c33b0 : (a0_3.toList == ([] : List UInt8)) = false := beq_eq_false_iff_ne.mpr c33
          have c33b1 : (a0_3.toList != ([] : List UInt8)) = true := bne_iff_ne.mpr c33
          clear c33; obtain rfl := Option.some.inj H
         case' n14 =>
          rw [if_neg c33] at H
          have c33b0 : (a0_3.toList == ([] : List UInt8)) = true := beq_iff_eq.mpr (Decidable.not_not.mp c33)
          have c33b1 : (a0_3.toList != ([] : List UInt8)) = false := bne_eq_false_iff_eq.mpr (Decidable.not_not.mp c33)
          refine (Classical.em (((l0_5.length : Int) > 0))).elim (fun c35 => ?p15) (fun c35 => ?n15)
          case' p15 =>
           rw [if_pos c35] at H; have c35b0 : decide (0 < (l0_5.length : Int)) = true := decide_eq_true c35
           have c35b1 : decide (0 < l0_5.length) = true := decide_eq_true (by omega)
           clear c35; obtain rfl := Option.some.inj H
          case' n15 =>
           rw [if_neg c35] at H; have c35b0 : decide (0 < (l0_5.length : Int)) = false := decide_eq_false c35
           have c35b1 : decide (0 < l0_5.length) = false := decide_eq_false (by omega)
           clear c35; obtain rfl := Option.some.inj H
        case n13 =>
         replace c32 := Bool.eq_false_iff.mpr c32
         subst c32
         have H1 : (some false) = some r := by rw [if_neg (show ¬ (false = true) by decide)] at H; exact H
         clear H; have H := H1; clear H1; obtain rfl := Option.some.inj H
         repeat (go_quiet (first | (go_at_call 51; (with_reducible refine (impl_SetOk.calls kj1 _ _ l0_4 false _ ?side1 ?side2 A31.out).mono ?_); (case side1 => exact kc HR0_4 HB); (case side2 => exact HC0_4.out); rintro e w' ⟨rfl, ⟨nd, rfl⟩⟩; (try first | exact ⟨rfl, _, zq32 _ _ _⟩ | exact ⟨rfl, _, Eq.trans (zq32 _ _ _) (congrArg (World.drewN _) (Nat.add_assoc _ _ _))⟩))); try go_wp2_with (first | (go_at_call 51; (with_reducible refine (impl_SetOk.calls kj1 _ _ l0_4 false _ ?side1 ?side2 A31.out).mono ?_); (case side1 => exact kc HR0_4 HB); (case side2 => exact HC0_4.out); rintro e w' ⟨rfl, ⟨nd, rfl⟩⟩; (try first | exact ⟨rfl, _, zq32 _ _ _⟩ | exact ⟨rfl, _, Eq.trans (zq32 _ _ _) (congrArg (World.drewN _) (Nat.add_assoc _ _ _))⟩))))
         go_ret
         exact fz (by exact b1 HB GE205)
       case n12 =>
        rw [if_neg c30] at H; have c30b0 : decide (0 < (l0_4.length : Int)) = false := decide_eq_false c30
        have c30b1 : decide (0 < l0_4.length) = false := decide_eq_false (by omega)
        clear c30; obtain rfl := Option.some.inj H
        go_wp2
        repeat (go_quiet (fail); try go_wp2)
        go_ret
        exact fz (by exact b1 HB GE205)
      case' n11 =>
       rw [if_neg c29] at H
       have c29b0 : (a0_2 == 3) = false := beq_eq_false_iff_ne.mpr c29
       have c29b1 : (a0_2 != 3) = true := bne_iff_ne.mpr c29
       refine (Classical.em (a0_2 = 4)).elim (fun c40 => ?p16) (fun c40 => ?n16)
       case' p16 =>
        rw [if_pos c40] at H
        have c40b0 : (a0_2 == 4) = true := beq_iff_eq.mpr c40
        have c40b1 : (a0_2 != 4) = false := bne_eq_false_iff_eq.mpr c40
        clear c40
        refine (Classical.em ((l0_5.length : Int) > 0)).elim (fun c41 => ?p17) (fun c41 => ?n17)
        case' p17 =>
         rw [if_pos c41] at H; have c41b0 : decide (0 < (l0_5.length : Int)) = true := decide_eq_true c41
         have c41b1 : decide (0 < l0_5.length) = true := decide_eq_true (by omega)
         clear c41; replace H := Option.bind_eq_some_iff.mp H; obtain ⟨t210, A420, H⟩ := H
         try dsimp only at H
         have A42 := zq9 A420; clear A420
         go_wp2_with (first | (go_at_call 52; (with_reducible refine (impl_ScoresOk.calls kj1 _ _ l0_5 t210 _ ?side1 ?side2 A42.out).mono ?_); (case side1 => exact kc HR0_5 HB); (case side2 => exact HC0_5.out); rintro e w46 ⟨rfl, hb⟩; have n0_ := zq9 (zq30 (g := gb205) (o := .cells #[.string a0_0, .int .i64 a0_1, .int .i64 a0_2, .string a0_3, .slice A0_4 l0_4.length c0_4, .slice A0_5 l0_5.length c0_5, .slice A0_6 l0_6.length c0_6] 32 (0, 0)) (by exact bk BK205) hb); have n1_ := zq9 (zq27 (by exact b1 HB GE205) hb); clear BK205; clear HB; have BK205 := n0_; have HB := n1_; clear n0_ n1_; (try clear hb); (try clear hb2); (try clear hk); (try clear hi)))
         refine (Classical.em (t210 = true)).elim (fun c43 => ?p18) (fun c43 => ?n18)
         case' p18 =>
          subst c43
          have H1 : (if (¬ a0_3.toList = ([] : List UInt8)) then (some false) else (if ((l0_4.length : Int) > 0) then (some false) else (some (!(decide ((l0_6.length : Int) > 0)))))) = some r := by rw [if_pos rfl] at H; exact H
          clear H; have H := H1; clear H1
          refine (Classical.em ((¬ a0_3.toList = ([] : List UInt8)))).elim (fun c44 => ?p19) (fun c44 => ?n19)
          case' p19 =>
           rw [if_pos c44] at H
           have c44b0 : (a0_3.toList == ([] : List UInt8)) = false := beq_eq_false_iff_ne.mpr c44
           have c44b1 : (a0_3.toList != ([] : List UInt8)) = true := bne_iff_ne.mpr c44
           clear c44; obtain rfl := Option.some.inj H
          case' n19 =>
           rw [if_neg c44] at H
           have c44b0 : (a0_3.toList == ([] : List UInt8)) = true := beq_iff_eq.mpr (Decidable.not_not.mp c44)
           have c44b1 : (a0_3.toList != ([] : List UInt8)) = false := bne_eq_false_iff_eq.mpr (Decidable.not_not.mp c44)
           refine (Classical.em (((l0_4.length : Int) > 0))).elim (fun c47 => ?p20) (fun c47 => ?n20)
           case' p20 =>
            rw [if_pos c47] at H; have c47b0 : decide (0 < (l0_4.length : Int)) = true := decide_eq_true c47
            have c47b1 : decide (0 < l0_4.length) = true := decide_eq_true (by omega)
            clear c47; obtain rfl := Option.some.inj H
           case' n20 =>
            rw [if_neg c47] at H; have c47b0 : decide (0 < (l0_4.length : Int)) = false := decide_eq_false c47
            have c47b1 : decide (0 < l0_4.length) = false := decide_eq_false (by omega)
            clear c47; obtain rfl := Option.some.inj H
         case n18 =>
          replace c43 := Bool.eq_false_iff.mpr c43
          subst c43
          have H1 : (some false) = some r := by rw [if_neg (show ¬ (false = true) by decide)] at H; exact H
          clear H; have H := H1; clear H1; obtain rfl := Option.some.inj H
          repeat (go_quiet (first | (go_at_call 52; (with_reducible refine (impl_ScoresOk.calls kj1 _ _ l0_5 false _ ?side1 ?side2 A42.out).mono ?_); (case side1 => exact kc HR0_5 HB); (case side2 => exact HC0_5.out); rintro e w46 ⟨rfl, hb⟩; have n0_ := zq9 (zq30 (g := gb205) (o := .cells #[.string a0_0, .int .i64 a0_1, .int .i64 a0_2, .string a0_3, .slice A0_4 l0_4.length c0_4, .slice A0_5 l0_5.length c0_5, .slice A0_6 l0_6.length c0_6] 32 (0, 0)) (by exact bk BK205) hb); have n1_ := zq9 (zq27 (by exact b1 HB GE205) hb); clear BK205; clear HB; have BK205 := n0_; have HB := n1_; clear n0_ n1_; (try clear hb); (try clear hb2); (try clear hk); (try clear hi))); try go_wp2_with (first | (go_at_call 52; (with_reducible refine (impl_ScoresOk.calls kj1 _ _ l0_5 false _ ?side1 ?side2 A42.out).mono ?_); (case side1 => exact kc HR0_5 HB); (case side2 => exact HC0_5.out); rintro e w46 ⟨rfl, hb⟩; have n0_ := zq9 (zq30 (g := gb205) (o := .cells #[.string a0_0, .int .i64 a0_1, .int .i64 a0_2, .string a0_3, .slice A0_4 l0_4.length c0_4, .slice A0_5 l0_5.length c0_5, .slice A0_6 l0_6.length c0_6] 32 (0, 0)) (by exact bk BK205) hb); have n1_ := zq9 (zq27 (by exact b1 HB GE205) hb); clear BK205; clear HB; have BK205 := n0_; have HB := n1_; clear n0_ n1_; (try clear hb); (try clear hb2); (try clear hk); (try clear hi))))
          go_ret
          exact fz (by exact b1 HB GE205)
        case n17 =>
         rw [if_neg c41] at H; have c41b0 : decide (0 < (l0_5.length : Int)) = false := decide_eq_false c41
         have c41b1 : decide (0 < l0_5.length) = false := decide_eq_false (by omega)
         clear c41; obtain rfl := Option.some.inj H
         go_wp2
         repeat (go_quiet (fail); try go_wp2)
         go_ret
         exact fz (by exact b1 HB GE205)
       case' n16 =>
        rw [if_neg c40] at H
        have c40b0 : (a0_2 == 4) = false := beq_eq_false_iff_ne.mpr c40
        have c40b1 : (a0_2 != 4) = true := bne_iff_ne.mpr c40
        refine (Classical.em (a0_2 = 5)).elim (fun c55 => ?p21) (fun c55 => ?n21)
        case' p21 =>
         rw [if_pos c55] at H
         have c55b0 : (a0_2 == 5) = true := beq_iff_eq.mpr c55
         have c55b1 : (a0_2 != 5) = false := bne_eq_false_iff_eq.mpr c55
         clear c55
         refine (Classical.em ((l0_6.length : Int) > 0)).elim (fun c56 => ?p22) (fun c56 => ?n22)
         case' p22 =>
          rw [if_pos c56] at H; have c56b0 : decide (0 < (l0_6.length : Int)) = true := decide_eq_true c56
          have c56b1 : decide (0 < l0_6.length) = true := decide_eq_true (by omega)
          clear c56; replace H := Option.bind_eq_some_iff.mp H; obtain ⟨t211, A570, H⟩ := H
          try dsimp only at H
          have A57 := zq9 A570; clear A570
          go_wp2_with (first | (go_at_call 53; (with_reducible refine (impl_FieldsOk.calls kj1 _ _ l0_6 t211 _ ?side1 ?side2 A57.out).mono ?_); (case side1 => exact kc HR0_6 HB); (case side2 => exact HC0_6.out); rintro e w61 ⟨rfl, hb⟩; have n0_ := zq9 (zq30 (g := gb205) (o := .cells #[.string a0_0, .int .i64 a0_1, .int .i64 a0_2, .string a0_3, .slice A0_4 l0_4.length c0_4, .slice A0_5 l0_5.length c0_5, .slice A0_6 l0_6.length c0_6] 32 (0, 0)) (by exact bk BK205) hb); have n1_ := zq9 (zq27 (by exact b1 HB GE205) hb); clear BK205; clear HB; have BK205 := n0_; have HB := n1_; clear n0_ n1_; (try clear hb); (try clear hb2); (try clear hk); (try clear hi)))
          refine (Classical.em (t211 = true)).elim (fun c58 => ?p23) (fun c58 => ?n23)
          case' p23 =>
           subst c58
           have H1 : (if (¬ a0_3.toList = ([] : List UInt8)) then (some false) else (if ((l0_4.length : Int) > 0) then (some false) else (some (!(decide ((l0_5.length : Int) > 0)))))) = some r := by rw [if_pos rfl] at H; exact H
           clear H; have H := H1; clear H1
           refine (Classical.em ((¬ a0_3.toList = ([] : List UInt8)))).elim (fun c59 => ?p24) (fun c59 => ?n24)
           case' p24 =>
            rw [if_pos c59] at H
            have c59b0 : (a0_3.toList == ([] : List UInt8)) = false := beq_eq_false_iff_ne.mpr c59
            have c59b1 : (a0_3.toList != ([] : List UInt8)) = true := bne_iff_ne.mpr c59
            clear c59; obtain rfl := Option.some.inj H
           case' n24 =>
            rw [if_neg c59] at H
            have c59b0 : (a0_3.toList == ([] : List UInt8)) = true := beq_iff_eq.mpr (Decidable.not_not.mp c59)
            have c59b1 : (a0_3.toList != ([] : List UInt8)) = false := bne_eq_false_iff_eq.mpr (Decidable.not_not.mp c59)
            refine (Classical.em (((l0_4.length : Int) > 0))).elim (fun c62 => ?p25) (fun c62 => ?n25)
            case' p25 =>
             rw [if_pos c62] at H; have c62b0 : decide (0 < (l0_4.length : Int)) = true := decide_eq_true c62
             have c62b1 : decide (0 < l0_4.length) = true := decide_eq_true (by omega)
             clear c62; obtain rfl := Option.some.inj H
            case' n25 =>
             rw [if_neg c62] at H; have c62b0 : decide (0 < (l0_4.length : Int)) = false := decide_eq_false c62
             have c62b1 : decide (0 < l0_4.length) = false := decide_eq_false (by omega)
             clear c62; obtain rfl := Option.some.inj H
          case n23 =>
           replace c58 := Bool.eq_false_iff.mpr c58
           subst c58
           have H1 : (some false) = some r := by rw [if_neg (show ¬ (false = true) by decide)] at H; exact H
           clear H; have H := H1; clear H1; obtain rfl := Option.some.inj H
           repeat (go_quiet (first | (go_at_call 53; (with_reducible refine (impl_FieldsOk.calls kj1 _ _ l0_6 false _ ?side1 ?side2 A57.out).mono ?_); (case side1 => exact kc HR0_6 HB); (case side2 => exact HC0_6.out); rintro e w61 ⟨rfl, hb⟩; have n0_ := zq9 (zq30 (g := gb205) (o := .cells #[.string a0_0, .int .i64 a0_1, .int .i64 a0_2, .string a0_3, .slice A0_4 l0_4.length c0_4, .slice A0_5 l0_5.length c0_5, .slice A0_6 l0_6.length c0_6] 32 (0, 0)) (by exact bk BK205) hb); have n1_ := zq9 (zq27 (by exact b1 HB GE205) hb); clear BK205; clear HB; have BK205 := n0_; have HB := n1_; clear n0_ n1_; (try clear hb); (try clear hb2); (try clear hk); (try clear hi))); try go_wp2_with (first | (go_at_call 53; (with_reducible refine (impl_FieldsOk.calls kj1 _ _ l0_6 false _ ?side1 ?side2 A57.out).mono ?_); (case side1 => exact kc HR0_6 HB); (case side2 => exact HC0_6.out); rintro e w61 ⟨rfl, hb⟩; have n0_ := zq9 (zq30 (g := gb205) (o := .cells #[.string a0_0, .int .i64 a0_1, .int .i64 a0_2, .string a0_3, .slice A0_4 l0_4.length c0_4, .slice A0_5 l0_5.length c0_5, .slice A0_6 l0_6.length c0_6] 32 (0, 0)) (by exact bk BK205) hb); have n1_ := zq9 (zq27 (by exact b1 HB GE205) hb); clear BK205; clear HB; have BK205 := n0_; have HB := n1_; clear n0_ n1_; (try clear hb); (try clear hb2); (try clear hk); (try clear hi))))
           go_ret
           exact fz (by exact b1 HB GE205)
         case n22 =>
          rw [if_neg c56] at H; have c56b0 : decide (0 < (l0_6.length : Int)) = false := decide_eq_false c56
          have c56b1 : decide (0 < l0_6.length) = false := decide_eq_false (by omega)
          clear c56; obtain rfl := Option.some.inj H
          go_wp2
          repeat (go_quiet (fail); try go_wp2)
          go_ret
          exact fz (by exact b1 HB GE205)
        case n21 =>
         rw [if_neg c55] at H
         have c55b0 : (a0_2 == 5) = false := beq_eq_false_iff_ne.mpr c55
         have c55b1 : (a0_2 != 5) = true := bne_iff_ne.mpr c55
         obtain rfl := Option.some.inj H
         go_wp2
         repeat (go_quiet (fail); try go_wp2)
         go_ret
         exact fz (by exact b1 HB GE205)
   case p9 | p10 | n10 =>
    repeat (go_quiet (first | (go_at_call 50; (with_reducible refine (impl_listOk.calls kj1 _ _ l0_4 true _ ?side1 ?side2 A20.out).mono ?_); (case side1 => exact kc HR0_4 HB); (case side2 => exact HC0_4.out); rintro e w' ⟨rfl, ⟨nd, rfl⟩⟩; (try first | exact ⟨rfl, _, zq32 _ _ _⟩ | exact ⟨rfl, _, Eq.trans (zq32 _ _ _) (congrArg (World.drewN _) (Nat.add_assoc _ _ _))⟩))); try go_wp2_with (first | (go_at_call 50; (with_reducible refine (impl_listOk.calls kj1 _ _ l0_4 true _ ?side1 ?side2 A20.out).mono ?_); (case side1 => exact kc HR0_4 HB); (case side2 => exact HC0_4.out); rintro e w' ⟨rfl, ⟨nd, rfl⟩⟩; (try first | exact ⟨rfl, _, zq32 _ _ _⟩ | exact ⟨rfl, _, Eq.trans (zq32 _ _ _) (congrArg (World.drewN _) (Nat.add_assoc _ _ _))⟩))))
    go_ret
    exact fz (by exact b1 HB GE205)
   case p14 | p15 | n15 =>
    repeat (go_quiet (first | (go_at_call 51; (with_reducible refine (impl_SetOk.calls kj1 _ _ l0_4 true _ ?side1 ?side2 A31.out).mono ?_); (case side1 => exact kc HR0_4 HB); (case side2 => exact HC0_4.out); rintro e w' ⟨rfl, ⟨nd, rfl⟩⟩; (try first | exact ⟨rfl, _, zq32 _ _ _⟩ | exact ⟨rfl, _, Eq.trans (zq32 _ _ _) (congrArg (World.drewN _) (Nat.add_assoc _ _ _))⟩))); try go_wp2_with (first | (go_at_call 51; (with_reducible refine (impl_SetOk.calls kj1 _ _ l0_4 true _ ?side1 ?side2 A31.out).mono ?_); (case side1 => exact kc HR0_4 HB); (case side2 => exact HC0_4.out); rintro e w' ⟨rfl, ⟨nd, rfl⟩⟩; (try first | exact ⟨rfl, _, zq32 _ _ _⟩ | exact ⟨rfl, _, Eq.trans (zq32 _ _ _) (congrArg (World.drewN _) (Nat.add_assoc _ _ _))⟩))))
    go_ret
    exact fz (by exact b1 HB GE205)
   case p19 | p20 | n20 =>
    repeat (go_quiet (first | (go_at_call 52; (with_reducible refine (impl_ScoresOk.calls kj1 _ _ l0_5 true _ ?side1 ?side2 A42.out).mono ?_); (case side1 => exact kc HR0_5 HB); (case side2 => exact HC0_5.out); rintro e w46 ⟨rfl, hb⟩; have n0_ := zq9 (zq30 (g := gb205) (o := .cells #[.string a0_0, .int .i64 a0_1, .int .i64 a0_2, .string a0_3, .slice A0_4 l0_4.length c0_4, .slice A0_5 l0_5.length c0_5, .slice A0_6 l0_6.length c0_6] 32 (0, 0)) (by exact bk BK205) hb); have n1_ := zq9 (zq27 (by exact b1 HB GE205) hb); clear BK205; clear HB; have BK205 := n0_; have HB := n1_; clear n0_ n1_; (try clear hb); (try clear hb2); (try clear hk); (try clear hi))); try go_wp2_with (first | (go_at_call 52; (with_reducible refine (impl_ScoresOk.calls kj1 _ _ l0_5 true _ ?side1 ?side2 A42.out).mono ?_); (case side1 => exact kc HR0_5 HB); (case side2 => exact HC0_5.out); rintro e w46 ⟨rfl, hb⟩; have n0_ := zq9 (zq30 (g := gb205) (o := .cells #[.string a0_0, .int .i64 a0_1, .int .i64 a0_2, .string a0_3, .slice A0_4 l0_4.length c0_4, .slice A0_5 l0_5.length c0_5, .slice A0_6 l0_6.length c0_6] 32 (0, 0)) (by exact bk BK205) hb); have n1_ := zq9 (zq27 (by exact b1 HB GE205) hb); clear BK205; clear HB; have BK205 := n0_; have HB := n1_; clear n0_ n1_; (try clear hb); (try clear hb2); (try clear hk); (try clear hi))))
    go_ret
    exact fz (by exact b1 HB GE205)
   case p24 | p25 | n25 =>
    repeat (go_quiet (first | (go_at_call 53; (with_reducible refine (impl_FieldsOk.calls kj1 _ _ l0_6 true _ ?side1 ?side2 A57.out).mono ?_); (case side1 => exact kc HR0_6 HB); (case side2 => exact HC0_6.out); rintro e w61 ⟨rfl, hb⟩; have n0_ := zq9 (zq30 (g := gb205) (o := .cells #[.string a0_0, .int .i64 a0_1, .int .i64 a0_2, .string a0_3, .slice A0_4 l0_4.length c0_4, .slice A0_5 l0_5.length c0_5, .slice A0_6 l0_6.length c0_6] 32 (0, 0)) (by exact bk BK205) hb); have n1_ := zq9 (zq27 (by exact b1 HB GE205) hb); clear BK205; clear HB; have BK205 := n0_; have HB := n1_; clear n0_ n1_; (try clear hb); (try clear hb2); (try clear hk); (try clear hi))); try go_wp2_with (first | (go_at_call 53; (with_reducible refine (impl_FieldsOk.calls kj1 _ _ l0_6 true _ ?side1 ?side2 A57.out).mono ?_); (case side1 => exact kc HR0_6 HB); (case side2 => exact HC0_6.out); rintro e w61 ⟨rfl, hb⟩; have n0_ := zq9 (zq30 (g := gb205) (o := .cells #[.string a0_0, .int .i64 a0_1, .int .i64 a0_2, .string a0_3, .slice A0_4 l0_4.length c0_4, .slice A0_5 l0_5.length c0_5, .slice A0_6 l0_6.length c0_6] 32 (0, 0)) (by exact bk BK205) hb); have n1_ := zq9 (zq27 (by exact b1 HB GE205) hb); clear BK205; clear HB; have BK205 := n0_; have HB := n1_; clear n0_ n1_; (try clear hb); (try clear hb2); (try clear hk); (try clear hi))))
    go_ret
    exact fz (by exact b1 HB GE205)
def impl_BaseOk.T6 : Bool × List (List Nat × List Nat) := (true, [([], []), ([0], [0]), ([1], [1]), ([2, 1], [2]), ([3], [3]), ([4, 3], [3, 4]), ([5, 3, 3], [3, 5]), ([6], [6]), ([7, 6], [6, 7]), ([6], [6]), ([9, 6], [6, 9]), ([8, 10, 6], [6, 8, 10]), ([11, 6], [6, 11]), ([12, 6], [6, 12]), ([6], [6]), ([14, 6], [6, 14]), ([13, 15, 6], [6, 13, 15]), ([6, 16, 3], [3, 6, 16]), ([3, 17], [3, 17]), ([18, 6], [18]), ([19], [19]), ([20, 19], [19, 20]), ([21, 19], [19, 21]), ([22, 19, 19], [19, 22]), ([23], [23]), ([24, 23], [23, 24]), ([23], [23]), ([26, 23], [23, 26]), ([25, 27, 23], [23, 25, 27]), ([23, 28, 19], [19, 23, 28]), ([19, 29], [19, 29])])
def impl_BaseOk.B6 : List Nat := [0, 1, 3, 7, 15, 31, 63, 127, 255, 127, 639, 2047, 4095, 8191, 127, 16511, 65535, 131071, 262143, 524287, 1048575, 2097151, 4194303, 8388607, 16777215, 33554431, 16777215, 83886079, 268435455, 536870911, 1073741823]
theorem impl_BaseOk.tab6 : rtab .any (opsOf Try.f19 6) = impl_BaseOk.T6 := by kernel_rfl
theorem impl_BaseOk.bits6 : waitsOk impl_BaseOk.T6.2 impl_BaseOk.B6 = true := by kernel_rfl
set_option maxHeartbeats 8000000 in
set_option maxRecDepth 100000 in
theorem impl_BaseOk.calls (k : Nat) (a0_0 : Int) (A0_1 : Option Addr) (c0_1 : Nat) (l0_1 : List (S32)) (r : Bool) (w : World) (hr0_1 : Kd.C k32 w A0_1 l0_1.length l0_1) (hc0_1 : l0_1.length ≤ c0_1) (h : impl_BaseOk.f k a0_0 l0_1 = some r) :
  Calls Try.prog 19 #[.agg #[.int .i64 a0_0, .slice A0_1 l0_1.length c0_1]] w fun e w' => e = .returned (.bool r) ∧ Below w.heap.size w w' := by
 have hu46 := Try.underlying46; have hu32 := Try.underlying32; have HR0_1 := zq9 hr0_1; have HC0_1 := zq9 hc0_1; clear hr0_1 hc0_1
 have HB := zq9 (Below.refl w.heap.size w)
 have H : ((impl_within.f a0_0 0 1000000).bind fun t677 => (if t677 = true then (impl_BaseOk.j0 k (decide ((l0_1.length : Int) > 12)) a0_0 l0_1) else (impl_BaseOk.j0 k true a0_0 l0_1))) = some r := h
 clear h; have HC2 := zq9 H; clear H
 go_enter Try.func19, Try.ntmps19
 go_upto_region 1 with (first | ((with_reducible refine zq25 (N := 1) rfl ?_); (try (refine gate_guard (by rfl) ?_; dsimp only)); refine bx 1 #[.int .i64 a0_0, .slice A0_1 l0_1.length c0_1] 46 ?_; intro gb676 hg w3 hbox hb; have n0_ := zq9 (zq27 (by exact bl HB) hb); have n1_ := zq9 (hbox); have n2_ := zq9 ((by rw [hg]; exact (zq29 (by exact bl HB)) : w.heap.size ≤ gb676)); have n3_ := n2_; clear HB; have HB := n0_; have BK676 := n1_; have GW676 := n2_; have GE676 := n3_; clear n0_ n1_ n2_ n3_; clear hb hbox hg))
 (try simp only [Act.put, zq0, zq1, zq2])
 go_cut [14] (fun v14 wc => ∃ (kq : Nat) (x14_1 : Bool), v14 = .bool x14_1 ∧ Aside0 (impl_BaseOk.j0 kq x14_1 a0_0 l0_1 = some r) ∧ Aside0 (kq ≤ k) ∧ Aside0 (wc.heap[gb676]? = some (.cells #[.int .i64 a0_0, (.slice A0_1 l0_1.length c0_1)] 46 (0, 0))) ∧ Aside0 (Below w.heap.size w wc))
 case first =>
  have H := HC2.out; clear HC2; replace H := Option.bind_eq_some_iff.mp H; obtain ⟨t677, A40, H⟩ := H
  try dsimp only at H
  have A4 := zq9 A40; clear A40
  have hcz6_0 : w3.cell? ⟨gb676, 0, none⟩ = some (.int .i64 a0_0) := bc BK676 0
  have hcz6_1 : w3.cell? ⟨gb676, 1, none⟩ = some (.slice A0_1 l0_1.length c0_1) := bc BK676 1
  have hfz6_0 := zq6 BK676.out 0
  have hfz6_1 := zq6 BK676.out 1
  by_cases c5 : t677 = true
  ·subst c5
   have H1 : (impl_BaseOk.j0 k (decide ((l0_1.length : Int) > 12)) a0_0 l0_1) = some r := by rw [if_pos rfl] at H; exact H
   clear H; have H := H1; clear H1; have H' := zq9 H; clear H
   go_wp2_with (first | ((with_reducible refine zq24 (f := 49) rfl ?_); refine gl (some 7) Try.func49 #[.int .i64 a0_0, .int .i64 0, .int .i64 1000000] ?_; (with_reducible refine (impl_within.calls a0_0 0 1000000 true _ A4.out).mono ?_); rintro e w' ⟨rfl, ⟨nd, rfl⟩⟩; refine ⟨_, rfl, ?_⟩))
   go_meet
   case rel => exact ⟨_, (decide ((l0_1.length : Int) > 12)), (by first | rfl | (simp; done) | (simp [*]; done)), H', ⟨by first | omega | exact Nat.le_refl _⟩, ⟨by refine bp ?_; exact BK676.out⟩, ⟨by exact b1 HB GE676⟩⟩
  ·replace c5 := Bool.eq_false_iff.mpr c5
   subst c5
   have H1 : (impl_BaseOk.j0 k true a0_0 l0_1) = some r := by rw [if_neg (show ¬ (false = true) by decide)] at H; exact H
   clear H; have H := H1; clear H1; have H' := zq9 H; clear H
   go_wp2_with (first | ((with_reducible refine zq24 (f := 49) rfl ?_); refine gl (some 7) Try.func49 #[.int .i64 a0_0, .int .i64 0, .int .i64 1000000] ?_; (with_reducible refine (impl_within.calls a0_0 0 1000000 false _ A4.out).mono ?_); rintro e w' ⟨rfl, ⟨nd, rfl⟩⟩; refine ⟨_, rfl, ?_⟩))
   go_meet
   case rel => exact ⟨_, (true), (by first | rfl | (simp; done) | (simp [*]; done)), H', ⟨by first | omega | exact Nat.le_refl _⟩, ⟨by refine bp ?_; exact BK676.out⟩, ⟨by exact b1 HB GE676⟩⟩
 case rest =>
  clear HC2
  try clear c1
  try clear p2
  try clear c4
  try clear c5
  try clear hcz6_0
  try clear hcz6_1
  try clear hcz7_0
  try clear hcz7_1
  try clear hfz6_0
  try clear hfz6_1
  try clear hfz7_0
  try clear hfz7_1
  obtain ⟨kq, x14_1, rfl, HA, HJ1, BK676, HB⟩ := hcut
  cases kq with
  | zero => exact absurd HA.out (by simp [impl_BaseOk.j0])
  | succ kj1 =>
   have H := HA.out; clear HA
   simp only [impl_BaseOk.j0] at H
   by_cases c8 : x14_1 = true
   ·subst c8
    have H1 : (some false) = some r := by rw [if_pos rfl] at H; exact H
    clear H; have H := H1; clear H1; obtain rfl := Option.some.inj H
    go_wp2
    go_ret
    exact fz (by exact b1 HB GE676)
   ·replace c8 := Bool.eq_false_iff.mpr c8
    subst c8
    have H1 : (impl_BaseOk.l0 kj1 l0_1 (l0_1.length : Int) 0 a0_0 l0_1) = some r := by rw [if_neg (show ¬ (false = true) by decide)] at H; exact H
    clear H; have H := H1; clear H1; have H' := zq9 H; clear H
    have hcz9_0 : wc.cell? ⟨gb676, 0, none⟩ = some (.int .i64 a0_0) := bc BK676 0
    have hcz9_1 : wc.cell? ⟨gb676, 1, none⟩ = some (.slice A0_1 l0_1.length c0_1) := bc BK676 1
    have hfz9_0 := zq6 BK676.out 0
    have hfz9_1 := zq6 BK676.out 1
    go_wp2
    go_loopg [18] kj1 (fun kq v18 w' => ∃ (x18_2 : Int), v18 = .int .i64 x18_2 ∧ Aside0 (impl_BaseOk.l0 kq l0_1 (l0_1.length : Int) x18_2 a0_0 l0_1 = some r) ∧ Aside0 (kq ≤ kj1) ∧ Aside0 (w'.heap[gb676]? = some (.cells #[.int .i64 a0_0, (.slice A0_1 l0_1.length c0_1)] 46 (0, 0))) ∧ Aside0 (Below w.heap.size w w'))
    case atStart => exact ⟨(0), (by first | rfl | (simp; done) | (simp [*]; done)), H', ⟨Nat.le_refl _⟩, ⟨by refine bp ?_; exact BK676.out⟩, ⟨by exact b1 HB GE676⟩⟩
    case round =>
     clear H'
     try clear c1
     try clear p2
     try clear c4
     try clear c5
     try clear c8
     try clear hcz6_0
     try clear hcz6_1
     try clear hcz7_0
     try clear hcz7_1
     try clear hcz9_0
     try clear hcz9_1
     try clear hfz6_0
     try clear hfz6_1
     try clear hfz7_0
     try clear hfz7_1
     try clear hfz9_0
     try clear hfz9_1
     try clear p2
     obtain ⟨x18_2, rfl, HA, HK2, BK676, HB⟩ := hrel
     cases gk with
     | zero => exact absurd HA.out (by simp [impl_BaseOk.l0])
     | succ k2 =>
      have H := HA.out; clear HA
      simp only [impl_BaseOk.l0] at H
      by_cases c10 : x18_2 < (l0_1.length : Int)
      ·rw [if_pos c10] at H; have c10b0 : decide (x18_2 < (l0_1.length : Int)) = true := decide_eq_true c10; clear c10
       by_cases c11 : 0 ≤ x18_2
       ·rw [if_pos c11] at H; have c11b0 : decide (0 ≤ x18_2) = true := decide_eq_true c11; clear c11
        by_cases c12 : x18_2 < (l0_1.length : Int)
        ·rw [if_pos c12] at H; have c12b0 : decide (x18_2 < (l0_1.length : Int)) = true := decide_eq_true c12; clear c12; have HC13 := zq9 H; clear H
         have p678 : 0 ≤ (x18_2 : Int) := of_decide_eq_true ‹_›
         have q678 : x18_2 < (l0_1.length : Int) := of_decide_eq_true ‹_›
         obtain ⟨ad678, A678_4, c678_4, A678_5, c678_5, A678_6, c678_6, e678, hx678_0, hx678_1, hx678_2, hx678_3, hx678_4, hx678_5, hx678_6, hl678_4, hi678_4, hl678_5, hi678_5, hl678_6, hi678_6⟩ := at_T32 HR0_1.out x18_2 p678 q678
         cases e678; replace hx678_0 := hcl HB hx678_0; replace hx678_1 := hcl HB hx678_1; replace hx678_2 := hcl HB hx678_2; replace hx678_3 := hcl HB hx678_3; replace hx678_4 := hcl HB hx678_4; replace hx678_5 := hcl HB hx678_5; replace hx678_6 := hcl HB hx678_6; have HR678_4 := zq9 hi678_4; have HC678_4 := zq9 hl678_4; clear hi678_4 hl678_4; have HR678_5 := zq9 hi678_5; have HC678_5 := zq9 hl678_5
         clear hi678_5 hl678_5; have HR678_6 := zq9 hi678_6; have HC678_6 := zq9 hl678_6; clear hi678_6 hl678_6; replace p678 := eq_true p678; replace q678 := eq_true q678
         go_upto_region 6 with (first | ((with_reducible refine zq25 (N := 4) rfl ?_); (try (refine gate_guard (by rfl) ?_; dsimp only)); refine bx 4 #[.string (⟨#[]⟩ : ByteArray), .int .i64 0, .int .i64 0, .string (⟨#[]⟩ : ByteArray), .slice none 0 0, .slice none 0 0, .slice none 0 0] 32 ?_; intro gb679 hg w14 hbox hb; have n0_ := zq9 (zq30 (g := gb676) (o := .cells #[.int .i64 a0_0, .slice (some ad678) l0_1.length c0_1] 46 (0, 0)) (by exact bk BK676) hb); have n1_ := zq9 (zq27 (by exact b1 HB GE676) hb); have n2_ := zq9 (hbox); have n3_ := zq9 ((by rw [hg]; exact (zq29 (by exact b1 HB GE676)) : w.heap.size ≤ gb679)); have n4_ := n3_; have n5_ := zq9 ((by rw [hg]; exact Nat.ne_of_lt (blk_lt (g := gb676) (o := .cells #[.int .i64 a0_0, .slice (some ad678) l0_1.length c0_1] 46 (0, 0)) (by exact bk BK676)) : gb676 ≠ gb679)); have n6_ := zq9 ((by rw [hg]; exact Nat.ne_of_gt (blk_lt (g := gb676) (o := .cells #[.int .i64 a0_0, .slice (some ad678) l0_1.length c0_1] 46 (0, 0)) (by exact bk BK676)) : gb679 ≠ gb676)); clear BK676; clear HB; have BK676 := n0_; have HB := n1_; have BK679 := n2_; have GW679 := n3_; have GE679 := n4_; have NB676_679 := n5_; have NB679_676 := n6_; clear n0_ n1_ n2_ n3_ n4_ n5_ n6_; clear hb hbox hg; have hnb15 := NB679_676.out; have hnc15 := NB676_679.out; have hcz16_0 : w14.cell? ⟨gb679, 0, none⟩ = some (.string (⟨#[]⟩ : ByteArray)) := bc BK679 0; have hcz16_1 : w14.cell? ⟨gb679, 1, none⟩ = some (.int .i64 0) := bc BK679 1; have hcz16_2 : w14.cell? ⟨gb679, 2, none⟩ = some (.int .i64 0) := bc BK679 2; have hcz16_3 : w14.cell? ⟨gb679, 3, none⟩ = some (.string (⟨#[]⟩ : ByteArray)) := bc BK679 3; have hcz16_4 : w14.cell? ⟨gb679, 4, none⟩ = some (.slice none 0 0) := bc BK679 4; have hcz16_5 : w14.cell? ⟨gb679, 5, none⟩ = some (.slice none 0 0) := bc BK679 5; have hcz16_6 : w14.cell? ⟨gb679, 6, none⟩ = some (.slice none 0 0) := bc BK679 6; have hfz16_0 := zq6 BK679.out 0; have hfz16_1 := zq6 BK679.out 1; have hfz16_2 := zq6 BK679.out 2; have hfz16_3 := zq6 BK679.out 3; have hfz16_4 := zq6 BK679.out 4; have hfz16_5 := zq6 BK679.out 5; have hfz16_6 := zq6 BK679.out 6))
         (try simp only [Act.put, zq0, zq1, zq2])
         go_cut [53] (fun v53 wc => ∃ (kq : Nat) (x53_12 : Bool), v53 = .bool x53_12 ∧ Aside0 (impl_BaseOk.j2 kq l0_1 (l0_1.length : Int) x18_2 x53_12 a0_0 l0_1 = some r) ∧ Aside0 (kq ≤ k2) ∧ Aside0 (wc.heap[gb676]? = some (.cells #[.int .i64 a0_0, (.slice (some ad678) l0_1.length c0_1)] 46 (0, 0))) ∧ Aside0 (wc.heap[gb679]? = some (.cells #[.string ((rd_T32 l0_1 x18_2).f0), .int .i64 ((rd_T32 l0_1 x18_2).f1), .int .i64 ((rd_T32 l0_1 x18_2).f2), .string ((rd_T32 l0_1 x18_2).f3), (.slice A678_4 ((rd_T32 l0_1 x18_2).f4).length c678_4), (.slice A678_5 ((rd_T32 l0_1 x18_2).f5).length c678_5), (.slice A678_6 ((rd_T32 l0_1 x18_2).f6).length c678_6)] 32 (0, 0))) ∧ Aside0 (Below w.heap.size w wc))
         case first =>
          have H := HC13.out; clear HC13; replace H := Option.bind_eq_some_iff.mp H; obtain ⟨t680, A170, H⟩ := H
          try dsimp only at H
          have A17 := zq9 A170; clear A170
          by_cases c18 : t680 = true
          ·subst c18
           have H1 : (if x18_2 > 0 then (if 0 ≤ (wrap64 (x18_2 - 1)) then (if (wrap64 (x18_2 - 1)) < (l0_1.length : Int) then (if ((Op.bytesLess (((rd_T32 l0_1 (wrap64 (x18_2 - 1))).f0).toList) (((rd_T32 l0_1 x18_2).f0).toList)) = true) then (if ((rd_T32 l0_1 x18_2).f1) = 0 then (impl_BaseOk.j2 k2 l0_1 (l0_1.length : Int) x18_2 false a0_0 l0_1) else (impl_BaseOk.j2 k2 l0_1 (l0_1.length : Int) x18_2 (decide (((rd_T32 l0_1 x18_2).f1) ≤ a0_0)) a0_0 l0_1)) else (impl_BaseOk.j2 k2 l0_1 (l0_1.length : Int) x18_2 true a0_0 l0_1)) else (none)) else (none)) else (if ((rd_T32 l0_1 x18_2).f1) = 0 then (impl_BaseOk.j2 k2 l0_1 (l0_1.length : Int) x18_2 false a0_0 l0_1) else (impl_BaseOk.j2 k2 l0_1 (l0_1.length : Int) x18_2 (decide (((rd_T32 l0_1 x18_2).f1) ≤ a0_0)) a0_0 l0_1))) = some r := by rw [if_pos rfl] at H; exact H
           clear H; have H := H1; clear H1
           by_cases c19 : x18_2 > 0
           ·rw [if_pos c19] at H; have c19b0 : decide (0 < x18_2) = true := decide_eq_true c19; clear c19
            (first | rw [c19b0] | (simp only [i64_w, i32_w]; rw [c19b0]) | skip)
            obtain ⟨ji20, hji20⟩ : ∃ j_ : Int, (wrap64 (x18_2 - 1)) = j_ := ⟨_, rfl⟩
            replace H : (if 0 ≤ (ji20) then (if (ji20) < (l0_1.length : Int) then (if ((Op.bytesLess (((rd_T32 l0_1 (ji20)).f0).toList) (((rd_T32 l0_1 x18_2).f0).toList)) = true) then (if ((rd_T32 l0_1 x18_2).f1) = 0 then (impl_BaseOk.j2 k2 l0_1 (l0_1.length : Int) x18_2 false a0_0 l0_1) else (impl_BaseOk.j2 k2 l0_1 (l0_1.length : Int) x18_2 (decide (((rd_T32 l0_1 x18_2).f1) ≤ a0_0)) a0_0 l0_1)) else (impl_BaseOk.j2 k2 l0_1 (l0_1.length : Int) x18_2 true a0_0 l0_1)) else (none)) else (none)) = some r := by first | (rw [hji20] at H; exact H) | (simp only [hji20] at H ⊢; exact H)
            (try rw [hji20] at A17)
            have hji20w : (IntKind.i64.wrap (x18_2 - 1)) = ji20 := (i64_w _).trans hji20
            by_cases c21 : 0 ≤ (ji20)
            ·rw [if_pos c21] at H; have c21b0 : decide (0 ≤ (ji20)) = true := decide_eq_true c21; clear c21
             by_cases c22 : (ji20) < (l0_1.length : Int)
             ·rw [if_pos c22] at H; have c22b0 : decide ((ji20) < (l0_1.length : Int)) = true := decide_eq_true c22; clear c22
              try go_wp2
              have n0_ : Aside0 ((((((((w14.setCell ⟨gb679, 0, none⟩ (.string ((rd_T32 l0_1 x18_2).f0))).setCell ⟨gb679, 1, none⟩ (.int .i64 ((rd_T32 l0_1 x18_2).f1))).setCell ⟨gb679, 2, none⟩ (.int .i64 ((rd_T32 l0_1 x18_2).f2))).setCell ⟨gb679, 3, none⟩ (.string ((rd_T32 l0_1 x18_2).f3))).setCell ⟨gb679, 4, none⟩ (.slice A678_4 ((rd_T32 l0_1 x18_2).f4).length c678_4)).setCell ⟨gb679, 5, none⟩ (.slice A678_5 ((rd_T32 l0_1 x18_2).f5).length c678_5)).setCell ⟨gb679, 6, none⟩ (.slice A678_6 ((rd_T32 l0_1 x18_2).f6).length c678_6)).heap[gb676]? = some (.cells #[.int .i64 a0_0, .slice (some ad678) l0_1.length c0_1] 46 (0, 0))) := ⟨by refine bp ?_; refine blk_far ?_ NB676_679.out _; refine bp ?_; refine blk_far ?_ NB676_679.out _; refine bp ?_; refine blk_far ?_ NB676_679.out _; refine bp ?_; refine blk_far ?_ NB676_679.out _; refine bp ?_; refine blk_far ?_ NB676_679.out _; refine bp ?_; refine blk_far ?_ NB676_679.out _; refine bp ?_; refine blk_far ?_ NB676_679.out _; refine bp ?_; exact BK676.out⟩
              have n1_ : Aside0 ((((((((w14.setCell ⟨gb679, 0, none⟩ (.string ((rd_T32 l0_1 x18_2).f0))).setCell ⟨gb679, 1, none⟩ (.int .i64 ((rd_T32 l0_1 x18_2).f1))).setCell ⟨gb679, 2, none⟩ (.int .i64 ((rd_T32 l0_1 x18_2).f2))).setCell ⟨gb679, 3, none⟩ (.string ((rd_T32 l0_1 x18_2).f3))).setCell ⟨gb679, 4, none⟩ (.slice A678_4 ((rd_T32 l0_1 x18_2).f4).length c678_4)).setCell ⟨gb679, 5, none⟩ (.slice A678_5 ((rd_T32 l0_1 x18_2).f5).length c678_5)).setCell ⟨gb679, 6, none⟩ (.slice A678_6 ((rd_T32 l0_1 x18_2).f6).length c678_6)).heap[gb679]? = some (.cells #[.string ((rd_T32 l0_1 x18_2).f0), .int .i64 ((rd_T32 l0_1 x18_2).f1), .int .i64 ((rd_T32 l0_1 x18_2).f2), .string ((rd_T32 l0_1 x18_2).f3), .slice A678_4 ((rd_T32 l0_1 x18_2).f4).length c678_4, .slice A678_5 ((rd_T32 l0_1 x18_2).f5).length c678_5, .slice A678_6 ((rd_T32 l0_1 x18_2).f6).length c678_6] 32 (0, 0))) := ⟨(blk_set (blk_set (blk_set (blk_set (blk_set (blk_set (blk_set BK679.out 0 _) 1 _) 2 _) 3 _) 4 _) 5 _) 6 _)⟩
              have n2_ : Aside0 (Below w.heap.size w (((((((w14.setCell ⟨gb679, 0, none⟩ (.string ((rd_T32 l0_1 x18_2).f0))).setCell ⟨gb679, 1, none⟩ (.int .i64 ((rd_T32 l0_1 x18_2).f1))).setCell ⟨gb679, 2, none⟩ (.int .i64 ((rd_T32 l0_1 x18_2).f2))).setCell ⟨gb679, 3, none⟩ (.string ((rd_T32 l0_1 x18_2).f3))).setCell ⟨gb679, 4, none⟩ (.slice A678_4 ((rd_T32 l0_1 x18_2).f4).length c678_4)).setCell ⟨gb679, 5, none⟩ (.slice A678_5 ((rd_T32 l0_1 x18_2).f5).length c678_5)).setCell ⟨gb679, 6, none⟩ (.slice A678_6 ((rd_T32 l0_1 x18_2).f6).length c678_6))) := ⟨by exact b2 HB GE676 GE679⟩
              (try clear BK676)
              (try clear BK679)
              (try clear HB)
              generalize (((((((w14.setCell ⟨gb679, 0, none⟩ (.string ((rd_T32 l0_1 x18_2).f0))).setCell ⟨gb679, 1, none⟩ (.int .i64 ((rd_T32 l0_1 x18_2).f1))).setCell ⟨gb679, 2, none⟩ (.int .i64 ((rd_T32 l0_1 x18_2).f2))).setCell ⟨gb679, 3, none⟩ (.string ((rd_T32 l0_1 x18_2).f3))).setCell ⟨gb679, 4, none⟩ (.slice A678_4 ((rd_T32 l0_1 x18_2).f4).length c678_4)).setCell ⟨gb679, 5, none⟩ (.slice A678_5 ((rd_T32 l0_1 x18_2).f5).length c678_5)).setCell ⟨gb679, 6, none⟩ (.slice A678_6 ((rd_T32 l0_1 x18_2).f6).length c678_6)) = w25 at n0_ n1_ n2_ ⊢
              have BK676 := n0_; have BK679 := n1_; have HB := n2_; clear n0_ n1_ n2_
              have n0_ := zq9 (blk_drew BK676.out)
              have n1_ := zq9 (blk_drew BK679.out)
              have n2_ := zq9 (zq4 HB.out)
              clear BK676; clear BK679; clear HB; have BK676 := n0_; have BK679 := n1_; have HB := n2_; clear n0_ n1_ n2_
              have p681 : 0 ≤ ((ji20) : Int) := of_decide_eq_true ‹_›
              have q681 : (ji20) < (l0_1.length : Int) := of_decide_eq_true ‹_›
              obtain ⟨ad681, A681_4, c681_4, A681_5, c681_5, A681_6, c681_6, e681, hx681_0, hx681_1, hx681_2, hx681_3, hx681_4, hx681_5, hx681_6, hl681_4, hi681_4, hl681_5, hi681_5, hl681_6, hi681_6⟩ := at_T32 HR0_1.out (ji20) p681 q681
              have hw681_6 := hx681_6; have hw681_5 := hx681_5; have hw681_4 := hx681_4; have hw681_3 := hx681_3; have hw681_2 := hx681_2; have hw681_1 := hx681_1; have hw681_0 := hx681_0
              obtain rfl : ad678 = ad681 := (by injection e681)
              replace hx681_0 := hcl HB hx681_0; replace hx681_1 := hcl HB hx681_1; replace hx681_2 := hcl HB hx681_2; replace hx681_3 := hcl HB hx681_3; replace hx681_4 := hcl HB hx681_4; replace hx681_5 := hcl HB hx681_5; replace hx681_6 := hcl HB hx681_6; have HR681_4 := zq9 hi681_4; have HC681_4 := zq9 hl681_4; clear hi681_4 hl681_4; have HR681_5 := zq9 hi681_5; have HC681_5 := zq9 hl681_5; clear hi681_5 hl681_5
              have HR681_6 := zq9 hi681_6; have HC681_6 := zq9 hl681_6; clear hi681_6 hl681_6; replace p681 := eq_true p681; replace q681 := eq_true q681
              refine start_ (n := 31) (S := fun w' => w'.cell? ⟨gb679, 0, none⟩ = some (.string ((rd_T32 l0_1 x18_2).f0)) ∧ w'.cell? ⟨gb679, 1, none⟩ = some (.int .i64 ((rd_T32 l0_1 x18_2).f1)) ∧ w'.cell? ⟨gb679, 2, none⟩ = some (.int .i64 ((rd_T32 l0_1 x18_2).f2)) ∧ w'.cell? ⟨gb679, 3, none⟩ = some (.string ((rd_T32 l0_1 x18_2).f3)) ∧ w'.cell? ⟨gb679, 4, none⟩ = some (.slice A678_4 ((rd_T32 l0_1 x18_2).f4).length c678_4) ∧ w'.cell? ⟨gb679, 5, none⟩ = some (.slice A678_5 ((rd_T32 l0_1 x18_2).f5).length c678_5) ∧ w'.cell? ⟨gb679, 6, none⟩ = some (.slice A678_6 ((rd_T32 l0_1 x18_2).f6).length c678_6) ∧ w'.cell? ⟨gb676, 0, none⟩ = some (.int .i64 a0_0) ∧ w'.cell? ⟨gb676, 1, none⟩ = some (.slice (some ad678) l0_1.length c0_1) ∧ w'.cell? (ad678.add (((ji20)).toNat * 7)) = some (.string ((rd_T32 l0_1 (ji20)).f0)) ∧ w'.cell? ⟨(ad678.add (((ji20)).toNat * 7)).block, (ad678.add (((ji20)).toNat * 7)).off + 1, none⟩ = some (.int .i64 ((rd_T32 l0_1 (ji20)).f1)) ∧ w'.cell? ⟨(ad678.add (((ji20)).toNat * 7)).block, (ad678.add (((ji20)).toNat * 7)).off + 2, none⟩ = some (.int .i64 ((rd_T32 l0_1 (ji20)).f2)) ∧ w'.cell? ⟨(ad678.add (((ji20)).toNat * 7)).block, (ad678.add (((ji20)).toNat * 7)).off + 3, none⟩ = some (.string ((rd_T32 l0_1 (ji20)).f3)) ∧ w'.cell? ⟨(ad678.add (((ji20)).toNat * 7)).block, (ad678.add (((ji20)).toNat * 7)).off + 4, none⟩ = some (.slice A681_4 ((rd_T32 l0_1 (ji20)).f4).length c681_4) ∧ w'.cell? ⟨(ad678.add (((ji20)).toNat * 7)).block, (ad678.add (((ji20)).toNat * 7)).off + 5, none⟩ = some (.slice A681_5 ((rd_T32 l0_1 (ji20)).f5).length c681_5) ∧ w'.cell? ⟨(ad678.add (((ji20)).toNat * 7)).block, (ad678.add (((ji20)).toNat * 7)).off + 6, none⟩ = some (.slice A681_6 ((rd_T32 l0_1 (ji20)).f6).length c681_6)) (ds := []) #[false, false, false, false, false, false, false, false, false, false, false, false, false, false, false, false, false, false, false, false, false, false, false, false, false, false, false, false, false, false, false] (by kernel_rfl) rfl rfl ⟨bc BK679 0, bc BK679 1, bc BK679 2, bc BK679 3, bc BK679 4, bc BK679 5, bc BK679 6, bc BK676 0, bc BK676 1, (hcm HB hw681_0), (hcm HB hw681_1), (hcm HB hw681_2), (hcm HB hw681_3), (hcm HB hw681_4), (hcm HB hw681_5), (hcm HB hw681_6)⟩ (fun hHeld => ?_); refine with_tabW impl_BaseOk.tab6 impl_BaseOk.bits6 (fun HT_ HW_ => ?_)
              generalize w25.drew = w26 at BK676 BK679 HB HR681_4 HR681_5 HR681_6 hx681_0 hx681_1 hx681_2 hx681_3 hx681_4 hx681_5 hx681_6 hHeld ⊢
              refine take_ (i := 0) (N := some 23) (v := ?_) (a' := ?_) (zb 31 1) rfl rfl (take_ofW HT_.out HW_.out (by kernel_rfl)) (fun _ _ _ h => h) (Or.inl ⟨by rfl, ?_⟩) hHeld ?_ ?_
              rotate_left; ·rintro w' ⟨s0, s1, s2, s3, s4, s5, s6, s7, s8, s9, s10, s11, s12, s13, s14, s15⟩; go_simp; with_reducible rfl
              rotate_left; ·simp only [Act.put, zq0, zq1, zq2, i64_w, i32_w]; rfl
              refine one_ (i := 1) (N := some 24) (zb 31 3) rfl rfl (one_of HT_.out (by kernel_rfl)) (by decide) (fun K hK => ?_)
              refine gs Try.func13 #[.agg #[.string ((rd_T32 l0_1 x18_2).f0), .int .i64 ((rd_T32 l0_1 x18_2).f1), .int .i64 ((rd_T32 l0_1 x18_2).f2), .string ((rd_T32 l0_1 x18_2).f3), .slice A678_4 ((rd_T32 l0_1 x18_2).f4).length c678_4, .slice A678_5 ((rd_T32 l0_1 x18_2).f5).length c678_5, .slice A678_6 ((rd_T32 l0_1 x18_2).f6).length c678_6]] ?_
              with_reducible refine (impl_EntryOk.calls k2 ((rd_T32 l0_1 x18_2).f0) ((rd_T32 l0_1 x18_2).f1) ((rd_T32 l0_1 x18_2).f2) ((rd_T32 l0_1 x18_2).f3) _ _ ((rd_T32 l0_1 x18_2).f4) _ _ ((rd_T32 l0_1 x18_2).f5) _ _ ((rd_T32 l0_1 x18_2).f6) true _ ?side1 ?side2 ?side3 ?side4 ?side5 ?side6 A17.out).mono ?_
              (case side1 => exact kc HR678_4 HB)
              (case side2 => exact HC678_4.out)
              (case side3 => exact kc HR678_5 HB)
              (case side4 => exact HC678_5.out)
              (case side5 => exact kc HR678_6 HB)
              (case side6 => exact HC678_6.out)
              rintro e w27 ⟨rfl, hb⟩
              refine ⟨_, rfl, ?_⟩
              have n0_ := zq9 (zq30 (g := gb676) (o := .cells #[.int .i64 a0_0, .slice (some ad678) l0_1.length c0_1] 46 (0, 0)) (by exact bk BK676) hb)
              have n1_ := zq9 (zq30 (g := gb679) (o := .cells #[.string ((rd_T32 l0_1 x18_2).f0), .int .i64 ((rd_T32 l0_1 x18_2).f1), .int .i64 ((rd_T32 l0_1 x18_2).f2), .string ((rd_T32 l0_1 x18_2).f3), .slice A678_4 ((rd_T32 l0_1 x18_2).f4).length c678_4, .slice A678_5 ((rd_T32 l0_1 x18_2).f5).length c678_5, .slice A678_6 ((rd_T32 l0_1 x18_2).f6).length c678_6] 32 (0, 0)) (by exact bk BK679) hb)
              have n2_ := zq9 (zq27 (by exact b2 HB GE676 GE679) hb)
              clear BK676; clear BK679; clear HB; have BK676 := n0_; have BK679 := n1_; have HB := n2_; clear n0_ n1_ n2_
              (try clear hb)
              (try clear hb2)
              (try clear hk)
              (try clear hi)
              refine hK.out _ _ ⟨bc BK679 0, bc BK679 1, bc BK679 2, bc BK679 3, bc BK679 4, bc BK679 5, bc BK679 6, bc BK676 0, bc BK676 1, (hcm HB hw681_0), (hcm HB hw681_1), (hcm HB hw681_2), (hcm HB hw681_3), (hcm HB hw681_4), (hcm HB hw681_5), (hcm HB hw681_6)⟩ (fun hHeld => ?_)
              clear hK K
              refine norm_ (a' := ?_) ?_ ?_
              rotate_left; ·show Act.put _ (some 24) _ = _; simp only [Act.put, zq0, zq1, zq2, i64_w, i32_w]; rfl
              refine pa HT_ 2 25 (zb 31 7) ?_; refine pa HT_ 3 26 (zb 31 15) ?_; refine pa HT_ 4 27 (zb 31 31) ?_; refine pa HT_ 5 28 (zb 31 63) ?_; refine pa HT_ 6 29 (zb 31 127) ?_; refine pa HT_ 7 30 (zb 31 255) ?_; refine pa HT_ 9 32 (zb 31 767) ?_; refine pa HT_ 10 33 (zb 31 1791) ?_; refine pa HT_ 14 37 (zb 31 18175) ?_
              refine take_ (i := 8) (N := some 31) (v := ?_) (a' := ?_) (zb 31 18431) rfl rfl (take_ofW HT_.out HW_.out (by kernel_rfl)) (fun _ _ _ h => h) (Or.inl ⟨by rfl, ?_⟩) hHeld ?_ ?_
              rotate_left; ·rintro w' ⟨s0, s1, s2, s3, s4, s5, s6, s7, s8, s9, s10, s11, s12, s13, s14, s15⟩; go_simp; with_reducible rfl
              rotate_left; ·simp only [Act.put, zq0, zq1, zq2, i64_w, i32_w]; rfl
              refine pa HT_ 11 34 (zb 31 20479) ?_; refine pa HT_ 12 35 (zb 31 24575) ?_
              refine take_ (i := 13) (N := some 36) (v := ?_) (a' := ?_) (zb 31 32767) rfl rfl (take_ofW HT_.out HW_.out (by kernel_rfl)) (fun _ _ _ h => h) (Or.inl ⟨by rfl, ?_⟩) hHeld ?_ ?_
              rotate_left; ·rintro w' ⟨s0, s1, s2, s3, s4, s5, s6, s7, s8, s9, s10, s11, s12, s13, s14, s15⟩; go_simp; with_reducible rfl
              rotate_left; ·simp only [Act.put, zq0, zq1, zq2, i64_w, i32_w]; rfl
              refine take_ (i := 15) (N := some 38) (v := ?_) (a' := ?_) (zb 31 65535) rfl rfl (take_ofW HT_.out HW_.out (by kernel_rfl)) (fun _ _ _ h => h) (Or.inl ⟨by rfl, ?_⟩) hHeld ?_ ?_
              rotate_left; ·rintro w' ⟨s0, s1, s2, s3, s4, s5, s6, s7, s8, s9, s10, s11, s12, s13, s14, s15⟩; go_simp; with_reducible rfl
              rotate_left; ·simp only [Act.put, zq0, zq1, zq2, i64_w, i32_w]; rfl
              refine pa HT_ 16 39 (zb 31 131071) ?_; refine pa HT_ 17 40 (zb 31 262143) ?_; refine pa HT_ 18 41 (zb 31 524287) ?_; refine pa HT_ 19 42 (zb 31 1048575) ?_
              by_cases c23 : ((Op.bytesLess (((rd_T32 l0_1 (ji20)).f0).toList) (((rd_T32 l0_1 x18_2).f0).toList)) = true)
              ·rw [if_pos c23] at H
               have c23b0 : (Op.bytesLess (((rd_T32 l0_1 (ji20)).f0).toList) (((rd_T32 l0_1 x18_2).f0).toList)) = true := c23
               clear c23
               (try rw [c23b0])
               refine pa HT_ 20 43 (zb 31 2097151) ?_
               refine take_ (i := 21) (N := some 44) (v := ?_) (a' := ?_) (zb 31 4194303) rfl rfl (take_ofW HT_.out HW_.out (by kernel_rfl)) (fun _ _ _ h => h) (Or.inl ⟨by rfl, ?_⟩) hHeld ?_ ?_
               rotate_left; ·rintro w' ⟨s0, s1, s2, s3, s4, s5, s6, s7, s8, s9, s10, s11, s12, s13, s14, s15⟩; go_simp; with_reducible rfl
               rotate_left; ·simp only [Act.put, zq0, zq1, zq2, i64_w, i32_w]; rfl
               refine pa HT_ 22 45 (zb 31 8388607) ?_; refine pa HT_ 23 46 (zb 31 16777215) ?_
               by_cases c24 : ((rd_T32 l0_1 x18_2).f1) = 0
               ·rw [if_pos c24] at H
                have c24b0 : (((rd_T32 l0_1 x18_2).f1) == 0) = true := beq_iff_eq.mpr c24
                have c24b1 : (((rd_T32 l0_1 x18_2).f1) != 0) = false := bne_eq_false_iff_eq.mpr c24
                clear c24; have H' := zq9 H; clear H
                (try rw [c24b0]); (try rw [c24b1])
                refine pb HT_ 24 47 (zb 31 33554431) ?_; refine pb HT_ 25 48 (zb 31 67108863) ?_; refine pb HT_ 26 49 (zb 31 134217727) ?_; refine pb HT_ 27 50 (zb 31 268435455) ?_; refine pb HT_ 28 51 (zb 31 536870911) ?_; refine pa HT_ 29 52 (zb 31 1073741823) ?_; refine pa HT_ 30 53 (zb 31 2147483647) ?_
                refine done_ (done_of HT_.out (by kernel_rfl)) ?_
                try go_wp2
                go_meet
                case rel => exact ⟨_, (false), (by first | rfl | (simp; done) | (simp [*]; done)), H', ⟨by have := HJ1.out; have := HK2.out; first | omega | exact Nat.le_refl _⟩, ⟨by refine bp ?_; exact BK676.out⟩, ⟨by refine bp ?_; exact BK679.out⟩, ⟨by exact b2 HB GE676 GE679⟩⟩
               ·rw [if_neg c24] at H
                have c24b0 : (((rd_T32 l0_1 x18_2).f1) == 0) = false := beq_eq_false_iff_ne.mpr c24
                have c24b1 : (((rd_T32 l0_1 x18_2).f1) != 0) = true := bne_iff_ne.mpr c24
                have H' := zq9 H; clear H
                (try rw [c24b0]); (try rw [c24b1])
                refine pa HT_ 24 47 (zb 31 33554431) ?_; refine pa HT_ 26 49 (zb 31 100663295) ?_
                refine take_ (i := 25) (N := some 48) (v := ?_) (a' := ?_) (zb 31 134217727) rfl rfl (take_ofW HT_.out HW_.out (by kernel_rfl)) (fun _ _ _ h => h) (Or.inl ⟨by rfl, ?_⟩) hHeld ?_ ?_
                rotate_left; ·rintro w' ⟨s0, s1, s2, s3, s4, s5, s6, s7, s8, s9, s10, s11, s12, s13, s14, s15⟩; go_simp; with_reducible rfl
                rotate_left; ·simp only [Act.put, zq0, zq1, zq2, i64_w, i32_w]; rfl
                refine take_ (i := 27) (N := some 50) (v := ?_) (a' := ?_) (zb 31 268435455) rfl rfl (take_ofW HT_.out HW_.out (by kernel_rfl)) (fun _ _ _ h => h) (Or.inl ⟨by rfl, ?_⟩) hHeld ?_ ?_
                rotate_left; ·rintro w' ⟨s0, s1, s2, s3, s4, s5, s6, s7, s8, s9, s10, s11, s12, s13, s14, s15⟩; go_simp; with_reducible rfl
                rotate_left; ·simp only [Act.put, zq0, zq1, zq2, i64_w, i32_w]; rfl
                refine pa HT_ 28 51 (zb 31 536870911) ?_; refine pa HT_ 29 52 (zb 31 1073741823) ?_; refine pa HT_ 30 53 (zb 31 2147483647) ?_
                refine done_ (done_of HT_.out (by kernel_rfl)) ?_
                try go_wp2
                go_meet
                case rel => exact ⟨_, (decide (((rd_T32 l0_1 x18_2).f1) ≤ a0_0)), (by first | rfl | (simp; done) | (simp [*]; done)), H', ⟨by have := HJ1.out; have := HK2.out; first | omega | exact Nat.le_refl _⟩, ⟨by refine bp ?_; exact BK676.out⟩, ⟨by refine bp ?_; exact BK679.out⟩, ⟨by exact b2 HB GE676 GE679⟩⟩
              ·rw [if_neg c23] at H
               have c23b0 : (Op.bytesLess (((rd_T32 l0_1 (ji20)).f0).toList) (((rd_T32 l0_1 x18_2).f0).toList)) = false := by simpa using c23
               clear c23; have H' := zq9 H; clear H
               (try rw [c23b0])
               refine pb HT_ 20 43 (zb 31 2097151) ?_; refine pb HT_ 21 44 (zb 31 4194303) ?_; refine pb HT_ 22 45 (zb 31 8388607) ?_; refine pb HT_ 23 46 (zb 31 16777215) ?_; refine pb HT_ 24 47 (zb 31 33554431) ?_; refine pb HT_ 25 48 (zb 31 67108863) ?_; refine pb HT_ 26 49 (zb 31 134217727) ?_; refine pb HT_ 27 50 (zb 31 268435455) ?_; refine pb HT_ 28 51 (zb 31 536870911) ?_; refine pb HT_ 29 52 (zb 31 1073741823) ?_
               refine pa HT_ 30 53 (zb 31 2147483647) ?_
               refine done_ (done_of HT_.out (by kernel_rfl)) ?_
               try go_wp2
               go_meet
               case rel => exact ⟨_, (true), (by first | rfl | (simp; done) | (simp [*]; done)), H', ⟨by have := HJ1.out; have := HK2.out; first | omega | exact Nat.le_refl _⟩, ⟨by refine bp ?_; exact BK676.out⟩, ⟨by refine bp ?_; exact BK679.out⟩, ⟨by exact b2 HB GE676 GE679⟩⟩
             ·rw [if_neg c22] at H
              exact absurd H (by simp)
            ·rw [if_neg c21] at H
             exact absurd H (by simp)
           ·rw [if_neg c19] at H; have c19b0 : decide (0 < x18_2) = false := decide_eq_false c19; clear c19
            (first | rw [c19b0] | (simp only [i64_w, i32_w]; rw [c19b0]) | skip)
            try go_wp2
            have n0_ : Aside0 ((((((((w14.setCell ⟨gb679, 0, none⟩ (.string ((rd_T32 l0_1 x18_2).f0))).setCell ⟨gb679, 1, none⟩ (.int .i64 ((rd_T32 l0_1 x18_2).f1))).setCell ⟨gb679, 2, none⟩ (.int .i64 ((rd_T32 l0_1 x18_2).f2))).setCell ⟨gb679, 3, none⟩ (.string ((rd_T32 l0_1 x18_2).f3))).setCell ⟨gb679, 4, none⟩ (.slice A678_4 ((rd_T32 l0_1 x18_2).f4).length c678_4)).setCell ⟨gb679, 5, none⟩ (.slice A678_5 ((rd_T32 l0_1 x18_2).f5).length c678_5)).setCell ⟨gb679, 6, none⟩ (.slice A678_6 ((rd_T32 l0_1 x18_2).f6).length c678_6)).heap[gb676]? = some (.cells #[.int .i64 a0_0, .slice (some ad678) l0_1.length c0_1] 46 (0, 0))) := ⟨by refine bp ?_; refine blk_far ?_ NB676_679.out _; refine bp ?_; refine blk_far ?_ NB676_679.out _; refine bp ?_; refine blk_far ?_ NB676_679.out _; refine bp ?_; refine blk_far ?_ NB676_679.out _; refine bp ?_; refine blk_far ?_ NB676_679.out _; refine bp ?_; refine blk_far ?_ NB676_679.out _; refine bp ?_; refine blk_far ?_ NB676_679.out _; refine bp ?_; exact BK676.out⟩
            have n1_ : Aside0 ((((((((w14.setCell ⟨gb679, 0, none⟩ (.string ((rd_T32 l0_1 x18_2).f0))).setCell ⟨gb679, 1, none⟩ (.int .i64 ((rd_T32 l0_1 x18_2).f1))).setCell ⟨gb679, 2, none⟩ (.int .i64 ((rd_T32 l0_1 x18_2).f2))).setCell ⟨gb679, 3, none⟩ (.string ((rd_T32 l0_1 x18_2).f3))).setCell ⟨gb679, 4, none⟩ (.slice A678_4 ((rd_T32 l0_1 x18_2).f4).length c678_4)).setCell ⟨gb679, 5, none⟩ (.slice A678_5 ((rd_T32 l0_1 x18_2).f5).length c678_5)).setCell ⟨gb679, 6, none⟩ (.slice A678_6 ((rd_T32 l0_1 x18_2).f6).length c678_6)).heap[gb679]? = some (.cells #[.string ((rd_T32 l0_1 x18_2).f0), .int .i64 ((rd_T32 l0_1 x18_2).f1), .int .i64 ((rd_T32 l0_1 x18_2).f2), .string ((rd_T32 l0_1 x18_2).f3), .slice A678_4 ((rd_T32 l0_1 x18_2).f4).length c678_4, .slice A678_5 ((rd_T32 l0_1 x18_2).f5).length c678_5, .slice A678_6 ((rd_T32 l0_1 x18_2).f6).length c678_6] 32 (0, 0))) := ⟨(blk_set (blk_set (blk_set (blk_set (blk_set (blk_set (blk_set BK679.out 0 _) 1 _) 2 _) 3 _) 4 _) 5 _) 6 _)⟩
            have n2_ : Aside0 (Below w.heap.size w (((((((w14.setCell ⟨gb679, 0, none⟩ (.string ((rd_T32 l0_1 x18_2).f0))).setCell ⟨gb679, 1, none⟩ (.int .i64 ((rd_T32 l0_1 x18_2).f1))).setCell ⟨gb679, 2, none⟩ (.int .i64 ((rd_T32 l0_1 x18_2).f2))).setCell ⟨gb679, 3, none⟩ (.string ((rd_T32 l0_1 x18_2).f3))).setCell ⟨gb679, 4, none⟩ (.slice A678_4 ((rd_T32 l0_1 x18_2).f4).length c678_4)).setCell ⟨gb679, 5, none⟩ (.slice A678_5 ((rd_T32 l0_1 x18_2).f5).length c678_5)).setCell ⟨gb679, 6, none⟩ (.slice A678_6 ((rd_T32 l0_1 x18_2).f6).length c678_6))) := ⟨by exact b2 HB GE676 GE679⟩
            (try clear BK676)
            (try clear BK679)
            (try clear HB)
            generalize (((((((w14.setCell ⟨gb679, 0, none⟩ (.string ((rd_T32 l0_1 x18_2).f0))).setCell ⟨gb679, 1, none⟩ (.int .i64 ((rd_T32 l0_1 x18_2).f1))).setCell ⟨gb679, 2, none⟩ (.int .i64 ((rd_T32 l0_1 x18_2).f2))).setCell ⟨gb679, 3, none⟩ (.string ((rd_T32 l0_1 x18_2).f3))).setCell ⟨gb679, 4, none⟩ (.slice A678_4 ((rd_T32 l0_1 x18_2).f4).length c678_4)).setCell ⟨gb679, 5, none⟩ (.slice A678_5 ((rd_T32 l0_1 x18_2).f5).length c678_5)).setCell ⟨gb679, 6, none⟩ (.slice A678_6 ((rd_T32 l0_1 x18_2).f6).length c678_6)) = w35 at n0_ n1_ n2_ ⊢
            have BK676 := n0_; have BK679 := n1_; have HB := n2_; clear n0_ n1_ n2_
            have n0_ := zq9 (blk_drew BK676.out)
            have n1_ := zq9 (blk_drew BK679.out)
            have n2_ := zq9 (zq4 HB.out)
            clear BK676; clear BK679; clear HB; have BK676 := n0_; have BK679 := n1_; have HB := n2_; clear n0_ n1_ n2_
            by_cases c34 : ((rd_T32 l0_1 x18_2).f1) = 0
            ·rw [if_pos c34] at H
             have c34b0 : (((rd_T32 l0_1 x18_2).f1) == 0) = true := beq_iff_eq.mpr c34
             have c34b1 : (((rd_T32 l0_1 x18_2).f1) != 0) = false := bne_eq_false_iff_eq.mpr c34
             clear c34; have H' := zq9 H; clear H
             refine start_ (n := 31) (S := fun w' => w'.cell? ⟨gb679, 0, none⟩ = some (.string ((rd_T32 l0_1 x18_2).f0)) ∧ w'.cell? ⟨gb679, 1, none⟩ = some (.int .i64 ((rd_T32 l0_1 x18_2).f1)) ∧ w'.cell? ⟨gb679, 2, none⟩ = some (.int .i64 ((rd_T32 l0_1 x18_2).f2)) ∧ w'.cell? ⟨gb679, 3, none⟩ = some (.string ((rd_T32 l0_1 x18_2).f3)) ∧ w'.cell? ⟨gb679, 4, none⟩ = some (.slice A678_4 ((rd_T32 l0_1 x18_2).f4).length c678_4) ∧ w'.cell? ⟨gb679, 5, none⟩ = some (.slice A678_5 ((rd_T32 l0_1 x18_2).f5).length c678_5) ∧ w'.cell? ⟨gb679, 6, none⟩ = some (.slice A678_6 ((rd_T32 l0_1 x18_2).f6).length c678_6)) (ds := []) #[false, false, false, false, false, false, false, false, false, false, false, false, false, false, false, false, false, false, false, false, false, false, false, false, false, false, false, false, false, false, false] (by kernel_rfl) rfl rfl ⟨bc BK679 0, bc BK679 1, bc BK679 2, bc BK679 3, bc BK679 4, bc BK679 5, bc BK679 6⟩ (fun hHeld => ?_); refine with_tabW impl_BaseOk.tab6 impl_BaseOk.bits6 (fun HT_ HW_ => ?_)
             generalize w35.drew = w36 at BK676 BK679 HB hHeld ⊢
             refine take_ (i := 0) (N := some 23) (v := ?_) (a' := ?_) (zb 31 1) rfl rfl (take_ofW HT_.out HW_.out (by kernel_rfl)) (fun _ _ _ h => h) (Or.inl ⟨by rfl, ?_⟩) hHeld ?_ ?_
             rotate_left; ·rintro w' ⟨s0, s1, s2, s3, s4, s5, s6⟩; go_simp; with_reducible rfl
             rotate_left; ·simp only [Act.put, zq0, zq1, zq2, i64_w, i32_w]; rfl
             refine one_ (i := 1) (N := some 24) (zb 31 3) rfl rfl (one_of HT_.out (by kernel_rfl)) (by decide) (fun K hK => ?_)
             refine gs Try.func13 #[.agg #[.string ((rd_T32 l0_1 x18_2).f0), .int .i64 ((rd_T32 l0_1 x18_2).f1), .int .i64 ((rd_T32 l0_1 x18_2).f2), .string ((rd_T32 l0_1 x18_2).f3), .slice A678_4 ((rd_T32 l0_1 x18_2).f4).length c678_4, .slice A678_5 ((rd_T32 l0_1 x18_2).f5).length c678_5, .slice A678_6 ((rd_T32 l0_1 x18_2).f6).length c678_6]] ?_
             with_reducible refine (impl_EntryOk.calls k2 ((rd_T32 l0_1 x18_2).f0) ((rd_T32 l0_1 x18_2).f1) ((rd_T32 l0_1 x18_2).f2) ((rd_T32 l0_1 x18_2).f3) _ _ ((rd_T32 l0_1 x18_2).f4) _ _ ((rd_T32 l0_1 x18_2).f5) _ _ ((rd_T32 l0_1 x18_2).f6) true _ ?side1 ?side2 ?side3 ?side4 ?side5 ?side6 A17.out).mono ?_
             (case side1 => exact kc HR678_4 HB)
             (case side2 => exact HC678_4.out)
             (case side3 => exact kc HR678_5 HB)
             (case side4 => exact HC678_5.out)
             (case side5 => exact kc HR678_6 HB)
             (case side6 => exact HC678_6.out)
             rintro e w37 ⟨rfl, hb⟩
             refine ⟨_, rfl, ?_⟩
             have n0_ := zq9 (zq30 (g := gb676) (o := .cells #[.int .i64 a0_0, .slice (some ad678) l0_1.length c0_1] 46 (0, 0)) (by exact bk BK676) hb)
             have n1_ := zq9 (zq30 (g := gb679) (o := .cells #[.string ((rd_T32 l0_1 x18_2).f0), .int .i64 ((rd_T32 l0_1 x18_2).f1), .int .i64 ((rd_T32 l0_1 x18_2).f2), .string ((rd_T32 l0_1 x18_2).f3), .slice A678_4 ((rd_T32 l0_1 x18_2).f4).length c678_4, .slice A678_5 ((rd_T32 l0_1 x18_2).f5).length c678_5, .slice A678_6 ((rd_T32 l0_1 x18_2).f6).length c678_6] 32 (0, 0)) (by exact bk BK679) hb)
             have n2_ := zq9 (zq27 (by exact b2 HB GE676 GE679) hb)
             clear BK676; clear BK679; clear HB; have BK676 := n0_; have BK679 := n1_; have HB := n2_; clear n0_ n1_ n2_
             (try clear hb)
             (try clear hb2)
             (try clear hk)
             (try clear hi)
             refine hK.out _ _ ⟨bc BK679 0, bc BK679 1, bc BK679 2, bc BK679 3, bc BK679 4, bc BK679 5, bc BK679 6⟩ (fun hHeld => ?_)
             clear hK K
             refine norm_ (a' := ?_) ?_ ?_
             rotate_left; ·show Act.put _ (some 24) _ = _; simp only [Act.put, zq0, zq1, zq2, i64_w, i32_w]; rfl
             refine pa HT_ 2 25 (zb 31 7) ?_; refine pa HT_ 3 26 (zb 31 15) ?_; refine pa HT_ 4 27 (zb 31 31) ?_; refine pa HT_ 5 28 (zb 31 63) ?_; refine pa HT_ 6 29 (zb 31 127) ?_; refine pb HT_ 7 30 (zb 31 255) ?_; refine pb HT_ 8 31 (zb 31 511) ?_; refine pb HT_ 9 32 (zb 31 1023) ?_; refine pb HT_ 10 33 (zb 31 2047) ?_; refine pb HT_ 11 34 (zb 31 4095) ?_; refine pb HT_ 12 35 (zb 31 8191) ?_; refine pb HT_ 13 36 (zb 31 16383) ?_
             refine pb HT_ 14 37 (zb 31 32767) ?_; refine pb HT_ 15 38 (zb 31 65535) ?_; refine pb HT_ 16 39 (zb 31 131071) ?_; refine pa HT_ 17 40 (zb 31 262143) ?_; refine pa HT_ 18 41 (zb 31 524287) ?_; refine pa HT_ 19 42 (zb 31 1048575) ?_; refine pa HT_ 20 43 (zb 31 2097151) ?_
             refine take_ (i := 21) (N := some 44) (v := ?_) (a' := ?_) (zb 31 4194303) rfl rfl (take_ofW HT_.out HW_.out (by kernel_rfl)) (fun _ _ _ h => h) (Or.inl ⟨by rfl, ?_⟩) hHeld ?_ ?_
             rotate_left; ·rintro w' ⟨s0, s1, s2, s3, s4, s5, s6⟩; go_simp; with_reducible rfl
             rotate_left; ·simp only [Act.put, zq0, zq1, zq2, i64_w, i32_w]; rfl
             refine pa HT_ 22 45 (zb 31 8388607) ?_; refine pa HT_ 23 46 (zb 31 16777215) ?_; refine pb HT_ 24 47 (zb 31 33554431) ?_; refine pb HT_ 25 48 (zb 31 67108863) ?_; refine pb HT_ 26 49 (zb 31 134217727) ?_; refine pb HT_ 27 50 (zb 31 268435455) ?_; refine pb HT_ 28 51 (zb 31 536870911) ?_; refine pa HT_ 29 52 (zb 31 1073741823) ?_; refine pa HT_ 30 53 (zb 31 2147483647) ?_
             refine done_ (done_of HT_.out (by kernel_rfl)) ?_
             try go_wp2
             go_meet
             case rel => exact ⟨_, (false), (by first | rfl | (simp; done) | (simp [*]; done)), H', ⟨by have := HJ1.out; have := HK2.out; first | omega | exact Nat.le_refl _⟩, ⟨by refine bp ?_; exact BK676.out⟩, ⟨by refine bp ?_; exact BK679.out⟩, ⟨by exact b2 HB GE676 GE679⟩⟩
            ·rw [if_neg c34] at H
             have c34b0 : (((rd_T32 l0_1 x18_2).f1) == 0) = false := beq_eq_false_iff_ne.mpr c34
             have c34b1 : (((rd_T32 l0_1 x18_2).f1) != 0) = true := bne_iff_ne.mpr c34
             have H' := zq9 H; clear H
             refine start_ (n := 31) (S := fun w' => w'.cell? ⟨gb679, 0, none⟩ = some (.string ((rd_T32 l0_1 x18_2).f0)) ∧ w'.cell? ⟨gb679, 1, none⟩ = some (.int .i64 ((rd_T32 l0_1 x18_2).f1)) ∧ w'.cell? ⟨gb679, 2, none⟩ = some (.int .i64 ((rd_T32 l0_1 x18_2).f2)) ∧ w'.cell? ⟨gb679, 3, none⟩ = some (.string ((rd_T32 l0_1 x18_2).f3)) ∧ w'.cell? ⟨gb679, 4, none⟩ = some (.slice A678_4 ((rd_T32 l0_1 x18_2).f4).length c678_4) ∧ w'.cell? ⟨gb679, 5, none⟩ = some (.slice A678_5 ((rd_T32 l0_1 x18_2).f5).length c678_5) ∧ w'.cell? ⟨gb679, 6, none⟩ = some (.slice A678_6 ((rd_T32 l0_1 x18_2).f6).length c678_6) ∧ w'.cell? ⟨gb676, 0, none⟩ = some (.int .i64 a0_0) ∧ w'.cell? ⟨gb676, 1, none⟩ = some (.slice (some ad678) l0_1.length c0_1)) (ds := []) #[false, false, false, false, false, false, false, false, false, false, false, false, false, false, false, false, false, false, false, false, false, false, false, false, false, false, false, false, false, false, false] (by kernel_rfl) rfl rfl ⟨bc BK679 0, bc BK679 1, bc BK679 2, bc BK679 3, bc BK679 4, bc BK679 5, bc BK679 6, bc BK676 0, bc BK676 1⟩ (fun hHeld => ?_); refine with_tabW impl_BaseOk.tab6 impl_BaseOk.bits6 (fun HT_ HW_ => ?_)
             generalize w35.drew = w39 at BK676 BK679 HB hHeld ⊢
             refine take_ (i := 0) (N := some 23) (v := ?_) (a' := ?_) (zb 31 1) rfl rfl (take_ofW HT_.out HW_.out (by kernel_rfl)) (fun _ _ _ h => h) (Or.inl ⟨by rfl, ?_⟩) hHeld ?_ ?_
             rotate_left; ·rintro w' ⟨s0, s1, s2, s3, s4, s5, s6, s7, s8⟩; go_simp; with_reducible rfl
             rotate_left; ·simp only [Act.put, zq0, zq1, zq2, i64_w, i32_w]; rfl
             refine one_ (i := 1) (N := some 24) (zb 31 3) rfl rfl (one_of HT_.out (by kernel_rfl)) (by decide) (fun K hK => ?_)
             refine gs Try.func13 #[.agg #[.string ((rd_T32 l0_1 x18_2).f0), .int .i64 ((rd_T32 l0_1 x18_2).f1), .int .i64 ((rd_T32 l0_1 x18_2).f2), .string ((rd_T32 l0_1 x18_2).f3), .slice A678_4 ((rd_T32 l0_1 x18_2).f4).length c678_4, .slice A678_5 ((rd_T32 l0_1 x18_2).f5).length c678_5, .slice A678_6 ((rd_T32 l0_1 x18_2).f6).length c678_6]] ?_
             with_reducible refine (impl_EntryOk.calls k2 ((rd_T32 l0_1 x18_2).f0) ((rd_T32 l0_1 x18_2).f1) ((rd_T32 l0_1 x18_2).f2) ((rd_T32 l0_1 x18_2).f3) _ _ ((rd_T32 l0_1 x18_2).f4) _ _ ((rd_T32 l0_1 x18_2).f5) _ _ ((rd_T32 l0_1 x18_2).f6) true _ ?side1 ?side2 ?side3 ?side4 ?side5 ?side6 A17.out).mono ?_
             (case side1 => exact kc HR678_4 HB)
             (case side2 => exact HC678_4.out)
             (case side3 => exact kc HR678_5 HB)
             (case side4 => exact HC678_5.out)
             (case side5 => exact kc HR678_6 HB)
             (case side6 => exact HC678_6.out)
             rintro e w40 ⟨rfl, hb⟩
             refine ⟨_, rfl, ?_⟩
             have n0_ := zq9 (zq30 (g := gb676) (o := .cells #[.int .i64 a0_0, .slice (some ad678) l0_1.length c0_1] 46 (0, 0)) (by exact bk BK676) hb)
             have n1_ := zq9 (zq30 (g := gb679) (o := .cells #[.string ((rd_T32 l0_1 x18_2).f0), .int .i64 ((rd_T32 l0_1 x18_2).f1), .int .i64 ((rd_T32 l0_1 x18_2).f2), .string ((rd_T32 l0_1 x18_2).f3), .slice A678_4 ((rd_T32 l0_1 x18_2).f4).length c678_4, .slice A678_5 ((rd_T32 l0_1 x18_2).f5).length c678_5, .slice A678_6 ((rd_T32 l0_1 x18_2).f6).length c678_6] 32 (0, 0)) (by exact bk BK679) hb)
             have n2_ := zq9 (zq27 (by exact b2 HB GE676 GE679) hb)
             clear BK676; clear BK679; clear HB; have BK676 := n0_; have BK679 := n1_; have HB := n2_; clear n0_ n1_ n2_
             (try clear hb)
             (try clear hb2)
             (try clear hk)
             (try clear hi)
             refine hK.out _ _ ⟨bc BK679 0, bc BK679 1, bc BK679 2, bc BK679 3, bc BK679 4, bc BK679 5, bc BK679 6, bc BK676 0, bc BK676 1⟩ (fun hHeld => ?_)
             clear hK K
             refine norm_ (a' := ?_) ?_ ?_
             rotate_left; ·show Act.put _ (some 24) _ = _; simp only [Act.put, zq0, zq1, zq2, i64_w, i32_w]; rfl
             refine pa HT_ 2 25 (zb 31 7) ?_; refine pa HT_ 3 26 (zb 31 15) ?_; refine pa HT_ 4 27 (zb 31 31) ?_; refine pa HT_ 5 28 (zb 31 63) ?_; refine pa HT_ 6 29 (zb 31 127) ?_; refine pb HT_ 7 30 (zb 31 255) ?_; refine pb HT_ 8 31 (zb 31 511) ?_; refine pb HT_ 9 32 (zb 31 1023) ?_; refine pb HT_ 10 33 (zb 31 2047) ?_; refine pb HT_ 11 34 (zb 31 4095) ?_; refine pb HT_ 12 35 (zb 31 8191) ?_; refine pb HT_ 13 36 (zb 31 16383) ?_
             refine pb HT_ 14 37 (zb 31 32767) ?_; refine pb HT_ 15 38 (zb 31 65535) ?_; refine pb HT_ 16 39 (zb 31 131071) ?_; refine pa HT_ 17 40 (zb 31 262143) ?_; refine pa HT_ 18 41 (zb 31 524287) ?_; refine pa HT_ 19 42 (zb 31 1048575) ?_; refine pa HT_ 20 43 (zb 31 2097151) ?_
             refine take_ (i := 21) (N := some 44) (v := ?_) (a' := ?_) (zb 31 4194303) rfl rfl (take_ofW HT_.out HW_.out (by kernel_rfl)) (fun _ _ _ h => h) (Or.inl ⟨by rfl, ?_⟩) hHeld ?_ ?_
             rotate_left; ·rintro w' ⟨s0, s1, s2, s3, s4, s5, s6, s7, s8⟩; go_simp; with_reducible rfl
             rotate_left; ·simp only [Act.put, zq0, zq1, zq2, i64_w, i32_w]; rfl
             refine pa HT_ 22 45 (zb 31 8388607) ?_; refine pa HT_ 23 46 (zb 31 16777215) ?_; refine pa HT_ 24 47 (zb 31 33554431) ?_; refine pa HT_ 26 49 (zb 31 100663295) ?_
             refine take_ (i := 25) (N := some 48) (v := ?_) (a' := ?_) (zb 31 134217727) rfl rfl (take_ofW HT_.out HW_.out (by kernel_rfl)) (fun _ _ _ h => h) (Or.inl ⟨by rfl, ?_⟩) hHeld ?_ ?_
             rotate_left; ·rintro w' ⟨s0, s1, s2, s3, s4, s5, s6, s7, s8⟩; go_simp; with_reducible rfl
             rotate_left; ·simp only [Act.put, zq0, zq1, zq2, i64_w, i32_w]; rfl
             refine take_ (i := 27) (N := some 50) (v := ?_) (a' := ?_) (zb 31 268435455) rfl rfl (take_ofW HT_.out HW_.out (by kernel_rfl)) (fun _ _ _ h => h) (Or.inl ⟨by rfl, ?_⟩) hHeld ?_ ?_
             rotate_left; ·rintro w' ⟨s0, s1, s2, s3, s4, s5, s6, s7, s8⟩; go_simp; with_reducible rfl
             rotate_left; ·simp only [Act.put, zq0, zq1, zq2, i64_w, i32_w]; rfl
             refine pa HT_ 28 51 (zb 31 536870911) ?_; refine pa HT_ 29 52 (zb 31 1073741823) ?_; refine pa HT_ 30 53 (zb 31 2147483647) ?_
             refine done_ (done_of HT_.out (by kernel_rfl)) ?_
             try go_wp2
             go_meet
             case rel => exact ⟨_, (decide (((rd_T32 l0_1 x18_2).f1) ≤ a0_0)), (by first | rfl | (simp; done) | (simp [*]; done)), H', ⟨by have := HJ1.out; have := HK2.out; first | omega | exact Nat.le_refl _⟩, ⟨by refine bp ?_; exact BK676.out⟩, ⟨by refine bp ?_; exact BK679.out⟩, ⟨by exact b2 HB GE676 GE679⟩⟩
          ·replace c18 := Bool.eq_false_iff.mpr c18
           subst c18
           have H1 : (impl_BaseOk.j2 k2 l0_1 (l0_1.length : Int) x18_2 true a0_0 l0_1) = some r := by rw [if_neg (show ¬ (false = true) by decide)] at H; exact H
           clear H; have H := H1; clear H1; have H' := zq9 H; clear H
           try go_wp2
           have n0_ : Aside0 ((((((((w14.setCell ⟨gb679, 0, none⟩ (.string ((rd_T32 l0_1 x18_2).f0))).setCell ⟨gb679, 1, none⟩ (.int .i64 ((rd_T32 l0_1 x18_2).f1))).setCell ⟨gb679, 2, none⟩ (.int .i64 ((rd_T32 l0_1 x18_2).f2))).setCell ⟨gb679, 3, none⟩ (.string ((rd_T32 l0_1 x18_2).f3))).setCell ⟨gb679, 4, none⟩ (.slice A678_4 ((rd_T32 l0_1 x18_2).f4).length c678_4)).setCell ⟨gb679, 5, none⟩ (.slice A678_5 ((rd_T32 l0_1 x18_2).f5).length c678_5)).setCell ⟨gb679, 6, none⟩ (.slice A678_6 ((rd_T32 l0_1 x18_2).f6).length c678_6)).heap[gb676]? = some (.cells #[.int .i64 a0_0, .slice (some ad678) l0_1.length c0_1] 46 (0, 0))) := ⟨by refine bp ?_; refine blk_far ?_ NB676_679.out _; refine bp ?_; refine blk_far ?_ NB676_679.out _; refine bp ?_; refine blk_far ?_ NB676_679.out _; refine bp ?_; refine blk_far ?_ NB676_679.out _; refine bp ?_; refine blk_far ?_ NB676_679.out _; refine bp ?_; refine blk_far ?_ NB676_679.out _; refine bp ?_; refine blk_far ?_ NB676_679.out _; refine bp ?_; exact BK676.out⟩
           have n1_ : Aside0 ((((((((w14.setCell ⟨gb679, 0, none⟩ (.string ((rd_T32 l0_1 x18_2).f0))).setCell ⟨gb679, 1, none⟩ (.int .i64 ((rd_T32 l0_1 x18_2).f1))).setCell ⟨gb679, 2, none⟩ (.int .i64 ((rd_T32 l0_1 x18_2).f2))).setCell ⟨gb679, 3, none⟩ (.string ((rd_T32 l0_1 x18_2).f3))).setCell ⟨gb679, 4, none⟩ (.slice A678_4 ((rd_T32 l0_1 x18_2).f4).length c678_4)).setCell ⟨gb679, 5, none⟩ (.slice A678_5 ((rd_T32 l0_1 x18_2).f5).length c678_5)).setCell ⟨gb679, 6, none⟩ (.slice A678_6 ((rd_T32 l0_1 x18_2).f6).length c678_6)).heap[gb679]? = some (.cells #[.string ((rd_T32 l0_1 x18_2).f0), .int .i64 ((rd_T32 l0_1 x18_2).f1), .int .i64 ((rd_T32 l0_1 x18_2).f2), .string ((rd_T32 l0_1 x18_2).f3), .slice A678_4 ((rd_T32 l0_1 x18_2).f4).length c678_4, .slice A678_5 ((rd_T32 l0_1 x18_2).f5).length c678_5, .slice A678_6 ((rd_T32 l0_1 x18_2).f6).length c678_6] 32 (0, 0))) := ⟨(blk_set (blk_set (blk_set (blk_set (blk_set (blk_set (blk_set BK679.out 0 _) 1 _) 2 _) 3 _) 4 _) 5 _) 6 _)⟩
           have n2_ : Aside0 (Below w.heap.size w (((((((w14.setCell ⟨gb679, 0, none⟩ (.string ((rd_T32 l0_1 x18_2).f0))).setCell ⟨gb679, 1, none⟩ (.int .i64 ((rd_T32 l0_1 x18_2).f1))).setCell ⟨gb679, 2, none⟩ (.int .i64 ((rd_T32 l0_1 x18_2).f2))).setCell ⟨gb679, 3, none⟩ (.string ((rd_T32 l0_1 x18_2).f3))).setCell ⟨gb679, 4, none⟩ (.slice A678_4 ((rd_T32 l0_1 x18_2).f4).length c678_4)).setCell ⟨gb679, 5, none⟩ (.slice A678_5 ((rd_T32 l0_1 x18_2).f5).length c678_5)).setCell ⟨gb679, 6, none⟩ (.slice A678_6 ((rd_T32 l0_1 x18_2).f6).length c678_6))) := ⟨by exact b2 HB GE676 GE679⟩
           (try clear BK676)
           (try clear BK679)
           (try clear HB)
           generalize (((((((w14.setCell ⟨gb679, 0, none⟩ (.string ((rd_T32 l0_1 x18_2).f0))).setCell ⟨gb679, 1, none⟩ (.int .i64 ((rd_T32 l0_1 x18_2).f1))).setCell ⟨gb679, 2, none⟩ (.int .i64 ((rd_T32 l0_1 x18_2).f2))).setCell ⟨gb679, 3, none⟩ (.string ((rd_T32 l0_1 x18_2).f3))).setCell ⟨gb679, 4, none⟩ (.slice A678_4 ((rd_T32 l0_1 x18_2).f4).length c678_4)).setCell ⟨gb679, 5, none⟩ (.slice A678_5 ((rd_T32 l0_1 x18_2).f5).length c678_5)).setCell ⟨gb679, 6, none⟩ (.slice A678_6 ((rd_T32 l0_1 x18_2).f6).length c678_6)) = w41 at n0_ n1_ n2_ ⊢
           have BK676 := n0_; have BK679 := n1_; have HB := n2_; clear n0_ n1_ n2_
           have n0_ := zq9 (blk_drew BK676.out)
           have n1_ := zq9 (blk_drew BK679.out)
           have n2_ := zq9 (zq4 HB.out)
           clear BK676; clear BK679; clear HB; have BK676 := n0_; have BK679 := n1_; have HB := n2_; clear n0_ n1_ n2_
           refine start_ (n := 31) (S := fun w' => w'.cell? ⟨gb679, 0, none⟩ = some (.string ((rd_T32 l0_1 x18_2).f0)) ∧ w'.cell? ⟨gb679, 1, none⟩ = some (.int .i64 ((rd_T32 l0_1 x18_2).f1)) ∧ w'.cell? ⟨gb679, 2, none⟩ = some (.int .i64 ((rd_T32 l0_1 x18_2).f2)) ∧ w'.cell? ⟨gb679, 3, none⟩ = some (.string ((rd_T32 l0_1 x18_2).f3)) ∧ w'.cell? ⟨gb679, 4, none⟩ = some (.slice A678_4 ((rd_T32 l0_1 x18_2).f4).length c678_4) ∧ w'.cell? ⟨gb679, 5, none⟩ = some (.slice A678_5 ((rd_T32 l0_1 x18_2).f5).length c678_5) ∧ w'.cell? ⟨gb679, 6, none⟩ = some (.slice A678_6 ((rd_T32 l0_1 x18_2).f6).length c678_6)) (ds := []) #[false, false, false, false, false, false, false, false, false, false, false, false, false, false, false, false, false, false, false, false, false, false, false, false, false, false, false, false, false, false, false] (by kernel_rfl) rfl rfl ⟨bc BK679 0, bc BK679 1, bc BK679 2, bc BK679 3, bc BK679 4, bc BK679 5, bc BK679 6⟩ (fun hHeld => ?_); refine with_tabW impl_BaseOk.tab6 impl_BaseOk.bits6 (fun HT_ HW_ => ?_)
           generalize w41.drew = w42 at BK676 BK679 HB hHeld ⊢
           refine take_ (i := 0) (N := some 23) (v := ?_) (a' := ?_) (zb 31 1) rfl rfl (take_ofW HT_.out HW_.out (by kernel_rfl)) (fun _ _ _ h => h) (Or.inl ⟨by rfl, ?_⟩) hHeld ?_ ?_
           rotate_left; ·rintro w' ⟨s0, s1, s2, s3, s4, s5, s6⟩; go_simp; with_reducible rfl
           rotate_left; ·simp only [Act.put, zq0, zq1, zq2, i64_w, i32_w]; rfl
           refine one_ (i := 1) (N := some 24) (zb 31 3) rfl rfl (one_of HT_.out (by kernel_rfl)) (by decide) (fun K hK => ?_)
           refine gs Try.func13 #[.agg #[.string ((rd_T32 l0_1 x18_2).f0), .int .i64 ((rd_T32 l0_1 x18_2).f1), .int .i64 ((rd_T32 l0_1 x18_2).f2), .string ((rd_T32 l0_1 x18_2).f3), .slice A678_4 ((rd_T32 l0_1 x18_2).f4).length c678_4, .slice A678_5 ((rd_T32 l0_1 x18_2).f5).length c678_5, .slice A678_6 ((rd_T32 l0_1 x18_2).f6).length c678_6]] ?_
           with_reducible refine (impl_EntryOk.calls k2 ((rd_T32 l0_1 x18_2).f0) ((rd_T32 l0_1 x18_2).f1) ((rd_T32 l0_1 x18_2).f2) ((rd_T32 l0_1 x18_2).f3) _ _ ((rd_T32 l0_1 x18_2).f4) _ _ ((rd_T32 l0_1 x18_2).f5) _ _ ((rd_T32 l0_1 x18_2).f6) false _ ?side1 ?side2 ?side3 ?side4 ?side5 ?side6 A17.out).mono ?_
           (case side1 => exact kc HR678_4 HB)
           (case side2 => exact HC678_4.out)
           (case side3 => exact kc HR678_5 HB)
           (case side4 => exact HC678_5.out)
           (case side5 => exact kc HR678_6 HB)
           (case side6 => exact HC678_6.out)
           rintro e w43 ⟨rfl, hb⟩
           refine ⟨_, rfl, ?_⟩
           have n0_ := zq9 (zq30 (g := gb676) (o := .cells #[.int .i64 a0_0, .slice (some ad678) l0_1.length c0_1] 46 (0, 0)) (by exact bk BK676) hb)
           have n1_ := zq9 (zq30 (g := gb679) (o := .cells #[.string ((rd_T32 l0_1 x18_2).f0), .int .i64 ((rd_T32 l0_1 x18_2).f1), .int .i64 ((rd_T32 l0_1 x18_2).f2), .string ((rd_T32 l0_1 x18_2).f3), .slice A678_4 ((rd_T32 l0_1 x18_2).f4).length c678_4, .slice A678_5 ((rd_T32 l0_1 x18_2).f5).length c678_5, .slice A678_6 ((rd_T32 l0_1 x18_2).f6).length c678_6] 32 (0, 0)) (by exact bk BK679) hb)
           have n2_ := zq9 (zq27 (by exact b2 HB GE676 GE679) hb)
           clear BK676; clear BK679; clear HB; have BK676 := n0_; have BK679 := n1_; have HB := n2_; clear n0_ n1_ n2_
           (try clear hb)
           (try clear hb2)
           (try clear hk)
           (try clear hi)
           refine hK.out _ _ ⟨bc BK679 0, bc BK679 1, bc BK679 2, bc BK679 3, bc BK679 4, bc BK679 5, bc BK679 6⟩ (fun hHeld => ?_)
           clear hK K
           refine norm_ (a' := ?_) ?_ ?_
           rotate_left; ·show Act.put _ (some 24) _ = _; simp only [Act.put, zq0, zq1, zq2, i64_w, i32_w]; rfl
           refine pa HT_ 2 25 (zb 31 7) ?_; refine pa HT_ 3 26 (zb 31 15) ?_; refine pb HT_ 4 27 (zb 31 31) ?_; refine pb HT_ 5 28 (zb 31 63) ?_; refine pb HT_ 6 29 (zb 31 127) ?_; refine pb HT_ 7 30 (zb 31 255) ?_; refine pb HT_ 8 31 (zb 31 511) ?_; refine pb HT_ 9 32 (zb 31 1023) ?_; refine pb HT_ 10 33 (zb 31 2047) ?_; refine pb HT_ 11 34 (zb 31 4095) ?_; refine pb HT_ 12 35 (zb 31 8191) ?_; refine pb HT_ 13 36 (zb 31 16383) ?_
           refine pb HT_ 14 37 (zb 31 32767) ?_; refine pb HT_ 15 38 (zb 31 65535) ?_; refine pb HT_ 16 39 (zb 31 131071) ?_; refine pb HT_ 17 40 (zb 31 262143) ?_; refine pa HT_ 18 41 (zb 31 524287) ?_; refine pa HT_ 19 42 (zb 31 1048575) ?_; refine pb HT_ 20 43 (zb 31 2097151) ?_; refine pb HT_ 21 44 (zb 31 4194303) ?_; refine pb HT_ 22 45 (zb 31 8388607) ?_; refine pb HT_ 23 46 (zb 31 16777215) ?_
           refine pb HT_ 24 47 (zb 31 33554431) ?_; refine pb HT_ 25 48 (zb 31 67108863) ?_; refine pb HT_ 26 49 (zb 31 134217727) ?_; refine pb HT_ 27 50 (zb 31 268435455) ?_; refine pb HT_ 28 51 (zb 31 536870911) ?_; refine pb HT_ 29 52 (zb 31 1073741823) ?_; refine pa HT_ 30 53 (zb 31 2147483647) ?_
           refine done_ (done_of HT_.out (by kernel_rfl)) ?_
           try go_wp2
           go_meet
           case rel => exact ⟨_, (true), (by first | rfl | (simp; done) | (simp [*]; done)), H', ⟨by have := HJ1.out; have := HK2.out; first | omega | exact Nat.le_refl _⟩, ⟨by refine bp ?_; exact BK676.out⟩, ⟨by refine bp ?_; exact BK679.out⟩, ⟨by exact b2 HB GE676 GE679⟩⟩
         case rest =>
          clear HC13
          try clear c1
          try clear p2
          try clear c3
          try clear c6
          try clear c13
          try clear c18
          try clear c34
          try clear c34b0
          try clear c34b1
          obtain ⟨kq, x53_12, rfl, HA, HJ12, BK676, BK679, HB⟩ := hcut
          cases kq with
          | zero => exact absurd HA.out (by simp [impl_BaseOk.j2])
          | succ kj12 =>
           have H := HA.out; clear HA
           simp only [impl_BaseOk.j2] at H
           by_cases c44 : x53_12 = true
           ·subst c44
            have H1 : (some false) = some r := by rw [if_pos rfl] at H; exact H
            clear H; have H := H1; clear H1; obtain rfl := Option.some.inj H
            go_wp2
            go_ret
            exact fz (by exact b2 HB GE676 GE679)
           ·replace c44 := Bool.eq_false_iff.mpr c44
            subst c44
            have H1 : (impl_BaseOk.l0 kj12 l0_1 (l0_1.length : Int) (wrap64 (x18_2 + 1)) a0_0 l0_1) = some r := by rw [if_neg (show ¬ (false = true) by decide)] at H; exact H
            clear H; have H := H1; clear H1; have H' := zq9 H; clear H
            go_wp2
            go_roundg kj12
            case measure => have := HJ1.out; have := HK2.out; have := HJ12.out; omega
            case rel => exact ⟨(wrap64 (x18_2 + 1)), (by first | rfl | (simp; done) | (simp [*]; done)), H', ⟨by have := HJ1.out; have := HK2.out; have := HJ12.out; omega⟩, ⟨by refine bp ?_; exact BK676.out⟩, ⟨by exact b2 HB GE676 GE679⟩⟩
        ·rw [if_neg c12] at H
         exact absurd H (by simp)
       ·rw [if_neg c11] at H
        exact absurd H (by simp)
      ·rw [if_neg c10] at H; have c10b0 : decide (x18_2 < (l0_1.length : Int)) = false := decide_eq_false c10; clear c10; obtain rfl := Option.some.inj H
       go_wp2
       go_ret
       exact fz (by exact b1 HB GE676)
set_option maxHeartbeats 400000 in
theorem impl_Base_at.calls_lit (x0 : ByteArray) (x1 x2 : Int) (x3 : ByteArray) (A4 : Option Addr) (n4 c4 : Nat) (A5 : Option Addr) (n5 c5 : Nat) (A6 : Option Addr) (n6 c6 : Nat) (t : ByteArray) (B : Nat) (w : World) (hB : w.cell? ⟨B, 0, none⟩ = some (.string t)) :
    Calls Try.prog 100 #[.agg #[.string x0, .int .i64 x1, .int .i64 x2, .string x3, .slice A4 n4 c4, .slice A5 n5 c5, .slice A6 n6 c6], .pointer (some ⟨B, 0, none⟩)] w fun e w' => e = .returned (.bool (x0.toList == t.toList)) ∧ Below w.heap.size w w' := by
  have hlt := zq8 w ⟨B, 0, none⟩ hB
  go_enter Try.func100, Try.ntmps100
  go_wp2
  go_ret
  exact ⟨rfl, (Below.refl _ _).alloc (Nat.le_refl _) _⟩
theorem impl_Base_at.hit (t : ByteArray) (l : List S32) (i : Nat) (h : i < l.length) (he : (l[i].f0.toList == t.toList) = true) : impl_Base_at.from t (l.drop i) i = i := by
  rw [List.drop_eq_getElem_cons h, impl_Base_at.from, if_pos (by simpa using he)]
theorem impl_Base_at.step (t : ByteArray) (l : List S32) (i : Nat) (h : i < l.length) (he : (l[i].f0.toList == t.toList) = false) : impl_Base_at.from t (l.drop i) i = impl_Base_at.from t (l.drop (i + 1)) (i + 1) := by
  rw [List.drop_eq_getElem_cons h, impl_Base_at.from, if_neg (by simpa using he)]
set_option maxHeartbeats 4000000 in
set_option maxRecDepth 100000 in
theorem impl_Base_at.finds (A0 : Option Addr) (c0 : Nat) (l0 : List S32) (t : ByteArray) (B : Nat) (w : World) (hr0 : Kd.C k32 w A0 l0.length l0) (hB : w.cell? ⟨B, 0, none⟩ = some (.string t)) :
    Calls Try.prog 99 #[.slice A0 l0.length c0, .func (.func 100) #[] #[.pointer (some ⟨B, 0, none⟩)]] w fun e w' => e = .returned (.int .i64 (impl_Base_at.from t l0 0)) ∧ Below w.heap.size w w' := by
  have hlt := zq8 w ⟨B, 0, none⟩ hB
  have hbig : l0.length ≤ 9223372036854775807 := hr0.2.1
  have HR0 := zq9 hr0; clear hr0
  go_enter Try.func99, Try.ntmps99
  go_wp2
  go_loopg [5, 8] l0.length (fun gg _ s8 wr => ∃ kk : Nat, kk ≤ l0.length ∧ l0.length - kk ≤ gg ∧ s8 = .int .i64 kk ∧ Aside0 (Below w.heap.size w wr) ∧ Aside0 (impl_Base_at.from t (l0.drop kk) kk = impl_Base_at.from t l0 0))
  case atStart => exact ⟨0, Nat.zero_le _, by omega, rfl, ⟨Below.refl _ w⟩, ⟨rfl⟩⟩
  case round =>
    obtain ⟨kk, hkk, hg, rfl, BW, A⟩ := hrel
    by_cases hlt2 : kk < l0.length
    · have hltz : (kk : Int) < (l0.length : Int) := by omega
      have hel : rd_T32 l0 (kk : Int) = l0[kk] := by simp [rd_T32, List.getD_eq_getElem?_getD, hlt2]
      obtain ⟨ad, A4, c4, A5, c5, A6, c6, e0, hx0, hx1, hx2, hx3, hx4, hx5, hx6, _, _, _, _, _, _⟩ := at_T32 (zq31 HR0.out BW.out) (kk : Int) (by omega) (by omega)
      cases e0
      simp only [Int.toNat_natCast] at hx0 hx1 hx2 hx3 hx4 hx5 hx6
      have hcall := impl_Base_at.calls_lit (rd_T32 l0 kk).f0 (rd_T32 l0 kk).f1 (rd_T32 l0 kk).f2 (rd_T32 l0 kk).f3 A4 (rd_T32 l0 kk).f4.length c4 A5 (rd_T32 l0 kk).f5.length c5 A6 (rd_T32 l0 kk).f6.length c6 t B wr ((BW.out.cell (p := ⟨B, 0, none⟩) hlt).trans hB)
      cases hq : ((rd_T32 l0 (kk : Int)).f0.toList == t.toList) with
      | true =>
        rw [hq] at hcall
        have HIT := zq9 (impl_Base_at.hit t l0 kk hlt2 (by rw [← hel]; exact hq))
        clear hq hel
        go_wp2_with (refine hcall.mono ?_; rintro e w' ⟨rfl, hb'⟩)
        go_ret
        exact ⟨congrArg (fun z => Ending.returned (.int .i64 z)) (HIT.out.symm.trans A.out), BW.out.trans (hb'.mono BW.out.size)⟩
      | false =>
        rw [hq] at hcall
        have MISS := zq9 (impl_Base_at.step t l0 kk hlt2 (by rw [← hel]; exact hq))
        clear hq hel
        go_wp2_with (refine hcall.mono ?_; rintro e w' ⟨rfl, hb'⟩)
        go_roundg (l0.length - (kk + 1))
        case measure => omega
        case rel => exact ⟨kk + 1, by omega, by omega, by go_num, ⟨BW.out.trans (hb'.mono BW.out.size)⟩, ⟨by rw [← MISS.out]; exact A.out⟩⟩
    · have hltz : ¬ (kk : Int) < (l0.length : Int) := by omega
      obtain rfl : kk = l0.length := by omega
      go_wp2
      go_ret
      have e1 := A.out
      rw [List.drop_of_length_le (Nat.le_refl _)] at e1
      exact ⟨congrArg (fun z => Ending.returned (.int .i64 z)) e1, BW.out⟩
set_option maxHeartbeats 4000000 in
theorem impl_Base_at.calls (a0_0 : Int) (A0 : Option Addr) (c0 : Nat) (l0 : List S32) (a1 : ByteArray) (r : Int) (w : World) (hr0 : Kd.C k32 w A0 l0.length l0) (hc0 : l0.length ≤ c0) (h : impl_Base_at.f a0_0 l0 a1 = some r) :
    Calls Try.prog 67 #[.agg #[.int .i64 a0_0, .slice A0 l0.length c0], .string a1] w fun e w' => e = .returned (.int .i64 r) ∧ Below w.heap.size w w' := by
  obtain rfl := Option.some.inj h
  have hu := Try.underlying46
  have HF := fun w1 g (hb : Below w.heap.size w w1) => impl_Base_at.finds A0 c0 l0 a1 g w1 (zq31 hr0 hb)
  clear hr0
  go_enter Try.func67, Try.ntmps67
  go_wp2_with fail
  refine (HF _ _ (((Below.refl w.heap.size w).alloc (Nat.le_refl _) _).alloc (by simp) _) (by simp)).mono ?_
  rintro e w' ⟨rfl, hb⟩
  go_wp2
  go_ret
  exact ⟨rfl, (((Below.refl _ _).alloc (Nat.le_refl _) _).alloc (by simp) _).trans (hb.mono (by simp; omega))⟩
set_option maxHeartbeats 8000000 in
set_option maxRecDepth 100000 in
theorem impl_copied.calls (A0 : Option Addr) (c0 : Nat) (l0 : List ByteArray) (r : List ByteArray) (w : World) (hr0 : Kd.C Kd.string w A0 l0.length l0) (hc0 : l0.length ≤ c0) (h : impl_copied.f l0 = some r) :
    Calls Try.prog 101 #[.slice A0 l0.length c0] w fun e w' => ∃ v0_ : Value, e = .returned (v0_) ∧ Kd.R Kd.string 9 w' w.heap.size (fun _ => True) v0_ r ∧ Below w.heap.size w w' := by
  have HR0 := zq9 hr0; have HC0 := zq9 hc0; clear hr0 hc0
  have HB := zq9 (Below.refl w.heap.size w)
  have H : ((some (([] : List ByteArray) : List ByteArray)).bind fun y863 => (if y863.length + l0.length < 8796093022208 then (some (y863 ++ l0)) else (none))) = some r := h
  clear h
  obtain ⟨y863, hy863⟩ : ∃ y_ : List ByteArray, y_ = (([] : List ByteArray)) := ⟨_, rfl⟩
  replace H : (if y863.length + l0.length < 8796093022208 then (some (y863 ++ l0)) else (none)) = some r := by first | (rw [hy863]; with_reducible exact H) | (have H2_ := (Option.bind_some _ _).symm.trans H; rw [hy863]; with_reducible exact H2_) | (have H2_ := (Option.bind_some _ _).symm.trans H; with_reducible exact H2_) | with_reducible exact H | (rw [hy863]; exact H) | exact H
  have Ny863 := zq9 hy863; clear hy863
  by_cases c2 : y863.length + l0.length < 8796093022208
  · rw [if_pos c2] at H; have LMc2 := zq9 c2; clear c2
    obtain ⟨y866, hy866⟩ : ∃ y_ : List ByteArray, y_ = (y863 ++ l0) := ⟨_, rfl⟩
    replace H : (some y866) = some r := by first | (rw [hy866]; with_reducible exact H) | (have H2_ := (Option.bind_some _ _).symm.trans H; rw [hy866]; with_reducible exact H2_) | (have H2_ := (Option.bind_some _ _).symm.trans H; with_reducible exact H2_) | with_reducible exact H | (rw [hy866]; exact H) | exact H
    have Ny866 := zq9 hy866; clear hy866; obtain rfl := Option.some.inj H
    go_enter Try.func101, Try.ntmps101
    go_wp2_with (first | ((with_reducible refine zq25 (N := 3) rfl ?_); refine Kd.R_lit Kd.string _ 9 ?hg (N := 3) ?hd (xs := ([] : List ByteArray)) (inner := []) (ok := fun _ => True) (okp := fun _ => True) ?hr ?hp (fun _ hk => hk) trivial (Below.refl _ _) (Nat.le_refl _) (by simp) ?_; (case hd => rfl); (case hg => rfl); (case hr => first | (go_simp; done) | (go_simp; rfl)); (case hp => exact (Reps.none _ _)); intro v864 w3 ho4 hb hg_ hnew_; clear hg_ hnew_; (first | rw [← Ny863.out] at ho4 | (simp only [Int.reduceToNat] at ho4; rw [← Ny863.out] at ho4)); have n0_ := zq9 (Kd.R_lower ho4 (zq29 (by exact bl HB))); have n1_ := zq9 (zq27 (by exact bl HB) hb); clear HB; have HO865 := n0_; have HB := n1_; clear n0_ n1_; clear hb ho4) | ((with_reducible refine gate_builtin (b := .append) (xs := #[.tmp 3, .tmp 4]) rfl ?_); at_builtin; refine Kd.R_append_rows Kd.string (w0 := w) w.heap.size rfl (.tmp 3) (.tmp 4) 22 9 (.string ⟨#[]⟩) 16 rfl Try.underlying22 info9 rfl (by decide) (by omega) v864 y863 l0 _ _ _ (fun _ => True) (fun _ => False) rfl rfl ?aO ?aR (fun _ _ h => h) (fun _ h => h.elim) ?aF ?aB ?aS ?aL ?_; (case aR => exact kc HR0 HB); (case aB => exact (by exact bl HB)); (case aF => exact (fun _ _ => trivial)); (case aO => exact (by exact rz HO865)); (case aS => exact (zq29 (by exact bl HB))); (case aL => have := LMc2.out; omega); intro v867 w5 ho hb hg hat; rw [← Ny866.out] at ho; have n0_ := zq9 (hb); have n1_ := zq9 (ho); clear HB; clear HO865; have HB := n0_; have HO868 := n1_; clear n0_ n1_; clear ho hb hg hat))
    go_ret
    exact ⟨_, by first | rfl | (simp [errW_none, errW_some] <;> rfl) | (simp [*, errW_none, errW_some] <;> rfl), by (with_reducible repeat (first | apply zq10 | apply zq11 | apply zq12)); exact HO868.out, by exact bl HB⟩
  · rw [if_neg c2] at H
    exact absurd H (by simp)
set_option maxHeartbeats 8000000 in
set_option maxRecDepth 100000 in
theorem impl_copiedScores.calls (A0 : Option Addr) (c0 : Nat) (l0 : List (S99)) (r : List (S99)) (w : World) (hr0 : Kd.C k99 w A0 l0.length l0) (hc0 : l0.length ≤ c0) (h : impl_copiedScores.f l0 = some r) :
    Calls Try.prog 102 #[.slice A0 l0.length c0] w fun e w' => ∃ v0_ : Value, e = .returned (v0_) ∧ Kd.R k99 99 w' w.heap.size (fun _ => True) v0_ r ∧ Below w.heap.size w w' := by
  have HR0 := zq9 hr0; have HC0 := zq9 hc0; clear hr0 hc0
  have HB := zq9 (Below.refl w.heap.size w)
  have H : ((some (([] : List (S99)) : List (S99))).bind fun y869 => (if y869.length + l0.length < 5864062014805 then (some (y869 ++ l0)) else (none))) = some r := h
  clear h
  obtain ⟨y869, hy869⟩ : ∃ y_ : List (S99), y_ = (([] : List (S99))) := ⟨_, rfl⟩
  replace H : (if y869.length + l0.length < 5864062014805 then (some (y869 ++ l0)) else (none)) = some r := by first | (rw [hy869]; with_reducible exact H) | (have H2_ := (Option.bind_some _ _).symm.trans H; rw [hy869]; with_reducible exact H2_) | (have H2_ := (Option.bind_some _ _).symm.trans H; with_reducible exact H2_) | with_reducible exact H | (rw [hy869]; exact H) | exact H
  have Ny869 := zq9 hy869; clear hy869
  by_cases c2 : y869.length + l0.length < 5864062014805
  · rw [if_pos c2] at H; have LMc2 := zq9 c2; clear c2
    obtain ⟨y872, hy872⟩ : ∃ y_ : List (S99), y_ = (y869 ++ l0) := ⟨_, rfl⟩
    replace H : (some y872) = some r := by first | (rw [hy872]; with_reducible exact H) | (have H2_ := (Option.bind_some _ _).symm.trans H; rw [hy872]; with_reducible exact H2_) | (have H2_ := (Option.bind_some _ _).symm.trans H; with_reducible exact H2_) | with_reducible exact H | (rw [hy872]; exact H) | exact H
    have Ny872 := zq9 hy872; clear hy872; obtain rfl := Option.some.inj H
    go_enter Try.func102, Try.ntmps102
    go_wp2_with (first | ((with_reducible refine zq25 (N := 3) rfl ?_); refine Kd.R_lit k99 _ 99 ?hg (N := 3) ?hd (xs := ([] : List (S99))) (inner := []) (ok := fun _ => True) (okp := fun _ => True) ?hr ?hp (fun _ hk => hk) trivial (Below.refl _ _) (Nat.le_refl _) (by simp) ?_; (case hd => rfl); (case hg => rfl); (case hr => first | (go_simp; done) | (go_simp; rfl)); (case hp => exact (Reps.none _ _)); intro v870 w3 ho4 hb hg_ hnew_; clear hg_ hnew_; (first | rw [← Ny869.out] at ho4 | (simp only [Int.reduceToNat] at ho4; rw [← Ny869.out] at ho4)); have n0_ := zq9 (Kd.R_lower ho4 (zq29 (by exact bl HB))); have n1_ := zq9 (zq27 (by exact bl HB) hb); clear HB; have HO871 := n0_; have HB := n1_; clear n0_ n1_; clear hb ho4) | ((with_reducible refine gate_builtin (b := .append) (xs := #[.tmp 3, .tmp 4]) rfl ?_); at_builtin; refine Kd.R_append_rows k99 (w0 := w) w.heap.size rfl (.tmp 3) (.tmp 4) 29 99 (.agg #[(.string ⟨#[]⟩), (.int .i64 0)]) 24 rfl Try.underlying29 info99 rfl (by decide) (by omega) v870 y869 l0 _ _ _ (fun _ => True) (fun _ => False) rfl rfl ?aO ?aR (fun _ _ h => h) (fun _ h => h.elim) ?aF ?aB ?aS ?aL ?_; (case aR => exact kc HR0 HB); (case aB => exact (by exact bl HB)); (case aF => exact (fun _ _ => trivial)); (case aO => exact (by exact rz HO871)); (case aS => exact (zq29 (by exact bl HB))); (case aL => have := LMc2.out; omega); intro v873 w5 ho hb hg hat; rw [← Ny872.out] at ho; have n0_ := zq9 (hb); have n1_ := zq9 (ho); clear HB; clear HO871; have HB := n0_; have HO874 := n1_; clear n0_ n1_; clear ho hb hg hat))
    go_ret
    exact ⟨_, by first | rfl | (simp [errW_none, errW_some] <;> rfl) | (simp [*, errW_none, errW_some] <;> rfl), by (with_reducible repeat (first | apply zq10 | apply zq11 | apply zq12)); exact HO874.out, by exact bl HB⟩
  · rw [if_neg c2] at H
    exact absurd H (by simp)
set_option maxHeartbeats 8000000 in
set_option maxRecDepth 100000 in
theorem impl_copiedPairs.calls (A0 : Option Addr) (c0 : Nat) (l0 : List (S101)) (r : List (S101)) (w : World) (hr0 : Kd.C k101 w A0 l0.length l0) (hc0 : l0.length ≤ c0) (h : impl_copiedPairs.f l0 = some r) :
    Calls Try.prog 103 #[.slice A0 l0.length c0] w fun e w' => ∃ v0_ : Value, e = .returned (v0_) ∧ Kd.R k101 101 w' w.heap.size (fun _ => True) v0_ r ∧ Below w.heap.size w w' := by
  have HR0 := zq9 hr0; have HC0 := zq9 hc0; clear hr0 hc0
  have HB := zq9 (Below.refl w.heap.size w)
  have H : ((some (([] : List (S101)) : List (S101))).bind fun y875 => (if y875.length + l0.length < 4398046511104 then (some (y875 ++ l0)) else (none))) = some r := h
  clear h
  obtain ⟨y875, hy875⟩ : ∃ y_ : List (S101), y_ = (([] : List (S101))) := ⟨_, rfl⟩
  replace H : (if y875.length + l0.length < 4398046511104 then (some (y875 ++ l0)) else (none)) = some r := by first | (rw [hy875]; with_reducible exact H) | (have H2_ := (Option.bind_some _ _).symm.trans H; rw [hy875]; with_reducible exact H2_) | (have H2_ := (Option.bind_some _ _).symm.trans H; with_reducible exact H2_) | with_reducible exact H | (rw [hy875]; exact H) | exact H
  have Ny875 := zq9 hy875; clear hy875
  by_cases c2 : y875.length + l0.length < 4398046511104
  · rw [if_pos c2] at H; have LMc2 := zq9 c2; clear c2
    obtain ⟨y878, hy878⟩ : ∃ y_ : List (S101), y_ = (y875 ++ l0) := ⟨_, rfl⟩
    replace H : (some y878) = some r := by first | (rw [hy878]; with_reducible exact H) | (have H2_ := (Option.bind_some _ _).symm.trans H; rw [hy878]; with_reducible exact H2_) | (have H2_ := (Option.bind_some _ _).symm.trans H; with_reducible exact H2_) | with_reducible exact H | (rw [hy878]; exact H) | exact H
    have Ny878 := zq9 hy878; clear hy878; obtain rfl := Option.some.inj H
    go_enter Try.func103, Try.ntmps103
    go_wp2_with (first | ((with_reducible refine zq25 (N := 3) rfl ?_); refine Kd.R_lit k101 _ 101 ?hg (N := 3) ?hd (xs := ([] : List (S101))) (inner := []) (ok := fun _ => True) (okp := fun _ => True) ?hr ?hp (fun _ hk => hk) trivial (Below.refl _ _) (Nat.le_refl _) (by simp) ?_; (case hd => rfl); (case hg => rfl); (case hr => first | (go_simp; done) | (go_simp; rfl)); (case hp => exact (Reps.none _ _)); intro v876 w3 ho4 hb hg_ hnew_; clear hg_ hnew_; (first | rw [← Ny875.out] at ho4 | (simp only [Int.reduceToNat] at ho4; rw [← Ny875.out] at ho4)); have n0_ := zq9 (Kd.R_lower ho4 (zq29 (by exact bl HB))); have n1_ := zq9 (zq27 (by exact bl HB) hb); clear HB; have HO877 := n0_; have HB := n1_; clear n0_ n1_; clear hb ho4) | ((with_reducible refine gate_builtin (b := .append) (xs := #[.tmp 3, .tmp 4]) rfl ?_); at_builtin; refine Kd.R_append_rows k101 (w0 := w) w.heap.size rfl (.tmp 3) (.tmp 4) 30 101 (.agg #[(.string ⟨#[]⟩), (.string ⟨#[]⟩)]) 32 rfl Try.underlying30 info101 rfl (by decide) (by omega) v876 y875 l0 _ _ _ (fun _ => True) (fun _ => False) rfl rfl ?aO ?aR (fun _ _ h => h) (fun _ h => h.elim) ?aF ?aB ?aS ?aL ?_; (case aR => exact kc HR0 HB); (case aB => exact (by exact bl HB)); (case aF => exact (fun _ _ => trivial)); (case aO => exact (by exact rz HO877)); (case aS => exact (zq29 (by exact bl HB))); (case aL => have := LMc2.out; omega); intro v879 w5 ho hb hg hat; rw [← Ny878.out] at ho; have n0_ := zq9 (hb); have n1_ := zq9 (ho); clear HB; clear HO877; have HB := n0_; have HO880 := n1_; clear n0_ n1_; clear ho hb hg hat))
    go_ret
    exact ⟨_, by first | rfl | (simp [errW_none, errW_some] <;> rfl) | (simp [*, errW_none, errW_some] <;> rfl), by (with_reducible repeat (first | apply zq10 | apply zq11 | apply zq12)); exact HO880.out, by exact bl HB⟩
  · rw [if_neg c2] at H
    exact absurd H (by simp)
set_option maxHeartbeats 8000000 in
set_option maxRecDepth 100000 in
theorem impl_cloneEntry.calls (a0_0 : ByteArray) (a0_1 : Int) (a0_2 : Int) (a0_3 : ByteArray) (A0_4 : Option Addr) (c0_4 : Nat) (l0_4 : List ByteArray) (A0_5 : Option Addr) (c0_5 : Nat) (l0_5 : List (S99)) (A0_6 : Option Addr) (c0_6 : Nat) (l0_6 : List (S101)) (r1 : ByteArray) (r2 : Int) (r3 : Int) (r4 : ByteArray) (r5 : List ByteArray) (r6 : List (S99)) (r7 : List (S101)) (w : World) (hr0_4 : Kd.C Kd.string w A0_4 l0_4.length l0_4) (hc0_4 : l0_4.length ≤ c0_4) (hr0_5 : Kd.C k99 w A0_5 l0_5.length l0_5) (hc0_5 : l0_5.length ≤ c0_5) (hr0_6 : Kd.C k101 w A0_6 l0_6.length l0_6) (hc0_6 : l0_6.length ≤ c0_6) (h : impl_cloneEntry.f a0_0 a0_1 a0_2 a0_3 l0_4 l0_5 l0_6 = some (r1, r2, r3, r4, r5, r6, r7)) :
    Calls Try.prog 68 #[.agg #[.string a0_0, .int .i64 a0_1, .int .i64 a0_2, .string a0_3, .slice A0_4 l0_4.length c0_4, .slice A0_5 l0_5.length c0_5, .slice A0_6 l0_6.length c0_6]] w fun e w' => ∃ v4_ v5_ v6_ : Value, e = .returned (.agg #[.string r1, .int .i64 r2, .int .i64 r3, .string r4, v4_, v5_, v6_]) ∧ Kd.R Kd.string 9 w' w.heap.size (fun _ => True) v4_ r5 ∧ Kd.R k99 99 w' w.heap.size (fun _ => True) v5_ r6 ∧ Kd.R k101 101 w' w.heap.size (fun _ => True) v6_ r7 ∧ Below w.heap.size w w' := by
  have hu32 := Try.underlying32; have HR0_4 := zq9 hr0_4; have HC0_4 := zq9 hc0_4; clear hr0_4 hc0_4; have HR0_5 := zq9 hr0_5; have HC0_5 := zq9 hc0_5; clear hr0_5 hc0_5; have HR0_6 := zq9 hr0_6; have HC0_6 := zq9 hc0_6; clear hr0_6 hc0_6
  have HB := zq9 (Below.refl w.heap.size w)
  have H : ((impl_copied.f l0_4).bind fun t883 => ((impl_copiedScores.f l0_5).bind fun t886 => ((impl_copiedPairs.f l0_6).bind fun t889 => (some (a0_0, a0_1, a0_2, a0_3, t883, t886, t889))))) = some (r1, r2, r3, r4, r5, r6, r7) := h
  clear h; replace H := Option.bind_eq_some_iff.mp H; obtain ⟨t883, A20, H⟩ := H
  try dsimp only at H
  have A2 := zq9 A20; clear A20; replace H := Option.bind_eq_some_iff.mp H; obtain ⟨t886, A30, H⟩ := H
  try dsimp only at H
  have A3 := zq9 A30; clear A30; replace H := Option.bind_eq_some_iff.mp H; obtain ⟨t889, A40, H⟩ := H
  try dsimp only at H
  have A4 := zq9 A40; clear A40
  simp only [Option.some.injEq, Prod.mk.injEq] at H
  obtain ⟨rfl, rfl, rfl, rfl, rfl, rfl, rfl⟩ := H
  go_enter Try.func68, Try.ntmps68
  go_wp2_with (first | ((with_reducible refine zq25 (N := 1) rfl ?_); refine bx 1 #[.string a0_0, .int .i64 a0_1, .int .i64 a0_2, .string a0_3, .slice A0_4 l0_4.length c0_4, .slice A0_5 l0_5.length c0_5, .slice A0_6 l0_6.length c0_6] 32 ?_; intro gb881 hg w5 hbox hb; have n0_ := zq9 (zq27 (by exact bl HB) hb); have n1_ := zq9 (hbox); have n2_ := zq9 ((by rw [hg]; exact (zq29 (by exact bl HB)) : w.heap.size ≤ gb881)); have n3_ := n2_; clear HB; have HB := n0_; have BK881 := n1_; have GW881 := n2_; have GE881 := n3_; clear n0_ n1_ n2_ n3_; clear hb hbox hg) | ((with_reducible refine zq25 (N := 2) rfl ?_); refine bx 2 #[.string (⟨#[]⟩ : ByteArray), .int .i64 0, .int .i64 0, .string (⟨#[]⟩ : ByteArray), .slice none 0 0, .slice none 0 0, .slice none 0 0] 32 ?_; intro gb882 hg w6 hbox hb; have n0_ := zq9 (zq30 (g := gb881) (o := .cells #[.string a0_0, .int .i64 a0_1, .int .i64 a0_2, .string a0_3, .slice A0_4 l0_4.length c0_4, .slice A0_5 l0_5.length c0_5, .slice A0_6 l0_6.length c0_6] 32 (0, 0)) (by exact bk BK881) hb); have n1_ := zq9 (zq27 (by exact b1 HB GE881) hb); have n2_ := zq9 (hbox); have n3_ := zq9 ((by rw [hg]; exact (zq29 (by exact b1 HB GE881)) : w.heap.size ≤ gb882)); have n4_ := n3_; have n5_ := zq9 ((by rw [hg]; exact Nat.ne_of_lt (blk_lt (g := gb881) (o := .cells #[.string a0_0, .int .i64 a0_1, .int .i64 a0_2, .string a0_3, .slice A0_4 l0_4.length c0_4, .slice A0_5 l0_5.length c0_5, .slice A0_6 l0_6.length c0_6] 32 (0, 0)) (by exact bk BK881)) : gb881 ≠ gb882)); have n6_ := zq9 ((by rw [hg]; exact Nat.ne_of_gt (blk_lt (g := gb881) (o := .cells #[.string a0_0, .int .i64 a0_1, .int .i64 a0_2, .string a0_3, .slice A0_4 l0_4.length c0_4, .slice A0_5 l0_5.length c0_5, .slice A0_6 l0_6.length c0_6] 32 (0, 0)) (by exact bk BK881)) : gb882 ≠ gb881)); clear BK881; clear HB; have BK881 := n0_; have HB := n1_; have BK882 := n2_; have GW882 := n3_; have GE882 := n4_; have NB881_882 := n5_; have NB882_881 := n6_; clear n0_ n1_ n2_ n3_ n4_ n5_ n6_; clear hb hbox hg; have hnb7 := NB881_882.out; have hnc7 := NB882_881.out; have hcz8_0 : w6.cell? ⟨gb881, 0, none⟩ = some (.string a0_0) := bc BK881 0; have hcz8_1 : w6.cell? ⟨gb881, 1, none⟩ = some (.int .i64 a0_1) := bc BK881 1; have hcz8_2 : w6.cell? ⟨gb881, 2, none⟩ = some (.int .i64 a0_2) := bc BK881 2; have hcz8_3 : w6.cell? ⟨gb881, 3, none⟩ = some (.string a0_3) := bc BK881 3; have hcz8_4 : w6.cell? ⟨gb881, 4, none⟩ = some (.slice A0_4 l0_4.length c0_4) := bc BK881 4; have hcz8_5 : w6.cell? ⟨gb881, 5, none⟩ = some (.slice A0_5 l0_5.length c0_5) := bc BK881 5; have hcz8_6 : w6.cell? ⟨gb881, 6, none⟩ = some (.slice A0_6 l0_6.length c0_6) := bc BK881 6; have hfz8_0 := zq6 BK881.out 0; have hfz8_1 := zq6 BK881.out 1; have hfz8_2 := zq6 BK881.out 2; have hfz8_3 := zq6 BK881.out 3; have hfz8_4 := zq6 BK881.out 4; have hfz8_5 := zq6 BK881.out 5; have hfz8_6 := zq6 BK881.out 6) | ((with_reducible refine zq24 (f := 101) rfl ?_); refine gl (some 5) Try.func101 #[.slice A0_4 l0_4.length c0_4] ?_; (with_reducible refine (impl_copied.calls _ _ l0_4 t883 _ ?side1 ?side2 A2.out).mono ?_); (case side1 => exact kc HR0_4 HB); (case side2 => exact HC0_4.out); rintro e w9 ⟨v884, rfl, ho0, hb⟩; refine ⟨_, rfl, ?_⟩; have n0_ := zq9 (Kd.R_lower ho0 (zq29 (by exact b2 HB GE881 GE882))); have n1_ := zq9 (zq30 (g := gb881) (o := .cells #[.string a0_0, .int .i64 a0_1, .int .i64 a0_2, .string a0_3, .slice A0_4 l0_4.length c0_4, .slice A0_5 l0_5.length c0_5, .slice A0_6 l0_6.length c0_6] 32 (0, 0)) (by exact bk BK881) hb); have n2_ := zq9 (zq30 (g := gb882) (o := .cells #[.string (⟨#[]⟩ : ByteArray), .int .i64 0, .int .i64 0, .string (⟨#[]⟩ : ByteArray), .slice none 0 0, .slice none 0 0, .slice none 0 0] 32 (0, 0)) (by exact bk BK882) hb); have n3_ := zq9 (zq27 (by exact b2 HB GE881 GE882) hb); clear BK881; clear BK882; clear HB; have HO885 := n0_; have BK881 := n1_; have BK882 := n2_; have HB := n3_; clear n0_ n1_ n2_ n3_; (try clear hb); (try clear hb2); (try clear hk); (try clear hi); (try clear ho0); obtain ⟨Ao10, co10, eo10⟩ := Kd.R_slice HO885.out; subst eo10; have hcz11_0 : w9.cell? ⟨gb881, 0, none⟩ = some (.string a0_0) := bc BK881 0; have hcz11_1 : w9.cell? ⟨gb881, 1, none⟩ = some (.int .i64 a0_1) := bc BK881 1; have hcz11_2 : w9.cell? ⟨gb881, 2, none⟩ = some (.int .i64 a0_2) := bc BK881 2; have hcz11_3 : w9.cell? ⟨gb881, 3, none⟩ = some (.string a0_3) := bc BK881 3; have hcz11_4 : w9.cell? ⟨gb881, 4, none⟩ = some (.slice A0_4 l0_4.length c0_4) := bc BK881 4; have hcz11_5 : w9.cell? ⟨gb881, 5, none⟩ = some (.slice A0_5 l0_5.length c0_5) := bc BK881 5; have hcz11_6 : w9.cell? ⟨gb881, 6, none⟩ = some (.slice A0_6 l0_6.length c0_6) := bc BK881 6; have hfz11_0 := zq6 BK881.out 0; have hfz11_1 := zq6 BK881.out 1; have hfz11_2 := zq6 BK881.out 2; have hfz11_3 := zq6 BK881.out 3; have hfz11_4 := zq6 BK881.out 4; have hfz11_5 := zq6 BK881.out 5; have hfz11_6 := zq6 BK881.out 6) | ((with_reducible refine zq24 (f := 102) rfl ?_); refine gl (some 9) Try.func102 #[.slice A0_5 l0_5.length c0_5] ?_; (with_reducible refine (impl_copiedScores.calls _ _ l0_5 t886 _ ?side1 ?side2 A3.out).mono ?_); (case side1 => exact zq31 HR0_5.out (by exact b2 HB GE881 GE882)); (case side2 => exact HC0_5.out); rintro e w12 ⟨v887, rfl, ho0, hb⟩; refine ⟨_, rfl, ?_⟩; have n0_ := zq9 (Kd.R_below (by (with_reducible repeat (first | apply zq10 | apply zq11 | apply zq12)); exact (Kd.R_mono (Kd.R_far (p := ⟨gb881, 4, none⟩) (Kd.R_types HO885.out BK881.out (by decide)) (fun _ hk => hk.2) (.slice Ao10 t883.length co10)) (fun _ h_ => h_.1))) hb); have n1_ := zq9 (Kd.R_lower ho0 (zq29 (by exact b2 HB GE881 GE882))); have n2_ := zq9 (zq30 (g := gb881) (o := .cells #[.string a0_0, .int .i64 a0_1, .int .i64 a0_2, .string a0_3, .slice Ao10 t883.length co10, .slice A0_5 l0_5.length c0_5, .slice A0_6 l0_6.length c0_6] 32 (0, 0)) (by refine bp ?_; refine blk_put (cs := #[.string a0_0, .int .i64 a0_1, .int .i64 a0_2, .string a0_3, .slice A0_4 l0_4.length c0_4, .slice A0_5 l0_5.length c0_5, .slice A0_6 l0_6.length c0_6]) ?_ 4 _ rfl; refine bp ?_; exact BK881.out) hb); have n3_ := zq9 (zq30 (g := gb882) (o := .cells #[.string (⟨#[]⟩ : ByteArray), .int .i64 0, .int .i64 0, .string (⟨#[]⟩ : ByteArray), .slice none 0 0, .slice none 0 0, .slice none 0 0] 32 (0, 0)) (by refine bp ?_; refine blk_far ?_ NB882_881.out _; refine bp ?_; exact BK882.out) hb); have n4_ := zq9 (zq27 (by exact b2 HB GE881 GE882) hb); clear HO885; clear BK881; clear BK882; clear HB; have HO885 := n0_; have HO888 := n1_; have BK881 := n2_; have BK882 := n3_; have HB := n4_; clear n0_ n1_ n2_ n3_ n4_; (try clear hb); (try clear hb2); (try clear hk); (try clear hi); (try clear ho0); obtain ⟨Ao13, co13, eo13⟩ := Kd.R_slice HO888.out; subst eo13; have hcz14_0 : w12.cell? ⟨gb881, 0, none⟩ = some (.string a0_0) := bc BK881 0; have hcz14_1 : w12.cell? ⟨gb881, 1, none⟩ = some (.int .i64 a0_1) := bc BK881 1; have hcz14_2 : w12.cell? ⟨gb881, 2, none⟩ = some (.int .i64 a0_2) := bc BK881 2; have hcz14_3 : w12.cell? ⟨gb881, 3, none⟩ = some (.string a0_3) := bc BK881 3; have hcz14_4 : w12.cell? ⟨gb881, 4, none⟩ = some (.slice Ao10 t883.length co10) := bc BK881 4; have hcz14_5 : w12.cell? ⟨gb881, 5, none⟩ = some (.slice A0_5 l0_5.length c0_5) := bc BK881 5; have hcz14_6 : w12.cell? ⟨gb881, 6, none⟩ = some (.slice A0_6 l0_6.length c0_6) := bc BK881 6; have hfz14_0 := zq6 BK881.out 0; have hfz14_1 := zq6 BK881.out 1; have hfz14_2 := zq6 BK881.out 2; have hfz14_3 := zq6 BK881.out 3; have hfz14_4 := zq6 BK881.out 4; have hfz14_5 := zq6 BK881.out 5; have hfz14_6 := zq6 BK881.out 6) | ((with_reducible refine zq24 (f := 103) rfl ?_); refine gl (some 13) Try.func103 #[.slice A0_6 l0_6.length c0_6] ?_; (with_reducible refine (impl_copiedPairs.calls _ _ l0_6 t889 _ ?side1 ?side2 A4.out).mono ?_); (case side1 => exact zq31 HR0_6.out (by exact b2 HB GE881 GE882)); (case side2 => exact HC0_6.out); rintro e w15 ⟨v890, rfl, ho0, hb⟩; refine ⟨_, rfl, ?_⟩; have n0_ := zq9 (Kd.R_below (by (with_reducible repeat (first | apply zq10 | apply zq11 | apply zq12)); exact (Kd.R_mono (Kd.R_far (p := ⟨gb881, 5, none⟩) (Kd.R_types HO885.out BK881.out (by decide)) (fun _ hk => hk.2) (.slice Ao13 t886.length co13)) (fun _ h_ => h_.1))) hb); have n1_ := zq9 (Kd.R_below (by (with_reducible repeat (first | apply zq10 | apply zq11 | apply zq12)); exact (Kd.R_mono (Kd.R_far (p := ⟨gb881, 5, none⟩) (Kd.R_types HO888.out BK881.out (by decide)) (fun _ hk => hk.2) (.slice Ao13 t886.length co13)) (fun _ h_ => h_.1))) hb); have n2_ := zq9 (Kd.R_lower ho0 (zq29 (by exact b2 HB GE881 GE882))); have n3_ := zq9 (zq30 (g := gb881) (o := .cells #[.string a0_0, .int .i64 a0_1, .int .i64 a0_2, .string a0_3, .slice Ao10 t883.length co10, .slice Ao13 t886.length co13, .slice A0_6 l0_6.length c0_6] 32 (0, 0)) (by refine bp ?_; refine blk_put (cs := #[.string a0_0, .int .i64 a0_1, .int .i64 a0_2, .string a0_3, .slice Ao10 t883.length co10, .slice A0_5 l0_5.length c0_5, .slice A0_6 l0_6.length c0_6]) ?_ 5 _ rfl; refine bp ?_; exact BK881.out) hb); have n4_ := zq9 (zq30 (g := gb882) (o := .cells #[.string (⟨#[]⟩ : ByteArray), .int .i64 0, .int .i64 0, .string (⟨#[]⟩ : ByteArray), .slice none 0 0, .slice none 0 0, .slice none 0 0] 32 (0, 0)) (by refine bp ?_; refine blk_far ?_ NB882_881.out _; refine bp ?_; exact BK882.out) hb); have n5_ := zq9 (zq27 (by exact b2 HB GE881 GE882) hb); clear HO885; clear HO888; clear BK881; clear BK882; clear HB; have HO885 := n0_; have HO888 := n1_; have HO891 := n2_; have BK881 := n3_; have BK882 := n4_; have HB := n5_; clear n0_ n1_ n2_ n3_ n4_ n5_; (try clear hb); (try clear hb2); (try clear hk); (try clear hi); (try clear ho0); obtain ⟨Ao16, co16, eo16⟩ := Kd.R_slice HO891.out; subst eo16; have hcz17_0 : w15.cell? ⟨gb881, 0, none⟩ = some (.string a0_0) := bc BK881 0; have hcz17_1 : w15.cell? ⟨gb881, 1, none⟩ = some (.int .i64 a0_1) := bc BK881 1; have hcz17_2 : w15.cell? ⟨gb881, 2, none⟩ = some (.int .i64 a0_2) := bc BK881 2; have hcz17_3 : w15.cell? ⟨gb881, 3, none⟩ = some (.string a0_3) := bc BK881 3; have hcz17_4 : w15.cell? ⟨gb881, 4, none⟩ = some (.slice Ao10 t883.length co10) := bc BK881 4; have hcz17_5 : w15.cell? ⟨gb881, 5, none⟩ = some (.slice Ao13 t886.length co13) := bc BK881 5; have hcz17_6 : w15.cell? ⟨gb881, 6, none⟩ = some (.slice A0_6 l0_6.length c0_6) := bc BK881 6; have hfz17_0 := zq6 BK881.out 0; have hfz17_1 := zq6 BK881.out 1; have hfz17_2 := zq6 BK881.out 2; have hfz17_3 := zq6 BK881.out 3; have hfz17_4 := zq6 BK881.out 4; have hfz17_5 := zq6 BK881.out 5; have hfz17_6 := zq6 BK881.out 6; have hcz18_0 : w15.cell? ⟨gb882, 0, none⟩ = some (.string (⟨#[]⟩ : ByteArray)) := bc BK882 0; have hcz18_1 : w15.cell? ⟨gb882, 1, none⟩ = some (.int .i64 0) := bc BK882 1; have hcz18_2 : w15.cell? ⟨gb882, 2, none⟩ = some (.int .i64 0) := bc BK882 2; have hcz18_3 : w15.cell? ⟨gb882, 3, none⟩ = some (.string (⟨#[]⟩ : ByteArray)) := bc BK882 3; have hcz18_4 : w15.cell? ⟨gb882, 4, none⟩ = some (.slice none 0 0) := bc BK882 4; have hcz18_5 : w15.cell? ⟨gb882, 5, none⟩ = some (.slice none 0 0) := bc BK882 5; have hcz18_6 : w15.cell? ⟨gb882, 6, none⟩ = some (.slice none 0 0) := bc BK882 6; have hfz18_0 := zq6 BK882.out 0; have hfz18_1 := zq6 BK882.out 1; have hfz18_2 := zq6 BK882.out 2; have hfz18_3 := zq6 BK882.out 3; have hfz18_4 := zq6 BK882.out 4; have hfz18_5 := zq6 BK882.out 5; have hfz18_6 := zq6 BK882.out 6))
  refine bodyPost_ret (results_cell_row rfl _ _ gb882 32 #[.string a0_0, .int .i64 a0_1, .int .i64 a0_2, .string a0_3, .slice Ao10 t883.length co10, .slice Ao13 t886.length co13, .slice Ao16 t889.length co16] (0, 0) _ rfl (by refine bp ?_; refine blk_put (cs := #[.string a0_0, .int .i64 a0_1, .int .i64 a0_2, .string a0_3, .slice Ao10 t883.length co10, .slice Ao13 t886.length co13, .slice none 0 0]) ?_ 6 _ rfl; refine bp ?_; refine blk_put (cs := #[.string a0_0, .int .i64 a0_1, .int .i64 a0_2, .string a0_3, .slice Ao10 t883.length co10, .slice none 0 0, .slice none 0 0]) ?_ 5 _ rfl; refine bp ?_; refine blk_put (cs := #[.string a0_0, .int .i64 a0_1, .int .i64 a0_2, .string a0_3, .slice none 0 0, .slice none 0 0, .slice none 0 0]) ?_ 4 _ rfl; refine bp ?_; refine blk_put (cs := #[.string a0_0, .int .i64 a0_1, .int .i64 a0_2, .string (⟨#[]⟩ : ByteArray), .slice none 0 0, .slice none 0 0, .slice none 0 0]) ?_ 3 _ rfl; refine bp ?_; refine blk_put (cs := #[.string a0_0, .int .i64 a0_1, .int .i64 0, .string (⟨#[]⟩ : ByteArray), .slice none 0 0, .slice none 0 0, .slice none 0 0]) ?_ 2 _ rfl; refine bp ?_; refine blk_put (cs := #[.string a0_0, .int .i64 0, .int .i64 0, .string (⟨#[]⟩ : ByteArray), .slice none 0 0, .slice none 0 0, .slice none 0 0]) ?_ 1 _ rfl; refine bp ?_; refine blk_put (cs := #[.string (⟨#[]⟩ : ByteArray), .int .i64 0, .int .i64 0, .string (⟨#[]⟩ : ByteArray), .slice none 0 0, .slice none 0 0, .slice none 0 0]) ?_ 0 _ rfl; refine bp ?_; refine blk_far ?_ NB882_881.out _; refine bp ?_; exact BK882.out) Try.underlying32 rfl (by kernel_rfl)) rfl ?_
  exact ⟨_, _, _, by first | rfl | (simp [errW_none, errW_some] <;> rfl) | (simp [*, errW_none, errW_some] <;> rfl), by (with_reducible repeat (first | apply zq10 | apply zq11 | apply zq12)); exact Kd.R_mono (Kd.R_far (p := ⟨gb882, 6, none⟩) (Kd.R_far (p := ⟨gb882, 5, none⟩) (Kd.R_far (p := ⟨gb882, 4, none⟩) (Kd.R_far (p := ⟨gb882, 3, none⟩) (Kd.R_far (p := ⟨gb882, 2, none⟩) (Kd.R_far (p := ⟨gb882, 1, none⟩) (Kd.R_far (p := ⟨gb882, 0, none⟩) (Kd.R_far (p := ⟨gb881, 6, none⟩) (Kd.R_types (Kd.R_types HO885.out BK881.out (by decide)) BK882.out (by decide)) (fun _ hk => hk.1.2) (.slice Ao16 t889.length co16)) (fun _ hk => hk.2) (.string a0_0)) (fun _ hk => hk.2) (.int .i64 a0_1)) (fun _ hk => hk.2) (.int .i64 a0_2)) (fun _ hk => hk.2) (.string a0_3)) (fun _ hk => hk.2) (.slice Ao10 t883.length co10)) (fun _ hk => hk.2) (.slice Ao13 t886.length co13)) (fun _ hk => hk.2) (.slice Ao16 t889.length co16)) (fun _ hk => trivial), by (with_reducible repeat (first | apply zq10 | apply zq11 | apply zq12)); exact Kd.R_mono (Kd.R_far (p := ⟨gb882, 6, none⟩) (Kd.R_far (p := ⟨gb882, 5, none⟩) (Kd.R_far (p := ⟨gb882, 4, none⟩) (Kd.R_far (p := ⟨gb882, 3, none⟩) (Kd.R_far (p := ⟨gb882, 2, none⟩) (Kd.R_far (p := ⟨gb882, 1, none⟩) (Kd.R_far (p := ⟨gb882, 0, none⟩) (Kd.R_far (p := ⟨gb881, 6, none⟩) (Kd.R_types (Kd.R_types HO888.out BK881.out (by decide)) BK882.out (by decide)) (fun _ hk => hk.1.2) (.slice Ao16 t889.length co16)) (fun _ hk => hk.2) (.string a0_0)) (fun _ hk => hk.2) (.int .i64 a0_1)) (fun _ hk => hk.2) (.int .i64 a0_2)) (fun _ hk => hk.2) (.string a0_3)) (fun _ hk => hk.2) (.slice Ao10 t883.length co10)) (fun _ hk => hk.2) (.slice Ao13 t886.length co13)) (fun _ hk => hk.2) (.slice Ao16 t889.length co16)) (fun _ hk => trivial), by (with_reducible repeat (first | apply zq10 | apply zq11 | apply zq12)); exact Kd.R_mono (Kd.R_far (p := ⟨gb882, 6, none⟩) (Kd.R_far (p := ⟨gb882, 5, none⟩) (Kd.R_far (p := ⟨gb882, 4, none⟩) (Kd.R_far (p := ⟨gb882, 3, none⟩) (Kd.R_far (p := ⟨gb882, 2, none⟩) (Kd.R_far (p := ⟨gb882, 1, none⟩) (Kd.R_far (p := ⟨gb882, 0, none⟩) (Kd.R_far (p := ⟨gb881, 6, none⟩) (Kd.R_types (Kd.R_types HO891.out BK881.out (by decide)) BK882.out (by decide)) (fun _ hk => hk.1.2) (.slice Ao16 t889.length co16)) (fun _ hk => hk.2) (.string a0_0)) (fun _ hk => hk.2) (.int .i64 a0_1)) (fun _ hk => hk.2) (.int .i64 a0_2)) (fun _ hk => hk.2) (.string a0_3)) (fun _ hk => hk.2) (.slice Ao10 t883.length co10)) (fun _ hk => hk.2) (.slice Ao13 t886.length co13)) (fun _ hk => hk.2) (.slice Ao16 t889.length co16)) (fun _ hk => trivial), by exact b2 HB GE881 GE882⟩
set_option maxHeartbeats 8000000 in
set_option maxRecDepth 100000 in
theorem impl_BaseGet.calls (k : Nat) (a0_0 : Int) (A0_1 : Option Addr) (c0_1 : Nat) (l0_1 : List (S32)) (a1 : ByteArray) (r1 : ByteArray) (r2 : Int) (r3 : Int) (r4 : ByteArray) (r5 : List ByteArray) (r6 : List (S99)) (r7 : List (S101)) (r8 : Bool) (w : World) (hr0_1 : Kd.C k32 w A0_1 l0_1.length l0_1) (hc0_1 : l0_1.length ≤ c0_1) (h : impl_BaseGet.f k a0_0 l0_1 a1 = some (r1, r2, r3, r4, r5, r6, r7, r8)) :
    Calls Try.prog 28 #[.agg #[.int .i64 a0_0, .slice A0_1 l0_1.length c0_1], .string a1] w fun e w' => ∃ v4_ v5_ v6_ : Value, e = .returned (.tuple #[.agg #[.string r1, .int .i64 r2, .int .i64 r3, .string r4, v4_, v5_, v6_], .bool r8]) ∧ Kd.R Kd.string 9 w' w.heap.size (fun _ => True) v4_ r5 ∧ Kd.R k99 99 w' w.heap.size (fun _ => True) v5_ r6 ∧ Kd.R k101 101 w' w.heap.size (fun _ => True) v6_ r7 ∧ Below w.heap.size w w' := by
  have hu46 := Try.underlying46; have hu32 := Try.underlying32; have HR0_1 := zq9 hr0_1; have HC0_1 := zq9 hc0_1; clear hr0_1 hc0_1
  have HB := zq9 (Below.refl w.heap.size w)
  have H : ((impl_Base_at.f a0_0 l0_1 a1).bind fun t894 => ((impl_BaseOk.f k a0_0 l0_1).bind fun t895 => (if t895 = true then (if t894 < 0 then (some ((⟨#[]⟩ : ByteArray), 0, 0, (⟨#[]⟩ : ByteArray), ([] : List ByteArray), ([] : List (S99)), ([] : List (S101)), false)) else (if 0 ≤ t894 then (if t894 < (l0_1.length : Int) then ((impl_cloneEntry.f ((rd_T32 l0_1 t894).f0) ((rd_T32 l0_1 t894).f1) ((rd_T32 l0_1 t894).f2) ((rd_T32 l0_1 t894).f3) ((rd_T32 l0_1 t894).f4) ((rd_T32 l0_1 t894).f5) ((rd_T32 l0_1 t894).f6)).bind fun bt897 => (some (bt897.1, bt897.2.1, bt897.2.2.1, bt897.2.2.2.1, bt897.2.2.2.2.1, bt897.2.2.2.2.2.1, bt897.2.2.2.2.2.2, true))) else (none)) else (none))) else (some ((⟨#[]⟩ : ByteArray), 0, 0, (⟨#[]⟩ : ByteArray), ([] : List ByteArray), ([] : List (S99)), ([] : List (S101)), false))))) = some (r1, r2, r3, r4, r5, r6, r7, r8) := h
  clear h; replace H := Option.bind_eq_some_iff.mp H; obtain ⟨t894, A30, H⟩ := H
  try dsimp only at H
  have A3 := zq9 A30; clear A30; replace H := Option.bind_eq_some_iff.mp H; obtain ⟨t895, A40, H⟩ := H
  try dsimp only at H
  have A4 := zq9 A40; clear A40
  by_cases c5 : t895 = true
  · subst c5
    have H1 : (if t894 < 0 then (some ((⟨#[]⟩ : ByteArray), 0, 0, (⟨#[]⟩ : ByteArray), ([] : List ByteArray), ([] : List (S99)), ([] : List (S101)), false)) else (if 0 ≤ t894 then (if t894 < (l0_1.length : Int) then ((impl_cloneEntry.f ((rd_T32 l0_1 t894).f0) ((rd_T32 l0_1 t894).f1) ((rd_T32 l0_1 t894).f2) ((rd_T32 l0_1 t894).f3) ((rd_T32 l0_1 t894).f4) ((rd_T32 l0_1 t894).f5) ((rd_T32 l0_1 t894).f6)).bind fun bt897 => (some (bt897.1, bt897.2.1, bt897.2.2.1, bt897.2.2.2.1, bt897.2.2.2.2.1, bt897.2.2.2.2.2.1, bt897.2.2.2.2.2.2, true))) else (none)) else (none))) = some (r1, r2, r3, r4, r5, r6, r7, r8) := by rw [if_pos rfl] at H; exact H
    clear H; have H := H1; clear H1
    by_cases c6 : t894 < 0
    · rw [if_pos c6] at H; have c6b0 : decide (t894 < 0) = true := decide_eq_true c6; clear c6
      simp only [Option.some.injEq, Prod.mk.injEq] at H
      obtain ⟨rfl, rfl, rfl, rfl, rfl, rfl, rfl, rfl⟩ := H
      go_enter Try.func28, Try.ntmps28
      go_wp2_with (first | ((with_reducible refine zq25 (N := 2) rfl ?_); refine bx 2 #[.int .i64 a0_0, .slice A0_1 l0_1.length c0_1] 46 ?_; intro gb892 hg w7 hbox hb; have n0_ := zq9 (zq27 (by exact bl HB) hb); have n1_ := zq9 (hbox); have n2_ := zq9 ((by rw [hg]; exact (zq29 (by exact bl HB)) : w.heap.size ≤ gb892)); have n3_ := n2_; clear HB; have HB := n0_; have BK892 := n1_; have GW892 := n2_; have GE892 := n3_; clear n0_ n1_ n2_ n3_; clear hb hbox hg) | ((with_reducible refine zq25 (N := 4) rfl ?_); refine bx 4 #[.string (⟨#[]⟩ : ByteArray), .int .i64 0, .int .i64 0, .string (⟨#[]⟩ : ByteArray), .slice none 0 0, .slice none 0 0, .slice none 0 0] 32 ?_; intro gb893 hg w8 hbox hb; have n0_ := zq9 (zq30 (g := gb892) (o := .cells #[.int .i64 a0_0, .slice A0_1 l0_1.length c0_1] 46 (0, 0)) (by exact bk BK892) hb); have n1_ := zq9 (zq27 (by exact b1 HB GE892) hb); have n2_ := zq9 (hbox); have n3_ := zq9 ((by rw [hg]; exact (zq29 (by exact b1 HB GE892)) : w.heap.size ≤ gb893)); have n4_ := n3_; have n5_ := zq9 ((by rw [hg]; exact Nat.ne_of_lt (blk_lt (g := gb892) (o := .cells #[.int .i64 a0_0, .slice A0_1 l0_1.length c0_1] 46 (0, 0)) (by exact bk BK892)) : gb892 ≠ gb893)); have n6_ := zq9 ((by rw [hg]; exact Nat.ne_of_gt (blk_lt (g := gb892) (o := .cells #[.int .i64 a0_0, .slice A0_1 l0_1.length c0_1] 46 (0, 0)) (by exact bk BK892)) : gb893 ≠ gb892)); clear BK892; clear HB; have BK892 := n0_; have HB := n1_; have BK893 := n2_; have GW893 := n3_; have GE893 := n4_; have NB892_893 := n5_; have NB893_892 := n6_; clear n0_ n1_ n2_ n3_ n4_ n5_ n6_; clear hb hbox hg; have hnb9 := NB892_893.out; have hnc9 := NB893_892.out; have hcz10_0 : w8.cell? ⟨gb892, 0, none⟩ = some (.int .i64 a0_0) := bc BK892 0; have hcz10_1 : w8.cell? ⟨gb892, 1, none⟩ = some (.slice A0_1 l0_1.length c0_1) := bc BK892 1; have hfz10_0 := zq6 BK892.out 0; have hfz10_1 := zq6 BK892.out 1) | ((with_reducible refine zq24 (f := 67) rfl ?_); refine gl (some 9) Try.func67 #[.agg #[.int .i64 a0_0, .slice A0_1 l0_1.length c0_1], .string a1] ?_; (with_reducible refine (impl_Base_at.calls a0_0 _ _ l0_1 a1 t894 _ ?side1 ?side2 A3.out).mono ?_); (case side1 => exact kc HR0_1 HB); (case side2 => exact HC0_1.out); rintro e w11 ⟨rfl, hb⟩; refine ⟨_, rfl, ?_⟩; have n0_ := zq9 (zq30 (g := gb892) (o := .cells #[.int .i64 a0_0, .slice A0_1 l0_1.length c0_1] 46 (0, 0)) (by exact bk BK892) hb); have n1_ := zq9 (zq30 (g := gb893) (o := .cells #[.string (⟨#[]⟩ : ByteArray), .int .i64 0, .int .i64 0, .string (⟨#[]⟩ : ByteArray), .slice none 0 0, .slice none 0 0, .slice none 0 0] 32 (0, 0)) (by exact bk BK893) hb); have n2_ := zq9 (zq27 (by exact b2 HB GE892 GE893) hb); clear BK892; clear BK893; clear HB; have BK892 := n0_; have BK893 := n1_; have HB := n2_; clear n0_ n1_ n2_; (try clear hb); (try clear hb2); (try clear hk); (try clear hi); have hcz12_0 : w11.cell? ⟨gb892, 0, none⟩ = some (.int .i64 a0_0) := bc BK892 0; have hcz12_1 : w11.cell? ⟨gb892, 1, none⟩ = some (.slice A0_1 l0_1.length c0_1) := bc BK892 1; have hfz12_0 := zq6 BK892.out 0; have hfz12_1 := zq6 BK892.out 1) | ((with_reducible refine zq24 (f := 19) rfl ?_); refine gl (some 11) Try.func19 #[.agg #[.int .i64 a0_0, .slice A0_1 l0_1.length c0_1]] ?_; (with_reducible refine (impl_BaseOk.calls k a0_0 _ _ l0_1 true _ ?side1 ?side2 A4.out).mono ?_); (case side1 => exact kc HR0_1 HB); (case side2 => exact HC0_1.out); rintro e w13 ⟨rfl, hb⟩; refine ⟨_, rfl, ?_⟩; have n0_ := zq9 (zq30 (g := gb892) (o := .cells #[.int .i64 a0_0, .slice A0_1 l0_1.length c0_1] 46 (0, 0)) (by exact bk BK892) hb); have n1_ := zq9 (zq30 (g := gb893) (o := .cells #[.string (⟨#[]⟩ : ByteArray), .int .i64 0, .int .i64 0, .string (⟨#[]⟩ : ByteArray), .slice none 0 0, .slice none 0 0, .slice none 0 0] 32 (0, 0)) (by exact bk BK893) hb); have n2_ := zq9 (zq27 (by exact b2 HB GE892 GE893) hb); clear BK892; clear BK893; clear HB; have BK892 := n0_; have BK893 := n1_; have HB := n2_; clear n0_ n1_ n2_; (try clear hb); (try clear hb2); (try clear hk); (try clear hi); have hcz14_0 : w13.cell? ⟨gb893, 0, none⟩ = some (.string (⟨#[]⟩ : ByteArray)) := bc BK893 0; have hcz14_1 : w13.cell? ⟨gb893, 1, none⟩ = some (.int .i64 0) := bc BK893 1; have hcz14_2 : w13.cell? ⟨gb893, 2, none⟩ = some (.int .i64 0) := bc BK893 2; have hcz14_3 : w13.cell? ⟨gb893, 3, none⟩ = some (.string (⟨#[]⟩ : ByteArray)) := bc BK893 3; have hcz14_4 : w13.cell? ⟨gb893, 4, none⟩ = some (.slice none 0 0) := bc BK893 4; have hcz14_5 : w13.cell? ⟨gb893, 5, none⟩ = some (.slice none 0 0) := bc BK893 5; have hcz14_6 : w13.cell? ⟨gb893, 6, none⟩ = some (.slice none 0 0) := bc BK893 6; have hfz14_0 := zq6 BK893.out 0; have hfz14_1 := zq6 BK893.out 1; have hfz14_2 := zq6 BK893.out 2; have hfz14_3 := zq6 BK893.out 3; have hfz14_4 := zq6 BK893.out 4; have hfz14_5 := zq6 BK893.out 5; have hfz14_6 := zq6 BK893.out 6))
      refine bodyPost_ret (results_ct rfl _ _ gb893 32 #[.string (⟨#[]⟩ : ByteArray), .int .i64 0, .int .i64 0, .string (⟨#[]⟩ : ByteArray), .slice none 0 0, .slice none 0 0, .slice none 0 0] (0, 0) _ rfl (by refine bp ?_; refine blk_put (cs := #[.string (⟨#[]⟩ : ByteArray), .int .i64 0, .int .i64 0, .string (⟨#[]⟩ : ByteArray), .slice none 0 0, .slice none 0 0, .slice none 0 0]) ?_ 6 _ rfl; refine bp ?_; refine blk_put (cs := #[.string (⟨#[]⟩ : ByteArray), .int .i64 0, .int .i64 0, .string (⟨#[]⟩ : ByteArray), .slice none 0 0, .slice none 0 0, .slice none 0 0]) ?_ 5 _ rfl; refine bp ?_; refine blk_put (cs := #[.string (⟨#[]⟩ : ByteArray), .int .i64 0, .int .i64 0, .string (⟨#[]⟩ : ByteArray), .slice none 0 0, .slice none 0 0, .slice none 0 0]) ?_ 4 _ rfl; refine bp ?_; refine blk_put (cs := #[.string (⟨#[]⟩ : ByteArray), .int .i64 0, .int .i64 0, .string (⟨#[]⟩ : ByteArray), .slice none 0 0, .slice none 0 0, .slice none 0 0]) ?_ 3 _ rfl; refine bp ?_; refine blk_put (cs := #[.string (⟨#[]⟩ : ByteArray), .int .i64 0, .int .i64 0, .string (⟨#[]⟩ : ByteArray), .slice none 0 0, .slice none 0 0, .slice none 0 0]) ?_ 2 _ rfl; refine bp ?_; refine blk_put (cs := #[.string (⟨#[]⟩ : ByteArray), .int .i64 0, .int .i64 0, .string (⟨#[]⟩ : ByteArray), .slice none 0 0, .slice none 0 0, .slice none 0 0]) ?_ 1 _ rfl; refine bp ?_; refine blk_put (cs := #[.string (⟨#[]⟩ : ByteArray), .int .i64 0, .int .i64 0, .string (⟨#[]⟩ : ByteArray), .slice none 0 0, .slice none 0 0, .slice none 0 0]) ?_ 0 _ rfl; refine bp ?_; exact BK893.out) Try.underlying32 rfl (by kernel_rfl)) rfl ?_
      exact ⟨_, _, _, by first | rfl | (simp [errW_none, errW_some] <;> rfl) | (simp [*, errW_none, errW_some] <;> rfl), by first | exact Kd.R_nil _ _ _ _ _ | exact Kd.N_nil _ _ _ _ _ | exact Kd.V_nil _ _ _ _ _ | exact Kd.Q_nil _ _ _ _ _ | exact Kd.S_nil _ _ _ _ _, by first | exact Kd.R_nil _ _ _ _ _ | exact Kd.N_nil _ _ _ _ _ | exact Kd.V_nil _ _ _ _ _ | exact Kd.Q_nil _ _ _ _ _ | exact Kd.S_nil _ _ _ _ _, by first | exact Kd.R_nil _ _ _ _ _ | exact Kd.N_nil _ _ _ _ _ | exact Kd.V_nil _ _ _ _ _ | exact Kd.Q_nil _ _ _ _ _ | exact Kd.S_nil _ _ _ _ _, by exact b2 HB GE892 GE893⟩
    · rw [if_neg c6] at H; have c6b0 : decide (t894 < 0) = false := decide_eq_false c6; clear c6
      by_cases c15 : 0 ≤ t894
      · rw [if_pos c15] at H; have c15b0 : decide (0 ≤ t894) = true := decide_eq_true c15; clear c15
        by_cases c16 : t894 < (l0_1.length : Int)
        · rw [if_pos c16] at H; have c16b0 : decide (t894 < (l0_1.length : Int)) = true := decide_eq_true c16; clear c16; replace H := Option.bind_eq_some_iff.mp H
          obtain ⟨⟨t897, t898, t899, t900, t901, t904, t907⟩, A170, H⟩ := H
          try dsimp only at H
          have A17 := zq9 A170; clear A170
          simp only [Option.some.injEq, Prod.mk.injEq] at H
          obtain ⟨rfl, rfl, rfl, rfl, rfl, rfl, rfl, rfl⟩ := H
          go_enter Try.func28, Try.ntmps28
          go_wp2_with (first | ((with_reducible refine zq25 (N := 2) rfl ?_); refine bx 2 #[.int .i64 a0_0, .slice A0_1 l0_1.length c0_1] 46 ?_; intro gb892 hg w18 hbox hb; have n0_ := zq9 (zq27 (by exact bl HB) hb); have n1_ := zq9 (hbox); have n2_ := zq9 ((by rw [hg]; exact (zq29 (by exact bl HB)) : w.heap.size ≤ gb892)); have n3_ := n2_; clear HB; have HB := n0_; have BK892 := n1_; have GW892 := n2_; have GE892 := n3_; clear n0_ n1_ n2_ n3_; clear hb hbox hg) | ((with_reducible refine zq25 (N := 4) rfl ?_); refine bx 4 #[.string (⟨#[]⟩ : ByteArray), .int .i64 0, .int .i64 0, .string (⟨#[]⟩ : ByteArray), .slice none 0 0, .slice none 0 0, .slice none 0 0] 32 ?_; intro gb893 hg w19 hbox hb; have n0_ := zq9 (zq30 (g := gb892) (o := .cells #[.int .i64 a0_0, .slice A0_1 l0_1.length c0_1] 46 (0, 0)) (by exact bk BK892) hb); have n1_ := zq9 (zq27 (by exact b1 HB GE892) hb); have n2_ := zq9 (hbox); have n3_ := zq9 ((by rw [hg]; exact (zq29 (by exact b1 HB GE892)) : w.heap.size ≤ gb893)); have n4_ := n3_; have n5_ := zq9 ((by rw [hg]; exact Nat.ne_of_lt (blk_lt (g := gb892) (o := .cells #[.int .i64 a0_0, .slice A0_1 l0_1.length c0_1] 46 (0, 0)) (by exact bk BK892)) : gb892 ≠ gb893)); have n6_ := zq9 ((by rw [hg]; exact Nat.ne_of_gt (blk_lt (g := gb892) (o := .cells #[.int .i64 a0_0, .slice A0_1 l0_1.length c0_1] 46 (0, 0)) (by exact bk BK892)) : gb893 ≠ gb892)); clear BK892; clear HB; have BK892 := n0_; have HB := n1_; have BK893 := n2_; have GW893 := n3_; have GE893 := n4_; have NB892_893 := n5_; have NB893_892 := n6_; clear n0_ n1_ n2_ n3_ n4_ n5_ n6_; clear hb hbox hg; have hnb20 := NB892_893.out; have hnc20 := NB893_892.out; have hcz21_0 : w19.cell? ⟨gb892, 0, none⟩ = some (.int .i64 a0_0) := bc BK892 0; have hcz21_1 : w19.cell? ⟨gb892, 1, none⟩ = some (.slice A0_1 l0_1.length c0_1) := bc BK892 1; have hfz21_0 := zq6 BK892.out 0; have hfz21_1 := zq6 BK892.out 1) | ((with_reducible refine zq24 (f := 67) rfl ?_); refine gl (some 9) Try.func67 #[.agg #[.int .i64 a0_0, .slice A0_1 l0_1.length c0_1], .string a1] ?_; (with_reducible refine (impl_Base_at.calls a0_0 _ _ l0_1 a1 t894 _ ?side1 ?side2 A3.out).mono ?_); (case side1 => exact kc HR0_1 HB); (case side2 => exact HC0_1.out); rintro e w22 ⟨rfl, hb⟩; refine ⟨_, rfl, ?_⟩; have n0_ := zq9 (zq30 (g := gb892) (o := .cells #[.int .i64 a0_0, .slice A0_1 l0_1.length c0_1] 46 (0, 0)) (by exact bk BK892) hb); have n1_ := zq9 (zq30 (g := gb893) (o := .cells #[.string (⟨#[]⟩ : ByteArray), .int .i64 0, .int .i64 0, .string (⟨#[]⟩ : ByteArray), .slice none 0 0, .slice none 0 0, .slice none 0 0] 32 (0, 0)) (by exact bk BK893) hb); have n2_ := zq9 (zq27 (by exact b2 HB GE892 GE893) hb); clear BK892; clear BK893; clear HB; have BK892 := n0_; have BK893 := n1_; have HB := n2_; clear n0_ n1_ n2_; (try clear hb); (try clear hb2); (try clear hk); (try clear hi); have hcz23_0 : w22.cell? ⟨gb892, 0, none⟩ = some (.int .i64 a0_0) := bc BK892 0; have hcz23_1 : w22.cell? ⟨gb892, 1, none⟩ = some (.slice A0_1 l0_1.length c0_1) := bc BK892 1; have hfz23_0 := zq6 BK892.out 0; have hfz23_1 := zq6 BK892.out 1) | ((with_reducible refine zq24 (f := 19) rfl ?_); refine gl (some 11) Try.func19 #[.agg #[.int .i64 a0_0, .slice A0_1 l0_1.length c0_1]] ?_; (with_reducible refine (impl_BaseOk.calls k a0_0 _ _ l0_1 true _ ?side1 ?side2 A4.out).mono ?_); (case side1 => exact kc HR0_1 HB); (case side2 => exact HC0_1.out); rintro e w24 ⟨rfl, hb⟩; refine ⟨_, rfl, ?_⟩; have n0_ := zq9 (zq30 (g := gb892) (o := .cells #[.int .i64 a0_0, .slice A0_1 l0_1.length c0_1] 46 (0, 0)) (by exact bk BK892) hb); have n1_ := zq9 (zq30 (g := gb893) (o := .cells #[.string (⟨#[]⟩ : ByteArray), .int .i64 0, .int .i64 0, .string (⟨#[]⟩ : ByteArray), .slice none 0 0, .slice none 0 0, .slice none 0 0] 32 (0, 0)) (by exact bk BK893) hb); have n2_ := zq9 (zq27 (by exact b2 HB GE892 GE893) hb); clear BK892; clear BK893; clear HB; have BK892 := n0_; have BK893 := n1_; have HB := n2_; clear n0_ n1_ n2_; (try clear hb); (try clear hb2); (try clear hk); (try clear hi); have hcz25_0 : w24.cell? ⟨gb892, 0, none⟩ = some (.int .i64 a0_0) := bc BK892 0; have hcz25_1 : w24.cell? ⟨gb892, 1, none⟩ = some (.slice A0_1 l0_1.length c0_1) := bc BK892 1; have hfz25_0 := zq6 BK892.out 0; have hfz25_1 := zq6 BK892.out 1; have p896 : 0 ≤ (t894 : Int) := of_decide_eq_true ‹_›; have q896 : t894 < (l0_1.length : Int) := of_decide_eq_true ‹_›; obtain ⟨ad896, A896_4, c896_4, A896_5, c896_5, A896_6, c896_6, e896, hx896_0, hx896_1, hx896_2, hx896_3, hx896_4, hx896_5, hx896_6, hl896_4, hi896_4, hl896_5, hi896_5, hl896_6, hi896_6⟩ := at_T32 HR0_1.out t894 p896 q896; cases e896; replace hx896_0 := hcl HB hx896_0; replace hx896_1 := hcl HB hx896_1; replace hx896_2 := hcl HB hx896_2; replace hx896_3 := hcl HB hx896_3; replace hx896_4 := hcl HB hx896_4; replace hx896_5 := hcl HB hx896_5; replace hx896_6 := hcl HB hx896_6; have HR896_4 := zq9 hi896_4; have HC896_4 := zq9 hl896_4; clear hi896_4 hl896_4; have HR896_5 := zq9 hi896_5; have HC896_5 := zq9 hl896_5; clear hi896_5 hl896_5; have HR896_6 := zq9 hi896_6; have HC896_6 := zq9 hl896_6; clear hi896_6 hl896_6; replace p896 := eq_true p896; replace q896 := eq_true q896) | ((with_reducible refine zq24 (f := 68) rfl ?_); refine gl (some 23) Try.func68 #[.agg #[.string ((rd_T32 l0_1 t894).f0), .int .i64 ((rd_T32 l0_1 t894).f1), .int .i64 ((rd_T32 l0_1 t894).f2), .string ((rd_T32 l0_1 t894).f3), .slice A896_4 ((rd_T32 l0_1 t894).f4).length c896_4, .slice A896_5 ((rd_T32 l0_1 t894).f5).length c896_5, .slice A896_6 ((rd_T32 l0_1 t894).f6).length c896_6]] ?_; (with_reducible refine (impl_cloneEntry.calls ((rd_T32 l0_1 t894).f0) ((rd_T32 l0_1 t894).f1) ((rd_T32 l0_1 t894).f2) ((rd_T32 l0_1 t894).f3) _ _ ((rd_T32 l0_1 t894).f4) _ _ ((rd_T32 l0_1 t894).f5) _ _ ((rd_T32 l0_1 t894).f6) t897 t898 t899 t900 t901 t904 t907 _ ?side1 ?side2 ?side3 ?side4 ?side5 ?side6 A17.out).mono ?_); (case side1 => exact kc HR896_4 HB); (case side2 => exact HC896_4.out); (case side3 => exact kc HR896_5 HB); (case side4 => exact HC896_5.out); (case side5 => exact kc HR896_6 HB); (case side6 => exact HC896_6.out); rintro e w26 ⟨v902, v905, v908, rfl, ho0, ho1, ho2, hb⟩; refine ⟨_, rfl, ?_⟩; have n0_ := zq9 (Kd.R_lower ho0 (zq29 (by exact b2 HB GE892 GE893))); have n1_ := zq9 (Kd.R_lower ho1 (zq29 (by exact b2 HB GE892 GE893))); have n2_ := zq9 (Kd.R_lower ho2 (zq29 (by exact b2 HB GE892 GE893))); have n3_ := zq9 (zq30 (g := gb892) (o := .cells #[.int .i64 a0_0, .slice (some ad896) l0_1.length c0_1] 46 (0, 0)) (by exact bk BK892) hb); have n4_ := zq9 (zq30 (g := gb893) (o := .cells #[.string (⟨#[]⟩ : ByteArray), .int .i64 0, .int .i64 0, .string (⟨#[]⟩ : ByteArray), .slice none 0 0, .slice none 0 0, .slice none 0 0] 32 (0, 0)) (by exact bk BK893) hb); have n5_ := zq9 (zq27 (by exact b2 HB GE892 GE893) hb); clear BK892; clear BK893; clear HB; have HO903 := n0_; have HO906 := n1_; have HO909 := n2_; have BK892 := n3_; have BK893 := n4_; have HB := n5_; clear n0_ n1_ n2_ n3_ n4_ n5_; (try clear hb); (try clear hb2); (try clear hk); (try clear hi); (try clear ho0); (try clear ho1); (try clear ho2); have hcz27_0 : w26.cell? ⟨gb893, 0, none⟩ = some (.string (⟨#[]⟩ : ByteArray)) := bc BK893 0; have hcz27_1 : w26.cell? ⟨gb893, 1, none⟩ = some (.int .i64 0) := bc BK893 1; have hcz27_2 : w26.cell? ⟨gb893, 2, none⟩ = some (.int .i64 0) := bc BK893 2; have hcz27_3 : w26.cell? ⟨gb893, 3, none⟩ = some (.string (⟨#[]⟩ : ByteArray)) := bc BK893 3; have hcz27_4 : w26.cell? ⟨gb893, 4, none⟩ = some (.slice none 0 0) := bc BK893 4; have hcz27_5 : w26.cell? ⟨gb893, 5, none⟩ = some (.slice none 0 0) := bc BK893 5; have hcz27_6 : w26.cell? ⟨gb893, 6, none⟩ = some (.slice none 0 0) := bc BK893 6; have hfz27_0 := zq6 BK893.out 0; have hfz27_1 := zq6 BK893.out 1; have hfz27_2 := zq6 BK893.out 2; have hfz27_3 := zq6 BK893.out 3; have hfz27_4 := zq6 BK893.out 4; have hfz27_5 := zq6 BK893.out 5; have hfz27_6 := zq6 BK893.out 6; obtain ⟨Ao28, co28, eo28⟩ := Kd.R_slice HO903.out; subst eo28; obtain ⟨Ao29, co29, eo29⟩ := Kd.R_slice HO906.out; subst eo29; obtain ⟨Ao30, co30, eo30⟩ := Kd.R_slice HO909.out; subst eo30))
          refine bodyPost_ret (results_ct rfl _ _ gb893 32 #[.string t897, .int .i64 t898, .int .i64 t899, .string t900, .slice Ao28 t901.length co28, .slice Ao29 t904.length co29, .slice Ao30 t907.length co30] (0, 0) _ rfl (by refine bp ?_; refine blk_put (cs := #[.string t897, .int .i64 t898, .int .i64 t899, .string t900, .slice Ao28 t901.length co28, .slice Ao29 t904.length co29, .slice none 0 0]) ?_ 6 _ rfl; refine bp ?_; refine blk_put (cs := #[.string t897, .int .i64 t898, .int .i64 t899, .string t900, .slice Ao28 t901.length co28, .slice none 0 0, .slice none 0 0]) ?_ 5 _ rfl; refine bp ?_; refine blk_put (cs := #[.string t897, .int .i64 t898, .int .i64 t899, .string t900, .slice none 0 0, .slice none 0 0, .slice none 0 0]) ?_ 4 _ rfl; refine bp ?_; refine blk_put (cs := #[.string t897, .int .i64 t898, .int .i64 t899, .string (⟨#[]⟩ : ByteArray), .slice none 0 0, .slice none 0 0, .slice none 0 0]) ?_ 3 _ rfl; refine bp ?_; refine blk_put (cs := #[.string t897, .int .i64 t898, .int .i64 0, .string (⟨#[]⟩ : ByteArray), .slice none 0 0, .slice none 0 0, .slice none 0 0]) ?_ 2 _ rfl; refine bp ?_; refine blk_put (cs := #[.string t897, .int .i64 0, .int .i64 0, .string (⟨#[]⟩ : ByteArray), .slice none 0 0, .slice none 0 0, .slice none 0 0]) ?_ 1 _ rfl; refine bp ?_; refine blk_put (cs := #[.string (⟨#[]⟩ : ByteArray), .int .i64 0, .int .i64 0, .string (⟨#[]⟩ : ByteArray), .slice none 0 0, .slice none 0 0, .slice none 0 0]) ?_ 0 _ rfl; refine bp ?_; exact BK893.out) Try.underlying32 rfl (by kernel_rfl)) rfl ?_
          exact ⟨_, _, _, by first | rfl | (simp [errW_none, errW_some] <;> rfl) | (simp [*, errW_none, errW_some] <;> rfl), by (with_reducible repeat (first | apply zq10 | apply zq11 | apply zq12)); exact Kd.R_mono (Kd.R_far (p := ⟨gb893, 6, none⟩) (Kd.R_far (p := ⟨gb893, 5, none⟩) (Kd.R_far (p := ⟨gb893, 4, none⟩) (Kd.R_far (p := ⟨gb893, 3, none⟩) (Kd.R_far (p := ⟨gb893, 2, none⟩) (Kd.R_far (p := ⟨gb893, 1, none⟩) (Kd.R_far (p := ⟨gb893, 0, none⟩) (Kd.R_types HO903.out BK893.out (by decide)) (fun _ hk => hk.2) (.string t897)) (fun _ hk => hk.2) (.int .i64 t898)) (fun _ hk => hk.2) (.int .i64 t899)) (fun _ hk => hk.2) (.string t900)) (fun _ hk => hk.2) (.slice Ao28 t901.length co28)) (fun _ hk => hk.2) (.slice Ao29 t904.length co29)) (fun _ hk => hk.2) (.slice Ao30 t907.length co30)) (fun _ hk => trivial), by (with_reducible repeat (first | apply zq10 | apply zq11 | apply zq12)); exact Kd.R_mono (Kd.R_far (p := ⟨gb893, 6, none⟩) (Kd.R_far (p := ⟨gb893, 5, none⟩) (Kd.R_far (p := ⟨gb893, 4, none⟩) (Kd.R_far (p := ⟨gb893, 3, none⟩) (Kd.R_far (p := ⟨gb893, 2, none⟩) (Kd.R_far (p := ⟨gb893, 1, none⟩) (Kd.R_far (p := ⟨gb893, 0, none⟩) (Kd.R_types HO906.out BK893.out (by decide)) (fun _ hk => hk.2) (.string t897)) (fun _ hk => hk.2) (.int .i64 t898)) (fun _ hk => hk.2) (.int .i64 t899)) (fun _ hk => hk.2) (.string t900)) (fun _ hk => hk.2) (.slice Ao28 t901.length co28)) (fun _ hk => hk.2) (.slice Ao29 t904.length co29)) (fun _ hk => hk.2) (.slice Ao30 t907.length co30)) (fun _ hk => trivial), by (with_reducible repeat (first | apply zq10 | apply zq11 | apply zq12)); exact Kd.R_mono (Kd.R_far (p := ⟨gb893, 6, none⟩) (Kd.R_far (p := ⟨gb893, 5, none⟩) (Kd.R_far (p := ⟨gb893, 4, none⟩) (Kd.R_far (p := ⟨gb893, 3, none⟩) (Kd.R_far (p := ⟨gb893, 2, none⟩) (Kd.R_far (p := ⟨gb893, 1, none⟩) (Kd.R_far (p := ⟨gb893, 0, none⟩) (Kd.R_types HO909.out BK893.out (by decide)) (fun _ hk => hk.2) (.string t897)) (fun _ hk => hk.2) (.int .i64 t898)) (fun _ hk => hk.2) (.int .i64 t899)) (fun _ hk => hk.2) (.string t900)) (fun _ hk => hk.2) (.slice Ao28 t901.length co28)) (fun _ hk => hk.2) (.slice Ao29 t904.length co29)) (fun _ hk => hk.2) (.slice Ao30 t907.length co30)) (fun _ hk => trivial), by exact b2 HB GE892 GE893⟩
        · rw [if_neg c16] at H
          exact absurd H (by simp)
      · rw [if_neg c15] at H
        exact absurd H (by simp)
  · replace c5 := Bool.eq_false_iff.mpr c5
    subst c5
    have H1 : (some ((⟨#[]⟩ : ByteArray), 0, 0, (⟨#[]⟩ : ByteArray), ([] : List ByteArray), ([] : List (S99)), ([] : List (S101)), false)) = some (r1, r2, r3, r4, r5, r6, r7, r8) := by rw [if_neg (show ¬ (false = true) by decide)] at H; exact H
    clear H; have H := H1; clear H1
    simp only [Option.some.injEq, Prod.mk.injEq] at H
    obtain ⟨rfl, rfl, rfl, rfl, rfl, rfl, rfl, rfl⟩ := H
    go_enter Try.func28, Try.ntmps28
    go_wp2_with (first | ((with_reducible refine zq25 (N := 2) rfl ?_); refine bx 2 #[.int .i64 a0_0, .slice A0_1 l0_1.length c0_1] 46 ?_; intro gb892 hg w31 hbox hb; have n0_ := zq9 (zq27 (by exact bl HB) hb); have n1_ := zq9 (hbox); have n2_ := zq9 ((by rw [hg]; exact (zq29 (by exact bl HB)) : w.heap.size ≤ gb892)); have n3_ := n2_; clear HB; have HB := n0_; have BK892 := n1_; have GW892 := n2_; have GE892 := n3_; clear n0_ n1_ n2_ n3_; clear hb hbox hg) | ((with_reducible refine zq25 (N := 4) rfl ?_); refine bx 4 #[.string (⟨#[]⟩ : ByteArray), .int .i64 0, .int .i64 0, .string (⟨#[]⟩ : ByteArray), .slice none 0 0, .slice none 0 0, .slice none 0 0] 32 ?_; intro gb893 hg w32 hbox hb; have n0_ := zq9 (zq30 (g := gb892) (o := .cells #[.int .i64 a0_0, .slice A0_1 l0_1.length c0_1] 46 (0, 0)) (by exact bk BK892) hb); have n1_ := zq9 (zq27 (by exact b1 HB GE892) hb); have n2_ := zq9 (hbox); have n3_ := zq9 ((by rw [hg]; exact (zq29 (by exact b1 HB GE892)) : w.heap.size ≤ gb893)); have n4_ := n3_; have n5_ := zq9 ((by rw [hg]; exact Nat.ne_of_lt (blk_lt (g := gb892) (o := .cells #[.int .i64 a0_0, .slice A0_1 l0_1.length c0_1] 46 (0, 0)) (by exact bk BK892)) : gb892 ≠ gb893)); have n6_ := zq9 ((by rw [hg]; exact Nat.ne_of_gt (blk_lt (g := gb892) (o := .cells #[.int .i64 a0_0, .slice A0_1 l0_1.length c0_1] 46 (0, 0)) (by exact bk BK892)) : gb893 ≠ gb892)); clear BK892; clear HB; have BK892 := n0_; have HB := n1_; have BK893 := n2_; have GW893 := n3_; have GE893 := n4_; have NB892_893 := n5_; have NB893_892 := n6_; clear n0_ n1_ n2_ n3_ n4_ n5_ n6_; clear hb hbox hg; have hnb33 := NB892_893.out; have hnc33 := NB893_892.out; have hcz34_0 : w32.cell? ⟨gb892, 0, none⟩ = some (.int .i64 a0_0) := bc BK892 0; have hcz34_1 : w32.cell? ⟨gb892, 1, none⟩ = some (.slice A0_1 l0_1.length c0_1) := bc BK892 1; have hfz34_0 := zq6 BK892.out 0; have hfz34_1 := zq6 BK892.out 1) | ((with_reducible refine zq24 (f := 67) rfl ?_); refine gl (some 9) Try.func67 #[.agg #[.int .i64 a0_0, .slice A0_1 l0_1.length c0_1], .string a1] ?_; (with_reducible refine (impl_Base_at.calls a0_0 _ _ l0_1 a1 t894 _ ?side1 ?side2 A3.out).mono ?_); (case side1 => exact kc HR0_1 HB); (case side2 => exact HC0_1.out); rintro e w35 ⟨rfl, hb⟩; refine ⟨_, rfl, ?_⟩; have n0_ := zq9 (zq30 (g := gb892) (o := .cells #[.int .i64 a0_0, .slice A0_1 l0_1.length c0_1] 46 (0, 0)) (by exact bk BK892) hb); have n1_ := zq9 (zq30 (g := gb893) (o := .cells #[.string (⟨#[]⟩ : ByteArray), .int .i64 0, .int .i64 0, .string (⟨#[]⟩ : ByteArray), .slice none 0 0, .slice none 0 0, .slice none 0 0] 32 (0, 0)) (by exact bk BK893) hb); have n2_ := zq9 (zq27 (by exact b2 HB GE892 GE893) hb); clear BK892; clear BK893; clear HB; have BK892 := n0_; have BK893 := n1_; have HB := n2_; clear n0_ n1_ n2_; (try clear hb); (try clear hb2); (try clear hk); (try clear hi); have hcz36_0 : w35.cell? ⟨gb892, 0, none⟩ = some (.int .i64 a0_0) := bc BK892 0; have hcz36_1 : w35.cell? ⟨gb892, 1, none⟩ = some (.slice A0_1 l0_1.length c0_1) := bc BK892 1; have hfz36_0 := zq6 BK892.out 0; have hfz36_1 := zq6 BK892.out 1) | ((with_reducible refine zq24 (f := 19) rfl ?_); refine gl (some 11) Try.func19 #[.agg #[.int .i64 a0_0, .slice A0_1 l0_1.length c0_1]] ?_; (with_reducible refine (impl_BaseOk.calls k a0_0 _ _ l0_1 false _ ?side1 ?side2 A4.out).mono ?_); (case side1 => exact kc HR0_1 HB); (case side2 => exact HC0_1.out); rintro e w37 ⟨rfl, hb⟩; refine ⟨_, rfl, ?_⟩; have n0_ := zq9 (zq30 (g := gb892) (o := .cells #[.int .i64 a0_0, .slice A0_1 l0_1.length c0_1] 46 (0, 0)) (by exact bk BK892) hb); have n1_ := zq9 (zq30 (g := gb893) (o := .cells #[.string (⟨#[]⟩ : ByteArray), .int .i64 0, .int .i64 0, .string (⟨#[]⟩ : ByteArray), .slice none 0 0, .slice none 0 0, .slice none 0 0] 32 (0, 0)) (by exact bk BK893) hb); have n2_ := zq9 (zq27 (by exact b2 HB GE892 GE893) hb); clear BK892; clear BK893; clear HB; have BK892 := n0_; have BK893 := n1_; have HB := n2_; clear n0_ n1_ n2_; (try clear hb); (try clear hb2); (try clear hk); (try clear hi); have hcz38_0 : w37.cell? ⟨gb893, 0, none⟩ = some (.string (⟨#[]⟩ : ByteArray)) := bc BK893 0; have hcz38_1 : w37.cell? ⟨gb893, 1, none⟩ = some (.int .i64 0) := bc BK893 1; have hcz38_2 : w37.cell? ⟨gb893, 2, none⟩ = some (.int .i64 0) := bc BK893 2; have hcz38_3 : w37.cell? ⟨gb893, 3, none⟩ = some (.string (⟨#[]⟩ : ByteArray)) := bc BK893 3; have hcz38_4 : w37.cell? ⟨gb893, 4, none⟩ = some (.slice none 0 0) := bc BK893 4; have hcz38_5 : w37.cell? ⟨gb893, 5, none⟩ = some (.slice none 0 0) := bc BK893 5; have hcz38_6 : w37.cell? ⟨gb893, 6, none⟩ = some (.slice none 0 0) := bc BK893 6; have hfz38_0 := zq6 BK893.out 0; have hfz38_1 := zq6 BK893.out 1; have hfz38_2 := zq6 BK893.out 2; have hfz38_3 := zq6 BK893.out 3; have hfz38_4 := zq6 BK893.out 4; have hfz38_5 := zq6 BK893.out 5; have hfz38_6 := zq6 BK893.out 6))
    refine bodyPost_ret (results_ct rfl _ _ gb893 32 #[.string (⟨#[]⟩ : ByteArray), .int .i64 0, .int .i64 0, .string (⟨#[]⟩ : ByteArray), .slice none 0 0, .slice none 0 0, .slice none 0 0] (0, 0) _ rfl (by refine bp ?_; refine blk_put (cs := #[.string (⟨#[]⟩ : ByteArray), .int .i64 0, .int .i64 0, .string (⟨#[]⟩ : ByteArray), .slice none 0 0, .slice none 0 0, .slice none 0 0]) ?_ 6 _ rfl; refine bp ?_; refine blk_put (cs := #[.string (⟨#[]⟩ : ByteArray), .int .i64 0, .int .i64 0, .string (⟨#[]⟩ : ByteArray), .slice none 0 0, .slice none 0 0, .slice none 0 0]) ?_ 5 _ rfl; refine bp ?_; refine blk_put (cs := #[.string (⟨#[]⟩ : ByteArray), .int .i64 0, .int .i64 0, .string (⟨#[]⟩ : ByteArray), .slice none 0 0, .slice none 0 0, .slice none 0 0]) ?_ 4 _ rfl; refine bp ?_; refine blk_put (cs := #[.string (⟨#[]⟩ : ByteArray), .int .i64 0, .int .i64 0, .string (⟨#[]⟩ : ByteArray), .slice none 0 0, .slice none 0 0, .slice none 0 0]) ?_ 3 _ rfl; refine bp ?_; refine blk_put (cs := #[.string (⟨#[]⟩ : ByteArray), .int .i64 0, .int .i64 0, .string (⟨#[]⟩ : ByteArray), .slice none 0 0, .slice none 0 0, .slice none 0 0]) ?_ 2 _ rfl; refine bp ?_; refine blk_put (cs := #[.string (⟨#[]⟩ : ByteArray), .int .i64 0, .int .i64 0, .string (⟨#[]⟩ : ByteArray), .slice none 0 0, .slice none 0 0, .slice none 0 0]) ?_ 1 _ rfl; refine bp ?_; refine blk_put (cs := #[.string (⟨#[]⟩ : ByteArray), .int .i64 0, .int .i64 0, .string (⟨#[]⟩ : ByteArray), .slice none 0 0, .slice none 0 0, .slice none 0 0]) ?_ 0 _ rfl; refine bp ?_; exact BK893.out) Try.underlying32 rfl (by kernel_rfl)) rfl ?_
    exact ⟨_, _, _, by first | rfl | (simp [errW_none, errW_some] <;> rfl) | (simp [*, errW_none, errW_some] <;> rfl), by first | exact Kd.R_nil _ _ _ _ _ | exact Kd.N_nil _ _ _ _ _ | exact Kd.V_nil _ _ _ _ _ | exact Kd.Q_nil _ _ _ _ _ | exact Kd.S_nil _ _ _ _ _, by first | exact Kd.R_nil _ _ _ _ _ | exact Kd.N_nil _ _ _ _ _ | exact Kd.V_nil _ _ _ _ _ | exact Kd.Q_nil _ _ _ _ _ | exact Kd.S_nil _ _ _ _ _, by first | exact Kd.R_nil _ _ _ _ _ | exact Kd.N_nil _ _ _ _ _ | exact Kd.V_nil _ _ _ _ _ | exact Kd.Q_nil _ _ _ _ _ | exact Kd.S_nil _ _ _ _ _, by exact b2 HB GE892 GE893⟩
set_option maxHeartbeats 8000000 in
set_option maxRecDepth 100000 in
theorem laws_markEntry.calls (k : Nat) (a0_0 : ByteArray) (a0_1 : Int) (a0_2 : Int) (a0_3 : ByteArray) (P0_4_ : Nat → Prop) (u9000_ : Value) (l0_4 : List ByteArray) (P0_5_ : Nat → Prop) (u9001_ : Value) (l0_5 : List (S99)) (P0_6_ : Nat → Prop) (u9002_ : Value) (l0_6 : List (S101)) (a1 : Int) (r1 : Int) (r2 : List ByteArray) (r3 : List (S99)) (r4 : List (S101)) (w0 w : World) (hB : Below w0.heap.size w0 w) (ho0_4 : Kd.R Kd.string 9 w w0.heap.size P0_4_ u9000_ l0_4) (ho0_5 : Kd.R k99 99 w w0.heap.size P0_5_ u9001_ l0_5) (ho0_6 : Kd.R k101 101 w w0.heap.size P0_6_ u9002_ l0_6) (h : laws_markEntry.f k a0_0 a0_1 a0_2 a0_3 l0_4 l0_5 l0_6 a1 = some (r1, r2, r3, r4)) :
    Calls Try.prog 29 #[.agg #[.string a0_0, .int .i64 a0_1, .int .i64 a0_2, .string a0_3, u9000_, u9001_, u9002_], .int .i64 a1] w fun e w' => e = .returned (.int .i64 r1) ∧ Kd.R Kd.string 9 w' w0.heap.size (fun k_ => ((P0_4_ k_ ∨ P0_5_ k_ ∨ P0_6_ k_) ∨ w.heap.size ≤ k_)) u9000_ r2 ∧ Kd.R k99 99 w' w0.heap.size (fun k_ => ((P0_4_ k_ ∨ P0_5_ k_ ∨ P0_6_ k_) ∨ w.heap.size ≤ k_)) u9001_ r3 ∧ Kd.R k101 101 w' w0.heap.size (fun k_ => ((P0_4_ k_ ∨ P0_5_ k_ ∨ P0_6_ k_) ∨ w.heap.size ≤ k_)) u9002_ r4 ∧ Below w0.heap.size w0 w' ∧ Kept w w' (fun k_ => P0_4_ k_ ∨ P0_5_ k_ ∨ P0_6_ k_) := by
  have hu32 := Try.underlying32
  have HO0_4 := zq9 (show Kd.R Kd.string 9 w w0.heap.size (fun k_ => ((P0_4_ k_ ∨ P0_5_ k_ ∨ P0_6_ k_) ∨ w.heap.size ≤ k_)) u9000_ l0_4 from Kd.R_mono ho0_4 (fun k_ hk => (.inl (.inl hk))))
  have HO0_5 := zq9 (show Kd.R k99 99 w w0.heap.size (fun k_ => ((P0_4_ k_ ∨ P0_5_ k_ ∨ P0_6_ k_) ∨ w.heap.size ≤ k_)) u9001_ l0_5 from Kd.R_mono ho0_5 (fun k_ hk => (.inl (.inr (.inl hk)))))
  have HO0_6 := zq9 (show Kd.R k101 101 w w0.heap.size (fun k_ => ((P0_4_ k_ ∨ P0_5_ k_ ∨ P0_6_ k_) ∨ w.heap.size ≤ k_)) u9002_ l0_6 from Kd.R_mono ho0_6 (fun k_ hk => (.inl (.inr (.inr hk)))))
  have HK := zq9 (Kept.refl w (fun k_ => P0_4_ k_ ∨ P0_5_ k_ ∨ P0_6_ k_))
  have HW0 := zq9 hB.size; have HB := zq9 hB; clear hB
  have H : ((laws_markStringS.f k l0_4 a1).bind fun bt911 => ((laws_markScoreS.f k l0_5 bt911.1).bind fun bt913 => ((laws_markPairS.f k l0_6 bt913.1).bind fun bt915 => (some (bt915.1, bt911.2, bt913.2, bt915.2))))) = some (r1, r2, r3, r4) := h
  clear h; replace H := Option.bind_eq_some_iff.mp H
  obtain ⟨⟨t911, t912⟩, A30, H⟩ := H
  try dsimp only at H
  have A3 := zq9 A30; clear A30; replace H := Option.bind_eq_some_iff.mp H
  obtain ⟨⟨t913, t914⟩, A40, H⟩ := H
  try dsimp only at H
  have A4 := zq9 A40; clear A40; replace H := Option.bind_eq_some_iff.mp H
  obtain ⟨⟨t915, t916⟩, A50, H⟩ := H
  try dsimp only at H
  have A5 := zq9 A50; clear A50
  simp only [Option.some.injEq, Prod.mk.injEq] at H
  obtain ⟨rfl, rfl, rfl, rfl⟩ := H
  obtain ⟨Ao6, co6, eo6⟩ := Kd.R_slice HO0_4.out
  subst eo6
  obtain ⟨Ao7, co7, eo7⟩ := Kd.R_slice HO0_5.out
  subst eo7
  obtain ⟨Ao8, co8, eo8⟩ := Kd.R_slice HO0_6.out
  subst eo8
  go_enter Try.func29, Try.ntmps29
  go_wp2_with (first | ((with_reducible refine zq25 (N := 2) rfl ?_); refine bx 2 #[.string a0_0, .int .i64 a0_1, .int .i64 a0_2, .string a0_3, .slice Ao6 l0_4.length co6, .slice Ao7 l0_5.length co7, .slice Ao8 l0_6.length co8] 32 ?_; intro gb910 hg w9 hbox hb; have n0_ := zq9 (Kd.R_below (by exact rz HO0_4) hb); have n1_ := zq9 (Kd.R_below (by exact rz HO0_5) hb); have n2_ := zq9 (Kd.R_below (by exact rz HO0_6) hb); have n3_ := zq9 (Kept.below (S := (fun k_ => P0_4_ k_ ∨ P0_5_ k_ ∨ P0_6_ k_)) (by repeat (first | (with_reducible first | exact HK.out | apply Kept.alloc | apply Kept.drewN | apply Kept.drew) | exact HK.out)) hb); have n4_ := zq9 (zq27 (by exact bl HB) hb); have n5_ := zq9 (hbox); have n6_ := zq9 ((by rw [hg]; exact (by first | exact HK.out.1 | exact (show Kept w _ (fun k_ => P0_4_ k_ ∨ P0_5_ k_ ∨ P0_6_ k_) from by repeat (first | (with_reducible first | exact HK.out | apply Kept.alloc | apply Kept.drewN | apply Kept.drew) | exact HK.out)).1) : w.heap.size ≤ gb910)); have n7_ := zq9 ((by rw [hg]; exact (zq29 (by exact bl HB)) : w0.heap.size ≤ gb910)); clear HO0_4; clear HO0_5; clear HO0_6; clear HK; clear HB; have HO0_4 := n0_; have HO0_5 := n1_; have HO0_6 := n2_; have HK := n3_; have HB := n4_; have BK910 := n5_; have GW910 := n6_; have GE910 := n7_; clear n0_ n1_ n2_ n3_ n4_ n5_ n6_ n7_; clear hb hbox hg; have hcz10_0 : w9.cell? ⟨gb910, 0, none⟩ = some (.string a0_0) := bc BK910 0; have hcz10_1 : w9.cell? ⟨gb910, 1, none⟩ = some (.int .i64 a0_1) := bc BK910 1; have hcz10_2 : w9.cell? ⟨gb910, 2, none⟩ = some (.int .i64 a0_2) := bc BK910 2; have hcz10_3 : w9.cell? ⟨gb910, 3, none⟩ = some (.string a0_3) := bc BK910 3; have hcz10_4 : w9.cell? ⟨gb910, 4, none⟩ = some (.slice Ao6 l0_4.length co6) := bc BK910 4; have hcz10_5 : w9.cell? ⟨gb910, 5, none⟩ = some (.slice Ao7 l0_5.length co7) := bc BK910 5; have hcz10_6 : w9.cell? ⟨gb910, 6, none⟩ = some (.slice Ao8 l0_6.length co8) := bc BK910 6; have hfz10_0 := zq6 BK910.out 0; have hfz10_1 := zq6 BK910.out 1; have hfz10_2 := zq6 BK910.out 2; have hfz10_3 := zq6 BK910.out 3; have hfz10_4 := zq6 BK910.out 4; have hfz10_5 := zq6 BK910.out 5; have hfz10_6 := zq6 BK910.out 6) | ((with_reducible refine zq24 (f := 25) rfl ?_); refine gl (some 8) Try.func25 #[.slice Ao6 l0_4.length co6, .int .i64 a1] ?_; (with_reducible refine (laws_markStringS.calls k (fun k_ => some k_ = (.slice Ao6 l0_4.length co6 : Value).ownBlock) (.slice Ao6 l0_4.length co6) l0_4 a1 t911 t912 w0 _ ?side1 ?side2 A3.out).mono ?_); (case side1 => exact b1 HB GE910); (case side2 => exact Kd.R_tight rfl HO0_4.out); rintro e w11 ⟨rfl, hy0, hb, hkp⟩; refine ⟨_, rfl, ?_⟩; have n0_ := zq9 (Kd.R_reok rfl hy0 (fun k_ e_ => HO0_4.out.1 k_ e_)); have n1_ := zq9 (Kd.R_mono (ok' := fun k_ => ((P0_4_ k_ ∨ P0_5_ k_ ∨ P0_6_ k_) ∨ w.heap.size ≤ k_)) (Kd.R_keptB ((Kd.R_apart' HO0_5.out (Kd.R_typed HO0_4.out) (by decide))) hkp (fun k_ hk_ hs_ => (hk_.2) hs_)) (fun k_ hk_ => hk_.1.1)); have n2_ := zq9 (Kd.R_mono (ok' := fun k_ => ((P0_4_ k_ ∨ P0_5_ k_ ∨ P0_6_ k_) ∨ w.heap.size ≤ k_)) (Kd.R_keptB ((Kd.R_apart' HO0_6.out (Kd.R_typed HO0_4.out) (by decide))) hkp (fun k_ hk_ hs_ => (hk_.2) hs_)) (fun k_ hk_ => hk_.1.1)); have n3_ := zq9 (blk_kept (by exact bk BK910) hkp (fun hs_ => (fun e_ => (Kd.R_ne HO0_4.out BK910.out (by decide)) e_) hs_)); have n4_ := zq9 (Kept.then_ (S := (fun k_ => P0_4_ k_ ∨ P0_5_ k_ ∨ P0_6_ k_)) (by repeat (first | (with_reducible first | exact HK.out | apply Kept.alloc | apply Kept.drewN | apply Kept.drew | refine Kept.setCell ?_ (.inr GW910.out) _) | exact HK.out)) hkp (fun k_ hs_ => (fun e_ => (HO0_4.out.1 k_ e_.symm)) hs_)); have n5_ := zq9 (hb); clear HO0_4; clear HO0_5; clear HO0_6; clear BK910; clear HK; clear HB; have HO0_4 := n0_; have HO0_5 := n1_; have HO0_6 := n2_; have BK910 := n3_; have HK := n4_; have HB := n5_; clear n0_ n1_ n2_ n3_ n4_ n5_; (try clear hb); (try clear hkp); (try clear hy0); have hcz12_0 : w11.cell? ⟨gb910, 0, none⟩ = some (.string a0_0) := bc BK910 0; have hcz12_1 : w11.cell? ⟨gb910, 1, none⟩ = some (.int .i64 a0_1) := bc BK910 1; have hcz12_2 : w11.cell? ⟨gb910, 2, none⟩ = some (.int .i64 a0_2) := bc BK910 2; have hcz12_3 : w11.cell? ⟨gb910, 3, none⟩ = some (.string a0_3) := bc BK910 3; have hcz12_4 : w11.cell? ⟨gb910, 4, none⟩ = some (.slice Ao6 l0_4.length co6) := bc BK910 4; have hcz12_5 : w11.cell? ⟨gb910, 5, none⟩ = some (.slice Ao7 l0_5.length co7) := bc BK910 5; have hcz12_6 : w11.cell? ⟨gb910, 6, none⟩ = some (.slice Ao8 l0_6.length co8) := bc BK910 6; have hfz12_0 := zq6 BK910.out 0; have hfz12_1 := zq6 BK910.out 1; have hfz12_2 := zq6 BK910.out 2; have hfz12_3 := zq6 BK910.out 3; have hfz12_4 := zq6 BK910.out 4; have hfz12_5 := zq6 BK910.out 5; have hfz12_6 := zq6 BK910.out 6) | ((with_reducible refine zq24 (f := 69) rfl ?_); refine gl (some 12) Try.func69 #[.slice Ao7 l0_5.length co7, .int .i64 t911] ?_; (with_reducible refine (laws_markScoreS.calls k (fun k_ => some k_ = (.slice Ao7 l0_5.length co7 : Value).ownBlock) (.slice Ao7 l0_5.length co7) l0_5 t911 t913 t914 w0 _ ?side1 ?side2 A4.out).mono ?_); (case side1 => exact b1 HB GE910); (case side2 => exact Kd.R_tight rfl HO0_5.out); rintro e w13 ⟨rfl, hy0, hb, hkp⟩; refine ⟨_, rfl, ?_⟩; have n0_ := zq9 (Kd.R_mono (ok' := fun k_ => ((P0_4_ k_ ∨ P0_5_ k_ ∨ P0_6_ k_) ∨ w.heap.size ≤ k_)) (Kd.R_keptB ((Kd.R_apart' HO0_4.out (Kd.R_typed HO0_5.out) (by decide))) hkp (fun k_ hk_ hs_ => (hk_.2) hs_)) (fun k_ hk_ => hk_.1.1)); have n1_ := zq9 (Kd.R_reok rfl hy0 (fun k_ e_ => HO0_5.out.1 k_ e_)); have n2_ := zq9 (Kd.R_mono (ok' := fun k_ => ((P0_4_ k_ ∨ P0_5_ k_ ∨ P0_6_ k_) ∨ w.heap.size ≤ k_)) (Kd.R_keptB ((Kd.R_apart' HO0_6.out (Kd.R_typed HO0_5.out) (by decide))) hkp (fun k_ hk_ hs_ => (hk_.2) hs_)) (fun k_ hk_ => hk_.1.1)); have n3_ := zq9 (blk_kept (by exact bk BK910) hkp (fun hs_ => (fun e_ => (Kd.R_ne HO0_5.out BK910.out (by decide)) e_) hs_)); have n4_ := zq9 (Kept.then_ (S := (fun k_ => P0_4_ k_ ∨ P0_5_ k_ ∨ P0_6_ k_)) (by repeat (first | (with_reducible first | exact HK.out | apply Kept.alloc | apply Kept.drewN | apply Kept.drew | refine Kept.setCell ?_ (.inr GW910.out) _) | exact HK.out)) hkp (fun k_ hs_ => (fun e_ => (HO0_5.out.1 k_ e_.symm)) hs_)); have n5_ := zq9 (hb); clear HO0_4; clear HO0_5; clear HO0_6; clear BK910; clear HK; clear HB; have HO0_4 := n0_; have HO0_5 := n1_; have HO0_6 := n2_; have BK910 := n3_; have HK := n4_; have HB := n5_; clear n0_ n1_ n2_ n3_ n4_ n5_; (try clear hb); (try clear hkp); (try clear hy0); have hcz14_0 : w13.cell? ⟨gb910, 0, none⟩ = some (.string a0_0) := bc BK910 0; have hcz14_1 : w13.cell? ⟨gb910, 1, none⟩ = some (.int .i64 a0_1) := bc BK910 1; have hcz14_2 : w13.cell? ⟨gb910, 2, none⟩ = some (.int .i64 a0_2) := bc BK910 2; have hcz14_3 : w13.cell? ⟨gb910, 3, none⟩ = some (.string a0_3) := bc BK910 3; have hcz14_4 : w13.cell? ⟨gb910, 4, none⟩ = some (.slice Ao6 l0_4.length co6) := bc BK910 4; have hcz14_5 : w13.cell? ⟨gb910, 5, none⟩ = some (.slice Ao7 l0_5.length co7) := bc BK910 5; have hcz14_6 : w13.cell? ⟨gb910, 6, none⟩ = some (.slice Ao8 l0_6.length co8) := bc BK910 6; have hfz14_0 := zq6 BK910.out 0; have hfz14_1 := zq6 BK910.out 1; have hfz14_2 := zq6 BK910.out 2; have hfz14_3 := zq6 BK910.out 3; have hfz14_4 := zq6 BK910.out 4; have hfz14_5 := zq6 BK910.out 5; have hfz14_6 := zq6 BK910.out 6) | ((with_reducible refine zq24 (f := 70) rfl ?_); refine gl (some 16) Try.func70 #[.slice Ao8 l0_6.length co8, .int .i64 t913] ?_; (with_reducible refine (laws_markPairS.calls k (fun k_ => some k_ = (.slice Ao8 l0_6.length co8 : Value).ownBlock) (.slice Ao8 l0_6.length co8) l0_6 t913 t915 t916 w0 _ ?side1 ?side2 A5.out).mono ?_); (case side1 => exact b1 HB GE910); (case side2 => exact Kd.R_tight rfl HO0_6.out); rintro e w15 ⟨rfl, hy0, hb, hkp⟩; refine ⟨_, rfl, ?_⟩; have n0_ := zq9 (Kd.R_mono (ok' := fun k_ => ((P0_4_ k_ ∨ P0_5_ k_ ∨ P0_6_ k_) ∨ w.heap.size ≤ k_)) (Kd.R_keptB ((Kd.R_apart' HO0_4.out (Kd.R_typed HO0_6.out) (by decide))) hkp (fun k_ hk_ hs_ => (hk_.2) hs_)) (fun k_ hk_ => hk_.1.1)); have n1_ := zq9 (Kd.R_mono (ok' := fun k_ => ((P0_4_ k_ ∨ P0_5_ k_ ∨ P0_6_ k_) ∨ w.heap.size ≤ k_)) (Kd.R_keptB ((Kd.R_apart' HO0_5.out (Kd.R_typed HO0_6.out) (by decide))) hkp (fun k_ hk_ hs_ => (hk_.2) hs_)) (fun k_ hk_ => hk_.1.1)); have n2_ := zq9 (Kd.R_reok rfl hy0 (fun k_ e_ => HO0_6.out.1 k_ e_)); have n3_ := zq9 (blk_kept (by exact bk BK910) hkp (fun hs_ => (fun e_ => (Kd.R_ne HO0_6.out BK910.out (by decide)) e_) hs_)); have n4_ := zq9 (Kept.then_ (S := (fun k_ => P0_4_ k_ ∨ P0_5_ k_ ∨ P0_6_ k_)) (by repeat (first | (with_reducible first | exact HK.out | apply Kept.alloc | apply Kept.drewN | apply Kept.drew | refine Kept.setCell ?_ (.inr GW910.out) _) | exact HK.out)) hkp (fun k_ hs_ => (fun e_ => (HO0_6.out.1 k_ e_.symm)) hs_)); have n5_ := zq9 (hb); clear HO0_4; clear HO0_5; clear HO0_6; clear BK910; clear HK; clear HB; have HO0_4 := n0_; have HO0_5 := n1_; have HO0_6 := n2_; have BK910 := n3_; have HK := n4_; have HB := n5_; clear n0_ n1_ n2_ n3_ n4_ n5_; (try clear hb); (try clear hkp); (try clear hy0)))
  go_ret
  exact ⟨by first | rfl | (simp [errW_none, errW_some] <;> rfl) | (simp [*, errW_none, errW_some] <;> rfl), by (with_reducible repeat (first | apply zq10 | apply zq11 | apply zq12)); exact HO0_4.out, by (with_reducible repeat (first | apply zq10 | apply zq11 | apply zq12)); exact HO0_5.out, by (with_reducible repeat (first | apply zq10 | apply zq11 | apply zq12)); exact HO0_6.out, by exact b1 HB GE910, by repeat (first | (with_reducible first | exact HK.out | apply Kept.alloc | apply Kept.drewN | apply Kept.drew | refine Kept.setCell ?_ (.inr GW910.out) _) | exact HK.out)⟩
set_option maxHeartbeats 8000000 in
set_option maxRecDepth 100000 in
theorem laws_heldStringS.calls (k : Nat) (A0 : Option Addr) (c0 : Nat) (l0 : List ByteArray) (a1 : Int) (r : Int) (w : World) (hr0 : Kd.C Kd.string w A0 l0.length l0) (hc0 : l0.length ≤ c0) (h : laws_heldStringS.f k l0 a1 = some r) :
  Calls Try.prog 26 #[.slice A0 l0.length c0, .int .i64 a1] w fun e w' => e = .returned (.int .i64 r) ∧ Below w.heap.size w w' := by
 have HR0 := zq9 hr0; have HC0 := zq9 hc0; clear hr0 hc0
 have HB := zq9 (Below.refl w.heap.size w)
 have H : (laws_heldStringS.l0 k l0 a1 0) = some r := h
 clear h; have H' := zq9 H; clear H
 go_enter Try.func26, Try.ntmps26
 go_wp2
 go_loopg [1, 5] k (fun kq v1 v5 w' => ∃ (x1_1 : Int) (x5_1 : Int), v1 = .int .i64 x1_1 ∧ v5 = .int .i64 x5_1 ∧ Aside0 (laws_heldStringS.l0 kq l0 x1_1 x5_1 = some r) ∧ Aside0 (kq ≤ k) ∧ Aside0 (Below w.heap.size w w'))
 case atStart => exact ⟨(a1), (0), (by first | rfl | (simp; done) | (simp [*]; done)), (by first | rfl | (simp; done) | (simp [*]; done)), H', ⟨Nat.le_refl _⟩, ⟨by exact bl HB⟩⟩
 case round =>
  clear H'
  try clear c2
  try clear p2
  obtain ⟨x1_1, x5_1, rfl, rfl, HA, HK1, HB⟩ := hrel
  cases gk with
  | zero => exact absurd HA.out (by simp [laws_heldStringS.l0])
  | succ k1 =>
   have H := HA.out; clear HA
   simp only [laws_heldStringS.l0] at H
   by_cases c3 : x5_1 < (l0.length : Int)
   ·rw [if_pos c3] at H; have c3b0 : decide (x5_1 < (l0.length : Int)) = true := decide_eq_true c3; clear c3
    by_cases c4 : 0 ≤ x5_1
    ·rw [if_pos c4] at H; have c4b0 : decide (0 ≤ x5_1) = true := decide_eq_true c4; clear c4; replace H := Option.bind_eq_some_iff.mp H; obtain ⟨t762, A50, H⟩ := H
     try dsimp only at H
     have A5 := zq9 A50; clear A50
     by_cases c6 : (rdOf ByteArray.empty l0 x5_1).toList = t762.toList
     ·rw [if_pos c6] at H
      have c6b0 : ((rdOf ByteArray.empty l0 x5_1).toList == t762.toList) = true := beq_iff_eq.mpr c6
      have c6b1 : ((rdOf ByteArray.empty l0 x5_1).toList != t762.toList) = false := bne_eq_false_iff_eq.mpr c6
      clear c6; have H' := zq9 H; clear H
      try go_wp2
      have n0_ := zq9 (zq4 HB.out)
      clear HB; have HB := n0_; clear n0_
      have p761 : 0 ≤ (x5_1 : Int) := of_decide_eq_true ‹_›
      have q761 : x5_1 < (l0.length : Int) := of_decide_eq_true ‹_›
      obtain ⟨ad761, e761, hx761_0⟩ := Kd.at_string HR0.out x5_1 p761 q761
      have hw761_0 := hx761_0; cases e761; replace hx761_0 := hcl HB hx761_0; replace p761 := eq_true p761; replace q761 := eq_true q761
      refine start_ (n := 7) (S := fun w' => w'.cell? (ad761.add (x5_1).toNat) = some (.string (rdOf ByteArray.empty l0 x5_1))) (ds := []) #[false, false, false, false, false, false, false] (by kernel_rfl) rfl rfl ((hcm HB hw761_0)) (fun hHeld => ?_)
      generalize wr.drew = w7 at HB hx761_0 hHeld ⊢
      refine pure_ (i := 0) (N := some 12) (v := ?_) (a' := ?_) (zb 7 1) rfl rfl (by kernel_rfl) (fun _ _ _ h => h) (Or.inl ⟨by rfl, ?_⟩) ?_ ?_
      rotate_left; ·intro w'; go_simp; with_reducible rfl
      rotate_left; ·simp only [Act.put, zq0, zq1, zq2, i64_w, i32_w]; rfl
      refine pure_ (i := 1) (N := some 13) (v := ?_) (a' := ?_) (zb 7 3) rfl rfl (by kernel_rfl) (fun _ _ _ h => h) (Or.inl ⟨by rfl, ?_⟩) ?_ ?_
      rotate_left; ·intro w'; go_simp; with_reducible rfl
      rotate_left; ·simp only [Act.put, zq0, zq1, zq2, i64_w, i32_w]; rfl
      refine pure_ (i := 2) (N := some 14) (v := ?_) (a' := ?_) (zb 7 7) rfl rfl (by kernel_rfl) (fun _ _ _ h => h) (Or.inl ⟨by rfl, ?_⟩) ?_ ?_
      rotate_left; ·intro w'; go_simp; with_reducible rfl
      rotate_left; ·simp only [Act.put, zq0, zq1, zq2, i64_w, i32_w]; rfl
      refine pure_ (i := 4) (N := some 16) (v := ?_) (a' := ?_) (zb 7 23) rfl rfl (by kernel_rfl) (fun _ _ _ h => h) (Or.inl ⟨by rfl, ?_⟩) ?_ ?_
      rotate_left; ·intro w'; go_simp; with_reducible rfl
      rotate_left; ·simp only [Act.put, zq0, zq1, zq2, i64_w, i32_w]; rfl
      refine take_ (i := 3) (N := some 15) (v := ?_) (a' := ?_) (zb 7 31) rfl rfl (by kernel_rfl) (fun _ _ _ h => h) (Or.inl ⟨by rfl, ?_⟩) hHeld ?_ ?_
      rotate_left; ·intro w' s0; go_simp; with_reducible rfl
      rotate_left; ·simp only [Act.put, zq0, zq1, zq2, i64_w, i32_w]; rfl
      refine one_ (i := 5) (N := some 17) (zb 7 63) rfl rfl (by kernel_rfl) (by decide) (fun K hK => ?_)
      refine gs Try.func64 #[.int .i64 x1_1] ?_
      with_reducible refine (laws_markText.calls k1 x1_1 t762 _ A5.out).mono ?_
      rintro e w8 ⟨rfl, hb⟩
      refine ⟨_, rfl, ?_⟩
      have n0_ := zq9 (zq27 (by exact bl HB) hb)
      clear HB; have HB := n0_; clear n0_
      (try clear hb)
      (try clear hb2)
      (try clear hk)
      (try clear hi)
      refine hK.out _ _ ((hcm HB hw761_0)) (fun hHeld => ?_)
      clear hK K
      refine norm_ (a' := ?_) ?_ ?_
      rotate_left; ·show Act.put _ (some 17) _ = _; simp only [Act.put, zq0, zq1, zq2, i64_w, i32_w]; rfl
      refine pure_ (i := 6) (N := some 18) (v := ?_) (a' := ?_) (zb 7 127) rfl rfl (by kernel_rfl) (fun _ _ _ h => h) (Or.inl ⟨by rfl, ?_⟩) ?_ ?_
      rotate_left; ·intro w'; go_simp; with_reducible rfl
      rotate_left; ·simp only [Act.put, zq0, zq1, zq2, i64_w, i32_w]; rfl
      refine done_ (by kernel_rfl) ?_
      try go_wp2
      go_roundg k1
      case measure => have := HK1.out; omega
      case rel => exact ⟨(wrap64 (x1_1 + 1)), (wrap64 (x5_1 + 1)), (by first | rfl | (simp; done) | (simp [*]; done)), (by first | rfl | (simp; done) | (simp [*]; done)), H', ⟨by have := HK1.out; omega⟩, ⟨by exact bl HB⟩⟩
     ·rw [if_neg c6] at H
      have c6b0 : ((rdOf ByteArray.empty l0 x5_1).toList == t762.toList) = false := beq_eq_false_iff_ne.mpr c6
      have c6b1 : ((rdOf ByteArray.empty l0 x5_1).toList != t762.toList) = true := bne_iff_ne.mpr c6
      obtain rfl := Option.some.inj H
      try go_wp2
      have n0_ := zq9 (zq4 HB.out)
      clear HB; have HB := n0_; clear n0_
      have p761 : 0 ≤ (x5_1 : Int) := of_decide_eq_true ‹_›
      have q761 : x5_1 < (l0.length : Int) := of_decide_eq_true ‹_›
      obtain ⟨ad761, e761, hx761_0⟩ := Kd.at_string HR0.out x5_1 p761 q761
      have hw761_0 := hx761_0; cases e761; replace hx761_0 := hcl HB hx761_0; replace p761 := eq_true p761; replace q761 := eq_true q761
      refine start_ (n := 7) (S := fun w' => w'.cell? (ad761.add (x5_1).toNat) = some (.string (rdOf ByteArray.empty l0 x5_1))) (ds := []) #[false, false, false, false, false, false, false] (by kernel_rfl) rfl rfl ((hcm HB hw761_0)) (fun hHeld => ?_)
      generalize wr.drew = w9 at HB hx761_0 hHeld ⊢
      refine pure_ (i := 0) (N := some 12) (v := ?_) (a' := ?_) (zb 7 1) rfl rfl (by kernel_rfl) (fun _ _ _ h => h) (Or.inl ⟨by rfl, ?_⟩) ?_ ?_
      rotate_left; ·intro w'; go_simp; with_reducible rfl
      rotate_left; ·simp only [Act.put, zq0, zq1, zq2, i64_w, i32_w]; rfl
      refine pure_ (i := 1) (N := some 13) (v := ?_) (a' := ?_) (zb 7 3) rfl rfl (by kernel_rfl) (fun _ _ _ h => h) (Or.inl ⟨by rfl, ?_⟩) ?_ ?_
      rotate_left; ·intro w'; go_simp; with_reducible rfl
      rotate_left; ·simp only [Act.put, zq0, zq1, zq2, i64_w, i32_w]; rfl
      refine pure_ (i := 2) (N := some 14) (v := ?_) (a' := ?_) (zb 7 7) rfl rfl (by kernel_rfl) (fun _ _ _ h => h) (Or.inl ⟨by rfl, ?_⟩) ?_ ?_
      rotate_left; ·intro w'; go_simp; with_reducible rfl
      rotate_left; ·simp only [Act.put, zq0, zq1, zq2, i64_w, i32_w]; rfl
      refine pure_ (i := 4) (N := some 16) (v := ?_) (a' := ?_) (zb 7 23) rfl rfl (by kernel_rfl) (fun _ _ _ h => h) (Or.inl ⟨by rfl, ?_⟩) ?_ ?_
      rotate_left; ·intro w'; go_simp; with_reducible rfl
      rotate_left; ·simp only [Act.put, zq0, zq1, zq2, i64_w, i32_w]; rfl
      refine take_ (i := 3) (N := some 15) (v := ?_) (a' := ?_) (zb 7 31) rfl rfl (by kernel_rfl) (fun _ _ _ h => h) (Or.inl ⟨by rfl, ?_⟩) hHeld ?_ ?_
      rotate_left; ·intro w' s0; go_simp; with_reducible rfl
      rotate_left; ·simp only [Act.put, zq0, zq1, zq2, i64_w, i32_w]; rfl
      refine one_ (i := 5) (N := some 17) (zb 7 63) rfl rfl (by kernel_rfl) (by decide) (fun K hK => ?_)
      refine gs Try.func64 #[.int .i64 x1_1] ?_
      with_reducible refine (laws_markText.calls k1 x1_1 t762 _ A5.out).mono ?_
      rintro e w10 ⟨rfl, hb⟩
      refine ⟨_, rfl, ?_⟩
      have n0_ := zq9 (zq27 (by exact bl HB) hb)
      clear HB; have HB := n0_; clear n0_
      (try clear hb)
      (try clear hb2)
      (try clear hk)
      (try clear hi)
      refine hK.out _ _ ((hcm HB hw761_0)) (fun hHeld => ?_)
      clear hK K
      refine norm_ (a' := ?_) ?_ ?_
      rotate_left; ·show Act.put _ (some 17) _ = _; simp only [Act.put, zq0, zq1, zq2, i64_w, i32_w]; rfl
      refine pure_ (i := 6) (N := some 18) (v := ?_) (a' := ?_) (zb 7 127) rfl rfl (by kernel_rfl) (fun _ _ _ h => h) (Or.inl ⟨by rfl, ?_⟩) ?_ ?_
      rotate_left; ·intro w'; go_simp; with_reducible rfl
      rotate_left; ·simp only [Act.put, zq0, zq1, zq2, i64_w, i32_w]; rfl
      refine done_ (by kernel_rfl) ?_
      try go_wp2
      go_ret
      exact fz (by exact bl HB)
    ·rw [if_neg c4] at H
     exact absurd H (by simp)
   ·rw [if_neg c3] at H; have c3b0 : decide (x5_1 < (l0.length : Int)) = false := decide_eq_false c3; clear c3; obtain rfl := Option.some.inj H
    go_wp2
    go_ret
    exact fz (by exact bl HB)
def laws_heldScoreS.T4 : Bool × List (List Nat × List Nat) := (true, [([], []), ([], []), ([0, 1], [0, 1]), ([2], [2]), ([3], [3]), ([], []), ([5], [5]), ([4, 6], [4, 6])])
def laws_heldScoreS.B4 : List Nat := [0, 0, 3, 7, 15, 0, 32, 127]
theorem laws_heldScoreS.tab4 : rtab .any (opsOf Try.f71 4) = laws_heldScoreS.T4 := by kernel_rfl
theorem laws_heldScoreS.bits4 : waitsOk laws_heldScoreS.T4.2 laws_heldScoreS.B4 = true := by kernel_rfl
set_option maxHeartbeats 8000000 in
set_option maxRecDepth 100000 in
theorem laws_heldScoreS.calls (k : Nat) (A0 : Option Addr) (c0 : Nat) (l0 : List (S99)) (a1 : Int) (r : Int) (w : World) (hr0 : Kd.C k99 w A0 l0.length l0) (hc0 : l0.length ≤ c0) (h : laws_heldScoreS.f k l0 a1 = some r) :
  Calls Try.prog 71 #[.slice A0 l0.length c0, .int .i64 a1] w fun e w' => e = .returned (.int .i64 r) ∧ Below w.heap.size w w' := by
 have HR0 := zq9 hr0; have HC0 := zq9 hc0; clear hr0 hc0
 have HB := zq9 (Below.refl w.heap.size w)
 have H : (laws_heldScoreS.l0 k l0 a1 0) = some r := h
 clear h; have H' := zq9 H; clear H
 go_enter Try.func71, Try.ntmps71
 go_wp2
 go_loopg [1, 5] k (fun kq v1 v5 w' => ∃ (x1_1 : Int) (x5_1 : Int), v1 = .int .i64 x1_1 ∧ v5 = .int .i64 x5_1 ∧ Aside0 (laws_heldScoreS.l0 kq l0 x1_1 x5_1 = some r) ∧ Aside0 (kq ≤ k) ∧ Aside0 (Below w.heap.size w w'))
 case atStart => exact ⟨(a1), (0), (by first | rfl | (simp; done) | (simp [*]; done)), (by first | rfl | (simp; done) | (simp [*]; done)), H', ⟨Nat.le_refl _⟩, ⟨by exact bl HB⟩⟩
 case round =>
  clear H'
  try clear p2
  obtain ⟨x1_1, x5_1, rfl, rfl, HA, HK1, HB⟩ := hrel
  cases gk with
  | zero => exact absurd HA.out (by simp [laws_heldScoreS.l0])
  | succ k1 =>
   have H := HA.out; clear HA
   simp only [laws_heldScoreS.l0] at H
   by_cases c3 : x5_1 < (l0.length : Int)
   ·rw [if_pos c3] at H; have c3b0 : decide (x5_1 < (l0.length : Int)) = true := decide_eq_true c3; clear c3
    by_cases c4 : 0 ≤ x5_1
    ·rw [if_pos c4] at H; have c4b0 : decide (0 ≤ x5_1) = true := decide_eq_true c4; clear c4; replace H := Option.bind_eq_some_iff.mp H; obtain ⟨t918, A50, H⟩ := H
     try dsimp only at H
     have A5 := zq9 A50; clear A50
     try go_wp2
     have n0_ := zq9 (zq4 HB.out)
     clear HB; have HB := n0_; clear n0_
     have p917 : 0 ≤ (x5_1 : Int) := of_decide_eq_true ‹_›
     have q917 : x5_1 < (l0.length : Int) := of_decide_eq_true ‹_›
     obtain ⟨ad917, e917, hx917_0, hx917_1⟩ := at_T99 HR0.out x5_1 p917 q917
     have hw917_1 := hx917_1; have hw917_0 := hx917_0; cases e917; replace hx917_0 := hcl HB hx917_0; replace hx917_1 := hcl HB hx917_1; replace p917 := eq_true p917; replace q917 := eq_true q917
     refine start_ (n := 8) (S := fun w' => w'.cell? (ad917.add ((x5_1).toNat * 2)) = some (.string ((rd_T99 l0 x5_1).f0)) ∧ w'.cell? ⟨(ad917.add ((x5_1).toNat * 2)).block, (ad917.add ((x5_1).toNat * 2)).off + 1, none⟩ = some (.int .i64 ((rd_T99 l0 x5_1).f1))) (ds := []) #[false, false, false, false, false, false, false, false] (by kernel_rfl) rfl rfl ⟨(hcm HB hw917_0), (hcm HB hw917_1)⟩ (fun hHeld => ?_); refine with_tabW laws_heldScoreS.tab4 laws_heldScoreS.bits4 (fun HT_ HW_ => ?_)
     generalize wr.drew = w8 at HB hx917_0 hx917_1 hHeld ⊢
     refine pa HT_ 0 12 (zb 8 1) ?_; refine pa HT_ 1 13 (zb 8 3) ?_; refine pa HT_ 2 14 (zb 8 7) ?_; refine pa HT_ 3 15 (zb 8 15) ?_; refine pa HT_ 5 17 (zb 8 47) ?_
     refine take_ (i := 4) (N := some 16) (v := ?_) (a' := ?_) (zb 8 63) rfl rfl (take_ofW HT_.out HW_.out (by kernel_rfl)) (fun _ _ _ h => h) (Or.inl ⟨by rfl, ?_⟩) hHeld ?_ ?_
     rotate_left; ·rintro w' ⟨s0, s1⟩; go_simp; with_reducible rfl
     rotate_left; ·simp only [Act.put, zq0, zq1, zq2, i64_w, i32_w]; rfl
     refine one_ (i := 6) (N := some 18) (zb 8 127) rfl rfl (one_of HT_.out (by kernel_rfl)) (by decide) (fun K hK => ?_)
     refine gs Try.func64 #[.int .i64 x1_1] ?_
     with_reducible refine (laws_markText.calls k1 x1_1 t918 _ A5.out).mono ?_
     rintro e w9 ⟨rfl, hb⟩
     refine ⟨_, rfl, ?_⟩
     have n0_ := zq9 (zq27 (by exact bl HB) hb)
     clear HB; have HB := n0_; clear n0_
     (try clear hb)
     (try clear hb2)
     (try clear hk)
     (try clear hi)
     refine hK.out _ _ ⟨(hcm HB hw917_0), (hcm HB hw917_1)⟩ (fun hHeld => ?_)
     clear hK K
     refine norm_ (a' := ?_) ?_ ?_
     rotate_left; ·show Act.put _ (some 18) _ = _; simp only [Act.put, zq0, zq1, zq2, i64_w, i32_w]; rfl
     refine pa HT_ 7 19 (zb 8 255) ?_
     refine done_ (done_of HT_.out (by kernel_rfl)) ?_
     by_cases c6 : ((rd_T99 l0 x5_1).f0).toList = t918.toList
     ·rw [if_pos c6] at H
      have c6b0 : (((rd_T99 l0 x5_1).f0).toList == t918.toList) = true := beq_iff_eq.mpr c6
      have c6b1 : (((rd_T99 l0 x5_1).f0).toList != t918.toList) = false := bne_eq_false_iff_eq.mpr c6
      clear c6
      (try rw [c6b0]); (try rw [c6b1])
      have p919 : 0 ≤ (x5_1 : Int) := of_decide_eq_true ‹_›
      have q919 : x5_1 < (l0.length : Int) := of_decide_eq_true ‹_›
      obtain ⟨ad919, e919, hx919_0, hx919_1⟩ := at_T99 HR0.out x5_1 p919 q919
      obtain rfl : ad917 = ad919 := (by injection e919)
      replace hx919_0 := hcl HB hx919_0; replace hx919_1 := hcl HB hx919_1; replace p919 := eq_true p919; replace q919 := eq_true q919
      by_cases c7 : ((rd_T99 l0 x5_1).f1) = (wrap64 (x1_1 + 1))
      ·rw [if_pos c7] at H
       have c7b0 : (((rd_T99 l0 x5_1).f1) == (wrap64 (x1_1 + 1))) = true := beq_iff_eq.mpr c7
       have c7b1 : (((rd_T99 l0 x5_1).f1) != (wrap64 (x1_1 + 1))) = false := bne_eq_false_iff_eq.mpr c7
       clear c7; have H' := zq9 H; clear H
       (try rw [c7b0]); (try rw [c7b1])
       try go_wp2
       go_roundg k1
       case measure => have := HK1.out; omega
       case rel => exact ⟨(wrap64 ((wrap64 (x1_1 + 1)) + 1)), (wrap64 (x5_1 + 1)), (by first | rfl | (simp; done) | (simp [*]; done)), (by first | rfl | (simp; done) | (simp [*]; done)), H', ⟨by have := HK1.out; omega⟩, ⟨by exact bl HB⟩⟩
      ·rw [if_neg c7] at H
       have c7b0 : (((rd_T99 l0 x5_1).f1) == (wrap64 (x1_1 + 1))) = false := beq_eq_false_iff_ne.mpr c7
       have c7b1 : (((rd_T99 l0 x5_1).f1) != (wrap64 (x1_1 + 1))) = true := bne_iff_ne.mpr c7
       obtain rfl := Option.some.inj H
       (try rw [c7b0]); (try rw [c7b1])
       try go_wp2
       go_ret
       exact fz (by exact bl HB)
     ·rw [if_neg c6] at H
      have c6b0 : (((rd_T99 l0 x5_1).f0).toList == t918.toList) = false := beq_eq_false_iff_ne.mpr c6
      have c6b1 : (((rd_T99 l0 x5_1).f0).toList != t918.toList) = true := bne_iff_ne.mpr c6
      obtain rfl := Option.some.inj H
      (try rw [c6b0]); (try rw [c6b1])
      try go_wp2
      go_ret
      exact fz (by exact bl HB)
    ·rw [if_neg c4] at H
     exact absurd H (by simp)
   ·rw [if_neg c3] at H; have c3b0 : decide (x5_1 < (l0.length : Int)) = false := decide_eq_false c3; clear c3; obtain rfl := Option.some.inj H
    go_wp2
    go_ret
    exact fz (by exact bl HB)
def laws_heldPairS.T4 : Bool × List (List Nat × List Nat) := (true, [([], []), ([], []), ([0, 1], [0, 1]), ([2], [2]), ([3], [3]), ([], []), ([5], [5]), ([4, 6], [4, 6])])
def laws_heldPairS.B4 : List Nat := [0, 0, 3, 7, 15, 0, 32, 127]
theorem laws_heldPairS.tab4 : rtab .any (opsOf Try.f72 4) = laws_heldPairS.T4 := by kernel_rfl
theorem laws_heldPairS.bits4 : waitsOk laws_heldPairS.T4.2 laws_heldPairS.B4 = true := by kernel_rfl
def laws_heldPairS.T7 : Bool × List (List Nat × List Nat) := (true, [([], []), ([], []), ([0, 1], [0, 1]), ([2], [2]), ([3], [3]), ([], []), ([5], [5]), ([4, 6], [4, 6])])
def laws_heldPairS.B7 : List Nat := [0, 0, 3, 7, 15, 0, 32, 127]
theorem laws_heldPairS.tab7 : rtab .any (opsOf Try.f72 7) = laws_heldPairS.T7 := by kernel_rfl
theorem laws_heldPairS.bits7 : waitsOk laws_heldPairS.T7.2 laws_heldPairS.B7 = true := by kernel_rfl
set_option maxHeartbeats 8000000 in
set_option maxRecDepth 100000 in
theorem laws_heldPairS.calls (k : Nat) (A0 : Option Addr) (c0 : Nat) (l0 : List (S101)) (a1 : Int) (r : Int) (w : World) (hr0 : Kd.C k101 w A0 l0.length l0) (hc0 : l0.length ≤ c0) (h : laws_heldPairS.f k l0 a1 = some r) :
  Calls Try.prog 72 #[.slice A0 l0.length c0, .int .i64 a1] w fun e w' => e = .returned (.int .i64 r) ∧ Below w.heap.size w w' := by
 have HR0 := zq9 hr0; have HC0 := zq9 hc0; clear hr0 hc0
 have HB := zq9 (Below.refl w.heap.size w)
 have H : (laws_heldPairS.l0 k l0 a1 0) = some r := h
 clear h; have H' := zq9 H; clear H
 go_enter Try.func72, Try.ntmps72
 go_wp2
 go_loopg [1, 5] k (fun kq v1 v5 w' => ∃ (x1_1 : Int) (x5_1 : Int), v1 = .int .i64 x1_1 ∧ v5 = .int .i64 x5_1 ∧ Aside0 (laws_heldPairS.l0 kq l0 x1_1 x5_1 = some r) ∧ Aside0 (kq ≤ k) ∧ Aside0 (Below w.heap.size w w'))
 case atStart => exact ⟨(a1), (0), (by first | rfl | (simp; done) | (simp [*]; done)), (by first | rfl | (simp; done) | (simp [*]; done)), H', ⟨Nat.le_refl _⟩, ⟨by exact bl HB⟩⟩
 case round =>
  clear H'
  try clear p2
  obtain ⟨x1_1, x5_1, rfl, rfl, HA, HK1, HB⟩ := hrel
  cases gk with
  | zero => exact absurd HA.out (by simp [laws_heldPairS.l0])
  | succ k1 =>
   have H := HA.out; clear HA
   simp only [laws_heldPairS.l0] at H
   by_cases c3 : x5_1 < (l0.length : Int)
   ·rw [if_pos c3] at H; have c3b0 : decide (x5_1 < (l0.length : Int)) = true := decide_eq_true c3; clear c3
    by_cases c4 : 0 ≤ x5_1
    ·rw [if_pos c4] at H; have c4b0 : decide (0 ≤ x5_1) = true := decide_eq_true c4; clear c4; replace H := Option.bind_eq_some_iff.mp H; obtain ⟨t921, A50, H⟩ := H
     try dsimp only at H
     have A5 := zq9 A50; clear A50
     try go_wp2
     have n0_ := zq9 (zq4 HB.out)
     clear HB; have HB := n0_; clear n0_
     have p920 : 0 ≤ (x5_1 : Int) := of_decide_eq_true ‹_›
     have q920 : x5_1 < (l0.length : Int) := of_decide_eq_true ‹_›
     obtain ⟨ad920, e920, hx920_0, hx920_1⟩ := at_T101 HR0.out x5_1 p920 q920
     have hw920_1 := hx920_1; have hw920_0 := hx920_0; cases e920; replace hx920_0 := hcl HB hx920_0; replace hx920_1 := hcl HB hx920_1; replace p920 := eq_true p920; replace q920 := eq_true q920
     refine start_ (n := 8) (S := fun w' => w'.cell? (ad920.add ((x5_1).toNat * 2)) = some (.string ((rd_T101 l0 x5_1).f0)) ∧ w'.cell? ⟨(ad920.add ((x5_1).toNat * 2)).block, (ad920.add ((x5_1).toNat * 2)).off + 1, none⟩ = some (.string ((rd_T101 l0 x5_1).f1))) (ds := []) #[false, false, false, false, false, false, false, false] (by kernel_rfl) rfl rfl ⟨(hcm HB hw920_0), (hcm HB hw920_1)⟩ (fun hHeld => ?_); refine with_tabW laws_heldPairS.tab4 laws_heldPairS.bits4 (fun HT_ HW_ => ?_)
     generalize wr.drew = w9 at HB hx920_0 hx920_1 hHeld ⊢
     refine pa HT_ 0 12 (zb 8 1) ?_; refine pa HT_ 1 13 (zb 8 3) ?_; refine pa HT_ 2 14 (zb 8 7) ?_; refine pa HT_ 3 15 (zb 8 15) ?_; refine pa HT_ 5 17 (zb 8 47) ?_
     refine take_ (i := 4) (N := some 16) (v := ?_) (a' := ?_) (zb 8 63) rfl rfl (take_ofW HT_.out HW_.out (by kernel_rfl)) (fun _ _ _ h => h) (Or.inl ⟨by rfl, ?_⟩) hHeld ?_ ?_
     rotate_left; ·rintro w' ⟨s0, s1⟩; go_simp; with_reducible rfl
     rotate_left; ·simp only [Act.put, zq0, zq1, zq2, i64_w, i32_w]; rfl
     refine one_ (i := 6) (N := some 18) (zb 8 127) rfl rfl (one_of HT_.out (by kernel_rfl)) (by decide) (fun K hK => ?_)
     refine gs Try.func64 #[.int .i64 x1_1] ?_
     with_reducible refine (laws_markText.calls k1 x1_1 t921 _ A5.out).mono ?_
     rintro e w10 ⟨rfl, hb⟩
     refine ⟨_, rfl, ?_⟩
     have n0_ := zq9 (zq27 (by exact bl HB) hb)
     clear HB; have HB := n0_; clear n0_
     (try clear hb)
     (try clear hb2)
     (try clear hk)
     (try clear hi)
     refine hK.out _ _ ⟨(hcm HB hw920_0), (hcm HB hw920_1)⟩ (fun hHeld => ?_)
     clear hK K
     refine norm_ (a' := ?_) ?_ ?_
     rotate_left; ·show Act.put _ (some 18) _ = _; simp only [Act.put, zq0, zq1, zq2, i64_w, i32_w]; rfl
     refine pa HT_ 7 19 (zb 8 255) ?_
     refine done_ (done_of HT_.out (by kernel_rfl)) ?_
     by_cases c6 : ((rd_T101 l0 x5_1).f0).toList = t921.toList
     ·rw [if_pos c6] at H
      have c6b0 : (((rd_T101 l0 x5_1).f0).toList == t921.toList) = true := beq_iff_eq.mpr c6
      have c6b1 : (((rd_T101 l0 x5_1).f0).toList != t921.toList) = false := bne_eq_false_iff_eq.mpr c6
      clear c6; replace H := Option.bind_eq_some_iff.mp H; obtain ⟨t923, A70, H⟩ := H
      try dsimp only at H
      have A7 := zq9 A70; clear A70
      (try rw [c6b0]); (try rw [c6b1])
      try go_wp2
      have n0_ := zq9 (zq4 HB.out)
      clear HB; have HB := n0_; clear n0_
      have p922 : 0 ≤ (x5_1 : Int) := of_decide_eq_true ‹_›
      have q922 : x5_1 < (l0.length : Int) := of_decide_eq_true ‹_›
      obtain ⟨ad922, e922, hx922_0, hx922_1⟩ := at_T101 HR0.out x5_1 p922 q922
      have hw922_1 := hx922_1; have hw922_0 := hx922_0
      obtain rfl : ad920 = ad922 := (by injection e922)
      replace hx922_0 := hcl HB hx922_0; replace hx922_1 := hcl HB hx922_1; replace p922 := eq_true p922; replace q922 := eq_true q922
      refine start_ (n := 8) (S := fun w' => w'.cell? (ad920.add ((x5_1).toNat * 2)) = some (.string ((rd_T101 l0 x5_1).f0)) ∧ w'.cell? ⟨(ad920.add ((x5_1).toNat * 2)).block, (ad920.add ((x5_1).toNat * 2)).off + 1, none⟩ = some (.string ((rd_T101 l0 x5_1).f1))) (ds := []) #[false, false, false, false, false, false, false, false] (by kernel_rfl) rfl rfl ⟨(hcm HB hw922_0), (hcm HB hw922_1)⟩ (fun hHeld => ?_); refine with_tabW laws_heldPairS.tab7 laws_heldPairS.bits7 (fun HT_ HW_ => ?_)
      generalize w10.drew = w11 at HB hx922_0 hx922_1 hHeld ⊢
      refine pa HT_ 0 22 (zb 8 1) ?_; refine pa HT_ 1 23 (zb 8 3) ?_; refine pa HT_ 2 24 (zb 8 7) ?_; refine pa HT_ 3 25 (zb 8 15) ?_; refine pa HT_ 5 27 (zb 8 47) ?_
      refine take_ (i := 4) (N := some 26) (v := ?_) (a' := ?_) (zb 8 63) rfl rfl (take_ofW HT_.out HW_.out (by kernel_rfl)) (fun _ _ _ h => h) (Or.inl ⟨by rfl, ?_⟩) hHeld ?_ ?_
      rotate_left; ·rintro w' ⟨s0, s1⟩; go_simp; with_reducible rfl
      rotate_left; ·simp only [Act.put, zq0, zq1, zq2, i64_w, i32_w]; rfl
      refine one_ (i := 6) (N := some 28) (zb 8 127) rfl rfl (one_of HT_.out (by kernel_rfl)) (by decide) (fun K hK => ?_)
      refine gs Try.func64 #[.int .i64 (wrap64 (x1_1 + 1))] ?_
      with_reducible refine (laws_markText.calls k1 (wrap64 (x1_1 + 1)) t923 _ A7.out).mono ?_
      rintro e w12 ⟨rfl, hb⟩
      refine ⟨_, rfl, ?_⟩
      have n0_ := zq9 (zq27 (by exact bl HB) hb)
      clear HB; have HB := n0_; clear n0_
      (try clear hb)
      (try clear hb2)
      (try clear hk)
      (try clear hi)
      refine hK.out _ _ ⟨(hcm HB hw922_0), (hcm HB hw922_1)⟩ (fun hHeld => ?_)
      clear hK K
      refine norm_ (a' := ?_) ?_ ?_
      rotate_left; ·show Act.put _ (some 28) _ = _; simp only [Act.put, zq0, zq1, zq2, i64_w, i32_w]; rfl
      refine pa HT_ 7 29 (zb 8 255) ?_
      refine done_ (done_of HT_.out (by kernel_rfl)) ?_
      by_cases c8 : ((rd_T101 l0 x5_1).f1).toList = t923.toList
      ·rw [if_pos c8] at H
       have c8b0 : (((rd_T101 l0 x5_1).f1).toList == t923.toList) = true := beq_iff_eq.mpr c8
       have c8b1 : (((rd_T101 l0 x5_1).f1).toList != t923.toList) = false := bne_eq_false_iff_eq.mpr c8
       clear c8; have H' := zq9 H; clear H
       (try rw [c8b0]); (try rw [c8b1])
       try go_wp2
       go_roundg k1
       case measure => have := HK1.out; omega
       case rel => exact ⟨(wrap64 ((wrap64 (x1_1 + 1)) + 1)), (wrap64 (x5_1 + 1)), (by first | rfl | (simp; done) | (simp [*]; done)), (by first | rfl | (simp; done) | (simp [*]; done)), H', ⟨by have := HK1.out; omega⟩, ⟨by exact bl HB⟩⟩
      ·rw [if_neg c8] at H
       have c8b0 : (((rd_T101 l0 x5_1).f1).toList == t923.toList) = false := beq_eq_false_iff_ne.mpr c8
       have c8b1 : (((rd_T101 l0 x5_1).f1).toList != t923.toList) = true := bne_iff_ne.mpr c8
       obtain rfl := Option.some.inj H
       (try rw [c8b0]); (try rw [c8b1])
       try go_wp2
       go_ret
       exact fz (by exact bl HB)
     ·rw [if_neg c6] at H
      have c6b0 : (((rd_T101 l0 x5_1).f0).toList == t921.toList) = false := beq_eq_false_iff_ne.mpr c6
      have c6b1 : (((rd_T101 l0 x5_1).f0).toList != t921.toList) = true := bne_iff_ne.mpr c6
      obtain rfl := Option.some.inj H
      (try rw [c6b0]); (try rw [c6b1])
      try go_wp2
      go_ret
      exact fz (by exact bl HB)
    ·rw [if_neg c4] at H
     exact absurd H (by simp)
   ·rw [if_neg c3] at H; have c3b0 : decide (x5_1 < (l0.length : Int)) = false := decide_eq_false c3; clear c3; obtain rfl := Option.some.inj H
    go_wp2
    go_ret
    exact fz (by exact bl HB)
set_option maxHeartbeats 8000000 in
set_option maxRecDepth 100000 in
theorem laws_heldEntry.calls (k : Nat) (a0_0 : ByteArray) (a0_1 : Int) (a0_2 : Int) (a0_3 : ByteArray) (A0_4 : Option Addr) (c0_4 : Nat) (l0_4 : List ByteArray) (A0_5 : Option Addr) (c0_5 : Nat) (l0_5 : List (S99)) (A0_6 : Option Addr) (c0_6 : Nat) (l0_6 : List (S101)) (a1 : Int) (r : Int) (w : World) (hr0_4 : Kd.C Kd.string w A0_4 l0_4.length l0_4) (hc0_4 : l0_4.length ≤ c0_4) (hr0_5 : Kd.C k99 w A0_5 l0_5.length l0_5) (hc0_5 : l0_5.length ≤ c0_5) (hr0_6 : Kd.C k101 w A0_6 l0_6.length l0_6) (hc0_6 : l0_6.length ≤ c0_6) (h : laws_heldEntry.f k a0_0 a0_1 a0_2 a0_3 l0_4 l0_5 l0_6 a1 = some r) :
    Calls Try.prog 30 #[.agg #[.string a0_0, .int .i64 a0_1, .int .i64 a0_2, .string a0_3, .slice A0_4 l0_4.length c0_4, .slice A0_5 l0_5.length c0_5, .slice A0_6 l0_6.length c0_6], .int .i64 a1] w fun e w' => e = .returned (.int .i64 r) ∧ Below w.heap.size w w' := by
  have hu32 := Try.underlying32; have HR0_4 := zq9 hr0_4; have HC0_4 := zq9 hc0_4; clear hr0_4 hc0_4; have HR0_5 := zq9 hr0_5; have HC0_5 := zq9 hc0_5; clear hr0_5 hc0_5; have HR0_6 := zq9 hr0_6; have HC0_6 := zq9 hc0_6; clear hr0_6 hc0_6
  have HB := zq9 (Below.refl w.heap.size w)
  have H : ((laws_heldStringS.f k l0_4 a1).bind fun t925 => (if t925 < 0 then (some (-1)) else ((laws_heldScoreS.f k l0_5 t925).bind fun t926 => (if t926 < 0 then (some (-1)) else ((laws_heldPairS.f k l0_6 t926).bind fun t927 => (if t927 < 0 then (some (-1)) else (some t927))))))) = some r := h
  clear h; replace H := Option.bind_eq_some_iff.mp H; obtain ⟨t925, A30, H⟩ := H
  try dsimp only at H
  have A3 := zq9 A30; clear A30
  by_cases c4 : t925 < 0
  · rw [if_pos c4] at H; have c4b0 : decide (t925 < 0) = true := decide_eq_true c4; clear c4; obtain rfl := Option.some.inj H
    go_enter Try.func30, Try.ntmps30
    go_wp2_with (first | ((with_reducible refine zq25 (N := 2) rfl ?_); refine bx 2 #[.string a0_0, .int .i64 a0_1, .int .i64 a0_2, .string a0_3, .slice A0_4 l0_4.length c0_4, .slice A0_5 l0_5.length c0_5, .slice A0_6 l0_6.length c0_6] 32 ?_; intro gb924 hg w5 hbox hb; have n0_ := zq9 (zq27 (by exact bl HB) hb); have n1_ := zq9 (hbox); have n2_ := zq9 ((by rw [hg]; exact (zq29 (by exact bl HB)) : w.heap.size ≤ gb924)); have n3_ := n2_; clear HB; have HB := n0_; have BK924 := n1_; have GW924 := n2_; have GE924 := n3_; clear n0_ n1_ n2_ n3_; clear hb hbox hg; have hcz6_0 : w5.cell? ⟨gb924, 0, none⟩ = some (.string a0_0) := bc BK924 0; have hcz6_1 : w5.cell? ⟨gb924, 1, none⟩ = some (.int .i64 a0_1) := bc BK924 1; have hcz6_2 : w5.cell? ⟨gb924, 2, none⟩ = some (.int .i64 a0_2) := bc BK924 2; have hcz6_3 : w5.cell? ⟨gb924, 3, none⟩ = some (.string a0_3) := bc BK924 3; have hcz6_4 : w5.cell? ⟨gb924, 4, none⟩ = some (.slice A0_4 l0_4.length c0_4) := bc BK924 4; have hcz6_5 : w5.cell? ⟨gb924, 5, none⟩ = some (.slice A0_5 l0_5.length c0_5) := bc BK924 5; have hcz6_6 : w5.cell? ⟨gb924, 6, none⟩ = some (.slice A0_6 l0_6.length c0_6) := bc BK924 6; have hfz6_0 := zq6 BK924.out 0; have hfz6_1 := zq6 BK924.out 1; have hfz6_2 := zq6 BK924.out 2; have hfz6_3 := zq6 BK924.out 3; have hfz6_4 := zq6 BK924.out 4; have hfz6_5 := zq6 BK924.out 5; have hfz6_6 := zq6 BK924.out 6) | ((with_reducible refine zq24 (f := 26) rfl ?_); refine gl (some 8) Try.func26 #[.slice A0_4 l0_4.length c0_4, .int .i64 a1] ?_; (with_reducible refine (laws_heldStringS.calls k _ _ l0_4 a1 t925 _ ?side1 ?side2 A3.out).mono ?_); (case side1 => exact kc HR0_4 HB); (case side2 => exact HC0_4.out); rintro e w7 ⟨rfl, hb⟩; refine ⟨_, rfl, ?_⟩; have n0_ := zq9 (zq30 (g := gb924) (o := .cells #[.string a0_0, .int .i64 a0_1, .int .i64 a0_2, .string a0_3, .slice A0_4 l0_4.length c0_4, .slice A0_5 l0_5.length c0_5, .slice A0_6 l0_6.length c0_6] 32 (0, 0)) (by exact bk BK924) hb); have n1_ := zq9 (zq27 (by exact b1 HB GE924) hb); clear BK924; clear HB; have BK924 := n0_; have HB := n1_; clear n0_ n1_; (try clear hb); (try clear hb2); (try clear hk); (try clear hi)))
    go_ret
    exact fz (by exact b1 HB GE924)
  · rw [if_neg c4] at H; have c4b0 : decide (t925 < 0) = false := decide_eq_false c4; clear c4; replace H := Option.bind_eq_some_iff.mp H; obtain ⟨t926, A80, H⟩ := H
    try dsimp only at H
    have A8 := zq9 A80; clear A80
    by_cases c9 : t926 < 0
    · rw [if_pos c9] at H; have c9b0 : decide (t926 < 0) = true := decide_eq_true c9; clear c9; obtain rfl := Option.some.inj H
      go_enter Try.func30, Try.ntmps30
      go_wp2_with (first | ((with_reducible refine zq25 (N := 2) rfl ?_); refine bx 2 #[.string a0_0, .int .i64 a0_1, .int .i64 a0_2, .string a0_3, .slice A0_4 l0_4.length c0_4, .slice A0_5 l0_5.length c0_5, .slice A0_6 l0_6.length c0_6] 32 ?_; intro gb924 hg w10 hbox hb; have n0_ := zq9 (zq27 (by exact bl HB) hb); have n1_ := zq9 (hbox); have n2_ := zq9 ((by rw [hg]; exact (zq29 (by exact bl HB)) : w.heap.size ≤ gb924)); have n3_ := n2_; clear HB; have HB := n0_; have BK924 := n1_; have GW924 := n2_; have GE924 := n3_; clear n0_ n1_ n2_ n3_; clear hb hbox hg; have hcz11_0 : w10.cell? ⟨gb924, 0, none⟩ = some (.string a0_0) := bc BK924 0; have hcz11_1 : w10.cell? ⟨gb924, 1, none⟩ = some (.int .i64 a0_1) := bc BK924 1; have hcz11_2 : w10.cell? ⟨gb924, 2, none⟩ = some (.int .i64 a0_2) := bc BK924 2; have hcz11_3 : w10.cell? ⟨gb924, 3, none⟩ = some (.string a0_3) := bc BK924 3; have hcz11_4 : w10.cell? ⟨gb924, 4, none⟩ = some (.slice A0_4 l0_4.length c0_4) := bc BK924 4; have hcz11_5 : w10.cell? ⟨gb924, 5, none⟩ = some (.slice A0_5 l0_5.length c0_5) := bc BK924 5; have hcz11_6 : w10.cell? ⟨gb924, 6, none⟩ = some (.slice A0_6 l0_6.length c0_6) := bc BK924 6; have hfz11_0 := zq6 BK924.out 0; have hfz11_1 := zq6 BK924.out 1; have hfz11_2 := zq6 BK924.out 2; have hfz11_3 := zq6 BK924.out 3; have hfz11_4 := zq6 BK924.out 4; have hfz11_5 := zq6 BK924.out 5; have hfz11_6 := zq6 BK924.out 6) | ((with_reducible refine zq24 (f := 26) rfl ?_); refine gl (some 8) Try.func26 #[.slice A0_4 l0_4.length c0_4, .int .i64 a1] ?_; (with_reducible refine (laws_heldStringS.calls k _ _ l0_4 a1 t925 _ ?side1 ?side2 A3.out).mono ?_); (case side1 => exact kc HR0_4 HB); (case side2 => exact HC0_4.out); rintro e w12 ⟨rfl, hb⟩; refine ⟨_, rfl, ?_⟩; have n0_ := zq9 (zq30 (g := gb924) (o := .cells #[.string a0_0, .int .i64 a0_1, .int .i64 a0_2, .string a0_3, .slice A0_4 l0_4.length c0_4, .slice A0_5 l0_5.length c0_5, .slice A0_6 l0_6.length c0_6] 32 (0, 0)) (by exact bk BK924) hb); have n1_ := zq9 (zq27 (by exact b1 HB GE924) hb); clear BK924; clear HB; have BK924 := n0_; have HB := n1_; clear n0_ n1_; (try clear hb); (try clear hb2); (try clear hk); (try clear hi); have hcz13_0 : w12.cell? ⟨gb924, 0, none⟩ = some (.string a0_0) := bc BK924 0; have hcz13_1 : w12.cell? ⟨gb924, 1, none⟩ = some (.int .i64 a0_1) := bc BK924 1; have hcz13_2 : w12.cell? ⟨gb924, 2, none⟩ = some (.int .i64 a0_2) := bc BK924 2; have hcz13_3 : w12.cell? ⟨gb924, 3, none⟩ = some (.string a0_3) := bc BK924 3; have hcz13_4 : w12.cell? ⟨gb924, 4, none⟩ = some (.slice A0_4 l0_4.length c0_4) := bc BK924 4; have hcz13_5 : w12.cell? ⟨gb924, 5, none⟩ = some (.slice A0_5 l0_5.length c0_5) := bc BK924 5; have hcz13_6 : w12.cell? ⟨gb924, 6, none⟩ = some (.slice A0_6 l0_6.length c0_6) := bc BK924 6; have hfz13_0 := zq6 BK924.out 0; have hfz13_1 := zq6 BK924.out 1; have hfz13_2 := zq6 BK924.out 2; have hfz13_3 := zq6 BK924.out 3; have hfz13_4 := zq6 BK924.out 4; have hfz13_5 := zq6 BK924.out 5; have hfz13_6 := zq6 BK924.out 6) | ((with_reducible refine zq24 (f := 71) rfl ?_); refine gl (some 14) Try.func71 #[.slice A0_5 l0_5.length c0_5, .int .i64 t925] ?_; (with_reducible refine (laws_heldScoreS.calls k _ _ l0_5 t925 t926 _ ?side1 ?side2 A8.out).mono ?_); (case side1 => exact kc HR0_5 HB); (case side2 => exact HC0_5.out); rintro e w14 ⟨rfl, hb⟩; refine ⟨_, rfl, ?_⟩; have n0_ := zq9 (zq30 (g := gb924) (o := .cells #[.string a0_0, .int .i64 a0_1, .int .i64 a0_2, .string a0_3, .slice A0_4 l0_4.length c0_4, .slice A0_5 l0_5.length c0_5, .slice A0_6 l0_6.length c0_6] 32 (0, 0)) (by exact bk BK924) hb); have n1_ := zq9 (zq27 (by exact b1 HB GE924) hb); clear BK924; clear HB; have BK924 := n0_; have HB := n1_; clear n0_ n1_; (try clear hb); (try clear hb2); (try clear hk); (try clear hi)))
      go_ret
      exact fz (by exact b1 HB GE924)
    · rw [if_neg c9] at H; have c9b0 : decide (t926 < 0) = false := decide_eq_false c9; clear c9; replace H := Option.bind_eq_some_iff.mp H; obtain ⟨t927, A150, H⟩ := H
      try dsimp only at H
      have A15 := zq9 A150; clear A150
      by_cases c16 : t927 < 0
      · rw [if_pos c16] at H; have c16b0 : decide (t927 < 0) = true := decide_eq_true c16; clear c16; obtain rfl := Option.some.inj H
        go_enter Try.func30, Try.ntmps30
        go_wp2_with (first | ((with_reducible refine zq25 (N := 2) rfl ?_); refine bx 2 #[.string a0_0, .int .i64 a0_1, .int .i64 a0_2, .string a0_3, .slice A0_4 l0_4.length c0_4, .slice A0_5 l0_5.length c0_5, .slice A0_6 l0_6.length c0_6] 32 ?_; intro gb924 hg w17 hbox hb; have n0_ := zq9 (zq27 (by exact bl HB) hb); have n1_ := zq9 (hbox); have n2_ := zq9 ((by rw [hg]; exact (zq29 (by exact bl HB)) : w.heap.size ≤ gb924)); have n3_ := n2_; clear HB; have HB := n0_; have BK924 := n1_; have GW924 := n2_; have GE924 := n3_; clear n0_ n1_ n2_ n3_; clear hb hbox hg; have hcz18_0 : w17.cell? ⟨gb924, 0, none⟩ = some (.string a0_0) := bc BK924 0; have hcz18_1 : w17.cell? ⟨gb924, 1, none⟩ = some (.int .i64 a0_1) := bc BK924 1; have hcz18_2 : w17.cell? ⟨gb924, 2, none⟩ = some (.int .i64 a0_2) := bc BK924 2; have hcz18_3 : w17.cell? ⟨gb924, 3, none⟩ = some (.string a0_3) := bc BK924 3; have hcz18_4 : w17.cell? ⟨gb924, 4, none⟩ = some (.slice A0_4 l0_4.length c0_4) := bc BK924 4; have hcz18_5 : w17.cell? ⟨gb924, 5, none⟩ = some (.slice A0_5 l0_5.length c0_5) := bc BK924 5; have hcz18_6 : w17.cell? ⟨gb924, 6, none⟩ = some (.slice A0_6 l0_6.length c0_6) := bc BK924 6; have hfz18_0 := zq6 BK924.out 0; have hfz18_1 := zq6 BK924.out 1; have hfz18_2 := zq6 BK924.out 2; have hfz18_3 := zq6 BK924.out 3; have hfz18_4 := zq6 BK924.out 4; have hfz18_5 := zq6 BK924.out 5; have hfz18_6 := zq6 BK924.out 6) | ((with_reducible refine zq24 (f := 26) rfl ?_); refine gl (some 8) Try.func26 #[.slice A0_4 l0_4.length c0_4, .int .i64 a1] ?_; (with_reducible refine (laws_heldStringS.calls k _ _ l0_4 a1 t925 _ ?side1 ?side2 A3.out).mono ?_); (case side1 => exact kc HR0_4 HB); (case side2 => exact HC0_4.out); rintro e w19 ⟨rfl, hb⟩; refine ⟨_, rfl, ?_⟩; have n0_ := zq9 (zq30 (g := gb924) (o := .cells #[.string a0_0, .int .i64 a0_1, .int .i64 a0_2, .string a0_3, .slice A0_4 l0_4.length c0_4, .slice A0_5 l0_5.length c0_5, .slice A0_6 l0_6.length c0_6] 32 (0, 0)) (by exact bk BK924) hb); have n1_ := zq9 (zq27 (by exact b1 HB GE924) hb); clear BK924; clear HB; have BK924 := n0_; have HB := n1_; clear n0_ n1_; (try clear hb); (try clear hb2); (try clear hk); (try clear hi); have hcz20_0 : w19.cell? ⟨gb924, 0, none⟩ = some (.string a0_0) := bc BK924 0; have hcz20_1 : w19.cell? ⟨gb924, 1, none⟩ = some (.int .i64 a0_1) := bc BK924 1; have hcz20_2 : w19.cell? ⟨gb924, 2, none⟩ = some (.int .i64 a0_2) := bc BK924 2; have hcz20_3 : w19.cell? ⟨gb924, 3, none⟩ = some (.string a0_3) := bc BK924 3; have hcz20_4 : w19.cell? ⟨gb924, 4, none⟩ = some (.slice A0_4 l0_4.length c0_4) := bc BK924 4; have hcz20_5 : w19.cell? ⟨gb924, 5, none⟩ = some (.slice A0_5 l0_5.length c0_5) := bc BK924 5; have hcz20_6 : w19.cell? ⟨gb924, 6, none⟩ = some (.slice A0_6 l0_6.length c0_6) := bc BK924 6; have hfz20_0 := zq6 BK924.out 0; have hfz20_1 := zq6 BK924.out 1; have hfz20_2 := zq6 BK924.out 2; have hfz20_3 := zq6 BK924.out 3; have hfz20_4 := zq6 BK924.out 4; have hfz20_5 := zq6 BK924.out 5; have hfz20_6 := zq6 BK924.out 6) | ((with_reducible refine zq24 (f := 71) rfl ?_); refine gl (some 14) Try.func71 #[.slice A0_5 l0_5.length c0_5, .int .i64 t925] ?_; (with_reducible refine (laws_heldScoreS.calls k _ _ l0_5 t925 t926 _ ?side1 ?side2 A8.out).mono ?_); (case side1 => exact kc HR0_5 HB); (case side2 => exact HC0_5.out); rintro e w21 ⟨rfl, hb⟩; refine ⟨_, rfl, ?_⟩; have n0_ := zq9 (zq30 (g := gb924) (o := .cells #[.string a0_0, .int .i64 a0_1, .int .i64 a0_2, .string a0_3, .slice A0_4 l0_4.length c0_4, .slice A0_5 l0_5.length c0_5, .slice A0_6 l0_6.length c0_6] 32 (0, 0)) (by exact bk BK924) hb); have n1_ := zq9 (zq27 (by exact b1 HB GE924) hb); clear BK924; clear HB; have BK924 := n0_; have HB := n1_; clear n0_ n1_; (try clear hb); (try clear hb2); (try clear hk); (try clear hi); have hcz22_0 : w21.cell? ⟨gb924, 0, none⟩ = some (.string a0_0) := bc BK924 0; have hcz22_1 : w21.cell? ⟨gb924, 1, none⟩ = some (.int .i64 a0_1) := bc BK924 1; have hcz22_2 : w21.cell? ⟨gb924, 2, none⟩ = some (.int .i64 a0_2) := bc BK924 2; have hcz22_3 : w21.cell? ⟨gb924, 3, none⟩ = some (.string a0_3) := bc BK924 3; have hcz22_4 : w21.cell? ⟨gb924, 4, none⟩ = some (.slice A0_4 l0_4.length c0_4) := bc BK924 4; have hcz22_5 : w21.cell? ⟨gb924, 5, none⟩ = some (.slice A0_5 l0_5.length c0_5) := bc BK924 5; have hcz22_6 : w21.cell? ⟨gb924, 6, none⟩ = some (.slice A0_6 l0_6.length c0_6) := bc BK924 6; have hfz22_0 := zq6 BK924.out 0; have hfz22_1 := zq6 BK924.out 1; have hfz22_2 := zq6 BK924.out 2; have hfz22_3 := zq6 BK924.out 3; have hfz22_4 := zq6 BK924.out 4; have hfz22_5 := zq6 BK924.out 5; have hfz22_6 := zq6 BK924.out 6) | ((with_reducible refine zq24 (f := 72) rfl ?_); refine gl (some 20) Try.func72 #[.slice A0_6 l0_6.length c0_6, .int .i64 t926] ?_; (with_reducible refine (laws_heldPairS.calls k _ _ l0_6 t926 t927 _ ?side1 ?side2 A15.out).mono ?_); (case side1 => exact kc HR0_6 HB); (case side2 => exact HC0_6.out); rintro e w23 ⟨rfl, hb⟩; refine ⟨_, rfl, ?_⟩; have n0_ := zq9 (zq30 (g := gb924) (o := .cells #[.string a0_0, .int .i64 a0_1, .int .i64 a0_2, .string a0_3, .slice A0_4 l0_4.length c0_4, .slice A0_5 l0_5.length c0_5, .slice A0_6 l0_6.length c0_6] 32 (0, 0)) (by exact bk BK924) hb); have n1_ := zq9 (zq27 (by exact b1 HB GE924) hb); clear BK924; clear HB; have BK924 := n0_; have HB := n1_; clear n0_ n1_; (try clear hb); (try clear hb2); (try clear hk); (try clear hi)))
        go_ret
        exact fz (by exact b1 HB GE924)
      · rw [if_neg c16] at H; have c16b0 : decide (t927 < 0) = false := decide_eq_false c16; clear c16; obtain rfl := Option.some.inj H
        go_enter Try.func30, Try.ntmps30
        go_wp2_with (first | ((with_reducible refine zq25 (N := 2) rfl ?_); refine bx 2 #[.string a0_0, .int .i64 a0_1, .int .i64 a0_2, .string a0_3, .slice A0_4 l0_4.length c0_4, .slice A0_5 l0_5.length c0_5, .slice A0_6 l0_6.length c0_6] 32 ?_; intro gb924 hg w24 hbox hb; have n0_ := zq9 (zq27 (by exact bl HB) hb); have n1_ := zq9 (hbox); have n2_ := zq9 ((by rw [hg]; exact (zq29 (by exact bl HB)) : w.heap.size ≤ gb924)); have n3_ := n2_; clear HB; have HB := n0_; have BK924 := n1_; have GW924 := n2_; have GE924 := n3_; clear n0_ n1_ n2_ n3_; clear hb hbox hg; have hcz25_0 : w24.cell? ⟨gb924, 0, none⟩ = some (.string a0_0) := bc BK924 0; have hcz25_1 : w24.cell? ⟨gb924, 1, none⟩ = some (.int .i64 a0_1) := bc BK924 1; have hcz25_2 : w24.cell? ⟨gb924, 2, none⟩ = some (.int .i64 a0_2) := bc BK924 2; have hcz25_3 : w24.cell? ⟨gb924, 3, none⟩ = some (.string a0_3) := bc BK924 3; have hcz25_4 : w24.cell? ⟨gb924, 4, none⟩ = some (.slice A0_4 l0_4.length c0_4) := bc BK924 4; have hcz25_5 : w24.cell? ⟨gb924, 5, none⟩ = some (.slice A0_5 l0_5.length c0_5) := bc BK924 5; have hcz25_6 : w24.cell? ⟨gb924, 6, none⟩ = some (.slice A0_6 l0_6.length c0_6) := bc BK924 6; have hfz25_0 := zq6 BK924.out 0; have hfz25_1 := zq6 BK924.out 1; have hfz25_2 := zq6 BK924.out 2; have hfz25_3 := zq6 BK924.out 3; have hfz25_4 := zq6 BK924.out 4; have hfz25_5 := zq6 BK924.out 5; have hfz25_6 := zq6 BK924.out 6) | ((with_reducible refine zq24 (f := 26) rfl ?_); refine gl (some 8) Try.func26 #[.slice A0_4 l0_4.length c0_4, .int .i64 a1] ?_; (with_reducible refine (laws_heldStringS.calls k _ _ l0_4 a1 t925 _ ?side1 ?side2 A3.out).mono ?_); (case side1 => exact kc HR0_4 HB); (case side2 => exact HC0_4.out); rintro e w26 ⟨rfl, hb⟩; refine ⟨_, rfl, ?_⟩; have n0_ := zq9 (zq30 (g := gb924) (o := .cells #[.string a0_0, .int .i64 a0_1, .int .i64 a0_2, .string a0_3, .slice A0_4 l0_4.length c0_4, .slice A0_5 l0_5.length c0_5, .slice A0_6 l0_6.length c0_6] 32 (0, 0)) (by exact bk BK924) hb); have n1_ := zq9 (zq27 (by exact b1 HB GE924) hb); clear BK924; clear HB; have BK924 := n0_; have HB := n1_; clear n0_ n1_; (try clear hb); (try clear hb2); (try clear hk); (try clear hi); have hcz27_0 : w26.cell? ⟨gb924, 0, none⟩ = some (.string a0_0) := bc BK924 0; have hcz27_1 : w26.cell? ⟨gb924, 1, none⟩ = some (.int .i64 a0_1) := bc BK924 1; have hcz27_2 : w26.cell? ⟨gb924, 2, none⟩ = some (.int .i64 a0_2) := bc BK924 2; have hcz27_3 : w26.cell? ⟨gb924, 3, none⟩ = some (.string a0_3) := bc BK924 3; have hcz27_4 : w26.cell? ⟨gb924, 4, none⟩ = some (.slice A0_4 l0_4.length c0_4) := bc BK924 4; have hcz27_5 : w26.cell? ⟨gb924, 5, none⟩ = some (.slice A0_5 l0_5.length c0_5) := bc BK924 5; have hcz27_6 : w26.cell? ⟨gb924, 6, none⟩ = some (.slice A0_6 l0_6.length c0_6) := bc BK924 6; have hfz27_0 := zq6 BK924.out 0; have hfz27_1 := zq6 BK924.out 1; have hfz27_2 := zq6 BK924.out 2; have hfz27_3 := zq6 BK924.out 3; have hfz27_4 := zq6 BK924.out 4; have hfz27_5 := zq6 BK924.out 5; have hfz27_6 := zq6 BK924.out 6) | ((with_reducible refine zq24 (f := 71) rfl ?_); refine gl (some 14) Try.func71 #[.slice A0_5 l0_5.length c0_5, .int .i64 t925] ?_; (with_reducible refine (laws_heldScoreS.calls k _ _ l0_5 t925 t926 _ ?side1 ?side2 A8.out).mono ?_); (case side1 => exact kc HR0_5 HB); (case side2 => exact HC0_5.out); rintro e w28 ⟨rfl, hb⟩; refine ⟨_, rfl, ?_⟩; have n0_ := zq9 (zq30 (g := gb924) (o := .cells #[.string a0_0, .int .i64 a0_1, .int .i64 a0_2, .string a0_3, .slice A0_4 l0_4.length c0_4, .slice A0_5 l0_5.length c0_5, .slice A0_6 l0_6.length c0_6] 32 (0, 0)) (by exact bk BK924) hb); have n1_ := zq9 (zq27 (by exact b1 HB GE924) hb); clear BK924; clear HB; have BK924 := n0_; have HB := n1_; clear n0_ n1_; (try clear hb); (try clear hb2); (try clear hk); (try clear hi); have hcz29_0 : w28.cell? ⟨gb924, 0, none⟩ = some (.string a0_0) := bc BK924 0; have hcz29_1 : w28.cell? ⟨gb924, 1, none⟩ = some (.int .i64 a0_1) := bc BK924 1; have hcz29_2 : w28.cell? ⟨gb924, 2, none⟩ = some (.int .i64 a0_2) := bc BK924 2; have hcz29_3 : w28.cell? ⟨gb924, 3, none⟩ = some (.string a0_3) := bc BK924 3; have hcz29_4 : w28.cell? ⟨gb924, 4, none⟩ = some (.slice A0_4 l0_4.length c0_4) := bc BK924 4; have hcz29_5 : w28.cell? ⟨gb924, 5, none⟩ = some (.slice A0_5 l0_5.length c0_5) := bc BK924 5; have hcz29_6 : w28.cell? ⟨gb924, 6, none⟩ = some (.slice A0_6 l0_6.length c0_6) := bc BK924 6; have hfz29_0 := zq6 BK924.out 0; have hfz29_1 := zq6 BK924.out 1; have hfz29_2 := zq6 BK924.out 2; have hfz29_3 := zq6 BK924.out 3; have hfz29_4 := zq6 BK924.out 4; have hfz29_5 := zq6 BK924.out 5; have hfz29_6 := zq6 BK924.out 6) | ((with_reducible refine zq24 (f := 72) rfl ?_); refine gl (some 20) Try.func72 #[.slice A0_6 l0_6.length c0_6, .int .i64 t926] ?_; (with_reducible refine (laws_heldPairS.calls k _ _ l0_6 t926 t927 _ ?side1 ?side2 A15.out).mono ?_); (case side1 => exact kc HR0_6 HB); (case side2 => exact HC0_6.out); rintro e w30 ⟨rfl, hb⟩; refine ⟨_, rfl, ?_⟩; have n0_ := zq9 (zq30 (g := gb924) (o := .cells #[.string a0_0, .int .i64 a0_1, .int .i64 a0_2, .string a0_3, .slice A0_4 l0_4.length c0_4, .slice A0_5 l0_5.length c0_5, .slice A0_6 l0_6.length c0_6] 32 (0, 0)) (by exact bk BK924) hb); have n1_ := zq9 (zq27 (by exact b1 HB GE924) hb); clear BK924; clear HB; have BK924 := n0_; have HB := n1_; clear n0_ n1_; (try clear hb); (try clear hb2); (try clear hk); (try clear hi)))
        go_ret
        exact fz (by exact b1 HB GE924)
set_option maxHeartbeats 8000000 in
set_option maxRecDepth 100000 in
theorem laws_FnExactBaseGet.calls_t (k : Nat) (a0_0 : Int) (A0_1 : Option Addr) (c0_1 : Nat) (l0_1 : List (S26)) (a1 : ByteArray) (r : Bool) (w : World) (hr0_1 : Kd.C k26 w A0_1 l0_1.length l0_1) (hc0_1 : l0_1.length ≤ c0_1) (h : laws_FnExactBaseGet.f k a0_0 l0_1 a1 = some r) (hr_ : r = true) :
    Calls Try.prog 7 #[.agg #[.int .i64 a0_0, .slice A0_1 l0_1.length c0_1], .string a1] w fun e w' => e = .returned (.bool r) ∧ Below w.heap.size w w' := by
  subst hr_; have hu41 := Try.underlying41; have hu46 := Try.underlying46; have hu32 := Try.underlying32; have HR := zq9 hr0_1; have HC := zq9 hc0_1; clear hr0_1 hc0_1
  have HB := zq9 (Below.refl w.heap.size w)
  have HT := zq9 (Ok.start w)
  unfold laws_FnExactBaseGet.f at h
  by_cases cs : (a1.size : Int) > 1048576
  · have csb : decide (1048576 < (a1.size : Int)) = true := decide_eq_true cs
    have csc : decide (1048576 < a1.size) = true := decide_eq_true (by omega)
    clear h
    go_enter Try.func7, Try.ntmps7
    go_wp2_with (first
      | ((with_reducible refine zq25 (N := 2) rfl ?_); refine bx 2 #[.int .i64 a0_0, .slice A0_1 l0_1.length c0_1] 41 ?_; intro p2 hg w1 hbox hb; have n0_ := zq9 (HT.out.box hg hbox hb); have n1_ := zq9 (zq27 HB.out hb); clear HT HB hbox hg hb; have HT := n0_; have HB := n1_; clear n0_ n1_))
    go_ret
    exact ⟨rfl, HB.out⟩
  rw [if_neg cs] at h
  have csb : decide (1048576 < (a1.size : Int)) = false := decide_eq_false cs
  have csc : decide (1048576 < a1.size) = false := decide_eq_false (by omega)
  clear cs
  obtain ⟨t0, H0, h⟩ := Option.bind_eq_some_iff.mp h
  replace H0 := zq9 H0
  by_cases c0 : t0 < 0
  · have c0b : decide (t0 < 0) = true := decide_eq_true c0
    clear h
    go_enter Try.func7, Try.ntmps7
    go_wp2_with (first
      | ((with_reducible refine zq25 (N := 2) rfl ?_); refine bx 2 #[.int .i64 a0_0, .slice A0_1 l0_1.length c0_1] 41 ?_; intro p2 hg w1 hbox hb; have n0_ := zq9 (HT.out.box hg hbox hb); have n1_ := zq9 (zq27 HB.out hb); clear HT HB hbox hg hb; have HT := n0_; have HB := n1_; clear n0_ n1_; have hc0_0 : w1.cell? ⟨p2, 0, none⟩ = some (.int .i64 a0_0) := HT.out.cell 0 0 rfl rfl; have hc0_1 : w1.cell? ⟨p2, 1, none⟩ = some (.slice A0_1 l0_1.length c0_1) := HT.out.cell 0 1 rfl rfl)
      | ((with_reducible refine zq24 (f := 16) rfl ?_); refine gl (some 21) Try.func16 #[.agg #[.int .i64 a0_0, .slice A0_1 l0_1.length c0_1], .int .i64 1048576] ?_; (with_reducible refine (laws_szBase.calls k a0_0 _ _ l0_1 1048576 t0 _ ?s1 ?s2 H0.out).mono ?_); (case s1 => exact (zq31 HR.out HB.out)); (case s2 => exact HC.out); rintro e w2 ⟨rfl, hb⟩; refine ⟨_, rfl, ?_⟩; have n0_ := zq9 (HT.out.below hb); have n1_ := zq9 (zq27 HB.out hb); clear hc0_0 hc0_1 HT HB hb; have HT := n0_; have HB := n1_; clear n0_ n1_; have hc0_0 : w2.cell? ⟨p2, 0, none⟩ = some (.int .i64 a0_0) := HT.out.cell 0 0 rfl rfl; have hc0_1 : w2.cell? ⟨p2, 1, none⟩ = some (.slice A0_1 l0_1.length c0_1) := HT.out.cell 0 1 rfl rfl))
    go_ret
    exact ⟨rfl, HB.out⟩
  rw [if_neg c0] at h
  have c0b : decide (t0 < 0) = false := decide_eq_false c0
  clear c0
  obtain ⟨⟨b1, b2⟩, H1, h⟩ := Option.bind_eq_some_iff.mp h
  replace H1 := zq9 H1
  obtain ⟨⟨v1, v2, v3, v4, v5, v6, v7, v8⟩, H2, h⟩ := Option.bind_eq_some_iff.mp h
  replace H2 := zq9 H2
  obtain ⟨⟨x1, x2⟩, H3, h⟩ := Option.bind_eq_some_iff.mp h
  replace H3 := zq9 H3
  obtain ⟨⟨g1, g2, g3, g4, g5, g6, g7, g8⟩, H4, h⟩ := Option.bind_eq_some_iff.mp h
  replace H4 := zq9 H4
  obtain ⟨e1, H5, h⟩ := Option.bind_eq_some_iff.mp h
  replace H5 := zq9 H5
  obtain ⟨rfl, h⟩ := ift h
  obtain ⟨cg, h⟩ := iff_ h
  simp only [bne_iff_ne, ne_eq, Decidable.not_not] at cg
  subst cg
  obtain ⟨⟨y1, y2⟩, H6, h⟩ := Option.bind_eq_some_iff.mp h
  replace H6 := zq9 H6
  obtain ⟨e2, H7, h⟩ := Option.bind_eq_some_iff.mp h
  replace H7 := zq9 H7
  obtain ⟨rfl, h⟩ := ift h
  obtain ⟨⟨m1, m2⟩, H8, h⟩ := Option.bind_eq_some_iff.mp h
  replace H8 := zq9 H8
  obtain ⟨cm, h⟩ := iff_ h
  have cmb : decide (m1 < 0) = false := decide_eq_false cm
  clear cm
  obtain ⟨e3, H9, h⟩ := Option.bind_eq_some_iff.mp h
  replace H9 := zq9 H9
  obtain ⟨rfl, h⟩ := ift h
  obtain ⟨⟨n1, n5, n6, n7⟩, H10, h⟩ := Option.bind_eq_some_iff.mp h
  replace H10 := zq9 H10
  obtain ⟨q, H11, h⟩ := Option.bind_eq_some_iff.mp h
  replace H11 := zq9 H11
  obtain ⟨cq, h⟩ := iff_ h
  have cqb : decide (q < 0) = false := decide_eq_false cq
  clear cq
  obtain ⟨cn, h⟩ := ift h
  dsimp only at cn
  subst cn
  obtain ⟨⟨z1, z2⟩, H12, h⟩ := Option.bind_eq_some_iff.mp h
  replace H12 := zq9 H12
  obtain ⟨⟨h1, h2, h3, h4, h5, h6, h7, h8⟩, H13, h⟩ := Option.bind_eq_some_iff.mp h
  replace H13 := zq9 H13
  obtain ⟨e4, H14, h⟩ := Option.bind_eq_some_iff.mp h
  replace H14 := zq9 H14
  obtain ⟨rfl, h⟩ := ift h
  obtain ⟨ch, h⟩ := iff_ h
  simp only [bne_iff_ne, ne_eq, Decidable.not_not] at ch
  subst ch
  obtain ⟨q2, H15, h⟩ := Option.bind_eq_some_iff.mp h
  replace H15 := zq9 H15
  obtain ⟨cq, h⟩ := iff_ h
  obtain ⟨cn, h⟩ := ift h
  dsimp only at cn
  subst cn; clear h cq
  try dsimp only at H1 H2 H3 H4 H5 H6 H7 H8 H9 H10 H11 H12 H13 H14 H15
  go_enter Try.func7, Try.ntmps7
  go_wp2_with (first
    | ((with_reducible refine zq25 (N := 2) rfl ?_); refine bx 2 #[.int .i64 a0_0, .slice A0_1 l0_1.length c0_1] 41 ?_; intro p2 hg w1 hbox hb; have n0_ := zq9 (HT.out.box hg hbox hb); have n1_ := zq9 (zq27 HB.out hb); clear HT HB hbox hg hb; have HT := n0_; have HB := n1_; clear n0_ n1_; have hc0_0 : w1.cell? ⟨p2, 0, none⟩ = some (.int .i64 a0_0) := HT.out.cell 0 0 rfl rfl; have hc0_1 : w1.cell? ⟨p2, 1, none⟩ = some (.slice A0_1 l0_1.length c0_1) := HT.out.cell 0 1 rfl rfl)
    | ((with_reducible refine zq24 (f := 16) rfl ?_); refine gl (some 21) Try.func16 #[.agg #[.int .i64 a0_0, .slice A0_1 l0_1.length c0_1], .int .i64 1048576] ?_; (with_reducible refine (laws_szBase.calls k a0_0 _ _ l0_1 1048576 t0 _ ?s1 ?s2 H0.out).mono ?_); (case s1 => exact (zq31 HR.out HB.out)); (case s2 => exact HC.out); rintro e w2 ⟨rfl, hb⟩; refine ⟨_, rfl, ?_⟩; have n0_ := zq9 (HT.out.below hb); have n1_ := zq9 (zq27 HB.out hb); clear hc0_0 hc0_1 HT HB hb; have HT := n0_; have HB := n1_; clear n0_ n1_; have hc0_0 : w2.cell? ⟨p2, 0, none⟩ = some (.int .i64 a0_0) := HT.out.cell 0 0 rfl rfl; have hc0_1 : w2.cell? ⟨p2, 1, none⟩ = some (.slice A0_1 l0_1.length c0_1) := HT.out.cell 0 1 rfl rfl)
    | ((with_reducible refine zq24 (f := 18) rfl ?_); refine gl (some 26) Try.func18 #[.agg #[.int .i64 a0_0, .slice A0_1 l0_1.length c0_1]] ?_; (with_reducible refine (laws_toBase.calls k a0_0 _ _ l0_1 b1 b2 _ ?s1 ?s2 H1.out).mono ?_); (case s1 => exact (zq31 HR.out HB.out)); (case s2 => exact HC.out); rintro e w3 ⟨v0, rfl, ho, hb⟩; refine ⟨_, rfl, ?_⟩; obtain ⟨Ab, cb, rfl⟩ := Kd.S_slice ho; have n0_ := zq9 (HT.out.row HB.out.size ho hb); have n1_ := zq9 (zq27 HB.out hb); clear hc0_0 hc0_1 HT HB ho hb; have HT := n0_; have HB := n1_; clear n0_ n1_)
    | ((with_reducible refine zq24 (f := 27) rfl ?_); refine gl (some 28) Try.func27 #[.agg #[.int .i64 b1, .slice Ab b2.length cb], .string a1] ?_; (with_reducible refine (spec_BaseGet.calls k b1 _ _ b2 a1 v1 v2 v3 v4 v5 v6 v7 _ _ ?s1 ?s2 H2.out).mono ?_); (case s1 => exact HT.out.sC 1 rfl); (case s2 => exact HT.out.sle 1 rfl); rintro e w4 ⟨v4, v5, v6, rfl, ho4, ho5, ho6, hb⟩; refine ⟨_, rfl, ?_⟩; obtain ⟨Av5, cv5, rfl⟩ := Kd.R_slice ho4; obtain ⟨Av6, cv6, rfl⟩ := Kd.R_slice ho5; obtain ⟨Av7, cv7, rfl⟩ := Kd.R_slice ho6; have n0_ := zq9 (HT.out.row3 HB.out.size ho4 ho5 ho6 hb); have n1_ := zq9 (zq27 HB.out hb); clear HT HB ho4 ho5 ho6 hb; have HT := n0_; have HB := n1_; clear n0_ n1_)
    | ((with_reducible refine zq25 (N := 6) rfl ?_); refine bx 6 #[.string ⟨#[]⟩, .int .i64 0, .int .i64 0, .string ⟨#[]⟩, .slice none 0 0, .slice none 0 0, .slice none 0 0] 32 ?_; intro pv hg w5 hbox hb; have n0_ := zq9 (HT.out.box hg hbox hb); have n1_ := zq9 (zq27 HB.out hb); clear HT HB hbox hg hb; have HT := n0_; have HB := n1_; clear n0_ n1_; have hc3_0 : w5.cell? ⟨pv, 0, none⟩ = some (.string ⟨#[]⟩) := HT.out.cell 3 0 rfl rfl; have hf3_0 : w5.frozen? ⟨pv, 0, none⟩ = false := HT.out.frozen 3 0 rfl; have hc3_1 : w5.cell? ⟨pv, 1, none⟩ = some (.int .i64 0) := HT.out.cell 3 1 rfl rfl; have hf3_1 : w5.frozen? ⟨pv, 1, none⟩ = false := HT.out.frozen 3 1 rfl; have hc3_2 : w5.cell? ⟨pv, 2, none⟩ = some (.int .i64 0) := HT.out.cell 3 2 rfl rfl; have hf3_2 : w5.frozen? ⟨pv, 2, none⟩ = false := HT.out.frozen 3 2 rfl; have hc3_3 : w5.cell? ⟨pv, 3, none⟩ = some (.string ⟨#[]⟩) := HT.out.cell 3 3 rfl rfl; have hf3_3 : w5.frozen? ⟨pv, 3, none⟩ = false := HT.out.frozen 3 3 rfl; have hc3_4 : w5.cell? ⟨pv, 4, none⟩ = some (.slice none 0 0) := HT.out.cell 3 4 rfl rfl; have hf3_4 : w5.frozen? ⟨pv, 4, none⟩ = false := HT.out.frozen 3 4 rfl; have hc3_5 : w5.cell? ⟨pv, 5, none⟩ = some (.slice none 0 0) := HT.out.cell 3 5 rfl rfl; have hf3_5 : w5.frozen? ⟨pv, 5, none⟩ = false := HT.out.frozen 3 5 rfl; have hc3_6 : w5.cell? ⟨pv, 6, none⟩ = some (.slice none 0 0) := HT.out.cell 3 6 rfl rfl; have hf3_6 : w5.frozen? ⟨pv, 6, none⟩ = false := HT.out.frozen 3 6 rfl)
    | ((with_reducible refine zq26 (t := 32) (p := 6) rfl ?_); refine store_event (t := 32) (p := 6) (v := ?vo9_) (w1 := (((((((w5.setCell ⟨pv, 0, none⟩ (.string v1)).setCell ⟨pv, 1, none⟩ (.int .i64 v2)).setCell ⟨pv, 2, none⟩ (.int .i64 v3)).setCell ⟨pv, 3, none⟩ (.string v4)).setCell ⟨pv, 4, none⟩ (.slice Av5 v5.length cv5)).setCell ⟨pv, 5, none⟩ (.slice Av6 v6.length cv6)).setCell ⟨pv, 6, none⟩ (.slice Av7 v7.length cv7))) ?hg ?ho ?hn ?hr ?_; (case ho => rfl); (case hg => rfl); (case hn => rfl); (case hr => first | (go_simp; done) | (go_simp; rfl)); intro w6 hw; have n0_ : Aside0 (Ok w6 w.heap.size [boxE p2 #[.int .i64 a0_0, .slice A0_1 l0_1.length c0_1] 41, rowE k32 32 w.heap.size (.slice Ab b2.length cb) b2 w2.heap.size w3.heap.size, rowT Kd.string 9 k99 99 k101 101 w.heap.size (.slice Av5 v5.length cv5) v5 (.slice Av6 v6.length cv6) v6 (.slice Av7 v7.length cv7) v7 w3.heap.size w4.heap.size, boxE pv #[.string v1, .int .i64 v2, .int .i64 v3, .string v4, .slice Av5 v5.length cv5, .slice Av6 v6.length cv6, .slice Av7 v7.length cv7] 32]) := ⟨by rw [hw]; exact (((((((HT.out.store 3 rfl 0 (.string v1)).store 3 rfl 1 (.int .i64 v2)).store 3 rfl 2 (.int .i64 v3)).store 3 rfl 3 (.string v4)).store 3 rfl 4 (.slice Av5 v5.length cv5)).store 3 rfl 5 (.slice Av6 v6.length cv6)).store 3 rfl 6 (.slice Av7 v7.length cv7))⟩; have n1_ : Aside0 (Below w.heap.size w w6) := ⟨by rw [hw]; exact (zq28 (zq28 (zq28 (zq28 (zq28 (zq28 (zq28 HB.out (HT.out.ge 3 rfl)) (HT.out.ge 3 rfl)) (HT.out.ge 3 rfl)) (HT.out.ge 3 rfl)) (HT.out.ge 3 rfl)) (HT.out.ge 3 rfl)) (HT.out.ge 3 rfl))⟩; clear hc3_0 hf3_0 hc3_1 hf3_1 hc3_2 hf3_2 hc3_3 hf3_3 hc3_4 hf3_4 hc3_5 hf3_5 hc3_6 hf3_6 HT HB hw; have HT := n0_; have HB := n1_; clear n0_ n1_; have hc0_0 : w6.cell? ⟨p2, 0, none⟩ = some (.int .i64 a0_0) := HT.out.cell 0 0 rfl rfl; have hc0_1 : w6.cell? ⟨p2, 1, none⟩ = some (.slice A0_1 l0_1.length c0_1) := HT.out.cell 0 1 rfl rfl)
    | ((with_reducible refine zq24 (f := 18) rfl ?_); refine gl (some 32) Try.func18 #[.agg #[.int .i64 a0_0, .slice A0_1 l0_1.length c0_1]] ?_; (with_reducible refine (laws_toBase.calls k a0_0 _ _ l0_1 x1 x2 _ ?s1 ?s2 H3.out).mono ?_); (case s1 => exact (zq31 HR.out HB.out)); (case s2 => exact HC.out); rintro e w7 ⟨v0, rfl, ho, hb⟩; refine ⟨_, rfl, ?_⟩; obtain ⟨Ax, cx, rfl⟩ := Kd.S_slice ho; have n0_ := zq9 (HT.out.row HB.out.size ho hb); have n1_ := zq9 (zq27 HB.out hb); clear hc0_0 hc0_1 HT HB ho hb; have HT := n0_; have HB := n1_; clear n0_ n1_)
    | ((with_reducible refine zq25 (N := 8) rfl ?_); refine bx 8 #[.int .i64 0, .slice none 0 0] 46 ?_; intro px hg w8 hbox hb; have n0_ := zq9 (HT.out.box hg hbox hb); have n1_ := zq9 (zq27 HB.out hb); clear HT HB hbox hg hb; have HT := n0_; have HB := n1_; clear n0_ n1_; have hc5_0 : w8.cell? ⟨px, 0, none⟩ = some (.int .i64 0) := HT.out.cell 5 0 rfl rfl; have hf5_0 : w8.frozen? ⟨px, 0, none⟩ = false := HT.out.frozen 5 0 rfl; have hc5_1 : w8.cell? ⟨px, 1, none⟩ = some (.slice none 0 0) := HT.out.cell 5 1 rfl rfl; have hf5_1 : w8.frozen? ⟨px, 1, none⟩ = false := HT.out.frozen 5 1 rfl)
    | ((with_reducible refine zq26 (t := 46) (p := 8) rfl ?_); refine store_event (t := 46) (p := 8) (v := ?vo10_) (w1 := ((w8.setCell ⟨px, 0, none⟩ (.int .i64 x1)).setCell ⟨px, 1, none⟩ (.slice Ax x2.length cx))) ?hg ?ho ?hn ?hr ?_; (case ho => rfl); (case hg => rfl); (case hn => rfl); (case hr => first | (go_simp; done) | (go_simp; rfl)); intro w9 hw; have n0_ : Aside0 (Ok w9 w.heap.size [boxE p2 #[.int .i64 a0_0, .slice A0_1 l0_1.length c0_1] 41, rowE k32 32 w.heap.size (.slice Ab b2.length cb) b2 w2.heap.size w3.heap.size, rowT Kd.string 9 k99 99 k101 101 w.heap.size (.slice Av5 v5.length cv5) v5 (.slice Av6 v6.length cv6) v6 (.slice Av7 v7.length cv7) v7 w3.heap.size w4.heap.size, boxE pv #[.string v1, .int .i64 v2, .int .i64 v3, .string v4, .slice Av5 v5.length cv5, .slice Av6 v6.length cv6, .slice Av7 v7.length cv7] 32, rowE k32 32 w.heap.size (.slice Ax x2.length cx) x2 w6.heap.size w7.heap.size, boxE px #[.int .i64 x1, .slice Ax x2.length cx] 46]) := ⟨by rw [hw]; exact ((HT.out.store 5 rfl 0 (.int .i64 x1)).store 5 rfl 1 (.slice Ax x2.length cx))⟩; have n1_ : Aside0 (Below w.heap.size w w9) := ⟨by rw [hw]; exact (zq28 (zq28 HB.out (HT.out.ge 5 rfl)) (HT.out.ge 5 rfl))⟩; clear hc5_0 hf5_0 hc5_1 hf5_1 HT HB hw; have HT := n0_; have HB := n1_; clear n0_ n1_; have hc5_0 : w9.cell? ⟨px, 0, none⟩ = some (.int .i64 x1) := HT.out.cell 5 0 rfl rfl; have hc5_1 : w9.cell? ⟨px, 1, none⟩ = some (.slice Ax x2.length cx) := HT.out.cell 5 1 rfl rfl)
    | ((with_reducible refine zq24 (f := 28) rfl ?_); refine gl (some 36) Try.func28 #[.agg #[.int .i64 x1, .slice Ax x2.length cx], .string a1] ?_; (with_reducible refine (impl_BaseGet.calls k x1 _ _ x2 a1 g1 g2 g3 g4 g5 g6 g7 _ _ ?s1 ?s2 H4.out).mono ?_); (case s1 => exact HT.out.sC 4 rfl); (case s2 => exact HT.out.sle 4 rfl); rintro e w10 ⟨v4, v5, v6, rfl, ho4, ho5, ho6, hb⟩; refine ⟨_, rfl, ?_⟩; obtain ⟨Ag5, cg5, rfl⟩ := Kd.R_slice ho4; obtain ⟨Ag6, cg6, rfl⟩ := Kd.R_slice ho5; obtain ⟨Ag7, cg7, rfl⟩ := Kd.R_slice ho6; have n0_ := zq9 (HT.out.row3 HB.out.size ho4 ho5 ho6 hb); have n1_ := zq9 (zq27 HB.out hb); clear hc5_0 hc5_1 HT HB ho4 ho5 ho6 hb; have HT := n0_; have HB := n1_; clear n0_ n1_)
    | ((with_reducible refine zq25 (N := 9) rfl ?_); refine bx 9 #[.string ⟨#[]⟩, .int .i64 0, .int .i64 0, .string ⟨#[]⟩, .slice none 0 0, .slice none 0 0, .slice none 0 0] 32 ?_; intro pg hg w11 hbox hb; have n0_ := zq9 (HT.out.box hg hbox hb); have n1_ := zq9 (zq27 HB.out hb); clear HT HB hbox hg hb; have HT := n0_; have HB := n1_; clear n0_ n1_; have hc7_0 : w11.cell? ⟨pg, 0, none⟩ = some (.string ⟨#[]⟩) := HT.out.cell 7 0 rfl rfl; have hf7_0 : w11.frozen? ⟨pg, 0, none⟩ = false := HT.out.frozen 7 0 rfl; have hc7_1 : w11.cell? ⟨pg, 1, none⟩ = some (.int .i64 0) := HT.out.cell 7 1 rfl rfl; have hf7_1 : w11.frozen? ⟨pg, 1, none⟩ = false := HT.out.frozen 7 1 rfl; have hc7_2 : w11.cell? ⟨pg, 2, none⟩ = some (.int .i64 0) := HT.out.cell 7 2 rfl rfl; have hf7_2 : w11.frozen? ⟨pg, 2, none⟩ = false := HT.out.frozen 7 2 rfl; have hc7_3 : w11.cell? ⟨pg, 3, none⟩ = some (.string ⟨#[]⟩) := HT.out.cell 7 3 rfl rfl; have hf7_3 : w11.frozen? ⟨pg, 3, none⟩ = false := HT.out.frozen 7 3 rfl; have hc7_4 : w11.cell? ⟨pg, 4, none⟩ = some (.slice none 0 0) := HT.out.cell 7 4 rfl rfl; have hf7_4 : w11.frozen? ⟨pg, 4, none⟩ = false := HT.out.frozen 7 4 rfl; have hc7_5 : w11.cell? ⟨pg, 5, none⟩ = some (.slice none 0 0) := HT.out.cell 7 5 rfl rfl; have hf7_5 : w11.frozen? ⟨pg, 5, none⟩ = false := HT.out.frozen 7 5 rfl; have hc7_6 : w11.cell? ⟨pg, 6, none⟩ = some (.slice none 0 0) := HT.out.cell 7 6 rfl rfl; have hf7_6 : w11.frozen? ⟨pg, 6, none⟩ = false := HT.out.frozen 7 6 rfl)
    | ((with_reducible refine zq26 (t := 32) (p := 9) rfl ?_); refine store_event (t := 32) (p := 9) (v := ?vo11_) (w1 := (((((((w11.setCell ⟨pg, 0, none⟩ (.string g1)).setCell ⟨pg, 1, none⟩ (.int .i64 g2)).setCell ⟨pg, 2, none⟩ (.int .i64 g3)).setCell ⟨pg, 3, none⟩ (.string g4)).setCell ⟨pg, 4, none⟩ (.slice Ag5 g5.length cg5)).setCell ⟨pg, 5, none⟩ (.slice Ag6 g6.length cg6)).setCell ⟨pg, 6, none⟩ (.slice Ag7 g7.length cg7))) ?hg ?ho ?hn ?hr ?_; (case ho => rfl); (case hg => rfl); (case hn => rfl); (case hr => first | (go_simp; done) | (go_simp; rfl)); intro w12 hw; have n0_ : Aside0 (Ok w12 w.heap.size [boxE p2 #[.int .i64 a0_0, .slice A0_1 l0_1.length c0_1] 41, rowE k32 32 w.heap.size (.slice Ab b2.length cb) b2 w2.heap.size w3.heap.size, rowT Kd.string 9 k99 99 k101 101 w.heap.size (.slice Av5 v5.length cv5) v5 (.slice Av6 v6.length cv6) v6 (.slice Av7 v7.length cv7) v7 w3.heap.size w4.heap.size, boxE pv #[.string v1, .int .i64 v2, .int .i64 v3, .string v4, .slice Av5 v5.length cv5, .slice Av6 v6.length cv6, .slice Av7 v7.length cv7] 32, rowE k32 32 w.heap.size (.slice Ax x2.length cx) x2 w6.heap.size w7.heap.size, boxE px #[.int .i64 x1, .slice Ax x2.length cx] 46, rowT Kd.string 9 k99 99 k101 101 w.heap.size (.slice Ag5 g5.length cg5) g5 (.slice Ag6 g6.length cg6) g6 (.slice Ag7 g7.length cg7) g7 w9.heap.size w10.heap.size, boxE pg #[.string g1, .int .i64 g2, .int .i64 g3, .string g4, .slice Ag5 g5.length cg5, .slice Ag6 g6.length cg6, .slice Ag7 g7.length cg7] 32]) := ⟨by rw [hw]; exact (((((((HT.out.store 7 rfl 0 (.string g1)).store 7 rfl 1 (.int .i64 g2)).store 7 rfl 2 (.int .i64 g3)).store 7 rfl 3 (.string g4)).store 7 rfl 4 (.slice Ag5 g5.length cg5)).store 7 rfl 5 (.slice Ag6 g6.length cg6)).store 7 rfl 6 (.slice Ag7 g7.length cg7))⟩; have n1_ : Aside0 (Below w.heap.size w w12) := ⟨by rw [hw]; exact (zq28 (zq28 (zq28 (zq28 (zq28 (zq28 (zq28 HB.out (HT.out.ge 7 rfl)) (HT.out.ge 7 rfl)) (HT.out.ge 7 rfl)) (HT.out.ge 7 rfl)) (HT.out.ge 7 rfl)) (HT.out.ge 7 rfl)) (HT.out.ge 7 rfl))⟩; clear hc7_0 hf7_0 hc7_1 hf7_1 hc7_2 hf7_2 hc7_3 hf7_3 hc7_4 hf7_4 hc7_5 hf7_5 hc7_6 hf7_6 HT HB hw; have HT := n0_; have HB := n1_; clear n0_ n1_; have hc7_0 : w12.cell? ⟨pg, 0, none⟩ = some (.string g1) := HT.out.cell 7 0 rfl rfl; have hc7_1 : w12.cell? ⟨pg, 1, none⟩ = some (.int .i64 g2) := HT.out.cell 7 1 rfl rfl; have hc7_2 : w12.cell? ⟨pg, 2, none⟩ = some (.int .i64 g3) := HT.out.cell 7 2 rfl rfl; have hc7_3 : w12.cell? ⟨pg, 3, none⟩ = some (.string g4) := HT.out.cell 7 3 rfl rfl; have hc7_4 : w12.cell? ⟨pg, 4, none⟩ = some (.slice Ag5 g5.length cg5) := HT.out.cell 7 4 rfl rfl; have hc7_5 : w12.cell? ⟨pg, 5, none⟩ = some (.slice Ag6 g6.length cg6) := HT.out.cell 7 5 rfl rfl; have hc7_6 : w12.cell? ⟨pg, 6, none⟩ = some (.slice Ag7 g7.length cg7) := HT.out.cell 7 6 rfl rfl; have hc3_0 : w12.cell? ⟨pv, 0, none⟩ = some (.string v1) := HT.out.cell 3 0 rfl rfl; have hc3_1 : w12.cell? ⟨pv, 1, none⟩ = some (.int .i64 v2) := HT.out.cell 3 1 rfl rfl; have hc3_2 : w12.cell? ⟨pv, 2, none⟩ = some (.int .i64 v3) := HT.out.cell 3 2 rfl rfl; have hc3_3 : w12.cell? ⟨pv, 3, none⟩ = some (.string v4) := HT.out.cell 3 3 rfl rfl; have hc3_4 : w12.cell? ⟨pv, 4, none⟩ = some (.slice Av5 v5.length cv5) := HT.out.cell 3 4 rfl rfl; have hc3_5 : w12.cell? ⟨pv, 5, none⟩ = some (.slice Av6 v6.length cv6) := HT.out.cell 3 5 rfl rfl; have hc3_6 : w12.cell? ⟨pv, 6, none⟩ = some (.slice Av7 v7.length cv7) := HT.out.cell 3 6 rfl rfl)
    | ((with_reducible refine zq24 (f := 14) rfl ?_); refine gl (some 41) Try.func14 #[.agg #[.string g1, .int .i64 g2, .int .i64 g3, .string g4, .slice Ag5 g5.length cg5, .slice Ag6 g6.length cg6, .slice Ag7 g7.length cg7], .agg #[.string v1, .int .i64 v2, .int .i64 v3, .string v4, .slice Av5 v5.length cv5, .slice Av6 v6.length cv6, .slice Av7 v7.length cv7]] ?_; (with_reducible refine (laws_eqEntry.calls k g1 g2 g3 g4 _ _ g5 _ _ g6 _ _ g7 v1 v2 v3 v4 _ _ v5 _ _ v6 _ _ v7 true _ ?s1 ?s2 ?s3 ?s4 ?s5 ?s6 ?s7 ?s8 ?s9 ?s10 ?s11 ?s12 H5.out).mono ?_); (case s1 => exact HT.out.t4C 6 rfl); (case s2 => exact HT.out.t4le 6 rfl); (case s3 => exact HT.out.t5C 6 rfl); (case s4 => exact HT.out.t5le 6 rfl); (case s5 => exact HT.out.t6C 6 rfl); (case s6 => exact HT.out.t6le 6 rfl); (case s7 => exact HT.out.t4C 2 rfl); (case s8 => exact HT.out.t4le 2 rfl); (case s9 => exact HT.out.t5C 2 rfl); (case s10 => exact HT.out.t5le 2 rfl); (case s11 => exact HT.out.t6C 2 rfl); (case s12 => exact HT.out.t6le 2 rfl); rintro e w13 ⟨rfl, hb⟩; refine ⟨_, rfl, ?_⟩; have n0_ := zq9 (HT.out.below hb); have n1_ := zq9 (zq27 HB.out hb); clear hc7_0 hc7_1 hc7_2 hc7_3 hc7_4 hc7_5 hc7_6 hc3_0 hc3_1 hc3_2 hc3_3 hc3_4 hc3_5 hc3_6 HT HB hb; have HT := n0_; have HB := n1_; clear n0_ n1_))
  have n0_ := zq9 (HT.out.below (below_drew (Below.refl _ _)))
  have n1_ := zq9 (below_drew HB.out)
  clear HT HB; have HT := n0_; have HB := n1_; clear n0_ n1_
  refine start_ (n := 5) (S := fun w' => w'.cell? ⟨px, 0, none⟩ = some (.int .i64 x1) ∧ w'.cell? ⟨px, 1, none⟩ = some (.slice Ax x2.length cx) ∧ w'.cell? ⟨p2, 0, none⟩ = some (.int .i64 a0_0) ∧ w'.cell? ⟨p2, 1, none⟩ = some (.slice A0_1 l0_1.length c0_1)) (ds := []) #[false, false, false, false, false] (by kernel_rfl) rfl rfl ⟨HT.out.cell 5 0 rfl rfl, HT.out.cell 5 1 rfl rfl, HT.out.cell 0 0 rfl rfl, HT.out.cell 0 1 rfl rfl⟩ (fun hHeld => ?_)
  generalize w13.drew = w14 at HT HB hHeld ⊢
  refine take_ (i := 0) (N := some 48) (v := ?_) (a' := ?_) (zb 5 1) rfl rfl (by kernel_rfl) (fun _ _ _ h => h) (Or.inl ⟨by rfl, ?_⟩) hHeld ?_ ?_
  rotate_left; · rintro w' ⟨s0, s1, s2, s3⟩; go_simp; with_reducible rfl
  rotate_left; · simp only [Act.put, zq0, zq1, zq2, i64_w, i32_w]; rfl
  refine take_ (i := 1) (N := some 49) (v := ?_) (a' := ?_) (zb 5 3) rfl rfl (by kernel_rfl) (fun _ _ _ h => h) (Or.inl ⟨by rfl, ?_⟩) hHeld ?_ ?_
  rotate_left; · rintro w' ⟨s0, s1, s2, s3⟩; go_simp; with_reducible rfl
  rotate_left; · simp only [Act.put, zq0, zq1, zq2, i64_w, i32_w]; rfl
  refine one_ (i := 2) (N := some 50) (zb 5 7) rfl rfl (by kernel_rfl) (by decide) (fun K hK => ?_)
  refine gs Try.func18 #[.agg #[.int .i64 a0_0, .slice A0_1 l0_1.length c0_1]] ?_
  (with_reducible refine (laws_toBase.calls k a0_0 _ _ l0_1 y1 y2 _ ?s1 ?s2 H6.out).mono ?_)
  (case s1 => exact (zq31 HR.out HB.out))
  (case s2 => exact HC.out)
  rintro e w15 ⟨v0, rfl, ho, hb⟩
  refine ⟨_, rfl, ?_⟩
  obtain ⟨Ay, cy, rfl⟩ := Kd.S_slice ho
  have n0_ := zq9 (HT.out.row HB.out.size ho hb)
  have n1_ := zq9 (zq27 HB.out hb)
  clear HT HB ho hb; have HT := n0_; have HB := n1_; clear n0_ n1_
  refine hK.out _ _ ⟨HT.out.cell 5 0 rfl rfl, HT.out.cell 5 1 rfl rfl, HT.out.cell 0 0 rfl rfl, HT.out.cell 0 1 rfl rfl⟩ (fun hHeld => ?_)
  clear hK K
  refine norm_ (a' := ?_) ?_ ?_
  rotate_left; · show Act.put _ (some 50) _ = _; simp only [Act.put, zq0, zq1, zq2, i64_w, i32_w]; rfl
  refine one_ (i := 3) (N := some 51) (zb 5 15) rfl rfl (by kernel_rfl) (by decide) (fun K hK => ?_)
  refine gs Try.func20 #[.agg #[.int .i64 x1, .slice Ax x2.length cx], .agg #[.int .i64 y1, .slice Ay y2.length cy]] ?_
  (with_reducible refine (laws_eqBase.calls k x1 _ _ x2 y1 _ _ y2 true _ ?s1 ?s2 ?s3 ?s4 H7.out).mono ?_)
  (case s1 => exact HT.out.sC 4 rfl)
  (case s2 => exact HT.out.sle 4 rfl)
  (case s3 => exact HT.out.sC 8 rfl)
  (case s4 => exact HT.out.sle 8 rfl)
  rintro e w16 ⟨rfl, hb⟩
  refine ⟨_, rfl, ?_⟩
  have n0_ := zq9 (HT.out.below hb)
  have n1_ := zq9 (zq27 HB.out hb)
  clear HT HB hb; have HT := n0_; have HB := n1_; clear n0_ n1_
  refine hK.out _ _ ⟨HT.out.cell 5 0 rfl rfl, HT.out.cell 5 1 rfl rfl, HT.out.cell 0 0 rfl rfl, HT.out.cell 0 1 rfl rfl⟩ (fun hHeld => ?_)
  clear hK K
  refine norm_ (a' := ?_) ?_ ?_
  rotate_left; · show Act.put _ (some 51) _ = _; simp only [Act.put, zq0, zq1, zq2, i64_w, i32_w]; rfl
  refine pure_ (i := 4) (N := some 52) (v := ?_) (a' := ?_) (zb 5 31) rfl rfl (by kernel_rfl) (fun _ _ _ h => h) (Or.inl ⟨by rfl, ?_⟩) ?_ ?_
  rotate_left; · intro w'; go_simp; with_reducible rfl
  rotate_left; · simp only [Act.put, zq0, zq1, zq2, i64_w, i32_w]; rfl
  refine done_ (by kernel_rfl) ?_
  have hc5_0 : w16.cell? ⟨px, 0, none⟩ = some (.int .i64 x1) := HT.out.cell 5 0 rfl rfl; have hc5_1 : w16.cell? ⟨px, 1, none⟩ = some (.slice Ax x2.length cx) := HT.out.cell 5 1 rfl rfl
  go_wp2_with (first
    | ((with_reducible refine zq24 (f := 24) rfl ?_); refine gl (some 55) Try.func24 #[.agg #[.int .i64 x1, .slice Ax x2.length cx], .int .i64 1] ?_; (with_reducible refine (laws_markBase.calls k x1 (fun k_ => w6.heap.size ≤ k_ ∧ k_ < w7.heap.size) _ x2 1 _ m2 w _ ?s1 ?s2 H8.out).mono ?_); (case s1 => exact HB.out); (case s2 => exact HT.out.s 4 rfl); rintro e w17 ⟨rfl, ho, hb, hk⟩; refine ⟨_, rfl, ?_⟩; have n0_ := zq9 (HT.out.mark 4 rfl ho hk); have n1_ := zq9 hb; have lm := zq9 (show x2.length = m2.length from (Kd.S_reads' ho).1); clear hc5_0 hc5_1 HT HB ho hb hk; have HT := n0_; have HB := n1_; clear n0_ n1_; have hc7_0 : w17.cell? ⟨pg, 0, none⟩ = some (.string g1) := HT.out.cell 7 0 rfl rfl; have hc7_1 : w17.cell? ⟨pg, 1, none⟩ = some (.int .i64 g2) := HT.out.cell 7 1 rfl rfl; have hc7_2 : w17.cell? ⟨pg, 2, none⟩ = some (.int .i64 g3) := HT.out.cell 7 2 rfl rfl; have hc7_3 : w17.cell? ⟨pg, 3, none⟩ = some (.string g4) := HT.out.cell 7 3 rfl rfl; have hc7_4 : w17.cell? ⟨pg, 4, none⟩ = some (.slice Ag5 g5.length cg5) := HT.out.cell 7 4 rfl rfl; have hc7_5 : w17.cell? ⟨pg, 5, none⟩ = some (.slice Ag6 g6.length cg6) := HT.out.cell 7 5 rfl rfl; have hc7_6 : w17.cell? ⟨pg, 6, none⟩ = some (.slice Ag7 g7.length cg7) := HT.out.cell 7 6 rfl rfl; have hc3_0 : w17.cell? ⟨pv, 0, none⟩ = some (.string v1) := HT.out.cell 3 0 rfl rfl; have hc3_1 : w17.cell? ⟨pv, 1, none⟩ = some (.int .i64 v2) := HT.out.cell 3 1 rfl rfl; have hc3_2 : w17.cell? ⟨pv, 2, none⟩ = some (.int .i64 v3) := HT.out.cell 3 2 rfl rfl; have hc3_3 : w17.cell? ⟨pv, 3, none⟩ = some (.string v4) := HT.out.cell 3 3 rfl rfl; have hc3_4 : w17.cell? ⟨pv, 4, none⟩ = some (.slice Av5 v5.length cv5) := HT.out.cell 3 4 rfl rfl; have hc3_5 : w17.cell? ⟨pv, 5, none⟩ = some (.slice Av6 v6.length cv6) := HT.out.cell 3 5 rfl rfl; have hc3_6 : w17.cell? ⟨pv, 6, none⟩ = some (.slice Av7 v7.length cv7) := HT.out.cell 3 6 rfl rfl)
    | (go_at_call 14; (with_reducible refine (laws_eqEntry.calls k g1 g2 g3 g4 _ _ g5 _ _ g6 _ _ g7 v1 v2 v3 v4 _ _ v5 _ _ v6 _ _ v7 true _ ?s1 ?s2 ?s3 ?s4 ?s5 ?s6 ?s7 ?s8 ?s9 ?s10 ?s11 ?s12 H9.out).mono ?_); (case s1 => exact HT.out.t4C 6 rfl); (case s2 => exact HT.out.t4le 6 rfl); (case s3 => exact HT.out.t5C 6 rfl); (case s4 => exact HT.out.t5le 6 rfl); (case s5 => exact HT.out.t6C 6 rfl); (case s6 => exact HT.out.t6le 6 rfl); (case s7 => exact HT.out.t4C 2 rfl); (case s8 => exact HT.out.t4le 2 rfl); (case s9 => exact HT.out.t5C 2 rfl); (case s10 => exact HT.out.t5le 2 rfl); (case s11 => exact HT.out.t6C 2 rfl); (case s12 => exact HT.out.t6le 2 rfl); rintro e w18 ⟨rfl, hb⟩; have n0_ := zq9 (HT.out.below hb); have n1_ := zq9 (zq27 HB.out hb); clear hc7_0 hc7_1 hc7_2 hc7_3 hc7_4 hc7_5 hc7_6 hc3_0 hc3_1 hc3_2 hc3_3 hc3_4 hc3_5 hc3_6 HT HB hb; have HT := n0_; have HB := n1_; clear n0_ n1_; have hc7_0 : w18.cell? ⟨pg, 0, none⟩ = some (.string g1) := HT.out.cell 7 0 rfl rfl; have hc7_1 : w18.cell? ⟨pg, 1, none⟩ = some (.int .i64 g2) := HT.out.cell 7 1 rfl rfl; have hc7_2 : w18.cell? ⟨pg, 2, none⟩ = some (.int .i64 g3) := HT.out.cell 7 2 rfl rfl; have hc7_3 : w18.cell? ⟨pg, 3, none⟩ = some (.string g4) := HT.out.cell 7 3 rfl rfl; have hc7_4 : w18.cell? ⟨pg, 4, none⟩ = some (.slice Ag5 g5.length cg5) := HT.out.cell 7 4 rfl rfl; have hc7_5 : w18.cell? ⟨pg, 5, none⟩ = some (.slice Ag6 g6.length cg6) := HT.out.cell 7 5 rfl rfl; have hc7_6 : w18.cell? ⟨pg, 6, none⟩ = some (.slice Ag7 g7.length cg7) := HT.out.cell 7 6 rfl rfl)
    | ((with_reducible refine zq24 (f := 29) rfl ?_); refine gl (some 71) Try.func29 #[.agg #[.string g1, .int .i64 g2, .int .i64 g3, .string g4, .slice Ag5 g5.length cg5, .slice Ag6 g6.length cg6, .slice Ag7 g7.length cg7], .int .i64 1] ?_; (with_reducible refine (laws_markEntry.calls k g1 g2 g3 g4 (fun k => some k = (Value.slice Ag5 g5.length cg5).ownBlock) _ g5 (fun k => some k = (Value.slice Ag6 g6.length cg6).ownBlock) _ g6 (fun k => some k = (Value.slice Ag7 g7.length cg7).ownBlock) _ g7 1 _ n5 n6 n7 w _ ?s1 ?s2 ?s3 ?s4 H10.out).mono ?_); (case s1 => exact HB.out); (case s2 => exact Kd.R_tight rfl (HT.out.tt 6 rfl).1); (case s3 => exact Kd.R_tight rfl (HT.out.tt 6 rfl).2.1); (case s4 => exact Kd.R_tight rfl (HT.out.tt 6 rfl).2.2); rintro e w19 ⟨rfl, ho4, ho5, ho6, hb, hk⟩; refine ⟨_, rfl, ?_⟩; have n0_ := zq9 (HT.out.markT 6 rfl rfl rfl rfl ho4 ho5 ho6 hk); have n1_ := zq9 hb; have l5 := zq9 (show g5.length = n5.length from (Kd.R_reads' ho4).1); have l6 := zq9 (show g6.length = n6.length from (Kd.R_reads' ho5).1); have l7 := zq9 (show g7.length = n7.length from (Kd.R_reads' ho6).1); clear hc7_0 hc7_1 hc7_2 hc7_3 hc7_4 hc7_5 hc7_6 HT HB ho4 ho5 ho6 hb hk; have HT := n0_; have HB := n1_; clear n0_ n1_; have hc7_0 : w19.cell? ⟨pg, 0, none⟩ = some (.string g1) := HT.out.cell 7 0 rfl rfl; have hc7_1 : w19.cell? ⟨pg, 1, none⟩ = some (.int .i64 g2) := HT.out.cell 7 1 rfl rfl; have hc7_2 : w19.cell? ⟨pg, 2, none⟩ = some (.int .i64 g3) := HT.out.cell 7 2 rfl rfl; have hc7_3 : w19.cell? ⟨pg, 3, none⟩ = some (.string g4) := HT.out.cell 7 3 rfl rfl; have hc7_4 : w19.cell? ⟨pg, 4, none⟩ = some (.slice Ag5 g5.length cg5) := HT.out.cell 7 4 rfl rfl; have hc7_5 : w19.cell? ⟨pg, 5, none⟩ = some (.slice Ag6 g6.length cg6) := HT.out.cell 7 5 rfl rfl; have hc7_6 : w19.cell? ⟨pg, 6, none⟩ = some (.slice Ag7 g7.length cg7) := HT.out.cell 7 6 rfl rfl)
    | ((with_reducible refine zq24 (f := 30) rfl ?_); refine gl (some 74) Try.func30 #[.agg #[.string g1, .int .i64 g2, .int .i64 g3, .string g4, .slice Ag5 g5.length cg5, .slice Ag6 g6.length cg6, .slice Ag7 g7.length cg7], .int .i64 1] ?_; refine calls_of_args (args' := #[.agg #[.string g1, .int .i64 g2, .int .i64 g3, .string g4, .slice Ag5 n5.length cg5, .slice Ag6 n6.length cg6, .slice Ag7 n7.length cg7], .int .i64 1]) (by rw [l5.out, l6.out, l7.out]) ?_; (with_reducible refine (laws_heldEntry.calls k g1 g2 g3 g4 _ _ n5 _ _ n6 _ _ n7 1 _ _ ?s1 ?s2 ?s3 ?s4 ?s5 ?s6 H11.out).mono ?_); (case s1 => exact HT.out.t4C 6 rfl); (case s2 => exact HT.out.t4le 6 rfl); (case s3 => exact HT.out.t5C 6 rfl); (case s4 => exact HT.out.t5le 6 rfl); (case s5 => exact HT.out.t6C 6 rfl); (case s6 => exact HT.out.t6le 6 rfl); rintro e w20 ⟨rfl, hb⟩; refine ⟨_, rfl, ?_⟩; have n0_ := zq9 (HT.out.below hb); have n1_ := zq9 (zq27 HB.out hb); clear hc7_0 hc7_1 hc7_2 hc7_3 hc7_4 hc7_5 hc7_6 HT HB hb; have HT := n0_; have HB := n1_; clear n0_ n1_; have hc0_0 : w20.cell? ⟨p2, 0, none⟩ = some (.int .i64 a0_0) := HT.out.cell 0 0 rfl rfl; have hc0_1 : w20.cell? ⟨p2, 1, none⟩ = some (.slice A0_1 l0_1.length c0_1) := HT.out.cell 0 1 rfl rfl)
    | ((with_reducible refine zq24 (f := 18) rfl ?_); refine gl (some 82) Try.func18 #[.agg #[.int .i64 a0_0, .slice A0_1 l0_1.length c0_1]] ?_; (with_reducible refine (laws_toBase.calls k a0_0 _ _ l0_1 z1 z2 _ ?s1 ?s2 H12.out).mono ?_); (case s1 => exact (zq31 HR.out HB.out)); (case s2 => exact HC.out); rintro e w21 ⟨v0, rfl, ho, hb⟩; refine ⟨_, rfl, ?_⟩; obtain ⟨Az, cz, rfl⟩ := Kd.S_slice ho; have n0_ := zq9 (HT.out.row HB.out.size ho hb); have n1_ := zq9 (zq27 HB.out hb); clear hc0_0 hc0_1 HT HB ho hb; have HT := n0_; have HB := n1_; clear n0_ n1_)
    | ((with_reducible refine zq24 (f := 28) rfl ?_); refine gl (some 84) Try.func28 #[.agg #[.int .i64 z1, .slice Az z2.length cz], .string a1] ?_; (with_reducible refine (impl_BaseGet.calls k z1 _ _ z2 a1 h1 h2 h3 h4 h5 h6 h7 _ _ ?s1 ?s2 H13.out).mono ?_); (case s1 => exact HT.out.sC 9 rfl); (case s2 => exact HT.out.sle 9 rfl); rintro e w22 ⟨v4, v5, v6, rfl, ho4, ho5, ho6, hb⟩; refine ⟨_, rfl, ?_⟩; obtain ⟨Ah5, ch5, rfl⟩ := Kd.R_slice ho4; obtain ⟨Ah6, ch6, rfl⟩ := Kd.R_slice ho5; obtain ⟨Ah7, ch7, rfl⟩ := Kd.R_slice ho6; have n0_ := zq9 (HT.out.row3 HB.out.size ho4 ho5 ho6 hb); have n1_ := zq9 (zq27 HB.out hb); clear HT HB ho4 ho5 ho6 hb; have HT := n0_; have HB := n1_; clear n0_ n1_)
    | ((with_reducible refine zq25 (N := 14) rfl ?_); refine bx 14 #[.string ⟨#[]⟩, .int .i64 0, .int .i64 0, .string ⟨#[]⟩, .slice none 0 0, .slice none 0 0, .slice none 0 0] 32 ?_; intro ph hg w23 hbox hb; have n0_ := zq9 (HT.out.box hg hbox hb); have n1_ := zq9 (zq27 HB.out hb); clear HT HB hbox hg hb; have HT := n0_; have HB := n1_; clear n0_ n1_; have hc11_0 : w23.cell? ⟨ph, 0, none⟩ = some (.string ⟨#[]⟩) := HT.out.cell 11 0 rfl rfl; have hf11_0 : w23.frozen? ⟨ph, 0, none⟩ = false := HT.out.frozen 11 0 rfl; have hc11_1 : w23.cell? ⟨ph, 1, none⟩ = some (.int .i64 0) := HT.out.cell 11 1 rfl rfl; have hf11_1 : w23.frozen? ⟨ph, 1, none⟩ = false := HT.out.frozen 11 1 rfl; have hc11_2 : w23.cell? ⟨ph, 2, none⟩ = some (.int .i64 0) := HT.out.cell 11 2 rfl rfl; have hf11_2 : w23.frozen? ⟨ph, 2, none⟩ = false := HT.out.frozen 11 2 rfl; have hc11_3 : w23.cell? ⟨ph, 3, none⟩ = some (.string ⟨#[]⟩) := HT.out.cell 11 3 rfl rfl; have hf11_3 : w23.frozen? ⟨ph, 3, none⟩ = false := HT.out.frozen 11 3 rfl; have hc11_4 : w23.cell? ⟨ph, 4, none⟩ = some (.slice none 0 0) := HT.out.cell 11 4 rfl rfl; have hf11_4 : w23.frozen? ⟨ph, 4, none⟩ = false := HT.out.frozen 11 4 rfl; have hc11_5 : w23.cell? ⟨ph, 5, none⟩ = some (.slice none 0 0) := HT.out.cell 11 5 rfl rfl; have hf11_5 : w23.frozen? ⟨ph, 5, none⟩ = false := HT.out.frozen 11 5 rfl; have hc11_6 : w23.cell? ⟨ph, 6, none⟩ = some (.slice none 0 0) := HT.out.cell 11 6 rfl rfl; have hf11_6 : w23.frozen? ⟨ph, 6, none⟩ = false := HT.out.frozen 11 6 rfl)
    | ((with_reducible refine zq26 (t := 32) (p := 14) rfl ?_); refine store_event (t := 32) (p := 14) (v := ?vo12_) (w1 := (((((((w23.setCell ⟨ph, 0, none⟩ (.string h1)).setCell ⟨ph, 1, none⟩ (.int .i64 h2)).setCell ⟨ph, 2, none⟩ (.int .i64 h3)).setCell ⟨ph, 3, none⟩ (.string h4)).setCell ⟨ph, 4, none⟩ (.slice Ah5 h5.length ch5)).setCell ⟨ph, 5, none⟩ (.slice Ah6 h6.length ch6)).setCell ⟨ph, 6, none⟩ (.slice Ah7 h7.length ch7))) ?hg ?ho ?hn ?hr ?_; (case ho => rfl); (case hg => rfl); (case hn => rfl); (case hr => first | (go_simp; done) | (go_simp; rfl)); intro w24 hw; have n0_ : Aside0 (Ok w24 w.heap.size [boxE p2 #[.int .i64 a0_0, .slice A0_1 l0_1.length c0_1] 41, rowE k32 32 w.heap.size (.slice Ab b2.length cb) b2 w2.heap.size w3.heap.size, rowT Kd.string 9 k99 99 k101 101 w.heap.size (.slice Av5 v5.length cv5) v5 (.slice Av6 v6.length cv6) v6 (.slice Av7 v7.length cv7) v7 w3.heap.size w4.heap.size, boxE pv #[.string v1, .int .i64 v2, .int .i64 v3, .string v4, .slice Av5 v5.length cv5, .slice Av6 v6.length cv6, .slice Av7 v7.length cv7] 32, rowE k32 32 w.heap.size (.slice Ax x2.length cx) m2 w6.heap.size w7.heap.size, boxE px #[.int .i64 x1, .slice Ax x2.length cx] 46, rowT Kd.string 9 k99 99 k101 101 w.heap.size (.slice Ag5 g5.length cg5) n5 (.slice Ag6 g6.length cg6) n6 (.slice Ag7 g7.length cg7) n7 w9.heap.size w10.heap.size, boxE pg #[.string g1, .int .i64 g2, .int .i64 g3, .string g4, .slice Ag5 g5.length cg5, .slice Ag6 g6.length cg6, .slice Ag7 g7.length cg7] 32, rowE k32 32 w.heap.size (.slice Ay y2.length cy) y2 w14.heap.size w15.heap.size, rowE k32 32 w.heap.size (.slice Az z2.length cz) z2 w20.heap.size w21.heap.size, rowT Kd.string 9 k99 99 k101 101 w.heap.size (.slice Ah5 h5.length ch5) h5 (.slice Ah6 h6.length ch6) h6 (.slice Ah7 h7.length ch7) h7 w21.heap.size w22.heap.size, boxE ph #[.string h1, .int .i64 h2, .int .i64 h3, .string h4, .slice Ah5 h5.length ch5, .slice Ah6 h6.length ch6, .slice Ah7 h7.length ch7] 32]) := ⟨by rw [hw]; exact (((((((HT.out.store 11 rfl 0 (.string h1)).store 11 rfl 1 (.int .i64 h2)).store 11 rfl 2 (.int .i64 h3)).store 11 rfl 3 (.string h4)).store 11 rfl 4 (.slice Ah5 h5.length ch5)).store 11 rfl 5 (.slice Ah6 h6.length ch6)).store 11 rfl 6 (.slice Ah7 h7.length ch7))⟩; have n1_ : Aside0 (Below w.heap.size w w24) := ⟨by rw [hw]; exact (zq28 (zq28 (zq28 (zq28 (zq28 (zq28 (zq28 HB.out (HT.out.ge 11 rfl)) (HT.out.ge 11 rfl)) (HT.out.ge 11 rfl)) (HT.out.ge 11 rfl)) (HT.out.ge 11 rfl)) (HT.out.ge 11 rfl)) (HT.out.ge 11 rfl))⟩; clear hc11_0 hf11_0 hc11_1 hf11_1 hc11_2 hf11_2 hc11_3 hf11_3 hc11_4 hf11_4 hc11_5 hf11_5 hc11_6 hf11_6 HT HB hw; have HT := n0_; have HB := n1_; clear n0_ n1_; have hc11_0 : w24.cell? ⟨ph, 0, none⟩ = some (.string h1) := HT.out.cell 11 0 rfl rfl; have hc11_1 : w24.cell? ⟨ph, 1, none⟩ = some (.int .i64 h2) := HT.out.cell 11 1 rfl rfl; have hc11_2 : w24.cell? ⟨ph, 2, none⟩ = some (.int .i64 h3) := HT.out.cell 11 2 rfl rfl; have hc11_3 : w24.cell? ⟨ph, 3, none⟩ = some (.string h4) := HT.out.cell 11 3 rfl rfl; have hc11_4 : w24.cell? ⟨ph, 4, none⟩ = some (.slice Ah5 h5.length ch5) := HT.out.cell 11 4 rfl rfl; have hc11_5 : w24.cell? ⟨ph, 5, none⟩ = some (.slice Ah6 h6.length ch6) := HT.out.cell 11 5 rfl rfl; have hc11_6 : w24.cell? ⟨ph, 6, none⟩ = some (.slice Ah7 h7.length ch7) := HT.out.cell 11 6 rfl rfl; have hc3_0 : w24.cell? ⟨pv, 0, none⟩ = some (.string v1) := HT.out.cell 3 0 rfl rfl; have hc3_1 : w24.cell? ⟨pv, 1, none⟩ = some (.int .i64 v2) := HT.out.cell 3 1 rfl rfl; have hc3_2 : w24.cell? ⟨pv, 2, none⟩ = some (.int .i64 v3) := HT.out.cell 3 2 rfl rfl; have hc3_3 : w24.cell? ⟨pv, 3, none⟩ = some (.string v4) := HT.out.cell 3 3 rfl rfl; have hc3_4 : w24.cell? ⟨pv, 4, none⟩ = some (.slice Av5 v5.length cv5) := HT.out.cell 3 4 rfl rfl; have hc3_5 : w24.cell? ⟨pv, 5, none⟩ = some (.slice Av6 v6.length cv6) := HT.out.cell 3 5 rfl rfl; have hc3_6 : w24.cell? ⟨pv, 6, none⟩ = some (.slice Av7 v7.length cv7) := HT.out.cell 3 6 rfl rfl)
    | ((with_reducible refine zq24 (f := 14) rfl ?_); refine gl (some 89) Try.func14 #[.agg #[.string h1, .int .i64 h2, .int .i64 h3, .string h4, .slice Ah5 h5.length ch5, .slice Ah6 h6.length ch6, .slice Ah7 h7.length ch7], .agg #[.string v1, .int .i64 v2, .int .i64 v3, .string v4, .slice Av5 v5.length cv5, .slice Av6 v6.length cv6, .slice Av7 v7.length cv7]] ?_; (with_reducible refine (laws_eqEntry.calls k h1 h2 h3 h4 _ _ h5 _ _ h6 _ _ h7 v1 v2 v3 v4 _ _ v5 _ _ v6 _ _ v7 true _ ?s1 ?s2 ?s3 ?s4 ?s5 ?s6 ?s7 ?s8 ?s9 ?s10 ?s11 ?s12 H14.out).mono ?_); (case s1 => exact HT.out.t4C 10 rfl); (case s2 => exact HT.out.t4le 10 rfl); (case s3 => exact HT.out.t5C 10 rfl); (case s4 => exact HT.out.t5le 10 rfl); (case s5 => exact HT.out.t6C 10 rfl); (case s6 => exact HT.out.t6le 10 rfl); (case s7 => exact HT.out.t4C 2 rfl); (case s8 => exact HT.out.t4le 2 rfl); (case s9 => exact HT.out.t5C 2 rfl); (case s10 => exact HT.out.t5le 2 rfl); (case s11 => exact HT.out.t6C 2 rfl); (case s12 => exact HT.out.t6le 2 rfl); rintro e w25 ⟨rfl, hb⟩; refine ⟨_, rfl, ?_⟩; have n0_ := zq9 (HT.out.below hb); have n1_ := zq9 (zq27 HB.out hb); clear hc11_0 hc11_1 hc11_2 hc11_3 hc11_4 hc11_5 hc11_6 hc3_0 hc3_1 hc3_2 hc3_3 hc3_4 hc3_5 hc3_6 HT HB hb; have HT := n0_; have HB := n1_; clear n0_ n1_; have hc7_0 : w25.cell? ⟨pg, 0, none⟩ = some (.string g1) := HT.out.cell 7 0 rfl rfl; have hc7_1 : w25.cell? ⟨pg, 1, none⟩ = some (.int .i64 g2) := HT.out.cell 7 1 rfl rfl; have hc7_2 : w25.cell? ⟨pg, 2, none⟩ = some (.int .i64 g3) := HT.out.cell 7 2 rfl rfl; have hc7_3 : w25.cell? ⟨pg, 3, none⟩ = some (.string g4) := HT.out.cell 7 3 rfl rfl; have hc7_4 : w25.cell? ⟨pg, 4, none⟩ = some (.slice Ag5 g5.length cg5) := HT.out.cell 7 4 rfl rfl; have hc7_5 : w25.cell? ⟨pg, 5, none⟩ = some (.slice Ag6 g6.length cg6) := HT.out.cell 7 5 rfl rfl; have hc7_6 : w25.cell? ⟨pg, 6, none⟩ = some (.slice Ag7 g7.length cg7) := HT.out.cell 7 6 rfl rfl)
    | ((with_reducible refine zq24 (f := 30) rfl ?_); refine gl (some 98) Try.func30 #[.agg #[.string g1, .int .i64 g2, .int .i64 g3, .string g4, .slice Ag5 g5.length cg5, .slice Ag6 g6.length cg6, .slice Ag7 g7.length cg7], .int .i64 1] ?_; refine calls_of_args (args' := #[.agg #[.string g1, .int .i64 g2, .int .i64 g3, .string g4, .slice Ag5 n5.length cg5, .slice Ag6 n6.length cg6, .slice Ag7 n7.length cg7], .int .i64 1]) (by rw [l5.out, l6.out, l7.out]) ?_; (with_reducible refine (laws_heldEntry.calls k g1 g2 g3 g4 _ _ n5 _ _ n6 _ _ n7 1 _ _ ?s1 ?s2 ?s3 ?s4 ?s5 ?s6 H15.out).mono ?_); (case s1 => exact HT.out.t4C 6 rfl); (case s2 => exact HT.out.t4le 6 rfl); (case s3 => exact HT.out.t5C 6 rfl); (case s4 => exact HT.out.t5le 6 rfl); (case s5 => exact HT.out.t6C 6 rfl); (case s6 => exact HT.out.t6le 6 rfl); rintro e w26 ⟨rfl, hb⟩; refine ⟨_, rfl, ?_⟩; have n0_ := zq9 (HT.out.below hb); have n1_ := zq9 (zq27 HB.out hb); clear hc7_0 hc7_1 hc7_2 hc7_3 hc7_4 hc7_5 hc7_6 HT HB hb; have HT := n0_; have HB := n1_; clear n0_ n1_))
  go_ret
  exact ⟨rfl, HB.out⟩
end Go.Proofs.Ytnkgmcgbbldkgaa.P
namespace Go.Proofs.Ytnkgmcgbbldkgaa.Q
open Go.RowKit Go.Proofs.YtnkgmcgbbldkgaaW.PrintWords Go.Proofs.YtnkgmcgbbldkgaaW.PrintLast
def Opens {α H : Type} (enc : TypeId × Value → H) (P : Program) (W : World) (t : TypeId) (d : Kd α) (ok : α → Prop) : Prop :=
  ∀ (fuel : Nat) (cs : List Value) (y : DataW H × List MemPlace), DataW.trod enc P W 0 (fun _ => true) true fuel t cs = some y → ∃ x : α, d.K W x cs ∧ ok x
section
variable {α β H : Type} {enc : TypeId × Value → H} {P : Program} {W : World} {t e : TypeId}
theorem Opens.int {k : IntKind} (ht : P.underlying t = some (.int k)) : Opens enc P W t (Kd.int k) (fun x => (Lit.int k x).wf = true) := by
  intro fuel cs y h
  obtain ⟨n, rfl, _, hn⟩ := DataW.trod_int ht h
  exact ⟨n, rfl, hn⟩
theorem Opens.string (ht : P.underlying t = some .string) : Opens enc P W t Kd.string (fun x => x.size ≤ maxLen) := by
  intro fuel cs y h
  obtain ⟨s, rfl, _, hs⟩ := DataW.trod_string ht h
  exact ⟨s, rfl, hs⟩
theorem cells_len {b : Nat} {a : Addr} {n : Nat} {cs : List Value} (h : W.cells? b a n = some cs) : cs.length = n := by
  unfold World.cells? at h
  split at h
  · simpa using mapM_some_length h
  · cases h
theorem cells_get {b : Nat} {a : Addr} {n : Nat} {cs : List Value} (h : W.cells? b a n = some cs) (i : Nat) (u : Value) (hu : cs[i]? = some u) : W.cell? (a.add i) = some u := by
  have hl := cells_len h
  have hi : i < n := by rw [← hl]; exact (List.getElem?_eq_some_iff.1 hu).1
  unfold World.cells? at h
  split at h
  · rw [← hu]; exact mapM_some_get h i i (by simp [hi])
  · cases h
theorem each_of {γ : Type} {Q : Nat → γ → Prop} (n : Nat) (h : ∀ i, i < n → ∃ x, Q i x) : ∃ l : List γ, l.length = n ∧ ∀ i x, l[i]? = some x → Q i x := by
  induction n with
  | zero => exact ⟨[], rfl, fun i x hx => by simp at hx⟩
  | succ n ih =>
    obtain ⟨l, hl, hq⟩ := ih (fun i hi => h i (by omega))
    obtain ⟨x, hx⟩ := h n (by omega)
    refine ⟨l ++ [x], by simp [hl], fun i y hy => ?_⟩
    rcases Nat.lt_or_ge i l.length with hi | hi
    · rw [List.getElem?_append_left hi] at hy
      exact hq i y hy
    · rw [List.getElem?_append_right hi] at hy
      have : i - l.length = 0 := by
        have := (List.getElem?_eq_some_iff.1 hy).1
        simp at this
        omega
      rw [this] at hy
      injection hy with hy
      obtain rfl : i = n := by omega
      exact hy ▸ hx
theorem Opens.slice {d : Kd α} {ok : α → Prop} (ht : P.underlying t = some (.slice e)) (hc : P.cellsOf e = d.sz) (h : Opens enc P W e d ok) :
    Opens enc P W t (Kd.slice e d) (fun xs => xs.length ≤ maxLen ∧ ∀ x ∈ xs, ok x) := by
  intro fuel cs y hy
  rcases DataW.trod_slice ht hy with ⟨rfl, _⟩ | ⟨a, len, cap, elems, rest, n, _, rfl, _, hb, hl, hm, hlen, hel, _, _⟩
  · exact ⟨[], ⟨none, 0, rfl, Nat.le_refl _, rfl, by simp, fun h => by simp at h⟩, by simp, by simp⟩
  · have each : ∀ i, i < len → ∃ x : α, (∃ c, c.length = d.sz ∧ d.K W x c ∧ ∀ j u, c[j]? = some u → W.cell? (a.add (i * d.sz + j)) = some u) ∧ ok x := by
      intro i hi
      have h1 := hel i hi
      rw [List.getElem?_eq_getElem (by omega)] at h1
      obtain ⟨c, h2, h3⟩ := Option.bind_eq_some_iff.1 h1
      obtain ⟨x, hK, hx⟩ := h _ _ _ h3
      rw [hc] at h2
      refine ⟨x, ⟨c, d.K_len hK, hK, fun j u hu => ?_⟩, hx⟩
      have h4 := cells_get h2 j u hu
      rwa [add_add] at h4
    obtain ⟨l, hll, hq⟩ := each_of len each
    subst hll
    refine ⟨l, ⟨some a, cap, rfl, hl, rfl, ?_, fun _ => ⟨a, rfl, fun j p hp => (hq j p hp).1⟩⟩, by omega, fun x hx => ?_⟩
    · unfold maxLen at hm; omega
    · obtain ⟨i, hi, rfl⟩ := List.getElem_of_mem hx
      exact (hq i _ (List.getElem?_eq_getElem hi)).2
theorem Opens.iso {d : Kd α} {ok : α → Prop} (f : β → α) (g : α → β) (hfg : ∀ a, f (g a) = a) (h : Opens enc P W t d ok) : Opens enc P W t (Kd.iso d f) (fun x => ok (f x)) := by
  intro fuel cs y hy
  obtain ⟨x, hK, hx⟩ := h _ _ _ hy
  exact ⟨g x, by show d.K W (f (g x)) cs; rw [hfg]; exact hK, by show ok (f (g x)); rw [hfg]; exact hx⟩
def OpensF {α H : Type} (enc : TypeId × Value → H) (P : Program) (W : World) (fs : List Field) (o : Nat) (d : Kd α) (ok : α → Prop) : Prop :=
  ∀ (n : Nat) (cs : List Value) (xs : List (DataW H × List MemPlace)), cs.length = o + d.sz → xs.length = fs.length →
    (∀ (i : Nat) (f : Field), fs[i]? = some f → DataW.trod enc P W 0 (fun _ => true) true n f.type ((cs.drop f.offset).take (P.cellsOf f.type)) = xs[i]?) → ∃ x : α, d.K W x (cs.drop o) ∧ ok x
theorem OpensF.one {d : Kd α} {ok : α → Prop} {f : Field} {o : Nat} (ho : f.offset = o) (hc : P.cellsOf f.type = d.sz) (h : Opens enc P W f.type d ok) : OpensF enc P W [f] o d ok := by
  intro n cs xs hl hx hf
  match xs, hx with
  | [x0], _ =>
    have h0 := hf 0 f rfl
    rw [ho, hc, List.take_of_length_le (by rw [List.length_drop]; omega)] at h0
    exact h n _ x0 (by simpa using h0)
theorem OpensF.cons {d : Kd α} {ok : α → Prop} {d' : Kd β} {ok' : β → Prop} {f : Field} {fs : List Field} {o : Nat} (ho : f.offset = o) (hc : P.cellsOf f.type = d.sz) (h : Opens enc P W f.type d ok)
    (hs : OpensF enc P W fs (o + d.sz) d' ok') : OpensF enc P W (f :: fs) o (Kd.pair d d') (fun x => ok x.1 ∧ ok' x.2) := by
  intro n cs xs hl hx hf
  have hsz : (Kd.pair d d').sz = d.sz + d'.sz := rfl
  match xs, hx with
  | x0 :: xs', hx =>
    have h0 := hf 0 f rfl
    rw [ho, hc] at h0
    obtain ⟨a, ha, oka⟩ := h n _ x0 (by simpa using h0)
    obtain ⟨b, hb, okb⟩ := hs n cs xs' (by omega) (by simpa using hx) (fun i g hg => by simpa using hf (i + 1) g (by simpa using hg))
    refine ⟨(a, b), ⟨(cs.drop o).take d.sz, cs.drop (o + d.sz), ?_, ha, hb⟩, oka, okb⟩
    rw [← List.drop_drop, List.take_append_drop]
theorem Opens.struct {d : Kd α} {ok : α → Prop} {fs : Array Field} (ht : P.underlying t = some (.struct fs)) (hc : P.cellsOf t = d.sz) (h : OpensF enc P W fs.toList 0 d ok) : Opens enc P W t d ok := by
  intro fuel cs y hy
  obtain ⟨xs, n, _, _, hl, hx, hf⟩ := DataW.trod_struct ht hy
  have := h n cs xs (by omega) (by simpa using hx) (fun i f hf' => hf i f (by simpa using hf'))
  simpa using this
end
theorem pos {α : Type} {c : Prop} [Decidable c] {t e : Nat → Option α} {r : α} (h : c) (x : Ev t r) : Ev (fun k => if c then t k else e k) r := by
  obtain ⟨K, hK⟩ := x
  exact ⟨K, fun k hk => (if_pos h).trans (hK k hk)⟩
theorem neg {α : Type} {c : Prop} [Decidable c] {t e : Nat → Option α} {r : α} (h : ¬ c) (x : Ev e r) : Ev (fun k => if c then t k else e k) r := by
  obtain ⟨K, hK⟩ := x
  exact ⟨K, fun k hk => (if_neg h).trans (hK k hk)⟩
theorem both {α : Type} {c : Prop} [Decidable c] {t e : Nat → Option α} {r : α} (x : c → Ev t r) (y : ¬ c → Ev e r) : Ev (fun k => if c then t k else e k) r := by
  by_cases h : c
  · exact pos h (x h)
  · exact neg h (y h)
theorem ret {α : Type} (r : α) : Ev (fun _ => some r) r := Ev.now r
theorem ret' {α : Type} {r q : α} (h : r = q) : Ev (fun _ => some r) q := h ▸ Ev.now r
theorem val {α : Type} {g : Option α} {r : α} (h : g = some r) : Ev (fun _ => g) r := ⟨0, fun _ _ => h⟩
theorem of_eq {α : Type} {g : Nat → Option α} {r q : α} (h : Ev g r) (e : r = q) : Ev g q := e ▸ h
theorem exists_of {α : Type} {g : Nat → Option α} {r : α} (h : Ev g r) : ∃ k, g k = some r := by
  obtain ⟨K, hK⟩ := h
  exact ⟨K, hK K (Nat.le_refl _)⟩
theorem wrap_id {x : Int} (h1 : -9223372036854775808 ≤ x) (h2 : x ≤ 9223372036854775807) : wrap64 x = x := by
  unfold wrap64
  omega
theorem rdOf_lt {α : Type} (d : α) (l : List α) (i : Nat) (h : i < l.length) : rdOf d l (i : Int) = l[i] := by
  simp [rdOf, List.getD_eq_getElem?_getD, h]
theorem toList_inj {a b : ByteArray} (h : a.toList = b.toList) : a = b := by
  rw [ByteArray.toList_eq, ByteArray.toList_eq] at h
  cases a with
  | mk x => cases b with
    | mk y =>
      congr
      exact Array.toList_inj.1 h
end Go.Proofs.Ytnkgmcgbbldkgaa.Q
namespace Go.Proofs.Ytnkgmcgbbldkgaa.Q
open Go.RowKit Go.Proofs.YtnkgmcgbbldkgaaW.PrintWords Go.Proofs.YtnkgmcgbbldkgaaW.PrintLast Go.Proofs.Ytnkgmcgbbldkgaa.P
theorem strOfNums_one (x : Int) : (strOfNums [x]).size = 1 := by rfl
theorem markText_l0 (d : Nat) : ∀ (x : Int) (s : ByteArray), x.toNat ≤ d → x.toNat + s.size ≤ 9223372036854775806 → ∃ r, Ev (fun k => laws_markText.l0 k x s) r := by
  induction d with
  | zero =>
    intro x s hx hs
    exact ⟨_, Ev.step (fun k => by rw [laws_markText.l0]) (neg (by omega) (pos (by omega) (ret _)))⟩
  | succ d ih =>
    intro x s hx hs
    by_cases h : x > 0
    · have e1 : (Int.tdiv x 10) = x / 10 := Int.tdiv_eq_ediv_of_nonneg (by omega)
      have e2 : wrap64 (Int.tdiv x 10) = x / 10 := by rw [e1]; exact wrap_id (by omega) (by omega)
      obtain ⟨r, hr⟩ := ih (x / 10) (strOfNums [(wrap64 (48 + (Int.tmod x 10))) % 256] ++ s) (by omega) (by rw [ByteArray.size_append, strOfNums_one]; omega)
      refine ⟨r, Ev.step (fun k => by rw [laws_markText.l0]) (pos h ?_)⟩
      refine Ev.bind (ret _) (pos ?_ ?_)
      · rw [strOfNums_one]; omega
      · rw [e2]; exact hr
    · exact ⟨_, Ev.step (fun k => by rw [laws_markText.l0]) (neg h (pos (by omega) (ret _)))⟩
theorem markText_ex (n : Int) (h : n ≤ 9223372036854775806) : ∃ r, Ev (fun k => laws_markText.f k n) r := by
  unfold laws_markText.f
  by_cases h0 : n ≤ 0
  · exact ⟨_, pos h0 (ret _)⟩
  · obtain ⟨r, hr⟩ := markText_l0 n.toNat n (⟨#[]⟩ : ByteArray) (Nat.le_refl _) (by show n.toNat + 0 ≤ _; omega)
    exact ⟨r, neg h0 hr⟩
open Classical in
noncomputable def markT (n : Int) : ByteArray := if h : ∃ r, Ev (fun k => laws_markText.f k n) r then h.choose else ByteArray.empty
theorem markT_ev (n : Int) (h : n ≤ 9223372036854775806) : Ev (fun k => laws_markText.f k n) (markT n) := by
  have h' := markText_ex n h
  unfold markT
  rw [dif_pos h']
  exact h'.choose_spec
noncomputable def marks (n : Int) (m : Nat) : List ByteArray := (List.range m).map fun (j : Nat) => markT (n + (j : Int))
theorem marks_length (n : Int) (m : Nat) : (marks n m).length = m := by simp [marks]
theorem marks_get (n : Int) (m j : Nat) (h : j < (marks n m).length) : (marks n m)[j] = markT (n + j) := by simp [marks]
theorem marks_succ (n : Int) (m : Nat) : marks n (m + 1) = marks n m ++ [markT (n + m)] := by simp [marks, List.range_succ]
theorem markStringS_l0 (n : Int) (m : Nat) (h0 : 0 ≤ n) (h1 : n + m ≤ 9223372036854775806) (d : Nat) : ∀ (i : Nat) (x : List ByteArray), i + d = m → x.length = m → x.take i = marks n i →
    Ev (fun k => laws_markStringS.l0 k x (n + i) (i : Int)) (n + m, marks n m) := by
  induction d with
  | zero =>
    intro i x hi hx ht
    refine Ev.step (fun k => by rw [laws_markStringS.l0]) (neg (by omega) (ret' ?_))
    obtain rfl : i = m := by omega
    rw [List.take_of_length_le (by omega)] at ht
    rw [ht]
  | succ d ih =>
    intro i x hi hx ht
    refine Ev.step (fun k => by rw [laws_markStringS.l0]) (pos (by omega) (Ev.bind (markT_ev _ (by omega)) ?_))
    refine pos (by omega) ?_
    rw [wrap_id (by omega) (by omega), wrap_id (by omega) (by omega)]
    have := ih (i + 1) (x.set i (markT (n + i))) (by omega) (by simp [hx]) (by
      rw [List.take_succ_eq_append_getElem (by simp; omega), marks_succ, List.take_set_of_le (Nat.le_refl _), ht]
      simp)
    rw [show (n + (i : Int) + 1) = n + ((i + 1 : Nat) : Int) by omega, Int.toNat_natCast]
    exact this
theorem markStringS_ev (l : List ByteArray) (n : Int) (h0 : 0 ≤ n) (h1 : n + l.length ≤ 9223372036854775806) : Ev (fun k => laws_markStringS.f k l n) (n + l.length, marks n l.length) := by
  have := markStringS_l0 n l.length h0 h1 l.length 0 l (by omega) rfl (by simp [marks])
  simpa [laws_markStringS.f] using this
theorem heldStringS_l0 (n : Int) (m : Nat) (h0 : 0 ≤ n) (h1 : n + m ≤ 9223372036854775806) (d : Nat) : ∀ (i : Nat), i + d = m →
    Ev (fun k => laws_heldStringS.l0 k (marks n m) (n + i) (i : Int)) (n + m) := by
  have hm := marks_length n m
  induction d with
  | zero =>
    intro i hi
    obtain rfl : i = m := by omega
    exact Ev.step (fun k => by rw [laws_heldStringS.l0]) (neg (by omega) (ret' rfl))
  | succ d ih =>
    intro i hi
    refine Ev.step (fun k => by rw [laws_heldStringS.l0]) (pos (by omega) (pos (by omega) (Ev.bind (markT_ev _ (by omega)) ?_)))
    refine pos ?_ ?_
    · rw [rdOf_lt _ _ _ (by omega), marks_get]
    · rw [wrap_id (by omega) (by omega), wrap_id (by omega) (by omega)]
      exact ih (i + 1) (by omega) |> fun h => by rw [show (n + (i : Int) + 1) = n + ((i + 1 : Nat) : Int) by omega]; exact h
theorem heldStringS_ev (n : Int) (m : Nat) (h0 : 0 ≤ n) (h1 : n + m ≤ 9223372036854775806) : Ev (fun k => laws_heldStringS.f k (marks n m) n) (n + m) := by
  have := heldStringS_l0 n m h0 h1 m 0 (by omega)
  simpa [laws_heldStringS.f] using this
end Go.Proofs.Ytnkgmcgbbldkgaa.Q
