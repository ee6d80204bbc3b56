import Derived.Test.YtnkgmcgbbldkgaaPrFnEntryOk3
/- Texts of this claim, one behind the other: words on worlds and rows, printed functions and their walks, plain lemmas. -/
namespace Go.Proofs.Ytnkgmcgbbldkgaa.P
open Go.RowKit Go.Proofs.YtnkgmcgbbldkgaaW.PrintWords Go.Proofs.YtnkgmcgbbldkgaaW.PrintLast Go.Proofs.YtnkgmcgbbldkgaaW.PrintMore
attribute [local go_sem] max2_int min2_int max_two min_two max_three min_three max_four min_four   -- for this text's walks alone
set_option linter.unusedVariables false
set_option linter.unusedSimpArgs false
def spec_l2Put.T6 : Bool × List (List Nat × List Nat) := (true, [([], []), ([], []), ([], []), ([1, 2], [1, 2]), ([0, 3], [0, 3]), ([], []), ([5], [5]), ([4, 6, 4], [4, 6]), ([], []), ([], []), ([8, 9], [8, 9]), ([7, 10, 7], [7, 10]), ([11, 11, 0, 1, 2, 3, 4, 5, 6, 7, 8, 9, 10, 11], [11])])
def spec_l2Put.B6 : List Nat := [0, 0, 0, 6, 15, 0, 32, 127, 0, 0, 768, 2047, 4095]
theorem spec_l2Put.tab6 : rtab .any (opsOf Try.f119 6) = spec_l2Put.T6 := by kernel_rfl
theorem spec_l2Put.bits6 : waitsOk spec_l2Put.T6.2 spec_l2Put.B6 = true := by kernel_rfl
set_option maxHeartbeats 8000000 in
set_option maxRecDepth 100000 in
theorem spec_l2Put.calls (k : Nat) (P0_ : Nat → Prop) (A0 : Option Addr) (c0 : Nat) (l0 : List ByteArray) (a1 : ByteArray) (r : List ByteArray) (w : World) (hs0 : Kd.V Kd.string 9 w w.heap.size (fun k_ => P0_ k_) (.slice A0 l0.length c0) l0) (h : spec_l2Put.f k l0 a1 = some r) :
  Calls Try.prog 119 #[.slice A0 l0.length c0, .string a1] w fun e w' => ∃ v0_ : Value, e = .returned (v0_) ∧ Kd.V Kd.string 9 w' w.heap.size (fun k_ => (P0_ k_ ∨ w.heap.size ≤ k_)) v0_ r ∧ Below w.heap.size w w' := by
 have HO0 := zq9 (show Kd.V Kd.string 9 w w.heap.size (fun k_ => (P0_ k_ ∨ w.heap.size ≤ k_)) (.slice A0 l0.length c0) l0 from Kd.V_mono hs0 (fun k_ hk => .inl hk))
 have HB := zq9 (Below.refl w.heap.size w)
 have H : (spec_l2Put.l0 k l0 a1 0) = some r := h
 clear h
 have H' := zq9 H
 clear H
 go_enter Try.func119, Try.ntmps119
 go_wp2
 go_loopg [5] k (fun kq v5 w' => ∃ (x5_1 : Int), v5 = .int .i64 x5_1 ∧ Aside0 (spec_l2Put.l0 kq l0 a1 x5_1 = some r) ∧ Aside0 (kq ≤ k) ∧ Aside0 (Kd.V Kd.string 9 w' w.heap.size (fun k_ => (P0_ k_ ∨ w.heap.size ≤ k_)) (.slice A0 l0.length c0) l0) ∧ Aside0 (Below w.heap.size w w'))
 case atStart => exact ⟨(0), (by first | rfl | (simp; done) | (simp [*]; done)), H', ⟨Nat.le_refl _⟩, ⟨by (with_reducible repeat (first | apply zq21 | apply zq22 | apply zq23)); exact HO0.out⟩, ⟨by exact bl HB⟩⟩
 case round =>
  clear H'
  try clear c1
  try clear p2
  obtain ⟨x5_1, rfl, HA, HK1, HO_0, HB⟩ := hrel
  cases gk with
  | zero => exact absurd HA.out (by simp [spec_l2Put.l0])
  | succ k1 =>
   have H := HA.out
   clear HA
   simp only [spec_l2Put.l0] at H
   by_cases c3 : x5_1 < (l0.length : Int)
   ·rw [if_pos c3] at H
    have c3b0 : decide (x5_1 < (l0.length : Int)) = true := decide_eq_true c3
    clear c3
    by_cases c4 : 0 ≤ x5_1
    ·rw [if_pos c4] at H
     have c4b0 : decide (0 ≤ x5_1) = true := decide_eq_true c4
     clear c4
     by_cases c5 : (Op.bytesLess ((rdOf ByteArray.empty l0 x5_1).toList) a1.toList) = true
     ·rw [if_pos c5] at H
      have c5b0 : (Op.bytesLess ((rdOf ByteArray.empty l0 x5_1).toList) a1.toList) = true := c5
      clear c5
      have H' := zq9 H
      clear H
      have p323 : 0 ≤ (x5_1 : Int) := of_decide_eq_true ‹_›
      have q323 : x5_1 < (l0.length : Int) := of_decide_eq_true ‹_›
      obtain ⟨ad323, e323, hx323_0⟩ := Kd.at_string (Kd.V_reads' HO_0.out).2.2 x5_1 p323 q323
      cases e323
      replace p323 := eq_true p323
      replace q323 := eq_true q323
      go_wp2
      go_roundg k1
      case measure => have := HK1.out; omega
      case rel => exact ⟨(wrap64 (x5_1 + 1)), (by first | rfl | (simp; done) | (simp [*]; done)), H', ⟨by have := HK1.out; omega⟩, ⟨by (with_reducible repeat (first | apply zq21 | apply zq22 | apply zq23)); exact HO_0.out⟩, ⟨by exact bl HB⟩⟩
     ·rw [if_neg c5] at H
      have c5b0 : (Op.bytesLess ((rdOf ByteArray.empty l0 x5_1).toList) a1.toList) = false := by simpa using c5
      clear c5
      by_cases c6 : (rdOf ByteArray.empty l0 x5_1).toList = a1.toList
      ·rw [if_pos c6] at H
       have c6b0 : ((rdOf ByteArray.empty l0 x5_1).toList == a1.toList) = true := beq_iff_eq.mpr c6
       have c6b1 : ((rdOf ByteArray.empty l0 x5_1).toList != a1.toList) = false := bne_eq_false_iff_eq.mpr c6
       clear c6
       obtain rfl := Option.some.inj H
       have p323 : 0 ≤ (x5_1 : Int) := of_decide_eq_true ‹_›
       have q323 : x5_1 < (l0.length : Int) := of_decide_eq_true ‹_›
       obtain ⟨ad323, e323, hx323_0⟩ := Kd.at_string (Kd.V_reads' HO_0.out).2.2 x5_1 p323 q323
       cases e323
       replace p323 := eq_true p323
       replace q323 := eq_true q323
       have p324 : 0 ≤ (x5_1 : Int) := of_decide_eq_true ‹_›
       have q324 : x5_1 < (l0.length : Int) := of_decide_eq_true ‹_›
       obtain ⟨ad324, e324, hx324_0⟩ := Kd.at_string (Kd.V_reads' HO_0.out).2.2 x5_1 p324 q324
       obtain rfl : ad323 = ad324 := (by injection e324)
       replace p324 := eq_true p324
       replace q324 := eq_true q324
       go_wp2
       go_ret
       exact ⟨_, by first | rfl | (simp [errW_none, errW_some] <;> rfl) | (simp [*, errW_none, errW_some] <;> rfl), by (with_reducible repeat (first | apply zq21 | apply zq22 | apply zq23)); exact HO_0.out, by exact bl HB⟩
      ·rw [if_neg c6] at H
       have c6b0 : ((rdOf ByteArray.empty l0 x5_1).toList == a1.toList) = false := beq_eq_false_iff_ne.mpr c6
       have c6b1 : ((rdOf ByteArray.empty l0 x5_1).toList != a1.toList) = true := bne_iff_ne.mpr c6
       obtain ⟨y325, hy325⟩ : ∃ y_ : List ByteArray, y_ = (([] : List ByteArray)) := ⟨_, rfl⟩
       replace H : (if x5_1 ≤ (l0.length : Int) then ((some (l0.take (x5_1 : Int).toNat : List ByteArray)).bind fun y328 => (if y325.length + y328.length < 8796093022208 then ((some (y325 ++ y328 : List ByteArray)).bind fun y333 => ((some (([a1] : List ByteArray) : List ByteArray)).bind fun y336 => (if y333.length + y336.length < 8796093022208 then ((some (y333 ++ y336 : List ByteArray)).bind fun y339 => ((some (l0.drop (x5_1 : Int).toNat : List ByteArray)).bind fun y342 => (if y339.length + y342.length < 8796093022208 then (some (y339 ++ y342)) else (none)))) else (none)))) else (none))) else (none)) = some r := by first | (rw [hy325]; with_reducible exact H) | (have H2_ := (Option.bind_some _ _).symm.trans H; rw [hy325]; with_reducible exact H2_) | (have H2_ := (Option.bind_some _ _).symm.trans H; with_reducible exact H2_) | with_reducible exact H | (rw [hy325]; exact H) | exact H
       have Ny325 := zq9 hy325
       clear hy325
       have c7b0 := eq_true (of_decide_eq_true ‹_› : 0 ≤ x5_1)
       by_cases c8 : x5_1 ≤ (l0.length : Int)
       ·rw [if_pos c8] at H
        have c8b0 := eq_true c8
        have c8b1 : decide (x5_1 ≤ (l0.length : Int)) = true := decide_eq_true c8
        clear c8
        obtain ⟨y328, hy328⟩ : ∃ y_ : List ByteArray, y_ = (l0.take (x5_1 : Int).toNat) := ⟨_, rfl⟩
        replace H : (if y325.length + y328.length < 8796093022208 then ((some (y325 ++ y328 : List ByteArray)).bind fun y333 => ((some (([a1] : List ByteArray) : List ByteArray)).bind fun y336 => (if y333.length + y336.length < 8796093022208 then ((some (y333 ++ y336 : List ByteArray)).bind fun y339 => ((some (l0.drop (x5_1 : Int).toNat : List ByteArray)).bind fun y342 => (if y339.length + y342.length < 8796093022208 then (some (y339 ++ y342)) else (none)))) else (none)))) else (none)) = some r := by first | (rw [hy328]; with_reducible exact H) | (have H2_ := (Option.bind_some _ _).symm.trans H; rw [hy328]; with_reducible exact H2_) | (have H2_ := (Option.bind_some _ _).symm.trans H; with_reducible exact H2_) | with_reducible exact H | (rw [hy328]; exact H) | exact H
        have Ny328 := zq9 hy328
        clear hy328
        by_cases c9 : y325.length + y328.length < 8796093022208
        ·rw [if_pos c9] at H
         have LMc9 := zq9 c9
         clear c9
         obtain ⟨y333, hy333⟩ : ∃ y_ : List ByteArray, y_ = (y325 ++ y328) := ⟨_, rfl⟩
         replace H : ((some (([a1] : List ByteArray) : List ByteArray)).bind fun y336 => (if y333.length + y336.length < 8796093022208 then ((some (y333 ++ y336 : List ByteArray)).bind fun y339 => ((some (l0.drop (x5_1 : Int).toNat : List ByteArray)).bind fun y342 => (if y339.length + y342.length < 8796093022208 then (some (y339 ++ y342)) else (none)))) else (none))) = some r := by first | (rw [hy333]; with_reducible exact H) | (have H2_ := (Option.bind_some _ _).symm.trans H; rw [hy333]; with_reducible exact H2_) | (have H2_ := (Option.bind_some _ _).symm.trans H; with_reducible exact H2_) | with_reducible exact H | (rw [hy333]; exact H) | exact H
         have Ny333 := zq9 hy333
         clear hy333
         obtain ⟨y336, hy336⟩ : ∃ y_ : List ByteArray, y_ = (([a1] : List ByteArray)) := ⟨_, rfl⟩
         replace H : (if y333.length + y336.length < 8796093022208 then ((some (y333 ++ y336 : List ByteArray)).bind fun y339 => ((some (l0.drop (x5_1 : Int).toNat : List ByteArray)).bind fun y342 => (if y339.length + y342.length < 8796093022208 then (some (y339 ++ y342)) else (none)))) else (none)) = some r := by first | (rw [hy336]; with_reducible exact H) | (have H2_ := (Option.bind_some _ _).symm.trans H; rw [hy336]; with_reducible exact H2_) | (have H2_ := (Option.bind_some _ _).symm.trans H; with_reducible exact H2_) | with_reducible exact H | (rw [hy336]; exact H) | exact H
         have Ny336 := zq9 hy336
         clear hy336
         by_cases c10 : y333.length + y336.length < 8796093022208
         ·rw [if_pos c10] at H
          have LMc10 := zq9 c10
          clear c10
          obtain ⟨y339, hy339⟩ : ∃ y_ : List ByteArray, y_ = (y333 ++ y336) := ⟨_, rfl⟩
          replace H : ((some (l0.drop (x5_1 : Int).toNat : List ByteArray)).bind fun y342 => (if y339.length + y342.length < 8796093022208 then (some (y339 ++ y342)) else (none))) = some r := by first | (rw [hy339]; with_reducible exact H) | (have H2_ := (Option.bind_some _ _).symm.trans H; rw [hy339]; with_reducible exact H2_) | (have H2_ := (Option.bind_some _ _).symm.trans H; with_reducible exact H2_) | with_reducible exact H | (rw [hy339]; exact H) | exact H
          have Ny339 := zq9 hy339
          clear hy339
          have c11b0 := eq_true (of_decide_eq_true ‹_› : 0 ≤ x5_1)
          have c12b0 := eq_true (of_decide_eq_true ‹_› : x5_1 ≤ (l0.length : Int))
          obtain ⟨y342, hy342⟩ : ∃ y_ : List ByteArray, y_ = (l0.drop (x5_1 : Int).toNat) := ⟨_, rfl⟩
          replace H : (if y339.length + y342.length < 8796093022208 then (some (y339 ++ y342)) else (none)) = some r := by first | (rw [hy342]; with_reducible exact H) | (have H2_ := (Option.bind_some _ _).symm.trans H; rw [hy342]; with_reducible exact H2_) | (have H2_ := (Option.bind_some _ _).symm.trans H; with_reducible exact H2_) | with_reducible exact H | (rw [hy342]; exact H) | exact H
          have Ny342 := zq9 hy342
          clear hy342
          by_cases c13 : y339.length + y342.length < 8796093022208
          ·rw [if_pos c13] at H
           have LMc13 := zq9 c13
           clear c13
           obtain ⟨y347, hy347⟩ : ∃ y_ : List ByteArray, y_ = (y339 ++ y342) := ⟨_, rfl⟩
           replace H : (some y347) = some r := by first | (rw [hy347]; with_reducible exact H) | (have H2_ := (Option.bind_some _ _).symm.trans H; rw [hy347]; with_reducible exact H2_) | (have H2_ := (Option.bind_some _ _).symm.trans H; with_reducible exact H2_) | with_reducible exact H | (rw [hy347]; exact H) | exact H
           have Ny347 := zq9 hy347
           clear hy347
           obtain rfl := Option.some.inj H
           have p323 : 0 ≤ (x5_1 : Int) := of_decide_eq_true ‹_›
           have q323 : x5_1 < (l0.length : Int) := of_decide_eq_true ‹_›
           obtain ⟨ad323, e323, hx323_0⟩ := Kd.at_string (Kd.V_reads' HO_0.out).2.2 x5_1 p323 q323
           cases e323
           replace p323 := eq_true p323
           replace q323 := eq_true q323
           have p324 : 0 ≤ (x5_1 : Int) := of_decide_eq_true ‹_›
           have q324 : x5_1 < (l0.length : Int) := of_decide_eq_true ‹_›
           obtain ⟨ad324, e324, hx324_0⟩ := Kd.at_string (Kd.V_reads' HO_0.out).2.2 x5_1 p324 q324
           obtain rfl : ad323 = ad324 := (by injection e324)
           replace p324 := eq_true p324
           replace q324 := eq_true q324
           try go_wp2
           have n0_ := zq9 (zq23 HO_0.out)
           have n1_ := zq9 (zq4 HB.out)
           clear HO_0
           clear HB
           have HO_0 := n0_
           have HB := n1_
           clear n0_ n1_
           have q15 : (x5_1 : Int) ≤ ((l0.length : Int) : Int) := of_decide_eq_true ‹_›
           obtain ⟨i015, hi015, _, hsz15, _⟩ := info_parts info9
           have hroom15 : l0.length ≤ c0 := (Kd.V_reads' HO_0.out).2.1
           have hC15 : Kd.F Kd.string _ _ (some ad323) l0.length l0 := (Kd.V_at (base := w.heap.size) HO_0.out).2.2
           have hcut15 := cut_to (P := Try.prog) 22 9 .i64 Try.underlying22 hi015 (some ad323) l0.length c0 x5_1 (of_decide_eq_true ‹_›) q15 hroom15
           have hr15 := Kd.F_take (m := (x5_1 : Int).toNat) hC15 (by omega)
           have hy15 : y328.length = (x5_1 : Int).toNat := (by rw [Ny328.out, zq34]; omega)
           rw [← Ny328.out] at hr15
           rw [← hy15] at hcut15
           have HO332 := zq9 (show Kd.V Kd.string 9 _ w.heap.size _ (.slice (some ad323) y328.length c0) y328 from Kd.V_mk (by omega) hr15)
           have HC332 := zq9 (show y328.length ≤ c0 from by omega)
           clear hr15 hC15 hroom15 hi015 hsz15
           have KY15 := zq9 hy15
           clear hy15
           replace q15 := eq_true q15
           have q16 : (x5_1 : Int) ≤ ((l0.length : Int) : Int) := of_decide_eq_true ‹_›
           obtain ⟨i016, hi016, _, hsz16, _⟩ := info_parts info9
           have hroom16 : l0.length ≤ c0 := (Kd.V_reads' HO_0.out).2.1
           have hC16 : Kd.F Kd.string _ _ (some ad323) l0.length l0 := (Kd.V_at (base := w.heap.size) HO_0.out).2.2
           have q016 : (0 : Int) ≤ (x5_1 : Int) := of_decide_eq_true ‹_›
           have hcut16 := cut_from (P := Try.prog) 22 9 .i64 Try.underlying22 hi016 1 hsz16 (some ad323) l0.length c0 x5_1 q016 q16
           have hr16 := Kd.F_cut (m := (x5_1 : Int).toNat) (c := c0) hC16 (by omega) hroom16
           obtain ⟨A16, hA16⟩ : ∃ A1, A1 = (if c0 = (x5_1 : Int).toNat then (some ad323) else ((some ad323) : Option Addr).map (·.add ((x5_1 : Int).toNat * 1))) := ⟨_, rfl⟩
           obtain ⟨c16, hc16⟩ : ∃ c1, c1 = c0 - (x5_1 : Int).toNat := ⟨_, rfl⟩
           have hy16 : y342.length = l0.length - (x5_1 : Int).toNat := (by rw [Ny342.out, zq33] <;> omega)
           rw [show (l0).drop (x5_1 : Int).toNat = y342 from Ny342.out.symm] at hr16
           replace hr16 : Kd.F Kd.string _ _ A16 y342.length y342 := (by rw [hA16]; exact hr16)
           rw [← hy16, ← hA16, ← hc16] at hcut16
           have HO346 := zq9 (show Kd.V Kd.string 9 _ w.heap.size _ (.slice A16 y342.length c16) y342 from Kd.V_mk (by rw [hy16, hc16]; exact Nat.sub_le_sub_right hroom16 _) hr16)
           have HC346 := zq9 (show y342.length ≤ c16 from by rw [hy16, hc16]; exact Nat.sub_le_sub_right hroom16 _)
           clear hr16 hC16 hroom16 hi016 hsz16 hc16
           have KY16 := zq9 hy16
           have KA16 := zq9 hA16
           clear hy16 hA16
           replace q16 := eq_true q16
           refine start_ (n := 13) (S := fun w' => True) (ds := []) #[false, false, false, false, false, false, false, false, false, false, false, false, false] (by kernel_rfl) rfl rfl trivial (fun hHeld => ?_); refine with_tabW spec_l2Put.tab6 spec_l2Put.bits6 (fun HT_ HW_ => ?_)
           generalize wr.drew = w14 at HO_0 HB HO332 HO346 hHeld ⊢
           refine pa HT_ 1 34 (zb 13 2) ?_
           refine pa HT_ 2 35 (zb 13 6) ?_
           refine pa HT_ 3 36 (zb 13 14) ?_
           refine pa HT_ 5 38 (zb 13 46) ?_
           refine pa HT_ 8 41 (zb 13 302) ?_
           refine pa HT_ 9 42 (zb 13 814) ?_
           refine pa HT_ 10 43 (zb 13 1838) ?_
           refine join_ (σ := Value × Value × Value) 3 #[true, true, true, true, true, true, true, false, true, true, true, false, false] (fun s_ => [(33, s_.1), (37, s_.2.1), (39, s_.2.2)]) (fun s_ w' => (Kd.V Kd.string 9 w' w.heap.size (fun k_ => (P0_ k_ ∨ w.heap.size ≤ k_) ∧ some k_ ≠ (s_.2.1 : Value).ownBlock ∧ some k_ ≠ (s_.2.2 : Value).ownBlock) (.slice (some ad323) y328.length c0) y328) ∧ (Kd.R Kd.string 9 w' w.heap.size (fun k_ => (w.heap.size ≤ k_) ∧ some k_ ≠ (s_.2.2 : Value).ownBlock) s_.2.1 y333) ∧ (Kd.R Kd.string 9 w' w.heap.size (fun k_ => (w.heap.size ≤ k_) ∧ some k_ ≠ (s_.2.1 : Value).ownBlock) s_.2.2 y336) ∧ (Kd.V Kd.string 9 w' w.heap.size (fun k_ => (P0_ k_ ∨ w.heap.size ≤ k_) ∧ some k_ ≠ (s_.2.1 : Value).ownBlock ∧ some k_ ≠ (s_.2.2 : Value).ownBlock) (.slice A16 y342.length c16) y342) ∧ (Kd.V Kd.string 9 w' w.heap.size (fun k_ => (P0_ k_ ∨ w.heap.size ≤ k_) ∧ some k_ ≠ (s_.2.1 : Value).ownBlock ∧ some k_ ≠ (s_.2.2 : Value).ownBlock) (.slice (some ad323) l0.length c0) l0) ∧ (Below w.heap.size w w')) ?_ ?_
           rotate_left
           ·intro hCont
            refine two_ (i := 0) (j := 6) (Ni := some 33) (Nj := some 39) #[true, true, true, true, false, true, false, false, true, true, true, false, false] #[false, true, true, true, false, true, true, false, true, true, true, false, false] rfl rfl rfl rfl (two_of HT_.out (by kernel_rfl)) (by decide) (by decide) (fun K hK => ?_) (fun K hK => ?_)
            ·skip
             refine Kd.R_lit_step Kd.string _ 9 ?hg (N := 33) ?hd (xs := ([] : List ByteArray)) (inner := []) (ok := fun _ => True) (okp := fun _ => True) ?hr ?hp (fun _ hk => hk) trivial (Below.refl _ _) (Nat.le_refl _) (by simp) ?_; (case hd => rfl); (case hg => rfl); (case hr => first | (go_simp; done) | (go_simp; rfl)); (case hp => exact (Reps.none _ _))
             intro v326 w17 ho18 hb hg_ hnew_
             clear hg_ hnew_
             (first | rw [← Ny325.out] at ho18 | (simp only [Int.reduceToNat] at ho18; rw [← Ny325.out] at ho18))
             have n0_ := zq9 (Kd.V_elder' (by exact vz HO_0) (Kd.R_base ho18) hb)
             have n1_ := zq9 (Kd.V_elder' (by exact vz HO332) (Kd.R_base ho18) hb)
             have n2_ := zq9 (Kd.V_elder' (by exact vz HO346) (Kd.R_base ho18) hb)
             have n3_ := zq9 (Kd.R_lower (Kd.R_newM (M := fun k_ => (w.heap.size ≤ k_)) ho18 (zq29 (by exact bl HB)) (fun k_ h_ => h_)) (zq29 (by exact bl HB)))
             have n4_ := zq9 (zq27 (by exact bl HB) hb)
             clear HO_0
             clear HO332
             clear HO346
             clear HB
             have HO_0 := n0_
             have HO332 := n1_
             have HO346 := n2_
             have HO327 := n3_
             have HB := n4_
             clear n0_ n1_ n2_ n3_ n4_
             clear hb ho18
             refine hK.out _ _ trivial (fun hHeld => ?_)
             clear hK K
             refine norm_ (a' := ?_) ?_ ?_
             rotate_left; ·show Act.put _ (some 33) _ = _; simp only [Act.put, zq0, zq1, zq2, i64_w, i32_w]; rfl
             refine two_ (i := 4) (j := 6) (Ni := some 37) (Nj := some 39) #[true, true, true, true, true, true, false, false, true, true, true, false, false] #[true, true, true, true, false, true, true, false, true, true, true, false, false] rfl rfl rfl rfl (two_of HT_.out (by kernel_rfl)) (by decide) (by decide) (fun K hK => ?_) (fun K hK => ?_)
             ·skip
              refine Kd.R_append_rows_step Kd.string (w0 := w) w.heap.size (by rfl) (.tmp 33) (.tmp 36) 22 9 (.string ⟨#[]⟩) 16 rfl Try.underlying22 info9 rfl (by decide) (by omega) v326 y325 y328 _ _ _ (fun k_ => (w.heap.size ≤ k_)) (fun _ => False) rfl rfl ?aO ?aR (fun _ _ h => h) (fun _ h => h.elim) ?aF ?aB ?aS ?aL ?_
              (case aR => repeat (first | exact (Kd.V_reads' HO332.out).2.2 | (with_reducible refine zq18 ?_ _) | (with_reducible refine zq19 ?_ _) | (with_reducible refine zq20 ?_)))
              (case aB => exact (by exact bl HB))
              (case aF => exact (fun k_ hk => (Nat.le_trans (zq29 (by exact bl HB)) hk)))
              (case aO => exact (by (with_reducible repeat (first | apply zq10 | apply zq11 | apply zq12)); exact Kd.R_mono HO327.out (fun _ hk => hk.1)))
              (case aS => exact (zq29 (by exact bl HB)))
              (case aL => have := LMc9.out; omega)
              intro v334 w19 ho hb hg hat
              rw [← Ny333.out] at ho
              have n0_ := zq9 (Kd.V_afterv (ok := (fun k_ => (P0_ k_ ∨ w.heap.size ≤ k_))) (by exact vz HO_0) hg hat)
              have n1_ := zq9 (Kd.V_afterv (ok := (fun k_ => (P0_ k_ ∨ w.heap.size ≤ k_))) (by exact vz HO332) hg hat)
              have n2_ := zq9 (Kd.V_afterv (ok := (fun k_ => (P0_ k_ ∨ w.heap.size ≤ k_))) (by exact vz HO346) hg hat)
              have n3_ := zq9 (hb)
              have n4_ := zq9 (ho)
              clear HO_0
              clear HO332
              clear HO346
              clear HB
              clear HO327
              have HO_0 := n0_
              have HO332 := n1_
              have HO346 := n2_
              have HB := n3_
              have HO335 := n4_
              clear n0_ n1_ n2_ n3_ n4_
              clear ho hb hg hat
              refine hK.out _ _ trivial (fun hHeld => ?_)
              clear hK K
              refine norm_ (a' := ?_) ?_ ?_
              rotate_left; ·show Act.put _ (some 37) _ = _; simp only [Act.put, zq0, zq1, zq2, i64_w, i32_w]; rfl
              refine one_ (i := 6) (N := some 39) (zb 13 1919) rfl rfl (one_of HT_.out (by kernel_rfl)) (by decide) (fun K hK => ?_)
              refine Kd.R_lit_step Kd.string _ 9 ?hg (N := 39) ?hd (xs := ([a1] : List ByteArray)) (inner := [.string a1]) (ok := fun _ => True) (okp := fun _ => True) ?hr ?hp (fun _ hk => hk) trivial (Below.refl _ _) (Nat.le_refl _) (by simp) ?_; (case hd => rfl); (case hg => rfl); (case hr => first | (go_simp; done) | (go_simp; rfl)); (case hp => exact (Reps.one (show Kd.M Kd.string _ _ _ a1 [.string a1] from rfl) (Reps.none _ _)))
              intro v337 w20 ho21 hb hg_ hnew_
              clear hg_ hnew_
              (first | rw [← Ny336.out] at ho21 | (simp only [Int.reduceToNat] at ho21; rw [← Ny336.out] at ho21))
              have n0_ := zq9 (Kd.V_elder' (by exact vz HO_0) (Kd.R_base ho21) hb)
              have n1_ := zq9 (Kd.V_elder' (by exact vz HO332) (Kd.R_base ho21) hb)
              have n2_ := zq9 (Kd.V_elder' (by exact vz HO346) (Kd.R_base ho21) hb)
              have n3_ := zq9 (Kd.R_elder' (by exact rz HO335) (Kd.R_base ho21) hb)
              have n4_ := zq9 (Kd.R_lower (Kd.R_new' (Kd.R_newM (M := fun k_ => (w.heap.size ≤ k_)) ho21 (zq29 (by exact bl HB)) (fun k_ h_ => h_)) (Kd.R_lt (by exact rz HO335))) (zq29 (by exact bl HB)))
              have n5_ := zq9 (zq27 (by exact bl HB) hb)
              clear HO_0
              clear HO332
              clear HO346
              clear HO335
              clear HB
              have HO_0 := n0_
              have HO332 := n1_
              have HO346 := n2_
              have HO335 := n3_
              have HO338 := n4_
              have HB := n5_
              clear n0_ n1_ n2_ n3_ n4_ n5_
              clear hb ho21
              refine hK.out _ _ trivial (fun hHeld => ?_)
              clear hK K
              refine norm_ (a' := ?_) ?_ ?_
              rotate_left; ·show Act.put _ (some 39) _ = _; simp only [Act.put, zq0, zq1, zq2, i64_w, i32_w]; rfl
              exact norm_ (by simp only [putAll, Act.put, zq0, zq1, zq2]) (hCont (v326, v334, v337) _ ⟨(by (with_reducible repeat (first | apply zq21 | apply zq22 | apply zq23)); exact Kd.V_mono HO332.out (fun _ hk => ⟨hk.1.1, ⟨hk.1.2, hk.2⟩⟩)), (by exact rz HO335), (by (with_reducible repeat (first | apply zq10 | apply zq11 | apply zq12)); exact Kd.R_mono HO338.out (fun _ hk => ⟨hk.1.1, hk.2⟩)), (by (with_reducible repeat (first | apply zq21 | apply zq22 | apply zq23)); exact Kd.V_mono HO346.out (fun _ hk => ⟨hk.1.1, ⟨hk.1.2, hk.2⟩⟩)), (by (with_reducible repeat (first | apply zq21 | apply zq22 | apply zq23)); exact Kd.V_mono HO_0.out (fun _ hk => ⟨hk.1.1, ⟨hk.1.2, hk.2⟩⟩)), (by exact bl HB)⟩)
             ·skip
              refine Kd.R_lit_step Kd.string _ 9 ?hg (N := 39) ?hd (xs := ([a1] : List ByteArray)) (inner := [.string a1]) (ok := fun _ => True) (okp := fun _ => True) ?hr ?hp (fun _ hk => hk) trivial (Below.refl _ _) (Nat.le_refl _) (by simp) ?_; (case hd => rfl); (case hg => rfl); (case hr => first | (go_simp; done) | (go_simp; rfl)); (case hp => exact (Reps.one (show Kd.M Kd.string _ _ _ a1 [.string a1] from rfl) (Reps.none _ _)))
              intro v337 w19 ho20 hb hg_ hnew_
              clear hg_ hnew_
              (first | rw [← Ny336.out] at ho20 | (simp only [Int.reduceToNat] at ho20; rw [← Ny336.out] at ho20))
              have n0_ := zq9 (Kd.V_elder' (by exact vz HO_0) (Kd.R_base ho20) hb)
              have n1_ := zq9 (Kd.V_elder' (by exact vz HO332) (Kd.R_base ho20) hb)
              have n2_ := zq9 (Kd.V_elder' (by exact vz HO346) (Kd.R_base ho20) hb)
              have n3_ := zq9 (Kd.R_elder' (by exact rz HO327) (Kd.R_base ho20) hb)
              have n4_ := zq9 (Kd.R_lower (Kd.R_new' (Kd.R_newM (M := fun k_ => (w.heap.size ≤ k_)) ho20 (zq29 (by exact bl HB)) (fun k_ h_ => h_)) (Kd.R_lt (by exact rz HO327))) (zq29 (by exact bl HB)))
              have n5_ := zq9 (zq27 (by exact bl HB) hb)
              clear HO_0
              clear HO332
              clear HO346
              clear HO327
              clear HB
              have HO_0 := n0_
              have HO332 := n1_
              have HO346 := n2_
              have HO327 := n3_
              have HO338 := n4_
              have HB := n5_
              clear n0_ n1_ n2_ n3_ n4_ n5_
              clear hb ho20
              refine hK.out _ _ trivial (fun hHeld => ?_)
              clear hK K
              refine norm_ (a' := ?_) ?_ ?_
              rotate_left; ·show Act.put _ (some 39) _ = _; simp only [Act.put, zq0, zq1, zq2, i64_w, i32_w]; rfl
              refine one_ (i := 4) (N := some 37) (zb 13 1919) rfl rfl (one_of HT_.out (by kernel_rfl)) (by decide) (fun K hK => ?_)
              refine Kd.R_append_rows_step Kd.string (w0 := w) w.heap.size (by rfl) (.tmp 33) (.tmp 36) 22 9 (.string ⟨#[]⟩) 16 rfl Try.underlying22 info9 rfl (by decide) (by omega) v326 y325 y328 _ _ _ (fun k_ => (w.heap.size ≤ k_) ∧ some k_ ≠ (v337 : Value).ownBlock) (fun _ => False) rfl rfl ?aO ?aR (fun _ _ h => h) (fun _ h => h.elim) ?aF ?aB ?aS ?aL ?_
              (case aR => repeat (first | exact (Kd.V_reads' HO332.out).2.2 | (with_reducible refine zq18 ?_ _) | (with_reducible refine zq19 ?_ _) | (with_reducible refine zq20 ?_)))
              (case aB => exact (by exact bl HB))
              (case aF => exact (fun k_ hk => ⟨(Nat.le_trans (zq29 (by exact bl HB)) hk), Kd.fresh' (Kd.R_lt (by exact rz HO338)) k_ hk⟩))
              (case aO => exact (by (with_reducible repeat (first | apply zq10 | apply zq11 | apply zq12)); exact Kd.R_mono HO327.out (fun _ hk => ⟨hk.1.1, hk.2⟩)))
              (case aS => exact (zq29 (by exact bl HB)))
              (case aL => have := LMc9.out; omega)
              intro v334 w21 ho hb hg hat
              rw [← Ny333.out] at ho
              have n0_ := zq9 (Kd.V_afterv (ok := (fun k_ => (P0_ k_ ∨ w.heap.size ≤ k_) ∧ some k_ ≠ (v337 : Value).ownBlock)) (by (with_reducible repeat (first | apply zq21 | apply zq22 | apply zq23)); exact Kd.V_mono HO_0.out (fun _ hk => ⟨⟨hk.1.1, hk.2⟩, hk.1.2⟩)) hg hat)
              have n1_ := zq9 (Kd.V_afterv (ok := (fun k_ => (P0_ k_ ∨ w.heap.size ≤ k_) ∧ some k_ ≠ (v337 : Value).ownBlock)) (by (with_reducible repeat (first | apply zq21 | apply zq22 | apply zq23)); exact Kd.V_mono HO332.out (fun _ hk => ⟨⟨hk.1.1, hk.2⟩, hk.1.2⟩)) hg hat)
              have n2_ := zq9 (Kd.V_afterv (ok := (fun k_ => (P0_ k_ ∨ w.heap.size ≤ k_) ∧ some k_ ≠ (v337 : Value).ownBlock)) (by (with_reducible repeat (first | apply zq21 | apply zq22 | apply zq23)); exact Kd.V_mono HO346.out (fun _ hk => ⟨⟨hk.1.1, hk.2⟩, hk.1.2⟩)) hg hat)
              have n3_ := zq9 (Kd.R_after (ok := (fun k_ => (w.heap.size ≤ k_))) (by (with_reducible repeat (first | apply zq10 | apply zq11 | apply zq12)); exact Kd.R_mono HO338.out (fun _ hk => ⟨hk.1.1, hk.2⟩)) hg hat)
              have n4_ := zq9 (hb)
              have n5_ := zq9 (ho)
              clear HO_0
              clear HO332
              clear HO346
              clear HO338
              clear HB
              clear HO327
              have HO_0 := n0_
              have HO332 := n1_
              have HO346 := n2_
              have HO338 := n3_
              have HB := n4_
              have HO335 := n5_
              clear n0_ n1_ n2_ n3_ n4_ n5_
              clear ho hb hg hat
              refine hK.out _ _ trivial (fun hHeld => ?_)
              clear hK K
              refine norm_ (a' := ?_) ?_ ?_
              rotate_left; ·show Act.put _ (some 37) _ = _; simp only [Act.put, zq0, zq1, zq2, i64_w, i32_w]; rfl
              exact norm_ (by simp only [putAll, Act.put, zq0, zq1, zq2]) (hCont (v326, v334, v337) _ ⟨(by (with_reducible repeat (first | apply zq21 | apply zq22 | apply zq23)); exact Kd.V_mono HO332.out (fun _ hk => ⟨hk.1.1, ⟨hk.2, hk.1.2⟩⟩)), (by exact rz HO335), (by exact rz HO338), (by (with_reducible repeat (first | apply zq21 | apply zq22 | apply zq23)); exact Kd.V_mono HO346.out (fun _ hk => ⟨hk.1.1, ⟨hk.2, hk.1.2⟩⟩)), (by (with_reducible repeat (first | apply zq21 | apply zq22 | apply zq23)); exact Kd.V_mono HO_0.out (fun _ hk => ⟨hk.1.1, ⟨hk.2, hk.1.2⟩⟩)), (by exact bl HB)⟩)
            ·skip
             refine Kd.R_lit_step Kd.string _ 9 ?hg (N := 39) ?hd (xs := ([a1] : List ByteArray)) (inner := [.string a1]) (ok := fun _ => True) (okp := fun _ => True) ?hr ?hp (fun _ hk => hk) trivial (Below.refl _ _) (Nat.le_refl _) (by simp) ?_; (case hd => rfl); (case hg => rfl); (case hr => first | (go_simp; done) | (go_simp; rfl)); (case hp => exact (Reps.one (show Kd.M Kd.string _ _ _ a1 [.string a1] from rfl) (Reps.none _ _)))
             intro v337 w17 ho18 hb hg_ hnew_
             clear hg_ hnew_
             (first | rw [← Ny336.out] at ho18 | (simp only [Int.reduceToNat] at ho18; rw [← Ny336.out] at ho18))
             have n0_ := zq9 (Kd.V_elder' (by exact vz HO_0) (Kd.R_base ho18) hb)
             have n1_ := zq9 (Kd.V_elder' (by exact vz HO332) (Kd.R_base ho18) hb)
             have n2_ := zq9 (Kd.V_elder' (by exact vz HO346) (Kd.R_base ho18) hb)
             have n3_ := zq9 (Kd.R_lower (Kd.R_newM (M := fun k_ => (w.heap.size ≤ k_)) ho18 (zq29 (by exact bl HB)) (fun k_ h_ => h_)) (zq29 (by exact bl HB)))
             have n4_ := zq9 (zq27 (by exact bl HB) hb)
             clear HO_0
             clear HO332
             clear HO346
             clear HB
             have HO_0 := n0_
             have HO332 := n1_
             have HO346 := n2_
             have HO338 := n3_
             have HB := n4_
             clear n0_ n1_ n2_ n3_ n4_
             clear hb ho18
             refine hK.out _ _ trivial (fun hHeld => ?_)
             clear hK K
             refine norm_ (a' := ?_) ?_ ?_
             rotate_left; ·show Act.put _ (some 39) _ = _; simp only [Act.put, zq0, zq1, zq2, i64_w, i32_w]; rfl
             refine one_ (i := 0) (N := some 33) (zb 13 1903) rfl rfl (one_of HT_.out (by kernel_rfl)) (by decide) (fun K hK => ?_)
             refine Kd.R_lit_step Kd.string _ 9 ?hg (N := 33) ?hd (xs := ([] : List ByteArray)) (inner := []) (ok := fun _ => True) (okp := fun _ => True) ?hr ?hp (fun _ hk => hk) trivial (Below.refl _ _) (Nat.le_refl _) (by simp) ?_; (case hd => rfl); (case hg => rfl); (case hr => first | (go_simp; done) | (go_simp; rfl)); (case hp => exact (Reps.none _ _))
             intro v326 w19 ho20 hb hg_ hnew_
             clear hg_ hnew_
             (first | rw [← Ny325.out] at ho20 | (simp only [Int.reduceToNat] at ho20; rw [← Ny325.out] at ho20))
             have n0_ := zq9 (Kd.V_elder' (by exact vz HO_0) (Kd.R_base ho20) hb)
             have n1_ := zq9 (Kd.V_elder' (by exact vz HO332) (Kd.R_base ho20) hb)
             have n2_ := zq9 (Kd.V_elder' (by exact vz HO346) (Kd.R_base ho20) hb)
             have n3_ := zq9 (Kd.R_elder' (by exact rz HO338) (Kd.R_base ho20) hb)
             have n4_ := zq9 (Kd.R_lower (Kd.R_new' (Kd.R_newM (M := fun k_ => (w.heap.size ≤ k_)) ho20 (zq29 (by exact bl HB)) (fun k_ h_ => h_)) (Kd.R_lt (by exact rz HO338))) (zq29 (by exact bl HB)))
             have n5_ := zq9 (zq27 (by exact bl HB) hb)
             clear HO_0
             clear HO332
             clear HO346
             clear HO338
             clear HB
             have HO_0 := n0_
             have HO332 := n1_
             have HO346 := n2_
             have HO338 := n3_
             have HO327 := n4_
             have HB := n5_
             clear n0_ n1_ n2_ n3_ n4_ n5_
             clear hb ho20
             refine hK.out _ _ trivial (fun hHeld => ?_)
             clear hK K
             refine norm_ (a' := ?_) ?_ ?_
             rotate_left; ·show Act.put _ (some 33) _ = _; simp only [Act.put, zq0, zq1, zq2, i64_w, i32_w]; rfl
             refine one_ (i := 4) (N := some 37) (zb 13 1919) rfl rfl (one_of HT_.out (by kernel_rfl)) (by decide) (fun K hK => ?_)
             refine Kd.R_append_rows_step Kd.string (w0 := w) w.heap.size (by rfl) (.tmp 33) (.tmp 36) 22 9 (.string ⟨#[]⟩) 16 rfl Try.underlying22 info9 rfl (by decide) (by omega) v326 y325 y328 _ _ _ (fun k_ => (w.heap.size ≤ k_) ∧ some k_ ≠ (v337 : Value).ownBlock) (fun _ => False) rfl rfl ?aO ?aR (fun _ _ h => h) (fun _ h => h.elim) ?aF ?aB ?aS ?aL ?_
             (case aR => repeat (first | exact (Kd.V_reads' HO332.out).2.2 | (with_reducible refine zq18 ?_ _) | (with_reducible refine zq19 ?_ _) | (with_reducible refine zq20 ?_)))
             (case aB => exact (by exact bl HB))
             (case aF => exact (fun k_ hk => ⟨(Nat.le_trans (zq29 (by exact bl HB)) hk), Kd.fresh' (Kd.R_lt (by exact rz HO338)) k_ hk⟩))
             (case aO => exact (by (with_reducible repeat (first | apply zq10 | apply zq11 | apply zq12)); exact Kd.R_mono HO327.out (fun _ hk => ⟨hk.1.1, hk.2⟩)))
             (case aS => exact (zq29 (by exact bl HB)))
             (case aL => have := LMc9.out; omega)
             intro v334 w21 ho hb hg hat
             rw [← Ny333.out] at ho
             have n0_ := zq9 (Kd.V_afterv (ok := (fun k_ => (P0_ k_ ∨ w.heap.size ≤ k_) ∧ some k_ ≠ (v337 : Value).ownBlock)) (by exact vz HO_0) hg hat)
             have n1_ := zq9 (Kd.V_afterv (ok := (fun k_ => (P0_ k_ ∨ w.heap.size ≤ k_) ∧ some k_ ≠ (v337 : Value).ownBlock)) (by exact vz HO332) hg hat)
             have n2_ := zq9 (Kd.V_afterv (ok := (fun k_ => (P0_ k_ ∨ w.heap.size ≤ k_) ∧ some k_ ≠ (v337 : Value).ownBlock)) (by exact vz HO346) hg hat)
             have n3_ := zq9 (Kd.R_after (ok := (fun k_ => (w.heap.size ≤ k_))) (by (with_reducible repeat (first | apply zq10 | apply zq11 | apply zq12)); exact Kd.R_mono HO338.out (fun _ hk => ⟨hk.1.1, hk.2⟩)) hg hat)
             have n4_ := zq9 (hb)
             have n5_ := zq9 (ho)
             clear HO_0
             clear HO332
             clear HO346
             clear HO338
             clear HB
             clear HO327
             have HO_0 := n0_
             have HO332 := n1_
             have HO346 := n2_
             have HO338 := n3_
             have HB := n4_
             have HO335 := n5_
             clear n0_ n1_ n2_ n3_ n4_ n5_
             clear ho hb hg hat
             refine hK.out _ _ trivial (fun hHeld => ?_)
             clear hK K
             refine norm_ (a' := ?_) ?_ ?_
             rotate_left; ·show Act.put _ (some 37) _ = _; simp only [Act.put, zq0, zq1, zq2, i64_w, i32_w]; rfl
             exact norm_ (by simp only [putAll, Act.put, zq0, zq1, zq2]) (hCont (v326, v334, v337) _ ⟨(by (with_reducible repeat (first | apply zq21 | apply zq22 | apply zq23)); exact Kd.V_mono HO332.out (fun _ hk => ⟨hk.1.1, ⟨hk.2, hk.1.2⟩⟩)), (by exact rz HO335), (by exact rz HO338), (by (with_reducible repeat (first | apply zq21 | apply zq22 | apply zq23)); exact Kd.V_mono HO346.out (fun _ hk => ⟨hk.1.1, ⟨hk.2, hk.1.2⟩⟩)), (by (with_reducible repeat (first | apply zq21 | apply zq22 | apply zq23)); exact Kd.V_mono HO_0.out (fun _ hk => ⟨hk.1.1, ⟨hk.2, hk.1.2⟩⟩)), (by exact bl HB)⟩)
           rintro ⟨v326, v334, v337⟩ w22 ⟨h0_, h1_, h2_, h3_, h4_, h5_⟩
           have n0_ : Aside0 (Kd.V Kd.string 9 w22 w.heap.size (fun k_ => (P0_ k_ ∨ w.heap.size ≤ k_) ∧ some k_ ≠ (v334 : Value).ownBlock ∧ some k_ ≠ (v337 : Value).ownBlock) (.slice (some ad323) y328.length c0) y328) := ⟨h0_⟩
           have n1_ : Aside0 (Kd.R Kd.string 9 w22 w.heap.size (fun k_ => (w.heap.size ≤ k_) ∧ some k_ ≠ (v337 : Value).ownBlock) v334 y333) := ⟨h1_⟩
           have n2_ : Aside0 (Kd.R Kd.string 9 w22 w.heap.size (fun k_ => (w.heap.size ≤ k_) ∧ some k_ ≠ (v334 : Value).ownBlock) v337 y336) := ⟨h2_⟩
           have n3_ : Aside0 (Kd.V Kd.string 9 w22 w.heap.size (fun k_ => (P0_ k_ ∨ w.heap.size ≤ k_) ∧ some k_ ≠ (v334 : Value).ownBlock ∧ some k_ ≠ (v337 : Value).ownBlock) (.slice A16 y342.length c16) y342) := ⟨h3_⟩
           have n4_ : Aside0 (Kd.V Kd.string 9 w22 w.heap.size (fun k_ => (P0_ k_ ∨ w.heap.size ≤ k_) ∧ some k_ ≠ (v334 : Value).ownBlock ∧ some k_ ≠ (v337 : Value).ownBlock) (.slice (some ad323) l0.length c0) l0) := ⟨h4_⟩
           have n5_ : Aside0 (Below w.heap.size w w22) := ⟨h5_⟩
           clear HO_0
           clear HB
           clear h0_ h1_ h2_ h3_ h4_ h5_
           have HO332 := n0_
           have HO335 := n1_
           have HO338 := n2_
           have HO346 := n3_
           have HO_0 := n4_
           have HB := n5_
           clear n0_ n1_ n2_ n3_ n4_ n5_
           have hHeld := trivial
           obtain ⟨Ao24, co24, eo24⟩ := Kd.R_slice HO338.out
           (first | subst eo24 | (injection eo24 with f1_ f2_ f3_; have f4_ := f1_.symm; have f5_ := f3_.symm; clear f1_ f2_ f3_; subst f4_; subst f5_))
           refine norm_ (a' := ?_) ?_ ?_
           rotate_left; ·simp only [putAll, Act.put, zq0, zq1, zq2]; rfl
           refine one_ (i := 7) (N := some 40) (zb 13 2047) rfl rfl (one_of HT_.out (by kernel_rfl)) (by decide) (fun K hK => ?_)
           refine Kd.R_append_rows_step Kd.string (w0 := w) w.heap.size (by rfl) (.tmp 37) (.tmp 39) 22 9 (.string ⟨#[]⟩) 16 rfl Try.underlying22 info9 rfl (by decide) (by omega) v334 y333 y336 _ _ _ (fun k_ => (w.heap.size ≤ k_) ∧ some k_ ≠ (.slice Ao24 y336.length co24 : Value).ownBlock) (fun _ => False) rfl rfl ?aO ?aR (fun _ _ h => h) (fun _ h => h.elim) ?aF ?aB ?aS ?aL ?_
           (case aR => repeat (first | exact (Kd.R_reads' HO338.out).2.2 | (with_reducible refine zq18 ?_ _) | (with_reducible refine zq19 ?_ _) | (with_reducible refine zq20 ?_)))
           (case aB => exact (by exact bl HB))
           (case aF => exact (fun k_ hk => ⟨(Nat.le_trans (zq29 (by exact bl HB)) hk), Kd.fresh' (Kd.R_lt (by exact rz HO338)) k_ hk⟩))
           (case aO => exact (by exact rz HO335))
           (case aS => exact (zq29 (by exact bl HB)))
           (case aL => have := LMc10.out; omega)
           intro v340 w23 ho hb hg hat
           rw [← Ny339.out] at ho
           have n0_ := zq9 (Kd.V_afterv (ok := (fun k_ => (P0_ k_ ∨ w.heap.size ≤ k_) ∧ some k_ ≠ (.slice Ao24 y336.length co24 : Value).ownBlock)) (by (with_reducible repeat (first | apply zq21 | apply zq22 | apply zq23)); exact Kd.V_mono HO_0.out (fun _ hk => ⟨⟨hk.1, hk.2.2⟩, hk.2.1⟩)) hg hat)
           have n1_ := zq9 (Kd.V_afterv (ok := (fun k_ => (P0_ k_ ∨ w.heap.size ≤ k_) ∧ some k_ ≠ (.slice Ao24 y336.length co24 : Value).ownBlock)) (by (with_reducible repeat (first | apply zq21 | apply zq22 | apply zq23)); exact Kd.V_mono HO332.out (fun _ hk => ⟨⟨hk.1, hk.2.2⟩, hk.2.1⟩)) hg hat)
           have n2_ := zq9 (Kd.V_afterv (ok := (fun k_ => (P0_ k_ ∨ w.heap.size ≤ k_) ∧ some k_ ≠ (.slice Ao24 y336.length co24 : Value).ownBlock)) (by (with_reducible repeat (first | apply zq21 | apply zq22 | apply zq23)); exact Kd.V_mono HO346.out (fun _ hk => ⟨⟨hk.1, hk.2.2⟩, hk.2.1⟩)) hg hat)
           have n3_ := zq9 (Kd.R_after (ok := (fun k_ => (w.heap.size ≤ k_))) (by exact rz HO338) hg hat)
           have n4_ := zq9 (hb)
           have n5_ := zq9 (ho)
           clear HO_0
           clear HO332
           clear HO346
           clear HO338
           clear HB
           clear HO335
           have HO_0 := n0_
           have HO332 := n1_
           have HO346 := n2_
           have HO338 := n3_
           have HB := n4_
           have HO341 := n5_
           clear n0_ n1_ n2_ n3_ n4_ n5_
           clear ho hb hg hat
           refine hK.out _ _ trivial (fun hHeld => ?_)
           clear hK K
           refine norm_ (a' := ?_) ?_ ?_
           rotate_left; ·show Act.put _ (some 40) _ = _; simp only [Act.put, zq0, zq1, zq2, i64_w, i32_w]; rfl
           refine one_ (i := 11) (N := some 44) (zb 13 4095) rfl rfl (one_of HT_.out (by kernel_rfl)) (by decide) (fun K hK => ?_)
           refine Kd.R_append_rows_step Kd.string (w0 := w) w.heap.size (by rfl) (.tmp 40) (.tmp 43) 22 9 (.string ⟨#[]⟩) 16 rfl Try.underlying22 info9 rfl (by decide) (by omega) v340 y339 y342 _ _ _ (fun k_ => (w.heap.size ≤ k_) ∧ some k_ ≠ (.slice Ao24 y336.length co24 : Value).ownBlock) (fun _ => False) rfl rfl ?aO ?aR (fun _ _ h => h) (fun _ h => h.elim) ?aF ?aB ?aS ?aL ?_
           (case aR => repeat (first | exact (Kd.V_reads' HO346.out).2.2 | (with_reducible refine zq18 ?_ _) | (with_reducible refine zq19 ?_ _) | (with_reducible refine zq20 ?_)))
           (case aB => exact (by exact bl HB))
           (case aF => exact (fun k_ hk => ⟨(Nat.le_trans (zq29 (by exact bl HB)) hk), Kd.fresh' (Kd.R_lt (by exact rz HO338)) k_ hk⟩))
           (case aO => exact (by exact rz HO341))
           (case aS => exact (zq29 (by exact bl HB)))
           (case aL => have := LMc13.out; omega)
           intro v348 w25 ho hb hg hat
           rw [← Ny347.out] at ho
           have n0_ := zq9 (Kd.V_afterv (ok := (fun k_ => (P0_ k_ ∨ w.heap.size ≤ k_) ∧ some k_ ≠ (.slice Ao24 y336.length co24 : Value).ownBlock)) (by exact vz HO_0) hg hat)
           have n1_ := zq9 (Kd.V_afterv (ok := (fun k_ => (P0_ k_ ∨ w.heap.size ≤ k_) ∧ some k_ ≠ (.slice Ao24 y336.length co24 : Value).ownBlock)) (by exact vz HO332) hg hat)
           have n2_ := zq9 (Kd.V_afterv (ok := (fun k_ => (P0_ k_ ∨ w.heap.size ≤ k_) ∧ some k_ ≠ (.slice Ao24 y336.length co24 : Value).ownBlock)) (by exact vz HO346) hg hat)
           have n3_ := zq9 (Kd.R_after (ok := (fun k_ => (w.heap.size ≤ k_))) (by exact rz HO338) hg hat)
           have n4_ := zq9 (hb)
           have n5_ := zq9 (ho)
           clear HO_0
           clear HO332
           clear HO346
           clear HO338
           clear HB
           clear HO341
           have HO_0 := n0_
           have HO332 := n1_
           have HO346 := n2_
           have HO338 := n3_
           have HB := n4_
           have HO349 := n5_
           clear n0_ n1_ n2_ n3_ n4_ n5_
           clear ho hb hg hat
           refine hK.out _ _ trivial (fun hHeld => ?_)
           clear hK K
           refine norm_ (a' := ?_) ?_ ?_
           rotate_left; ·show Act.put _ (some 44) _ = _; simp only [Act.put, zq0, zq1, zq2, i64_w, i32_w]; rfl
           refine pa HT_ 12 4 (zb 13 8191) ?_
           refine done_ (done_of HT_.out (by kernel_rfl)) ?_
           try go_wp2
           go_ret
           exact ⟨_, by first | rfl | (simp [errW_none, errW_some] <;> rfl) | (simp [*, errW_none, errW_some] <;> rfl), Kd.V_mono (Kd.R_V (by (with_reducible repeat (first | apply zq10 | apply zq11 | apply zq12)); exact Kd.R_mono HO349.out (fun _ hk => hk.1))) (fun k_ hk => by first | exact ⟨(.inr (hk.1)), hk.2⟩ | exact (.inr (hk))), by exact bl HB⟩
          ·rw [if_neg c13] at H
           exact absurd H (by simp)
         ·rw [if_neg c10] at H
          exact absurd H (by simp)
        ·rw [if_neg c9] at H
         exact absurd H (by simp)
       ·rw [if_neg c8] at H
        exact absurd H (by simp)
    ·rw [if_neg c4] at H
     exact absurd H (by simp)
   ·rw [if_neg c3] at H
    have c3b0 : decide (x5_1 < (l0.length : Int)) = false := decide_eq_false c3
    clear c3
    obtain ⟨y350, hy350⟩ : ∃ y_ : List ByteArray, y_ = (([] : List ByteArray)) := ⟨_, rfl⟩
    replace H : (if 0 ≤ x5_1 then (if x5_1 ≤ (l0.length : Int) then ((some (l0.take (x5_1 : Int).toNat : List ByteArray)).bind fun y353 => (if y350.length + y353.length < 8796093022208 then ((some (y350 ++ y353 : List ByteArray)).bind fun y358 => ((some (([a1] : List ByteArray) : List ByteArray)).bind fun y361 => (if y358.length + y361.length < 8796093022208 then ((some (y358 ++ y361 : List ByteArray)).bind fun y364 => ((some (l0.drop (x5_1 : Int).toNat : List ByteArray)).bind fun y367 => (if y364.length + y367.length < 8796093022208 then (some (y364 ++ y367)) else (none)))) else (none)))) else (none))) else (none)) else (none)) = some r := by first | (rw [hy350]; with_reducible exact H) | (have H2_ := (Option.bind_some _ _).symm.trans H; rw [hy350]; with_reducible exact H2_) | (have H2_ := (Option.bind_some _ _).symm.trans H; with_reducible exact H2_) | with_reducible exact H | (rw [hy350]; exact H) | exact H
    have Ny350 := zq9 hy350
    clear hy350
    by_cases c26 : 0 ≤ x5_1
    ·rw [if_pos c26] at H
     have c26b0 := eq_true c26
     have c26b1 : decide (0 ≤ x5_1) = true := decide_eq_true c26
     clear c26
     by_cases c27 : x5_1 ≤ (l0.length : Int)
     ·rw [if_pos c27] at H
      have c27b0 := eq_true c27
      have c27b1 : decide (x5_1 ≤ (l0.length : Int)) = true := decide_eq_true c27
      clear c27
      obtain ⟨y353, hy353⟩ : ∃ y_ : List ByteArray, y_ = (l0.take (x5_1 : Int).toNat) := ⟨_, rfl⟩
      replace H : (if y350.length + y353.length < 8796093022208 then ((some (y350 ++ y353 : List ByteArray)).bind fun y358 => ((some (([a1] : List ByteArray) : List ByteArray)).bind fun y361 => (if y358.length + y361.length < 8796093022208 then ((some (y358 ++ y361 : List ByteArray)).bind fun y364 => ((some (l0.drop (x5_1 : Int).toNat : List ByteArray)).bind fun y367 => (if y364.length + y367.length < 8796093022208 then (some (y364 ++ y367)) else (none)))) else (none)))) else (none)) = some r := by first | (rw [hy353]; with_reducible exact H) | (have H2_ := (Option.bind_some _ _).symm.trans H; rw [hy353]; with_reducible exact H2_) | (have H2_ := (Option.bind_some _ _).symm.trans H; with_reducible exact H2_) | with_reducible exact H | (rw [hy353]; exact H) | exact H
      have Ny353 := zq9 hy353
      clear hy353
      by_cases c28 : y350.length + y353.length < 8796093022208
      ·rw [if_pos c28] at H
       have LMc28 := zq9 c28
       clear c28
       obtain ⟨y358, hy358⟩ : ∃ y_ : List ByteArray, y_ = (y350 ++ y353) := ⟨_, rfl⟩
       replace H : ((some (([a1] : List ByteArray) : List ByteArray)).bind fun y361 => (if y358.length + y361.length < 8796093022208 then ((some (y358 ++ y361 : List ByteArray)).bind fun y364 => ((some (l0.drop (x5_1 : Int).toNat : List ByteArray)).bind fun y367 => (if y364.length + y367.length < 8796093022208 then (some (y364 ++ y367)) else (none)))) else (none))) = some r := by first | (rw [hy358]; with_reducible exact H) | (have H2_ := (Option.bind_some _ _).symm.trans H; rw [hy358]; with_reducible exact H2_) | (have H2_ := (Option.bind_some _ _).symm.trans H; with_reducible exact H2_) | with_reducible exact H | (rw [hy358]; exact H) | exact H
       have Ny358 := zq9 hy358
       clear hy358
       obtain ⟨y361, hy361⟩ : ∃ y_ : List ByteArray, y_ = (([a1] : List ByteArray)) := ⟨_, rfl⟩
       replace H : (if y358.length + y361.length < 8796093022208 then ((some (y358 ++ y361 : List ByteArray)).bind fun y364 => ((some (l0.drop (x5_1 : Int).toNat : List ByteArray)).bind fun y367 => (if y364.length + y367.length < 8796093022208 then (some (y364 ++ y367)) else (none)))) else (none)) = some r := by first | (rw [hy361]; with_reducible exact H) | (have H2_ := (Option.bind_some _ _).symm.trans H; rw [hy361]; with_reducible exact H2_) | (have H2_ := (Option.bind_some _ _).symm.trans H; with_reducible exact H2_) | with_reducible exact H | (rw [hy361]; exact H) | exact H
       have Ny361 := zq9 hy361
       clear hy361
       by_cases c29 : y358.length + y361.length < 8796093022208
       ·rw [if_pos c29] at H
        have LMc29 := zq9 c29
        clear c29
        obtain ⟨y364, hy364⟩ : ∃ y_ : List ByteArray, y_ = (y358 ++ y361) := ⟨_, rfl⟩
        replace H : ((some (l0.drop (x5_1 : Int).toNat : List ByteArray)).bind fun y367 => (if y364.length + y367.length < 8796093022208 then (some (y364 ++ y367)) else (none))) = some r := by first | (rw [hy364]; with_reducible exact H) | (have H2_ := (Option.bind_some _ _).symm.trans H; rw [hy364]; with_reducible exact H2_) | (have H2_ := (Option.bind_some _ _).symm.trans H; with_reducible exact H2_) | with_reducible exact H | (rw [hy364]; exact H) | exact H
        have Ny364 := zq9 hy364
        clear hy364
        have c30b0 := eq_true (of_decide_eq_true ‹_› : 0 ≤ x5_1)
        have c31b0 := eq_true (of_decide_eq_true ‹_› : x5_1 ≤ (l0.length : Int))
        obtain ⟨y367, hy367⟩ : ∃ y_ : List ByteArray, y_ = (l0.drop (x5_1 : Int).toNat) := ⟨_, rfl⟩
        replace H : (if y364.length + y367.length < 8796093022208 then (some (y364 ++ y367)) else (none)) = some r := by first | (rw [hy367]; with_reducible exact H) | (have H2_ := (Option.bind_some _ _).symm.trans H; rw [hy367]; with_reducible exact H2_) | (have H2_ := (Option.bind_some _ _).symm.trans H; with_reducible exact H2_) | with_reducible exact H | (rw [hy367]; exact H) | exact H
        have Ny367 := zq9 hy367
        clear hy367
        by_cases c32 : y364.length + y367.length < 8796093022208
        ·rw [if_pos c32] at H
         have LMc32 := zq9 c32
         clear c32
         obtain ⟨y372, hy372⟩ : ∃ y_ : List ByteArray, y_ = (y364 ++ y367) := ⟨_, rfl⟩
         replace H : (some y372) = some r := by first | (rw [hy372]; with_reducible exact H) | (have H2_ := (Option.bind_some _ _).symm.trans H; rw [hy372]; with_reducible exact H2_) | (have H2_ := (Option.bind_some _ _).symm.trans H; with_reducible exact H2_) | with_reducible exact H | (rw [hy372]; exact H) | exact H
         have Ny372 := zq9 hy372
         clear hy372
         obtain rfl := Option.some.inj H
         try go_wp2
         have n0_ := zq9 (zq23 HO_0.out)
         have n1_ := zq9 (zq4 HB.out)
         clear HO_0
         clear HB
         have HO_0 := n0_
         have HB := n1_
         clear n0_ n1_
         have q34 : (x5_1 : Int) ≤ ((l0.length : Int) : Int) := of_decide_eq_true ‹_›
         obtain ⟨i034, hi034, _, hsz34, _⟩ := info_parts info9
         have hroom34 : l0.length ≤ c0 := (Kd.V_reads' HO_0.out).2.1
         have hC34 : Kd.F Kd.string _ _ A0 l0.length l0 := (Kd.V_at (base := w.heap.size) HO_0.out).2.2
         have hcut34 := cut_to (P := Try.prog) 22 9 .i64 Try.underlying22 hi034 A0 l0.length c0 x5_1 (of_decide_eq_true ‹_›) q34 hroom34
         have hr34 := Kd.F_take (m := (x5_1 : Int).toNat) hC34 (by omega)
         have hy34 : y353.length = (x5_1 : Int).toNat := (by rw [Ny353.out, zq34]; omega)
         rw [← Ny353.out] at hr34
         rw [← hy34] at hcut34
         have HO357 := zq9 (show Kd.V Kd.string 9 _ w.heap.size _ (.slice A0 y353.length c0) y353 from Kd.V_mk (by omega) hr34)
         have HC357 := zq9 (show y353.length ≤ c0 from by omega)
         clear hr34 hC34 hroom34 hi034 hsz34
         have KY34 := zq9 hy34
         clear hy34
         replace q34 := eq_true q34
         have q35 : (x5_1 : Int) ≤ ((l0.length : Int) : Int) := of_decide_eq_true ‹_›
         obtain ⟨i035, hi035, _, hsz35, _⟩ := info_parts info9
         have hroom35 : l0.length ≤ c0 := (Kd.V_reads' HO_0.out).2.1
         have hC35 : Kd.F Kd.string _ _ A0 l0.length l0 := (Kd.V_at (base := w.heap.size) HO_0.out).2.2
         have q035 : (0 : Int) ≤ (x5_1 : Int) := of_decide_eq_true ‹_›
         have hcut35 := cut_from (P := Try.prog) 22 9 .i64 Try.underlying22 hi035 1 hsz35 A0 l0.length c0 x5_1 q035 q35
         have hr35 := Kd.F_cut (m := (x5_1 : Int).toNat) (c := c0) hC35 (by omega) hroom35
         obtain ⟨A35, hA35⟩ : ∃ A1, A1 = (if c0 = (x5_1 : Int).toNat then A0 else (A0 : Option Addr).map (·.add ((x5_1 : Int).toNat * 1))) := ⟨_, rfl⟩
         obtain ⟨c35, hc35⟩ : ∃ c1, c1 = c0 - (x5_1 : Int).toNat := ⟨_, rfl⟩
         have hy35 : y367.length = l0.length - (x5_1 : Int).toNat := (by rw [Ny367.out, zq33] <;> omega)
         rw [show (l0).drop (x5_1 : Int).toNat = y367 from Ny367.out.symm] at hr35
         replace hr35 : Kd.F Kd.string _ _ A35 y367.length y367 := (by rw [hA35]; exact hr35)
         rw [← hy35, ← hA35, ← hc35] at hcut35
         have HO371 := zq9 (show Kd.V Kd.string 9 _ w.heap.size _ (.slice A35 y367.length c35) y367 from Kd.V_mk (by rw [hy35, hc35]; exact Nat.sub_le_sub_right hroom35 _) hr35)
         have HC371 := zq9 (show y367.length ≤ c35 from by rw [hy35, hc35]; exact Nat.sub_le_sub_right hroom35 _)
         clear hr35 hC35 hroom35 hi035 hsz35 hc35
         have KY35 := zq9 hy35
         have KA35 := zq9 hA35
         clear hy35 hA35
         replace q35 := eq_true q35
         refine start_ (n := 13) (S := fun w' => True) (ds := []) #[false, false, false, false, false, false, false, false, false, false, false, false, false] (by kernel_rfl) rfl rfl trivial (fun hHeld => ?_); refine with_tabW spec_l2Put.tab6 spec_l2Put.bits6 (fun HT_ HW_ => ?_)
         generalize wr.drew = w33 at HO_0 HB HO357 HO371 hHeld ⊢
         refine pa HT_ 1 34 (zb 13 2) ?_
         refine pa HT_ 2 35 (zb 13 6) ?_
         refine pa HT_ 3 36 (zb 13 14) ?_
         refine pa HT_ 5 38 (zb 13 46) ?_
         refine pa HT_ 8 41 (zb 13 302) ?_
         refine pa HT_ 9 42 (zb 13 814) ?_
         refine pa HT_ 10 43 (zb 13 1838) ?_
         refine join_ (σ := Value × Value × Value) 3 #[true, true, true, true, true, true, true, false, true, true, true, false, false] (fun s_ => [(33, s_.1), (37, s_.2.1), (39, s_.2.2)]) (fun s_ w' => (Kd.V Kd.string 9 w' w.heap.size (fun k_ => (P0_ k_ ∨ w.heap.size ≤ k_) ∧ some k_ ≠ (s_.2.1 : Value).ownBlock ∧ some k_ ≠ (s_.2.2 : Value).ownBlock) (.slice A0 y353.length c0) y353) ∧ (Kd.R Kd.string 9 w' w.heap.size (fun k_ => (w.heap.size ≤ k_) ∧ some k_ ≠ (s_.2.2 : Value).ownBlock) s_.2.1 y358) ∧ (Kd.R Kd.string 9 w' w.heap.size (fun k_ => (w.heap.size ≤ k_) ∧ some k_ ≠ (s_.2.1 : Value).ownBlock) s_.2.2 y361) ∧ (Kd.V Kd.string 9 w' w.heap.size (fun k_ => (P0_ k_ ∨ w.heap.size ≤ k_) ∧ some k_ ≠ (s_.2.1 : Value).ownBlock ∧ some k_ ≠ (s_.2.2 : Value).ownBlock) (.slice A35 y367.length c35) y367) ∧ (Kd.V Kd.string 9 w' w.heap.size (fun k_ => (P0_ k_ ∨ w.heap.size ≤ k_) ∧ some k_ ≠ (s_.2.1 : Value).ownBlock ∧ some k_ ≠ (s_.2.2 : Value).ownBlock) (.slice A0 l0.length c0) l0) ∧ (Below w.heap.size w w')) ?_ ?_
         rotate_left
         ·intro hCont
          refine two_ (i := 0) (j := 6) (Ni := some 33) (Nj := some 39) #[true, true, true, true, false, true, false, false, true, true, true, false, false] #[false, true, true, true, false, true, true, false, true, true, true, false, false] rfl rfl rfl rfl (two_of HT_.out (by kernel_rfl)) (by decide) (by decide) (fun K hK => ?_) (fun K hK => ?_)
          ·skip
           refine Kd.R_lit_step Kd.string _ 9 ?hg (N := 33) ?hd (xs := ([] : List ByteArray)) (inner := []) (ok := fun _ => True) (okp := fun _ => True) ?hr ?hp (fun _ hk => hk) trivial (Below.refl _ _) (Nat.le_refl _) (by simp) ?_; (case hd => rfl); (case hg => rfl); (case hr => first | (go_simp; done) | (go_simp; rfl)); (case hp => exact (Reps.none _ _))
           intro v351 w36 ho37 hb hg_ hnew_
           clear hg_ hnew_
           (first | rw [← Ny350.out] at ho37 | (simp only [Int.reduceToNat] at ho37; rw [← Ny350.out] at ho37))
           have n0_ := zq9 (Kd.V_elder' (by exact vz HO_0) (Kd.R_base ho37) hb)
           have n1_ := zq9 (Kd.V_elder' (by exact vz HO357) (Kd.R_base ho37) hb)
           have n2_ := zq9 (Kd.V_elder' (by exact vz HO371) (Kd.R_base ho37) hb)
           have n3_ := zq9 (Kd.R_lower (Kd.R_newM (M := fun k_ => (w.heap.size ≤ k_)) ho37 (zq29 (by exact bl HB)) (fun k_ h_ => h_)) (zq29 (by exact bl HB)))
           have n4_ := zq9 (zq27 (by exact bl HB) hb)
           clear HO_0
           clear HO357
           clear HO371
           clear HB
           have HO_0 := n0_
           have HO357 := n1_
           have HO371 := n2_
           have HO352 := n3_
           have HB := n4_
           clear n0_ n1_ n2_ n3_ n4_
           clear hb ho37
           refine hK.out _ _ trivial (fun hHeld => ?_)
           clear hK K
           refine norm_ (a' := ?_) ?_ ?_
           rotate_left; ·show Act.put _ (some 33) _ = _; simp only [Act.put, zq0, zq1, zq2, i64_w, i32_w]; rfl
           refine two_ (i := 4) (j := 6) (Ni := some 37) (Nj := some 39) #[true, true, true, true, true, true, false, false, true, true, true, false, false] #[true, true, true, true, false, true, true, false, true, true, true, false, false] rfl rfl rfl rfl (two_of HT_.out (by kernel_rfl)) (by decide) (by decide) (fun K hK => ?_) (fun K hK => ?_)
           ·skip
            refine Kd.R_append_rows_step Kd.string (w0 := w) w.heap.size (by rfl) (.tmp 33) (.tmp 36) 22 9 (.string ⟨#[]⟩) 16 rfl Try.underlying22 info9 rfl (by decide) (by omega) v351 y350 y353 _ _ _ (fun k_ => (w.heap.size ≤ k_)) (fun _ => False) rfl rfl ?aO ?aR (fun _ _ h => h) (fun _ h => h.elim) ?aF ?aB ?aS ?aL ?_
            (case aR => repeat (first | exact (Kd.V_reads' HO357.out).2.2 | (with_reducible refine zq18 ?_ _) | (with_reducible refine zq19 ?_ _) | (with_reducible refine zq20 ?_)))
            (case aB => exact (by exact bl HB))
            (case aF => exact (fun k_ hk => (Nat.le_trans (zq29 (by exact bl HB)) hk)))
            (case aO => exact (by (with_reducible repeat (first | apply zq10 | apply zq11 | apply zq12)); exact Kd.R_mono HO352.out (fun _ hk => hk.1)))
            (case aS => exact (zq29 (by exact bl HB)))
            (case aL => have := LMc28.out; omega)
            intro v359 w38 ho hb hg hat
            rw [← Ny358.out] at ho
            have n0_ := zq9 (Kd.V_afterv (ok := (fun k_ => (P0_ k_ ∨ w.heap.size ≤ k_))) (by exact vz HO_0) hg hat)
            have n1_ := zq9 (Kd.V_afterv (ok := (fun k_ => (P0_ k_ ∨ w.heap.size ≤ k_))) (by exact vz HO357) hg hat)
            have n2_ := zq9 (Kd.V_afterv (ok := (fun k_ => (P0_ k_ ∨ w.heap.size ≤ k_))) (by exact vz HO371) hg hat)
            have n3_ := zq9 (hb)
            have n4_ := zq9 (ho)
            clear HO_0
            clear HO357
            clear HO371
            clear HB
            clear HO352
            have HO_0 := n0_
            have HO357 := n1_
            have HO371 := n2_
            have HB := n3_
            have HO360 := n4_
            clear n0_ n1_ n2_ n3_ n4_
            clear ho hb hg hat
            refine hK.out _ _ trivial (fun hHeld => ?_)
            clear hK K
            refine norm_ (a' := ?_) ?_ ?_
            rotate_left; ·show Act.put _ (some 37) _ = _; simp only [Act.put, zq0, zq1, zq2, i64_w, i32_w]; rfl
            refine one_ (i := 6) (N := some 39) (zb 13 1919) rfl rfl (one_of HT_.out (by kernel_rfl)) (by decide) (fun K hK => ?_)
            refine Kd.R_lit_step Kd.string _ 9 ?hg (N := 39) ?hd (xs := ([a1] : List ByteArray)) (inner := [.string a1]) (ok := fun _ => True) (okp := fun _ => True) ?hr ?hp (fun _ hk => hk) trivial (Below.refl _ _) (Nat.le_refl _) (by simp) ?_; (case hd => rfl); (case hg => rfl); (case hr => first | (go_simp; done) | (go_simp; rfl)); (case hp => exact (Reps.one (show Kd.M Kd.string _ _ _ a1 [.string a1] from rfl) (Reps.none _ _)))
            intro v362 w39 ho40 hb hg_ hnew_
            clear hg_ hnew_
            (first | rw [← Ny361.out] at ho40 | (simp only [Int.reduceToNat] at ho40; rw [← Ny361.out] at ho40))
            have n0_ := zq9 (Kd.V_elder' (by exact vz HO_0) (Kd.R_base ho40) hb)
            have n1_ := zq9 (Kd.V_elder' (by exact vz HO357) (Kd.R_base ho40) hb)
            have n2_ := zq9 (Kd.V_elder' (by exact vz HO371) (Kd.R_base ho40) hb)
            have n3_ := zq9 (Kd.R_elder' (by exact rz HO360) (Kd.R_base ho40) hb)
            have n4_ := zq9 (Kd.R_lower (Kd.R_new' (Kd.R_newM (M := fun k_ => (w.heap.size ≤ k_)) ho40 (zq29 (by exact bl HB)) (fun k_ h_ => h_)) (Kd.R_lt (by exact rz HO360))) (zq29 (by exact bl HB)))
            have n5_ := zq9 (zq27 (by exact bl HB) hb)
            clear HO_0
            clear HO357
            clear HO371
            clear HO360
            clear HB
            have HO_0 := n0_
            have HO357 := n1_
            have HO371 := n2_
            have HO360 := n3_
            have HO363 := n4_
            have HB := n5_
            clear n0_ n1_ n2_ n3_ n4_ n5_
            clear hb ho40
            refine hK.out _ _ trivial (fun hHeld => ?_)
            clear hK K
            refine norm_ (a' := ?_) ?_ ?_
            rotate_left; ·show Act.put _ (some 39) _ = _; simp only [Act.put, zq0, zq1, zq2, i64_w, i32_w]; rfl
            exact norm_ (by simp only [putAll, Act.put, zq0, zq1, zq2]) (hCont (v351, v359, v362) _ ⟨(by (with_reducible repeat (first | apply zq21 | apply zq22 | apply zq23)); exact Kd.V_mono HO357.out (fun _ hk => ⟨hk.1.1, ⟨hk.1.2, hk.2⟩⟩)), (by exact rz HO360), (by (with_reducible repeat (first | apply zq10 | apply zq11 | apply zq12)); exact Kd.R_mono HO363.out (fun _ hk => ⟨hk.1.1, hk.2⟩)), (by (with_reducible repeat (first | apply zq21 | apply zq22 | apply zq23)); exact Kd.V_mono HO371.out (fun _ hk => ⟨hk.1.1, ⟨hk.1.2, hk.2⟩⟩)), (by (with_reducible repeat (first | apply zq21 | apply zq22 | apply zq23)); exact Kd.V_mono HO_0.out (fun _ hk => ⟨hk.1.1, ⟨hk.1.2, hk.2⟩⟩)), (by exact bl HB)⟩)
           ·skip
            refine Kd.R_lit_step Kd.string _ 9 ?hg (N := 39) ?hd (xs := ([a1] : List ByteArray)) (inner := [.string a1]) (ok := fun _ => True) (okp := fun _ => True) ?hr ?hp (fun _ hk => hk) trivial (Below.refl _ _) (Nat.le_refl _) (by simp) ?_; (case hd => rfl); (case hg => rfl); (case hr => first | (go_simp; done) | (go_simp; rfl)); (case hp => exact (Reps.one (show Kd.M Kd.string _ _ _ a1 [.string a1] from rfl) (Reps.none _ _)))
            intro v362 w38 ho39 hb hg_ hnew_
            clear hg_ hnew_
            (first | rw [← Ny361.out] at ho39 | (simp only [Int.reduceToNat] at ho39; rw [← Ny361.out] at ho39))
            have n0_ := zq9 (Kd.V_elder' (by exact vz HO_0) (Kd.R_base ho39) hb)
            have n1_ := zq9 (Kd.V_elder' (by exact vz HO357) (Kd.R_base ho39) hb)
            have n2_ := zq9 (Kd.V_elder' (by exact vz HO371) (Kd.R_base ho39) hb)
            have n3_ := zq9 (Kd.R_elder' (by exact rz HO352) (Kd.R_base ho39) hb)
            have n4_ := zq9 (Kd.R_lower (Kd.R_new' (Kd.R_newM (M := fun k_ => (w.heap.size ≤ k_)) ho39 (zq29 (by exact bl HB)) (fun k_ h_ => h_)) (Kd.R_lt (by exact rz HO352))) (zq29 (by exact bl HB)))
            have n5_ := zq9 (zq27 (by exact bl HB) hb)
            clear HO_0
            clear HO357
            clear HO371
            clear HO352
            clear HB
            have HO_0 := n0_
            have HO357 := n1_
            have HO371 := n2_
            have HO352 := n3_
            have HO363 := n4_
            have HB := n5_
            clear n0_ n1_ n2_ n3_ n4_ n5_
            clear hb ho39
            refine hK.out _ _ trivial (fun hHeld => ?_)
            clear hK K
            refine norm_ (a' := ?_) ?_ ?_
            rotate_left; ·show Act.put _ (some 39) _ = _; simp only [Act.put, zq0, zq1, zq2, i64_w, i32_w]; rfl
            refine one_ (i := 4) (N := some 37) (zb 13 1919) rfl rfl (one_of HT_.out (by kernel_rfl)) (by decide) (fun K hK => ?_)
            refine Kd.R_append_rows_step Kd.string (w0 := w) w.heap.size (by rfl) (.tmp 33) (.tmp 36) 22 9 (.string ⟨#[]⟩) 16 rfl Try.underlying22 info9 rfl (by decide) (by omega) v351 y350 y353 _ _ _ (fun k_ => (w.heap.size ≤ k_) ∧ some k_ ≠ (v362 : Value).ownBlock) (fun _ => False) rfl rfl ?aO ?aR (fun _ _ h => h) (fun _ h => h.elim) ?aF ?aB ?aS ?aL ?_
            (case aR => repeat (first | exact (Kd.V_reads' HO357.out).2.2 | (with_reducible refine zq18 ?_ _) | (with_reducible refine zq19 ?_ _) | (with_reducible refine zq20 ?_)))
            (case aB => exact (by exact bl HB))
            (case aF => exact (fun k_ hk => ⟨(Nat.le_trans (zq29 (by exact bl HB)) hk), Kd.fresh' (Kd.R_lt (by exact rz HO363)) k_ hk⟩))
            (case aO => exact (by (with_reducible repeat (first | apply zq10 | apply zq11 | apply zq12)); exact Kd.R_mono HO352.out (fun _ hk => ⟨hk.1.1, hk.2⟩)))
            (case aS => exact (zq29 (by exact bl HB)))
            (case aL => have := LMc28.out; omega)
            intro v359 w40 ho hb hg hat
            rw [← Ny358.out] at ho
            have n0_ := zq9 (Kd.V_afterv (ok := (fun k_ => (P0_ k_ ∨ w.heap.size ≤ k_) ∧ some k_ ≠ (v362 : Value).ownBlock)) (by (with_reducible repeat (first | apply zq21 | apply zq22 | apply zq23)); exact Kd.V_mono HO_0.out (fun _ hk => ⟨⟨hk.1.1, hk.2⟩, hk.1.2⟩)) hg hat)
            have n1_ := zq9 (Kd.V_afterv (ok := (fun k_ => (P0_ k_ ∨ w.heap.size ≤ k_) ∧ some k_ ≠ (v362 : Value).ownBlock)) (by (with_reducible repeat (first | apply zq21 | apply zq22 | apply zq23)); exact Kd.V_mono HO357.out (fun _ hk => ⟨⟨hk.1.1, hk.2⟩, hk.1.2⟩)) hg hat)
            have n2_ := zq9 (Kd.V_afterv (ok := (fun k_ => (P0_ k_ ∨ w.heap.size ≤ k_) ∧ some k_ ≠ (v362 : Value).ownBlock)) (by (with_reducible repeat (first | apply zq21 | apply zq22 | apply zq23)); exact Kd.V_mono HO371.out (fun _ hk => ⟨⟨hk.1.1, hk.2⟩, hk.1.2⟩)) hg hat)
            have n3_ := zq9 (Kd.R_after (ok := (fun k_ => (w.heap.size ≤ k_))) (by (with_reducible repeat (first | apply zq10 | apply zq11 | apply zq12)); exact Kd.R_mono HO363.out (fun _ hk => ⟨hk.1.1, hk.2⟩)) hg hat)
            have n4_ := zq9 (hb)
            have n5_ := zq9 (ho)
            clear HO_0
            clear HO357
            clear HO371
            clear HO363
            clear HB
            clear HO352
            have HO_0 := n0_
            have HO357 := n1_
            have HO371 := n2_
            have HO363 := n3_
            have HB := n4_
            have HO360 := n5_
            clear n0_ n1_ n2_ n3_ n4_ n5_
            clear ho hb hg hat
            refine hK.out _ _ trivial (fun hHeld => ?_)
            clear hK K
            refine norm_ (a' := ?_) ?_ ?_
            rotate_left; ·show Act.put _ (some 37) _ = _; simp only [Act.put, zq0, zq1, zq2, i64_w, i32_w]; rfl
            exact norm_ (by simp only [putAll, Act.put, zq0, zq1, zq2]) (hCont (v351, v359, v362) _ ⟨(by (with_reducible repeat (first | apply zq21 | apply zq22 | apply zq23)); exact Kd.V_mono HO357.out (fun _ hk => ⟨hk.1.1, ⟨hk.2, hk.1.2⟩⟩)), (by exact rz HO360), (by exact rz HO363), (by (with_reducible repeat (first | apply zq21 | apply zq22 | apply zq23)); exact Kd.V_mono HO371.out (fun _ hk => ⟨hk.1.1, ⟨hk.2, hk.1.2⟩⟩)), (by (with_reducible repeat (first | apply zq21 | apply zq22 | apply zq23)); exact Kd.V_mono HO_0.out (fun _ hk => ⟨hk.1.1, ⟨hk.2, hk.1.2⟩⟩)), (by exact bl HB)⟩)
          ·skip
           refine Kd.R_lit_step Kd.string _ 9 ?hg (N := 39) ?hd (xs := ([a1] : List ByteArray)) (inner := [.string a1]) (ok := fun _ => True) (okp := fun _ => True) ?hr ?hp (fun _ hk => hk) trivial (Below.refl _ _) (Nat.le_refl _) (by simp) ?_; (case hd => rfl); (case hg => rfl); (case hr => first | (go_simp; done) | (go_simp; rfl)); (case hp => exact (Reps.one (show Kd.M Kd.string _ _ _ a1 [.string a1] from rfl) (Reps.none _ _)))
           intro v362 w36 ho37 hb hg_ hnew_
           clear hg_ hnew_
           (first | rw [← Ny361.out] at ho37 | (simp only [Int.reduceToNat] at ho37; rw [← Ny361.out] at ho37))
           have n0_ := zq9 (Kd.V_elder' (by exact vz HO_0) (Kd.R_base ho37) hb)
           have n1_ := zq9 (Kd.V_elder' (by exact vz HO357) (Kd.R_base ho37) hb)
           have n2_ := zq9 (Kd.V_elder' (by exact vz HO371) (Kd.R_base ho37) hb)
           have n3_ := zq9 (Kd.R_lower (Kd.R_newM (M := fun k_ => (w.heap.size ≤ k_)) ho37 (zq29 (by exact bl HB)) (fun k_ h_ => h_)) (zq29 (by exact bl HB)))
           have n4_ := zq9 (zq27 (by exact bl HB) hb)
           clear HO_0
           clear HO357
           clear HO371
           clear HB
           have HO_0 := n0_
           have HO357 := n1_
           have HO371 := n2_
           have HO363 := n3_
           have HB := n4_
           clear n0_ n1_ n2_ n3_ n4_
           clear hb ho37
           refine hK.out _ _ trivial (fun hHeld => ?_)
           clear hK K
           refine norm_ (a' := ?_) ?_ ?_
           rotate_left; ·show Act.put _ (some 39) _ = _; simp only [Act.put, zq0, zq1, zq2, i64_w, i32_w]; rfl
           refine one_ (i := 0) (N := some 33) (zb 13 1903) rfl rfl (one_of HT_.out (by kernel_rfl)) (by decide) (fun K hK => ?_)
           refine Kd.R_lit_step Kd.string _ 9 ?hg (N := 33) ?hd (xs := ([] : List ByteArray)) (inner := []) (ok := fun _ => True) (okp := fun _ => True) ?hr ?hp (fun _ hk => hk) trivial (Below.refl _ _) (Nat.le_refl _) (by simp) ?_; (case hd => rfl); (case hg => rfl); (case hr => first | (go_simp; done) | (go_simp; rfl)); (case hp => exact (Reps.none _ _))
           intro v351 w38 ho39 hb hg_ hnew_
           clear hg_ hnew_
           (first | rw [← Ny350.out] at ho39 | (simp only [Int.reduceToNat] at ho39; rw [← Ny350.out] at ho39))
           have n0_ := zq9 (Kd.V_elder' (by exact vz HO_0) (Kd.R_base ho39) hb)
           have n1_ := zq9 (Kd.V_elder' (by exact vz HO357) (Kd.R_base ho39) hb)
           have n2_ := zq9 (Kd.V_elder' (by exact vz HO371) (Kd.R_base ho39) hb)
           have n3_ := zq9 (Kd.R_elder' (by exact rz HO363) (Kd.R_base ho39) hb)
           have n4_ := zq9 (Kd.R_lower (Kd.R_new' (Kd.R_newM (M := fun k_ => (w.heap.size ≤ k_)) ho39 (zq29 (by exact bl HB)) (fun k_ h_ => h_)) (Kd.R_lt (by exact rz HO363))) (zq29 (by exact bl HB)))
           have n5_ := zq9 (zq27 (by exact bl HB) hb)
           clear HO_0
           clear HO357
           clear HO371
           clear HO363
           clear HB
           have HO_0 := n0_
           have HO357 := n1_
           have HO371 := n2_
           have HO363 := n3_
           have HO352 := n4_
           have HB := n5_
           clear n0_ n1_ n2_ n3_ n4_ n5_
           clear hb ho39
           refine hK.out _ _ trivial (fun hHeld => ?_)
           clear hK K
           refine norm_ (a' := ?_) ?_ ?_
           rotate_left; ·show Act.put _ (some 33) _ = _; simp only [Act.put, zq0, zq1, zq2, i64_w, i32_w]; rfl
           refine one_ (i := 4) (N := some 37) (zb 13 1919) rfl rfl (one_of HT_.out (by kernel_rfl)) (by decide) (fun K hK => ?_)
           refine Kd.R_append_rows_step Kd.string (w0 := w) w.heap.size (by rfl) (.tmp 33) (.tmp 36) 22 9 (.string ⟨#[]⟩) 16 rfl Try.underlying22 info9 rfl (by decide) (by omega) v351 y350 y353 _ _ _ (fun k_ => (w.heap.size ≤ k_) ∧ some k_ ≠ (v362 : Value).ownBlock) (fun _ => False) rfl rfl ?aO ?aR (fun _ _ h => h) (fun _ h => h.elim) ?aF ?aB ?aS ?aL ?_
           (case aR => repeat (first | exact (Kd.V_reads' HO357.out).2.2 | (with_reducible refine zq18 ?_ _) | (with_reducible refine zq19 ?_ _) | (with_reducible refine zq20 ?_)))
           (case aB => exact (by exact bl HB))
           (case aF => exact (fun k_ hk => ⟨(Nat.le_trans (zq29 (by exact bl HB)) hk), Kd.fresh' (Kd.R_lt (by exact rz HO363)) k_ hk⟩))
           (case aO => exact (by (with_reducible repeat (first | apply zq10 | apply zq11 | apply zq12)); exact Kd.R_mono HO352.out (fun _ hk => ⟨hk.1.1, hk.2⟩)))
           (case aS => exact (zq29 (by exact bl HB)))
           (case aL => have := LMc28.out; omega)
           intro v359 w40 ho hb hg hat
           rw [← Ny358.out] at ho
           have n0_ := zq9 (Kd.V_afterv (ok := (fun k_ => (P0_ k_ ∨ w.heap.size ≤ k_) ∧ some k_ ≠ (v362 : Value).ownBlock)) (by exact vz HO_0) hg hat)
           have n1_ := zq9 (Kd.V_afterv (ok := (fun k_ => (P0_ k_ ∨ w.heap.size ≤ k_) ∧ some k_ ≠ (v362 : Value).ownBlock)) (by exact vz HO357) hg hat)
           have n2_ := zq9 (Kd.V_afterv (ok := (fun k_ => (P0_ k_ ∨ w.heap.size ≤ k_) ∧ some k_ ≠ (v362 : Value).ownBlock)) (by exact vz HO371) hg hat)
           have n3_ := zq9 (Kd.R_after (ok := (fun k_ => (w.heap.size ≤ k_))) (by (with_reducible repeat (first | apply zq10 | apply zq11 | apply zq12)); exact Kd.R_mono HO363.out (fun _ hk => ⟨hk.1.1, hk.2⟩)) hg hat)
           have n4_ := zq9 (hb)
           have n5_ := zq9 (ho)
           clear HO_0
           clear HO357
           clear HO371
           clear HO363
           clear HB
           clear HO352
           have HO_0 := n0_
           have HO357 := n1_
           have HO371 := n2_
           have HO363 := n3_
           have HB := n4_
           have HO360 := n5_
           clear n0_ n1_ n2_ n3_ n4_ n5_
           clear ho hb hg hat
           refine hK.out _ _ trivial (fun hHeld => ?_)
           clear hK K
           refine norm_ (a' := ?_) ?_ ?_
           rotate_left; ·show Act.put _ (some 37) _ = _; simp only [Act.put, zq0, zq1, zq2, i64_w, i32_w]; rfl
           exact norm_ (by simp only [putAll, Act.put, zq0, zq1, zq2]) (hCont (v351, v359, v362) _ ⟨(by (with_reducible repeat (first | apply zq21 | apply zq22 | apply zq23)); exact Kd.V_mono HO357.out (fun _ hk => ⟨hk.1.1, ⟨hk.2, hk.1.2⟩⟩)), (by exact rz HO360), (by exact rz HO363), (by (with_reducible repeat (first | apply zq21 | apply zq22 | apply zq23)); exact Kd.V_mono HO371.out (fun _ hk => ⟨hk.1.1, ⟨hk.2, hk.1.2⟩⟩)), (by (with_reducible repeat (first | apply zq21 | apply zq22 | apply zq23)); exact Kd.V_mono HO_0.out (fun _ hk => ⟨hk.1.1, ⟨hk.2, hk.1.2⟩⟩)), (by exact bl HB)⟩)
         rintro ⟨v351, v359, v362⟩ w41 ⟨h0_, h1_, h2_, h3_, h4_, h5_⟩
         have n0_ : Aside0 (Kd.V Kd.string 9 w41 w.heap.size (fun k_ => (P0_ k_ ∨ w.heap.size ≤ k_) ∧ some k_ ≠ (v359 : Value).ownBlock ∧ some k_ ≠ (v362 : Value).ownBlock) (.slice A0 y353.length c0) y353) := ⟨h0_⟩
         have n1_ : Aside0 (Kd.R Kd.string 9 w41 w.heap.size (fun k_ => (w.heap.size ≤ k_) ∧ some k_ ≠ (v362 : Value).ownBlock) v359 y358) := ⟨h1_⟩
         have n2_ : Aside0 (Kd.R Kd.string 9 w41 w.heap.size (fun k_ => (w.heap.size ≤ k_) ∧ some k_ ≠ (v359 : Value).ownBlock) v362 y361) := ⟨h2_⟩
         have n3_ : Aside0 (Kd.V Kd.string 9 w41 w.heap.size (fun k_ => (P0_ k_ ∨ w.heap.size ≤ k_) ∧ some k_ ≠ (v359 : Value).ownBlock ∧ some k_ ≠ (v362 : Value).ownBlock) (.slice A35 y367.length c35) y367) := ⟨h3_⟩
         have n4_ : Aside0 (Kd.V Kd.string 9 w41 w.heap.size (fun k_ => (P0_ k_ ∨ w.heap.size ≤ k_) ∧ some k_ ≠ (v359 : Value).ownBlock ∧ some k_ ≠ (v362 : Value).ownBlock) (.slice A0 l0.length c0) l0) := ⟨h4_⟩
         have n5_ : Aside0 (Below w.heap.size w w41) := ⟨h5_⟩
         clear HO_0
         clear HB
         clear h0_ h1_ h2_ h3_ h4_ h5_
         have HO357 := n0_
         have HO360 := n1_
         have HO363 := n2_
         have HO371 := n3_
         have HO_0 := n4_
         have HB := n5_
         clear n0_ n1_ n2_ n3_ n4_ n5_
         have hHeld := trivial
         obtain ⟨Ao43, co43, eo43⟩ := Kd.R_slice HO363.out
         (first | subst eo43 | (injection eo43 with f1_ f2_ f3_; have f4_ := f1_.symm; have f5_ := f3_.symm; clear f1_ f2_ f3_; subst f4_; subst f5_))
         refine norm_ (a' := ?_) ?_ ?_
         rotate_left; ·simp only [putAll, Act.put, zq0, zq1, zq2]; rfl
         refine one_ (i := 7) (N := some 40) (zb 13 2047) rfl rfl (one_of HT_.out (by kernel_rfl)) (by decide) (fun K hK => ?_)
         refine Kd.R_append_rows_step Kd.string (w0 := w) w.heap.size (by rfl) (.tmp 37) (.tmp 39) 22 9 (.string ⟨#[]⟩) 16 rfl Try.underlying22 info9 rfl (by decide) (by omega) v359 y358 y361 _ _ _ (fun k_ => (w.heap.size ≤ k_) ∧ some k_ ≠ (.slice Ao43 y361.length co43 : Value).ownBlock) (fun _ => False) rfl rfl ?aO ?aR (fun _ _ h => h) (fun _ h => h.elim) ?aF ?aB ?aS ?aL ?_
         (case aR => repeat (first | exact (Kd.R_reads' HO363.out).2.2 | (with_reducible refine zq18 ?_ _) | (with_reducible refine zq19 ?_ _) | (with_reducible refine zq20 ?_)))
         (case aB => exact (by exact bl HB))
         (case aF => exact (fun k_ hk => ⟨(Nat.le_trans (zq29 (by exact bl HB)) hk), Kd.fresh' (Kd.R_lt (by exact rz HO363)) k_ hk⟩))
         (case aO => exact (by exact rz HO360))
         (case aS => exact (zq29 (by exact bl HB)))
         (case aL => have := LMc29.out; omega)
         intro v365 w42 ho hb hg hat
         rw [← Ny364.out] at ho
         have n0_ := zq9 (Kd.V_afterv (ok := (fun k_ => (P0_ k_ ∨ w.heap.size ≤ k_) ∧ some k_ ≠ (.slice Ao43 y361.length co43 : Value).ownBlock)) (by (with_reducible repeat (first | apply zq21 | apply zq22 | apply zq23)); exact Kd.V_mono HO_0.out (fun _ hk => ⟨⟨hk.1, hk.2.2⟩, hk.2.1⟩)) hg hat)
         have n1_ := zq9 (Kd.V_afterv (ok := (fun k_ => (P0_ k_ ∨ w.heap.size ≤ k_) ∧ some k_ ≠ (.slice Ao43 y361.length co43 : Value).ownBlock)) (by (with_reducible repeat (first | apply zq21 | apply zq22 | apply zq23)); exact Kd.V_mono HO357.out (fun _ hk => ⟨⟨hk.1, hk.2.2⟩, hk.2.1⟩)) hg hat)
         have n2_ := zq9 (Kd.V_afterv (ok := (fun k_ => (P0_ k_ ∨ w.heap.size ≤ k_) ∧ some k_ ≠ (.slice Ao43 y361.length co43 : Value).ownBlock)) (by (with_reducible repeat (first | apply zq21 | apply zq22 | apply zq23)); exact Kd.V_mono HO371.out (fun _ hk => ⟨⟨hk.1, hk.2.2⟩, hk.2.1⟩)) hg hat)
         have n3_ := zq9 (Kd.R_after (ok := (fun k_ => (w.heap.size ≤ k_))) (by exact rz HO363) hg hat)
         have n4_ := zq9 (hb)
         have n5_ := zq9 (ho)
         clear HO_0
         clear HO357
         clear HO371
         clear HO363
         clear HB
         clear HO360
         have HO_0 := n0_
         have HO357 := n1_
         have HO371 := n2_
         have HO363 := n3_
         have HB := n4_
         have HO366 := n5_
         clear n0_ n1_ n2_ n3_ n4_ n5_
         clear ho hb hg hat
         refine hK.out _ _ trivial (fun hHeld => ?_)
         clear hK K
         refine norm_ (a' := ?_) ?_ ?_
         rotate_left; ·show Act.put _ (some 40) _ = _; simp only [Act.put, zq0, zq1, zq2, i64_w, i32_w]; rfl
         refine one_ (i := 11) (N := some 44) (zb 13 4095) rfl rfl (one_of HT_.out (by kernel_rfl)) (by decide) (fun K hK => ?_)
         refine Kd.R_append_rows_step Kd.string (w0 := w) w.heap.size (by rfl) (.tmp 40) (.tmp 43) 22 9 (.string ⟨#[]⟩) 16 rfl Try.underlying22 info9 rfl (by decide) (by omega) v365 y364 y367 _ _ _ (fun k_ => (w.heap.size ≤ k_) ∧ some k_ ≠ (.slice Ao43 y361.length co43 : Value).ownBlock) (fun _ => False) rfl rfl ?aO ?aR (fun _ _ h => h) (fun _ h => h.elim) ?aF ?aB ?aS ?aL ?_
         (case aR => repeat (first | exact (Kd.V_reads' HO371.out).2.2 | (with_reducible refine zq18 ?_ _) | (with_reducible refine zq19 ?_ _) | (with_reducible refine zq20 ?_)))
         (case aB => exact (by exact bl HB))
         (case aF => exact (fun k_ hk => ⟨(Nat.le_trans (zq29 (by exact bl HB)) hk), Kd.fresh' (Kd.R_lt (by exact rz HO363)) k_ hk⟩))
         (case aO => exact (by exact rz HO366))
         (case aS => exact (zq29 (by exact bl HB)))
         (case aL => have := LMc32.out; omega)
         intro v373 w44 ho hb hg hat
         rw [← Ny372.out] at ho
         have n0_ := zq9 (Kd.V_afterv (ok := (fun k_ => (P0_ k_ ∨ w.heap.size ≤ k_) ∧ some k_ ≠ (.slice Ao43 y361.length co43 : Value).ownBlock)) (by exact vz HO_0) hg hat)
         have n1_ := zq9 (Kd.V_afterv (ok := (fun k_ => (P0_ k_ ∨ w.heap.size ≤ k_) ∧ some k_ ≠ (.slice Ao43 y361.length co43 : Value).ownBlock)) (by exact vz HO357) hg hat)
         have n2_ := zq9 (Kd.V_afterv (ok := (fun k_ => (P0_ k_ ∨ w.heap.size ≤ k_) ∧ some k_ ≠ (.slice Ao43 y361.length co43 : Value).ownBlock)) (by exact vz HO371) hg hat)
         have n3_ := zq9 (Kd.R_after (ok := (fun k_ => (w.heap.size ≤ k_))) (by exact rz HO363) hg hat)
         have n4_ := zq9 (hb)
         have n5_ := zq9 (ho)
         clear HO_0
         clear HO357
         clear HO371
         clear HO363
         clear HB
         clear HO366
         have HO_0 := n0_
         have HO357 := n1_
         have HO371 := n2_
         have HO363 := n3_
         have HB := n4_
         have HO374 := n5_
         clear n0_ n1_ n2_ n3_ n4_ n5_
         clear ho hb hg hat
         refine hK.out _ _ trivial (fun hHeld => ?_)
         clear hK K
         refine norm_ (a' := ?_) ?_ ?_
         rotate_left; ·show Act.put _ (some 44) _ = _; simp only [Act.put, zq0, zq1, zq2, i64_w, i32_w]; rfl
         refine pa HT_ 12 4 (zb 13 8191) ?_
         refine done_ (done_of HT_.out (by kernel_rfl)) ?_
         try go_wp2
         go_ret
         exact ⟨_, by first | rfl | (simp [errW_none, errW_some] <;> rfl) | (simp [*, errW_none, errW_some] <;> rfl), Kd.V_mono (Kd.R_V (by (with_reducible repeat (first | apply zq10 | apply zq11 | apply zq12)); exact Kd.R_mono HO374.out (fun _ hk => hk.1))) (fun k_ hk => by first | exact ⟨(.inr (hk.1)), hk.2⟩ | exact (.inr (hk))), by exact bl HB⟩
        ·rw [if_neg c32] at H
         exact absurd H (by simp)
       ·rw [if_neg c29] at H
        exact absurd H (by simp)
      ·rw [if_neg c28] at H
       exact absurd H (by simp)
     ·rw [if_neg c27] at H
      exact absurd H (by simp)
    ·rw [if_neg c26] at H
     exact absurd H (by simp)
set_option maxHeartbeats 8000000 in
set_option maxRecDepth 100000 in
theorem spec_l11Set.calls (k : Nat) (g : Nat) (s0_0 : List Int) (s0_1 : Int) (r1 : List ByteArray) (r2 : Int) (w0 w : World) (hI : IsS118 w0 w g s0_0 s0_1) (hB : Below w0.heap.size w0 w) (h : spec_l11Set.f k s0_0 s0_1 = some (r1, r2)) :
    Calls Try.prog 112 #[.pointer (some ⟨g, 0, none⟩)] w fun e w' => ∃ v0_ : Value, e = .returned (v0_) ∧ Kd.V Kd.string 9 w' w.heap.size (fun k_ => (w.heap.size ≤ k_)) v0_ r1 ∧ IsS118 w0 w' g s0_0 r2 ∧ Below w0.heap.size w0 w' ∧ KeepBut w w' g none := by
  have HI0 := zq9 hI
  have HK := zq9 (KeepBut.refl w g none)
  have HL := zq9 hB.size
  clear hI
  have HW0 := zq9 hB.size
  have HB := zq9 hB
  clear hB
  have H : ((spec_l11AnyTexts.f k s0_0 s0_1).bind fun bt378 => (spec_l11Set.l0 k (([] : List ByteArray)) bt378.1 0 s0_0 bt378.2)) = some (r1, r2) := h
  clear h
  obtain ⟨y375, hy375⟩ : ∃ y_ : List ByteArray, y_ = (([] : List ByteArray)) := ⟨_, rfl⟩
  replace H : ((spec_l11AnyTexts.f k s0_0 s0_1).bind fun bt378 => (spec_l11Set.l0 k y375 bt378.1 0 s0_0 bt378.2)) = some (r1, r2) := by first | (rw [hy375]; with_reducible exact H) | (have H2_ := (Option.bind_some _ _).symm.trans H; rw [hy375]; with_reducible exact H2_) | (have H2_ := (Option.bind_some _ _).symm.trans H; with_reducible exact H2_) | with_reducible exact H | (rw [hy375]; exact H) | exact H
  have Ny375 := zq9 hy375
  clear hy375
  replace H := Option.bind_eq_some_iff.mp H
  obtain ⟨⟨t378, t381⟩, A20, H⟩ := H
  try dsimp only at H
  have A2 := zq9 A20
  clear A20
  have H' := zq9 H
  clear H
  go_enter Try.func112, Try.ntmps112
  go_wp2_with (first | ((with_reducible refine zq25 (N := 6) rfl ?_); refine Kd.R_lit Kd.string _ 9 ?hg (N := 6) ?hd (xs := ([] : List ByteArray)) (inner := []) (ok := fun _ => True) (okp := fun _ => True) ?hr ?hp (fun _ hk => hk) trivial (Below.refl _ _) (Nat.le_refl _) (by simp) ?_; (case hd => rfl); (case hg => rfl); (case hr => first | (go_simp; done) | (go_simp; rfl)); (case hp => exact (Reps.none _ _)); intro v376 w3 ho4 hb hg_ hnew_; clear hg_ hnew_; (first | rw [← Ny375.out] at ho4 | (simp only [Int.reduceToNat] at ho4; rw [← Ny375.out] at ho4)); have n0_ := zq9 (Kd.R_lower (Kd.R_newM (M := fun k_ => (w.heap.size ≤ k_)) ho4 (keep_size (w := w) (g := g) (row := none) (by exact kz HK)) (fun k_ h_ => h_)) (keep_size (w := w) (g := g) (row := none) (by exact kz HK))); have n1_ := zq9 (IsS118.below (by exact iz118 HI0) hb); have n2_ := zq9 (KeepBut.trans (by exact kz HK) (KeepBut.of_below hb g none) (.inl rfl)); have n3_ := zq9 (zq27 (by exact b1 HB (zq9 (IsS118.ge HI0.out))) hb); clear HI0; clear HK; clear HB; have HO377 := n0_; have HI0 := n1_; have HK := n2_; have HB := n3_; clear n0_ n1_ n2_ n3_; clear hb ho4) | ((with_reducible refine zq24 (f := 94) rfl ?_); refine gl (some 8) Try.func94 #[.pointer (some ⟨g, 0, none⟩)] ?_; (with_reducible refine (spec_l11AnyTexts.calls k g s0_0 s0_1 t378 t381 w0 _ ?side1 ?side2 A2.out).mono ?_); (case side1 => exact iz118 HI0); (case side2 => exact b1 HB (zq9 (IsS118.ge HI0.out))); rintro e w5 ⟨v379, rfl, ho0, hi, hb, hk⟩; refine ⟨_, rfl, ?_⟩; have n0_ := zq9 (Kd.R_mono (Kd.R_told (Kd.R_oldK (IsS118.apart (show IsS118 w0 _ g s0_0 s0_1 from by exact iz118 HI0) (by exact rz HO377) (by decide)) hk) (Kd.R_base ho0)) (fun _ h_ => h_.1)); have n1_ := zq9 (Kd.R_lower (Kd.R_new' (Kd.R_newM (M := fun k_ => (w.heap.size ≤ k_)) ho0 (keep_size (w := w) (g := g) (row := none) (by exact kz HK)) (fun k_ h_ => h_)) (Kd.R_lt (by exact rz HO377))) (keep_size (w := w) (g := g) (row := none) (by exact kz HK))); have n2_ := zq9 (KeepBut.trans (by exact kz HK) hk (.inl rfl)); have n3_ := zq9 (hb); have n4_ := zq9 (hi); clear HO377; clear HK; clear HB; clear HI0; have HO377 := n0_; have HO380 := n1_; have HK := n2_; have HB := n3_; have HI0 := n4_; clear n0_ n1_ n2_ n3_ n4_; (try clear hb); (try clear hb2); (try clear hk); (try clear hi); (try clear ho0)))
  go_loopg [3, 5] k (fun kq v3 v5 w' => ∃ (x3_1 : List ByteArray) (x5_1 : Int), v5 = .int .i64 x5_1 ∧ Aside0 (spec_l11Set.l0 kq x3_1 t378 x5_1 s0_0 t381 = some (r1, r2)) ∧ Aside0 (kq ≤ k) ∧ Aside0 (Kd.V Kd.string 9 w' w.heap.size (fun k_ => (w.heap.size ≤ k_) ∧ some k_ ≠ (v379 : Value).ownBlock ∧ k_ ≠ g) v3 x3_1) ∧ Aside0 (Kd.R Kd.string 9 w' w.heap.size (fun k_ => (w.heap.size ≤ k_)) v379 t378) ∧ Aside0 (IsS118 w0 w' g s0_0 t381) ∧ Aside0 (KeepBut w w' g none) ∧ Aside0 (Below w0.heap.size w0 w'))
  case atStart => exact ⟨(y375), (0), (by first | rfl | (simp; done) | (simp [*]; done)), H', ⟨Nat.le_refl _⟩, ⟨Kd.R_V (by (with_reducible repeat (first | apply zq10 | apply zq11 | apply zq12)); exact Kd.R_mono (IsS118.apart HI0.out HO377.out (by decide)) (fun _ hk => ⟨hk.1.1.1, ⟨hk.1.2, hk.2⟩⟩))⟩, ⟨by (with_reducible repeat (first | apply zq10 | apply zq11 | apply zq12)); exact Kd.R_mono HO380.out (fun _ hk => hk.1.1)⟩, ⟨by exact iz118 HI0⟩, ⟨by exact kz HK⟩, ⟨by exact b1 HB (zq9 (IsS118.ge HI0.out))⟩⟩
  case round =>
    clear H'
    try clear c1
    try clear p2
    obtain ⟨x3_1, x5_1, rfl, HA, HK1, HO_3, HO_4, HI0, HK, HB⟩ := hrel
    cases gk with
    | zero => exact absurd HA.out (by simp [spec_l11Set.l0])
    | succ k1 =>
      have H := HA.out
      clear HA
      simp only [spec_l11Set.l0] at H
      obtain ⟨Ao10, co10, eo10⟩ := Kd.R_slice HO_4.out
      subst eo10
      by_cases c6 : x5_1 < (t378.length : Int)
      · rw [if_pos c6] at H
        have c6b0 : decide (x5_1 < (t378.length : Int)) = true := decide_eq_true c6
        clear c6
        by_cases c7 : 0 ≤ x5_1
        · rw [if_pos c7] at H
          have c7b0 : decide (0 ≤ x5_1) = true := decide_eq_true c7
          clear c7
          have p382 : 0 ≤ (x5_1 : Int) := of_decide_eq_true ‹_›
          have q382 : x5_1 < (t378.length : Int) := of_decide_eq_true ‹_›
          obtain ⟨ad382, e382, hx382_0⟩ := Kd.at_string (Kd.R_reads' HO_4.out).2.2 x5_1 p382 q382
          cases e382
          replace p382 := eq_true p382
          replace q382 := eq_true q382
          by_cases c8 : ((rdOf ByteArray.empty t378 x5_1).size : Int) ≤ 40
          · rw [if_pos c8] at H
            have c8b0 : decide (((rdOf ByteArray.empty t378 x5_1).size : Int) ≤ 40) = true := decide_eq_true c8
            have c8b1 : decide ((rdOf ByteArray.empty t378 x5_1).size ≤ 40) = true := decide_eq_true (by omega)
            clear c8
            replace H := Option.bind_eq_some_iff.mp H
            obtain ⟨t384, A90, H⟩ := H
            try dsimp only at H
            have A9 := zq9 A90
            clear A90
            have H' := zq9 H
            clear H
            have p383 : 0 ≤ (x5_1 : Int) := of_decide_eq_true ‹_›
            have q383 : x5_1 < (t378.length : Int) := of_decide_eq_true ‹_›
            obtain ⟨ad383, e383, hx383_0⟩ := Kd.at_string (Kd.R_reads' HO_4.out).2.2 x5_1 p383 q383
            obtain rfl : ad382 = ad383 := (by injection e383)
            replace p383 := eq_true p383
            replace q383 := eq_true q383
            obtain ⟨Ao11, co11, eo11⟩ := Kd.V_slice HO_3.out
            subst eo11
            go_wp2_with (first | ((with_reducible refine zq24 (f := 119) rfl ?_); refine gl (some 26) Try.func119 #[.slice Ao11 x3_1.length co11, .string (rdOf ByteArray.empty t378 x5_1)] ?_; (with_reducible refine (spec_l2Put.calls k1 (fun k_ => ((w.heap.size ≤ k_) ∧ (some k_ ≠ (.slice (some ad382) t378.length co10 : Value).ownBlock ∧ k_ ≠ g))) _ _ x3_1 (rdOf ByteArray.empty t378 x5_1) t384 _ ?side1 A9.out).mono ?_); (case side1 => exact HO_3.out); rintro e w12 ⟨v385, rfl, ho0, hb⟩; refine ⟨_, rfl, ?_⟩; have n0_ := zq9 (Kd.V_below (by exact vz HO_3) hb); have n1_ := zq9 (Kd.R_below (by exact rz HO_4) hb); have n2_ := zq9 (Kd.V_lower (Kd.V_mono (ok' := fun k_ => (w.heap.size ≤ k_) ∧ some k_ ≠ (.slice (some ad382) t378.length co10 : Value).ownBlock ∧ k_ ≠ g) ho0 (fun k_ hk_ => ⟨Or.elim hk_ (fun hs_ => hs_.1) (fun hn_ => (Nat.le_trans (keep_size (w := w) (g := g) (row := none) (by exact kz HK)) hn_)), Or.elim hk_ (fun hs_ => hs_.2.1) (fun hn_ => (Kd.fresh' (Kd.R_lt (by exact rz HO_4)) k_ hn_)), Or.elim hk_ (fun hs_ => hs_.2.2) (fun hn_ => (IsS118.fresh (by exact iz118 HI0) k_ hn_))⟩)) (keep_size (w := w) (g := g) (row := none) (by exact kz HK))); have n3_ := zq9 (IsS118.below (by exact iz118 HI0) hb); have n4_ := zq9 (KeepBut.trans (by exact kz HK) (KeepBut.of_below hb g none) (.inl rfl)); have n5_ := zq9 (zq27 (by exact b1 HB (zq9 (IsS118.ge HI0.out))) hb); clear HO_3; clear HO_4; clear HI0; clear HK; clear HB; have HO_3 := n0_; have HO_4 := n1_; have HO386 := n2_; have HI0 := n3_; have HK := n4_; have HB := n5_; clear n0_ n1_ n2_ n3_ n4_ n5_; (try clear hb); (try clear hb2); (try clear hk); (try clear hi); (try clear ho0)))
            go_roundg k1
            case measure => have := HK1.out; omega
            case rel => exact ⟨(t384), (wrap64 (x5_1 + 1)), (by first | rfl | (simp; done) | (simp [*]; done)), H', ⟨by have := HK1.out; omega⟩, ⟨by (with_reducible repeat (first | apply zq21 | apply zq22 | apply zq23)); exact HO386.out⟩, ⟨by (with_reducible repeat (first | apply zq10 | apply zq11 | apply zq12)); exact HO_4.out⟩, ⟨by exact iz118 HI0⟩, ⟨by exact kz HK⟩, ⟨by exact b1 HB (zq9 (IsS118.ge HI0.out))⟩⟩
          · rw [if_neg c8] at H
            have c8b0 : decide (((rdOf ByteArray.empty t378 x5_1).size : Int) ≤ 40) = false := decide_eq_false c8
            have c8b1 : decide ((rdOf ByteArray.empty t378 x5_1).size ≤ 40) = false := decide_eq_false (by omega)
            clear c8
            have H' := zq9 H
            clear H
            go_wp2
            go_roundg k1
            case measure => have := HK1.out; omega
            case rel => exact ⟨(x3_1), (wrap64 (x5_1 + 1)), (by first | rfl | (simp; done) | (simp [*]; done)), H', ⟨by have := HK1.out; omega⟩, ⟨by (with_reducible repeat (first | apply zq21 | apply zq22 | apply zq23)); exact HO_3.out⟩, ⟨by (with_reducible repeat (first | apply zq10 | apply zq11 | apply zq12)); exact HO_4.out⟩, ⟨by exact iz118 HI0⟩, ⟨by exact kz HK⟩, ⟨by exact b1 HB (zq9 (IsS118.ge HI0.out))⟩⟩
        · rw [if_neg c7] at H
          exact absurd H (by simp)
      · rw [if_neg c6] at H
        have c6b0 : decide (x5_1 < (t378.length : Int)) = false := decide_eq_false c6
        clear c6
        simp only [Option.some.injEq, Prod.mk.injEq] at H
        obtain ⟨rfl, rfl⟩ := H
        go_wp2
        go_ret
        exact ⟨_, by first | rfl | (simp [errW_none, errW_some] <;> rfl) | (simp [*, errW_none, errW_some] <;> rfl), by (with_reducible repeat (first | apply zq21 | apply zq22 | apply zq23)); exact Kd.V_mono HO_3.out (fun _ hk => hk.1), by exact iz118 HI0, by exact b1 HB (zq9 (IsS118.ge HI0.out)), by exact kz HK⟩
set_option maxHeartbeats 8000000 in
set_option maxRecDepth 100000 in
theorem spec_l11AnySet.calls (k : Nat) (g : Nat) (s0_0 : List Int) (s0_1 : Int) (r1 : List ByteArray) (r2 : Int) (w0 w : World) (hI : IsS118 w0 w g s0_0 s0_1) (hB : Below w0.heap.size w0 w) (h : spec_l11AnySet.f k s0_0 s0_1 = some (r1, r2)) :
    Calls Try.prog 95 #[.pointer (some ⟨g, 0, none⟩)] w fun e w' => ∃ v0_ : Value, e = .returned (v0_) ∧ Kd.V Kd.string 9 w' w.heap.size (fun k_ => (w.heap.size ≤ k_)) v0_ r1 ∧ IsS118 w0 w' g s0_0 r2 ∧ Below w0.heap.size w0 w' ∧ KeepBut w w' g none := by
  have HI0 := zq9 hI
  have HK := zq9 (KeepBut.refl w g none)
  have HL := zq9 hB.size
  clear hI
  have HW0 := zq9 hB.size
  have HB := zq9 hB
  clear hB
  have H : ((spec_l1Rd_pick.f k s0_0 s0_1 10).bind fun bt387 => (if bt387.1 = 0 then ((spec_l11AnyTexts.f k s0_0 bt387.2).bind fun bt389 => (some (bt389.1, bt389.2))) else ((spec_l11Set.f k s0_0 bt387.2).bind fun bt393 => (some (bt393.1, bt393.2))))) = some (r1, r2) := h
  clear h
  replace H := Option.bind_eq_some_iff.mp H
  obtain ⟨⟨t387, t388⟩, A20, H⟩ := H
  try dsimp only at H
  have A2 := zq9 A20
  clear A20
  go_enter Try.func95, Try.ntmps95
  by_cases c3 : t387 = 0
  · rw [if_pos c3] at H
    have c3b0 : (t387 == 0) = true := beq_iff_eq.mpr c3
    have c3b1 : (t387 != 0) = false := bne_eq_false_iff_eq.mpr c3
    clear c3
    replace H := Option.bind_eq_some_iff.mp H
    obtain ⟨⟨t389, t392⟩, A40, H⟩ := H
    try dsimp only at H
    have A4 := zq9 A40
    clear A40
    simp only [Option.some.injEq, Prod.mk.injEq] at H
    obtain ⟨rfl, rfl⟩ := H
    go_wp2_with (first | ((with_reducible refine zq24 (f := 91) rfl ?_); refine gl (some 4) Try.func91 #[.pointer (some ⟨g, 0, none⟩), .int .i64 10] ?_; (with_reducible refine (spec_l1Rd_pick.calls k g s0_0 s0_1 10 t387 t388 w0 _ ?side1 ?side2 A2.out).mono ?_); (case side1 => exact iz118 HI0); (case side2 => exact b1 HB (zq9 (IsS118.ge HI0.out))); rintro e w5 ⟨rfl, hi, hb, hk⟩; refine ⟨_, rfl, ?_⟩; have n0_ := zq9 (KeepBut.trans (by exact kz HK) hk (.inl rfl)); have n1_ := zq9 (hb); have n2_ := zq9 (hi); clear HK; clear HB; clear HI0; have HK := n0_; have HB := n1_; have HI0 := n2_; clear n0_ n1_ n2_; (try clear hb); (try clear hb2); (try clear hk); (try clear hi)) | ((with_reducible refine zq24 (f := 94) rfl ?_); refine gl (some 7) Try.func94 #[.pointer (some ⟨g, 0, none⟩)] ?_; (with_reducible refine (spec_l11AnyTexts.calls k g s0_0 t388 t389 t392 w0 _ ?side1 ?side2 A4.out).mono ?_); (case side1 => exact iz118 HI0); (case side2 => exact b1 HB (zq9 (IsS118.ge HI0.out))); rintro e w6 ⟨v390, rfl, ho0, hi, hb, hk⟩; refine ⟨_, rfl, ?_⟩; have n0_ := zq9 (Kd.R_lower (Kd.R_newM (M := fun k_ => (w.heap.size ≤ k_)) ho0 (keep_size (w := w) (g := g) (row := none) (by exact kz HK)) (fun k_ h_ => h_)) (keep_size (w := w) (g := g) (row := none) (by exact kz HK))); have n1_ := zq9 (KeepBut.trans (by exact kz HK) hk (.inl rfl)); have n2_ := zq9 (hb); have n3_ := zq9 (hi); clear HK; clear HB; clear HI0; have HO391 := n0_; have HK := n1_; have HB := n2_; have HI0 := n3_; clear n0_ n1_ n2_ n3_; (try clear hb); (try clear hb2); (try clear hk); (try clear hi); (try clear ho0)))
    go_ret
    exact ⟨_, by first | rfl | (simp [errW_none, errW_some] <;> rfl) | (simp [*, errW_none, errW_some] <;> rfl), Kd.R_V (by (with_reducible repeat (first | apply zq10 | apply zq11 | apply zq12)); exact Kd.R_mono HO391.out (fun _ hk => hk.1)), by exact iz118 HI0, by exact b1 HB (zq9 (IsS118.ge HI0.out)), by exact kz HK⟩
  · rw [if_neg c3] at H
    have c3b0 : (t387 == 0) = false := beq_eq_false_iff_ne.mpr c3
    have c3b1 : (t387 != 0) = true := bne_iff_ne.mpr c3
    replace H := Option.bind_eq_some_iff.mp H
    obtain ⟨⟨t393, t396⟩, A70, H⟩ := H
    try dsimp only at H
    have A7 := zq9 A70
    clear A70
    simp only [Option.some.injEq, Prod.mk.injEq] at H
    obtain ⟨rfl, rfl⟩ := H
    go_wp2_with (first | ((with_reducible refine zq24 (f := 91) rfl ?_); refine gl (some 4) Try.func91 #[.pointer (some ⟨g, 0, none⟩), .int .i64 10] ?_; (with_reducible refine (spec_l1Rd_pick.calls k g s0_0 s0_1 10 t387 t388 w0 _ ?side1 ?side2 A2.out).mono ?_); (case side1 => exact iz118 HI0); (case side2 => exact b1 HB (zq9 (IsS118.ge HI0.out))); rintro e w8 ⟨rfl, hi, hb, hk⟩; refine ⟨_, rfl, ?_⟩; have n0_ := zq9 (KeepBut.trans (by exact kz HK) hk (.inl rfl)); have n1_ := zq9 (hb); have n2_ := zq9 (hi); clear HK; clear HB; clear HI0; have HK := n0_; have HB := n1_; have HI0 := n2_; clear n0_ n1_ n2_; (try clear hb); (try clear hb2); (try clear hk); (try clear hi)) | ((with_reducible refine zq24 (f := 112) rfl ?_); refine gl (some 9) Try.func112 #[.pointer (some ⟨g, 0, none⟩)] ?_; (with_reducible refine (spec_l11Set.calls k g s0_0 t388 t393 t396 w0 _ ?side1 ?side2 A7.out).mono ?_); (case side1 => exact iz118 HI0); (case side2 => exact b1 HB (zq9 (IsS118.ge HI0.out))); rintro e w9 ⟨v394, rfl, ho0, hi, hb, hk⟩; refine ⟨_, rfl, ?_⟩; have n0_ := zq9 (Kd.V_lower (Kd.V_mono (ok' := fun k_ => (w.heap.size ≤ k_) ∧ k_ ≠ g) ho0 (fun k_ hk_ => ⟨(Nat.le_trans (keep_size (w := w) (g := g) (row := none) (by exact kz HK)) hk_), (IsS118.fresh (by exact iz118 HI0) k_ hk_)⟩)) (keep_size (w := w) (g := g) (row := none) (by exact kz HK))); have n1_ := zq9 (KeepBut.trans (by exact kz HK) hk (.inl rfl)); have n2_ := zq9 (hb); have n3_ := zq9 (hi); clear HK; clear HB; clear HI0; have HO395 := n0_; have HK := n1_; have HB := n2_; have HI0 := n3_; clear n0_ n1_ n2_ n3_; (try clear hb); (try clear hb2); (try clear hk); (try clear hi); (try clear ho0)))
    go_ret
    exact ⟨_, by first | rfl | (simp [errW_none, errW_some] <;> rfl) | (simp [*, errW_none, errW_some] <;> rfl), by (with_reducible repeat (first | apply zq21 | apply zq22 | apply zq23)); exact Kd.V_mono HO395.out (fun _ hk => hk.1), by exact iz118 HI0, by exact b1 HB (zq9 (IsS118.ge HI0.out)), by exact kz HK⟩
set_option maxHeartbeats 8000000 in
set_option maxRecDepth 100000 in
theorem spec_l3Without.calls (k : Nat) (A0 : Option Addr) (c0 : Nat) (l0 : List (S99)) (a1 : ByteArray) (r : List (S99)) (w : World) (hr0 : Kd.C k99 w A0 l0.length l0) (hc0 : l0.length ≤ c0) (h : spec_l3Without.f k l0 a1 = some r) :
  Calls Try.prog 122 #[.slice A0 l0.length c0, .string a1] w fun e w' => ∃ v0_ : Value, e = .returned (v0_) ∧ Kd.R k99 99 w' w.heap.size (fun _ => True) v0_ r ∧ Below w.heap.size w w' := by
 have hu99 := Try.underlying99
 have HR0 := zq9 hr0
 have HC0 := zq9 hc0
 clear hr0 hc0
 have HB := zq9 (Below.refl w.heap.size w)
 have H : (spec_l3Without.l0 k l0 a1 (([] : List (S99))) 0) = some r := h
 clear h
 obtain ⟨y397, hy397⟩ : ∃ y_ : List (S99), y_ = (([] : List (S99))) := ⟨_, rfl⟩
 replace H : (spec_l3Without.l0 k l0 a1 y397 0) = some r := by first | (rw [hy397]; with_reducible exact H) | (have H2_ := (Option.bind_some _ _).symm.trans H; rw [hy397]; with_reducible exact H2_) | (have H2_ := (Option.bind_some _ _).symm.trans H; with_reducible exact H2_) | with_reducible exact H | (rw [hy397]; exact H) | exact H
 have Ny397 := zq9 hy397
 clear hy397
 have H' := zq9 H
 clear H
 go_enter Try.func122, Try.ntmps122
 go_wp2_with (first | ((with_reducible refine zq25 (N := 7) rfl ?_); refine Kd.R_lit k99 _ 99 ?hg (N := 7) ?hd (xs := ([] : List (S99))) (inner := []) (ok := fun _ => True) (okp := fun _ => True) ?hr ?hp (fun _ hk => hk) trivial (Below.refl _ _) (Nat.le_refl _) (by simp) ?_; (case hd => rfl); (case hg => rfl); (case hr => first | (go_simp; done) | (go_simp; rfl)); (case hp => exact (Reps.none _ _)); intro v398 w3 ho4 hb hg_ hnew_; clear hg_ hnew_; (first | rw [← Ny397.out] at ho4 | (simp only [Int.reduceToNat] at ho4; rw [← Ny397.out] at ho4)); have n0_ := zq9 (Kd.R_lower ho4 (zq29 (by exact bl HB))); have n1_ := zq9 (zq27 (by exact bl HB) hb); clear HB; have HO399 := n0_; have HB := n1_; clear n0_ n1_; clear hb ho4))
 go_loopg [5, 6] k (fun kq v5 v6 w' => ∃ (x5_1 : List (S99)) (x6_1 : Int), v6 = .int .i64 x6_1 ∧ Aside0 (spec_l3Without.l0 kq l0 a1 x5_1 x6_1 = some r) ∧ Aside0 (kq ≤ k) ∧ Aside0 (Kd.R k99 99 w' w.heap.size (fun _ => True) v5 x5_1) ∧ Aside0 (Below w.heap.size w w'))
 case atStart => exact ⟨(y397), (0), (by first | rfl | (simp; done) | (simp [*]; done)), H', ⟨Nat.le_refl _⟩, ⟨by (with_reducible repeat (first | apply zq10 | apply zq11 | apply zq12)); exact HO399.out⟩, ⟨by exact bl HB⟩⟩
 case round =>
  clear H'
  try clear c1
  try clear p2
  obtain ⟨x5_1, x6_1, rfl, HA, HK1, HO_5, HB⟩ := hrel
  cases gk with
  | zero => exact absurd HA.out (by simp [spec_l3Without.l0])
  | succ k1 =>
   have H := HA.out
   clear HA
   simp only [spec_l3Without.l0] at H
   by_cases c5 : x6_1 < (l0.length : Int)
   ·rw [if_pos c5] at H
    have c5b0 : decide (x6_1 < (l0.length : Int)) = true := decide_eq_true c5
    clear c5
    by_cases c6 : 0 ≤ x6_1
    ·rw [if_pos c6] at H
     have c6b0 : decide (0 ≤ x6_1) = true := decide_eq_true c6
     clear c6
     have p400 : 0 ≤ (x6_1 : Int) := of_decide_eq_true ‹_›
     have q400 : x6_1 < (l0.length : Int) := of_decide_eq_true ‹_›
     obtain ⟨ad400, e400, hx400_0, hx400_1⟩ := at_T99 HR0.out x6_1 p400 q400
     cases e400
     replace hx400_0 := (HB.out.cell (zq8 w _ hx400_0)).trans hx400_0
     replace hx400_1 := (HB.out.cell (zq8 w _ hx400_1)).trans hx400_1
     replace p400 := eq_true p400
     replace q400 := eq_true q400
     by_cases c7 : ((rd_T99 l0 x6_1).f0).toList = a1.toList
     ·rw [if_pos c7] at H
      have c7b0 : (((rd_T99 l0 x6_1).f0).toList == a1.toList) = true := beq_iff_eq.mpr c7
      have c7b1 : (((rd_T99 l0 x6_1).f0).toList != a1.toList) = false := bne_eq_false_iff_eq.mpr c7
      clear c7
      have H' := zq9 H
      clear H
      go_wp2
      go_roundg k1
      case measure => have := HK1.out; omega
      case rel => exact ⟨(x5_1), (wrap64 (x6_1 + 1)), (by first | rfl | (simp; done) | (simp [*]; done)), H', ⟨by have := HK1.out; omega⟩, ⟨by (with_reducible repeat (first | apply zq10 | apply zq11 | apply zq12)); exact HO_5.out⟩, ⟨by exact bl HB⟩⟩
     ·rw [if_neg c7] at H
      have c7b0 : (((rd_T99 l0 x6_1).f0).toList == a1.toList) = false := beq_eq_false_iff_ne.mpr c7
      have c7b1 : (((rd_T99 l0 x6_1).f0).toList != a1.toList) = true := bne_iff_ne.mpr c7
      by_cases c8 : x5_1.length < 5864062014805
      ·rw [if_pos c8] at H
       have LMc8 := zq9 c8
       clear c8
       obtain ⟨y402, hy402⟩ : ∃ y_ : List (S99), y_ = (x5_1 ++ [(⟨(rd_T99 l0 x6_1).f0, (rd_T99 l0 x6_1).f1⟩ : S99)]) := ⟨_, rfl⟩
       replace H : (spec_l3Without.l0 k1 l0 a1 y402 (wrap64 (x6_1 + 1))) = some r := by first | (rw [hy402]; with_reducible exact H) | (have H2_ := (Option.bind_some _ _).symm.trans H; rw [hy402]; with_reducible exact H2_) | (have H2_ := (Option.bind_some _ _).symm.trans H; with_reducible exact H2_) | with_reducible exact H | (rw [hy402]; exact H) | exact H
       have Ny402 := zq9 hy402
       clear hy402
       have H' := zq9 H
       clear H
       have p401 : 0 ≤ (x6_1 : Int) := of_decide_eq_true ‹_›
       have q401 : x6_1 < (l0.length : Int) := of_decide_eq_true ‹_›
       obtain ⟨ad401, e401, hx401_0, hx401_1⟩ := at_T99 HR0.out x6_1 p401 q401
       obtain rfl : ad400 = ad401 := (by injection e401)
       replace hx401_0 := (HB.out.cell (zq8 w _ hx401_0)).trans hx401_0
       replace hx401_1 := (HB.out.cell (zq8 w _ hx401_1)).trans hx401_1
       replace p401 := eq_true p401
       replace q401 := eq_true q401
       go_wp2_with (first | ((with_reducible refine gate_builtin (b := .append) (xs := #[.tmp 21, .tmp 26]) rfl ?_); at_builtin; refine Kd.R_append k99 (w0 := w) w.heap.size rfl (.tmp 21) (.tmp 26) 29 99 (.agg #[(.string ⟨#[]⟩), (.int .i64 0)]) 24 rfl Try.underlying29 info99 rfl (by decide) (by omega) u5 x5_1 (⟨(rd_T99 l0 x6_1).f0, (rd_T99 l0 x6_1).f1⟩ : S99) [.string ((rd_T99 l0 x6_1).f0), .int .i64 ((rd_T99 l0 x6_1).f1)] (fun _ => True) (fun _ => False) rfl rfl ?aP (fun _ hk => hk.elim) ?aF ?aO ?aB ?aS ?aL ?_; (case aP => exact k99_mkM _ _ _ (⟨(rd_T99 l0 x6_1).f0, (rd_T99 l0 x6_1).f1⟩ : S99)); (case aB => exact (by exact bl HB)); (case aF => exact (fun _ _ => trivial)); (case aO => exact (by exact rz HO_5)); (case aS => exact (zq29 (by exact bl HB))); (case aL => have := LMc8.out; omega); intro v403 w9 ho hb hg hat; rw [← Ny402.out] at ho; have n0_ := zq9 (hb); have n1_ := zq9 (ho); clear HB; clear HO_5; have HB := n0_; have HO404 := n1_; clear n0_ n1_; clear ho hb hg hat))
       go_roundg k1
       case measure => have := HK1.out; omega
       case rel => exact ⟨(y402), (wrap64 (x6_1 + 1)), (by first | rfl | (simp; done) | (simp [*]; done)), H', ⟨by have := HK1.out; omega⟩, ⟨by (with_reducible repeat (first | apply zq10 | apply zq11 | apply zq12)); exact HO404.out⟩, ⟨by exact bl HB⟩⟩
      ·rw [if_neg c8] at H
       exact absurd H (by simp)
    ·rw [if_neg c6] at H
     exact absurd H (by simp)
   ·rw [if_neg c5] at H
    have c5b0 : decide (x6_1 < (l0.length : Int)) = false := decide_eq_false c5
    clear c5
    obtain rfl := Option.some.inj H
    go_wp2
    go_ret
    exact ⟨_, by first | rfl | (simp [errW_none, errW_some] <;> rfl) | (simp [*, errW_none, errW_some] <;> rfl), by (with_reducible repeat (first | apply zq10 | apply zq11 | apply zq12)); exact HO_5.out, by exact bl HB⟩
def spec_ScoresPut.T5 : Bool × List (List Nat × List Nat) := (true, [([], []), ([], []), ([1], [1]), ([0, 2], [0, 2]), ([3], [3]), ([4], [4]), ([4], [4]), ([5, 6, 4], [4, 5, 6]), ([7, 4], [4, 7]), ([4], [4]), ([8, 9, 4, 4], [4, 8, 9]), ([4, 10], [4, 10])])
def spec_ScoresPut.B5 : List Nat := [0, 0, 2, 7, 15, 31, 31, 127, 255, 31, 1023, 2047]
theorem spec_ScoresPut.tab5 : rtab .any (opsOf Try.f120 5) = spec_ScoresPut.T5 := by kernel_rfl
theorem spec_ScoresPut.bits5 : waitsOk spec_ScoresPut.T5.2 spec_ScoresPut.B5 = true := by kernel_rfl
def spec_ScoresPut.T7 : Bool × List (List Nat × List Nat) := (true, [([], []), ([], []), ([], []), ([1, 2], [1, 2]), ([0, 3], [0, 3]), ([], []), ([5], [5]), ([4, 6, 4], [4, 6]), ([], []), ([], []), ([8, 9], [8, 9]), ([7, 10, 7], [7, 10]), ([11, 11, 0, 1, 2, 3, 4, 5, 6, 7, 8, 9, 10, 11], [11])])
def spec_ScoresPut.B7 : List Nat := [0, 0, 0, 6, 15, 0, 32, 127, 0, 0, 768, 2047, 4095]
theorem spec_ScoresPut.tab7 : rtab .any (opsOf Try.f120 7) = spec_ScoresPut.T7 := by kernel_rfl
theorem spec_ScoresPut.bits7 : waitsOk spec_ScoresPut.T7.2 spec_ScoresPut.B7 = true := by kernel_rfl
set_option maxHeartbeats 8000000 in
set_option maxRecDepth 100000 in
theorem spec_ScoresPut.calls (k : Nat) (A0 : Option Addr) (c0 : Nat) (l0 : List (S99)) (a1_0 : ByteArray) (a1_1 : Int) (r1 : List (S99)) (r2 : Bool) (r3 : Bool) (w : World) (hr0 : Kd.C k99 w A0 l0.length l0) (hc0 : l0.length ≤ c0) (h : spec_ScoresPut.f k l0 a1_0 a1_1 = some (r1, r2, r3)) :
  Calls Try.prog 120 #[.slice A0 l0.length c0, .agg #[.string a1_0, .int .i64 a1_1]] w fun e w' => ∃ v0_ : Value, e = .returned (.tuple #[v0_, .bool r2, .bool r3]) ∧ Kd.R k99 99 w' w.heap.size (fun _ => True) v0_ r1 ∧ Below w.heap.size w w' := by
 have hu99 := Try.underlying99
 have HR0 := zq9 hr0
 have HC0 := zq9 hc0
 clear hr0 hc0
 have HB := zq9 (Below.refl w.heap.size w)
 have H : ((spec_ScoresOk.f k l0).bind fun t406 => (if t406 = true then ((spec_l3Without.f k l0 a1_0).bind fun t410 => (spec_ScoresPut.l0 k l0 t410 0 a1_0 a1_1)) else (some ((([] : List (S99))), false, false)))) = some (r1, r2, r3) := h
 clear h
 replace H := Option.bind_eq_some_iff.mp H
 obtain ⟨t406, A30, H⟩ := H
 try dsimp only at H
 have A3 := zq9 A30
 clear A30
 by_cases c4 : t406 = true
 ·subst c4
  have H1 : ((spec_l3Without.f k l0 a1_0).bind fun t410 => (spec_ScoresPut.l0 k l0 t410 0 a1_0 a1_1)) = some (r1, r2, r3) := by rw [if_pos rfl] at H; exact H
  clear H
  have H := H1
  clear H1
  replace H := Option.bind_eq_some_iff.mp H
  obtain ⟨t410, A50, H⟩ := H
  try dsimp only at H
  have A5 := zq9 A50
  clear A50
  have HC6 := zq9 H
  clear H
  go_enter Try.func120, Try.ntmps120
  go_upto_block 0 with (first | ((with_reducible refine zq25 (N := 3) rfl ?_); refine bx 3 #[.string a1_0, .int .i64 a1_1] 99 ?_; intro gb405 hg w7 hbox hb; have n0_ := zq9 (zq27 (by exact bl HB) hb); have n1_ := zq9 (hbox); have n2_ := zq9 ((by rw [hg]; exact (zq29 (by exact bl HB)) : w.heap.size ≤ gb405)); have n3_ := n2_; clear HB; have HB := n0_; have BK405 := n1_; have GW405 := n2_; have GE405 := n3_; clear n0_ n1_ n2_ n3_; clear hb hbox hg) | ((with_reducible refine zq24 (f := 43) rfl ?_); refine gl (some 11) Try.func43 #[.slice A0 l0.length c0] ?_; (with_reducible refine (spec_ScoresOk.calls k _ _ l0 true _ ?side1 ?side2 A3.out).mono ?_); (case side1 => exact kc HR0 HB); (case side2 => exact HC0.out); rintro e w8 ⟨rfl, hb⟩; refine ⟨_, rfl, ?_⟩; have n0_ := zq9 (zq30 (g := gb405) (o := .cells #[.string a1_0, .int .i64 a1_1] 99 (0, 0)) (by exact bk BK405) hb); have n1_ := zq9 (zq27 (by exact b1 HB GE405) hb); clear BK405; clear HB; have BK405 := n0_; have HB := n1_; clear n0_ n1_; (try clear hb); (try clear hb2); (try clear hk); (try clear hi); have hcz9_0 : w8.cell? ⟨gb405, 0, none⟩ = some (.string a1_0) := bc BK405 0; have hcz9_1 : w8.cell? ⟨gb405, 1, none⟩ = some (.int .i64 a1_1) := bc BK405 1; have hfz9_0 := zq6 BK405.out 0; have hfz9_1 := zq6 BK405.out 1) | ((with_reducible refine zq24 (f := 122) rfl ?_); refine gl (some 17) Try.func122 #[.slice A0 l0.length c0, .string a1_0] ?_; (with_reducible refine (spec_l3Without.calls k _ _ l0 a1_0 t410 _ ?side1 ?side2 A5.out).mono ?_); (case side1 => exact kc HR0 HB); (case side2 => exact HC0.out); rintro e w10 ⟨v411, rfl, ho0, hb⟩; refine ⟨_, rfl, ?_⟩; have n0_ := zq9 (Kd.R_lower (Kd.R_newB ho0 (g := gb405) (o := .cells #[.string a1_0, .int .i64 a1_1] 99 (0, 0)) (by exact bk BK405)) (zq29 (by exact b1 HB GE405))); have n1_ := zq9 (zq30 (g := gb405) (o := .cells #[.string a1_0, .int .i64 a1_1] 99 (0, 0)) (by exact bk BK405) hb); have n2_ := zq9 (zq27 (by exact b1 HB GE405) hb); clear BK405; clear HB; have HO412 := n0_; have BK405 := n1_; have HB := n2_; clear n0_ n1_ n2_; (try clear hb); (try clear hb2); (try clear hk); (try clear hi); (try clear ho0)))
  (try simp only [Act.put, zq0, zq1, zq2])
  go_cut [8] (fun v8 wc => ∃ (kq : Nat) (x8_5 : Int), v8 = .int .i64 x8_5 ∧ Aside0 (spec_ScoresPut.j1 kq l0 t410 x8_5 a1_0 a1_1 = some (r1, r2, r3)) ∧ Aside0 (kq ≤ k) ∧ Aside0 (Kd.R k99 99 wc w.heap.size (fun k_ => k_ ≠ gb405) v411 t410) ∧ Aside0 (wc.heap[gb405]? = some (.cells #[.string a1_0, .int .i64 a1_1] 99 (0, 0))) ∧ Aside0 (Below w.heap.size w wc))
  case first =>
   have H := HC6.out
   clear HC6
   have H' := zq9 H
   clear H
   go_wp2
   go_loopg [8] k (fun kq v8 w' => ∃ (x8_1 : Int), v8 = .int .i64 x8_1 ∧ Aside0 (spec_ScoresPut.l0 kq l0 t410 x8_1 a1_0 a1_1 = some (r1, r2, r3)) ∧ Aside0 (kq ≤ k) ∧ Aside0 (Kd.R k99 99 w' w.heap.size (fun k_ => k_ ≠ gb405) v411 t410) ∧ Aside0 (w'.heap[gb405]? = some (.cells #[.string a1_0, .int .i64 a1_1] 99 (0, 0))) ∧ Aside0 (Below w.heap.size w w'))
   case atStart => exact ⟨(0), (by first | rfl | (simp; done) | (simp [*]; done)), H', ⟨Nat.le_refl _⟩, ⟨by (with_reducible repeat (first | apply zq10 | apply zq11 | apply zq12)); exact Kd.R_mono HO412.out (fun _ hk => hk.2)⟩, ⟨by refine bp ?_; exact BK405.out⟩, ⟨by exact b1 HB GE405⟩⟩
   case round =>
    clear H'
    try clear c1
    try clear p2
    try clear c4
    try clear hcz9_0
    try clear hcz9_1
    try clear hfz9_0
    try clear hfz9_1
    obtain ⟨x8_1, rfl, HA, HK1, HO_7, BK405, HB⟩ := hrel
    cases gk with
    | zero => exact absurd HA.out (by simp [spec_ScoresPut.l0])
    | succ k1 =>
     have H := HA.out
     clear HA
     simp only [spec_ScoresPut.l0] at H
     by_cases c11 : x8_1 < (t410.length : Int)
     ·rw [if_pos c11] at H
      have c11b0 : decide (x8_1 < (t410.length : Int)) = true := decide_eq_true c11
      clear c11
      (first | rw [c11b0] | (simp only [i64_w, i32_w]; rw [c11b0]) | skip)
      by_cases c12 : 0 ≤ x8_1
      ·rw [if_pos c12] at H
       have c12b0 : decide (0 ≤ x8_1) = true := decide_eq_true c12
       clear c12
       replace H := Option.bind_eq_some_iff.mp H
       obtain ⟨t414, A130, H⟩ := H
       try dsimp only at H
       have A13 := zq9 A130
       clear A130
       try go_wp2
       have n0_ := zq9 (zq12 HO_7.out)
       have n1_ := zq9 (blk_drew BK405.out)
       have n2_ := zq9 (zq4 HB.out)
       clear HO_7
       clear BK405
       clear HB
       have HO_7 := n0_
       have BK405 := n1_
       have HB := n2_
       clear n0_ n1_ n2_
       obtain ⟨Ao16, co16, eo16⟩ := Kd.R_slice HO_7.out
       (first | subst eo16 | (injection eo16 with f1_ f2_ f3_; have f4_ := f1_.symm; have f5_ := f3_.symm; clear f1_ f2_ f3_; subst f4_; subst f5_))
       have p413 : 0 ≤ (x8_1 : Int) := of_decide_eq_true ‹_›
       have q413 : x8_1 < (t410.length : Int) := of_decide_eq_true ‹_›
       obtain ⟨ad413, e413, hx413_0, hx413_1⟩ := at_T99 (Kd.R_reads' HO_7.out).2.2 x8_1 p413 q413
       cases e413
       replace p413 := eq_true p413
       replace q413 := eq_true q413
       refine start_ (n := 12) (S := fun w' => w'.cell? ⟨gb405, 0, none⟩ = some (.string a1_0) ∧ w'.cell? ⟨gb405, 1, none⟩ = some (.int .i64 a1_1) ∧ w'.cell? (ad413.add ((x8_1).toNat * 2)) = some (.string ((rd_T99 t410 x8_1).f0)) ∧ w'.cell? ⟨(ad413.add ((x8_1).toNat * 2)).block, (ad413.add ((x8_1).toNat * 2)).off + 1, none⟩ = some (.int .i64 ((rd_T99 t410 x8_1).f1))) (ds := []) #[false, false, false, false, false, false, false, false, false, false, false, false] (by kernel_rfl) rfl rfl ⟨bc BK405 0, bc BK405 1, hx413_0, hx413_1⟩ (fun hHeld => ?_); refine with_tabW spec_ScoresPut.tab5 spec_ScoresPut.bits5 (fun HT_ HW_ => ?_)
       generalize wr.drew = w15 at HO_7 BK405 HB hx413_0 hx413_1 hHeld ⊢
       refine pa HT_ 0 18 (zb 12 1) ?_
       refine pa HT_ 1 19 (zb 12 3) ?_
       refine pa HT_ 2 20 (zb 12 7) ?_
       refine pa HT_ 3 21 (zb 12 15) ?_
       refine pa HT_ 4 22 (zb 12 31) ?_
       refine pa HT_ 5 23 (zb 12 63) ?_
       refine pa HT_ 6 24 (zb 12 127) ?_
       refine pa HT_ 7 25 (zb 12 255) ?_
       refine take_ (i := 8) (N := some 26) (v := ?_) (a' := ?_) (zb 12 511) rfl rfl (take_ofW HT_.out HW_.out (by kernel_rfl)) (fun _ _ _ h => h) (Or.inl ⟨by rfl, ?_⟩) hHeld ?_ ?_
       rotate_left; ·rintro w' ⟨s0, s1, s2, s3⟩; go_simp; with_reducible rfl
       rotate_left; ·simp only [Act.put, zq0, zq1, zq2, i64_w, i32_w]; rfl
       refine take_ (i := 9) (N := some 27) (v := ?_) (a' := ?_) (zb 12 1023) rfl rfl (take_ofW HT_.out HW_.out (by kernel_rfl)) (fun _ _ _ h => h) (Or.inl ⟨by rfl, ?_⟩) hHeld ?_ ?_
       rotate_left; ·rintro w' ⟨s0, s1, s2, s3⟩; go_simp; with_reducible rfl
       rotate_left; ·simp only [Act.put, zq0, zq1, zq2, i64_w, i32_w]; rfl
       refine one_ (i := 10) (N := some 28) (zb 12 2047) rfl rfl (one_of HT_.out (by kernel_rfl)) (by decide) (fun K hK => ?_)
       refine gs Try.func81 #[.agg #[.string ((rd_T99 t410 x8_1).f0), .int .i64 ((rd_T99 t410 x8_1).f1)], .agg #[.string a1_0, .int .i64 a1_1]] ?_
       with_reducible refine (spec_l3Ahead.calls ((rd_T99 t410 x8_1).f0) ((rd_T99 t410 x8_1).f1) a1_0 a1_1 t414 _ A13.out).mono ?_
       rintro e w17 ⟨rfl, hb⟩
       have HS2_ := (hb.cell (zq8 _ _ (hHeld.2.2.1))).trans (hHeld.2.2.1)
       have HS3_ := (hb.cell (zq8 _ _ (hHeld.2.2.2))).trans (hHeld.2.2.2)
       refine ⟨_, rfl, ?_⟩
       have n0_ := zq9 (Kd.R_below (by exact rz HO_7) hb)
       have n1_ := zq9 (zq30 (g := gb405) (o := .cells #[.string a1_0, .int .i64 a1_1] 99 (0, 0)) (by exact bk BK405) hb)
       have n2_ := zq9 (zq27 (by exact b1 HB GE405) hb)
       clear HO_7
       clear BK405
       clear HB
       have HO_7 := n0_
       have BK405 := n1_
       have HB := n2_
       clear n0_ n1_ n2_
       (try clear hb)
       (try clear hb2)
       (try clear hk)
       (try clear hi)
       refine hK.out _ _ ⟨bc BK405 0, bc BK405 1, HS2_, HS3_⟩ (fun hHeld => ?_)
       clear hK K
       refine norm_ (a' := ?_) ?_ ?_
       rotate_left; ·show Act.put _ (some 28) _ = _; simp only [Act.put, zq0, zq1, zq2, i64_w, i32_w]; rfl
       refine pa HT_ 11 29 (zb 12 4095) ?_
       refine done_ (done_of HT_.out (by kernel_rfl)) ?_
       by_cases c14 : t414 = true
       ·subst c14
        have H1 : (spec_ScoresPut.l0 k1 l0 t410 (wrap64 (x8_1 + 1)) a1_0 a1_1) = some (r1, r2, r3) := by rw [if_pos rfl] at H; exact H
        clear H
        have H := H1
        clear H1
        have H' := zq9 H
        clear H
        try go_wp2
        go_roundg k1
        case measure => have := HK1.out; omega
        case rel => exact ⟨(wrap64 (x8_1 + 1)), (by first | rfl | (simp; done) | (simp [*]; done)), H', ⟨by have := HK1.out; omega⟩, ⟨by (with_reducible repeat (first | apply zq10 | apply zq11 | apply zq12)); exact HO_7.out⟩, ⟨by refine bp ?_; exact BK405.out⟩, ⟨by exact b1 HB GE405⟩⟩
       ·replace c14 := Bool.eq_false_iff.mpr c14
        subst c14
        have H1 : (spec_ScoresPut.j1 k1 l0 t410 x8_1 a1_0 a1_1) = some (r1, r2, r3) := by rw [if_neg (show ¬ (false = true) by decide)] at H; exact H
        clear H
        have H := H1
        clear H1
        have H' := zq9 H
        clear H
        try go_wp2
        go_meet
        case rel => exact ⟨_, (x8_1), (by first | rfl | (simp; done) | (simp [*]; done)), H', ⟨by have := HK1.out; first | omega | exact Nat.le_refl _⟩, ⟨by (with_reducible repeat (first | apply zq10 | apply zq11 | apply zq12)); exact HO_7.out⟩, ⟨by refine bp ?_; exact BK405.out⟩, ⟨by exact b1 HB GE405⟩⟩
      ·rw [if_neg c12] at H
       exact absurd H (by simp)
     ·rw [if_neg c11] at H
      have c11b0 : decide (x8_1 < (t410.length : Int)) = false := decide_eq_false c11
      clear c11
      (first | rw [c11b0] | (simp only [i64_w, i32_w]; rw [c11b0]) | skip)
      have H' := zq9 H
      clear H
      try go_wp2
      have n0_ := zq9 (zq12 HO_7.out)
      have n1_ := zq9 (blk_drew BK405.out)
      have n2_ := zq9 (zq4 HB.out)
      clear HO_7
      clear BK405
      clear HB
      have HO_7 := n0_
      have BK405 := n1_
      have HB := n2_
      clear n0_ n1_ n2_
      obtain ⟨Ao22, co22, eo22⟩ := Kd.R_slice HO_7.out
      (first | subst eo22 | (injection eo22 with f1_ f2_ f3_; have f4_ := f1_.symm; have f5_ := f3_.symm; clear f1_ f2_ f3_; subst f4_; subst f5_))
      refine start_ (n := 12) (S := fun w' => True) (ds := []) #[false, false, false, false, false, false, false, false, false, false, false, false] (by kernel_rfl) rfl rfl trivial (fun hHeld => ?_); refine with_tabW spec_ScoresPut.tab5 spec_ScoresPut.bits5 (fun HT_ HW_ => ?_)
      generalize wr.drew = w21 at HO_7 BK405 HB hHeld ⊢
      refine pa HT_ 0 18 (zb 12 1) ?_
      refine pa HT_ 1 19 (zb 12 3) ?_
      refine pa HT_ 2 20 (zb 12 7) ?_
      refine pa HT_ 3 21 (zb 12 15) ?_
      refine pa HT_ 4 22 (zb 12 31) ?_
      refine pb HT_ 5 23 (zb 12 63) ?_
      refine pb HT_ 6 24 (zb 12 127) ?_
      refine pb HT_ 7 25 (zb 12 255) ?_
      refine pb HT_ 8 26 (zb 12 511) ?_
      refine pb HT_ 9 27 (zb 12 1023) ?_
      refine pb HT_ 10 28 (zb 12 2047) ?_
      refine pa HT_ 11 29 (zb 12 4095) ?_
      refine done_ (done_of HT_.out (by kernel_rfl)) ?_
      try go_wp2
      go_meet
      case rel => exact ⟨_, (x8_1), (by first | rfl | (simp; done) | (simp [*]; done)), H', ⟨by have := HK1.out; first | omega | exact Nat.le_refl _⟩, ⟨by (with_reducible repeat (first | apply zq10 | apply zq11 | apply zq12)); exact HO_7.out⟩, ⟨by refine bp ?_; exact BK405.out⟩, ⟨by exact b1 HB GE405⟩⟩
  case rest =>
   clear HC6
   try clear c1
   try clear p2
   try clear c4
   try clear p4
   try clear q4
   try clear hx4
   try clear p6
   try clear c8
   try clear c11
   try clear c11b0
   try clear c12
   try clear c12b0
   try clear c14
   try clear hcz9_0
   try clear hcz9_1
   try clear hfz9_0
   try clear hfz9_1
   try clear hx413_0
   try clear hx413_1
   try clear p2
   try clear p413
   try clear q413
   obtain ⟨kq, x8_5, rfl, HA, HJ5, HO_7, BK405, HB⟩ := hcut
   cases kq with
   | zero => exact absurd HA.out (by simp [spec_ScoresPut.j1])
   | succ kj5 =>
    have H := HA.out
    clear HA
    simp only [spec_ScoresPut.j1] at H
    obtain ⟨y415, hy415⟩ : ∃ y_ : List (S99), y_ = (([] : List (S99))) := ⟨_, rfl⟩
    replace H : (if 0 ≤ x8_5 then (if x8_5 ≤ (t410.length : Int) then ((some (t410.take (x8_5 : Int).toNat : List (S99))).bind fun y418 => (if y415.length + y418.length < 5864062014805 then ((some (y415 ++ y418 : List (S99))).bind fun y422 => ((some (([(⟨a1_0, a1_1⟩ : S99)] : List (S99)) : List (S99))).bind fun y425 => (if y422.length + y425.length < 5864062014805 then ((some (y422 ++ y425 : List (S99))).bind fun y428 => ((some (t410.drop (x8_5 : Int).toNat : List (S99))).bind fun y431 => (if y428.length + y431.length < 5864062014805 then ((some (y428 ++ y431 : List (S99))).bind fun y435 => ((spec_ScoresOk.f kj5 y435).bind fun t438 => (if t438 = true then (some (y435, ((t410.length : Int) == (l0.length : Int)), true)) else ((some (([] : List (S99)) : List (S99))).bind fun y439 => (if y439.length + l0.length < 5864062014805 then (some ((y439 ++ l0), false, false)) else (none)))))) else (none)))) else (none)))) else (none))) else (none)) else (none)) = some (r1, r2, r3) := by first | (rw [hy415]; with_reducible exact H) | (have H2_ := (Option.bind_some _ _).symm.trans H; rw [hy415]; with_reducible exact H2_) | (have H2_ := (Option.bind_some _ _).symm.trans H; with_reducible exact H2_) | with_reducible exact H | (rw [hy415]; exact H) | exact H
    have Ny415 := zq9 hy415
    clear hy415
    by_cases c23 : 0 ≤ x8_5
    ·rw [if_pos c23] at H
     have c23b0 := eq_true c23
     have c23b1 : decide (0 ≤ x8_5) = true := decide_eq_true c23
     clear c23
     by_cases c24 : x8_5 ≤ (t410.length : Int)
     ·rw [if_pos c24] at H
      have c24b0 := eq_true c24
      have c24b1 : decide (x8_5 ≤ (t410.length : Int)) = true := decide_eq_true c24
      clear c24
      obtain ⟨y418, hy418⟩ : ∃ y_ : List (S99), y_ = (t410.take (x8_5 : Int).toNat) := ⟨_, rfl⟩
      replace H : (if y415.length + y418.length < 5864062014805 then ((some (y415 ++ y418 : List (S99))).bind fun y422 => ((some (([(⟨a1_0, a1_1⟩ : S99)] : List (S99)) : List (S99))).bind fun y425 => (if y422.length + y425.length < 5864062014805 then ((some (y422 ++ y425 : List (S99))).bind fun y428 => ((some (t410.drop (x8_5 : Int).toNat : List (S99))).bind fun y431 => (if y428.length + y431.length < 5864062014805 then ((some (y428 ++ y431 : List (S99))).bind fun y435 => ((spec_ScoresOk.f kj5 y435).bind fun t438 => (if t438 = true then (some (y435, ((t410.length : Int) == (l0.length : Int)), true)) else ((some (([] : List (S99)) : List (S99))).bind fun y439 => (if y439.length + l0.length < 5864062014805 then (some ((y439 ++ l0), false, false)) else (none)))))) else (none)))) else (none)))) else (none)) = some (r1, r2, r3) := by first | (rw [hy418]; with_reducible exact H) | (have H2_ := (Option.bind_some _ _).symm.trans H; rw [hy418]; with_reducible exact H2_) | (have H2_ := (Option.bind_some _ _).symm.trans H; with_reducible exact H2_) | with_reducible exact H | (rw [hy418]; exact H) | exact H
      have Ny418 := zq9 hy418
      clear hy418
      by_cases c25 : y415.length + y418.length < 5864062014805
      ·rw [if_pos c25] at H
       have LMc25 := zq9 c25
       clear c25
       obtain ⟨y422, hy422⟩ : ∃ y_ : List (S99), y_ = (y415 ++ y418) := ⟨_, rfl⟩
       replace H : ((some (([(⟨a1_0, a1_1⟩ : S99)] : List (S99)) : List (S99))).bind fun y425 => (if y422.length + y425.length < 5864062014805 then ((some (y422 ++ y425 : List (S99))).bind fun y428 => ((some (t410.drop (x8_5 : Int).toNat : List (S99))).bind fun y431 => (if y428.length + y431.length < 5864062014805 then ((some (y428 ++ y431 : List (S99))).bind fun y435 => ((spec_ScoresOk.f kj5 y435).bind fun t438 => (if t438 = true then (some (y435, ((t410.length : Int) == (l0.length : Int)), true)) else ((some (([] : List (S99)) : List (S99))).bind fun y439 => (if y439.length + l0.length < 5864062014805 then (some ((y439 ++ l0), false, false)) else (none)))))) else (none)))) else (none))) = some (r1, r2, r3) := by first | (rw [hy422]; with_reducible exact H) | (have H2_ := (Option.bind_some _ _).symm.trans H; rw [hy422]; with_reducible exact H2_) | (have H2_ := (Option.bind_some _ _).symm.trans H; with_reducible exact H2_) | with_reducible exact H | (rw [hy422]; exact H) | exact H
       have Ny422 := zq9 hy422
       clear hy422
       obtain ⟨y425, hy425⟩ : ∃ y_ : List (S99), y_ = (([(⟨a1_0, a1_1⟩ : S99)] : List (S99))) := ⟨_, rfl⟩
       replace H : (if y422.length + y425.length < 5864062014805 then ((some (y422 ++ y425 : List (S99))).bind fun y428 => ((some (t410.drop (x8_5 : Int).toNat : List (S99))).bind fun y431 => (if y428.length + y431.length < 5864062014805 then ((some (y428 ++ y431 : List (S99))).bind fun y435 => ((spec_ScoresOk.f kj5 y435).bind fun t438 => (if t438 = true then (some (y435, ((t410.length : Int) == (l0.length : Int)), true)) else ((some (([] : List (S99)) : List (S99))).bind fun y439 => (if y439.length + l0.length < 5864062014805 then (some ((y439 ++ l0), false, false)) else (none)))))) else (none)))) else (none)) = some (r1, r2, r3) := by first | (rw [hy425]; with_reducible exact H) | (have H2_ := (Option.bind_some _ _).symm.trans H; rw [hy425]; with_reducible exact H2_) | (have H2_ := (Option.bind_some _ _).symm.trans H; with_reducible exact H2_) | with_reducible exact H | (rw [hy425]; exact H) | exact H
       have Ny425 := zq9 hy425
       clear hy425
       by_cases c26 : y422.length + y425.length < 5864062014805
       ·rw [if_pos c26] at H
        have LMc26 := zq9 c26
        clear c26
        obtain ⟨y428, hy428⟩ : ∃ y_ : List (S99), y_ = (y422 ++ y425) := ⟨_, rfl⟩
        replace H : ((some (t410.drop (x8_5 : Int).toNat : List (S99))).bind fun y431 => (if y428.length + y431.length < 5864062014805 then ((some (y428 ++ y431 : List (S99))).bind fun y435 => ((spec_ScoresOk.f kj5 y435).bind fun t438 => (if t438 = true then (some (y435, ((t410.length : Int) == (l0.length : Int)), true)) else ((some (([] : List (S99)) : List (S99))).bind fun y439 => (if y439.length + l0.length < 5864062014805 then (some ((y439 ++ l0), false, false)) else (none)))))) else (none))) = some (r1, r2, r3) := by first | (rw [hy428]; with_reducible exact H) | (have H2_ := (Option.bind_some _ _).symm.trans H; rw [hy428]; with_reducible exact H2_) | (have H2_ := (Option.bind_some _ _).symm.trans H; with_reducible exact H2_) | with_reducible exact H | (rw [hy428]; exact H) | exact H
        have Ny428 := zq9 hy428
        clear hy428
        have c27b0 := eq_true (of_decide_eq_true ‹_› : 0 ≤ x8_5)
        have c28b0 := eq_true (of_decide_eq_true ‹_› : x8_5 ≤ (t410.length : Int))
        obtain ⟨y431, hy431⟩ : ∃ y_ : List (S99), y_ = (t410.drop (x8_5 : Int).toNat) := ⟨_, rfl⟩
        replace H : (if y428.length + y431.length < 5864062014805 then ((some (y428 ++ y431 : List (S99))).bind fun y435 => ((spec_ScoresOk.f kj5 y435).bind fun t438 => (if t438 = true then (some (y435, ((t410.length : Int) == (l0.length : Int)), true)) else ((some (([] : List (S99)) : List (S99))).bind fun y439 => (if y439.length + l0.length < 5864062014805 then (some ((y439 ++ l0), false, false)) else (none)))))) else (none)) = some (r1, r2, r3) := by first | (rw [hy431]; with_reducible exact H) | (have H2_ := (Option.bind_some _ _).symm.trans H; rw [hy431]; with_reducible exact H2_) | (have H2_ := (Option.bind_some _ _).symm.trans H; with_reducible exact H2_) | with_reducible exact H | (rw [hy431]; exact H) | exact H
        have Ny431 := zq9 hy431
        clear hy431
        by_cases c29 : y428.length + y431.length < 5864062014805
        ·rw [if_pos c29] at H
         have LMc29 := zq9 c29
         clear c29
         obtain ⟨y435, hy435⟩ : ∃ y_ : List (S99), y_ = (y428 ++ y431) := ⟨_, rfl⟩
         replace H : ((spec_ScoresOk.f kj5 y435).bind fun t438 => (if t438 = true then (some (y435, ((t410.length : Int) == (l0.length : Int)), true)) else ((some (([] : List (S99)) : List (S99))).bind fun y439 => (if y439.length + l0.length < 5864062014805 then (some ((y439 ++ l0), false, false)) else (none))))) = some (r1, r2, r3) := by first | (rw [hy435]; with_reducible exact H) | (have H2_ := (Option.bind_some _ _).symm.trans H; rw [hy435]; with_reducible exact H2_) | (have H2_ := (Option.bind_some _ _).symm.trans H; with_reducible exact H2_) | with_reducible exact H | (rw [hy435]; exact H) | exact H
         have Ny435 := zq9 hy435
         clear hy435
         replace H := Option.bind_eq_some_iff.mp H
         obtain ⟨t438, A300, H⟩ := H
         try dsimp only at H
         have A30 := zq9 A300
         clear A300
         try go_wp2
         have n0_ := zq9 (zq12 HO_7.out)
         have n1_ := zq9 (blk_drew BK405.out)
         have n2_ := zq9 (zq4 HB.out)
         clear HO_7
         clear BK405
         clear HB
         have HO_7 := n0_
         have BK405 := n1_
         have HB := n2_
         clear n0_ n1_ n2_
         obtain ⟨Ao34, co34, eo34⟩ := Kd.R_slice HO_7.out
         (first | subst eo34 | (injection eo34 with f1_ f2_ f3_; have f4_ := f1_.symm; have f5_ := f3_.symm; clear f1_ f2_ f3_; subst f4_; subst f5_))
         have q33 : (x8_5 : Int) ≤ ((t410.length : Int) : Int) := of_decide_eq_true ‹_›
         obtain ⟨i033, hi033, _, hsz33, _⟩ := info_parts info99
         have hroom33 : t410.length ≤ co34 := (Kd.R_reads' HO_7.out).2.1
         have hC33 : Kd.C k99 _ Ao34 t410.length t410 := (Kd.R_reads' HO_7.out).2.2
         have hcut33 := cut_to (P := Try.prog) 29 99 .i64 Try.underlying29 hi033 Ao34 t410.length co34 x8_5 (of_decide_eq_true ‹_›) q33 hroom33
         have hr33 := Kd.C_take (m := (x8_5 : Int).toNat) hC33 (by omega)
         have hy33 : y418.length = (x8_5 : Int).toNat := (by rw [Ny418.out, zq34]; omega)
         rw [← Ny418.out] at hr33
         rw [← hy33] at hcut33
         have HR421 := zq9 hr33
         have HC421 := zq9 (show y418.length ≤ co34 from by omega)
         clear hr33 hC33 hroom33 hi033 hsz33
         have KY33 := zq9 hy33
         clear hy33
         have KL33 := zq9 (show (x8_5 : Int).toNat ≤ t410.length from by omega)
         replace q33 := eq_true q33
         have q35 : (x8_5 : Int) ≤ ((t410.length : Int) : Int) := of_decide_eq_true ‹_›
         obtain ⟨i035, hi035, _, hsz35, _⟩ := info_parts info99
         have hroom35 : t410.length ≤ co34 := (Kd.R_reads' HO_7.out).2.1
         have hC35 : Kd.C k99 _ Ao34 t410.length t410 := (Kd.R_reads' HO_7.out).2.2
         have q035 : (0 : Int) ≤ (x8_5 : Int) := of_decide_eq_true ‹_›
         have hcut35 := cut_from (P := Try.prog) 29 99 .i64 Try.underlying29 hi035 2 hsz35 Ao34 t410.length co34 x8_5 q035 q35
         have hr35 := Kd.C_drop (m := (x8_5 : Int).toNat) (c := co34) hC35 (by omega) hroom35
         obtain ⟨A35, hA35⟩ : ∃ A1, A1 = (if co34 = (x8_5 : Int).toNat then Ao34 else (Ao34 : Option Addr).map (·.add ((x8_5 : Int).toNat * 2))) := ⟨_, rfl⟩
         obtain ⟨c35, hc35⟩ : ∃ c1, c1 = co34 - (x8_5 : Int).toNat := ⟨_, rfl⟩
         have hy35 : y431.length = t410.length - (x8_5 : Int).toNat := (by rw [Ny431.out, zq33] <;> omega)
         rw [show (t410).drop (x8_5 : Int).toNat = y431 from Ny431.out.symm] at hr35
         replace hr35 : Kd.C k99 _ A35 y431.length y431 := (by rw [hA35]; exact hr35)
         rw [← hy35, ← hA35, ← hc35] at hcut35
         have HR434 := zq9 hr35
         have HC434 := zq9 (show y431.length ≤ c35 from by rw [hy35, hc35]; exact Nat.sub_le_sub_right hroom35 _)
         clear hr35 hC35 hroom35 hi035 hsz35 hc35
         have KY35 := zq9 hy35
         have KA35 := zq9 hA35
         clear hy35 hA35
         have KL35 := zq9 (show (x8_5 : Int).toNat ≤ t410.length from by omega)
         replace q35 := eq_true q35
         refine start_ (n := 13) (S := fun w' => w'.cell? ⟨gb405, 0, none⟩ = some (.string a1_0) ∧ w'.cell? ⟨gb405, 1, none⟩ = some (.int .i64 a1_1)) (ds := []) #[false, false, false, false, false, false, false, false, false, false, false, false, false] (by kernel_rfl) rfl rfl ⟨bc BK405 0, bc BK405 1⟩ (fun hHeld => ?_); refine with_tabW spec_ScoresPut.tab7 spec_ScoresPut.bits7 (fun HT_ HW_ => ?_)
         generalize wc.drew = w32 at HO_7 BK405 HB HR421 HR434 hHeld ⊢
         refine pa HT_ 1 33 (zb 13 2) ?_
         refine pa HT_ 2 34 (zb 13 6) ?_
         refine pa HT_ 3 35 (zb 13 14) ?_
         refine pa HT_ 8 40 (zb 13 270) ?_
         refine pa HT_ 9 41 (zb 13 782) ?_
         refine pa HT_ 10 42 (zb 13 1806) ?_
         refine take_ (i := 5) (N := some 37) (v := ?_) (a' := ?_) (zb 13 1838) rfl rfl (take_ofW HT_.out HW_.out (by kernel_rfl)) (fun _ _ _ h => h) (Or.inl ⟨by rfl, ?_⟩) hHeld ?_ ?_
         rotate_left; ·rintro w' ⟨s0, s1⟩; go_simp; with_reducible rfl
         rotate_left; ·simp only [Act.put, zq0, zq1, zq2, i64_w, i32_w]; rfl
         refine join_ (σ := Value × Value × Value) 3 #[true, true, true, true, true, true, true, false, true, true, true, false, false] (fun s_ => [(32, s_.1), (36, s_.2.1), (38, s_.2.2)]) (fun s_ w' => (w'.cell? ⟨gb405, 0, none⟩ = some (.string a1_0) ∧ w'.cell? ⟨gb405, 1, none⟩ = some (.int .i64 a1_1)) ∧ (Kd.R k99 99 w' w.heap.size (fun k_ => some k_ ≠ (s_.2.2 : Value).ownBlock ∧ some k_ ≠ (.slice Ao34 t410.length co34 : Value).ownBlock ∧ k_ ≠ gb405) s_.2.1 y422) ∧ (Kd.R k99 99 w' w.heap.size (fun k_ => some k_ ≠ (s_.2.1 : Value).ownBlock ∧ some k_ ≠ (.slice Ao34 t410.length co34 : Value).ownBlock ∧ k_ ≠ gb405) s_.2.2 y425) ∧ (Kd.R k99 99 w' w.heap.size (fun k_ => some k_ ≠ (s_.2.1 : Value).ownBlock ∧ some k_ ≠ (s_.2.2 : Value).ownBlock ∧ k_ ≠ gb405) (.slice Ao34 t410.length co34) t410) ∧ (w'.heap[gb405]? = some (.cells #[.string a1_0, .int .i64 a1_1] 99 (0, 0))) ∧ (Below w.heap.size w w')) ?_ ?_
         rotate_left
         ·intro hCont
          refine two_ (i := 0) (j := 6) (Ni := some 32) (Nj := some 38) #[true, true, true, true, false, true, false, false, true, true, true, false, false] #[false, true, true, true, false, true, true, false, true, true, true, false, false] rfl rfl rfl rfl (two_of HT_.out (by kernel_rfl)) (by decide) (by decide) (fun K hK => ?_) (fun K hK => ?_)
          ·skip
           refine Kd.R_lit_step k99 _ 99 ?hg (N := 32) ?hd (xs := ([] : List (S99))) (inner := []) (ok := fun _ => True) (okp := fun _ => True) ?hr ?hp (fun _ hk => hk) trivial (Below.refl _ _) (Nat.le_refl _) (by simp) ?_; (case hd => rfl); (case hg => rfl); (case hr => first | (go_simp; done) | (go_simp; rfl)); (case hp => exact (Reps.none _ _))
           intro v416 w36 ho37 hb hg_ hnew_
           clear hg_ hnew_
           (first | rw [← Ny415.out] at ho37 | (simp only [Int.reduceToNat] at ho37; rw [← Ny415.out] at ho37))
           have n0_ := zq9 (Kd.R_elder' (by exact rz HO_7) (Kd.R_base ho37) hb)
           have n1_ := zq9 (Kd.R_lower (Kd.R_newB (Kd.R_new' ho37 (Kd.R_lt (by exact rz HO_7))) (g := gb405) (o := .cells #[.string a1_0, .int .i64 a1_1] 99 (0, 0)) (by exact bk BK405)) (zq29 (by exact b1 HB GE405)))
           have n2_ := zq9 (zq30 (g := gb405) (o := .cells #[.string a1_0, .int .i64 a1_1] 99 (0, 0)) (by exact bk BK405) hb)
           have n3_ := zq9 (zq31 (by repeat (first | (with_reducible exact HR421.out) | (with_reducible refine zq18 ?_ _) | (with_reducible refine zq19 ?_ _) | (with_reducible refine zq20 ?_) | exact HR421.out)) hb)
           have n4_ := zq9 (zq31 (by repeat (first | (with_reducible exact HR434.out) | (with_reducible refine zq18 ?_ _) | (with_reducible refine zq19 ?_ _) | (with_reducible refine zq20 ?_) | exact HR434.out)) hb)
           have n5_ := zq9 (zq27 (by exact b1 HB GE405) hb)
           clear HO_7
           clear BK405
           clear HR421
           clear HR434
           clear HB
           have HO_7 := n0_
           have HO417 := n1_
           have BK405 := n2_
           have HR421 := n3_
           have HR434 := n4_
           have HB := n5_
           clear n0_ n1_ n2_ n3_ n4_ n5_
           clear hb ho37
           refine hK.out _ _ ⟨bc BK405 0, bc BK405 1⟩ (fun hHeld => ?_)
           clear hK K
           refine norm_ (a' := ?_) ?_ ?_
           rotate_left; ·show Act.put _ (some 32) _ = _; simp only [Act.put, zq0, zq1, zq2, i64_w, i32_w]; rfl
           refine two_ (i := 4) (j := 6) (Ni := some 36) (Nj := some 38) #[true, true, true, true, true, true, false, false, true, true, true, false, false] #[true, true, true, true, false, true, true, false, true, true, true, false, false] rfl rfl rfl rfl (two_of HT_.out (by kernel_rfl)) (by decide) (by decide) (fun K hK => ?_) (fun K hK => ?_)
           ·skip
            refine Kd.R_append_rows_step k99 (w0 := w) w.heap.size (by rfl) (.tmp 32) (.tmp 35) 29 99 (.agg #[(.string ⟨#[]⟩), (.int .i64 0)]) 24 rfl Try.underlying29 info99 rfl (by decide) (by omega) v416 y415 y418 _ _ _ (fun k_ => some k_ ≠ (.slice Ao34 t410.length co34 : Value).ownBlock ∧ k_ ≠ gb405) (fun _ => False) rfl rfl ?aO ?aR (fun _ _ h => h) (fun _ h => h.elim) ?aF ?aB ?aS ?aL ?_
            (case aR => repeat (first | exact (by repeat (first | (with_reducible exact HR421.out) | (with_reducible refine zq18 ?_ _) | (with_reducible refine zq19 ?_ _) | (with_reducible refine zq20 ?_) | exact HR421.out)) | (with_reducible refine zq18 ?_ _) | (with_reducible refine zq19 ?_ _) | (with_reducible refine zq20 ?_)))
            (case aB => exact (by exact b1 HB GE405))
            (case aF => exact (fun k_ hk => ⟨Kd.fresh' (Kd.R_lt (by exact rz HO_7)) k_ hk, Kd.freshB (g := gb405) (o := .cells #[.string a1_0, .int .i64 a1_1] 99 (0, 0)) (by exact bk BK405) k_ hk⟩))
            (case aO => exact (by (with_reducible repeat (first | apply zq10 | apply zq11 | apply zq12)); exact Kd.R_mono HO417.out (fun _ hk => ⟨hk.1.2, hk.2⟩)))
            (case aS => exact (zq29 (by exact b1 HB GE405)))
            (case aL => have := LMc25.out; omega)
            intro v423 w38 ho hb hg hat
            rw [← Ny422.out] at ho
            have n0_ := zq9 (Kd.R_after (ok := (fun k_ => k_ ≠ gb405)) (by exact rz HO_7) hg hat)
            have n1_ := zq9 (blk_grown (g := gb405) (o := .cells #[.string a1_0, .int .i64 a1_1] 99 (0, 0)) (by exact bk BK405) hg (Kd.R_away HO417.out (fun _ hk => hk.2)))
            have n2_ := zq9 (hb)
            have n3_ := zq9 ((show Kd.C k99 w38 Ao34 y418.length y418 from by rw [Ny418.out]; exact Kd.C_take (m := (x8_5 : Int).toNat) ((Kd.R_reads' (Kd.R_after (ok := (fun k_ => k_ ≠ gb405)) (by exact rz HO_7) hg hat)).2.2) KL33.out))
            have n4_ := zq9 ((show Kd.C k99 w38 A35 y431.length y431 from by rw [Ny431.out, KA35.out]; exact Kd.C_drop (m := (x8_5 : Int).toNat) (c := co34) ((Kd.R_reads' (Kd.R_after (ok := (fun k_ => k_ ≠ gb405)) (by exact rz HO_7) hg hat)).2.2) KL35.out ((Kd.R_reads' (Kd.R_after (ok := (fun k_ => k_ ≠ gb405)) (by exact rz HO_7) hg hat)).2.1)))
            have n5_ := zq9 (ho)
            clear HO_7
            clear BK405
            clear HB
            clear HR421
            clear HR434
            clear HO417
            have HO_7 := n0_
            have BK405 := n1_
            have HB := n2_
            have HR421 := n3_
            have HR434 := n4_
            have HO424 := n5_
            clear n0_ n1_ n2_ n3_ n4_ n5_
            clear ho hb hg hat
            refine hK.out _ _ ⟨bc BK405 0, bc BK405 1⟩ (fun hHeld => ?_)
            clear hK K
            refine norm_ (a' := ?_) ?_ ?_
            rotate_left; ·show Act.put _ (some 36) _ = _; simp only [Act.put, zq0, zq1, zq2, i64_w, i32_w]; rfl
            refine one_ (i := 6) (N := some 38) (zb 13 1919) rfl rfl (one_of HT_.out (by kernel_rfl)) (by decide) (fun K hK => ?_)
            refine Kd.R_lit_step k99 _ 99 ?hg (N := 38) ?hd (xs := ([(⟨a1_0, a1_1⟩ : S99)] : List (S99))) (inner := [.string a1_0, .int .i64 a1_1]) (ok := fun _ => True) (okp := fun _ => True) ?hr ?hp (fun _ hk => hk) trivial (Below.refl _ _) (Nat.le_refl _) (by simp) ?_; (case hd => rfl); (case hg => rfl); (case hr => first | (go_simp; done) | (go_simp; rfl)); (case hp => exact (Reps.c2 (show Kd.M k99 _ _ _ (⟨a1_0, a1_1⟩ : S99) [.string a1_0, .int .i64 a1_1] from (k99_mkM _ _ _ (⟨a1_0, a1_1⟩ : S99) )) (Reps.none _ _)))
            intro v426 w39 ho40 hb hg_ hnew_
            clear hg_ hnew_
            (first | rw [← Ny425.out] at ho40 | (simp only [Int.reduceToNat] at ho40; rw [← Ny425.out] at ho40))
            have n0_ := zq9 (Kd.R_elder' (by exact rz HO_7) (Kd.R_base ho40) hb)
            have n1_ := zq9 (Kd.R_elder' (by exact rz HO424) (Kd.R_base ho40) hb)
            have n2_ := zq9 (Kd.R_lower (Kd.R_newB (Kd.R_new' (Kd.R_new' ho40 (Kd.R_lt (by exact rz HO_7))) (Kd.R_lt (by exact rz HO424))) (g := gb405) (o := .cells #[.string a1_0, .int .i64 a1_1] 99 (0, 0)) (by exact bk BK405)) (zq29 (by exact b1 HB GE405)))
            have n3_ := zq9 (zq30 (g := gb405) (o := .cells #[.string a1_0, .int .i64 a1_1] 99 (0, 0)) (by exact bk BK405) hb)
            have n4_ := zq9 (zq31 (by repeat (first | (with_reducible exact HR421.out) | (with_reducible refine zq18 ?_ _) | (with_reducible refine zq19 ?_ _) | (with_reducible refine zq20 ?_) | exact HR421.out)) hb)
            have n5_ := zq9 (zq31 (by repeat (first | (with_reducible exact HR434.out) | (with_reducible refine zq18 ?_ _) | (with_reducible refine zq19 ?_ _) | (with_reducible refine zq20 ?_) | exact HR434.out)) hb)
            have n6_ := zq9 (zq27 (by exact b1 HB GE405) hb)
            clear HO_7
            clear HO424
            clear BK405
            clear HR421
            clear HR434
            clear HB
            have HO_7 := n0_
            have HO424 := n1_
            have HO427 := n2_
            have BK405 := n3_
            have HR421 := n4_
            have HR434 := n5_
            have HB := n6_
            clear n0_ n1_ n2_ n3_ n4_ n5_ n6_
            clear hb ho40
            refine hK.out _ _ ⟨bc BK405 0, bc BK405 1⟩ (fun hHeld => ?_)
            clear hK K
            refine norm_ (a' := ?_) ?_ ?_
            rotate_left; ·show Act.put _ (some 38) _ = _; simp only [Act.put, zq0, zq1, zq2, i64_w, i32_w]; rfl
            exact norm_ (by simp only [putAll, Act.put, zq0, zq1, zq2]) (hCont (v416, v423, v426) _ ⟨hHeld, (by (with_reducible repeat (first | apply zq10 | apply zq11 | apply zq12)); exact Kd.R_mono HO424.out (fun _ hk => ⟨hk.2, ⟨hk.1.1, hk.1.2⟩⟩)), (by (with_reducible repeat (first | apply zq10 | apply zq11 | apply zq12)); exact Kd.R_mono HO427.out (fun _ hk => ⟨hk.1.2, ⟨hk.1.1.2, hk.2⟩⟩)), (by (with_reducible repeat (first | apply zq10 | apply zq11 | apply zq12)); exact Kd.R_mono HO_7.out (fun _ hk => ⟨hk.1.2, ⟨hk.2, hk.1.1⟩⟩)), (by exact bk BK405), (by exact b1 HB GE405)⟩)
           ·skip
            refine Kd.R_lit_step k99 _ 99 ?hg (N := 38) ?hd (xs := ([(⟨a1_0, a1_1⟩ : S99)] : List (S99))) (inner := [.string a1_0, .int .i64 a1_1]) (ok := fun _ => True) (okp := fun _ => True) ?hr ?hp (fun _ hk => hk) trivial (Below.refl _ _) (Nat.le_refl _) (by simp) ?_; (case hd => rfl); (case hg => rfl); (case hr => first | (go_simp; done) | (go_simp; rfl)); (case hp => exact (Reps.c2 (show Kd.M k99 _ _ _ (⟨a1_0, a1_1⟩ : S99) [.string a1_0, .int .i64 a1_1] from (k99_mkM _ _ _ (⟨a1_0, a1_1⟩ : S99) )) (Reps.none _ _)))
            intro v426 w38 ho39 hb hg_ hnew_
            clear hg_ hnew_
            (first | rw [← Ny425.out] at ho39 | (simp only [Int.reduceToNat] at ho39; rw [← Ny425.out] at ho39))
            have n0_ := zq9 (Kd.R_elder' (by exact rz HO_7) (Kd.R_base ho39) hb)
            have n1_ := zq9 (Kd.R_elder' (by exact rz HO417) (Kd.R_base ho39) hb)
            have n2_ := zq9 (Kd.R_lower (Kd.R_newB (Kd.R_new' (Kd.R_new' ho39 (Kd.R_lt (by exact rz HO_7))) (Kd.R_lt (by exact rz HO417))) (g := gb405) (o := .cells #[.string a1_0, .int .i64 a1_1] 99 (0, 0)) (by exact bk BK405)) (zq29 (by exact b1 HB GE405)))
            have n3_ := zq9 (zq30 (g := gb405) (o := .cells #[.string a1_0, .int .i64 a1_1] 99 (0, 0)) (by exact bk BK405) hb)
            have n4_ := zq9 (zq31 (by repeat (first | (with_reducible exact HR421.out) | (with_reducible refine zq18 ?_ _) | (with_reducible refine zq19 ?_ _) | (with_reducible refine zq20 ?_) | exact HR421.out)) hb)
            have n5_ := zq9 (zq31 (by repeat (first | (with_reducible exact HR434.out) | (with_reducible refine zq18 ?_ _) | (with_reducible refine zq19 ?_ _) | (with_reducible refine zq20 ?_) | exact HR434.out)) hb)
            have n6_ := zq9 (zq27 (by exact b1 HB GE405) hb)
            clear HO_7
            clear HO417
            clear BK405
            clear HR421
            clear HR434
            clear HB
            have HO_7 := n0_
            have HO417 := n1_
            have HO427 := n2_
            have BK405 := n3_
            have HR421 := n4_
            have HR434 := n5_
            have HB := n6_
            clear n0_ n1_ n2_ n3_ n4_ n5_ n6_
            clear hb ho39
            refine hK.out _ _ ⟨bc BK405 0, bc BK405 1⟩ (fun hHeld => ?_)
            clear hK K
            refine norm_ (a' := ?_) ?_ ?_
            rotate_left; ·show Act.put _ (some 38) _ = _; simp only [Act.put, zq0, zq1, zq2, i64_w, i32_w]; rfl
            refine one_ (i := 4) (N := some 36) (zb 13 1919) rfl rfl (one_of HT_.out (by kernel_rfl)) (by decide) (fun K hK => ?_)
            refine Kd.R_append_rows_step k99 (w0 := w) w.heap.size (by rfl) (.tmp 32) (.tmp 35) 29 99 (.agg #[(.string ⟨#[]⟩), (.int .i64 0)]) 24 rfl Try.underlying29 info99 rfl (by decide) (by omega) v416 y415 y418 _ _ _ (fun k_ => some k_ ≠ (.slice Ao34 t410.length co34 : Value).ownBlock ∧ some k_ ≠ (v426 : Value).ownBlock ∧ k_ ≠ gb405) (fun _ => False) rfl rfl ?aO ?aR (fun _ _ h => h) (fun _ h => h.elim) ?aF ?aB ?aS ?aL ?_
            (case aR => repeat (first | exact (by repeat (first | (with_reducible exact HR421.out) | (with_reducible refine zq18 ?_ _) | (with_reducible refine zq19 ?_ _) | (with_reducible refine zq20 ?_) | exact HR421.out)) | (with_reducible refine zq18 ?_ _) | (with_reducible refine zq19 ?_ _) | (with_reducible refine zq20 ?_)))
            (case aB => exact (by exact b1 HB GE405))
            (case aF => exact (fun k_ hk => ⟨Kd.fresh' (Kd.R_lt (by exact rz HO_7)) k_ hk, Kd.fresh' (Kd.R_lt (by exact rz HO427)) k_ hk, Kd.freshB (g := gb405) (o := .cells #[.string a1_0, .int .i64 a1_1] 99 (0, 0)) (by exact bk BK405) k_ hk⟩))
            (case aO => exact (by (with_reducible repeat (first | apply zq10 | apply zq11 | apply zq12)); exact Kd.R_mono HO417.out (fun _ hk => ⟨hk.1.1.2, ⟨hk.2, hk.1.2⟩⟩)))
            (case aS => exact (zq29 (by exact b1 HB GE405)))
            (case aL => have := LMc25.out; omega)
            intro v423 w40 ho hb hg hat
            rw [← Ny422.out] at ho
            have n0_ := zq9 (Kd.R_after (ok := (fun k_ => some k_ ≠ (v426 : Value).ownBlock ∧ k_ ≠ gb405)) (by (with_reducible repeat (first | apply zq10 | apply zq11 | apply zq12)); exact Kd.R_mono HO_7.out (fun _ hk => ⟨⟨hk.2, hk.1.1⟩, hk.1.2⟩)) hg hat)
            have n1_ := zq9 (blk_grown (g := gb405) (o := .cells #[.string a1_0, .int .i64 a1_1] 99 (0, 0)) (by exact bk BK405) hg (Kd.R_away HO417.out (fun _ hk => hk.1.2)))
            have n2_ := zq9 (Kd.R_after (ok := (fun k_ => some k_ ≠ (.slice Ao34 t410.length co34 : Value).ownBlock ∧ k_ ≠ gb405)) (by (with_reducible repeat (first | apply zq10 | apply zq11 | apply zq12)); exact Kd.R_mono HO427.out (fun _ hk => ⟨⟨hk.1.1.2, hk.2⟩, hk.1.2⟩)) hg hat)
            have n3_ := zq9 (hb)
            have n4_ := zq9 ((show Kd.C k99 w40 Ao34 y418.length y418 from by rw [Ny418.out]; exact Kd.C_take (m := (x8_5 : Int).toNat) ((Kd.R_reads' (Kd.R_after (ok := (fun k_ => some k_ ≠ (v426 : Value).ownBlock ∧ k_ ≠ gb405)) (by (with_reducible repeat (first | apply zq10 | apply zq11 | apply zq12)); exact Kd.R_mono HO_7.out (fun _ hk => ⟨⟨hk.2, hk.1.1⟩, hk.1.2⟩)) hg hat)).2.2) KL33.out))
            have n5_ := zq9 ((show Kd.C k99 w40 A35 y431.length y431 from by rw [Ny431.out, KA35.out]; exact Kd.C_drop (m := (x8_5 : Int).toNat) (c := co34) ((Kd.R_reads' (Kd.R_after (ok := (fun k_ => some k_ ≠ (v426 : Value).ownBlock ∧ k_ ≠ gb405)) (by (with_reducible repeat (first | apply zq10 | apply zq11 | apply zq12)); exact Kd.R_mono HO_7.out (fun _ hk => ⟨⟨hk.2, hk.1.1⟩, hk.1.2⟩)) hg hat)).2.2) KL35.out ((Kd.R_reads' (Kd.R_after (ok := (fun k_ => some k_ ≠ (v426 : Value).ownBlock ∧ k_ ≠ gb405)) (by (with_reducible repeat (first | apply zq10 | apply zq11 | apply zq12)); exact Kd.R_mono HO_7.out (fun _ hk => ⟨⟨hk.2, hk.1.1⟩, hk.1.2⟩)) hg hat)).2.1)))
            have n6_ := zq9 (ho)
            clear HO_7
            clear BK405
            clear HO427
            clear HB
            clear HR421
            clear HR434
            clear HO417
            have HO_7 := n0_
            have BK405 := n1_
            have HO427 := n2_
            have HB := n3_
            have HR421 := n4_
            have HR434 := n5_
            have HO424 := n6_
            clear n0_ n1_ n2_ n3_ n4_ n5_ n6_
            clear ho hb hg hat
            refine hK.out _ _ ⟨bc BK405 0, bc BK405 1⟩ (fun hHeld => ?_)
            clear hK K
            refine norm_ (a' := ?_) ?_ ?_
            rotate_left; ·show Act.put _ (some 36) _ = _; simp only [Act.put, zq0, zq1, zq2, i64_w, i32_w]; rfl
            exact norm_ (by simp only [putAll, Act.put, zq0, zq1, zq2]) (hCont (v416, v423, v426) _ ⟨hHeld, (by (with_reducible repeat (first | apply zq10 | apply zq11 | apply zq12)); exact Kd.R_mono HO424.out (fun _ hk => ⟨hk.2.1, ⟨hk.1, hk.2.2⟩⟩)), (by (with_reducible repeat (first | apply zq10 | apply zq11 | apply zq12)); exact Kd.R_mono HO427.out (fun _ hk => ⟨hk.2, ⟨hk.1.1, hk.1.2⟩⟩)), (by (with_reducible repeat (first | apply zq10 | apply zq11 | apply zq12)); exact Kd.R_mono HO_7.out (fun _ hk => ⟨hk.2, ⟨hk.1.1, hk.1.2⟩⟩)), (by exact bk BK405), (by exact b1 HB GE405)⟩)
          ·skip
           refine Kd.R_lit_step k99 _ 99 ?hg (N := 38) ?hd (xs := ([(⟨a1_0, a1_1⟩ : S99)] : List (S99))) (inner := [.string a1_0, .int .i64 a1_1]) (ok := fun _ => True) (okp := fun _ => True) ?hr ?hp (fun _ hk => hk) trivial (Below.refl _ _) (Nat.le_refl _) (by simp) ?_; (case hd => rfl); (case hg => rfl); (case hr => first | (go_simp; done) | (go_simp; rfl)); (case hp => exact (Reps.c2 (show Kd.M k99 _ _ _ (⟨a1_0, a1_1⟩ : S99) [.string a1_0, .int .i64 a1_1] from (k99_mkM _ _ _ (⟨a1_0, a1_1⟩ : S99) )) (Reps.none _ _)))
           intro v426 w36 ho37 hb hg_ hnew_
           clear hg_ hnew_
           (first | rw [← Ny425.out] at ho37 | (simp only [Int.reduceToNat] at ho37; rw [← Ny425.out] at ho37))
           have n0_ := zq9 (Kd.R_elder' (by exact rz HO_7) (Kd.R_base ho37) hb)
           have n1_ := zq9 (Kd.R_lower (Kd.R_newB (Kd.R_new' ho37 (Kd.R_lt (by exact rz HO_7))) (g := gb405) (o := .cells #[.string a1_0, .int .i64 a1_1] 99 (0, 0)) (by exact bk BK405)) (zq29 (by exact b1 HB GE405)))
           have n2_ := zq9 (zq30 (g := gb405) (o := .cells #[.string a1_0, .int .i64 a1_1] 99 (0, 0)) (by exact bk BK405) hb)
           have n3_ := zq9 (zq31 (by repeat (first | (with_reducible exact HR421.out) | (with_reducible refine zq18 ?_ _) | (with_reducible refine zq19 ?_ _) | (with_reducible refine zq20 ?_) | exact HR421.out)) hb)
           have n4_ := zq9 (zq31 (by repeat (first | (with_reducible exact HR434.out) | (with_reducible refine zq18 ?_ _) | (with_reducible refine zq19 ?_ _) | (with_reducible refine zq20 ?_) | exact HR434.out)) hb)
           have n5_ := zq9 (zq27 (by exact b1 HB GE405) hb)
           clear HO_7
           clear BK405
           clear HR421
           clear HR434
           clear HB
           have HO_7 := n0_
           have HO427 := n1_
           have BK405 := n2_
           have HR421 := n3_
           have HR434 := n4_
           have HB := n5_
           clear n0_ n1_ n2_ n3_ n4_ n5_
           clear hb ho37
           refine hK.out _ _ ⟨bc BK405 0, bc BK405 1⟩ (fun hHeld => ?_)
           clear hK K
           refine norm_ (a' := ?_) ?_ ?_
           rotate_left; ·show Act.put _ (some 38) _ = _; simp only [Act.put, zq0, zq1, zq2, i64_w, i32_w]; rfl
           refine one_ (i := 0) (N := some 32) (zb 13 1903) rfl rfl (one_of HT_.out (by kernel_rfl)) (by decide) (fun K hK => ?_)
           refine Kd.R_lit_step k99 _ 99 ?hg (N := 32) ?hd (xs := ([] : List (S99))) (inner := []) (ok := fun _ => True) (okp := fun _ => True) ?hr ?hp (fun _ hk => hk) trivial (Below.refl _ _) (Nat.le_refl _) (by simp) ?_; (case hd => rfl); (case hg => rfl); (case hr => first | (go_simp; done) | (go_simp; rfl)); (case hp => exact (Reps.none _ _))
           intro v416 w38 ho39 hb hg_ hnew_
           clear hg_ hnew_
           (first | rw [← Ny415.out] at ho39 | (simp only [Int.reduceToNat] at ho39; rw [← Ny415.out] at ho39))
           have n0_ := zq9 (Kd.R_elder' (by exact rz HO_7) (Kd.R_base ho39) hb)
           have n1_ := zq9 (Kd.R_elder' (by exact rz HO427) (Kd.R_base ho39) hb)
           have n2_ := zq9 (Kd.R_lower (Kd.R_newB (Kd.R_new' (Kd.R_new' ho39 (Kd.R_lt (by exact rz HO_7))) (Kd.R_lt (by exact rz HO427))) (g := gb405) (o := .cells #[.string a1_0, .int .i64 a1_1] 99 (0, 0)) (by exact bk BK405)) (zq29 (by exact b1 HB GE405)))
           have n3_ := zq9 (zq30 (g := gb405) (o := .cells #[.string a1_0, .int .i64 a1_1] 99 (0, 0)) (by exact bk BK405) hb)
           have n4_ := zq9 (zq31 (by repeat (first | (with_reducible exact HR421.out) | (with_reducible refine zq18 ?_ _) | (with_reducible refine zq19 ?_ _) | (with_reducible refine zq20 ?_) | exact HR421.out)) hb)
           have n5_ := zq9 (zq31 (by repeat (first | (with_reducible exact HR434.out) | (with_reducible refine zq18 ?_ _) | (with_reducible refine zq19 ?_ _) | (with_reducible refine zq20 ?_) | exact HR434.out)) hb)
           have n6_ := zq9 (zq27 (by exact b1 HB GE405) hb)
           clear HO_7
           clear HO427
           clear BK405
           clear HR421
           clear HR434
           clear HB
           have HO_7 := n0_
           have HO427 := n1_
           have HO417 := n2_
           have BK405 := n3_
           have HR421 := n4_
           have HR434 := n5_
           have HB := n6_
           clear n0_ n1_ n2_ n3_ n4_ n5_ n6_
           clear hb ho39
           refine hK.out _ _ ⟨bc BK405 0, bc BK405 1⟩ (fun hHeld => ?_)
           clear hK K
           refine norm_ (a' := ?_) ?_ ?_
           rotate_left; ·show Act.put _ (some 32) _ = _; simp only [Act.put, zq0, zq1, zq2, i64_w, i32_w]; rfl
           refine one_ (i := 4) (N := some 36) (zb 13 1919) rfl rfl (one_of HT_.out (by kernel_rfl)) (by decide) (fun K hK => ?_)
           refine Kd.R_append_rows_step k99 (w0 := w) w.heap.size (by rfl) (.tmp 32) (.tmp 35) 29 99 (.agg #[(.string ⟨#[]⟩), (.int .i64 0)]) 24 rfl Try.underlying29 info99 rfl (by decide) (by omega) v416 y415 y418 _ _ _ (fun k_ => some k_ ≠ (.slice Ao34 t410.length co34 : Value).ownBlock ∧ some k_ ≠ (v426 : Value).ownBlock ∧ k_ ≠ gb405) (fun _ => False) rfl rfl ?aO ?aR (fun _ _ h => h) (fun _ h => h.elim) ?aF ?aB ?aS ?aL ?_
           (case aR => repeat (first | exact (by repeat (first | (with_reducible exact HR421.out) | (with_reducible refine zq18 ?_ _) | (with_reducible refine zq19 ?_ _) | (with_reducible refine zq20 ?_) | exact HR421.out)) | (with_reducible refine zq18 ?_ _) | (with_reducible refine zq19 ?_ _) | (with_reducible refine zq20 ?_)))
           (case aB => exact (by exact b1 HB GE405))
           (case aF => exact (fun k_ hk => ⟨Kd.fresh' (Kd.R_lt (by exact rz HO_7)) k_ hk, Kd.fresh' (Kd.R_lt (by exact rz HO427)) k_ hk, Kd.freshB (g := gb405) (o := .cells #[.string a1_0, .int .i64 a1_1] 99 (0, 0)) (by exact bk BK405) k_ hk⟩))
           (case aO => exact (by (with_reducible repeat (first | apply zq10 | apply zq11 | apply zq12)); exact Kd.R_mono HO417.out (fun _ hk => ⟨hk.1.1.2, ⟨hk.1.2, hk.2⟩⟩)))
           (case aS => exact (zq29 (by exact b1 HB GE405)))
           (case aL => have := LMc25.out; omega)
           intro v423 w40 ho hb hg hat
           rw [← Ny422.out] at ho
           have n0_ := zq9 (Kd.R_after (ok := (fun k_ => some k_ ≠ (v426 : Value).ownBlock ∧ k_ ≠ gb405)) (by (with_reducible repeat (first | apply zq10 | apply zq11 | apply zq12)); exact Kd.R_mono HO_7.out (fun _ hk => ⟨⟨hk.1.2, hk.1.1⟩, hk.2⟩)) hg hat)
           have n1_ := zq9 (blk_grown (g := gb405) (o := .cells #[.string a1_0, .int .i64 a1_1] 99 (0, 0)) (by exact bk BK405) hg (Kd.R_away HO417.out (fun _ hk => hk.2)))
           have n2_ := zq9 (Kd.R_after (ok := (fun k_ => some k_ ≠ (.slice Ao34 t410.length co34 : Value).ownBlock ∧ k_ ≠ gb405)) (by (with_reducible repeat (first | apply zq10 | apply zq11 | apply zq12)); exact Kd.R_mono HO427.out (fun _ hk => ⟨⟨hk.1.1.2, hk.1.2⟩, hk.2⟩)) hg hat)
           have n3_ := zq9 (hb)
           have n4_ := zq9 ((show Kd.C k99 w40 Ao34 y418.length y418 from by rw [Ny418.out]; exact Kd.C_take (m := (x8_5 : Int).toNat) ((Kd.R_reads' (Kd.R_after (ok := (fun k_ => some k_ ≠ (v426 : Value).ownBlock ∧ k_ ≠ gb405)) (by (with_reducible repeat (first | apply zq10 | apply zq11 | apply zq12)); exact Kd.R_mono HO_7.out (fun _ hk => ⟨⟨hk.1.2, hk.1.1⟩, hk.2⟩)) hg hat)).2.2) KL33.out))
           have n5_ := zq9 ((show Kd.C k99 w40 A35 y431.length y431 from by rw [Ny431.out, KA35.out]; exact Kd.C_drop (m := (x8_5 : Int).toNat) (c := co34) ((Kd.R_reads' (Kd.R_after (ok := (fun k_ => some k_ ≠ (v426 : Value).ownBlock ∧ k_ ≠ gb405)) (by (with_reducible repeat (first | apply zq10 | apply zq11 | apply zq12)); exact Kd.R_mono HO_7.out (fun _ hk => ⟨⟨hk.1.2, hk.1.1⟩, hk.2⟩)) hg hat)).2.2) KL35.out ((Kd.R_reads' (Kd.R_after (ok := (fun k_ => some k_ ≠ (v426 : Value).ownBlock ∧ k_ ≠ gb405)) (by (with_reducible repeat (first | apply zq10 | apply zq11 | apply zq12)); exact Kd.R_mono HO_7.out (fun _ hk => ⟨⟨hk.1.2, hk.1.1⟩, hk.2⟩)) hg hat)).2.1)))
           have n6_ := zq9 (ho)
           clear HO_7
           clear BK405
           clear HO427
           clear HB
           clear HR421
           clear HR434
           clear HO417
           have HO_7 := n0_
           have BK405 := n1_
           have HO427 := n2_
           have HB := n3_
           have HR421 := n4_
           have HR434 := n5_
           have HO424 := n6_
           clear n0_ n1_ n2_ n3_ n4_ n5_ n6_
           clear ho hb hg hat
           refine hK.out _ _ ⟨bc BK405 0, bc BK405 1⟩ (fun hHeld => ?_)
           clear hK K
           refine norm_ (a' := ?_) ?_ ?_
           rotate_left; ·show Act.put _ (some 36) _ = _; simp only [Act.put, zq0, zq1, zq2, i64_w, i32_w]; rfl
           exact norm_ (by simp only [putAll, Act.put, zq0, zq1, zq2]) (hCont (v416, v423, v426) _ ⟨hHeld, (by (with_reducible repeat (first | apply zq10 | apply zq11 | apply zq12)); exact Kd.R_mono HO424.out (fun _ hk => ⟨hk.2.1, ⟨hk.1, hk.2.2⟩⟩)), (by (with_reducible repeat (first | apply zq10 | apply zq11 | apply zq12)); exact Kd.R_mono HO427.out (fun _ hk => ⟨hk.2, ⟨hk.1.1, hk.1.2⟩⟩)), (by (with_reducible repeat (first | apply zq10 | apply zq11 | apply zq12)); exact Kd.R_mono HO_7.out (fun _ hk => ⟨hk.2, ⟨hk.1.1, hk.1.2⟩⟩)), (by exact bk BK405), (by exact b1 HB GE405)⟩)
         rintro ⟨v416, v423, v426⟩ w41 ⟨hS_, h0_, h1_, h2_, h3_, h4_⟩
         have n0_ : Aside0 (Kd.R k99 99 w41 w.heap.size (fun k_ => some k_ ≠ (v426 : Value).ownBlock ∧ some k_ ≠ (.slice Ao34 t410.length co34 : Value).ownBlock ∧ k_ ≠ gb405) v423 y422) := ⟨h0_⟩
         have n1_ : Aside0 (Kd.R k99 99 w41 w.heap.size (fun k_ => some k_ ≠ (v423 : Value).ownBlock ∧ some k_ ≠ (.slice Ao34 t410.length co34 : Value).ownBlock ∧ k_ ≠ gb405) v426 y425) := ⟨h1_⟩
         have n2_ : Aside0 (Kd.R k99 99 w41 w.heap.size (fun k_ => some k_ ≠ (v423 : Value).ownBlock ∧ some k_ ≠ (v426 : Value).ownBlock ∧ k_ ≠ gb405) (.slice Ao34 t410.length co34) t410) := ⟨h2_⟩
         have n3_ : Aside0 (w41.heap[gb405]? = some (.cells #[.string a1_0, .int .i64 a1_1] 99 (0, 0))) := ⟨h3_⟩
         have n4_ : Aside0 (Below w.heap.size w w41) := ⟨h4_⟩
         clear HO_7
         clear BK405
         clear HB
         clear h0_ h1_ h2_ h3_ h4_
         have HO424 := n0_
         have HO427 := n1_
         have HO_7 := n2_
         have BK405 := n3_
         have HB := n4_
         clear n0_ n1_ n2_ n3_ n4_
         have hHeld : w41.cell? ⟨gb405, 0, none⟩ = some (.string a1_0) ∧ w41.cell? ⟨gb405, 1, none⟩ = some (.int .i64 a1_1) := hS_
         (try clear HR421)
         have HR421 := zq9 (show Kd.C k99 w41 Ao34 y418.length y418 from (by rw [Ny418.out]; exact Kd.C_take (m := (x8_5 : Int).toNat) ((Kd.R_reads' (HO_7.out)).2.2) KL33.out))
         (try clear HR434)
         have HR434 := zq9 (show Kd.C k99 w41 A35 y431.length y431 from (by rw [Ny431.out, KA35.out]; exact Kd.C_drop (m := (x8_5 : Int).toNat) (c := co34) ((Kd.R_reads' (HO_7.out)).2.2) KL35.out ((Kd.R_reads' (HO_7.out)).2.1)))
         obtain ⟨Ao43, co43, eo43⟩ := Kd.R_slice HO427.out
         (first | subst eo43 | (injection eo43 with f1_ f2_ f3_; have f4_ := f1_.symm; have f5_ := f3_.symm; clear f1_ f2_ f3_; subst f4_; subst f5_))
         refine norm_ (a' := ?_) ?_ ?_
         rotate_left; ·simp only [putAll, Act.put, zq0, zq1, zq2]; rfl
         refine one_ (i := 7) (N := some 39) (zb 13 2047) rfl rfl (one_of HT_.out (by kernel_rfl)) (by decide) (fun K hK => ?_)
         refine Kd.R_append_rows_step k99 (w0 := w) w.heap.size (by rfl) (.tmp 36) (.tmp 38) 29 99 (.agg #[(.string ⟨#[]⟩), (.int .i64 0)]) 24 rfl Try.underlying29 info99 rfl (by decide) (by omega) v423 y422 y425 _ _ _ (fun k_ => some k_ ≠ (.slice Ao34 t410.length co34 : Value).ownBlock ∧ some k_ ≠ (.slice Ao43 y425.length co43 : Value).ownBlock ∧ k_ ≠ gb405) (fun _ => False) rfl rfl ?aO ?aR (fun _ _ h => h) (fun _ h => h.elim) ?aF ?aB ?aS ?aL ?_
         (case aR => repeat (first | exact (Kd.R_reads' HO427.out).2.2 | (with_reducible refine zq18 ?_ _) | (with_reducible refine zq19 ?_ _) | (with_reducible refine zq20 ?_)))
         (case aB => exact (by exact b1 HB GE405))
         (case aF => exact (fun k_ hk => ⟨Kd.fresh' (Kd.R_lt (by exact rz HO_7)) k_ hk, Kd.fresh' (Kd.R_lt (by exact rz HO427)) k_ hk, Kd.freshB (g := gb405) (o := .cells #[.string a1_0, .int .i64 a1_1] 99 (0, 0)) (by exact bk BK405) k_ hk⟩))
         (case aO => exact (by (with_reducible repeat (first | apply zq10 | apply zq11 | apply zq12)); exact Kd.R_mono HO424.out (fun _ hk => ⟨hk.2.1, ⟨hk.1, hk.2.2⟩⟩)))
         (case aS => exact (zq29 (by exact b1 HB GE405)))
         (case aL => have := LMc26.out; omega)
         intro v429 w42 ho hb hg hat
         rw [← Ny428.out] at ho
         have n0_ := zq9 (Kd.R_after (ok := (fun k_ => some k_ ≠ (.slice Ao43 y425.length co43 : Value).ownBlock ∧ k_ ≠ gb405)) (by (with_reducible repeat (first | apply zq10 | apply zq11 | apply zq12)); exact Kd.R_mono HO_7.out (fun _ hk => ⟨⟨hk.2.1, hk.2.2⟩, hk.1⟩)) hg hat)
         have n1_ := zq9 (blk_grown (g := gb405) (o := .cells #[.string a1_0, .int .i64 a1_1] 99 (0, 0)) (by exact bk BK405) hg (Kd.R_away HO424.out (fun _ hk => hk.2.2)))
         have n2_ := zq9 (Kd.R_after (ok := (fun k_ => some k_ ≠ (.slice Ao34 t410.length co34 : Value).ownBlock ∧ k_ ≠ gb405)) (by (with_reducible repeat (first | apply zq10 | apply zq11 | apply zq12)); exact Kd.R_mono HO427.out (fun _ hk => ⟨⟨hk.2.1, hk.2.2⟩, hk.1⟩)) hg hat)
         have n3_ := zq9 (hb)
         have n4_ := zq9 ((show Kd.C k99 w42 Ao34 y418.length y418 from by rw [Ny418.out]; exact Kd.C_take (m := (x8_5 : Int).toNat) ((Kd.R_reads' (Kd.R_after (ok := (fun k_ => some k_ ≠ (.slice Ao43 y425.length co43 : Value).ownBlock ∧ k_ ≠ gb405)) (by (with_reducible repeat (first | apply zq10 | apply zq11 | apply zq12)); exact Kd.R_mono HO_7.out (fun _ hk => ⟨⟨hk.2.1, hk.2.2⟩, hk.1⟩)) hg hat)).2.2) KL33.out))
         have n5_ := zq9 ((show Kd.C k99 w42 A35 y431.length y431 from by rw [Ny431.out, KA35.out]; exact Kd.C_drop (m := (x8_5 : Int).toNat) (c := co34) ((Kd.R_reads' (Kd.R_after (ok := (fun k_ => some k_ ≠ (.slice Ao43 y425.length co43 : Value).ownBlock ∧ k_ ≠ gb405)) (by (with_reducible repeat (first | apply zq10 | apply zq11 | apply zq12)); exact Kd.R_mono HO_7.out (fun _ hk => ⟨⟨hk.2.1, hk.2.2⟩, hk.1⟩)) hg hat)).2.2) KL35.out ((Kd.R_reads' (Kd.R_after (ok := (fun k_ => some k_ ≠ (.slice Ao43 y425.length co43 : Value).ownBlock ∧ k_ ≠ gb405)) (by (with_reducible repeat (first | apply zq10 | apply zq11 | apply zq12)); exact Kd.R_mono HO_7.out (fun _ hk => ⟨⟨hk.2.1, hk.2.2⟩, hk.1⟩)) hg hat)).2.1)))
         have n6_ := zq9 (ho)
         clear HO_7
         clear BK405
         clear HO427
         clear HB
         clear HR421
         clear HR434
         clear HO424
         have HO_7 := n0_
         have BK405 := n1_
         have HO427 := n2_
         have HB := n3_
         have HR421 := n4_
         have HR434 := n5_
         have HO430 := n6_
         clear n0_ n1_ n2_ n3_ n4_ n5_ n6_
         clear ho hb hg hat
         refine hK.out _ _ ⟨bc BK405 0, bc BK405 1⟩ (fun hHeld => ?_)
         clear hK K
         refine norm_ (a' := ?_) ?_ ?_
         rotate_left; ·show Act.put _ (some 39) _ = _; simp only [Act.put, zq0, zq1, zq2, i64_w, i32_w]; rfl
         refine one_ (i := 11) (N := some 43) (zb 13 4095) rfl rfl (one_of HT_.out (by kernel_rfl)) (by decide) (fun K hK => ?_)
         refine Kd.R_append_rows_step k99 (w0 := w) w.heap.size (by rfl) (.tmp 39) (.tmp 42) 29 99 (.agg #[(.string ⟨#[]⟩), (.int .i64 0)]) 24 rfl Try.underlying29 info99 rfl (by decide) (by omega) v429 y428 y431 _ _ _ (fun k_ => some k_ ≠ (.slice Ao34 t410.length co34 : Value).ownBlock ∧ some k_ ≠ (.slice Ao43 y425.length co43 : Value).ownBlock ∧ k_ ≠ gb405) (fun _ => False) rfl rfl ?aO ?aR (fun _ _ h => h) (fun _ h => h.elim) ?aF ?aB ?aS ?aL ?_
         (case aR => repeat (first | exact (by repeat (first | (with_reducible exact HR434.out) | (with_reducible refine zq18 ?_ _) | (with_reducible refine zq19 ?_ _) | (with_reducible refine zq20 ?_) | exact HR434.out)) | (with_reducible refine zq18 ?_ _) | (with_reducible refine zq19 ?_ _) | (with_reducible refine zq20 ?_)))
         (case aB => exact (by exact b1 HB GE405))
         (case aF => exact (fun k_ hk => ⟨Kd.fresh' (Kd.R_lt (by exact rz HO_7)) k_ hk, Kd.fresh' (Kd.R_lt (by exact rz HO427)) k_ hk, Kd.freshB (g := gb405) (o := .cells #[.string a1_0, .int .i64 a1_1] 99 (0, 0)) (by exact bk BK405) k_ hk⟩))
         (case aO => exact (by exact rz HO430))
         (case aS => exact (zq29 (by exact b1 HB GE405)))
         (case aL => have := LMc29.out; omega)
         intro v436 w44 ho hb hg hat
         rw [← Ny435.out] at ho
         have n0_ := zq9 (Kd.R_after (ok := (fun k_ => some k_ ≠ (.slice Ao43 y425.length co43 : Value).ownBlock ∧ k_ ≠ gb405)) (by exact rz HO_7) hg hat)
         have n1_ := zq9 (blk_grown (g := gb405) (o := .cells #[.string a1_0, .int .i64 a1_1] 99 (0, 0)) (by exact bk BK405) hg (Kd.R_away HO430.out (fun _ hk => hk.2.2)))
         have n2_ := zq9 (Kd.R_after (ok := (fun k_ => some k_ ≠ (.slice Ao34 t410.length co34 : Value).ownBlock ∧ k_ ≠ gb405)) (by exact rz HO427) hg hat)
         have n3_ := zq9 (hb)
         have n4_ := zq9 ((show Kd.C k99 w44 Ao34 y418.length y418 from by rw [Ny418.out]; exact Kd.C_take (m := (x8_5 : Int).toNat) ((Kd.R_reads' (Kd.R_after (ok := (fun k_ => some k_ ≠ (.slice Ao43 y425.length co43 : Value).ownBlock ∧ k_ ≠ gb405)) (by exact rz HO_7) hg hat)).2.2) KL33.out))
         have n5_ := zq9 ((show Kd.C k99 w44 A35 y431.length y431 from by rw [Ny431.out, KA35.out]; exact Kd.C_drop (m := (x8_5 : Int).toNat) (c := co34) ((Kd.R_reads' (Kd.R_after (ok := (fun k_ => some k_ ≠ (.slice Ao43 y425.length co43 : Value).ownBlock ∧ k_ ≠ gb405)) (by exact rz HO_7) hg hat)).2.2) KL35.out ((Kd.R_reads' (Kd.R_after (ok := (fun k_ => some k_ ≠ (.slice Ao43 y425.length co43 : Value).ownBlock ∧ k_ ≠ gb405)) (by exact rz HO_7) hg hat)).2.1)))
         have n6_ := zq9 (ho)
         clear HO_7
         clear BK405
         clear HO427
         clear HB
         clear HR421
         clear HR434
         clear HO430
         have HO_7 := n0_
         have BK405 := n1_
         have HO427 := n2_
         have HB := n3_
         have HR421 := n4_
         have HR434 := n5_
         have HO437 := n6_
         clear n0_ n1_ n2_ n3_ n4_ n5_ n6_
         clear ho hb hg hat
         refine hK.out _ _ ⟨bc BK405 0, bc BK405 1⟩ (fun hHeld => ?_)
         clear hK K
         refine norm_ (a' := ?_) ?_ ?_
         rotate_left; ·show Act.put _ (some 43) _ = _; simp only [Act.put, zq0, zq1, zq2, i64_w, i32_w]; rfl
         refine pa HT_ 12 9 (zb 13 8191) ?_
         refine done_ (done_of HT_.out (by kernel_rfl)) ?_
         obtain ⟨Ao45, co45, eo45⟩ := Kd.R_slice HO437.out
         subst eo45
         by_cases c31 : t438 = true
         ·subst c31
          have H1 : (some (y435, ((t410.length : Int) == (l0.length : Int)), true)) = some (r1, r2, r3) := by rw [if_pos rfl] at H; exact H
          clear H
          have H := H1
          clear H1
          simp only [Option.some.injEq, Prod.mk.injEq] at H
          obtain ⟨rfl, rfl, rfl⟩ := H
          try go_wp2_with (first | ((with_reducible refine zq24 (f := 43) rfl ?_); refine gl (some 45) Try.func43 #[.slice Ao45 y435.length co45] ?_; (with_reducible refine (spec_ScoresOk.calls kj5 _ _ y435 true _ ?side1 ?side2 A30.out).mono ?_); (case side1 => repeat (first | exact (Kd.R_reads' HO437.out).2.2 | (with_reducible refine zq18 ?_ _) | (with_reducible refine zq19 ?_ _) | (with_reducible refine zq20 ?_))); (case side2 => exact (Kd.R_reads' HO437.out).2.1); rintro e w46 ⟨rfl, hb⟩; refine ⟨_, rfl, ?_⟩; have n0_ := zq9 (Kd.R_below (by exact rz HO_7) hb); have n1_ := zq9 (Kd.R_below (by exact rz HO427) hb); have n2_ := zq9 (Kd.R_below (by exact rz HO437) hb); have n3_ := zq9 (zq30 (g := gb405) (o := .cells #[.string a1_0, .int .i64 a1_1] 99 (0, 0)) (by exact bk BK405) hb); have n4_ := zq9 (zq31 (by repeat (first | (with_reducible exact HR421.out) | (with_reducible refine zq18 ?_ _) | (with_reducible refine zq19 ?_ _) | (with_reducible refine zq20 ?_) | exact HR421.out)) hb); have n5_ := zq9 (zq31 (by repeat (first | (with_reducible exact HR434.out) | (with_reducible refine zq18 ?_ _) | (with_reducible refine zq19 ?_ _) | (with_reducible refine zq20 ?_) | exact HR434.out)) hb); have n6_ := zq9 (zq27 (by exact b1 HB GE405) hb); clear HO_7; clear HO427; clear HO437; clear BK405; clear HR421; clear HR434; clear HB; have HO_7 := n0_; have HO427 := n1_; have HO437 := n2_; have BK405 := n3_; have HR421 := n4_; have HR434 := n5_; have HB := n6_; clear n0_ n1_ n2_ n3_ n4_ n5_ n6_; (try clear hb); (try clear hb2); (try clear hk); (try clear hi)))
          go_ret3
          exact ⟨_, by first | rfl | (simp [errW_none, errW_some] <;> rfl) | (simp [*, errW_none, errW_some] <;> rfl), by (with_reducible repeat (first | apply zq10 | apply zq11 | apply zq12)); exact Kd.R_mono HO437.out (fun _ hk => trivial), by exact b1 HB GE405⟩
         ·replace c31 := Bool.eq_false_iff.mpr c31
          subst c31
          have H1 : ((some (([] : List (S99)) : List (S99))).bind fun y439 => (if y439.length + l0.length < 5864062014805 then (some ((y439 ++ l0), false, false)) else (none))) = some (r1, r2, r3) := by rw [if_neg (show ¬ (false = true) by decide)] at H; exact H
          clear H
          have H := H1
          clear H1
          obtain ⟨y439, hy439⟩ : ∃ y_ : List (S99), y_ = (([] : List (S99))) := ⟨_, rfl⟩
          replace H : (if y439.length + l0.length < 5864062014805 then (some ((y439 ++ l0), false, false)) else (none)) = some (r1, r2, r3) := by first | (rw [hy439]; with_reducible exact H) | (have H2_ := (Option.bind_some _ _).symm.trans H; rw [hy439]; with_reducible exact H2_) | (have H2_ := (Option.bind_some _ _).symm.trans H; with_reducible exact H2_) | with_reducible exact H | (rw [hy439]; exact H) | exact H
          have Ny439 := zq9 hy439
          clear hy439
          by_cases c47 : y439.length + l0.length < 5864062014805
          ·rw [if_pos c47] at H
           have LMc47 := zq9 c47
           clear c47
           obtain ⟨y442, hy442⟩ : ∃ y_ : List (S99), y_ = (y439 ++ l0) := ⟨_, rfl⟩
           replace H : (some (y442, false, false)) = some (r1, r2, r3) := by first | (rw [hy442]; with_reducible exact H) | (have H2_ := (Option.bind_some _ _).symm.trans H; rw [hy442]; with_reducible exact H2_) | (have H2_ := (Option.bind_some _ _).symm.trans H; with_reducible exact H2_) | with_reducible exact H | (rw [hy442]; exact H) | exact H
           have Ny442 := zq9 hy442
           clear hy442
           simp only [Option.some.injEq, Prod.mk.injEq] at H
           obtain ⟨rfl, rfl, rfl⟩ := H
           try go_wp2_with (first | ((with_reducible refine zq24 (f := 43) rfl ?_); refine gl (some 45) Try.func43 #[.slice Ao45 y435.length co45] ?_; (with_reducible refine (spec_ScoresOk.calls kj5 _ _ y435 false _ ?side1 ?side2 A30.out).mono ?_); (case side1 => repeat (first | exact (Kd.R_reads' HO437.out).2.2 | (with_reducible refine zq18 ?_ _) | (with_reducible refine zq19 ?_ _) | (with_reducible refine zq20 ?_))); (case side2 => exact (Kd.R_reads' HO437.out).2.1); rintro e w62 ⟨rfl, hb⟩; refine ⟨_, rfl, ?_⟩; have n0_ := zq9 (Kd.R_below (by exact rz HO_7) hb); have n1_ := zq9 (Kd.R_below (by exact rz HO427) hb); have n2_ := zq9 (Kd.R_below (by exact rz HO437) hb); have n3_ := zq9 (zq30 (g := gb405) (o := .cells #[.string a1_0, .int .i64 a1_1] 99 (0, 0)) (by exact bk BK405) hb); have n4_ := zq9 (zq31 (by repeat (first | (with_reducible exact HR421.out) | (with_reducible refine zq18 ?_ _) | (with_reducible refine zq19 ?_ _) | (with_reducible refine zq20 ?_) | exact HR421.out)) hb); have n5_ := zq9 (zq31 (by repeat (first | (with_reducible exact HR434.out) | (with_reducible refine zq18 ?_ _) | (with_reducible refine zq19 ?_ _) | (with_reducible refine zq20 ?_) | exact HR434.out)) hb); have n6_ := zq9 (zq27 (by exact b1 HB GE405) hb); clear HO_7; clear HO427; clear HO437; clear BK405; clear HR421; clear HR434; clear HB; have HO_7 := n0_; have HO427 := n1_; have HO437 := n2_; have BK405 := n3_; have HR421 := n4_; have HR434 := n5_; have HB := n6_; clear n0_ n1_ n2_ n3_ n4_ n5_ n6_; (try clear hb); (try clear hb2); (try clear hk); (try clear hi)) | ((with_reducible refine zq25 (N := 47) rfl ?_); refine Kd.R_lit k99 _ 99 ?hg (N := 47) ?hd (xs := ([] : List (S99))) (inner := []) (ok := fun _ => True) (okp := fun _ => True) ?hr ?hp (fun _ hk => hk) trivial (Below.refl _ _) (Nat.le_refl _) (by simp) ?_; (case hd => rfl); (case hg => rfl); (case hr => first | (go_simp; done) | (go_simp; rfl)); (case hp => exact (Reps.none _ _)); intro v440 w63 ho64 hb hg_ hnew_; clear hg_ hnew_; (first | rw [← Ny439.out] at ho64 | (simp only [Int.reduceToNat] at ho64; rw [← Ny439.out] at ho64)); have n0_ := zq9 (Kd.R_elder' (by exact rz HO_7) (Kd.R_base ho64) hb); have n1_ := zq9 (Kd.R_elder' (by exact rz HO427) (Kd.R_base ho64) hb); have n2_ := zq9 (Kd.R_elder' (by exact rz HO437) (Kd.R_base ho64) hb); have n3_ := zq9 (Kd.R_lower (Kd.R_newB (Kd.R_new' (Kd.R_new' (Kd.R_new' ho64 (Kd.R_lt (by exact rz HO_7))) (Kd.R_lt (by exact rz HO427))) (Kd.R_lt (by exact rz HO437))) (g := gb405) (o := .cells #[.string a1_0, .int .i64 a1_1] 99 (0, 0)) (by exact bk BK405)) (zq29 (by exact b1 HB GE405))); have n4_ := zq9 (zq30 (g := gb405) (o := .cells #[.string a1_0, .int .i64 a1_1] 99 (0, 0)) (by exact bk BK405) hb); have n5_ := zq9 (zq31 (by repeat (first | (with_reducible exact HR421.out) | (with_reducible refine zq18 ?_ _) | (with_reducible refine zq19 ?_ _) | (with_reducible refine zq20 ?_) | exact HR421.out)) hb); have n6_ := zq9 (zq31 (by repeat (first | (with_reducible exact HR434.out) | (with_reducible refine zq18 ?_ _) | (with_reducible refine zq19 ?_ _) | (with_reducible refine zq20 ?_) | exact HR434.out)) hb); have n7_ := zq9 (zq27 (by exact b1 HB GE405) hb); clear HO_7; clear HO427; clear HO437; clear BK405; clear HR421; clear HR434; clear HB; have HO_7 := n0_; have HO427 := n1_; have HO437 := n2_; have HO441 := n3_; have BK405 := n4_; have HR421 := n5_; have HR434 := n6_; have HB := n7_; clear n0_ n1_ n2_ n3_ n4_ n5_ n6_ n7_; clear hb ho64) | ((with_reducible refine gate_builtin (b := .append) (xs := #[.tmp 47, .tmp 48]) rfl ?_); at_builtin; refine Kd.R_append_rows k99 (w0 := w) w.heap.size rfl (.tmp 47) (.tmp 48) 29 99 (.agg #[(.string ⟨#[]⟩), (.int .i64 0)]) 24 rfl Try.underlying29 info99 rfl (by decide) (by omega) v440 y439 l0 _ _ _ (fun k_ => some k_ ≠ (.slice Ao34 t410.length co34 : Value).ownBlock ∧ some k_ ≠ (.slice Ao43 y425.length co43 : Value).ownBlock ∧ some k_ ≠ (.slice Ao45 y435.length co45 : Value).ownBlock ∧ k_ ≠ gb405) (fun _ => False) rfl rfl ?aO ?aR (fun _ _ h => h) (fun _ h => h.elim) ?aF ?aB ?aS ?aL ?_; (case aR => exact kc HR0 HB); (case aB => exact (by exact b1 HB GE405)); (case aF => exact (fun k_ hk => ⟨Kd.fresh' (Kd.R_lt (by exact rz HO_7)) k_ hk, Kd.fresh' (Kd.R_lt (by exact rz HO427)) k_ hk, Kd.fresh' (Kd.R_lt (by exact rz HO437)) k_ hk, Kd.freshB (g := gb405) (o := .cells #[.string a1_0, .int .i64 a1_1] 99 (0, 0)) (by exact bk BK405) k_ hk⟩)); (case aO => exact (by (with_reducible repeat (first | apply zq10 | apply zq11 | apply zq12)); exact Kd.R_mono HO441.out (fun _ hk => ⟨hk.1.1.1.2, ⟨hk.1.1.2, ⟨hk.1.2, hk.2⟩⟩⟩))); (case aS => exact (zq29 (by exact b1 HB GE405))); (case aL => have := LMc47.out; omega); intro v443 w65 ho hb hg hat; rw [← Ny442.out] at ho; have n0_ := zq9 (Kd.R_after (ok := (fun k_ => some k_ ≠ (.slice Ao43 y425.length co43 : Value).ownBlock ∧ some k_ ≠ (.slice Ao45 y435.length co45 : Value).ownBlock ∧ k_ ≠ gb405)) (by (with_reducible repeat (first | apply zq10 | apply zq11 | apply zq12)); exact Kd.R_mono HO_7.out (fun _ hk => ⟨⟨hk.1.1.1, ⟨hk.1.2, hk.1.1.2⟩⟩, hk.2⟩)) hg hat); have n1_ := zq9 (blk_grown (g := gb405) (o := .cells #[.string a1_0, .int .i64 a1_1] 99 (0, 0)) (by exact bk BK405) hg (Kd.R_away HO441.out (fun _ hk => hk.2))); have n2_ := zq9 (Kd.R_after (ok := (fun k_ => some k_ ≠ (.slice Ao34 t410.length co34 : Value).ownBlock ∧ some k_ ≠ (.slice Ao45 y435.length co45 : Value).ownBlock ∧ k_ ≠ gb405)) (by (with_reducible repeat (first | apply zq10 | apply zq11 | apply zq12)); exact Kd.R_mono HO427.out (fun _ hk => ⟨⟨hk.1.1.1, ⟨hk.1.2, hk.1.1.2⟩⟩, hk.2⟩)) hg hat); have n3_ := zq9 (Kd.R_after (ok := (fun k_ => some k_ ≠ (.slice Ao34 t410.length co34 : Value).ownBlock ∧ some k_ ≠ (.slice Ao43 y425.length co43 : Value).ownBlock ∧ k_ ≠ gb405)) (by exact rz HO437) hg hat); have n4_ := zq9 (hb); have n5_ := zq9 ((show Kd.C k99 w65 Ao34 y418.length y418 from by rw [Ny418.out]; exact Kd.C_take (m := (x8_5 : Int).toNat) ((Kd.R_reads' (Kd.R_after (ok := (fun k_ => some k_ ≠ (.slice Ao43 y425.length co43 : Value).ownBlock ∧ some k_ ≠ (.slice Ao45 y435.length co45 : Value).ownBlock ∧ k_ ≠ gb405)) (by (with_reducible repeat (first | apply zq10 | apply zq11 | apply zq12)); exact Kd.R_mono HO_7.out (fun _ hk => ⟨⟨hk.1.1.1, ⟨hk.1.2, hk.1.1.2⟩⟩, hk.2⟩)) hg hat)).2.2) KL33.out)); have n6_ := zq9 ((show Kd.C k99 w65 A35 y431.length y431 from by rw [Ny431.out, KA35.out]; exact Kd.C_drop (m := (x8_5 : Int).toNat) (c := co34) ((Kd.R_reads' (Kd.R_after (ok := (fun k_ => some k_ ≠ (.slice Ao43 y425.length co43 : Value).ownBlock ∧ some k_ ≠ (.slice Ao45 y435.length co45 : Value).ownBlock ∧ k_ ≠ gb405)) (by (with_reducible repeat (first | apply zq10 | apply zq11 | apply zq12)); exact Kd.R_mono HO_7.out (fun _ hk => ⟨⟨hk.1.1.1, ⟨hk.1.2, hk.1.1.2⟩⟩, hk.2⟩)) hg hat)).2.2) KL35.out ((Kd.R_reads' (Kd.R_after (ok := (fun k_ => some k_ ≠ (.slice Ao43 y425.length co43 : Value).ownBlock ∧ some k_ ≠ (.slice Ao45 y435.length co45 : Value).ownBlock ∧ k_ ≠ gb405)) (by (with_reducible repeat (first | apply zq10 | apply zq11 | apply zq12)); exact Kd.R_mono HO_7.out (fun _ hk => ⟨⟨hk.1.1.1, ⟨hk.1.2, hk.1.1.2⟩⟩, hk.2⟩)) hg hat)).2.1))); have n7_ := zq9 (ho); clear HO_7; clear BK405; clear HO427; clear HO437; clear HB; clear HR421; clear HR434; clear HO441; have HO_7 := n0_; have BK405 := n1_; have HO427 := n2_; have HO437 := n3_; have HB := n4_; have HR421 := n5_; have HR434 := n6_; have HO444 := n7_; clear n0_ n1_ n2_ n3_ n4_ n5_ n6_ n7_; clear ho hb hg hat))
           go_ret3
           exact ⟨_, by first | rfl | (simp [errW_none, errW_some] <;> rfl) | (simp [*, errW_none, errW_some] <;> rfl), by (with_reducible repeat (first | apply zq10 | apply zq11 | apply zq12)); exact Kd.R_mono HO444.out (fun _ hk => trivial), by exact b1 HB GE405⟩
          ·rw [if_neg c47] at H
           exact absurd H (by simp)
        ·rw [if_neg c29] at H
         exact absurd H (by simp)
       ·rw [if_neg c26] at H
        exact absurd H (by simp)
      ·rw [if_neg c25] at H
       exact absurd H (by simp)
     ·rw [if_neg c24] at H
      exact absurd H (by simp)
    ·rw [if_neg c23] at H
     exact absurd H (by simp)
 ·replace c4 := Bool.eq_false_iff.mpr c4
  subst c4
  have H1 : (some ((([] : List (S99))), false, false)) = some (r1, r2, r3) := by rw [if_neg (show ¬ (false = true) by decide)] at H; exact H
  clear H
  have H := H1
  clear H1
  obtain ⟨y407, hy407⟩ : ∃ y_ : List (S99), y_ = (([] : List (S99))) := ⟨_, rfl⟩
  replace H : (some (y407, false, false)) = some (r1, r2, r3) := by first | (rw [hy407]; with_reducible exact H) | (have H2_ := (Option.bind_some _ _).symm.trans H; rw [hy407]; with_reducible exact H2_) | (have H2_ := (Option.bind_some _ _).symm.trans H; with_reducible exact H2_) | with_reducible exact H | (rw [hy407]; exact H) | exact H
  have Ny407 := zq9 hy407
  clear hy407
  simp only [Option.some.injEq, Prod.mk.injEq] at H
  obtain ⟨rfl, rfl, rfl⟩ := H
  go_enter Try.func120, Try.ntmps120
  go_wp2_with (first | ((with_reducible refine zq25 (N := 3) rfl ?_); refine bx 3 #[.string a1_0, .int .i64 a1_1] 99 ?_; intro gb405 hg w66 hbox hb; have n0_ := zq9 (zq27 (by exact bl HB) hb); have n1_ := zq9 (hbox); have n2_ := zq9 ((by rw [hg]; exact (zq29 (by exact bl HB)) : w.heap.size ≤ gb405)); have n3_ := n2_; clear HB; have HB := n0_; have BK405 := n1_; have GW405 := n2_; have GE405 := n3_; clear n0_ n1_ n2_ n3_; clear hb hbox hg) | ((with_reducible refine zq24 (f := 43) rfl ?_); refine gl (some 11) Try.func43 #[.slice A0 l0.length c0] ?_; (with_reducible refine (spec_ScoresOk.calls k _ _ l0 false _ ?side1 ?side2 A3.out).mono ?_); (case side1 => exact kc HR0 HB); (case side2 => exact HC0.out); rintro e w67 ⟨rfl, hb⟩; refine ⟨_, rfl, ?_⟩; have n0_ := zq9 (zq30 (g := gb405) (o := .cells #[.string a1_0, .int .i64 a1_1] 99 (0, 0)) (by exact bk BK405) hb); have n1_ := zq9 (zq27 (by exact b1 HB GE405) hb); clear BK405; clear HB; have BK405 := n0_; have HB := n1_; clear n0_ n1_; (try clear hb); (try clear hb2); (try clear hk); (try clear hi)) | ((with_reducible refine zq25 (N := 13) rfl ?_); refine Kd.R_lit k99 _ 99 ?hg (N := 13) ?hd (xs := ([] : List (S99))) (inner := []) (ok := fun _ => True) (okp := fun _ => True) ?hr ?hp (fun _ hk => hk) trivial (Below.refl _ _) (Nat.le_refl _) (by simp) ?_; (case hd => rfl); (case hg => rfl); (case hr => first | (go_simp; done) | (go_simp; rfl)); (case hp => exact (Reps.none _ _)); intro v408 w68 ho69 hb hg_ hnew_; clear hg_ hnew_; (first | rw [← Ny407.out] at ho69 | (simp only [Int.reduceToNat] at ho69; rw [← Ny407.out] at ho69)); have n0_ := zq9 (Kd.R_lower (Kd.R_newB ho69 (g := gb405) (o := .cells #[.string a1_0, .int .i64 a1_1] 99 (0, 0)) (by exact bk BK405)) (zq29 (by exact b1 HB GE405))); have n1_ := zq9 (zq30 (g := gb405) (o := .cells #[.string a1_0, .int .i64 a1_1] 99 (0, 0)) (by exact bk BK405) hb); have n2_ := zq9 (zq27 (by exact b1 HB GE405) hb); clear BK405; clear HB; have HO409 := n0_; have BK405 := n1_; have HB := n2_; clear n0_ n1_ n2_; clear hb ho69))
  go_ret3
  exact ⟨_, by first | rfl | (simp [errW_none, errW_some] <;> rfl) | (simp [*, errW_none, errW_some] <;> rfl), by (with_reducible repeat (first | apply zq10 | apply zq11 | apply zq12)); exact Kd.R_mono HO409.out (fun _ hk => trivial), by exact b1 HB GE405⟩
set_option maxHeartbeats 8000000 in
set_option maxRecDepth 100000 in
theorem spec_l11Scores.calls (k : Nat) (g : Nat) (s0_0 : List Int) (s0_1 : Int) (r1 : List (S99)) (r2 : Int) (w0 w : World) (hI : IsS118 w0 w g s0_0 s0_1) (hB : Below w0.heap.size w0 w) (h : spec_l11Scores.f k s0_0 s0_1 = some (r1, r2)) :
  Calls Try.prog 113 #[.pointer (some ⟨g, 0, none⟩)] w fun e w' => ∃ v0_ : Value, e = .returned (v0_) ∧ Kd.R k99 99 w' w.heap.size (fun _ => True) v0_ r1 ∧ IsS118 w0 w' g s0_0 r2 ∧ Below w0.heap.size w0 w' ∧ KeepBut w w' g none := by
 have hu99 := Try.underlying99
 have HI0 := zq9 hI
 have HK := zq9 (KeepBut.refl w g none)
 have HL := zq9 hB.size
 clear hI
 have HW0 := zq9 hB.size
 have HB := zq9 hB
 clear hB
 have H : ((spec_l1Rd_pick.f k s0_0 s0_1 7).bind fun bt448 => (spec_l11Scores.l0 k (([] : List (S99))) bt448.1 s0_0 bt448.2)) = some (r1, r2) := h
 clear h
 obtain ⟨y445, hy445⟩ : ∃ y_ : List (S99), y_ = (([] : List (S99))) := ⟨_, rfl⟩
 replace H : ((spec_l1Rd_pick.f k s0_0 s0_1 7).bind fun bt448 => (spec_l11Scores.l0 k y445 bt448.1 s0_0 bt448.2)) = some (r1, r2) := by first | (rw [hy445]; with_reducible exact H) | (have H2_ := (Option.bind_some _ _).symm.trans H; rw [hy445]; with_reducible exact H2_) | (have H2_ := (Option.bind_some _ _).symm.trans H; with_reducible exact H2_) | with_reducible exact H | (rw [hy445]; exact H) | exact H
 have Ny445 := zq9 hy445
 clear hy445
 replace H := Option.bind_eq_some_iff.mp H
 obtain ⟨⟨t448, t449⟩, A20, H⟩ := H
 try dsimp only at H
 have A2 := zq9 A20
 clear A20
 have H' := zq9 H
 clear H
 go_enter Try.func113, Try.ntmps113
 go_wp2_with (first | ((with_reducible refine zq25 (N := 6) rfl ?_); refine Kd.R_lit k99 _ 99 ?hg (N := 6) ?hd (xs := ([] : List (S99))) (inner := []) (ok := fun _ => True) (okp := fun _ => True) ?hr ?hp (fun _ hk => hk) trivial (Below.refl _ _) (Nat.le_refl _) (by simp) ?_; (case hd => rfl); (case hg => rfl); (case hr => first | (go_simp; done) | (go_simp; rfl)); (case hp => exact (Reps.none _ _)); intro v446 w3 ho4 hb hg_ hnew_; clear hg_ hnew_; (first | rw [← Ny445.out] at ho4 | (simp only [Int.reduceToNat] at ho4; rw [← Ny445.out] at ho4)); have n0_ := zq9 (Kd.R_lower ho4 (keep_size (w := w) (g := g) (row := none) (by exact kz HK))); have n1_ := zq9 (IsS118.below (by exact iz118 HI0) hb); have n2_ := zq9 (KeepBut.trans (by exact kz HK) (KeepBut.of_below hb g none) (.inl rfl)); have n3_ := zq9 (zq27 (by exact b1 HB (zq9 (IsS118.ge HI0.out))) hb); clear HI0; clear HK; clear HB; have HO447 := n0_; have HI0 := n1_; have HK := n2_; have HB := n3_; clear n0_ n1_ n2_ n3_; clear hb ho4) | ((with_reducible refine zq24 (f := 91) rfl ?_); refine gl (some 8) Try.func91 #[.pointer (some ⟨g, 0, none⟩), .int .i64 7] ?_; (with_reducible refine (spec_l1Rd_pick.calls k g s0_0 s0_1 7 t448 t449 w0 _ ?side1 ?side2 A2.out).mono ?_); (case side1 => exact iz118 HI0); (case side2 => exact b1 HB (zq9 (IsS118.ge HI0.out))); rintro e w5 ⟨rfl, hi, hb, hk⟩; refine ⟨_, rfl, ?_⟩; have n0_ := zq9 (Kd.R_mono (Kd.R_keep (IsS118.apart (show IsS118 w0 _ g s0_0 s0_1 from by exact iz118 HI0) (by exact rz HO447) (by decide)) hk (fun _ h => h.2)) (fun _ h => h.1)); have n1_ := zq9 (KeepBut.trans (by exact kz HK) hk (.inl rfl)); have n2_ := zq9 (hb); have n3_ := zq9 (hi); clear HO447; clear HK; clear HB; clear HI0; have HO447 := n0_; have HK := n1_; have HB := n2_; have HI0 := n3_; clear n0_ n1_ n2_ n3_; (try clear hb); (try clear hb2); (try clear hk); (try clear hi)))
 go_loopg [3, 4] k (fun kq v3 v4 w' => ∃ (x3_1 : List (S99)) (x4_1 : Int) (x1001_1 : Int), v4 = .int .i64 x4_1 ∧ Aside0 (spec_l11Scores.l0 kq x3_1 x4_1 s0_0 x1001_1 = some (r1, r2)) ∧ Aside0 (kq ≤ k) ∧ Aside0 (Kd.R k99 99 w' w.heap.size (fun _ => True) v3 x3_1) ∧ Aside0 (IsS118 w0 w' g s0_0 x1001_1) ∧ Aside0 (KeepBut w w' g none) ∧ Aside0 (Below w0.heap.size w0 w'))
 case atStart => exact ⟨(y445), (t448), (t449), (by first | rfl | (simp; done) | (simp [*]; done)), H', ⟨Nat.le_refl _⟩, ⟨by (with_reducible repeat (first | apply zq10 | apply zq11 | apply zq12)); exact HO447.out⟩, ⟨by exact iz118 HI0⟩, ⟨by exact kz HK⟩, ⟨by exact b1 HB (zq9 (IsS118.ge HI0.out))⟩⟩
 case round =>
  clear H'
  try clear c1
  try clear p2
  obtain ⟨x3_1, x4_1, x1001_1, rfl, HA, HK1, HO_3, HI0, HK, HB⟩ := hrel
  cases gk with
  | zero => exact absurd HA.out (by simp [spec_l11Scores.l0])
  | succ k1 =>
   have H := HA.out
   clear HA
   simp only [spec_l11Scores.l0] at H
   by_cases c6 : x4_1 > 0
   ·rw [if_pos c6] at H
    have c6b0 : decide (0 < x4_1) = true := decide_eq_true c6
    clear c6
    replace H := Option.bind_eq_some_iff.mp H
    obtain ⟨⟨t450, t451⟩, A70, H⟩ := H
    try dsimp only at H
    have A7 := zq9 A70
    clear A70
    obtain ⟨y452, hy452⟩ : ∃ y_ : List Int, y_ = (([0, 1, 1, 2, (-5), 7, 1000000000] : List Int)) := ⟨_, rfl⟩
    replace H : ((spec_l1Rd_one.f k1 s0_0 t451 y452).bind fun bt455 => ((spec_ScoresPut.f k1 x3_1 t450 bt455.1).bind fun bt457 => (spec_l11Scores.l0 k1 bt457.1 (wrap64 (x4_1 - 1)) s0_0 bt455.2))) = some (r1, r2) := by first | (rw [hy452]; with_reducible exact H) | (have H2_ := (Option.bind_some _ _).symm.trans H; rw [hy452]; with_reducible exact H2_) | (have H2_ := (Option.bind_some _ _).symm.trans H; with_reducible exact H2_) | with_reducible exact H | (rw [hy452]; exact H) | exact H
    have Ny452 := zq9 hy452
    clear hy452
    replace H := Option.bind_eq_some_iff.mp H
    obtain ⟨⟨t455, t456⟩, A80, H⟩ := H
    try dsimp only at H
    have A8 := zq9 A80
    clear A80
    replace H := Option.bind_eq_some_iff.mp H
    obtain ⟨⟨t457, t460, t461⟩, A90, H⟩ := H
    try dsimp only at H
    have A9 := zq9 A90
    clear A90
    have H' := zq9 H
    clear H
    go_wp2_with (first | ((with_reducible refine zq24 (f := 93) rfl ?_); refine gl (some 16) Try.func93 #[.pointer (some ⟨g, 0, none⟩)] ?_; (with_reducible refine (spec_l11Text.calls k1 g s0_0 x1001_1 t450 t451 w0 _ ?side1 ?side2 A7.out).mono ?_); (case side1 => exact iz118 HI0); (case side2 => exact b1 HB (zq9 (IsS118.ge HI0.out))); rintro e w10 ⟨rfl, hi, hb, hk⟩; refine ⟨_, rfl, ?_⟩; have n0_ := zq9 (Kd.R_mono (Kd.R_keep (IsS118.apart (show IsS118 w0 _ g s0_0 x1001_1 from by exact iz118 HI0) (by exact rz HO_3) (by decide)) hk (fun _ h => h.2)) (fun _ h => h.1)); have n1_ := zq9 (KeepBut.trans (by exact kz HK) hk (.inl rfl)); have n2_ := zq9 (hb); have n3_ := zq9 (hi); clear HO_3; clear HK; clear HB; clear HI0; have HO_3 := n0_; have HK := n1_; have HB := n2_; have HI0 := n3_; clear n0_ n1_ n2_ n3_; (try clear hb); (try clear hb2); (try clear hk); (try clear hi)) | ((with_reducible refine zq25 (N := 18) rfl ?_); refine Kd.R_lit (Kd.int .i64) _ 3 ?hg (N := 18) ?hd (xs := ([0, 1, 1, 2, (-5), 7, 1000000000] : List Int)) (inner := [.int .i64 0, .int .i64 1, .int .i64 1, .int .i64 2, .int .i64 (-5), .int .i64 7, .int .i64 1000000000]) (ok := fun _ => True) (okp := fun _ => True) ?hr ?hp (fun _ hk => hk) trivial (Below.refl _ _) (Nat.le_refl _) (by simp) ?_; (case hd => rfl); (case hg => rfl); (case hr => first | (go_simp; done) | (go_simp; rfl)); (case hp => exact (Reps.one (show Kd.M (Kd.int .i64) _ _ _ 0 [.int .i64 0] from rfl) (Reps.one (show Kd.M (Kd.int .i64) _ _ _ 1 [.int .i64 1] from rfl) (Reps.one (show Kd.M (Kd.int .i64) _ _ _ 1 [.int .i64 1] from rfl) (Reps.one (show Kd.M (Kd.int .i64) _ _ _ 2 [.int .i64 2] from rfl) (Reps.one (show Kd.M (Kd.int .i64) _ _ _ (-5) [.int .i64 (-5)] from rfl) (Reps.one (show Kd.M (Kd.int .i64) _ _ _ 7 [.int .i64 7] from rfl) (Reps.one (show Kd.M (Kd.int .i64) _ _ _ 1000000000 [.int .i64 1000000000] from rfl) (Reps.none _ _))))))))); intro v453 w11 ho12 hb hg_ hnew_; clear hg_ hnew_; (first | rw [← Ny452.out] at ho12 | (simp only [Int.reduceToNat] at ho12; rw [← Ny452.out] at ho12)); have n0_ := zq9 (Kd.R_below (by exact rz HO_3) hb); have n1_ := zq9 (Kd.R_lower ho12 (keep_size (w := w) (g := g) (row := none) (by exact kz HK))); have n2_ := zq9 (IsS118.below (by exact iz118 HI0) hb); have n3_ := zq9 (KeepBut.trans (by exact kz HK) (KeepBut.of_below hb g none) (.inl rfl)); have n4_ := zq9 (zq27 (by exact b1 HB (zq9 (IsS118.ge HI0.out))) hb); clear HO_3; clear HI0; clear HK; clear HB; have HO_3 := n0_; have HO454 := n1_; have HI0 := n2_; have HK := n3_; have HB := n4_; clear n0_ n1_ n2_ n3_ n4_; clear hb ho12; obtain ⟨Ao13, co13, eo13⟩ := Kd.R_slice HO454.out; subst eo13) | ((with_reducible refine zq24 (f := 92) rfl ?_); refine gl (some 19) Try.func92 #[.pointer (some ⟨g, 0, none⟩), .slice Ao13 y452.length co13] ?_; (with_reducible refine (spec_l1Rd_one.calls k1 g s0_0 t451 _ _ y452 t455 t456 w0 _ ?side1 ?side2 ?side3 ?side4 ?side5 A8.out).mono ?_); (case side1 => exact iz118 HI0); (case side2 => exact b1 HB (zq9 (IsS118.ge HI0.out))); (case side3 => repeat (first | exact (Kd.R_reads' HO454.out).2.2 | (with_reducible refine zq18 ?_ _) | (with_reducible refine zq19 ?_ _) | (with_reducible refine zq20 ?_))); (case side4 => exact (Kd.R_reads' HO454.out).2.1); (case side5 => exact far_slice (IsS118.own_ne HI0.out HO454.out (by decide))); rintro e w14 ⟨rfl, hi, hb, hk⟩; refine ⟨_, rfl, ?_⟩; have n0_ := zq9 (Kd.R_mono (Kd.R_keep (IsS118.apart (show IsS118 w0 _ g s0_0 t451 from by exact iz118 HI0) (by exact rz HO_3) (by decide)) hk (fun _ h => h.2)) (fun _ h => h.1)); have n1_ := zq9 (Kd.R_mono (Kd.R_keep (IsS118.apart (show IsS118 w0 _ g s0_0 t451 from by exact iz118 HI0) (by exact rz HO454) (by decide)) hk (fun _ h => h.2)) (fun _ h => h.1)); have n2_ := zq9 (KeepBut.trans (by exact kz HK) hk (.inl rfl)); have n3_ := zq9 (hb); have n4_ := zq9 (hi); clear HO_3; clear HO454; clear HK; clear HB; clear HI0; have HO_3 := n0_; have HO454 := n1_; have HK := n2_; have HB := n3_; have HI0 := n4_; clear n0_ n1_ n2_ n3_ n4_; (try clear hb); (try clear hb2); (try clear hk); (try clear hi); obtain ⟨Ao15, co15, eo15⟩ := Kd.R_slice HO_3.out; subst eo15) | ((with_reducible refine zq24 (f := 120) rfl ?_); refine gl (some 21) Try.func120 #[.slice Ao15 x3_1.length co15, .agg #[.string t450, .int .i64 t455]] ?_; (with_reducible refine (spec_ScoresPut.calls k1 _ _ x3_1 t450 t455 t457 t460 t461 _ ?side1 ?side2 A9.out).mono ?_); (case side1 => repeat (first | exact (Kd.R_reads' HO_3.out).2.2 | (with_reducible refine zq18 ?_ _) | (with_reducible refine zq19 ?_ _) | (with_reducible refine zq20 ?_))); (case side2 => exact (Kd.R_reads' HO_3.out).2.1); rintro e w16 ⟨v458, rfl, ho0, hb⟩; refine ⟨_, rfl, ?_⟩; have n0_ := zq9 (Kd.R_elder' (by exact rz HO_3) (Kd.R_base ho0) hb); have n1_ := zq9 (Kd.R_below (by exact rz HO454) hb); have n2_ := zq9 (Kd.R_lower (Kd.R_new' ho0 (Kd.R_lt (by exact rz HO_3))) (keep_size (w := w) (g := g) (row := none) (by exact kz HK))); have n3_ := zq9 (IsS118.below (by exact iz118 HI0) hb); have n4_ := zq9 (KeepBut.trans (by exact kz HK) (KeepBut.of_below hb g none) (.inl rfl)); have n5_ := zq9 (zq27 (by exact b1 HB (zq9 (IsS118.ge HI0.out))) hb); clear HO_3; clear HO454; clear HI0; clear HK; clear HB; have HO_3 := n0_; have HO454 := n1_; have HO459 := n2_; have HI0 := n3_; have HK := n4_; have HB := n5_; clear n0_ n1_ n2_ n3_ n4_ n5_; (try clear hb); (try clear hb2); (try clear hk); (try clear hi); (try clear ho0)))
    go_roundg k1
    case measure => have := HK1.out; omega
    case rel => exact ⟨(t457), (wrap64 (x4_1 - 1)), (t456), (by first | rfl | (simp; done) | (simp [*]; done)), H', ⟨by have := HK1.out; omega⟩, ⟨by (with_reducible repeat (first | apply zq10 | apply zq11 | apply zq12)); exact Kd.R_mono HO459.out (fun _ hk => trivial)⟩, ⟨by exact iz118 HI0⟩, ⟨by exact kz HK⟩, ⟨by exact b1 HB (zq9 (IsS118.ge HI0.out))⟩⟩
   ·rw [if_neg c6] at H
    have c6b0 : decide (0 < x4_1) = false := decide_eq_false c6
    clear c6
    replace H := Option.bind_eq_some_iff.mp H
    obtain ⟨⟨t462, t463⟩, A170, H⟩ := H
    try dsimp only at H
    have A17 := zq9 A170
    clear A170
    by_cases c18 : t462 = 0
    ·rw [if_pos c18] at H
     have c18b0 : (t462 == 0) = true := beq_iff_eq.mpr c18
     have c18b1 : (t462 != 0) = false := bne_eq_false_iff_eq.mpr c18
     clear c18
     have H' := zq9 H
     clear H
     go_wp2_with (first | ((with_reducible refine zq24 (f := 91) rfl ?_); refine gl (some 26) Try.func91 #[.pointer (some ⟨g, 0, none⟩), .int .i64 30] ?_; (with_reducible refine (spec_l1Rd_pick.calls k1 g s0_0 x1001_1 30 t462 t463 w0 _ ?side1 ?side2 A17.out).mono ?_); (case side1 => exact iz118 HI0); (case side2 => exact b1 HB (zq9 (IsS118.ge HI0.out))); rintro e w19 ⟨rfl, hi, hb, hk⟩; refine ⟨_, rfl, ?_⟩; have n0_ := zq9 (Kd.R_mono (Kd.R_keep (IsS118.apart (show IsS118 w0 _ g s0_0 x1001_1 from by exact iz118 HI0) (by exact rz HO_3) (by decide)) hk (fun _ h => h.2)) (fun _ h => h.1)); have n1_ := zq9 (KeepBut.trans (by exact kz HK) hk (.inl rfl)); have n2_ := zq9 (hb); have n3_ := zq9 (hi); clear HO_3; clear HK; clear HB; clear HI0; have HO_3 := n0_; have HK := n1_; have HB := n2_; have HI0 := n3_; clear n0_ n1_ n2_ n3_; (try clear hb); (try clear hb2); (try clear hk); (try clear hi)))
     go_loopg [3, 5] k1 (fun kq v3 v5 w' => ∃ (x3_2 : List (S99)) (x5_2 : Int), v5 = .int .i64 x5_2 ∧ Aside0 (spec_l11Scores.l1 kq x3_2 x5_2 s0_0 t463 = some (r1, r2)) ∧ Aside0 (kq ≤ k1) ∧ Aside0 (Kd.R k99 99 w' w.heap.size (fun _ => True) v3 x3_2) ∧ Aside0 (IsS118 w0 w' g s0_0 t463) ∧ Aside0 (KeepBut w w' g none) ∧ Aside0 (Below w0.heap.size w0 w'))
     case atStart => exact ⟨(x3_1), (0), (by first | rfl | (simp; done) | (simp [*]; done)), H', ⟨Nat.le_refl _⟩, ⟨by (with_reducible repeat (first | apply zq10 | apply zq11 | apply zq12)); exact HO_3.out⟩, ⟨by exact iz118 HI0⟩, ⟨by exact kz HK⟩, ⟨by exact b1 HB (zq9 (IsS118.ge HI0.out))⟩⟩
     case round =>
      clear H'
      try clear c1
      try clear p2
      try clear c6
      try clear c6b0
      try clear p6
      try clear c9
      try clear c11
      try clear c12
      try clear c18
      try clear c18b0
      try clear c18b1
      try clear p2
      obtain ⟨x3_2, x5_2, rfl, HA, HK2, HO_3, HI0, HK, HB⟩ := hrel
      cases gk with
      | zero => exact absurd HA.out (by simp [spec_l11Scores.l1])
      | succ k2 =>
       have H := HA.out
       clear HA
       simp only [spec_l11Scores.l1] at H
       by_cases c20 : (x3_2.length : Int) < 16
       ·rw [if_pos c20] at H
        have c20b0 : decide ((x3_2.length : Int) < 16) = true := decide_eq_true c20
        have c20b1 : decide (x3_2.length < 16) = true := decide_eq_true (by omega)
        clear c20
        replace H := Option.bind_eq_some_iff.mp H
        obtain ⟨t464, A210, H⟩ := H
        try dsimp only at H
        have A21 := zq9 A210
        clear A210
        by_cases c22 : 1 + t464.size ≤ 9223372036854775807
        ·rw [if_pos c22] at H
         have c22b0 := eq_true c22
         have c22b1 : decide (1 + t464.size ≤ 9223372036854775807) = true := decide_eq_true c22
         try have c22b2 : (9223372036854775807 < 1 + t464.size) = False := eq_false (Nat.not_lt.2 c22)
         replace H := Option.bind_eq_some_iff.mp H
         obtain ⟨⟨t465, t468, t469⟩, A230, H⟩ := H
         try dsimp only at H
         have A23 := zq9 A230
         clear A230
         have H' := zq9 H
         clear H
         obtain ⟨Ao24, co24, eo24⟩ := Kd.R_slice HO_3.out
         subst eo24
         go_wp2_with (first | ((with_reducible refine zq24 (f := 111) rfl ?_); refine gl (some 36) Try.func111 #[.int .i64 x5_2] ?_; (with_reducible refine (spec_l1Dec.calls k2 x5_2 t464 _ A21.out).mono ?_); rintro e w25 ⟨rfl, hb⟩; refine ⟨_, rfl, ?_⟩; have n0_ := zq9 (Kd.R_below (by exact rz HO_3) hb); have n1_ := zq9 (IsS118.below (by exact iz118 HI0) hb); have n2_ := zq9 (KeepBut.trans (by exact kz HK) (KeepBut.of_below hb g none) (.inl rfl)); have n3_ := zq9 (zq27 (by exact b1 HB (zq9 (IsS118.ge HI0.out))) hb); clear HO_3; clear HI0; clear HK; clear HB; have HO_3 := n0_; have HI0 := n1_; have HK := n2_; have HB := n3_; clear n0_ n1_ n2_ n3_; (try clear hb); (try clear hb2); (try clear hk); (try clear hi)) | ((with_reducible refine zq24 (f := 120) rfl ?_); refine gl (some 41) Try.func120 #[.slice Ao24 x3_2.length co24, .agg #[.string ((⟨#[110]⟩ : ByteArray) ++ t464), .int .i64 (Int.tmod x5_2 3)]] ?_; (with_reducible refine (spec_ScoresPut.calls k2 _ _ x3_2 ((⟨#[110]⟩ : ByteArray) ++ t464) (Int.tmod x5_2 3) t465 t468 t469 _ ?side1 ?side2 A23.out).mono ?_); (case side1 => repeat (first | exact (Kd.R_reads' HO_3.out).2.2 | (with_reducible refine zq18 ?_ _) | (with_reducible refine zq19 ?_ _) | (with_reducible refine zq20 ?_))); (case side2 => exact (Kd.R_reads' HO_3.out).2.1); rintro e w26 ⟨v466, rfl, ho0, hb⟩; refine ⟨_, rfl, ?_⟩; have n0_ := zq9 (Kd.R_elder' (by exact rz HO_3) (Kd.R_base ho0) hb); have n1_ := zq9 (Kd.R_lower (Kd.R_new' ho0 (Kd.R_lt (by exact rz HO_3))) (keep_size (w := w) (g := g) (row := none) (by exact kz HK))); have n2_ := zq9 (IsS118.below (by exact iz118 HI0) hb); have n3_ := zq9 (KeepBut.trans (by exact kz HK) (KeepBut.of_below hb g none) (.inl rfl)); have n4_ := zq9 (zq27 (by exact b1 HB (zq9 (IsS118.ge HI0.out))) hb); clear HO_3; clear HI0; clear HK; clear HB; have HO_3 := n0_; have HO467 := n1_; have HI0 := n2_; have HK := n3_; have HB := n4_; clear n0_ n1_ n2_ n3_ n4_; (try clear hb); (try clear hb2); (try clear hk); (try clear hi); (try clear ho0)))
         go_roundg k2
         case measure => have := HK1.out; have := HK2.out; omega
         case rel => exact ⟨(t465), (wrap64 (x5_2 + 1)), (by first | rfl | (simp; done) | (simp [*]; done)), H', ⟨by have := HK1.out; have := HK2.out; omega⟩, ⟨by (with_reducible repeat (first | apply zq10 | apply zq11 | apply zq12)); exact Kd.R_mono HO467.out (fun _ hk => trivial)⟩, ⟨by exact iz118 HI0⟩, ⟨by exact kz HK⟩, ⟨by exact b1 HB (zq9 (IsS118.ge HI0.out))⟩⟩
        ·rw [if_neg c22] at H
         exact absurd H (by simp)
       ·rw [if_neg c20] at H
        have c20b0 : decide ((x3_2.length : Int) < 16) = false := decide_eq_false c20
        have c20b1 : decide (x3_2.length < 16) = false := decide_eq_false (by omega)
        clear c20
        simp only [Option.some.injEq, Prod.mk.injEq] at H
        obtain ⟨rfl, rfl⟩ := H
        obtain ⟨Ao27, co27, eo27⟩ := Kd.R_slice HO_3.out
        subst eo27
        go_wp2
        go_ret
        exact ⟨_, by first | rfl | (simp [errW_none, errW_some] <;> rfl) | (simp [*, errW_none, errW_some] <;> rfl), by (with_reducible repeat (first | apply zq10 | apply zq11 | apply zq12)); exact HO_3.out, by exact iz118 HI0, by exact b1 HB (zq9 (IsS118.ge HI0.out)), by exact kz HK⟩
    ·rw [if_neg c18] at H
     have c18b0 : (t462 == 0) = false := beq_eq_false_iff_ne.mpr c18
     have c18b1 : (t462 != 0) = true := bne_iff_ne.mpr c18
     simp only [Option.some.injEq, Prod.mk.injEq] at H
     obtain ⟨rfl, rfl⟩ := H
     go_wp2_with (first | ((with_reducible refine zq24 (f := 91) rfl ?_); refine gl (some 26) Try.func91 #[.pointer (some ⟨g, 0, none⟩), .int .i64 30] ?_; (with_reducible refine (spec_l1Rd_pick.calls k1 g s0_0 x1001_1 30 t462 t463 w0 _ ?side1 ?side2 A17.out).mono ?_); (case side1 => exact iz118 HI0); (case side2 => exact b1 HB (zq9 (IsS118.ge HI0.out))); rintro e w28 ⟨rfl, hi, hb, hk⟩; refine ⟨_, rfl, ?_⟩; have n0_ := zq9 (Kd.R_mono (Kd.R_keep (IsS118.apart (show IsS118 w0 _ g s0_0 x1001_1 from by exact iz118 HI0) (by exact rz HO_3) (by decide)) hk (fun _ h => h.2)) (fun _ h => h.1)); have n1_ := zq9 (KeepBut.trans (by exact kz HK) hk (.inl rfl)); have n2_ := zq9 (hb); have n3_ := zq9 (hi); clear HO_3; clear HK; clear HB; clear HI0; have HO_3 := n0_; have HK := n1_; have HB := n2_; have HI0 := n3_; clear n0_ n1_ n2_ n3_; (try clear hb); (try clear hb2); (try clear hk); (try clear hi)))
     go_ret
     exact ⟨_, by first | rfl | (simp [errW_none, errW_some] <;> rfl) | (simp [*, errW_none, errW_some] <;> rfl), by (with_reducible repeat (first | apply zq10 | apply zq11 | apply zq12)); exact HO_3.out, by exact iz118 HI0, by exact b1 HB (zq9 (IsS118.ge HI0.out)), by exact kz HK⟩
set_option maxHeartbeats 8000000 in
set_option maxRecDepth 100000 in
theorem spec_l11AnyScores.calls (k : Nat) (g : Nat) (s0_0 : List Int) (s0_1 : Int) (r1 : List (S99)) (r2 : Int) (w0 w : World) (hI : IsS118 w0 w g s0_0 s0_1) (hB : Below w0.heap.size w0 w) (h : spec_l11AnyScores.f k s0_0 s0_1 = some (r1, r2)) :
    Calls Try.prog 96 #[.pointer (some ⟨g, 0, none⟩)] w fun e w' => ∃ v0_ : Value, e = .returned (v0_) ∧ Kd.R k99 99 w' w.heap.size (fun _ => True) v0_ r1 ∧ IsS118 w0 w' g s0_0 r2 ∧ Below w0.heap.size w0 w' ∧ KeepBut w w' g none := by
  have hu99 := Try.underlying99
  have HI0 := zq9 hI
  have HK := zq9 (KeepBut.refl w g none)
  have HL := zq9 hB.size
  clear hI
  have HW0 := zq9 hB.size
  have HB := zq9 hB
  clear hB
  have H : ((spec_l11Scores.f k s0_0 s0_1).bind fun bt470 => ((spec_l1Rd_pick.f k s0_0 bt470.2 10).bind fun bt474 => (if bt474.1 = 0 then ((spec_l11Text.f k s0_0 bt474.2).bind fun bt476 => ((spec_l1Rd_one.f k s0_0 bt476.2 (([0, 1000000001] : List Int))).bind fun bt481 => (if bt470.1.length < 5864062014805 then (some ((bt470.1 ++ [(⟨bt476.1, bt481.1⟩ : S99)]), bt481.2)) else (none)))) else (some (bt470.1, bt474.2))))) = some (r1, r2) := h
  clear h
  replace H := Option.bind_eq_some_iff.mp H
  obtain ⟨⟨t470, t473⟩, A20, H⟩ := H
  try dsimp only at H
  have A2 := zq9 A20
  clear A20
  replace H := Option.bind_eq_some_iff.mp H
  obtain ⟨⟨t474, t475⟩, A30, H⟩ := H
  try dsimp only at H
  have A3 := zq9 A30
  clear A30
  go_enter Try.func96, Try.ntmps96
  by_cases c4 : t474 = 0
  · rw [if_pos c4] at H
    have c4b0 : (t474 == 0) = true := beq_iff_eq.mpr c4
    have c4b1 : (t474 != 0) = false := bne_eq_false_iff_eq.mpr c4
    clear c4
    replace H := Option.bind_eq_some_iff.mp H
    obtain ⟨⟨t476, t477⟩, A50, H⟩ := H
    try dsimp only at H
    have A5 := zq9 A50
    clear A50
    obtain ⟨y478, hy478⟩ : ∃ y_ : List Int, y_ = (([0, 1000000001] : List Int)) := ⟨_, rfl⟩
    replace H : ((spec_l1Rd_one.f k s0_0 t477 y478).bind fun bt481 => (if t470.length < 5864062014805 then (some ((t470 ++ [(⟨t476, bt481.1⟩ : S99)]), bt481.2)) else (none))) = some (r1, r2) := by first | (rw [hy478]; with_reducible exact H) | (have H2_ := (Option.bind_some _ _).symm.trans H; rw [hy478]; with_reducible exact H2_) | (have H2_ := (Option.bind_some _ _).symm.trans H; with_reducible exact H2_) | with_reducible exact H | (rw [hy478]; exact H) | exact H
    have Ny478 := zq9 hy478
    clear hy478
    replace H := Option.bind_eq_some_iff.mp H
    obtain ⟨⟨t481, t482⟩, A60, H⟩ := H
    try dsimp only at H
    have A6 := zq9 A60
    clear A60
    by_cases c7 : t470.length < 5864062014805
    · rw [if_pos c7] at H
      have LMc7 := zq9 c7
      clear c7
      obtain ⟨y483, hy483⟩ : ∃ y_ : List (S99), y_ = (t470 ++ [(⟨t476, t481⟩ : S99)]) := ⟨_, rfl⟩
      replace H : (some (y483, t482)) = some (r1, r2) := by first | (rw [hy483]; with_reducible exact H) | (have H2_ := (Option.bind_some _ _).symm.trans H; rw [hy483]; with_reducible exact H2_) | (have H2_ := (Option.bind_some _ _).symm.trans H; with_reducible exact H2_) | with_reducible exact H | (rw [hy483]; exact H) | exact H
      have Ny483 := zq9 hy483
      clear hy483
      simp only [Option.some.injEq, Prod.mk.injEq] at H
      obtain ⟨rfl, rfl⟩ := H
      go_wp2_with (first | ((with_reducible refine zq24 (f := 113) rfl ?_); refine gl (some 5) Try.func113 #[.pointer (some ⟨g, 0, none⟩)] ?_; (with_reducible refine (spec_l11Scores.calls k g s0_0 s0_1 t470 t473 w0 _ ?side1 ?side2 A2.out).mono ?_); (case side1 => exact iz118 HI0); (case side2 => exact b1 HB (zq9 (IsS118.ge HI0.out))); rintro e w8 ⟨v471, rfl, ho0, hi, hb, hk⟩; refine ⟨_, rfl, ?_⟩; have n0_ := zq9 (Kd.R_lower ho0 (keep_size (w := w) (g := g) (row := none) (by exact kz HK))); have n1_ := zq9 (KeepBut.trans (by exact kz HK) hk (.inl rfl)); have n2_ := zq9 (hb); have n3_ := zq9 (hi); clear HK; clear HB; clear HI0; have HO472 := n0_; have HK := n1_; have HB := n2_; have HI0 := n3_; clear n0_ n1_ n2_ n3_; (try clear hb); (try clear hb2); (try clear hk); (try clear hi); (try clear ho0)) | ((with_reducible refine zq24 (f := 91) rfl ?_); refine gl (some 7) Try.func91 #[.pointer (some ⟨g, 0, none⟩), .int .i64 10] ?_; (with_reducible refine (spec_l1Rd_pick.calls k g s0_0 t473 10 t474 t475 w0 _ ?side1 ?side2 A3.out).mono ?_); (case side1 => exact iz118 HI0); (case side2 => exact b1 HB (zq9 (IsS118.ge HI0.out))); rintro e w9 ⟨rfl, hi, hb, hk⟩; refine ⟨_, rfl, ?_⟩; have n0_ := zq9 (Kd.R_mono (Kd.R_keep (IsS118.apart (show IsS118 w0 _ g s0_0 t473 from by exact iz118 HI0) (by exact rz HO472) (by decide)) hk (fun _ h => h.2)) (fun _ h => h.1)); have n1_ := zq9 (KeepBut.trans (by exact kz HK) hk (.inl rfl)); have n2_ := zq9 (hb); have n3_ := zq9 (hi); clear HO472; clear HK; clear HB; clear HI0; have HO472 := n0_; have HK := n1_; have HB := n2_; have HI0 := n3_; clear n0_ n1_ n2_ n3_; (try clear hb); (try clear hb2); (try clear hk); (try clear hi)) | ((with_reducible refine zq24 (f := 93) rfl ?_); refine gl (some 11) Try.func93 #[.pointer (some ⟨g, 0, none⟩)] ?_; (with_reducible refine (spec_l11Text.calls k g s0_0 t475 t476 t477 w0 _ ?side1 ?side2 A5.out).mono ?_); (case side1 => exact iz118 HI0); (case side2 => exact b1 HB (zq9 (IsS118.ge HI0.out))); rintro e w10 ⟨rfl, hi, hb, hk⟩; refine ⟨_, rfl, ?_⟩; have n0_ := zq9 (Kd.R_mono (Kd.R_keep (IsS118.apart (show IsS118 w0 _ g s0_0 t475 from by exact iz118 HI0) (by exact rz HO472) (by decide)) hk (fun _ h => h.2)) (fun _ h => h.1)); have n1_ := zq9 (KeepBut.trans (by exact kz HK) hk (.inl rfl)); have n2_ := zq9 (hb); have n3_ := zq9 (hi); clear HO472; clear HK; clear HB; clear HI0; have HO472 := n0_; have HK := n1_; have HB := n2_; have HI0 := n3_; clear n0_ n1_ n2_ n3_; (try clear hb); (try clear hb2); (try clear hk); (try clear hi)) | ((with_reducible refine zq25 (N := 13) rfl ?_); refine Kd.R_lit (Kd.int .i64) _ 3 ?hg (N := 13) ?hd (xs := ([0, 1000000001] : List Int)) (inner := [.int .i64 0, .int .i64 1000000001]) (ok := fun _ => True) (okp := fun _ => True) ?hr ?hp (fun _ hk => hk) trivial (Below.refl _ _) (Nat.le_refl _) (by simp) ?_; (case hd => rfl); (case hg => rfl); (case hr => first | (go_simp; done) | (go_simp; rfl)); (case hp => exact (Reps.one (show Kd.M (Kd.int .i64) _ _ _ 0 [.int .i64 0] from rfl) (Reps.one (show Kd.M (Kd.int .i64) _ _ _ 1000000001 [.int .i64 1000000001] from rfl) (Reps.none _ _)))); intro v479 w11 ho12 hb hg_ hnew_; clear hg_ hnew_; (first | rw [← Ny478.out] at ho12 | (simp only [Int.reduceToNat] at ho12; rw [← Ny478.out] at ho12)); have n0_ := zq9 (Kd.R_below (by exact rz HO472) hb); have n1_ := zq9 (Kd.R_lower ho12 (keep_size (w := w) (g := g) (row := none) (by exact kz HK))); have n2_ := zq9 (IsS118.below (by exact iz118 HI0) hb); have n3_ := zq9 (KeepBut.trans (by exact kz HK) (KeepBut.of_below hb g none) (.inl rfl)); have n4_ := zq9 (zq27 (by exact b1 HB (zq9 (IsS118.ge HI0.out))) hb); clear HO472; clear HI0; clear HK; clear HB; have HO472 := n0_; have HO480 := n1_; have HI0 := n2_; have HK := n3_; have HB := n4_; clear n0_ n1_ n2_ n3_ n4_; clear hb ho12; obtain ⟨Ao13, co13, eo13⟩ := Kd.R_slice HO480.out; subst eo13) | ((with_reducible refine zq24 (f := 92) rfl ?_); refine gl (some 14) Try.func92 #[.pointer (some ⟨g, 0, none⟩), .slice Ao13 y478.length co13] ?_; (with_reducible refine (spec_l1Rd_one.calls k g s0_0 t477 _ _ y478 t481 t482 w0 _ ?side1 ?side2 ?side3 ?side4 ?side5 A6.out).mono ?_); (case side1 => exact iz118 HI0); (case side2 => exact b1 HB (zq9 (IsS118.ge HI0.out))); (case side3 => repeat (first | exact (Kd.R_reads' HO480.out).2.2 | (with_reducible refine zq18 ?_ _) | (with_reducible refine zq19 ?_ _) | (with_reducible refine zq20 ?_))); (case side4 => exact (Kd.R_reads' HO480.out).2.1); (case side5 => exact far_slice (IsS118.own_ne HI0.out HO480.out (by decide))); rintro e w14 ⟨rfl, hi, hb, hk⟩; refine ⟨_, rfl, ?_⟩; have n0_ := zq9 (Kd.R_mono (Kd.R_keep (IsS118.apart (show IsS118 w0 _ g s0_0 t477 from by exact iz118 HI0) (by exact rz HO472) (by decide)) hk (fun _ h => h.2)) (fun _ h => h.1)); have n1_ := zq9 (Kd.R_mono (Kd.R_keep (IsS118.apart (show IsS118 w0 _ g s0_0 t477 from by exact iz118 HI0) (by exact rz HO480) (by decide)) hk (fun _ h => h.2)) (fun _ h => h.1)); have n2_ := zq9 (KeepBut.trans (by exact kz HK) hk (.inl rfl)); have n3_ := zq9 (hb); have n4_ := zq9 (hi); clear HO472; clear HO480; clear HK; clear HB; clear HI0; have HO472 := n0_; have HO480 := n1_; have HK := n2_; have HB := n3_; have HI0 := n4_; clear n0_ n1_ n2_ n3_ n4_; (try clear hb); (try clear hb2); (try clear hk); (try clear hi)) | ((with_reducible refine gate_builtin (b := .append) (xs := #[.tmp 9, .tmp 16]) rfl ?_); at_builtin; refine Kd.R_append k99 w.heap.size rfl (.tmp 9) (.tmp 16) 29 99 (.agg #[(.string ⟨#[]⟩), (.int .i64 0)]) 24 rfl Try.underlying29 info99 rfl (by decide) (by omega) v471 t470 (⟨t476, t481⟩ : S99) [.string t476, .int .i64 t481] (fun _ => True) (fun _ => False) rfl rfl ?aP (fun _ hk => hk.elim) ?aF ?aO (Below.refl _ _) ?aS ?aL ?_; (case aP => exact k99_mkM _ _ _ (⟨t476, t481⟩ : S99)); (case aF => exact (fun _ _ => trivial)); (case aO => exact (by exact rz HO472)); (case aS => exact (keep_size (w := w) (g := g) (row := none) (by exact kz HK))); (case aL => have := LMc7.out; omega); intro v484 w15 ho hb hg hat; rw [← Ny483.out] at ho; have n0_ := zq9 (IsS118.grown (by exact iz118 HI0) hg (IsS118.own_ne HI0.out HO472.out (by decide))); have n1_ := zq9 (Kd.R_over' (by exact rz HO480) (Kd.R_typed (by exact rz HO472)) (by decide) hg); have n2_ := zq9 (below_weaken (by exact b1 HB (zq9 (IsS118.ge HI0.out))) HL.out hb); have n3_ := zq9 (KeepBut.trans (by exact kz HK) (KeepBut.of_grown hg g) (Kd.R_base2 HO472.out)); have n4_ := zq9 (ho); clear HI0; clear HO480; clear HB; clear HK; clear HO472; have HI0 := n0_; have HO480 := n1_; have HB := n2_; have HK := n3_; have HO485 := n4_; clear n0_ n1_ n2_ n3_ n4_; clear ho hb hg hat))
      go_ret
      exact ⟨_, by first | rfl | (simp [errW_none, errW_some] <;> rfl) | (simp [*, errW_none, errW_some] <;> rfl), by (with_reducible repeat (first | apply zq10 | apply zq11 | apply zq12)); exact HO485.out, by exact iz118 HI0, by exact b1 HB (zq9 (IsS118.ge HI0.out)), by exact kz HK⟩
    · rw [if_neg c7] at H
      exact absurd H (by simp)
  · rw [if_neg c4] at H
    have c4b0 : (t474 == 0) = false := beq_eq_false_iff_ne.mpr c4
    have c4b1 : (t474 != 0) = true := bne_iff_ne.mpr c4
    simp only [Option.some.injEq, Prod.mk.injEq] at H
    obtain ⟨rfl, rfl⟩ := H
    go_wp2_with (first | ((with_reducible refine zq24 (f := 113) rfl ?_); refine gl (some 5) Try.func113 #[.pointer (some ⟨g, 0, none⟩)] ?_; (with_reducible refine (spec_l11Scores.calls k g s0_0 s0_1 t470 t473 w0 _ ?side1 ?side2 A2.out).mono ?_); (case side1 => exact iz118 HI0); (case side2 => exact b1 HB (zq9 (IsS118.ge HI0.out))); rintro e w16 ⟨v471, rfl, ho0, hi, hb, hk⟩; refine ⟨_, rfl, ?_⟩; have n0_ := zq9 (Kd.R_lower ho0 (keep_size (w := w) (g := g) (row := none) (by exact kz HK))); have n1_ := zq9 (KeepBut.trans (by exact kz HK) hk (.inl rfl)); have n2_ := zq9 (hb); have n3_ := zq9 (hi); clear HK; clear HB; clear HI0; have HO472 := n0_; have HK := n1_; have HB := n2_; have HI0 := n3_; clear n0_ n1_ n2_ n3_; (try clear hb); (try clear hb2); (try clear hk); (try clear hi); (try clear ho0)) | ((with_reducible refine zq24 (f := 91) rfl ?_); refine gl (some 7) Try.func91 #[.pointer (some ⟨g, 0, none⟩), .int .i64 10] ?_; (with_reducible refine (spec_l1Rd_pick.calls k g s0_0 t473 10 t474 t475 w0 _ ?side1 ?side2 A3.out).mono ?_); (case side1 => exact iz118 HI0); (case side2 => exact b1 HB (zq9 (IsS118.ge HI0.out))); rintro e w17 ⟨rfl, hi, hb, hk⟩; refine ⟨_, rfl, ?_⟩; have n0_ := zq9 (Kd.R_mono (Kd.R_keep (IsS118.apart (show IsS118 w0 _ g s0_0 t473 from by exact iz118 HI0) (by exact rz HO472) (by decide)) hk (fun _ h => h.2)) (fun _ h => h.1)); have n1_ := zq9 (KeepBut.trans (by exact kz HK) hk (.inl rfl)); have n2_ := zq9 (hb); have n3_ := zq9 (hi); clear HO472; clear HK; clear HB; clear HI0; have HO472 := n0_; have HK := n1_; have HB := n2_; have HI0 := n3_; clear n0_ n1_ n2_ n3_; (try clear hb); (try clear hb2); (try clear hk); (try clear hi)))
    go_ret
    exact ⟨_, by first | rfl | (simp [errW_none, errW_some] <;> rfl) | (simp [*, errW_none, errW_some] <;> rfl), by (with_reducible repeat (first | apply zq10 | apply zq11 | apply zq12)); exact HO472.out, by exact iz118 HI0, by exact b1 HB (zq9 (IsS118.ge HI0.out)), by exact kz HK⟩
set_option maxHeartbeats 8000000 in
set_option maxRecDepth 100000 in
theorem spec_l3At.calls (k : Nat) (A0 : Option Addr) (c0 : Nat) (l0 : List (S101)) (a1 : ByteArray) (r1 : Int) (r2 : Bool) (w : World) (hr0 : Kd.C k101 w A0 l0.length l0) (hc0 : l0.length ≤ c0) (h : spec_l3At.f k l0 a1 = some (r1, r2)) :
    Calls Try.prog 121 #[.slice A0 l0.length c0, .string a1] w fun e w' => e = .returned (.tuple #[.int .i64 r1, .bool r2]) ∧ Drawn0 w w' := by
  have HR0 := zq9 hr0
  have HC0 := zq9 hc0
  clear hr0 hc0
  have H : (spec_l3At.l0 k l0 a1 0) = some (r1, r2) := h
  clear h
  have H' := zq9 H
  clear H
  go_enter Try.func121, Try.ntmps121
  go_wp2
  repeat (go_quiet (fail); try go_wp2)
  go_loopg [6] k (fun kq v6 w' => ∃ (x6_1 : Int), v6 = .int .i64 x6_1 ∧ Aside0 (spec_l3At.l0 kq l0 a1 x6_1 = some (r1, r2)) ∧ Aside0 (kq ≤ k) ∧ Drawn0 w w')
  case atStart => exact ⟨(0), (by first | rfl | (simp; done) | (simp [*]; done)), H', ⟨Nat.le_refl _⟩, by repeat (first | exact Drawn0.refl _ | apply Drawn0.step)⟩
  case round =>
    clear H'
    try clear c1
    try clear p2
    obtain ⟨x6_1, rfl, HA, HK1, ⟨m1, rfl⟩⟩ := hrel
    cases gk with
    | zero => exact absurd HA.out (by simp [spec_l3At.l0])
    | succ k1 =>
      have H := HA.out
      clear HA
      simp only [spec_l3At.l0] at H
      by_cases c3 : x6_1 < (l0.length : Int)
      · rw [if_pos c3] at H
        have c3b0 : decide (x6_1 < (l0.length : Int)) = true := decide_eq_true c3
        clear c3
        by_cases c4 : 0 ≤ x6_1
        · rw [if_pos c4] at H
          have c4b0 : decide (0 ≤ x6_1) = true := decide_eq_true c4
          clear c4
          by_cases c5 : (Op.bytesLess (((rd_T101 l0 x6_1).f0).toList) a1.toList) = true
          · rw [if_pos c5] at H
            have c5b0 : (Op.bytesLess (((rd_T101 l0 x6_1).f0).toList) a1.toList) = true := c5
            clear c5
            have H' := zq9 H
            clear H
            have p486 : 0 ≤ (x6_1 : Int) := of_decide_eq_true ‹_›
            have q486 : x6_1 < (l0.length : Int) := of_decide_eq_true ‹_›
            obtain ⟨ad486, e486, hx486_0, hx486_1⟩ := at_T101 HR0.out x6_1 p486 q486
            cases e486
            replace p486 := eq_true p486
            replace q486 := eq_true q486
            go_wp2
            repeat (go_quiet (fail); try go_wp2)
            go_roundg k1
            case measure => have := HK1.out; omega
            case rel => exact ⟨(wrap64 (x6_1 + 1)), (by first | rfl | (simp; done) | (simp [*]; done)), H', ⟨by have := HK1.out; omega⟩, by repeat (first | exact Drawn0.refl _ | apply Drawn0.step)⟩
          · rw [if_neg c5] at H
            have c5b0 : (Op.bytesLess (((rd_T101 l0 x6_1).f0).toList) a1.toList) = false := by simpa using c5
            clear c5
            simp only [Option.some.injEq, Prod.mk.injEq] at H
            obtain ⟨rfl, rfl⟩ := H
            have p486 : 0 ≤ (x6_1 : Int) := of_decide_eq_true ‹_›
            have q486 : x6_1 < (l0.length : Int) := of_decide_eq_true ‹_›
            obtain ⟨ad486, e486, hx486_0, hx486_1⟩ := at_T101 HR0.out x6_1 p486 q486
            cases e486
            replace p486 := eq_true p486
            replace q486 := eq_true q486
            have p487 : 0 ≤ (x6_1 : Int) := of_decide_eq_true ‹_›
            have q487 : x6_1 < (l0.length : Int) := of_decide_eq_true ‹_›
            obtain ⟨ad487, e487, hx487_0, hx487_1⟩ := at_T101 HR0.out x6_1 p487 q487
            obtain rfl : ad486 = ad487 := (by injection e487)
            replace p487 := eq_true p487
            replace q487 := eq_true q487
            go_wp2
            repeat (go_quiet (fail); try go_wp2)
            go_ret2
            exact ⟨by first | rfl | (simp; done) | (simp [*]; done), by repeat (first | exact Drawn0.refl _ | apply Drawn0.step)⟩
        · rw [if_neg c4] at H
          exact absurd H (by simp)
      · rw [if_neg c3] at H
        have c3b0 : decide (x6_1 < (l0.length : Int)) = false := decide_eq_false c3
        clear c3
        simp only [Option.some.injEq, Prod.mk.injEq] at H
        obtain ⟨rfl, rfl⟩ := H
        go_wp2
        repeat (go_quiet (fail); try go_wp2)
        go_ret2
        exact ⟨by first | rfl | (simp; done) | (simp [*]; done), by repeat (first | exact Drawn0.refl _ | apply Drawn0.step)⟩
end Go.Proofs.Ytnkgmcgbbldkgaa.P
