import Derived.Test.YtcpnekdhdmncfaaPrFnScoresPut5
import Derived.ProofKit
import Derived.SizedLaws
/- Texts of this claim, one behind the other: words on worlds and rows, printed functions and their walks, plain lemmas. -/
namespace Go.Proofs.Ytcpnekdhdmncfaa.P
open Go.RowKit Go.Proofs.YtcpnekdhdmncfaaW.PrintWords Go.Proofs.YtcpnekdhdmncfaaW.PrintLast Go.Proofs.YtcpnekdhdmncfaaW.PrintMore
attribute [local go_sem] max2_int min2_int max_two min_two max_three min_three max_four min_four   -- for this text's walks alone
set_option linter.unusedVariables false
set_option linter.unusedSimpArgs false
def spec_l1Dec.T7 : Bool × List (List Nat × List Nat) := (true, [([], []), ([0], [0]), ([1], [1]), ([], []), ([3], [3]), ([4], [4]), ([5], [5]), ([6], [6]), ([7], [7]), ([2, 8], [2, 8]), ([9, 2, 0, 1, 2, 3, 4, 5, 6, 7, 8, 9], [9])])
def spec_l1Dec.B7 : List Nat := [0, 1, 3, 0, 8, 24, 56, 120, 248, 511, 1023]
theorem spec_l1Dec.tab7 : rtab .any (opsOf Try.f76 7) = spec_l1Dec.T7 := by kernel_rfl
theorem spec_l1Dec.bits7 : waitsOk spec_l1Dec.T7.2 spec_l1Dec.B7 = true := by kernel_rfl
set_option maxHeartbeats 8000000 in
set_option maxRecDepth 100000 in
theorem spec_l1Dec.calls (k : Nat) : ∀ (a0 : Int) (r : ByteArray) (w : World) (h : spec_l1Dec.f k a0 = some r),
  Calls Try.prog 76 #[.int .i64 a0] w fun e w' => e = .returned (.string r) ∧ Below w.heap.size w w' := by
 induction k using Nat.strongRecOn with
 | _ k ih =>
 intro a0 r w h
 cases k with
 | zero => exact absurd h (by simp [spec_l1Dec.f])
 | succ k =>
 simp only [spec_l1Dec.f] at h
 have HB := Aside0.mk (Below.refl w.heap.size w)
 have H : (if a0 < (-9223372036854775807) then (some (⟨#[45, 57, 50, 50, 51, 51, 55, 50, 48, 51, 54, 56, 53, 52, 55, 55, 53, 56, 48, 56]⟩ : ByteArray)) else (if a0 < 0 then ((spec_l1Dec.f k (wrap64 (-a0))).bind fun t441 => (if 1 + t441.size ≤ 9223372036854775807 then (some ((⟨#[45]⟩ : ByteArray) ++ t441)) else (none))) else (if a0 < 10 then (some (strOfNums (([(wrap64 (48 + a0)) % 256] : List Int)))) else ((spec_l1Dec.f k (wrap64 (Int.tdiv a0 10))).bind fun t445 => ((some (([(wrap64 (48 + (Int.tmod a0 10))) % 256] : List Int) : List Int)).bind fun y446 => (if t445.size + (strOfNums y446).size ≤ 9223372036854775807 then (some (t445 ++ (strOfNums y446))) else (none))))))) = some r := h
 clear h
 by_cases c2 : a0 < (-9223372036854775807)
 ·rw [if_pos c2] at H
  have c2b0 : decide (a0 < (-9223372036854775807)) = true := decide_eq_true c2
  clear c2
  obtain rfl := Option.some.inj H
  go_enter Try.func76, Try.ntmps76
  go_wp2
  go_ret
  exact ⟨by first | rfl | (simp [errW_none, errW_some] <;> rfl) | (simp [*, errW_none, errW_some] <;> rfl), by repeat (first | (with_reducible first | exact HB.out | apply below_alloc | apply pw_below_drewN | apply below_drew1) | exact HB.out | exact Below.refl _ _)⟩
 ·rw [if_neg c2] at H
  have c2b0 : decide (a0 < (-9223372036854775807)) = false := decide_eq_false c2
  clear c2
  by_cases c3 : a0 < 0
  ·rw [if_pos c3] at H
   have c3b0 : decide (a0 < 0) = true := decide_eq_true c3
   clear c3
   replace H := Option.bind_eq_some_iff.mp H
   obtain ⟨t441, A40, H⟩ := H
   replace H : (if 1 + t441.size ≤ 9223372036854775807 then (some ((⟨#[45]⟩ : ByteArray) ++ t441)) else (none)) = some r := H
   have A4 := Aside0.mk A40
   clear A40
   by_cases c5 : 1 + t441.size ≤ 9223372036854775807
   ·rw [if_pos c5] at H
    have c5b0 := eq_true c5
    have c5b1 : decide (1 + t441.size ≤ 9223372036854775807) = true := decide_eq_true c5
    try have c5b2 : (9223372036854775807 < 1 + t441.size) = False := eq_false (Nat.not_lt.2 c5)
    obtain rfl := Option.some.inj H
    go_enter Try.func76, Try.ntmps76
    go_wp2_with (first | ((with_reducible refine gate_callee (f := 76) rfl ?_); refine goesL_ (some 9) rfl rfl Try.func76 (by kernel_rfl) rfl #[.int .i64 (wrap64 (-a0))] rfl (by (try simp only [List.map_toArray, List.map_cons, List.map_nil]); first | done | rfl | (simp only [List.length_drop, List.length_take]; rfl)) ?_; (with_reducible refine (ih k (by omega) (wrap64 (-a0)) t441 _ A4.out).mono ?_); rintro e w6 ⟨rfl, hb⟩; refine ⟨_, rfl, ?_⟩; have n0_ := Aside0.mk (below_step (by repeat (first | (with_reducible first | exact HB.out | apply below_alloc | apply pw_below_drewN | apply below_drew1) | exact HB.out | exact Below.refl _ _)) hb); clear HB; have HB := n0_; clear n0_; (try clear hb); (try clear hb2); (try clear hk); (try clear hi)))
    go_ret
    exact ⟨by first | rfl | (simp [errW_none, errW_some] <;> rfl) | (simp [*, errW_none, errW_some] <;> rfl), by repeat (first | (with_reducible first | exact HB.out | apply below_alloc | apply pw_below_drewN | apply below_drew1) | exact HB.out | exact Below.refl _ _)⟩
   ·rw [if_neg c5] at H
    exact absurd H (by simp)
  ·rw [if_neg c3] at H
   have c3b0 : decide (a0 < 0) = false := decide_eq_false c3
   clear c3
   by_cases c7 : a0 < 10
   ·rw [if_pos c7] at H
    have c7b0 : decide (a0 < 10) = true := decide_eq_true c7
    clear c7
    obtain ⟨y442, hy442⟩ : ∃ y_ : List Int, y_ = (([(wrap64 (48 + a0)) % 256] : List Int)) := ⟨_, rfl⟩
    replace H : (some (strOfNums y442)) = some r := by first | (rw [hy442]; with_reducible exact H) | (have H2_ := (Option.bind_some _ _).symm.trans H; rw [hy442]; with_reducible exact H2_) | (have H2_ := (Option.bind_some _ _).symm.trans H; with_reducible exact H2_) | with_reducible exact H | (rw [hy442]; exact H) | exact H
    have Ny442 := Aside0.mk hy442
    clear hy442
    obtain rfl := Option.some.inj H
    go_enter Try.func76, Try.ntmps76
    go_wp2_with (first | ((with_reducible refine gate_dst (N := 16) rfl ?_); refine Kd.R_lit (Kd.int .u8) _ 5 ?hg (N := 16) ?hd (xs := ([(wrap64 (48 + a0)) % 256] : List Int)) (inner := [.int .u8 ((wrap64 (48 + a0)) % 256)]) (ok := fun _ => True) (okp := fun _ => True) ?hr ?hp (fun _ hk => hk) trivial (Below.refl _ _) (Nat.le_refl _) (by simp) ?_; (case hd => rfl); (case hg => rfl); (case hr => first | (go_simp; done) | (go_simp; rfl)); (case hp => exact (Reps.one (show Kd.M (Kd.int .u8) _ _ _ ((wrap64 (48 + a0)) % 256) [.int .u8 ((wrap64 (48 + a0)) % 256)] from rfl) (Reps.none _ _))); intro v443 w8 ho9 hb hg_ hnew_; clear hg_ hnew_; (first | rw [← Ny442.out] at ho9 | (simp only [Int.reduceToNat] at ho9; rw [← Ny442.out] at ho9)); have n0_ := Aside0.mk (Kd.R_lower ho9 (below_size (by repeat (first | (with_reducible first | exact HB.out | apply below_alloc | apply pw_below_drewN | apply below_drew1) | exact HB.out | exact Below.refl _ _)))); have n1_ := Aside0.mk (below_step (by repeat (first | (with_reducible first | exact HB.out | apply below_alloc | apply pw_below_drewN | apply below_drew1) | exact HB.out | exact Below.refl _ _)) hb); clear HB; have HO444 := n0_; have HB := n1_; clear n0_ n1_; clear hb ho9; have hcv10 := own_string (P := Try.prog) Try.underlying36 Try.underlying5 Try.underlying9 (Kd.own_of_R HO444.out)))
    go_ret
    exact ⟨by first | rfl | (simp [errW_none, errW_some] <;> rfl) | (simp [*, errW_none, errW_some] <;> rfl), by repeat (first | (with_reducible first | exact HB.out | apply below_alloc | apply pw_below_drewN | apply below_drew1) | exact HB.out | exact Below.refl _ _)⟩
   ·rw [if_neg c7] at H
    have c7b0 : decide (a0 < 10) = false := decide_eq_false c7
    clear c7
    replace H := Option.bind_eq_some_iff.mp H
    obtain ⟨t445, A110, H⟩ := H
    replace H : ((some (([(wrap64 (48 + (Int.tmod a0 10))) % 256] : List Int) : List Int)).bind fun y446 => (if t445.size + (strOfNums y446).size ≤ 9223372036854775807 then (some (t445 ++ (strOfNums y446))) else (none))) = some r := H
    have A11 := Aside0.mk A110
    clear A110
    obtain ⟨y446, hy446⟩ : ∃ y_ : List Int, y_ = (([(wrap64 (48 + (Int.tmod a0 10))) % 256] : List Int)) := ⟨_, rfl⟩
    replace H : (if t445.size + (strOfNums y446).size ≤ 9223372036854775807 then (some (t445 ++ (strOfNums y446))) else (none)) = some r := by first | (rw [hy446]; with_reducible exact H) | (have H2_ := (Option.bind_some _ _).symm.trans H; rw [hy446]; with_reducible exact H2_) | (have H2_ := (Option.bind_some _ _).symm.trans H; with_reducible exact H2_) | with_reducible exact H | (rw [hy446]; exact H) | exact H
    have Ny446 := Aside0.mk hy446
    clear hy446
    by_cases c12 : t445.size + (strOfNums y446).size ≤ 9223372036854775807
    ·rw [if_pos c12] at H
     have c12b0 := eq_true c12
     have c12b1 : decide (t445.size + (strOfNums y446).size ≤ 9223372036854775807) = true := decide_eq_true c12
     try have c12b2 : (9223372036854775807 < t445.size + (strOfNums y446).size) = False := eq_false (Nat.not_lt.2 c12)
     obtain rfl := Option.some.inj H
     go_enter Try.func76, Try.ntmps76
     try go_wp2
     have n0_ := Aside0.mk (below_drew1 HB.out)
     clear HB
     have HB := n0_
     clear n0_
     refine start_ (n := 11) (S := fun w' => True) (ds := []) #[false, false, false, false, false, false, false, false, false, false, false] (by kernel_rfl) rfl rfl trivial (fun hHeld => ?_); refine with_tabW spec_l1Dec.tab7 spec_l1Dec.bits7 (fun HT_ HW_ => ?_)
     generalize w.drew = w13 at HB hHeld ⊢
     refine pure_ (i := 0) (N := some 18) (v := ?_) (a' := ?_) #[true, false, false, false, false, false, false, false, false, false, false] rfl rfl (any_of HT_.out (by kernel_rfl)) (fun _ _ _ h => h) (Or.inl ⟨by rfl, ?_⟩) ?_ ?_
     rotate_left
     ·intro w'
      go_simp
      with_reducible rfl
     rotate_left
     ·simp only [Act.put, List.setIfInBounds_toArray, List.set_cons_zero, List.set_cons_succ, i64_w, i32_w]
      rfl
     refine pure_ (i := 1) (N := some 19) (v := ?_) (a' := ?_) #[true, true, false, false, false, false, false, false, false, false, false] rfl rfl (any_of HT_.out (by kernel_rfl)) (fun _ _ _ h => h) (Or.inl ⟨by rfl, ?_⟩) ?_ ?_
     rotate_left
     ·intro w'
      go_simp
      with_reducible rfl
     rotate_left
     ·simp only [Act.put, List.setIfInBounds_toArray, List.set_cons_zero, List.set_cons_succ, i64_w, i32_w]
      rfl
     refine pure_ (i := 3) (N := some 21) (v := ?_) (a' := ?_) #[true, true, false, true, false, false, false, false, false, false, false] rfl rfl (any_of HT_.out (by kernel_rfl)) (fun _ _ _ h => h) (Or.inl ⟨by rfl, ?_⟩) ?_ ?_
     rotate_left
     ·intro w'
      go_simp
      with_reducible rfl
     rotate_left
     ·simp only [Act.put, List.setIfInBounds_toArray, List.set_cons_zero, List.set_cons_succ, i64_w, i32_w]
      rfl
     refine pure_ (i := 4) (N := some 22) (v := ?_) (a' := ?_) #[true, true, false, true, true, false, false, false, false, false, false] rfl rfl (any_of HT_.out (by kernel_rfl)) (fun _ _ _ h => h) (Or.inl ⟨by rfl, ?_⟩) ?_ ?_
     rotate_left
     ·intro w'
      go_simp
      with_reducible rfl
     rotate_left
     ·simp only [Act.put, List.setIfInBounds_toArray, List.set_cons_zero, List.set_cons_succ, i64_w, i32_w]
      rfl
     refine pure_ (i := 5) (N := some 23) (v := ?_) (a' := ?_) #[true, true, false, true, true, true, false, false, false, false, false] rfl rfl (any_of HT_.out (by kernel_rfl)) (fun _ _ _ h => h) (Or.inl ⟨by rfl, ?_⟩) ?_ ?_
     rotate_left
     ·intro w'
      go_simp
      with_reducible rfl
     rotate_left
     ·simp only [Act.put, List.setIfInBounds_toArray, List.set_cons_zero, List.set_cons_succ, i64_w, i32_w]
      rfl
     refine pure_ (i := 6) (N := some 24) (v := ?_) (a' := ?_) #[true, true, false, true, true, true, true, false, false, false, false] rfl rfl (any_of HT_.out (by kernel_rfl)) (fun _ _ _ h => h) (Or.inl ⟨by rfl, ?_⟩) ?_ ?_
     rotate_left
     ·intro w'
      go_simp
      with_reducible rfl
     rotate_left
     ·simp only [Act.put, List.setIfInBounds_toArray, List.set_cons_zero, List.set_cons_succ, i64_w, i32_w]
      rfl
     refine join_ (σ := Value) 2 #[true, true, true, true, true, true, true, true, true, false, false] (fun s_ => [(20, .string t445), (25, s_), (26, .string (strOfNums y446))]) (fun s_ w' => (Kd.R (Kd.int .u8) 5 w' w.heap.size (fun _ => True) s_ y446) ∧ (Below w.heap.size w w')) ?_ ?_
     rotate_left
     ·intro hCont
      refine two_ (i := 2) (j := 7) (Ni := some 20) (Nj := some 25) #[true, true, true, true, true, true, true, false, false, false, false] #[true, true, false, true, true, true, true, true, false, false, false] rfl rfl rfl rfl (two_of HT_.out (by kernel_rfl)) (by decide) (by decide) (fun K hK => ?_) (fun K hK => ?_)
      ·skip
       refine goes_ Try.func76 (by kernel_rfl) rfl #[.int .i64 (wrap64 (Int.tdiv a0 10))] (by rfl) rfl rfl (by (try simp only [List.map_toArray, List.map_cons, List.map_nil]); first | done | rfl | (simp only [List.length_drop, List.length_take]; rfl)) ?_
       with_reducible refine (ih k (by omega) (wrap64 (Int.tdiv a0 10)) t445 _ A11.out).mono ?_
       rintro e w14 ⟨rfl, hb⟩
       refine ⟨_, rfl, ?_⟩
       have n0_ := Aside0.mk (below_step (by repeat (first | (with_reducible first | exact HB.out | apply below_alloc | apply pw_below_drewN | apply below_drew1) | exact HB.out | exact Below.refl _ _)) hb)
       clear HB
       have HB := n0_
       clear n0_
       (try clear hb)
       (try clear hb2)
       (try clear hk)
       (try clear hi)
       refine hK.out _ _ trivial (fun hHeld => ?_)
       clear hK K
       refine norm_ (a' := ?_) ?_ ?_
       rotate_left
       ·show Act.put _ (some 20) _ = _
        simp only [Act.put, List.setIfInBounds_toArray, List.set_cons_zero, List.set_cons_succ, i64_w, i32_w]
        rfl
       refine one_ (i := 7) (N := some 25) #[true, true, true, true, true, true, true, true, false, false, false] rfl rfl (one_of HT_.out (by kernel_rfl)) (by decide) (fun K hK => ?_)
       refine Kd.R_lit_step (Kd.int .u8) _ 5 ?hg (N := 25) ?hd (xs := ([(wrap64 (48 + (Int.tmod a0 10))) % 256] : List Int)) (inner := [.int .u8 ((wrap64 (48 + (Int.tmod a0 10))) % 256)]) (ok := fun _ => True) (okp := fun _ => True) ?hr ?hp (fun _ hk => hk) trivial (Below.refl _ _) (Nat.le_refl _) (by simp) ?_; (case hd => rfl); (case hg => rfl); (case hr => first | (go_simp; done) | (go_simp; rfl)); (case hp => exact (Reps.one (show Kd.M (Kd.int .u8) _ _ _ ((wrap64 (48 + (Int.tmod a0 10))) % 256) [.int .u8 ((wrap64 (48 + (Int.tmod a0 10))) % 256)] from rfl) (Reps.none _ _)))
       intro v447 w15 ho16 hb hg_ hnew_
       clear hg_ hnew_
       (first | rw [← Ny446.out] at ho16 | (simp only [Int.reduceToNat] at ho16; rw [← Ny446.out] at ho16))
       have n0_ := Aside0.mk (Kd.R_lower ho16 (below_size (by repeat (first | (with_reducible first | exact HB.out | apply below_alloc | apply pw_below_drewN | apply below_drew1) | exact HB.out | exact Below.refl _ _))))
       have n1_ := Aside0.mk (below_step (by repeat (first | (with_reducible first | exact HB.out | apply below_alloc | apply pw_below_drewN | apply below_drew1) | exact HB.out | exact Below.refl _ _)) hb)
       clear HB
       have HO448 := n0_
       have HB := n1_
       clear n0_ n1_
       clear hb ho16
       refine hK.out _ _ trivial (fun hHeld => ?_)
       clear hK K
       refine norm_ (a' := ?_) ?_ ?_
       rotate_left
       ·show Act.put _ (some 25) _ = _
        simp only [Act.put, List.setIfInBounds_toArray, List.set_cons_zero, List.set_cons_succ, i64_w, i32_w]
        rfl
       refine one_ (i := 8) (N := some 26) #[true, true, true, true, true, true, true, true, true, false, false] rfl rfl (one_of HT_.out (by kernel_rfl)) (by decide) (fun K hK => ?_)
       have hcv17 := own_string (P := Try.prog) Try.underlying36 Try.underlying5 Try.underlying9 (Kd.own_of_R HO448.out)
       refine value_ (w1 := ?_) (v := ?_) (by rfl) rfl ?_ ?_
       rotate_left 2
       ·go_simp
        constructor
        ·rfl
        ·rfl
       clear hcv17
       refine hK.out _ _ trivial (fun hHeld => ?_)
       clear hK K
       refine norm_ (a' := ?_) ?_ ?_
       rotate_left
       ·show Act.put _ (some 26) _ = _
        simp only [Act.put, List.setIfInBounds_toArray, List.set_cons_zero, List.set_cons_succ, i64_w, i32_w]
        rfl
       exact norm_ (by simp only [putAll, Act.put, List.setIfInBounds_toArray, List.set_cons_zero, List.set_cons_succ]) (hCont (v447) _ ⟨(by (with_reducible repeat (first | apply Kd.R_alloc | apply Kd.R_drewN | apply Kd.R_drew)); exact HO448.out), (by repeat (first | (with_reducible first | exact HB.out | apply below_alloc | apply pw_below_drewN | apply below_drew1) | exact HB.out | exact Below.refl _ _))⟩)
      ·skip
       refine Kd.R_lit_step (Kd.int .u8) _ 5 ?hg (N := 25) ?hd (xs := ([(wrap64 (48 + (Int.tmod a0 10))) % 256] : List Int)) (inner := [.int .u8 ((wrap64 (48 + (Int.tmod a0 10))) % 256)]) (ok := fun _ => True) (okp := fun _ => True) ?hr ?hp (fun _ hk => hk) trivial (Below.refl _ _) (Nat.le_refl _) (by simp) ?_; (case hd => rfl); (case hg => rfl); (case hr => first | (go_simp; done) | (go_simp; rfl)); (case hp => exact (Reps.one (show Kd.M (Kd.int .u8) _ _ _ ((wrap64 (48 + (Int.tmod a0 10))) % 256) [.int .u8 ((wrap64 (48 + (Int.tmod a0 10))) % 256)] from rfl) (Reps.none _ _)))
       intro v447 w14 ho15 hb hg_ hnew_
       clear hg_ hnew_
       (first | rw [← Ny446.out] at ho15 | (simp only [Int.reduceToNat] at ho15; rw [← Ny446.out] at ho15))
       have n0_ := Aside0.mk (Kd.R_lower ho15 (below_size (by repeat (first | (with_reducible first | exact HB.out | apply below_alloc | apply pw_below_drewN | apply below_drew1) | exact HB.out | exact Below.refl _ _))))
       have n1_ := Aside0.mk (below_step (by repeat (first | (with_reducible first | exact HB.out | apply below_alloc | apply pw_below_drewN | apply below_drew1) | exact HB.out | exact Below.refl _ _)) hb)
       clear HB
       have HO448 := n0_
       have HB := n1_
       clear n0_ n1_
       clear hb ho15
       refine hK.out _ _ trivial (fun hHeld => ?_)
       clear hK K
       refine norm_ (a' := ?_) ?_ ?_
       rotate_left
       ·show Act.put _ (some 25) _ = _
        simp only [Act.put, List.setIfInBounds_toArray, List.set_cons_zero, List.set_cons_succ, i64_w, i32_w]
        rfl
       refine two_ (i := 2) (j := 8) (Ni := some 20) (Nj := some 26) #[true, true, true, true, true, true, true, true, false, false, false] #[true, true, false, true, true, true, true, true, true, false, false] rfl rfl rfl rfl (two_of HT_.out (by kernel_rfl)) (by decide) (by decide) (fun K hK => ?_) (fun K hK => ?_)
       ·skip
        refine goes_ Try.func76 (by kernel_rfl) rfl #[.int .i64 (wrap64 (Int.tdiv a0 10))] (by rfl) rfl rfl (by (try simp only [List.map_toArray, List.map_cons, List.map_nil]); first | done | rfl | (simp only [List.length_drop, List.length_take]; rfl)) ?_
        with_reducible refine (ih k (by omega) (wrap64 (Int.tdiv a0 10)) t445 _ A11.out).mono ?_
        rintro e w16 ⟨rfl, hb⟩
        refine ⟨_, rfl, ?_⟩
        have n0_ := Aside0.mk (Kd.R_below (by (with_reducible repeat (first | apply Kd.R_alloc | apply Kd.R_drewN | apply Kd.R_drew)); exact HO448.out) hb)
        have n1_ := Aside0.mk (below_step (by repeat (first | (with_reducible first | exact HB.out | apply below_alloc | apply pw_below_drewN | apply below_drew1) | exact HB.out | exact Below.refl _ _)) hb)
        clear HO448
        clear HB
        have HO448 := n0_
        have HB := n1_
        clear n0_ n1_
        (try clear hb)
        (try clear hb2)
        (try clear hk)
        (try clear hi)
        refine hK.out _ _ trivial (fun hHeld => ?_)
        clear hK K
        refine norm_ (a' := ?_) ?_ ?_
        rotate_left
        ·show Act.put _ (some 20) _ = _
         simp only [Act.put, List.setIfInBounds_toArray, List.set_cons_zero, List.set_cons_succ, i64_w, i32_w]
         rfl
        refine one_ (i := 8) (N := some 26) #[true, true, true, true, true, true, true, true, true, false, false] rfl rfl (one_of HT_.out (by kernel_rfl)) (by decide) (fun K hK => ?_)
        have hcv17 := own_string (P := Try.prog) Try.underlying36 Try.underlying5 Try.underlying9 (Kd.own_of_R HO448.out)
        refine value_ (w1 := ?_) (v := ?_) (by rfl) rfl ?_ ?_
        rotate_left 2
        ·go_simp
         constructor
         ·rfl
         ·rfl
        clear hcv17
        refine hK.out _ _ trivial (fun hHeld => ?_)
        clear hK K
        refine norm_ (a' := ?_) ?_ ?_
        rotate_left
        ·show Act.put _ (some 26) _ = _
         simp only [Act.put, List.setIfInBounds_toArray, List.set_cons_zero, List.set_cons_succ, i64_w, i32_w]
         rfl
        exact norm_ (by simp only [putAll, Act.put, List.setIfInBounds_toArray, List.set_cons_zero, List.set_cons_succ]) (hCont (v447) _ ⟨(by (with_reducible repeat (first | apply Kd.R_alloc | apply Kd.R_drewN | apply Kd.R_drew)); exact HO448.out), (by repeat (first | (with_reducible first | exact HB.out | apply below_alloc | apply pw_below_drewN | apply below_drew1) | exact HB.out | exact Below.refl _ _))⟩)
       ·skip
        have hcv16 := own_string (P := Try.prog) Try.underlying36 Try.underlying5 Try.underlying9 (Kd.own_of_R HO448.out)
        refine value_ (w1 := ?_) (v := ?_) (by rfl) rfl ?_ ?_
        rotate_left 2
        ·go_simp
         constructor
         ·rfl
         ·rfl
        clear hcv16
        refine hK.out _ _ trivial (fun hHeld => ?_)
        clear hK K
        refine norm_ (a' := ?_) ?_ ?_
        rotate_left
        ·show Act.put _ (some 26) _ = _
         simp only [Act.put, List.setIfInBounds_toArray, List.set_cons_zero, List.set_cons_succ, i64_w, i32_w]
         rfl
        refine one_ (i := 2) (N := some 20) #[true, true, true, true, true, true, true, true, true, false, false] rfl rfl (one_of HT_.out (by kernel_rfl)) (by decide) (fun K hK => ?_)
        refine goes_ Try.func76 (by kernel_rfl) rfl #[.int .i64 (wrap64 (Int.tdiv a0 10))] (by rfl) rfl rfl (by (try simp only [List.map_toArray, List.map_cons, List.map_nil]); first | done | rfl | (simp only [List.length_drop, List.length_take]; rfl)) ?_
        with_reducible refine (ih k (by omega) (wrap64 (Int.tdiv a0 10)) t445 _ A11.out).mono ?_
        rintro e w17 ⟨rfl, hb⟩
        refine ⟨_, rfl, ?_⟩
        have n0_ := Aside0.mk (Kd.R_below (by (with_reducible repeat (first | apply Kd.R_alloc | apply Kd.R_drewN | apply Kd.R_drew)); exact HO448.out) hb)
        have n1_ := Aside0.mk (below_step (by repeat (first | (with_reducible first | exact HB.out | apply below_alloc | apply pw_below_drewN | apply below_drew1) | exact HB.out | exact Below.refl _ _)) hb)
        clear HO448
        clear HB
        have HO448 := n0_
        have HB := n1_
        clear n0_ n1_
        (try clear hb)
        (try clear hb2)
        (try clear hk)
        (try clear hi)
        refine hK.out _ _ trivial (fun hHeld => ?_)
        clear hK K
        refine norm_ (a' := ?_) ?_ ?_
        rotate_left
        ·show Act.put _ (some 20) _ = _
         simp only [Act.put, List.setIfInBounds_toArray, List.set_cons_zero, List.set_cons_succ, i64_w, i32_w]
         rfl
        exact norm_ (by simp only [putAll, Act.put, List.setIfInBounds_toArray, List.set_cons_zero, List.set_cons_succ]) (hCont (v447) _ ⟨(by (with_reducible repeat (first | apply Kd.R_alloc | apply Kd.R_drewN | apply Kd.R_drew)); exact HO448.out), (by repeat (first | (with_reducible first | exact HB.out | apply below_alloc | apply pw_below_drewN | apply below_drew1) | exact HB.out | exact Below.refl _ _))⟩)
     rintro v447 w18 ⟨h0_, h1_⟩
     have n0_ : Aside0 (Kd.R (Kd.int .u8) 5 w18 w.heap.size (fun _ => True) v447 y446) := ⟨h0_⟩
     have n1_ : Aside0 (Below w.heap.size w w18) := ⟨h1_⟩
     clear HB
     clear h0_ h1_
     have HO448 := n0_
     have HB := n1_
     clear n0_ n1_
     have hHeld := trivial
     refine norm_ (a' := ?_) ?_ ?_
     rotate_left
     ·simp only [putAll, Act.put, List.setIfInBounds_toArray, List.set_cons_zero, List.set_cons_succ]
      rfl
     refine pure_ (i := 9) (N := some 27) (v := ?_) (a' := ?_) #[true, true, true, true, true, true, true, true, true, true, false] rfl rfl (any_of HT_.out (by kernel_rfl)) (fun _ _ _ h => h) (Or.inl ⟨by rfl, ?_⟩) ?_ ?_
     rotate_left
     ·intro w'
      go_simp
      with_reducible rfl
     rotate_left
     ·simp only [Act.put, List.setIfInBounds_toArray, List.set_cons_zero, List.set_cons_succ, i64_w, i32_w]
      rfl
     refine pure_ (i := 10) (N := some 2) (v := ?_) (a' := ?_) #[true, true, true, true, true, true, true, true, true, true, true] rfl rfl (any_of HT_.out (by kernel_rfl)) (fun _ _ _ h => h) (Or.inl ⟨by rfl, ?_⟩) ?_ ?_
     rotate_left
     ·intro w'
      go_simp
      with_reducible rfl
     rotate_left
     ·simp only [Act.put, List.setIfInBounds_toArray, List.set_cons_zero, List.set_cons_succ, i64_w, i32_w]
      rfl
     refine done_ (done_of HT_.out (by kernel_rfl)) ?_
     try go_wp2
     go_ret
     exact ⟨by first | rfl | (simp [errW_none, errW_some] <;> rfl) | (simp [*, errW_none, errW_some] <;> rfl), by repeat (first | (with_reducible first | exact HB.out | apply below_alloc | apply pw_below_drewN | apply below_drew1) | exact HB.out | exact Below.refl _ _)⟩
    ·rw [if_neg c12] at H
     exact absurd H (by simp)
end Go.Proofs.Ytcpnekdhdmncfaa.P
namespace Go.Proofs.Ytcpnekdhdmncfaa.P
open Go.RowKit Go.Proofs.YtcpnekdhdmncfaaW.PrintWords Go.Proofs.YtcpnekdhdmncfaaW.PrintLast Go.Proofs.YtcpnekdhdmncfaaW.PrintMore
attribute [local go_sem] max2_int min2_int max_two min_two max_three min_three max_four min_four   -- for this text's walks alone
set_option linter.unusedVariables false
set_option linter.unusedSimpArgs false
set_option maxHeartbeats 8000000 in
set_option maxRecDepth 100000 in
theorem spec_l11Scores.calls (k : Nat) (g : Nat) (s0_0 : List Int) (s0_1 : Int) (r1 : List (S40)) (r2 : Int) (w0 w : World) (hI : IsS82 w0 w g s0_0 s0_1) (hB : Below w0.heap.size w0 w) (h : spec_l11Scores.f k s0_0 s0_1 = some (r1, r2)) :
  Calls Try.prog 70 #[.pointer (some ⟨g, 0, none⟩)] w fun e w' => ∃ v0_ : Value, e = .returned (v0_) ∧ Kd.R k40 40 w' w.heap.size (fun _ => True) v0_ r1 ∧ IsS82 w0 w' g s0_0 r2 ∧ Below w0.heap.size w0 w' ∧ KeepBut w w' g none := by
 have hu40 := Try.underlying40
 have HI0 := Aside0.mk hI
 have HK := Aside0.mk (KeepBut.refl w g none)
 have HL := Aside0.mk hB.size
 clear hI
 have HW0 := Aside0.mk hB.size
 have HB := Aside0.mk hB
 clear hB
 have H : ((spec_l1Rd_pick.f k s0_0 s0_1 7).bind fun bt452 => (spec_l11Scores.l0 k (([] : List (S40))) bt452.1 s0_0 bt452.2)) = some (r1, r2) := h
 clear h
 obtain ⟨y449, hy449⟩ : ∃ y_ : List (S40), y_ = (([] : List (S40))) := ⟨_, rfl⟩
 replace H : ((spec_l1Rd_pick.f k s0_0 s0_1 7).bind fun bt452 => (spec_l11Scores.l0 k y449 bt452.1 s0_0 bt452.2)) = some (r1, r2) := by first | (rw [hy449]; with_reducible exact H) | (have H2_ := (Option.bind_some _ _).symm.trans H; rw [hy449]; with_reducible exact H2_) | (have H2_ := (Option.bind_some _ _).symm.trans H; with_reducible exact H2_) | with_reducible exact H | (rw [hy449]; exact H) | exact H
 have Ny449 := Aside0.mk hy449
 clear hy449
 replace H := Option.bind_eq_some_iff.mp H
 obtain ⟨⟨t452, t453⟩, A20, H⟩ := H
 replace H : (spec_l11Scores.l0 k y449 t452 s0_0 t453) = some (r1, r2) := H
 have A2 := Aside0.mk A20
 clear A20
 have H' := Aside0.mk H
 clear H
 go_enter Try.func70, Try.ntmps70
 go_wp2_with (first | ((with_reducible refine gate_dst (N := 6) rfl ?_); refine Kd.R_lit k40 _ 40 ?hg (N := 6) ?hd (xs := ([] : List (S40))) (inner := []) (ok := fun _ => True) (okp := fun _ => True) ?hr ?hp (fun _ hk => hk) trivial (Below.refl _ _) (Nat.le_refl _) (by simp) ?_; (case hd => rfl); (case hg => rfl); (case hr => first | (go_simp; done) | (go_simp; rfl)); (case hp => exact (Reps.none _ _)); intro v450 w3 ho4 hb hg_ hnew_; clear hg_ hnew_; (first | rw [← Ny449.out] at ho4 | (simp only [Int.reduceToNat] at ho4; rw [← Ny449.out] at ho4)); have n0_ := Aside0.mk (Kd.R_lower ho4 (keep_size (w := w) (g := g) (row := none) (by repeat (first | (with_reducible first | exact HK.out | apply KeepBut.set_ | apply keep_drewN | apply keep_drew | apply keep_alloc) | exact HK.out)))); have n1_ := Aside0.mk (IsS82.below (by repeat (first | (with_reducible first | exact HI0.out | apply IsS82.alloc | apply IsS82.drewN | apply IsS82.drew | apply IsS82.set_1) | exact HI0.out)) hb); have n2_ := Aside0.mk (KeepBut.trans (by repeat (first | (with_reducible first | exact HK.out | apply KeepBut.set_ | apply keep_drewN | apply keep_drew | apply keep_alloc) | exact HK.out)) (KeepBut.of_below hb g none) (.inl rfl)); have n3_ := Aside0.mk (below_step (by repeat (first | (with_reducible first | exact HB.out | apply below_alloc | apply pw_below_drewN | apply below_drew1 | refine below_set ?_ (IsS82.ge HI0.out)) | exact HB.out)) hb); clear HI0; clear HK; clear HB; have HO451 := n0_; have HI0 := n1_; have HK := n2_; have HB := n3_; clear n0_ n1_ n2_ n3_; clear hb ho4) | ((with_reducible refine gate_callee (f := 57) rfl ?_); refine goesL_ (some 8) rfl rfl Try.func57 (by kernel_rfl) rfl #[.pointer (some ⟨g, 0, none⟩), .int .i64 7] rfl (by (try simp only [List.map_toArray, List.map_cons, List.map_nil]); first | done | rfl | (simp only [List.length_drop, List.length_take]; rfl)) ?_; (with_reducible refine (spec_l1Rd_pick.calls k g s0_0 s0_1 7 t452 t453 w0 _ ?side1 ?side2 A2.out).mono ?_); (case side1 => repeat (first | (with_reducible first | exact HI0.out | apply IsS82.alloc | apply IsS82.drewN | apply IsS82.drew | apply IsS82.set_1) | exact HI0.out)); (case side2 => repeat (first | (with_reducible first | exact HB.out | apply below_alloc | apply pw_below_drewN | apply below_drew1 | refine below_set ?_ (IsS82.ge HI0.out)) | exact HB.out)); rintro e w5 ⟨rfl, hi, hb, hk⟩; refine ⟨_, rfl, ?_⟩; have n0_ := Aside0.mk (Kd.R_mono (Kd.R_keep (IsS82.apart (show IsS82 w0 _ g s0_0 s0_1 from by repeat (first | (with_reducible first | exact HI0.out | apply IsS82.alloc | apply IsS82.drewN | apply IsS82.drew | apply IsS82.set_1) | exact HI0.out)) (by (with_reducible repeat (first | apply Kd.R_alloc | apply Kd.R_drewN | apply Kd.R_drew)); exact HO451.out) (by decide)) hk (fun _ h => h.2)) (fun _ h => h.1)); have n1_ := Aside0.mk (KeepBut.trans (by repeat (first | (with_reducible first | exact HK.out | apply KeepBut.set_ | apply keep_drewN | apply keep_drew | apply keep_alloc) | exact HK.out)) hk (.inl rfl)); have n2_ := Aside0.mk (hb); have n3_ := Aside0.mk (hi); clear HO451; clear HK; clear HB; clear HI0; have HO451 := n0_; have HK := n1_; have HB := n2_; have HI0 := n3_; clear n0_ n1_ n2_ n3_; (try clear hb); (try clear hb2); (try clear hk); (try clear hi)))
 go_loopg [3, 4] k (fun kq v3 v4 w' => ∃ (x3_1 : List (S40)) (x4_1 : Int) (x1001_1 : Int), v4 = .int .i64 x4_1 ∧ Aside0 (spec_l11Scores.l0 kq x3_1 x4_1 s0_0 x1001_1 = some (r1, r2)) ∧ Aside0 (kq ≤ k) ∧ Aside0 (Kd.R k40 40 w' w.heap.size (fun _ => True) v3 x3_1) ∧ Aside0 (IsS82 w0 w' g s0_0 x1001_1) ∧ Aside0 (KeepBut w w' g none) ∧ Aside0 (Below w0.heap.size w0 w'))
 case atStart => exact ⟨(y449), (t452), (t453), (by first | rfl | (simp; done) | (simp [*]; done)), H', ⟨Nat.le_refl _⟩, ⟨by (with_reducible repeat (first | apply Kd.R_alloc | apply Kd.R_drewN | apply Kd.R_drew)); exact HO451.out⟩, ⟨by repeat (first | (with_reducible first | exact HI0.out | apply IsS82.alloc | apply IsS82.drewN | apply IsS82.drew | apply IsS82.set_1) | exact HI0.out)⟩, ⟨by repeat (first | (with_reducible first | exact HK.out | apply KeepBut.set_ | apply keep_drewN | apply keep_drew | apply keep_alloc) | exact HK.out)⟩, ⟨by repeat (first | (with_reducible first | exact HB.out | apply below_alloc | apply pw_below_drewN | apply below_drew1 | refine below_set ?_ (IsS82.ge HI0.out)) | exact HB.out)⟩⟩
 case round =>
  clear H'
  try clear p2
  try clear c5
  obtain ⟨x3_1, x4_1, x1001_1, rfl, HA, HK1, HO_3, HI0, HK, HB⟩ := hrel
  cases gk with
  | zero => exact absurd HA.out (by simp [spec_l11Scores.l0])
  | succ k1 =>
   have H := HA.out
   clear HA
   simp only [spec_l11Scores.l0] at H
   by_cases c6 : x4_1 > 0
   ·rw [if_pos c6] at H
    have c6b0 : decide (0 < x4_1) = true := decide_eq_true c6
    clear c6
    replace H := Option.bind_eq_some_iff.mp H
    obtain ⟨⟨t454, t455⟩, A70, H⟩ := H
    replace H : ((spec_l1Rd_one.f k1 s0_0 t455 (([0, 1, 1, 2, (-5), 7, 1000000000] : List Int))).bind fun bt459 => ((spec_ScoresPut.f k1 x3_1 t454 bt459.1).bind fun bt461 => (spec_l11Scores.l0 k1 bt461.1 (wrap64 (x4_1 - 1)) s0_0 bt459.2))) = some (r1, r2) := H
    have A7 := Aside0.mk A70
    clear A70
    obtain ⟨y456, hy456⟩ : ∃ y_ : List Int, y_ = (([0, 1, 1, 2, (-5), 7, 1000000000] : List Int)) := ⟨_, rfl⟩
    replace H : ((spec_l1Rd_one.f k1 s0_0 t455 y456).bind fun bt459 => ((spec_ScoresPut.f k1 x3_1 t454 bt459.1).bind fun bt461 => (spec_l11Scores.l0 k1 bt461.1 (wrap64 (x4_1 - 1)) s0_0 bt459.2))) = some (r1, r2) := by first | (rw [hy456]; with_reducible exact H) | (have H2_ := (Option.bind_some _ _).symm.trans H; rw [hy456]; with_reducible exact H2_) | (have H2_ := (Option.bind_some _ _).symm.trans H; with_reducible exact H2_) | with_reducible exact H | (rw [hy456]; exact H) | exact H
    have Ny456 := Aside0.mk hy456
    clear hy456
    replace H := Option.bind_eq_some_iff.mp H
    obtain ⟨⟨t459, t460⟩, A80, H⟩ := H
    replace H : ((spec_ScoresPut.f k1 x3_1 t454 t459).bind fun bt461 => (spec_l11Scores.l0 k1 bt461.1 (wrap64 (x4_1 - 1)) s0_0 t460)) = some (r1, r2) := H
    have A8 := Aside0.mk A80
    clear A80
    replace H := Option.bind_eq_some_iff.mp H
    obtain ⟨⟨t461, t464, t465⟩, A90, H⟩ := H
    replace H : (spec_l11Scores.l0 k1 t461 (wrap64 (x4_1 - 1)) s0_0 t460) = some (r1, r2) := H
    have A9 := Aside0.mk A90
    clear A90
    have H' := Aside0.mk H
    clear H
    go_wp2_with (first | ((with_reducible refine gate_callee (f := 56) rfl ?_); refine goesL_ (some 16) rfl rfl Try.func56 (by kernel_rfl) rfl #[.pointer (some ⟨g, 0, none⟩)] rfl (by (try simp only [List.map_toArray, List.map_cons, List.map_nil]); first | done | rfl | (simp only [List.length_drop, List.length_take]; rfl)) ?_; (with_reducible refine (spec_l11Text.calls k1 g s0_0 x1001_1 t454 t455 w0 _ ?side1 ?side2 A7.out).mono ?_); (case side1 => repeat (first | (with_reducible first | exact HI0.out | apply IsS82.alloc | apply IsS82.drewN | apply IsS82.drew | apply IsS82.set_1) | exact HI0.out)); (case side2 => repeat (first | (with_reducible first | exact HB.out | apply below_alloc | apply pw_below_drewN | apply below_drew1 | refine below_set ?_ (IsS82.ge HI0.out)) | exact HB.out)); rintro e w10 ⟨rfl, hi, hb, hk⟩; refine ⟨_, rfl, ?_⟩; have n0_ := Aside0.mk (Kd.R_mono (Kd.R_keep (IsS82.apart (show IsS82 w0 _ g s0_0 x1001_1 from by repeat (first | (with_reducible first | exact HI0.out | apply IsS82.alloc | apply IsS82.drewN | apply IsS82.drew | apply IsS82.set_1) | exact HI0.out)) (by (with_reducible repeat (first | apply Kd.R_alloc | apply Kd.R_drewN | apply Kd.R_drew)); exact HO_3.out) (by decide)) hk (fun _ h => h.2)) (fun _ h => h.1)); have n1_ := Aside0.mk (KeepBut.trans (by repeat (first | (with_reducible first | exact HK.out | apply KeepBut.set_ | apply keep_drewN | apply keep_drew | apply keep_alloc) | exact HK.out)) hk (.inl rfl)); have n2_ := Aside0.mk (hb); have n3_ := Aside0.mk (hi); clear HO_3; clear HK; clear HB; clear HI0; have HO_3 := n0_; have HK := n1_; have HB := n2_; have HI0 := n3_; clear n0_ n1_ n2_ n3_; (try clear hb); (try clear hb2); (try clear hk); (try clear hi)) | ((with_reducible refine gate_dst (N := 18) rfl ?_); refine Kd.R_lit (Kd.int .i64) _ 3 ?hg (N := 18) ?hd (xs := ([0, 1, 1, 2, (-5), 7, 1000000000] : List Int)) (inner := [.int .i64 0, .int .i64 1, .int .i64 1, .int .i64 2, .int .i64 (-5), .int .i64 7, .int .i64 1000000000]) (ok := fun _ => True) (okp := fun _ => True) ?hr ?hp (fun _ hk => hk) trivial (Below.refl _ _) (Nat.le_refl _) (by simp) ?_; (case hd => rfl); (case hg => rfl); (case hr => first | (go_simp; done) | (go_simp; rfl)); (case hp => exact (Reps.one (show Kd.M (Kd.int .i64) _ _ _ 0 [.int .i64 0] from rfl) (Reps.one (show Kd.M (Kd.int .i64) _ _ _ 1 [.int .i64 1] from rfl) (Reps.one (show Kd.M (Kd.int .i64) _ _ _ 1 [.int .i64 1] from rfl) (Reps.one (show Kd.M (Kd.int .i64) _ _ _ 2 [.int .i64 2] from rfl) (Reps.one (show Kd.M (Kd.int .i64) _ _ _ (-5) [.int .i64 (-5)] from rfl) (Reps.one (show Kd.M (Kd.int .i64) _ _ _ 7 [.int .i64 7] from rfl) (Reps.one (show Kd.M (Kd.int .i64) _ _ _ 1000000000 [.int .i64 1000000000] from rfl) (Reps.none _ _))))))))); intro v457 w11 ho12 hb hg_ hnew_; clear hg_ hnew_; (first | rw [← Ny456.out] at ho12 | (simp only [Int.reduceToNat] at ho12; rw [← Ny456.out] at ho12)); have n0_ := Aside0.mk (Kd.R_below (by (with_reducible repeat (first | apply Kd.R_alloc | apply Kd.R_drewN | apply Kd.R_drew)); exact HO_3.out) hb); have n1_ := Aside0.mk (Kd.R_lower ho12 (keep_size (w := w) (g := g) (row := none) (by repeat (first | (with_reducible first | exact HK.out | apply KeepBut.set_ | apply keep_drewN | apply keep_drew | apply keep_alloc) | exact HK.out)))); have n2_ := Aside0.mk (IsS82.below (by repeat (first | (with_reducible first | exact HI0.out | apply IsS82.alloc | apply IsS82.drewN | apply IsS82.drew | apply IsS82.set_1) | exact HI0.out)) hb); have n3_ := Aside0.mk (KeepBut.trans (by repeat (first | (with_reducible first | exact HK.out | apply KeepBut.set_ | apply keep_drewN | apply keep_drew | apply keep_alloc) | exact HK.out)) (KeepBut.of_below hb g none) (.inl rfl)); have n4_ := Aside0.mk (below_step (by repeat (first | (with_reducible first | exact HB.out | apply below_alloc | apply pw_below_drewN | apply below_drew1 | refine below_set ?_ (IsS82.ge HI0.out)) | exact HB.out)) hb); clear HO_3; clear HI0; clear HK; clear HB; have HO_3 := n0_; have HO458 := n1_; have HI0 := n2_; have HK := n3_; have HB := n4_; clear n0_ n1_ n2_ n3_ n4_; clear hb ho12; obtain ⟨Ao13, co13, eo13⟩ := Kd.R_slice HO458.out; subst eo13) | ((with_reducible refine gate_callee (f := 64) rfl ?_); refine goesL_ (some 19) rfl rfl Try.func64 (by kernel_rfl) rfl #[.pointer (some ⟨g, 0, none⟩), .slice Ao13 y456.length co13] rfl (by (try simp only [List.map_toArray, List.map_cons, List.map_nil]); first | done | rfl | (simp only [List.length_drop, List.length_take]; rfl)) ?_; (with_reducible refine (spec_l1Rd_one.calls k1 g s0_0 t455 _ _ y456 t459 t460 w0 _ ?side1 ?side2 ?side3 ?side4 ?side5 A8.out).mono ?_); (case side1 => repeat (first | (with_reducible first | exact HI0.out | apply IsS82.alloc | apply IsS82.drewN | apply IsS82.drew | apply IsS82.set_1) | exact HI0.out)); (case side2 => repeat (first | (with_reducible first | exact HB.out | apply below_alloc | apply pw_below_drewN | apply below_drew1 | refine below_set ?_ (IsS82.ge HI0.out)) | exact HB.out)); (case side3 => repeat (first | exact (Kd.R_reads' HO458.out).2.2 | (with_reducible refine Kd.C_alloc ?_ _) | (with_reducible refine Kd.C_drewN ?_ _) | (with_reducible refine Kd.C_drew ?_))); (case side4 => exact (Kd.R_reads' HO458.out).2.1); (case side5 => exact far_slice (IsS82.own_ne HI0.out HO458.out (by decide))); rintro e w14 ⟨rfl, hi, hb, hk⟩; refine ⟨_, rfl, ?_⟩; have n0_ := Aside0.mk (Kd.R_mono (Kd.R_keep (IsS82.apart (show IsS82 w0 _ g s0_0 t455 from by repeat (first | (with_reducible first | exact HI0.out | apply IsS82.alloc | apply IsS82.drewN | apply IsS82.drew | apply IsS82.set_1) | exact HI0.out)) (by (with_reducible repeat (first | apply Kd.R_alloc | apply Kd.R_drewN | apply Kd.R_drew)); exact HO_3.out) (by decide)) hk (fun _ h => h.2)) (fun _ h => h.1)); have n1_ := Aside0.mk (Kd.R_mono (Kd.R_keep (IsS82.apart (show IsS82 w0 _ g s0_0 t455 from by repeat (first | (with_reducible first | exact HI0.out | apply IsS82.alloc | apply IsS82.drewN | apply IsS82.drew | apply IsS82.set_1) | exact HI0.out)) (by (with_reducible repeat (first | apply Kd.R_alloc | apply Kd.R_drewN | apply Kd.R_drew)); exact HO458.out) (by decide)) hk (fun _ h => h.2)) (fun _ h => h.1)); have n2_ := Aside0.mk (KeepBut.trans (by repeat (first | (with_reducible first | exact HK.out | apply KeepBut.set_ | apply keep_drewN | apply keep_drew | apply keep_alloc) | exact HK.out)) hk (.inl rfl)); have n3_ := Aside0.mk (hb); have n4_ := Aside0.mk (hi); clear HO_3; clear HO458; clear HK; clear HB; clear HI0; have HO_3 := n0_; have HO458 := n1_; have HK := n2_; have HB := n3_; have HI0 := n4_; clear n0_ n1_ n2_ n3_ n4_; (try clear hb); (try clear hb2); (try clear hk); (try clear hi); obtain ⟨Ao15, co15, eo15⟩ := Kd.R_slice HO_3.out; subst eo15) | ((with_reducible refine gate_callee (f := 36) rfl ?_); refine goesL_ (some 21) rfl rfl Try.func36 (by kernel_rfl) rfl #[.slice Ao15 x3_1.length co15, .agg #[.string t454, .int .i64 t459]] rfl (by (try simp only [List.map_toArray, List.map_cons, List.map_nil]); first | done | rfl | (simp only [List.length_drop, List.length_take]; rfl)) ?_; (with_reducible refine (spec_ScoresPut.calls k1 _ _ x3_1 t454 t459 t461 t464 t465 _ ?side1 ?side2 A9.out).mono ?_); (case side1 => repeat (first | exact (Kd.R_reads' HO_3.out).2.2 | (with_reducible refine Kd.C_alloc ?_ _) | (with_reducible refine Kd.C_drewN ?_ _) | (with_reducible refine Kd.C_drew ?_))); (case side2 => exact (Kd.R_reads' HO_3.out).2.1); rintro e w16 ⟨v462, rfl, ho0, hb⟩; refine ⟨_, rfl, ?_⟩; have n0_ := Aside0.mk (Kd.R_elder' (by (with_reducible repeat (first | apply Kd.R_alloc | apply Kd.R_drewN | apply Kd.R_drew)); exact HO_3.out) (Kd.R_base ho0) hb); have n1_ := Aside0.mk (Kd.R_below (by (with_reducible repeat (first | apply Kd.R_alloc | apply Kd.R_drewN | apply Kd.R_drew)); exact HO458.out) hb); have n2_ := Aside0.mk (Kd.R_lower (Kd.R_new' ho0 (Kd.R_lt (by (with_reducible repeat (first | apply Kd.R_alloc | apply Kd.R_drewN | apply Kd.R_drew)); exact HO_3.out))) (keep_size (w := w) (g := g) (row := none) (by repeat (first | (with_reducible first | exact HK.out | apply KeepBut.set_ | apply keep_drewN | apply keep_drew | apply keep_alloc) | exact HK.out)))); have n3_ := Aside0.mk (IsS82.below (by repeat (first | (with_reducible first | exact HI0.out | apply IsS82.alloc | apply IsS82.drewN | apply IsS82.drew | apply IsS82.set_1) | exact HI0.out)) hb); have n4_ := Aside0.mk (KeepBut.trans (by repeat (first | (with_reducible first | exact HK.out | apply KeepBut.set_ | apply keep_drewN | apply keep_drew | apply keep_alloc) | exact HK.out)) (KeepBut.of_below hb g none) (.inl rfl)); have n5_ := Aside0.mk (below_step (by repeat (first | (with_reducible first | exact HB.out | apply below_alloc | apply pw_below_drewN | apply below_drew1 | refine below_set ?_ (IsS82.ge HI0.out)) | exact HB.out)) hb); clear HO_3; clear HO458; clear HI0; clear HK; clear HB; have HO_3 := n0_; have HO458 := n1_; have HO463 := n2_; have HI0 := n3_; have HK := n4_; have HB := n5_; clear n0_ n1_ n2_ n3_ n4_ n5_; (try clear hb); (try clear hb2); (try clear hk); (try clear hi); (try clear ho0)))
    go_roundg k1
    case measure => have := HK1.out; omega
    case rel => exact ⟨(t461), (wrap64 (x4_1 - 1)), (t460), (by first | rfl | (simp; done) | (simp [*]; done)), H', ⟨by have := HK1.out; omega⟩, ⟨by (with_reducible repeat (first | apply Kd.R_alloc | apply Kd.R_drewN | apply Kd.R_drew)); exact Kd.R_mono HO463.out (fun _ hk => trivial)⟩, ⟨by repeat (first | (with_reducible first | exact HI0.out | apply IsS82.alloc | apply IsS82.drewN | apply IsS82.drew | apply IsS82.set_1) | exact HI0.out)⟩, ⟨by repeat (first | (with_reducible first | exact HK.out | apply KeepBut.set_ | apply keep_drewN | apply keep_drew | apply keep_alloc) | exact HK.out)⟩, ⟨by repeat (first | (with_reducible first | exact HB.out | apply below_alloc | apply pw_below_drewN | apply below_drew1 | refine below_set ?_ (IsS82.ge HI0.out)) | exact HB.out)⟩⟩
   ·rw [if_neg c6] at H
    have c6b0 : decide (0 < x4_1) = false := decide_eq_false c6
    clear c6
    replace H := Option.bind_eq_some_iff.mp H
    obtain ⟨⟨t466, t467⟩, A170, H⟩ := H
    replace H : (if t466 = 0 then (spec_l11Scores.l1 k1 x3_1 0 s0_0 t467) else (some (x3_1, t467))) = some (r1, r2) := H
    have A17 := Aside0.mk A170
    clear A170
    by_cases c18 : t466 = 0
    ·rw [if_pos c18] at H
     have c18b0 : (t466 == 0) = true := beq_iff_eq.mpr c18
     have c18b1 : (t466 != 0) = false := bne_eq_false_iff_eq.mpr c18
     clear c18
     have H' := Aside0.mk H
     clear H
     go_wp2_with (first | ((with_reducible refine gate_callee (f := 57) rfl ?_); refine goesL_ (some 26) rfl rfl Try.func57 (by kernel_rfl) rfl #[.pointer (some ⟨g, 0, none⟩), .int .i64 30] rfl (by (try simp only [List.map_toArray, List.map_cons, List.map_nil]); first | done | rfl | (simp only [List.length_drop, List.length_take]; rfl)) ?_; (with_reducible refine (spec_l1Rd_pick.calls k1 g s0_0 x1001_1 30 t466 t467 w0 _ ?side1 ?side2 A17.out).mono ?_); (case side1 => repeat (first | (with_reducible first | exact HI0.out | apply IsS82.alloc | apply IsS82.drewN | apply IsS82.drew | apply IsS82.set_1) | exact HI0.out)); (case side2 => repeat (first | (with_reducible first | exact HB.out | apply below_alloc | apply pw_below_drewN | apply below_drew1 | refine below_set ?_ (IsS82.ge HI0.out)) | exact HB.out)); rintro e w19 ⟨rfl, hi, hb, hk⟩; refine ⟨_, rfl, ?_⟩; have n0_ := Aside0.mk (Kd.R_mono (Kd.R_keep (IsS82.apart (show IsS82 w0 _ g s0_0 x1001_1 from by repeat (first | (with_reducible first | exact HI0.out | apply IsS82.alloc | apply IsS82.drewN | apply IsS82.drew | apply IsS82.set_1) | exact HI0.out)) (by (with_reducible repeat (first | apply Kd.R_alloc | apply Kd.R_drewN | apply Kd.R_drew)); exact HO_3.out) (by decide)) hk (fun _ h => h.2)) (fun _ h => h.1)); have n1_ := Aside0.mk (KeepBut.trans (by repeat (first | (with_reducible first | exact HK.out | apply KeepBut.set_ | apply keep_drewN | apply keep_drew | apply keep_alloc) | exact HK.out)) hk (.inl rfl)); have n2_ := Aside0.mk (hb); have n3_ := Aside0.mk (hi); clear HO_3; clear HK; clear HB; clear HI0; have HO_3 := n0_; have HK := n1_; have HB := n2_; have HI0 := n3_; clear n0_ n1_ n2_ n3_; (try clear hb); (try clear hb2); (try clear hk); (try clear hi)))
     go_loopg [3, 5] k1 (fun kq v3 v5 w' => ∃ (x3_2 : List (S40)) (x5_2 : Int), v5 = .int .i64 x5_2 ∧ Aside0 (spec_l11Scores.l1 kq x3_2 x5_2 s0_0 t467 = some (r1, r2)) ∧ Aside0 (kq ≤ k1) ∧ Aside0 (Kd.R k40 40 w' w.heap.size (fun _ => True) v3 x3_2) ∧ Aside0 (IsS82 w0 w' g s0_0 t467) ∧ Aside0 (KeepBut w w' g none) ∧ Aside0 (Below w0.heap.size w0 w'))
     case atStart => exact ⟨(x3_1), (0), (by first | rfl | (simp; done) | (simp [*]; done)), H', ⟨Nat.le_refl _⟩, ⟨by (with_reducible repeat (first | apply Kd.R_alloc | apply Kd.R_drewN | apply Kd.R_drew)); exact HO_3.out⟩, ⟨by repeat (first | (with_reducible first | exact HI0.out | apply IsS82.alloc | apply IsS82.drewN | apply IsS82.drew | apply IsS82.set_1) | exact HI0.out)⟩, ⟨by repeat (first | (with_reducible first | exact HK.out | apply KeepBut.set_ | apply keep_drewN | apply keep_drew | apply keep_alloc) | exact HK.out)⟩, ⟨by repeat (first | (with_reducible first | exact HB.out | apply below_alloc | apply pw_below_drewN | apply below_drew1 | refine below_set ?_ (IsS82.ge HI0.out)) | exact HB.out)⟩⟩
     case round =>
      clear H'
      try clear c1
      try clear p2
      try clear c3
      try clear c5
      try clear c6
      try clear c6b0
      try clear p6
      try clear c7
      try clear c18
      try clear c18b0
      try clear c18b1
      try clear p2
      obtain ⟨x3_2, x5_2, rfl, HA, HK2, HO_3, HI0, HK, HB⟩ := hrel
      cases gk with
      | zero => exact absurd HA.out (by simp [spec_l11Scores.l1])
      | succ k2 =>
       have H := HA.out
       clear HA
       simp only [spec_l11Scores.l1] at H
       by_cases c20 : (x3_2.length : Int) < 16
       ·rw [if_pos c20] at H
        have c20b0 : decide ((x3_2.length : Int) < 16) = true := decide_eq_true c20
        have c20b1 : decide (x3_2.length < 16) = true := decide_eq_true (by omega)
        clear c20
        replace H := Option.bind_eq_some_iff.mp H
        obtain ⟨t468, A210, H⟩ := H
        replace H : (if 1 + t468.size ≤ 9223372036854775807 then ((spec_ScoresPut.f k2 x3_2 ((⟨#[110]⟩ : ByteArray) ++ t468) (Int.tmod x5_2 3)).bind fun bt469 => (spec_l11Scores.l1 k2 bt469.1 (wrap64 (x5_2 + 1)) s0_0 t467)) else (none)) = some (r1, r2) := H
        have A21 := Aside0.mk A210
        clear A210
        by_cases c22 : 1 + t468.size ≤ 9223372036854775807
        ·rw [if_pos c22] at H
         have c22b0 := eq_true c22
         have c22b1 : decide (1 + t468.size ≤ 9223372036854775807) = true := decide_eq_true c22
         try have c22b2 : (9223372036854775807 < 1 + t468.size) = False := eq_false (Nat.not_lt.2 c22)
         replace H := Option.bind_eq_some_iff.mp H
         obtain ⟨⟨t469, t472, t473⟩, A230, H⟩ := H
         replace H : (spec_l11Scores.l1 k2 t469 (wrap64 (x5_2 + 1)) s0_0 t467) = some (r1, r2) := H
         have A23 := Aside0.mk A230
         clear A230
         have H' := Aside0.mk H
         clear H
         obtain ⟨Ao24, co24, eo24⟩ := Kd.R_slice HO_3.out
         subst eo24
         go_wp2_with (first | ((with_reducible refine gate_callee (f := 76) rfl ?_); refine goesL_ (some 36) rfl rfl Try.func76 (by kernel_rfl) rfl #[.int .i64 x5_2] rfl (by (try simp only [List.map_toArray, List.map_cons, List.map_nil]); first | done | rfl | (simp only [List.length_drop, List.length_take]; rfl)) ?_; (with_reducible refine (spec_l1Dec.calls k2 x5_2 t468 _ A21.out).mono ?_); rintro e w25 ⟨rfl, hb⟩; refine ⟨_, rfl, ?_⟩; have n0_ := Aside0.mk (Kd.R_below (by (with_reducible repeat (first | apply Kd.R_alloc | apply Kd.R_drewN | apply Kd.R_drew)); exact HO_3.out) hb); have n1_ := Aside0.mk (IsS82.below (by repeat (first | (with_reducible first | exact HI0.out | apply IsS82.alloc | apply IsS82.drewN | apply IsS82.drew | apply IsS82.set_1) | exact HI0.out)) hb); have n2_ := Aside0.mk (KeepBut.trans (by repeat (first | (with_reducible first | exact HK.out | apply KeepBut.set_ | apply keep_drewN | apply keep_drew | apply keep_alloc) | exact HK.out)) (KeepBut.of_below hb g none) (.inl rfl)); have n3_ := Aside0.mk (below_step (by repeat (first | (with_reducible first | exact HB.out | apply below_alloc | apply pw_below_drewN | apply below_drew1 | refine below_set ?_ (IsS82.ge HI0.out)) | exact HB.out)) hb); clear HO_3; clear HI0; clear HK; clear HB; have HO_3 := n0_; have HI0 := n1_; have HK := n2_; have HB := n3_; clear n0_ n1_ n2_ n3_; (try clear hb); (try clear hb2); (try clear hk); (try clear hi)) | ((with_reducible refine gate_callee (f := 36) rfl ?_); refine goesL_ (some 41) rfl rfl Try.func36 (by kernel_rfl) rfl #[.slice Ao24 x3_2.length co24, .agg #[.string ((⟨#[110]⟩ : ByteArray) ++ t468), .int .i64 (Int.tmod x5_2 3)]] rfl (by (try simp only [List.map_toArray, List.map_cons, List.map_nil]); first | done | rfl | (simp only [List.length_drop, List.length_take]; rfl)) ?_; (with_reducible refine (spec_ScoresPut.calls k2 _ _ x3_2 ((⟨#[110]⟩ : ByteArray) ++ t468) (Int.tmod x5_2 3) t469 t472 t473 _ ?side1 ?side2 A23.out).mono ?_); (case side1 => repeat (first | exact (Kd.R_reads' HO_3.out).2.2 | (with_reducible refine Kd.C_alloc ?_ _) | (with_reducible refine Kd.C_drewN ?_ _) | (with_reducible refine Kd.C_drew ?_))); (case side2 => exact (Kd.R_reads' HO_3.out).2.1); rintro e w26 ⟨v470, rfl, ho0, hb⟩; refine ⟨_, rfl, ?_⟩; have n0_ := Aside0.mk (Kd.R_elder' (by (with_reducible repeat (first | apply Kd.R_alloc | apply Kd.R_drewN | apply Kd.R_drew)); exact HO_3.out) (Kd.R_base ho0) hb); have n1_ := Aside0.mk (Kd.R_lower (Kd.R_new' ho0 (Kd.R_lt (by (with_reducible repeat (first | apply Kd.R_alloc | apply Kd.R_drewN | apply Kd.R_drew)); exact HO_3.out))) (keep_size (w := w) (g := g) (row := none) (by repeat (first | (with_reducible first | exact HK.out | apply KeepBut.set_ | apply keep_drewN | apply keep_drew | apply keep_alloc) | exact HK.out)))); have n2_ := Aside0.mk (IsS82.below (by repeat (first | (with_reducible first | exact HI0.out | apply IsS82.alloc | apply IsS82.drewN | apply IsS82.drew | apply IsS82.set_1) | exact HI0.out)) hb); have n3_ := Aside0.mk (KeepBut.trans (by repeat (first | (with_reducible first | exact HK.out | apply KeepBut.set_ | apply keep_drewN | apply keep_drew | apply keep_alloc) | exact HK.out)) (KeepBut.of_below hb g none) (.inl rfl)); have n4_ := Aside0.mk (below_step (by repeat (first | (with_reducible first | exact HB.out | apply below_alloc | apply pw_below_drewN | apply below_drew1 | refine below_set ?_ (IsS82.ge HI0.out)) | exact HB.out)) hb); clear HO_3; clear HI0; clear HK; clear HB; have HO_3 := n0_; have HO471 := n1_; have HI0 := n2_; have HK := n3_; have HB := n4_; clear n0_ n1_ n2_ n3_ n4_; (try clear hb); (try clear hb2); (try clear hk); (try clear hi); (try clear ho0)))
         go_roundg k2
         case measure => have := HK1.out; have := HK2.out; omega
         case rel => exact ⟨(t469), (wrap64 (x5_2 + 1)), (by first | rfl | (simp; done) | (simp [*]; done)), H', ⟨by have := HK1.out; have := HK2.out; omega⟩, ⟨by (with_reducible repeat (first | apply Kd.R_alloc | apply Kd.R_drewN | apply Kd.R_drew)); exact Kd.R_mono HO471.out (fun _ hk => trivial)⟩, ⟨by repeat (first | (with_reducible first | exact HI0.out | apply IsS82.alloc | apply IsS82.drewN | apply IsS82.drew | apply IsS82.set_1) | exact HI0.out)⟩, ⟨by repeat (first | (with_reducible first | exact HK.out | apply KeepBut.set_ | apply keep_drewN | apply keep_drew | apply keep_alloc) | exact HK.out)⟩, ⟨by repeat (first | (with_reducible first | exact HB.out | apply below_alloc | apply pw_below_drewN | apply below_drew1 | refine below_set ?_ (IsS82.ge HI0.out)) | exact HB.out)⟩⟩
        ·rw [if_neg c22] at H
         exact absurd H (by simp)
       ·rw [if_neg c20] at H
        have c20b0 : decide ((x3_2.length : Int) < 16) = false := decide_eq_false c20
        have c20b1 : decide (x3_2.length < 16) = false := decide_eq_false (by omega)
        clear c20
        simp only [Option.some.injEq, Prod.mk.injEq] at H
        obtain ⟨rfl, rfl⟩ := H
        obtain ⟨Ao27, co27, eo27⟩ := Kd.R_slice HO_3.out
        subst eo27
        go_wp2
        go_ret
        exact ⟨_, by first | rfl | (simp [errW_none, errW_some] <;> rfl) | (simp [*, errW_none, errW_some] <;> rfl), by (with_reducible repeat (first | apply Kd.R_alloc | apply Kd.R_drewN | apply Kd.R_drew)); exact HO_3.out, by repeat (first | (with_reducible first | exact HI0.out | apply IsS82.alloc | apply IsS82.drewN | apply IsS82.drew | apply IsS82.set_1) | exact HI0.out), by repeat (first | (with_reducible first | exact HB.out | apply below_alloc | apply pw_below_drewN | apply below_drew1 | refine below_set ?_ (IsS82.ge HI0.out)) | exact HB.out), by repeat (first | (with_reducible first | exact HK.out | apply KeepBut.set_ | apply keep_drewN | apply keep_drew | apply keep_alloc) | exact HK.out)⟩
    ·rw [if_neg c18] at H
     have c18b0 : (t466 == 0) = false := beq_eq_false_iff_ne.mpr c18
     have c18b1 : (t466 != 0) = true := bne_iff_ne.mpr c18
     simp only [Option.some.injEq, Prod.mk.injEq] at H
     obtain ⟨rfl, rfl⟩ := H
     go_wp2_with (first | ((with_reducible refine gate_callee (f := 57) rfl ?_); refine goesL_ (some 26) rfl rfl Try.func57 (by kernel_rfl) rfl #[.pointer (some ⟨g, 0, none⟩), .int .i64 30] rfl (by (try simp only [List.map_toArray, List.map_cons, List.map_nil]); first | done | rfl | (simp only [List.length_drop, List.length_take]; rfl)) ?_; (with_reducible refine (spec_l1Rd_pick.calls k1 g s0_0 x1001_1 30 t466 t467 w0 _ ?side1 ?side2 A17.out).mono ?_); (case side1 => repeat (first | (with_reducible first | exact HI0.out | apply IsS82.alloc | apply IsS82.drewN | apply IsS82.drew | apply IsS82.set_1) | exact HI0.out)); (case side2 => repeat (first | (with_reducible first | exact HB.out | apply below_alloc | apply pw_below_drewN | apply below_drew1 | refine below_set ?_ (IsS82.ge HI0.out)) | exact HB.out)); rintro e w28 ⟨rfl, hi, hb, hk⟩; refine ⟨_, rfl, ?_⟩; have n0_ := Aside0.mk (Kd.R_mono (Kd.R_keep (IsS82.apart (show IsS82 w0 _ g s0_0 x1001_1 from by repeat (first | (with_reducible first | exact HI0.out | apply IsS82.alloc | apply IsS82.drewN | apply IsS82.drew | apply IsS82.set_1) | exact HI0.out)) (by (with_reducible repeat (first | apply Kd.R_alloc | apply Kd.R_drewN | apply Kd.R_drew)); exact HO_3.out) (by decide)) hk (fun _ h => h.2)) (fun _ h => h.1)); have n1_ := Aside0.mk (KeepBut.trans (by repeat (first | (with_reducible first | exact HK.out | apply KeepBut.set_ | apply keep_drewN | apply keep_drew | apply keep_alloc) | exact HK.out)) hk (.inl rfl)); have n2_ := Aside0.mk (hb); have n3_ := Aside0.mk (hi); clear HO_3; clear HK; clear HB; clear HI0; have HO_3 := n0_; have HK := n1_; have HB := n2_; have HI0 := n3_; clear n0_ n1_ n2_ n3_; (try clear hb); (try clear hb2); (try clear hk); (try clear hi)))
     go_ret
     exact ⟨_, by first | rfl | (simp [errW_none, errW_some] <;> rfl) | (simp [*, errW_none, errW_some] <;> rfl), by (with_reducible repeat (first | apply Kd.R_alloc | apply Kd.R_drewN | apply Kd.R_drew)); exact HO_3.out, by repeat (first | (with_reducible first | exact HI0.out | apply IsS82.alloc | apply IsS82.drewN | apply IsS82.drew | apply IsS82.set_1) | exact HI0.out), by repeat (first | (with_reducible first | exact HB.out | apply below_alloc | apply pw_below_drewN | apply below_drew1 | refine below_set ?_ (IsS82.ge HI0.out)) | exact HB.out), by repeat (first | (with_reducible first | exact HK.out | apply KeepBut.set_ | apply keep_drewN | apply keep_drew | apply keep_alloc) | exact HK.out)⟩
end Go.Proofs.Ytcpnekdhdmncfaa.P
namespace Go.Proofs.Ytcpnekdhdmncfaa.P
open Go.RowKit Go.Proofs.YtcpnekdhdmncfaaW.PrintWords Go.Proofs.YtcpnekdhdmncfaaW.PrintLast Go.Proofs.YtcpnekdhdmncfaaW.PrintMore
attribute [local go_sem] max2_int min2_int max_two min_two max_three min_three max_four min_four   -- for this text's walks alone
set_option linter.unusedVariables false
set_option linter.unusedSimpArgs false
set_option maxHeartbeats 8000000 in
set_option maxRecDepth 100000 in
theorem spec_l11AnyScores.calls (k : Nat) (g : Nat) (s0_0 : List Int) (s0_1 : Int) (r1 : List (S40)) (r2 : Int) (w0 w : World) (hI : IsS82 w0 w g s0_0 s0_1) (hB : Below w0.heap.size w0 w) (h : spec_l11AnyScores.f k s0_0 s0_1 = some (r1, r2)) :
    Calls Try.prog 55 #[.pointer (some ⟨g, 0, none⟩)] w fun e w' => ∃ v0_ : Value, e = .returned (v0_) ∧ Kd.R k40 40 w' w.heap.size (fun _ => True) v0_ r1 ∧ IsS82 w0 w' g s0_0 r2 ∧ Below w0.heap.size w0 w' ∧ KeepBut w w' g none := by
  have hu40 := Try.underlying40
  have HI0 := Aside0.mk hI
  have HK := Aside0.mk (KeepBut.refl w g none)
  have HL := Aside0.mk hB.size
  clear hI
  have HW0 := Aside0.mk hB.size
  have HB := Aside0.mk hB
  clear hB
  have H : ((spec_l11Scores.f k s0_0 s0_1).bind fun bt474 => ((spec_l1Rd_pick.f k s0_0 bt474.2 10).bind fun bt478 => (if bt478.1 = 0 then ((spec_l11Text.f k s0_0 bt478.2).bind fun bt480 => ((spec_l1Rd_one.f k s0_0 bt480.2 (([0, 1000000001] : List Int))).bind fun bt485 => (if bt474.1.length < 5864062014805 then (some ((bt474.1 ++ [(⟨bt480.1, bt485.1⟩ : S40)]), bt485.2)) else (none)))) else (some (bt474.1, bt478.2))))) = some (r1, r2) := h
  clear h
  replace H := Option.bind_eq_some_iff.mp H
  obtain ⟨⟨t474, t477⟩, A20, H⟩ := H
  replace H : ((spec_l1Rd_pick.f k s0_0 t477 10).bind fun bt478 => (if bt478.1 = 0 then ((spec_l11Text.f k s0_0 bt478.2).bind fun bt480 => ((spec_l1Rd_one.f k s0_0 bt480.2 (([0, 1000000001] : List Int))).bind fun bt485 => (if t474.length < 5864062014805 then (some ((t474 ++ [(⟨bt480.1, bt485.1⟩ : S40)]), bt485.2)) else (none)))) else (some (t474, bt478.2)))) = some (r1, r2) := H
  have A2 := Aside0.mk A20
  clear A20
  replace H := Option.bind_eq_some_iff.mp H
  obtain ⟨⟨t478, t479⟩, A30, H⟩ := H
  replace H : (if t478 = 0 then ((spec_l11Text.f k s0_0 t479).bind fun bt480 => ((spec_l1Rd_one.f k s0_0 bt480.2 (([0, 1000000001] : List Int))).bind fun bt485 => (if t474.length < 5864062014805 then (some ((t474 ++ [(⟨bt480.1, bt485.1⟩ : S40)]), bt485.2)) else (none)))) else (some (t474, t479))) = some (r1, r2) := H
  have A3 := Aside0.mk A30
  clear A30
  by_cases c4 : t478 = 0
  · rw [if_pos c4] at H
    have c4b0 : (t478 == 0) = true := beq_iff_eq.mpr c4
    have c4b1 : (t478 != 0) = false := bne_eq_false_iff_eq.mpr c4
    clear c4
    replace H := Option.bind_eq_some_iff.mp H
    obtain ⟨⟨t480, t481⟩, A50, H⟩ := H
    replace H : ((spec_l1Rd_one.f k s0_0 t481 (([0, 1000000001] : List Int))).bind fun bt485 => (if t474.length < 5864062014805 then (some ((t474 ++ [(⟨t480, bt485.1⟩ : S40)]), bt485.2)) else (none))) = some (r1, r2) := H
    have A5 := Aside0.mk A50
    clear A50
    obtain ⟨y482, hy482⟩ : ∃ y_ : List Int, y_ = (([0, 1000000001] : List Int)) := ⟨_, rfl⟩
    replace H : ((spec_l1Rd_one.f k s0_0 t481 y482).bind fun bt485 => (if t474.length < 5864062014805 then (some ((t474 ++ [(⟨t480, bt485.1⟩ : S40)]), bt485.2)) else (none))) = some (r1, r2) := by first | (rw [hy482]; with_reducible exact H) | (have H2_ := (Option.bind_some _ _).symm.trans H; rw [hy482]; with_reducible exact H2_) | (have H2_ := (Option.bind_some _ _).symm.trans H; with_reducible exact H2_) | with_reducible exact H | (rw [hy482]; exact H) | exact H
    have Ny482 := Aside0.mk hy482
    clear hy482
    replace H := Option.bind_eq_some_iff.mp H
    obtain ⟨⟨t485, t486⟩, A60, H⟩ := H
    replace H : (if t474.length < 5864062014805 then (some ((t474 ++ [(⟨t480, t485⟩ : S40)]), t486)) else (none)) = some (r1, r2) := H
    have A6 := Aside0.mk A60
    clear A60
    by_cases c7 : t474.length < 5864062014805
    · rw [if_pos c7] at H
      have LMc7 := Aside0.mk c7
      clear c7
      obtain ⟨y487, hy487⟩ : ∃ y_ : List (S40), y_ = (t474 ++ [(⟨t480, t485⟩ : S40)]) := ⟨_, rfl⟩
      replace H : (some (y487, t486)) = some (r1, r2) := by first | (rw [hy487]; with_reducible exact H) | (have H2_ := (Option.bind_some _ _).symm.trans H; rw [hy487]; with_reducible exact H2_) | (have H2_ := (Option.bind_some _ _).symm.trans H; with_reducible exact H2_) | with_reducible exact H | (rw [hy487]; exact H) | exact H
      have Ny487 := Aside0.mk hy487
      clear hy487
      simp only [Option.some.injEq, Prod.mk.injEq] at H
      obtain ⟨rfl, rfl⟩ := H
      go_enter Try.func55, Try.ntmps55
      go_wp2_with (first | ((with_reducible refine gate_callee (f := 70) rfl ?_); refine goesL_ (some 5) rfl rfl Try.func70 (by kernel_rfl) rfl #[.pointer (some ⟨g, 0, none⟩)] rfl (by (try simp only [List.map_toArray, List.map_cons, List.map_nil]); first | done | rfl | (simp only [List.length_drop, List.length_take]; rfl)) ?_; (with_reducible refine (spec_l11Scores.calls k g s0_0 s0_1 t474 t477 w0 _ ?side1 ?side2 A2.out).mono ?_); (case side1 => repeat (first | (with_reducible first | exact HI0.out | apply IsS82.alloc | apply IsS82.drewN | apply IsS82.drew | apply IsS82.set_1) | exact HI0.out)); (case side2 => repeat (first | (with_reducible first | exact HB.out | apply below_alloc | apply pw_below_drewN | apply below_drew1 | refine below_set ?_ (IsS82.ge HI0.out)) | exact HB.out)); rintro e w8 ⟨v475, rfl, ho0, hi, hb, hk⟩; refine ⟨_, rfl, ?_⟩; have n0_ := Aside0.mk (Kd.R_lower ho0 (keep_size (w := w) (g := g) (row := none) (by repeat (first | (with_reducible first | exact HK.out | apply KeepBut.set_ | apply keep_drewN | apply keep_drew | apply keep_alloc) | exact HK.out)))); have n1_ := Aside0.mk (KeepBut.trans (by repeat (first | (with_reducible first | exact HK.out | apply KeepBut.set_ | apply keep_drewN | apply keep_drew | apply keep_alloc) | exact HK.out)) hk (.inl rfl)); have n2_ := Aside0.mk (hb); have n3_ := Aside0.mk (hi); clear HK; clear HB; clear HI0; have HO476 := n0_; have HK := n1_; have HB := n2_; have HI0 := n3_; clear n0_ n1_ n2_ n3_; (try clear hb); (try clear hb2); (try clear hk); (try clear hi); (try clear ho0)) | ((with_reducible refine gate_callee (f := 57) rfl ?_); refine goesL_ (some 7) rfl rfl Try.func57 (by kernel_rfl) rfl #[.pointer (some ⟨g, 0, none⟩), .int .i64 10] rfl (by (try simp only [List.map_toArray, List.map_cons, List.map_nil]); first | done | rfl | (simp only [List.length_drop, List.length_take]; rfl)) ?_; (with_reducible refine (spec_l1Rd_pick.calls k g s0_0 t477 10 t478 t479 w0 _ ?side1 ?side2 A3.out).mono ?_); (case side1 => repeat (first | (with_reducible first | exact HI0.out | apply IsS82.alloc | apply IsS82.drewN | apply IsS82.drew | apply IsS82.set_1) | exact HI0.out)); (case side2 => repeat (first | (with_reducible first | exact HB.out | apply below_alloc | apply pw_below_drewN | apply below_drew1 | refine below_set ?_ (IsS82.ge HI0.out)) | exact HB.out)); rintro e w9 ⟨rfl, hi, hb, hk⟩; refine ⟨_, rfl, ?_⟩; have n0_ := Aside0.mk (Kd.R_mono (Kd.R_keep (IsS82.apart (show IsS82 w0 _ g s0_0 t477 from by repeat (first | (with_reducible first | exact HI0.out | apply IsS82.alloc | apply IsS82.drewN | apply IsS82.drew | apply IsS82.set_1) | exact HI0.out)) (by (with_reducible repeat (first | apply Kd.R_alloc | apply Kd.R_drewN | apply Kd.R_drew)); exact HO476.out) (by decide)) hk (fun _ h => h.2)) (fun _ h => h.1)); have n1_ := Aside0.mk (KeepBut.trans (by repeat (first | (with_reducible first | exact HK.out | apply KeepBut.set_ | apply keep_drewN | apply keep_drew | apply keep_alloc) | exact HK.out)) hk (.inl rfl)); have n2_ := Aside0.mk (hb); have n3_ := Aside0.mk (hi); clear HO476; clear HK; clear HB; clear HI0; have HO476 := n0_; have HK := n1_; have HB := n2_; have HI0 := n3_; clear n0_ n1_ n2_ n3_; (try clear hb); (try clear hb2); (try clear hk); (try clear hi)) | ((with_reducible refine gate_callee (f := 56) rfl ?_); refine goesL_ (some 11) rfl rfl Try.func56 (by kernel_rfl) rfl #[.pointer (some ⟨g, 0, none⟩)] rfl (by (try simp only [List.map_toArray, List.map_cons, List.map_nil]); first | done | rfl | (simp only [List.length_drop, List.length_take]; rfl)) ?_; (with_reducible refine (spec_l11Text.calls k g s0_0 t479 t480 t481 w0 _ ?side1 ?side2 A5.out).mono ?_); (case side1 => repeat (first | (with_reducible first | exact HI0.out | apply IsS82.alloc | apply IsS82.drewN | apply IsS82.drew | apply IsS82.set_1) | exact HI0.out)); (case side2 => repeat (first | (with_reducible first | exact HB.out | apply below_alloc | apply pw_below_drewN | apply below_drew1 | refine below_set ?_ (IsS82.ge HI0.out)) | exact HB.out)); rintro e w10 ⟨rfl, hi, hb, hk⟩; refine ⟨_, rfl, ?_⟩; have n0_ := Aside0.mk (Kd.R_mono (Kd.R_keep (IsS82.apart (show IsS82 w0 _ g s0_0 t479 from by repeat (first | (with_reducible first | exact HI0.out | apply IsS82.alloc | apply IsS82.drewN | apply IsS82.drew | apply IsS82.set_1) | exact HI0.out)) (by (with_reducible repeat (first | apply Kd.R_alloc | apply Kd.R_drewN | apply Kd.R_drew)); exact HO476.out) (by decide)) hk (fun _ h => h.2)) (fun _ h => h.1)); have n1_ := Aside0.mk (KeepBut.trans (by repeat (first | (with_reducible first | exact HK.out | apply KeepBut.set_ | apply keep_drewN | apply keep_drew | apply keep_alloc) | exact HK.out)) hk (.inl rfl)); have n2_ := Aside0.mk (hb); have n3_ := Aside0.mk (hi); clear HO476; clear HK; clear HB; clear HI0; have HO476 := n0_; have HK := n1_; have HB := n2_; have HI0 := n3_; clear n0_ n1_ n2_ n3_; (try clear hb); (try clear hb2); (try clear hk); (try clear hi)) | ((with_reducible refine gate_dst (N := 13) rfl ?_); refine Kd.R_lit (Kd.int .i64) _ 3 ?hg (N := 13) ?hd (xs := ([0, 1000000001] : List Int)) (inner := [.int .i64 0, .int .i64 1000000001]) (ok := fun _ => True) (okp := fun _ => True) ?hr ?hp (fun _ hk => hk) trivial (Below.refl _ _) (Nat.le_refl _) (by simp) ?_; (case hd => rfl); (case hg => rfl); (case hr => first | (go_simp; done) | (go_simp; rfl)); (case hp => exact (Reps.one (show Kd.M (Kd.int .i64) _ _ _ 0 [.int .i64 0] from rfl) (Reps.one (show Kd.M (Kd.int .i64) _ _ _ 1000000001 [.int .i64 1000000001] from rfl) (Reps.none _ _)))); intro v483 w11 ho12 hb hg_ hnew_; clear hg_ hnew_; (first | rw [← Ny482.out] at ho12 | (simp only [Int.reduceToNat] at ho12; rw [← Ny482.out] at ho12)); have n0_ := Aside0.mk (Kd.R_below (by (with_reducible repeat (first | apply Kd.R_alloc | apply Kd.R_drewN | apply Kd.R_drew)); exact HO476.out) hb); have n1_ := Aside0.mk (Kd.R_lower ho12 (keep_size (w := w) (g := g) (row := none) (by repeat (first | (with_reducible first | exact HK.out | apply KeepBut.set_ | apply keep_drewN | apply keep_drew | apply keep_alloc) | exact HK.out)))); have n2_ := Aside0.mk (IsS82.below (by repeat (first | (with_reducible first | exact HI0.out | apply IsS82.alloc | apply IsS82.drewN | apply IsS82.drew | apply IsS82.set_1) | exact HI0.out)) hb); have n3_ := Aside0.mk (KeepBut.trans (by repeat (first | (with_reducible first | exact HK.out | apply KeepBut.set_ | apply keep_drewN | apply keep_drew | apply keep_alloc) | exact HK.out)) (KeepBut.of_below hb g none) (.inl rfl)); have n4_ := Aside0.mk (below_step (by repeat (first | (with_reducible first | exact HB.out | apply below_alloc | apply pw_below_drewN | apply below_drew1 | refine below_set ?_ (IsS82.ge HI0.out)) | exact HB.out)) hb); clear HO476; clear HI0; clear HK; clear HB; have HO476 := n0_; have HO484 := n1_; have HI0 := n2_; have HK := n3_; have HB := n4_; clear n0_ n1_ n2_ n3_ n4_; clear hb ho12; obtain ⟨Ao13, co13, eo13⟩ := Kd.R_slice HO484.out; subst eo13) | ((with_reducible refine gate_callee (f := 64) rfl ?_); refine goesL_ (some 14) rfl rfl Try.func64 (by kernel_rfl) rfl #[.pointer (some ⟨g, 0, none⟩), .slice Ao13 y482.length co13] rfl (by (try simp only [List.map_toArray, List.map_cons, List.map_nil]); first | done | rfl | (simp only [List.length_drop, List.length_take]; rfl)) ?_; (with_reducible refine (spec_l1Rd_one.calls k g s0_0 t481 _ _ y482 t485 t486 w0 _ ?side1 ?side2 ?side3 ?side4 ?side5 A6.out).mono ?_); (case side1 => repeat (first | (with_reducible first | exact HI0.out | apply IsS82.alloc | apply IsS82.drewN | apply IsS82.drew | apply IsS82.set_1) | exact HI0.out)); (case side2 => repeat (first | (with_reducible first | exact HB.out | apply below_alloc | apply pw_below_drewN | apply below_drew1 | refine below_set ?_ (IsS82.ge HI0.out)) | exact HB.out)); (case side3 => repeat (first | exact (Kd.R_reads' HO484.out).2.2 | (with_reducible refine Kd.C_alloc ?_ _) | (with_reducible refine Kd.C_drewN ?_ _) | (with_reducible refine Kd.C_drew ?_))); (case side4 => exact (Kd.R_reads' HO484.out).2.1); (case side5 => exact far_slice (IsS82.own_ne HI0.out HO484.out (by decide))); rintro e w14 ⟨rfl, hi, hb, hk⟩; refine ⟨_, rfl, ?_⟩; have n0_ := Aside0.mk (Kd.R_mono (Kd.R_keep (IsS82.apart (show IsS82 w0 _ g s0_0 t481 from by repeat (first | (with_reducible first | exact HI0.out | apply IsS82.alloc | apply IsS82.drewN | apply IsS82.drew | apply IsS82.set_1) | exact HI0.out)) (by (with_reducible repeat (first | apply Kd.R_alloc | apply Kd.R_drewN | apply Kd.R_drew)); exact HO476.out) (by decide)) hk (fun _ h => h.2)) (fun _ h => h.1)); have n1_ := Aside0.mk (Kd.R_mono (Kd.R_keep (IsS82.apart (show IsS82 w0 _ g s0_0 t481 from by repeat (first | (with_reducible first | exact HI0.out | apply IsS82.alloc | apply IsS82.drewN | apply IsS82.drew | apply IsS82.set_1) | exact HI0.out)) (by (with_reducible repeat (first | apply Kd.R_alloc | apply Kd.R_drewN | apply Kd.R_drew)); exact HO484.out) (by decide)) hk (fun _ h => h.2)) (fun _ h => h.1)); have n2_ := Aside0.mk (KeepBut.trans (by repeat (first | (with_reducible first | exact HK.out | apply KeepBut.set_ | apply keep_drewN | apply keep_drew | apply keep_alloc) | exact HK.out)) hk (.inl rfl)); have n3_ := Aside0.mk (hb); have n4_ := Aside0.mk (hi); clear HO476; clear HO484; clear HK; clear HB; clear HI0; have HO476 := n0_; have HO484 := n1_; have HK := n2_; have HB := n3_; have HI0 := n4_; clear n0_ n1_ n2_ n3_ n4_; (try clear hb); (try clear hb2); (try clear hk); (try clear hi)) | ((with_reducible refine gate_builtin (b := .append) (xs := #[.tmp 9, .tmp 16]) rfl ?_); at_builtin; refine Kd.R_append k40 w.heap.size rfl (.tmp 9) (.tmp 16) 25 40 (.agg #[(.string ⟨#[]⟩), (.int .i64 0)]) 24 rfl Try.underlying25 info40 rfl (by decide) (by omega) v475 t474 (⟨t480, t485⟩ : S40) [.string t480, .int .i64 t485] (fun _ => True) (fun _ => False) rfl rfl ?aP (fun _ hk => hk.elim) ?aF ?aO (Below.refl _ _) ?aS ?aL ?_; (case aP => exact k40_mkM _ _ _ (⟨t480, t485⟩ : S40)); (case aF => exact (fun _ _ => trivial)); (case aO => exact (by (with_reducible repeat (first | apply Kd.R_alloc | apply Kd.R_drewN | apply Kd.R_drew)); exact HO476.out)); (case aS => exact (keep_size (w := w) (g := g) (row := none) (by repeat (first | (with_reducible first | exact HK.out | apply KeepBut.set_ | apply keep_drewN | apply keep_drew | apply keep_alloc) | exact HK.out)))); (case aL => have := LMc7.out; omega); intro v488 w15 ho hb hg hat; rw [← Ny487.out] at ho; have n0_ := Aside0.mk (IsS82.grown (by repeat (first | (with_reducible first | exact HI0.out | apply IsS82.alloc | apply IsS82.drewN | apply IsS82.drew | apply IsS82.set_1) | exact HI0.out)) hg (IsS82.own_ne HI0.out HO476.out (by decide))); have n1_ := Aside0.mk (Kd.R_over' (by (with_reducible repeat (first | apply Kd.R_alloc | apply Kd.R_drewN | apply Kd.R_drew)); exact HO484.out) (Kd.R_typed (by (with_reducible repeat (first | apply Kd.R_alloc | apply Kd.R_drewN | apply Kd.R_drew)); exact HO476.out)) (by decide) hg); have n2_ := Aside0.mk (below_weaken (by repeat (first | (with_reducible first | exact HB.out | apply below_alloc | apply pw_below_drewN | apply below_drew1 | refine below_set ?_ (IsS82.ge HI0.out)) | exact HB.out)) HL.out hb); have n3_ := Aside0.mk (KeepBut.trans (by repeat (first | (with_reducible first | exact HK.out | apply KeepBut.set_ | apply keep_drewN | apply keep_drew | apply keep_alloc) | exact HK.out)) (KeepBut.of_grown hg g) (Kd.R_base2 HO476.out)); have n4_ := Aside0.mk (ho); clear HI0; clear HO484; clear HB; clear HK; clear HO476; have HI0 := n0_; have HO484 := n1_; have HB := n2_; have HK := n3_; have HO489 := n4_; clear n0_ n1_ n2_ n3_ n4_; clear ho hb hg hat))
      go_ret
      exact ⟨_, by first | rfl | (simp [errW_none, errW_some] <;> rfl) | (simp [*, errW_none, errW_some] <;> rfl), by (with_reducible repeat (first | apply Kd.R_alloc | apply Kd.R_drewN | apply Kd.R_drew)); exact HO489.out, by repeat (first | (with_reducible first | exact HI0.out | apply IsS82.alloc | apply IsS82.drewN | apply IsS82.drew | apply IsS82.set_1) | exact HI0.out), by repeat (first | (with_reducible first | exact HB.out | apply below_alloc | apply pw_below_drewN | apply below_drew1 | refine below_set ?_ (IsS82.ge HI0.out)) | exact HB.out), by repeat (first | (with_reducible first | exact HK.out | apply KeepBut.set_ | apply keep_drewN | apply keep_drew | apply keep_alloc) | exact HK.out)⟩
    · rw [if_neg c7] at H
      exact absurd H (by simp)
  · rw [if_neg c4] at H
    have c4b0 : (t478 == 0) = false := beq_eq_false_iff_ne.mpr c4
    have c4b1 : (t478 != 0) = true := bne_iff_ne.mpr c4
    simp only [Option.some.injEq, Prod.mk.injEq] at H
    obtain ⟨rfl, rfl⟩ := H
    go_enter Try.func55, Try.ntmps55
    go_wp2_with (first | ((with_reducible refine gate_callee (f := 70) rfl ?_); refine goesL_ (some 5) rfl rfl Try.func70 (by kernel_rfl) rfl #[.pointer (some ⟨g, 0, none⟩)] rfl (by (try simp only [List.map_toArray, List.map_cons, List.map_nil]); first | done | rfl | (simp only [List.length_drop, List.length_take]; rfl)) ?_; (with_reducible refine (spec_l11Scores.calls k g s0_0 s0_1 t474 t477 w0 _ ?side1 ?side2 A2.out).mono ?_); (case side1 => repeat (first | (with_reducible first | exact HI0.out | apply IsS82.alloc | apply IsS82.drewN | apply IsS82.drew | apply IsS82.set_1) | exact HI0.out)); (case side2 => repeat (first | (with_reducible first | exact HB.out | apply below_alloc | apply pw_below_drewN | apply below_drew1 | refine below_set ?_ (IsS82.ge HI0.out)) | exact HB.out)); rintro e w16 ⟨v475, rfl, ho0, hi, hb, hk⟩; refine ⟨_, rfl, ?_⟩; have n0_ := Aside0.mk (Kd.R_lower ho0 (keep_size (w := w) (g := g) (row := none) (by repeat (first | (with_reducible first | exact HK.out | apply KeepBut.set_ | apply keep_drewN | apply keep_drew | apply keep_alloc) | exact HK.out)))); have n1_ := Aside0.mk (KeepBut.trans (by repeat (first | (with_reducible first | exact HK.out | apply KeepBut.set_ | apply keep_drewN | apply keep_drew | apply keep_alloc) | exact HK.out)) hk (.inl rfl)); have n2_ := Aside0.mk (hb); have n3_ := Aside0.mk (hi); clear HK; clear HB; clear HI0; have HO476 := n0_; have HK := n1_; have HB := n2_; have HI0 := n3_; clear n0_ n1_ n2_ n3_; (try clear hb); (try clear hb2); (try clear hk); (try clear hi); (try clear ho0)) | ((with_reducible refine gate_callee (f := 57) rfl ?_); refine goesL_ (some 7) rfl rfl Try.func57 (by kernel_rfl) rfl #[.pointer (some ⟨g, 0, none⟩), .int .i64 10] rfl (by (try simp only [List.map_toArray, List.map_cons, List.map_nil]); first | done | rfl | (simp only [List.length_drop, List.length_take]; rfl)) ?_; (with_reducible refine (spec_l1Rd_pick.calls k g s0_0 t477 10 t478 t479 w0 _ ?side1 ?side2 A3.out).mono ?_); (case side1 => repeat (first | (with_reducible first | exact HI0.out | apply IsS82.alloc | apply IsS82.drewN | apply IsS82.drew | apply IsS82.set_1) | exact HI0.out)); (case side2 => repeat (first | (with_reducible first | exact HB.out | apply below_alloc | apply pw_below_drewN | apply below_drew1 | refine below_set ?_ (IsS82.ge HI0.out)) | exact HB.out)); rintro e w17 ⟨rfl, hi, hb, hk⟩; refine ⟨_, rfl, ?_⟩; have n0_ := Aside0.mk (Kd.R_mono (Kd.R_keep (IsS82.apart (show IsS82 w0 _ g s0_0 t477 from by repeat (first | (with_reducible first | exact HI0.out | apply IsS82.alloc | apply IsS82.drewN | apply IsS82.drew | apply IsS82.set_1) | exact HI0.out)) (by (with_reducible repeat (first | apply Kd.R_alloc | apply Kd.R_drewN | apply Kd.R_drew)); exact HO476.out) (by decide)) hk (fun _ h => h.2)) (fun _ h => h.1)); have n1_ := Aside0.mk (KeepBut.trans (by repeat (first | (with_reducible first | exact HK.out | apply KeepBut.set_ | apply keep_drewN | apply keep_drew | apply keep_alloc) | exact HK.out)) hk (.inl rfl)); have n2_ := Aside0.mk (hb); have n3_ := Aside0.mk (hi); clear HO476; clear HK; clear HB; clear HI0; have HO476 := n0_; have HK := n1_; have HB := n2_; have HI0 := n3_; clear n0_ n1_ n2_ n3_; (try clear hb); (try clear hb2); (try clear hk); (try clear hi)))
    go_ret
    exact ⟨_, by first | rfl | (simp [errW_none, errW_some] <;> rfl) | (simp [*, errW_none, errW_some] <;> rfl), by (with_reducible repeat (first | apply Kd.R_alloc | apply Kd.R_drewN | apply Kd.R_drew)); exact HO476.out, by repeat (first | (with_reducible first | exact HI0.out | apply IsS82.alloc | apply IsS82.drewN | apply IsS82.drew | apply IsS82.set_1) | exact HI0.out), by repeat (first | (with_reducible first | exact HB.out | apply below_alloc | apply pw_below_drewN | apply below_drew1 | refine below_set ?_ (IsS82.ge HI0.out)) | exact HB.out), by repeat (first | (with_reducible first | exact HK.out | apply KeepBut.set_ | apply keep_drewN | apply keep_drew | apply keep_alloc) | exact HK.out)⟩
end Go.Proofs.Ytcpnekdhdmncfaa.P
namespace Go.Proofs.Ytcpnekdhdmncfaa.P
open Go.RowKit Go.Proofs.YtcpnekdhdmncfaaW.PrintWords Go.Proofs.YtcpnekdhdmncfaaW.PrintLast Go.Proofs.YtcpnekdhdmncfaaW.PrintMore
attribute [local go_sem] max2_int min2_int max_two min_two max_three min_three max_four min_four   -- for this text's walks alone
set_option linter.unusedVariables false
set_option linter.unusedSimpArgs false
set_option maxHeartbeats 8000000 in
set_option maxRecDepth 100000 in
theorem spec_DrawScoresPut.calls (k : Nat) (A0 : Option Addr) (c0 : Nat) (l0 : List Int) (r1 : List (S40)) (r2 : ByteArray) (r3 : Int) (w : World) (hr0 : Kd.C (Kd.int .u8) w A0 l0.length l0) (hc0 : l0.length ≤ c0) (h : spec_DrawScoresPut.f k l0 = some (r1, r2, r3)) :
    Calls Try.prog 39 #[.slice A0 l0.length c0] w fun e w' => ∃ v0_ : Value, e = .returned (.tuple #[v0_, .agg #[.string r2, .int .i64 r3]]) ∧ Kd.R k40 40 w' w.heap.size (fun _ => True) v0_ r1 ∧ Below w.heap.size w w' := by
  have hu40 := Try.underlying40
  have HR0 := Aside0.mk hr0
  have HC0 := Aside0.mk hc0
  clear hr0 hc0
  have HB := Aside0.mk (Below.refl w.heap.size w)
  have H : ((spec_l1Open.f l0).bind fun bt729 => ((spec_l11AnyScores.f k bt729.1 bt729.2).bind fun bt732 => ((spec_l11Text.f k bt729.1 bt732.2).bind fun bt736 => ((spec_l11Text.f k bt729.1 bt736.2).bind fun bt738 => ((spec_l1Many.f k (⟨#[121]⟩ : ByteArray) 41).bind fun t740 => ((spec_l1Rd_of.f k bt729.1 bt738.2 (([bt736.1, bt738.1, t740] : List ByteArray))).bind fun bt744 => ((spec_l1Rd_one.f k bt729.1 bt744.2 (([0, 1, 3, (-9), 1000000000, 1000000001] : List Int))).bind fun bt749 => (some (bt732.1, bt744.1, bt749.1))))))))) = some (r1, r2, r3) := h
  clear h
  replace H := Option.bind_eq_some_iff.mp H
  obtain ⟨⟨t729, t730⟩, A20, H⟩ := H
  replace H : ((spec_l11AnyScores.f k t729 t730).bind fun bt732 => ((spec_l11Text.f k t729 bt732.2).bind fun bt736 => ((spec_l11Text.f k t729 bt736.2).bind fun bt738 => ((spec_l1Many.f k (⟨#[121]⟩ : ByteArray) 41).bind fun t740 => ((spec_l1Rd_of.f k t729 bt738.2 (([bt736.1, bt738.1, t740] : List ByteArray))).bind fun bt744 => ((spec_l1Rd_one.f k t729 bt744.2 (([0, 1, 3, (-9), 1000000000, 1000000001] : List Int))).bind fun bt749 => (some (bt732.1, bt744.1, bt749.1)))))))) = some (r1, r2, r3) := H
  have A2 := Aside0.mk A20
  clear A20
  replace H := Option.bind_eq_some_iff.mp H
  obtain ⟨⟨t732, t735⟩, A30, H⟩ := H
  replace H : ((spec_l11Text.f k t729 t735).bind fun bt736 => ((spec_l11Text.f k t729 bt736.2).bind fun bt738 => ((spec_l1Many.f k (⟨#[121]⟩ : ByteArray) 41).bind fun t740 => ((spec_l1Rd_of.f k t729 bt738.2 (([bt736.1, bt738.1, t740] : List ByteArray))).bind fun bt744 => ((spec_l1Rd_one.f k t729 bt744.2 (([0, 1, 3, (-9), 1000000000, 1000000001] : List Int))).bind fun bt749 => (some (t732, bt744.1, bt749.1))))))) = some (r1, r2, r3) := H
  have A3 := Aside0.mk A30
  clear A30
  replace H := Option.bind_eq_some_iff.mp H
  obtain ⟨⟨t736, t737⟩, A40, H⟩ := H
  replace H : ((spec_l11Text.f k t729 t737).bind fun bt738 => ((spec_l1Many.f k (⟨#[121]⟩ : ByteArray) 41).bind fun t740 => ((spec_l1Rd_of.f k t729 bt738.2 (([t736, bt738.1, t740] : List ByteArray))).bind fun bt744 => ((spec_l1Rd_one.f k t729 bt744.2 (([0, 1, 3, (-9), 1000000000, 1000000001] : List Int))).bind fun bt749 => (some (t732, bt744.1, bt749.1)))))) = some (r1, r2, r3) := H
  have A4 := Aside0.mk A40
  clear A40
  replace H := Option.bind_eq_some_iff.mp H
  obtain ⟨⟨t738, t739⟩, A50, H⟩ := H
  replace H : ((spec_l1Many.f k (⟨#[121]⟩ : ByteArray) 41).bind fun t740 => ((spec_l1Rd_of.f k t729 t739 (([t736, t738, t740] : List ByteArray))).bind fun bt744 => ((spec_l1Rd_one.f k t729 bt744.2 (([0, 1, 3, (-9), 1000000000, 1000000001] : List Int))).bind fun bt749 => (some (t732, bt744.1, bt749.1))))) = some (r1, r2, r3) := H
  have A5 := Aside0.mk A50
  clear A50
  replace H := Option.bind_eq_some_iff.mp H
  obtain ⟨t740, A60, H⟩ := H
  replace H : ((spec_l1Rd_of.f k t729 t739 (([t736, t738, t740] : List ByteArray))).bind fun bt744 => ((spec_l1Rd_one.f k t729 bt744.2 (([0, 1, 3, (-9), 1000000000, 1000000001] : List Int))).bind fun bt749 => (some (t732, bt744.1, bt749.1)))) = some (r1, r2, r3) := H
  have A6 := Aside0.mk A60
  clear A60
  obtain ⟨y741, hy741⟩ : ∃ y_ : List ByteArray, y_ = (([t736, t738, t740] : List ByteArray)) := ⟨_, rfl⟩
  replace H : ((spec_l1Rd_of.f k t729 t739 y741).bind fun bt744 => ((spec_l1Rd_one.f k t729 bt744.2 (([0, 1, 3, (-9), 1000000000, 1000000001] : List Int))).bind fun bt749 => (some (t732, bt744.1, bt749.1)))) = some (r1, r2, r3) := by first | (rw [hy741]; with_reducible exact H) | (have H2_ := (Option.bind_some _ _).symm.trans H; rw [hy741]; with_reducible exact H2_) | (have H2_ := (Option.bind_some _ _).symm.trans H; with_reducible exact H2_) | with_reducible exact H | (rw [hy741]; exact H) | exact H
  have Ny741 := Aside0.mk hy741
  clear hy741
  replace H := Option.bind_eq_some_iff.mp H
  obtain ⟨⟨t744, t745⟩, A70, H⟩ := H
  replace H : ((spec_l1Rd_one.f k t729 t745 (([0, 1, 3, (-9), 1000000000, 1000000001] : List Int))).bind fun bt749 => (some (t732, t744, bt749.1))) = some (r1, r2, r3) := H
  have A7 := Aside0.mk A70
  clear A70
  obtain ⟨y746, hy746⟩ : ∃ y_ : List Int, y_ = (([0, 1, 3, (-9), 1000000000, 1000000001] : List Int)) := ⟨_, rfl⟩
  replace H : ((spec_l1Rd_one.f k t729 t745 y746).bind fun bt749 => (some (t732, t744, bt749.1))) = some (r1, r2, r3) := by first | (rw [hy746]; with_reducible exact H) | (have H2_ := (Option.bind_some _ _).symm.trans H; rw [hy746]; with_reducible exact H2_) | (have H2_ := (Option.bind_some _ _).symm.trans H; with_reducible exact H2_) | with_reducible exact H | (rw [hy746]; exact H) | exact H
  have Ny746 := Aside0.mk hy746
  clear hy746
  replace H := Option.bind_eq_some_iff.mp H
  obtain ⟨⟨t749, t750⟩, A80, H⟩ := H
  replace H : (some (t732, t744, t749)) = some (r1, r2, r3) := H
  have A8 := Aside0.mk A80
  clear A80
  simp only [Option.some.injEq, Prod.mk.injEq] at H
  obtain ⟨rfl, rfl, rfl⟩ := H
  go_enter Try.func39, Try.ntmps39
  go_wp2_with (first | ((with_reducible refine gate_dst (N := 3) rfl ?_); refine box_event ?hg (N := 3) ?hd (cs := #[.string (⟨#[]⟩ : ByteArray), .int .i64 0]) (t := 40) ?hr ?_; (case hd => rfl); (case hg => rfl); (case hr => first | (go_simp; done) | (go_simp; rfl)); intro gb728 hg w9 hbox hb; have n0_ := Aside0.mk (below_step (by repeat (first | (with_reducible first | exact HB.out | apply below_alloc | apply pw_below_drewN | apply below_drew1) | exact HB.out | exact Below.refl _ _)) hb); have n1_ := Aside0.mk (hbox); have n2_ := Aside0.mk ((by rw [hg]; exact (below_size (by repeat (first | (with_reducible first | exact HB.out | apply below_alloc | apply pw_below_drewN | apply below_drew1) | exact HB.out | exact Below.refl _ _))) : w.heap.size ≤ gb728)); have n3_ := Aside0.mk ((by rw [hg]; exact (below_size (by repeat (first | (with_reducible first | exact HB.out | apply below_alloc | apply pw_below_drewN | apply below_drew1) | exact HB.out | exact Below.refl _ _))) : w.heap.size ≤ gb728)); clear HB; have HB := n0_; have BK728 := n1_; have GW728 := n2_; have GE728 := n3_; clear n0_ n1_ n2_ n3_; clear hb hbox hg) | ((with_reducible refine gate_callee (f := 54) rfl ?_); refine goesL_ (some 6) rfl rfl Try.func54 (by kernel_rfl) rfl #[.slice A0 l0.length c0] rfl (by (try simp only [List.map_toArray, List.map_cons, List.map_nil]); first | done | rfl | (simp only [List.length_drop, List.length_take]; rfl)) ?_; (with_reducible refine (spec_l1Open.calls _ _ l0 t729 t730 w _ ?side1 ?side2 ?side3 A2.out).mono ?_); (case side1 => repeat (first | (with_reducible first | exact HB.out | apply below_alloc | apply pw_below_drewN | apply below_drew1 | refine below_set ?_ GE728.out) | exact HB.out)); (case side2 => exact HR0.out); (case side3 => exact HC0.out); rintro e w10 ⟨g731, rfl, hi, hb, hb2⟩; refine ⟨_, rfl, ?_⟩; have n0_ := Aside0.mk (blk_below (g := gb728) (o := .cells #[.string (⟨#[]⟩ : ByteArray), .int .i64 0] 40 (0, 0)) (by (with_reducible repeat (first | refine blk_drewN ?_ _ | refine blk_drew ?_ | refine blk_alloc ?_ _)); exact BK728.out) hb2); have n1_ := Aside0.mk (hb); have n2_ := Aside0.mk (hi); have n3_ := Aside0.mk (IsS82.ne_blk hi (blk_below (g := gb728) (o := .cells #[.string (⟨#[]⟩ : ByteArray), .int .i64 0] 40 (0, 0)) (by (with_reducible repeat (first | refine blk_drewN ?_ _ | refine blk_drew ?_ | refine blk_alloc ?_ _)); exact BK728.out) hb2) (by decide)); have n4_ := Aside0.mk (Ne.symm (IsS82.ne_blk hi (blk_below (g := gb728) (o := .cells #[.string (⟨#[]⟩ : ByteArray), .int .i64 0] 40 (0, 0)) (by (with_reducible repeat (first | refine blk_drewN ?_ _ | refine blk_drew ?_ | refine blk_alloc ?_ _)); exact BK728.out) hb2) (by decide))); clear BK728; clear HB; have BK728 := n0_; have HB := n1_; have HI731 := n2_; have NB731_728 := n3_; have NB728_731 := n4_; clear n0_ n1_ n2_ n3_ n4_; (try clear hb); (try clear hb2); (try clear hk); (try clear hi)) | ((with_reducible refine gate_callee (f := 55) rfl ?_); refine goesL_ (some 8) rfl rfl Try.func55 (by kernel_rfl) rfl #[.pointer (some ⟨g731, 0, none⟩)] rfl (by (try simp only [List.map_toArray, List.map_cons, List.map_nil]); first | done | rfl | (simp only [List.length_drop, List.length_take]; rfl)) ?_; (with_reducible refine (spec_l11AnyScores.calls k g731 t729 t730 t732 t735 w _ ?side1 ?side2 A3.out).mono ?_); (case side1 => repeat (first | (with_reducible first | exact HI731.out | apply IsS82.alloc | apply IsS82.drewN | apply IsS82.drew | apply IsS82.set_1 | refine IsS82.far ?_ NB731_728.out _) | exact HI731.out)); (case side2 => repeat (first | (with_reducible first | exact HB.out | apply below_alloc | apply pw_below_drewN | apply below_drew1 | refine below_set ?_ (IsS82.ge HI731.out) | refine below_set ?_ GE728.out) | exact HB.out)); rintro e w11 ⟨v733, rfl, ho0, hi, hb, hk⟩; refine ⟨_, rfl, ?_⟩; have n0_ := Aside0.mk (KeepBut.blk hk (g' := gb728) (o := .cells #[.string (⟨#[]⟩ : ByteArray), .int .i64 0] 40 (0, 0)) (by (with_reducible repeat (first | refine blk_drewN ?_ _ | refine blk_drew ?_ | refine blk_alloc ?_ _)); exact BK728.out) NB728_731.out (by simp)); have n1_ := Aside0.mk (Kd.R_lower (Kd.R_newB ho0 (g := gb728) (o := .cells #[.string (⟨#[]⟩ : ByteArray), .int .i64 0] 40 (0, 0)) (by (with_reducible repeat (first | refine blk_drewN ?_ _ | refine blk_drew ?_ | refine blk_alloc ?_ _)); exact BK728.out)) (below_size (by repeat (first | (with_reducible first | exact HB.out | apply below_alloc | apply pw_below_drewN | apply below_drew1 | refine below_set ?_ (IsS82.ge HI731.out) | refine below_set ?_ GE728.out) | exact HB.out)))); have n2_ := Aside0.mk (hb); have n3_ := Aside0.mk (hi); clear BK728; clear HB; clear HI731; have BK728 := n0_; have HO734 := n1_; have HB := n2_; have HI731 := n3_; clear n0_ n1_ n2_ n3_; (try clear hb); (try clear hb2); (try clear hk); (try clear hi); (try clear ho0)) | ((with_reducible refine gate_callee (f := 56) rfl ?_); refine goesL_ (some 11) rfl rfl Try.func56 (by kernel_rfl) rfl #[.pointer (some ⟨g731, 0, none⟩)] rfl (by (try simp only [List.map_toArray, List.map_cons, List.map_nil]); first | done | rfl | (simp only [List.length_drop, List.length_take]; rfl)) ?_; (with_reducible refine (spec_l11Text.calls k g731 t729 t735 t736 t737 w _ ?side1 ?side2 A4.out).mono ?_); (case side1 => repeat (first | (with_reducible first | exact HI731.out | apply IsS82.alloc | apply IsS82.drewN | apply IsS82.drew | apply IsS82.set_1 | refine IsS82.far ?_ NB731_728.out _) | exact HI731.out)); (case side2 => repeat (first | (with_reducible first | exact HB.out | apply below_alloc | apply pw_below_drewN | apply below_drew1 | refine below_set ?_ (IsS82.ge HI731.out) | refine below_set ?_ GE728.out) | exact HB.out)); rintro e w12 ⟨rfl, hi, hb, hk⟩; refine ⟨_, rfl, ?_⟩; have n0_ := Aside0.mk (KeepBut.blk hk (g' := gb728) (o := .cells #[.string (⟨#[]⟩ : ByteArray), .int .i64 0] 40 (0, 0)) (by (with_reducible repeat (first | refine blk_drewN ?_ _ | refine blk_drew ?_ | refine blk_alloc ?_ _)); exact BK728.out) NB728_731.out (by simp)); have n1_ := Aside0.mk (Kd.R_mono (Kd.R_keep (IsS82.apart (show IsS82 w _ g731 t729 t735 from by repeat (first | (with_reducible first | exact HI731.out | apply IsS82.alloc | apply IsS82.drewN | apply IsS82.drew | apply IsS82.set_1 | refine IsS82.far ?_ NB731_728.out _) | exact HI731.out)) (by (with_reducible repeat (first | apply Kd.R_alloc | apply Kd.R_drewN | apply Kd.R_drew)); exact HO734.out) (by decide)) hk (fun _ h => h.2)) (fun _ h => h.1)); have n2_ := Aside0.mk (hb); have n3_ := Aside0.mk (hi); clear BK728; clear HO734; clear HB; clear HI731; have BK728 := n0_; have HO734 := n1_; have HB := n2_; have HI731 := n3_; clear n0_ n1_ n2_ n3_; (try clear hb); (try clear hb2); (try clear hk); (try clear hi)) | ((with_reducible refine gate_callee (f := 56) rfl ?_); refine goesL_ (some 13) rfl rfl Try.func56 (by kernel_rfl) rfl #[.pointer (some ⟨g731, 0, none⟩)] rfl (by (try simp only [List.map_toArray, List.map_cons, List.map_nil]); first | done | rfl | (simp only [List.length_drop, List.length_take]; rfl)) ?_; (with_reducible refine (spec_l11Text.calls k g731 t729 t737 t738 t739 w _ ?side1 ?side2 A5.out).mono ?_); (case side1 => repeat (first | (with_reducible first | exact HI731.out | apply IsS82.alloc | apply IsS82.drewN | apply IsS82.drew | apply IsS82.set_1 | refine IsS82.far ?_ NB731_728.out _) | exact HI731.out)); (case side2 => repeat (first | (with_reducible first | exact HB.out | apply below_alloc | apply pw_below_drewN | apply below_drew1 | refine below_set ?_ (IsS82.ge HI731.out) | refine below_set ?_ GE728.out) | exact HB.out)); rintro e w13 ⟨rfl, hi, hb, hk⟩; refine ⟨_, rfl, ?_⟩; have n0_ := Aside0.mk (KeepBut.blk hk (g' := gb728) (o := .cells #[.string (⟨#[]⟩ : ByteArray), .int .i64 0] 40 (0, 0)) (by (with_reducible repeat (first | refine blk_drewN ?_ _ | refine blk_drew ?_ | refine blk_alloc ?_ _)); exact BK728.out) NB728_731.out (by simp)); have n1_ := Aside0.mk (Kd.R_mono (Kd.R_keep (IsS82.apart (show IsS82 w _ g731 t729 t737 from by repeat (first | (with_reducible first | exact HI731.out | apply IsS82.alloc | apply IsS82.drewN | apply IsS82.drew | apply IsS82.set_1 | refine IsS82.far ?_ NB731_728.out _) | exact HI731.out)) (by (with_reducible repeat (first | apply Kd.R_alloc | apply Kd.R_drewN | apply Kd.R_drew)); exact HO734.out) (by decide)) hk (fun _ h => h.2)) (fun _ h => h.1)); have n2_ := Aside0.mk (hb); have n3_ := Aside0.mk (hi); clear BK728; clear HO734; clear HB; clear HI731; have BK728 := n0_; have HO734 := n1_; have HB := n2_; have HI731 := n3_; clear n0_ n1_ n2_ n3_; (try clear hb); (try clear hb2); (try clear hk); (try clear hi)) | ((with_reducible refine gate_callee (f := 63) rfl ?_); refine goesL_ (some 14) rfl rfl Try.func63 (by kernel_rfl) rfl #[.string (⟨#[121]⟩ : ByteArray), .int .i64 41] rfl (by (try simp only [List.map_toArray, List.map_cons, List.map_nil]); first | done | rfl | (simp only [List.length_drop, List.length_take]; rfl)) ?_; (with_reducible refine (spec_l1Many.calls k (⟨#[121]⟩ : ByteArray) 41 t740 _ A6.out).mono ?_); rintro e w' ⟨rfl, ⟨nd, rfl⟩⟩; refine ⟨_, rfl, ?_⟩; (try (rw [drewN_self w13]; generalize hq_ : World.drewN w13 _ = w13; have n0_ : Aside0 (Kd.R k40 40 w13 w.heap.size (fun k_ => k_ ≠ gb728) v733 t732) := ⟨by rw [← hq_]; exact (by (with_reducible repeat (first | apply Kd.R_alloc | apply Kd.R_drewN | apply Kd.R_drew)); exact Kd.R_mono HO734.out (fun _ hk => hk.2))⟩; have n1_ : Aside0 (w13.heap[gb728]? = some (.cells #[.string (⟨#[]⟩ : ByteArray), .int .i64 0] 40 (0, 0))) := ⟨by rw [← hq_]; exact (by (with_reducible repeat (first | refine blk_drewN ?_ _ | refine blk_drew ?_ | refine blk_alloc ?_ _)); exact BK728.out)⟩; have n2_ : Aside0 (IsS82 w w13 g731 t729 t739) := ⟨by rw [← hq_]; exact (by repeat (first | (with_reducible first | exact HI731.out | apply IsS82.alloc | apply IsS82.drewN | apply IsS82.drew | apply IsS82.set_1 | refine IsS82.far ?_ NB731_728.out _) | exact HI731.out))⟩; have n3_ : Aside0 (Below w.heap.size w w13) := ⟨by rw [← hq_]; exact (by repeat (first | (with_reducible first | exact HB.out | apply below_alloc | apply pw_below_drewN | apply below_drew1 | refine below_set ?_ (IsS82.ge HI731.out) | refine below_set ?_ GE728.out) | exact HB.out))⟩; clear HO734 BK728 HI731 HB hq_; have HO734 := n0_; have BK728 := n1_; have HI731 := n2_; have HB := n3_; clear n0_ n1_ n2_ n3_))) | ((with_reducible refine gate_dst (N := 15) rfl ?_); refine Kd.R_lit Kd.string _ 9 ?hg (N := 15) ?hd (xs := ([t736, t738, t740] : List ByteArray)) (inner := [.string t736, .string t738, .string t740]) (ok := fun _ => True) (okp := fun _ => True) ?hr ?hp (fun _ hk => hk) trivial (Below.refl _ _) (Nat.le_refl _) (by simp) ?_; (case hd => rfl); (case hg => rfl); (case hr => first | (go_simp; done) | (go_simp; rfl)); (case hp => exact (Reps.one (show Kd.M Kd.string _ _ _ t736 [.string t736] from rfl) (Reps.one (show Kd.M Kd.string _ _ _ t738 [.string t738] from rfl) (Reps.one (show Kd.M Kd.string _ _ _ t740 [.string t740] from rfl) (Reps.none _ _))))); intro v742 w14 ho15 hb hg_ hnew_; clear hg_ hnew_; (first | rw [← Ny741.out] at ho15 | (simp only [Int.reduceToNat] at ho15; rw [← Ny741.out] at ho15)); have n0_ := Aside0.mk (Kd.R_below (by (with_reducible repeat (first | apply Kd.R_alloc | apply Kd.R_drewN | apply Kd.R_drew)); exact HO734.out) hb); have n1_ := Aside0.mk (Kd.R_lower ho15 (below_size (by repeat (first | (with_reducible first | exact HB.out | apply below_alloc | apply pw_below_drewN | apply below_drew1 | refine below_set ?_ (IsS82.ge HI731.out) | refine below_set ?_ GE728.out) | exact HB.out)))); have n2_ := Aside0.mk (blk_below (g := gb728) (o := .cells #[.string (⟨#[]⟩ : ByteArray), .int .i64 0] 40 (0, 0)) (by (with_reducible repeat (first | refine blk_drewN ?_ _ | refine blk_drew ?_ | refine blk_alloc ?_ _)); exact BK728.out) hb); have n3_ := Aside0.mk (IsS82.below (by repeat (first | (with_reducible first | exact HI731.out | apply IsS82.alloc | apply IsS82.drewN | apply IsS82.drew | apply IsS82.set_1 | refine IsS82.far ?_ NB731_728.out _) | exact HI731.out)) hb); have n4_ := Aside0.mk (below_step (by repeat (first | (with_reducible first | exact HB.out | apply below_alloc | apply pw_below_drewN | apply below_drew1 | refine below_set ?_ (IsS82.ge HI731.out) | refine below_set ?_ GE728.out) | exact HB.out)) hb); clear HO734; clear BK728; clear HI731; clear HB; have HO734 := n0_; have HO743 := n1_; have BK728 := n2_; have HI731 := n3_; have HB := n4_; clear n0_ n1_ n2_ n3_ n4_; clear hb ho15; obtain ⟨Ao16, co16, eo16⟩ := Kd.R_slice HO743.out; subst eo16) | ((with_reducible refine gate_callee (f := 62) rfl ?_); refine goesL_ (some 16) rfl rfl Try.func62 (by kernel_rfl) rfl #[.pointer (some ⟨g731, 0, none⟩), .slice Ao16 y741.length co16] rfl (by (try simp only [List.map_toArray, List.map_cons, List.map_nil]); first | done | rfl | (simp only [List.length_drop, List.length_take]; rfl)) ?_; (with_reducible refine (spec_l1Rd_of.calls k g731 t729 t739 _ _ y741 t744 t745 w _ ?side1 ?side2 ?side3 ?side4 ?side5 A7.out).mono ?_); (case side1 => repeat (first | (with_reducible first | exact HI731.out | apply IsS82.alloc | apply IsS82.drewN | apply IsS82.drew | apply IsS82.set_1 | refine IsS82.far ?_ NB731_728.out _) | exact HI731.out)); (case side2 => repeat (first | (with_reducible first | exact HB.out | apply below_alloc | apply pw_below_drewN | apply below_drew1 | refine below_set ?_ (IsS82.ge HI731.out) | refine below_set ?_ GE728.out) | exact HB.out)); (case side3 => repeat (first | exact (Kd.R_reads' HO743.out).2.2 | (with_reducible refine Kd.C_alloc ?_ _) | (with_reducible refine Kd.C_drewN ?_ _) | (with_reducible refine Kd.C_drew ?_))); (case side4 => exact (Kd.R_reads' HO743.out).2.1); (case side5 => exact far_slice (IsS82.own_ne HI731.out HO743.out (by decide))); rintro e w17 ⟨rfl, hi, hb, hk⟩; refine ⟨_, rfl, ?_⟩; have n0_ := Aside0.mk (KeepBut.blk hk (g' := gb728) (o := .cells #[.string (⟨#[]⟩ : ByteArray), .int .i64 0] 40 (0, 0)) (by (with_reducible repeat (first | refine blk_drewN ?_ _ | refine blk_drew ?_ | refine blk_alloc ?_ _)); exact BK728.out) NB728_731.out (by simp)); have n1_ := Aside0.mk (Kd.R_mono (Kd.R_keep (IsS82.apart (show IsS82 w _ g731 t729 t739 from by repeat (first | (with_reducible first | exact HI731.out | apply IsS82.alloc | apply IsS82.drewN | apply IsS82.drew | apply IsS82.set_1 | refine IsS82.far ?_ NB731_728.out _) | exact HI731.out)) (by (with_reducible repeat (first | apply Kd.R_alloc | apply Kd.R_drewN | apply Kd.R_drew)); exact HO734.out) (by decide)) hk (fun _ h => h.2)) (fun _ h => h.1)); have n2_ := Aside0.mk (Kd.R_mono (Kd.R_keep (IsS82.apart (show IsS82 w _ g731 t729 t739 from by repeat (first | (with_reducible first | exact HI731.out | apply IsS82.alloc | apply IsS82.drewN | apply IsS82.drew | apply IsS82.set_1 | refine IsS82.far ?_ NB731_728.out _) | exact HI731.out)) (by (with_reducible repeat (first | apply Kd.R_alloc | apply Kd.R_drewN | apply Kd.R_drew)); exact HO743.out) (by decide)) hk (fun _ h => h.2)) (fun _ h => h.1)); have n3_ := Aside0.mk (hb); have n4_ := Aside0.mk (hi); clear BK728; clear HO734; clear HO743; clear HB; clear HI731; have BK728 := n0_; have HO734 := n1_; have HO743 := n2_; have HB := n3_; have HI731 := n4_; clear n0_ n1_ n2_ n3_ n4_; (try clear hb); (try clear hb2); (try clear hk); (try clear hi)) | ((with_reducible refine gate_dst (N := 18) rfl ?_); refine Kd.R_lit (Kd.int .i64) _ 3 ?hg (N := 18) ?hd (xs := ([0, 1, 3, (-9), 1000000000, 1000000001] : List Int)) (inner := [.int .i64 0, .int .i64 1, .int .i64 3, .int .i64 (-9), .int .i64 1000000000, .int .i64 1000000001]) (ok := fun _ => True) (okp := fun _ => True) ?hr ?hp (fun _ hk => hk) trivial (Below.refl _ _) (Nat.le_refl _) (by simp) ?_; (case hd => rfl); (case hg => rfl); (case hr => first | (go_simp; done) | (go_simp; rfl)); (case hp => exact (Reps.one (show Kd.M (Kd.int .i64) _ _ _ 0 [.int .i64 0] from rfl) (Reps.one (show Kd.M (Kd.int .i64) _ _ _ 1 [.int .i64 1] from rfl) (Reps.one (show Kd.M (Kd.int .i64) _ _ _ 3 [.int .i64 3] from rfl) (Reps.one (show Kd.M (Kd.int .i64) _ _ _ (-9) [.int .i64 (-9)] from rfl) (Reps.one (show Kd.M (Kd.int .i64) _ _ _ 1000000000 [.int .i64 1000000000] from rfl) (Reps.one (show Kd.M (Kd.int .i64) _ _ _ 1000000001 [.int .i64 1000000001] from rfl) (Reps.none _ _)))))))); intro v747 w18 ho19 hb hg_ hnew_; clear hg_ hnew_; (first | rw [← Ny746.out] at ho19 | (simp only [Int.reduceToNat] at ho19; rw [← Ny746.out] at ho19)); have n0_ := Aside0.mk (Kd.R_below (by (with_reducible repeat (first | apply Kd.R_alloc | apply Kd.R_drewN | apply Kd.R_drew)); exact HO734.out) hb); have n1_ := Aside0.mk (Kd.R_below (by (with_reducible repeat (first | apply Kd.R_alloc | apply Kd.R_drewN | apply Kd.R_drew)); exact HO743.out) hb); have n2_ := Aside0.mk (Kd.R_lower ho19 (below_size (by repeat (first | (with_reducible first | exact HB.out | apply below_alloc | apply pw_below_drewN | apply below_drew1 | refine below_set ?_ (IsS82.ge HI731.out) | refine below_set ?_ GE728.out) | exact HB.out)))); have n3_ := Aside0.mk (blk_below (g := gb728) (o := .cells #[.string (⟨#[]⟩ : ByteArray), .int .i64 0] 40 (0, 0)) (by (with_reducible repeat (first | refine blk_drewN ?_ _ | refine blk_drew ?_ | refine blk_alloc ?_ _)); exact BK728.out) hb); have n4_ := Aside0.mk (IsS82.below (by repeat (first | (with_reducible first | exact HI731.out | apply IsS82.alloc | apply IsS82.drewN | apply IsS82.drew | apply IsS82.set_1 | refine IsS82.far ?_ NB731_728.out _) | exact HI731.out)) hb); have n5_ := Aside0.mk (below_step (by repeat (first | (with_reducible first | exact HB.out | apply below_alloc | apply pw_below_drewN | apply below_drew1 | refine below_set ?_ (IsS82.ge HI731.out) | refine below_set ?_ GE728.out) | exact HB.out)) hb); clear HO734; clear HO743; clear BK728; clear HI731; clear HB; have HO734 := n0_; have HO743 := n1_; have HO748 := n2_; have BK728 := n3_; have HI731 := n4_; have HB := n5_; clear n0_ n1_ n2_ n3_ n4_ n5_; clear hb ho19; obtain ⟨Ao20, co20, eo20⟩ := Kd.R_slice HO748.out; subst eo20) | ((with_reducible refine gate_callee (f := 64) rfl ?_); refine goesL_ (some 19) rfl rfl Try.func64 (by kernel_rfl) rfl #[.pointer (some ⟨g731, 0, none⟩), .slice Ao20 y746.length co20] rfl (by (try simp only [List.map_toArray, List.map_cons, List.map_nil]); first | done | rfl | (simp only [List.length_drop, List.length_take]; rfl)) ?_; (with_reducible refine (spec_l1Rd_one.calls k g731 t729 t745 _ _ y746 t749 t750 w _ ?side1 ?side2 ?side3 ?side4 ?side5 A8.out).mono ?_); (case side1 => repeat (first | (with_reducible first | exact HI731.out | apply IsS82.alloc | apply IsS82.drewN | apply IsS82.drew | apply IsS82.set_1 | refine IsS82.far ?_ NB731_728.out _) | exact HI731.out)); (case side2 => repeat (first | (with_reducible first | exact HB.out | apply below_alloc | apply pw_below_drewN | apply below_drew1 | refine below_set ?_ (IsS82.ge HI731.out) | refine below_set ?_ GE728.out) | exact HB.out)); (case side3 => repeat (first | exact (Kd.R_reads' HO748.out).2.2 | (with_reducible refine Kd.C_alloc ?_ _) | (with_reducible refine Kd.C_drewN ?_ _) | (with_reducible refine Kd.C_drew ?_))); (case side4 => exact (Kd.R_reads' HO748.out).2.1); (case side5 => exact far_slice (IsS82.own_ne HI731.out HO748.out (by decide))); rintro e w21 ⟨rfl, hi, hb, hk⟩; refine ⟨_, rfl, ?_⟩; have n0_ := Aside0.mk (KeepBut.blk hk (g' := gb728) (o := .cells #[.string (⟨#[]⟩ : ByteArray), .int .i64 0] 40 (0, 0)) (by (with_reducible repeat (first | refine blk_drewN ?_ _ | refine blk_drew ?_ | refine blk_alloc ?_ _)); exact BK728.out) NB728_731.out (by simp)); have n1_ := Aside0.mk (Kd.R_mono (Kd.R_keep (IsS82.apart (show IsS82 w _ g731 t729 t745 from by repeat (first | (with_reducible first | exact HI731.out | apply IsS82.alloc | apply IsS82.drewN | apply IsS82.drew | apply IsS82.set_1 | refine IsS82.far ?_ NB731_728.out _) | exact HI731.out)) (by (with_reducible repeat (first | apply Kd.R_alloc | apply Kd.R_drewN | apply Kd.R_drew)); exact HO734.out) (by decide)) hk (fun _ h => h.2)) (fun _ h => h.1)); have n2_ := Aside0.mk (Kd.R_mono (Kd.R_keep (IsS82.apart (show IsS82 w _ g731 t729 t745 from by repeat (first | (with_reducible first | exact HI731.out | apply IsS82.alloc | apply IsS82.drewN | apply IsS82.drew | apply IsS82.set_1 | refine IsS82.far ?_ NB731_728.out _) | exact HI731.out)) (by (with_reducible repeat (first | apply Kd.R_alloc | apply Kd.R_drewN | apply Kd.R_drew)); exact HO743.out) (by decide)) hk (fun _ h => h.2)) (fun _ h => h.1)); have n3_ := Aside0.mk (Kd.R_mono (Kd.R_keep (IsS82.apart (show IsS82 w _ g731 t729 t745 from by repeat (first | (with_reducible first | exact HI731.out | apply IsS82.alloc | apply IsS82.drewN | apply IsS82.drew | apply IsS82.set_1 | refine IsS82.far ?_ NB731_728.out _) | exact HI731.out)) (by (with_reducible repeat (first | apply Kd.R_alloc | apply Kd.R_drewN | apply Kd.R_drew)); exact HO748.out) (by decide)) hk (fun _ h => h.2)) (fun _ h => h.1)); have n4_ := Aside0.mk (hb); have n5_ := Aside0.mk (hi); clear BK728; clear HO734; clear HO743; clear HO748; clear HB; clear HI731; have BK728 := n0_; have HO734 := n1_; have HO743 := n2_; have HO748 := n3_; have HB := n4_; have HI731 := n5_; clear n0_ n1_ n2_ n3_ n4_ n5_; (try clear hb); (try clear hb2); (try clear hk); (try clear hi); have hnb22 := NB728_731.out; have hnc22 := NB731_728.out; have hcz23_0 : w21.cell? ⟨gb728, 0, none⟩ = some (.string (⟨#[]⟩ : ByteArray)) := (blk_cell BK728.out 0).trans rfl; have hcz23_1 : w21.cell? ⟨gb728, 1, none⟩ = some (.int .i64 0) := (blk_cell BK728.out 1).trans rfl; have hfz23_0 := blk_frozen BK728.out 0; have hfz23_1 := blk_frozen BK728.out 1))
  refine bodyPost_ret (results_tc rfl _ _ gb728 40 #[.string t744, .int .i64 t749] (0, 0) _ rfl (by (with_reducible repeat (first | refine blk_drewN ?_ _ | refine blk_drew ?_ | refine blk_alloc ?_ _)); refine blk_put (cs := #[.string t744, .int .i64 0]) ?_ 1 _ rfl; (with_reducible repeat (first | refine blk_drewN ?_ _ | refine blk_drew ?_ | refine blk_alloc ?_ _)); refine blk_put (cs := #[.string (⟨#[]⟩ : ByteArray), .int .i64 0]) ?_ 0 _ rfl; (with_reducible repeat (first | refine blk_drewN ?_ _ | refine blk_drew ?_ | refine blk_alloc ?_ _)); exact BK728.out) Try.underlying40 rfl (by kernel_rfl)) rfl ?_
  exact ⟨_, by first | rfl | (simp [errW_none, errW_some] <;> rfl) | (simp [*, errW_none, errW_some] <;> rfl), by (with_reducible repeat (first | apply Kd.R_alloc | apply Kd.R_drewN | apply Kd.R_drew)); exact Kd.R_mono (Kd.R_far (p := ⟨gb728, 1, none⟩) (Kd.R_far (p := ⟨gb728, 0, none⟩) (Kd.R_mono HO734.out (fun k_ hk => (⟨hk, by first | exact hk.2 | exact hk | exact hk.1⟩ : _ ∧ k_ ≠ gb728))) (fun _ hk => hk.2) (.string t744)) (fun _ hk => hk.2) (.int .i64 t749)) (fun _ hk => trivial), by repeat (first | (with_reducible first | exact HB.out | apply below_alloc | apply pw_below_drewN | apply below_drew1 | refine below_set ?_ (IsS82.ge HI731.out) | refine below_set ?_ GE728.out) | exact HB.out)⟩
end Go.Proofs.Ytcpnekdhdmncfaa.P
namespace Go.Proofs.Ytcpnekdhdmncfaa.P
open Go.RowKit Go.Proofs.YtcpnekdhdmncfaaW.PrintWords Go.Proofs.YtcpnekdhdmncfaaW.PrintLast Go.Proofs.YtcpnekdhdmncfaaW.PrintMore
attribute [local go_sem] max2_int min2_int max_two min_two max_three min_three max_four min_four   -- for this text's walks alone
set_option linter.unusedVariables false
set_option linter.unusedSimpArgs false
attribute [local go_sem high] eqA40
def laws_FnScoresPut.T11 : Bool × List (List Nat × List Nat) := (true, [([], []), ([0], [0]), ([1, 1], [1]), ([2], [2]), ([3, 2], [2, 3]), ([2, 4], [2, 4]), ([5, 2], [5]), ([6], [6]), ([6], [6]), ([7, 8, 6], [6, 7, 8]), ([9, 6], [6, 9]), ([6], [6]), ([10, 11, 6], [6, 10, 11]), ([6, 12], [6, 12]), ([13, 6], [13]), ([14], [14]), ([14], [14]), ([14], [14]), ([17, 14], [14, 17]), ([16, 18, 14, 14], [14, 16, 18]), ([19, 14], [14, 19]), ([15, 20, 14], [14, 15, 20]), ([14, 21], [14, 21]), ([22, 19], [22]), ([23], [23]), ([23, 24], [23, 24]), ([25, 23], [25]), ([26], [26]), ([26], [26]), ([27, 28, 26, 26], [26, 27, 28]), ([26, 29], [26, 29]), ([30, 29, 0, 1, 2, 3, 4, 5, 6, 7, 8, 9, 10, 11, 12, 13, 14, 15, 16, 17, 18, 19, 20, 21, 22, 23, 24, 25, 26, 27, 28, 29, 30], [30])])
def laws_FnScoresPut.B11 : List Nat := [0, 1, 3, 7, 15, 31, 63, 127, 127, 511, 1023, 127, 4095, 8191, 16383, 32767, 32767, 32767, 163839, 491519, 1015807, 2097151, 4194303, 8388607, 16777215, 33554431, 67108863, 134217727, 134217727, 536870911, 1073741823, 2147483647]
theorem laws_FnScoresPut.tab11 : rtab .any (opsOf Try.f13 11) = laws_FnScoresPut.T11 := by kernel_rfl
theorem laws_FnScoresPut.bits11 : waitsOk laws_FnScoresPut.T11.2 laws_FnScoresPut.B11 = true := by kernel_rfl
set_option maxHeartbeats 8000000 in
set_option maxRecDepth 100000 in
theorem laws_FnScoresPut.calls_t (k : Nat) (A0 : Option Addr) (c0 : Nat) (l0 : List Int) (r : Bool) (w : World) (hr0 : Kd.C (Kd.int .u8) w A0 l0.length l0) (hc0 : l0.length ≤ c0) (h : laws_FnScoresPut.f k l0 = some r) (hr_ : r = true) :
  Calls Try.prog 13 #[.slice A0 l0.length c0] w fun e w' => e = .returned (.bool r) ∧ Below w.heap.size w w' := by
 have hu40 := Try.underlying40
 have HR0 := Aside0.mk hr0
 have HC0 := Aside0.mk hc0
 clear hr0 hc0
 have HB := Aside0.mk (Below.refl w.heap.size w)
 have H : (if (l0.length : Int) > 1048576 then (some true) else ((spec_DrawScoresPut.f k l0).bind fun bt751 => ((impl_ScoresPut.f k bt751.1 bt751.2.1 bt751.2.2).bind fun bt757 => ((spec_ScoresPut.f k bt751.1 bt751.2.1 bt751.2.2).bind fun bt762 => (if (bt757.2.2 != bt762.2.2) = true then (laws_FnScoresPut.j0 k bt751.1 bt757.1 bt757.2.1 bt757.2.2 bt762.1 bt762.2.1 bt762.2.2 true bt751.2.1 bt751.2.2) else (if (bt757.2.1 != bt762.2.1) = true then (laws_FnScoresPut.j0 k bt751.1 bt757.1 bt757.2.1 bt757.2.2 bt762.1 bt762.2.1 bt762.2.2 true bt751.2.1 bt751.2.2) else ((laws_qxScores.f k bt757.1 bt762.1).bind fun t767 => (if t767 = true then ((impl_ScoresOk.f k bt751.1).bind fun t768 => ((spec_ScoresOk.f k bt751.1).bind fun t769 => (if (t768 != t769) = true then (laws_FnScoresPut.j0 k bt751.1 bt757.1 bt757.2.1 bt757.2.2 bt762.1 bt762.2.1 bt762.2.2 true bt751.2.1 bt751.2.2) else (laws_FnScoresPut.j0 k bt751.1 bt757.1 bt757.2.1 bt757.2.2 bt762.1 bt762.2.1 bt762.2.2 (!bt757.2.2) bt751.2.1 bt751.2.2)))) else (laws_FnScoresPut.j0 k bt751.1 bt757.1 bt757.2.1 bt757.2.2 bt762.1 bt762.2.1 bt762.2.2 true bt751.2.1 bt751.2.2))))))))) = some r := h
 clear h
 by_cases c2 : (l0.length : Int) > 1048576
 ·rw [if_pos c2] at H
  have c2b0 : decide (1048576 < (l0.length : Int)) = true := decide_eq_true c2
  have c2b1 : decide (1048576 < l0.length) = true := decide_eq_true (by omega)
  clear c2
  obtain rfl := Option.some.inj H
  go_enter Try.func13, Try.ntmps13
  go_wp2
  go_ret
  exact ⟨by first | rfl | (simp [errW_none, errW_some] <;> rfl) | (simp [*, errW_none, errW_some] <;> rfl), by repeat (first | (with_reducible first | exact HB.out | apply below_alloc | apply pw_below_drewN | apply below_drew1) | exact HB.out | exact Below.refl _ _)⟩
 ·rw [if_neg c2] at H
  have c2b0 : decide (1048576 < (l0.length : Int)) = false := decide_eq_false c2
  have c2b1 : decide (1048576 < l0.length) = false := decide_eq_false (by omega)
  clear c2
  replace H := Option.bind_eq_some_iff.mp H
  obtain ⟨⟨t751, t754, t755⟩, A30, H⟩ := H
  replace H : ((impl_ScoresPut.f k t751 t754 t755).bind fun bt757 => ((spec_ScoresPut.f k t751 t754 t755).bind fun bt762 => (if (bt757.2.2 != bt762.2.2) = true then (laws_FnScoresPut.j0 k t751 bt757.1 bt757.2.1 bt757.2.2 bt762.1 bt762.2.1 bt762.2.2 true t754 t755) else (if (bt757.2.1 != bt762.2.1) = true then (laws_FnScoresPut.j0 k t751 bt757.1 bt757.2.1 bt757.2.2 bt762.1 bt762.2.1 bt762.2.2 true t754 t755) else ((laws_qxScores.f k bt757.1 bt762.1).bind fun t767 => (if t767 = true then ((impl_ScoresOk.f k t751).bind fun t768 => ((spec_ScoresOk.f k t751).bind fun t769 => (if (t768 != t769) = true then (laws_FnScoresPut.j0 k t751 bt757.1 bt757.2.1 bt757.2.2 bt762.1 bt762.2.1 bt762.2.2 true t754 t755) else (laws_FnScoresPut.j0 k t751 bt757.1 bt757.2.1 bt757.2.2 bt762.1 bt762.2.1 bt762.2.2 (!bt757.2.2) t754 t755)))) else (laws_FnScoresPut.j0 k t751 bt757.1 bt757.2.1 bt757.2.2 bt762.1 bt762.2.1 bt762.2.2 true t754 t755))))))) = some r := H
  have A3 := Aside0.mk A30
  clear A30
  replace H := Option.bind_eq_some_iff.mp H
  obtain ⟨⟨t757, t760, t761⟩, A40, H⟩ := H
  replace H : ((spec_ScoresPut.f k t751 t754 t755).bind fun bt762 => (if (t761 != bt762.2.2) = true then (laws_FnScoresPut.j0 k t751 t757 t760 t761 bt762.1 bt762.2.1 bt762.2.2 true t754 t755) else (if (t760 != bt762.2.1) = true then (laws_FnScoresPut.j0 k t751 t757 t760 t761 bt762.1 bt762.2.1 bt762.2.2 true t754 t755) else ((laws_qxScores.f k t757 bt762.1).bind fun t767 => (if t767 = true then ((impl_ScoresOk.f k t751).bind fun t768 => ((spec_ScoresOk.f k t751).bind fun t769 => (if (t768 != t769) = true then (laws_FnScoresPut.j0 k t751 t757 t760 t761 bt762.1 bt762.2.1 bt762.2.2 true t754 t755) else (laws_FnScoresPut.j0 k t751 t757 t760 t761 bt762.1 bt762.2.1 bt762.2.2 (!t761) t754 t755)))) else (laws_FnScoresPut.j0 k t751 t757 t760 t761 bt762.1 bt762.2.1 bt762.2.2 true t754 t755)))))) = some r := H
  have A4 := Aside0.mk A40
  clear A40
  replace H := Option.bind_eq_some_iff.mp H
  obtain ⟨⟨t762, t765, t766⟩, A50, H⟩ := H
  replace H : (if (t761 != t766) = true then (laws_FnScoresPut.j0 k t751 t757 t760 t761 t762 t765 t766 true t754 t755) else (if (t760 != t765) = true then (laws_FnScoresPut.j0 k t751 t757 t760 t761 t762 t765 t766 true t754 t755) else ((laws_qxScores.f k t757 t762).bind fun t767 => (if t767 = true then ((impl_ScoresOk.f k t751).bind fun t768 => ((spec_ScoresOk.f k t751).bind fun t769 => (if (t768 != t769) = true then (laws_FnScoresPut.j0 k t751 t757 t760 t761 t762 t765 t766 true t754 t755) else (laws_FnScoresPut.j0 k t751 t757 t760 t761 t762 t765 t766 (!t761) t754 t755)))) else (laws_FnScoresPut.j0 k t751 t757 t760 t761 t762 t765 t766 true t754 t755))))) = some r := H
  have A5 := Aside0.mk A50
  clear A50
  have HC6 := Aside0.mk H
  clear H
  go_enter Try.func13, Try.ntmps13
  go_upto_region 6 with (first | ((with_reducible refine gate_callee (f := 39) rfl ?_); refine goesL_ (some 21) rfl rfl Try.func39 (by kernel_rfl) rfl #[.slice A0 l0.length c0] rfl (by (try simp only [List.map_toArray, List.map_cons, List.map_nil]); first | done | rfl | (simp only [List.length_drop, List.length_take]; rfl)) ?_; (with_reducible refine (spec_DrawScoresPut.calls k _ _ l0 t751 t754 t755 _ ?side1 ?side2 A3.out).mono ?_); (case side1 => repeat (first | exact HR0.out | (with_reducible refine Kd.C_alloc ?_ _) | (with_reducible refine Kd.C_drewN ?_ _) | (with_reducible refine Kd.C_drew ?_))); (case side2 => exact HC0.out); rintro e w7 ⟨v752, rfl, ho0, hb⟩; refine ⟨_, rfl, ?_⟩; have n0_ := Aside0.mk (Kd.R_lower ho0 (below_size (by repeat (first | (with_reducible first | exact HB.out | apply below_alloc | apply pw_below_drewN | apply below_drew1) | exact HB.out | exact Below.refl _ _)))); have n1_ := Aside0.mk (below_step (by repeat (first | (with_reducible first | exact HB.out | apply below_alloc | apply pw_below_drewN | apply below_drew1) | exact HB.out | exact Below.refl _ _)) hb); clear HB; have HO753 := n0_; have HB := n1_; clear n0_ n1_; (try clear hb); (try clear hb2); (try clear hk); (try clear hi); (try clear ho0)) | ((with_reducible refine gate_dst (N := 4) rfl ?_); refine box_event ?hg (N := 4) ?hd (cs := #[.string (⟨#[]⟩ : ByteArray), .int .i64 0]) (t := 40) ?hr ?_; (case hd => rfl); (case hg => rfl); (case hr => first | (go_simp; done) | (go_simp; rfl)); intro gb756 hg w8 hbox hb; have n0_ := Aside0.mk (Kd.R_below (Kd.R_elderB (by (with_reducible repeat (first | apply Kd.R_alloc | apply Kd.R_drewN | apply Kd.R_drew)); exact HO753.out) gb756 (Nat.le_of_eq hg.symm)) hb); have n1_ := Aside0.mk (below_step (by repeat (first | (with_reducible first | exact HB.out | apply below_alloc | apply pw_below_drewN | apply below_drew1) | exact HB.out | exact Below.refl _ _)) hb); have n2_ := Aside0.mk (hbox); have n3_ := Aside0.mk ((by rw [hg]; exact (below_size (by repeat (first | (with_reducible first | exact HB.out | apply below_alloc | apply pw_below_drewN | apply below_drew1) | exact HB.out | exact Below.refl _ _))) : w.heap.size ≤ gb756)); have n4_ := Aside0.mk ((by rw [hg]; exact (below_size (by repeat (first | (with_reducible first | exact HB.out | apply below_alloc | apply pw_below_drewN | apply below_drew1) | exact HB.out | exact Below.refl _ _))) : w.heap.size ≤ gb756)); clear HO753; clear HB; have HO753 := n0_; have HB := n1_; have BK756 := n2_; have GW756 := n3_; have GE756 := n4_; clear n0_ n1_ n2_ n3_ n4_; clear hb hbox hg; have hcz9_0 : w8.cell? ⟨gb756, 0, none⟩ = some (.string (⟨#[]⟩ : ByteArray)) := (blk_cell BK756.out 0).trans rfl; have hcz9_1 : w8.cell? ⟨gb756, 1, none⟩ = some (.int .i64 0) := (blk_cell BK756.out 1).trans rfl; have hfz9_0 := blk_frozen BK756.out 0; have hfz9_1 := blk_frozen BK756.out 1; obtain ⟨Ao10, co10, eo10⟩ := Kd.R_slice HO753.out; subst eo10) | ((with_reducible refine gate_callee (f := 38) rfl ?_); refine goesL_ (some 27) rfl rfl Try.func38 (by kernel_rfl) rfl #[.slice Ao10 t751.length co10, .agg #[.string t754, .int .i64 t755]] rfl (by (try simp only [List.map_toArray, List.map_cons, List.map_nil]); first | done | rfl | (simp only [List.length_drop, List.length_take]; rfl)) ?_; (with_reducible refine (impl_ScoresPut.calls k _ _ t751 t754 t755 t757 t760 t761 _ ?side1 ?side2 A4.out).mono ?_); (case side1 => refine (Kd.R_reads' (e := 40) (base := w.heap.size) (ok := fun k_ => (True ∧ k_ ≠ gb756)) (n := t751.length) (c := co10) ?_).2.2; exact (by (with_reducible repeat (first | apply Kd.R_alloc | apply Kd.R_drewN | apply Kd.R_drew)); exact (Kd.R_mono (Kd.R_far (p := ⟨gb756, 1, none⟩) (Kd.R_far (p := ⟨gb756, 0, none⟩) (Kd.R_mono HO753.out (fun k_ hk => (⟨hk, by first | exact hk.2 | exact hk | exact hk.1⟩ : _ ∧ k_ ≠ gb756))) (fun _ hk => hk.2) (.string t754)) (fun _ hk => hk.2) (.int .i64 t755)) (fun _ h_ => h_.1)))); (case side2 => exact (Kd.R_reads' HO753.out).2.1); rintro e w11 ⟨v758, rfl, ho0, hb⟩; refine ⟨_, rfl, ?_⟩; have n0_ := Aside0.mk (Kd.R_elder' (by (with_reducible repeat (first | apply Kd.R_alloc | apply Kd.R_drewN | apply Kd.R_drew)); exact (Kd.R_mono (Kd.R_far (p := ⟨gb756, 1, none⟩) (Kd.R_far (p := ⟨gb756, 0, none⟩) (Kd.R_mono HO753.out (fun k_ hk => (⟨hk, by first | exact hk.2 | exact hk | exact hk.1⟩ : _ ∧ k_ ≠ gb756))) (fun _ hk => hk.2) (.string t754)) (fun _ hk => hk.2) (.int .i64 t755)) (fun _ h_ => h_.1))) (Kd.R_base ho0) hb); have n1_ := Aside0.mk (Kd.R_lower (Kd.R_newB (Kd.R_new' ho0 (Kd.R_lt (by (with_reducible repeat (first | apply Kd.R_alloc | apply Kd.R_drewN | apply Kd.R_drew)); exact (Kd.R_mono (Kd.R_far (p := ⟨gb756, 1, none⟩) (Kd.R_far (p := ⟨gb756, 0, none⟩) (Kd.R_mono HO753.out (fun k_ hk => (⟨hk, by first | exact hk.2 | exact hk | exact hk.1⟩ : _ ∧ k_ ≠ gb756))) (fun _ hk => hk.2) (.string t754)) (fun _ hk => hk.2) (.int .i64 t755)) (fun _ h_ => h_.1))))) (g := gb756) (o := .cells #[.string t754, .int .i64 t755] 40 (0, 0)) (by (with_reducible repeat (first | refine blk_drewN ?_ _ | refine blk_drew ?_ | refine blk_alloc ?_ _)); refine blk_put (cs := #[.string t754, .int .i64 0]) ?_ 1 _ rfl; (with_reducible repeat (first | refine blk_drewN ?_ _ | refine blk_drew ?_ | refine blk_alloc ?_ _)); refine blk_put (cs := #[.string (⟨#[]⟩ : ByteArray), .int .i64 0]) ?_ 0 _ rfl; (with_reducible repeat (first | refine blk_drewN ?_ _ | refine blk_drew ?_ | refine blk_alloc ?_ _)); exact BK756.out)) (below_size (by repeat (first | (with_reducible first | exact HB.out | apply below_alloc | apply pw_below_drewN | apply below_drew1 | refine below_set ?_ GE756.out) | exact HB.out)))); have n2_ := Aside0.mk (blk_below (g := gb756) (o := .cells #[.string t754, .int .i64 t755] 40 (0, 0)) (by (with_reducible repeat (first | refine blk_drewN ?_ _ | refine blk_drew ?_ | refine blk_alloc ?_ _)); refine blk_put (cs := #[.string t754, .int .i64 0]) ?_ 1 _ rfl; (with_reducible repeat (first | refine blk_drewN ?_ _ | refine blk_drew ?_ | refine blk_alloc ?_ _)); refine blk_put (cs := #[.string (⟨#[]⟩ : ByteArray), .int .i64 0]) ?_ 0 _ rfl; (with_reducible repeat (first | refine blk_drewN ?_ _ | refine blk_drew ?_ | refine blk_alloc ?_ _)); exact BK756.out) hb); have n3_ := Aside0.mk (below_step (by repeat (first | (with_reducible first | exact HB.out | apply below_alloc | apply pw_below_drewN | apply below_drew1 | refine below_set ?_ GE756.out) | exact HB.out)) hb); clear HO753; clear BK756; clear HB; have HO753 := n0_; have HO759 := n1_; have BK756 := n2_; have HB := n3_; clear n0_ n1_ n2_ n3_; (try clear hb); (try clear hb2); (try clear hk); (try clear hi); (try clear ho0); have hcz12_0 : w11.cell? ⟨gb756, 0, none⟩ = some (.string t754) := (blk_cell BK756.out 0).trans rfl; have hcz12_1 : w11.cell? ⟨gb756, 1, none⟩ = some (.int .i64 t755) := (blk_cell BK756.out 1).trans rfl; have hfz12_0 := blk_frozen BK756.out 0; have hfz12_1 := blk_frozen BK756.out 1) | ((with_reducible refine gate_callee (f := 36) rfl ?_); refine goesL_ (some 34) rfl rfl Try.func36 (by kernel_rfl) rfl #[.slice Ao10 t751.length co10, .agg #[.string t754, .int .i64 t755]] rfl (by (try simp only [List.map_toArray, List.map_cons, List.map_nil]); first | done | rfl | (simp only [List.length_drop, List.length_take]; rfl)) ?_; (with_reducible refine (spec_ScoresPut.calls k _ _ t751 t754 t755 t762 t765 t766 _ ?side1 ?side2 A5.out).mono ?_); (case side1 => repeat (first | exact (Kd.R_reads' HO753.out).2.2 | (with_reducible refine Kd.C_alloc ?_ _) | (with_reducible refine Kd.C_drewN ?_ _) | (with_reducible refine Kd.C_drew ?_))); (case side2 => exact (Kd.R_reads' HO753.out).2.1); rintro e w13 ⟨v763, rfl, ho0, hb⟩; refine ⟨_, rfl, ?_⟩; have n0_ := Aside0.mk (Kd.R_elder' (by (with_reducible repeat (first | apply Kd.R_alloc | apply Kd.R_drewN | apply Kd.R_drew)); exact HO753.out) (Kd.R_base ho0) hb); have n1_ := Aside0.mk (Kd.R_elder' (by (with_reducible repeat (first | apply Kd.R_alloc | apply Kd.R_drewN | apply Kd.R_drew)); exact HO759.out) (Kd.R_base ho0) hb); have n2_ := Aside0.mk (Kd.R_lower (Kd.R_newB (Kd.R_new' (Kd.R_new' ho0 (Kd.R_lt (by (with_reducible repeat (first | apply Kd.R_alloc | apply Kd.R_drewN | apply Kd.R_drew)); exact HO753.out))) (Kd.R_lt (by (with_reducible repeat (first | apply Kd.R_alloc | apply Kd.R_drewN | apply Kd.R_drew)); exact HO759.out))) (g := gb756) (o := .cells #[.string t754, .int .i64 t755] 40 (0, 0)) (by (with_reducible repeat (first | refine blk_drewN ?_ _ | refine blk_drew ?_ | refine blk_alloc ?_ _)); exact BK756.out)) (below_size (by repeat (first | (with_reducible first | exact HB.out | apply below_alloc | apply pw_below_drewN | apply below_drew1 | refine below_set ?_ GE756.out) | exact HB.out)))); have n3_ := Aside0.mk (blk_below (g := gb756) (o := .cells #[.string t754, .int .i64 t755] 40 (0, 0)) (by (with_reducible repeat (first | refine blk_drewN ?_ _ | refine blk_drew ?_ | refine blk_alloc ?_ _)); exact BK756.out) hb); have n4_ := Aside0.mk (below_step (by repeat (first | (with_reducible first | exact HB.out | apply below_alloc | apply pw_below_drewN | apply below_drew1 | refine below_set ?_ GE756.out) | exact HB.out)) hb); clear HO753; clear HO759; clear BK756; clear HB; have HO753 := n0_; have HO759 := n1_; have HO764 := n2_; have BK756 := n3_; have HB := n4_; clear n0_ n1_ n2_ n3_ n4_; (try clear hb); (try clear hb2); (try clear hk); (try clear hi); (try clear ho0)))
  (try simp only [Act.put, List.setIfInBounds_toArray, List.set_cons_zero, List.set_cons_succ])
  go_cut [62] (fun v62 wc => ∃ (kq : Nat) (x62_5 : Bool), v62 = .bool x62_5 ∧ Aside0 (laws_FnScoresPut.j0 kq t751 t757 t760 t761 t762 t765 t766 x62_5 t754 t755 = some r) ∧ Aside0 (kq ≤ k) ∧ Aside0 (Kd.R k40 40 wc w.heap.size (fun k_ => some k_ ≠ (v758 : Value).ownBlock ∧ some k_ ≠ (v763 : Value).ownBlock ∧ k_ ≠ gb756) (.slice Ao10 t751.length co10) t751) ∧ Aside0 (Kd.R k40 40 wc w.heap.size (fun k_ => some k_ ≠ ((.slice Ao10 t751.length co10) : Value).ownBlock ∧ some k_ ≠ (v763 : Value).ownBlock ∧ k_ ≠ gb756) v758 t757) ∧ Aside0 (Kd.R k40 40 wc w.heap.size (fun k_ => some k_ ≠ ((.slice Ao10 t751.length co10) : Value).ownBlock ∧ some k_ ≠ (v758 : Value).ownBlock ∧ k_ ≠ gb756) v763 t762) ∧ Aside0 (wc.heap[gb756]? = some (.cells #[.string t754, .int .i64 t755] 40 (0, 0))) ∧ Aside0 (Below w.heap.size w wc))
  case first =>
   have H := HC6.out
   clear HC6
   by_cases c14 : (t761 != t766) = true
   ·rw [if_pos c14] at H
    have c14b0 : (t761 != t766) = true := c14
    (try (have c14b1 : decide (t761 = t766) = false := by simpa using c14))
    (try (have c14b2 : (t761 == t766) = false := by simpa using c14))
    (try (have c14b3 : ¬ (t761 = t766) := by simpa using c14))
    clear c14
    (first | rw [c14b0] | (simp only [i64_w, i32_w]; rw [c14b0]) | skip)
    have H' := Aside0.mk H
    clear H
    go_wp2
    go_meet
    case rel => exact ⟨_, (true), (by first | rfl | (simp; done) | (simp [*]; done)), H', ⟨by first | omega | exact Nat.le_refl _⟩, ⟨by (with_reducible repeat (first | apply Kd.R_alloc | apply Kd.R_drewN | apply Kd.R_drew)); exact Kd.R_mono HO753.out (fun _ hk => ⟨hk.1.2, ⟨hk.2, hk.1.1.2⟩⟩)⟩, ⟨by (with_reducible repeat (first | apply Kd.R_alloc | apply Kd.R_drewN | apply Kd.R_drew)); exact Kd.R_mono HO759.out (fun _ hk => ⟨hk.1.1.2, ⟨hk.2, hk.1.2⟩⟩)⟩, ⟨by (with_reducible repeat (first | apply Kd.R_alloc | apply Kd.R_drewN | apply Kd.R_drew)); exact Kd.R_mono HO764.out (fun _ hk => ⟨hk.1.1.2, ⟨hk.1.2, hk.2⟩⟩)⟩, ⟨by (with_reducible repeat (first | refine blk_drewN ?_ _ | refine blk_drew ?_ | refine blk_alloc ?_ _)); exact BK756.out⟩, ⟨by repeat (first | (with_reducible first | exact HB.out | apply below_alloc | apply pw_below_drewN | apply below_drew1 | refine below_set ?_ GE756.out) | exact HB.out)⟩⟩
   ·rw [if_neg c14] at H
    have c14b0 : (t761 != t766) = false := by simpa using c14
    (try (have c14b1 : decide (t761 = t766) = true := by simpa using c14))
    (try (have c14b2 : (t761 == t766) = true := by simpa using c14))
    clear c14
    (first | rw [c14b0] | (simp only [i64_w, i32_w]; rw [c14b0]) | skip)
    by_cases c15 : (t760 != t765) = true
    ·rw [if_pos c15] at H
     have c15b0 : (t760 != t765) = true := c15
     (try (have c15b1 : decide (t760 = t765) = false := by simpa using c15))
     (try (have c15b2 : (t760 == t765) = false := by simpa using c15))
     (try (have c15b3 : ¬ (t760 = t765) := by simpa using c15))
     clear c15
     have H' := Aside0.mk H
     clear H
     go_wp2
     go_meet
     case rel => exact ⟨_, (true), (by first | rfl | (simp; done) | (simp [*]; done)), H', ⟨by first | omega | exact Nat.le_refl _⟩, ⟨by (with_reducible repeat (first | apply Kd.R_alloc | apply Kd.R_drewN | apply Kd.R_drew)); exact Kd.R_mono HO753.out (fun _ hk => ⟨hk.1.2, ⟨hk.2, hk.1.1.2⟩⟩)⟩, ⟨by (with_reducible repeat (first | apply Kd.R_alloc | apply Kd.R_drewN | apply Kd.R_drew)); exact Kd.R_mono HO759.out (fun _ hk => ⟨hk.1.1.2, ⟨hk.2, hk.1.2⟩⟩)⟩, ⟨by (with_reducible repeat (first | apply Kd.R_alloc | apply Kd.R_drewN | apply Kd.R_drew)); exact Kd.R_mono HO764.out (fun _ hk => ⟨hk.1.1.2, ⟨hk.1.2, hk.2⟩⟩)⟩, ⟨by (with_reducible repeat (first | refine blk_drewN ?_ _ | refine blk_drew ?_ | refine blk_alloc ?_ _)); exact BK756.out⟩, ⟨by repeat (first | (with_reducible first | exact HB.out | apply below_alloc | apply pw_below_drewN | apply below_drew1 | refine below_set ?_ GE756.out) | exact HB.out)⟩⟩
    ·rw [if_neg c15] at H
     have c15b0 : (t760 != t765) = false := by simpa using c15
     (try (have c15b1 : decide (t760 = t765) = true := by simpa using c15))
     (try (have c15b2 : (t760 == t765) = true := by simpa using c15))
     clear c15
     replace H := Option.bind_eq_some_iff.mp H
     obtain ⟨t767, A160, H⟩ := H
     replace H : (if t767 = true then ((impl_ScoresOk.f k t751).bind fun t768 => ((spec_ScoresOk.f k t751).bind fun t769 => (if (t768 != t769) = true then (laws_FnScoresPut.j0 k t751 t757 t760 t761 t762 t765 t766 true t754 t755) else (laws_FnScoresPut.j0 k t751 t757 t760 t761 t762 t765 t766 (!t761) t754 t755)))) else (laws_FnScoresPut.j0 k t751 t757 t760 t761 t762 t765 t766 true t754 t755)) = some r := H
     have A16 := Aside0.mk A160
     clear A160
     by_cases c17 : t767 = true
     ·subst c17
      have H1 : ((impl_ScoresOk.f k t751).bind fun t768 => ((spec_ScoresOk.f k t751).bind fun t769 => (if (t768 != t769) = true then (laws_FnScoresPut.j0 k t751 t757 t760 t761 t762 t765 t766 true t754 t755) else (laws_FnScoresPut.j0 k t751 t757 t760 t761 t762 t765 t766 (!t761) t754 t755)))) = some r := by rw [if_pos rfl] at H; exact H
      clear H
      have H := H1
      clear H1
      replace H := Option.bind_eq_some_iff.mp H
      obtain ⟨t768, A180, H⟩ := H
      replace H : ((spec_ScoresOk.f k t751).bind fun t769 => (if (t768 != t769) = true then (laws_FnScoresPut.j0 k t751 t757 t760 t761 t762 t765 t766 true t754 t755) else (laws_FnScoresPut.j0 k t751 t757 t760 t761 t762 t765 t766 (!t761) t754 t755))) = some r := H
      have A18 := Aside0.mk A180
      clear A180
      replace H := Option.bind_eq_some_iff.mp H
      obtain ⟨t769, A190, H⟩ := H
      replace H : (if (t768 != t769) = true then (laws_FnScoresPut.j0 k t751 t757 t760 t761 t762 t765 t766 true t754 t755) else (laws_FnScoresPut.j0 k t751 t757 t760 t761 t762 t765 t766 (!t761) t754 t755)) = some r := H
      have A19 := Aside0.mk A190
      clear A190
      by_cases c20 : (t768 != t769) = true
      ·rw [if_pos c20] at H
       have c20b0 : (t768 != t769) = true := c20
       (try (have c20b1 : decide (t768 = t769) = false := by simpa using c20))
       (try (have c20b2 : (t768 == t769) = false := by simpa using c20))
       (try (have c20b3 : ¬ (t768 = t769) := by simpa using c20))
       clear c20
       have H' := Aside0.mk H
       clear H
       obtain ⟨Ao21, co21, eo21⟩ := Kd.R_slice HO759.out
       subst eo21
       obtain ⟨Ao22, co22, eo22⟩ := Kd.R_slice HO764.out
       subst eo22
       go_wp2_with (first | (go_at_call 31; (with_reducible refine (laws_qxScores.calls k _ _ t757 _ _ t762 true _ ?side1 ?side2 ?side3 ?side4 A16.out).mono ?_); (case side1 => repeat (first | exact (Kd.R_reads' HO759.out).2.2 | (with_reducible refine Kd.C_alloc ?_ _) | (with_reducible refine Kd.C_drewN ?_ _) | (with_reducible refine Kd.C_drew ?_))); (case side2 => exact (Kd.R_reads' HO759.out).2.1); (case side3 => repeat (first | exact (Kd.R_reads' HO764.out).2.2 | (with_reducible refine Kd.C_alloc ?_ _) | (with_reducible refine Kd.C_drewN ?_ _) | (with_reducible refine Kd.C_drew ?_))); (case side4 => exact (Kd.R_reads' HO764.out).2.1); rintro e w' ⟨rfl, ⟨nd, rfl⟩⟩) | (go_at_call 17; (with_reducible refine (impl_ScoresOk.calls k _ _ t751 t768 _ ?side1 ?side2 A18.out).mono ?_); (case side1 => repeat (first | exact (Kd.R_reads' HO753.out).2.2 | (with_reducible refine Kd.C_alloc ?_ _) | (with_reducible refine Kd.C_drewN ?_ _) | (with_reducible refine Kd.C_drew ?_))); (case side2 => exact (Kd.R_reads' HO753.out).2.1); rintro e w23 ⟨rfl, hb⟩; have n0_ := Aside0.mk (Kd.R_below (by (with_reducible repeat (first | apply Kd.R_alloc | apply Kd.R_drewN | apply Kd.R_drew)); exact HO753.out) hb); have n1_ := Aside0.mk (Kd.R_below (by (with_reducible repeat (first | apply Kd.R_alloc | apply Kd.R_drewN | apply Kd.R_drew)); exact HO759.out) hb); have n2_ := Aside0.mk (Kd.R_below (by (with_reducible repeat (first | apply Kd.R_alloc | apply Kd.R_drewN | apply Kd.R_drew)); exact HO764.out) hb); have n3_ := Aside0.mk (blk_below (g := gb756) (o := .cells #[.string t754, .int .i64 t755] 40 (0, 0)) (by (with_reducible repeat (first | refine blk_drewN ?_ _ | refine blk_drew ?_ | refine blk_alloc ?_ _)); exact BK756.out) hb); have n4_ := Aside0.mk (below_step (by repeat (first | (with_reducible first | exact HB.out | apply below_alloc | apply pw_below_drewN | apply below_drew1 | refine below_set ?_ GE756.out) | exact HB.out)) hb); clear HO753; clear HO759; clear HO764; clear BK756; clear HB; have HO753 := n0_; have HO759 := n1_; have HO764 := n2_; have BK756 := n3_; have HB := n4_; clear n0_ n1_ n2_ n3_ n4_; (try clear hb); (try clear hb2); (try clear hk); (try clear hi)) | (go_at_call 15; (with_reducible refine (spec_ScoresOk.calls k _ _ t751 t769 _ ?side1 ?side2 A19.out).mono ?_); (case side1 => repeat (first | exact (Kd.R_reads' HO753.out).2.2 | (with_reducible refine Kd.C_alloc ?_ _) | (with_reducible refine Kd.C_drewN ?_ _) | (with_reducible refine Kd.C_drew ?_))); (case side2 => exact (Kd.R_reads' HO753.out).2.1); rintro e w24 ⟨rfl, hb⟩; have n0_ := Aside0.mk (Kd.R_below (by (with_reducible repeat (first | apply Kd.R_alloc | apply Kd.R_drewN | apply Kd.R_drew)); exact HO753.out) hb); have n1_ := Aside0.mk (Kd.R_below (by (with_reducible repeat (first | apply Kd.R_alloc | apply Kd.R_drewN | apply Kd.R_drew)); exact HO759.out) hb); have n2_ := Aside0.mk (Kd.R_below (by (with_reducible repeat (first | apply Kd.R_alloc | apply Kd.R_drewN | apply Kd.R_drew)); exact HO764.out) hb); have n3_ := Aside0.mk (blk_below (g := gb756) (o := .cells #[.string t754, .int .i64 t755] 40 (0, 0)) (by (with_reducible repeat (first | refine blk_drewN ?_ _ | refine blk_drew ?_ | refine blk_alloc ?_ _)); exact BK756.out) hb); have n4_ := Aside0.mk (below_step (by repeat (first | (with_reducible first | exact HB.out | apply below_alloc | apply pw_below_drewN | apply below_drew1 | refine below_set ?_ GE756.out) | exact HB.out)) hb); clear HO753; clear HO759; clear HO764; clear BK756; clear HB; have HO753 := n0_; have HO759 := n1_; have HO764 := n2_; have BK756 := n3_; have HB := n4_; clear n0_ n1_ n2_ n3_ n4_; (try clear hb); (try clear hb2); (try clear hk); (try clear hi)))
       go_meet
       case rel => exact ⟨_, (true), (by first | rfl | (simp; done) | (simp [*]; done)), H', ⟨by first | omega | exact Nat.le_refl _⟩, ⟨by (with_reducible repeat (first | apply Kd.R_alloc | apply Kd.R_drewN | apply Kd.R_drew)); exact Kd.R_mono HO753.out (fun _ hk => ⟨hk.1.2, ⟨hk.2, hk.1.1.2⟩⟩)⟩, ⟨by (with_reducible repeat (first | apply Kd.R_alloc | apply Kd.R_drewN | apply Kd.R_drew)); exact Kd.R_mono HO759.out (fun _ hk => ⟨hk.1.1.2, ⟨hk.2, hk.1.2⟩⟩)⟩, ⟨by (with_reducible repeat (first | apply Kd.R_alloc | apply Kd.R_drewN | apply Kd.R_drew)); exact Kd.R_mono HO764.out (fun _ hk => ⟨hk.1.1.2, ⟨hk.1.2, hk.2⟩⟩)⟩, ⟨by (with_reducible repeat (first | refine blk_drewN ?_ _ | refine blk_drew ?_ | refine blk_alloc ?_ _)); exact BK756.out⟩, ⟨by repeat (first | (with_reducible first | exact HB.out | apply below_alloc | apply pw_below_drewN | apply below_drew1 | refine below_set ?_ GE756.out) | exact HB.out)⟩⟩
      ·rw [if_neg c20] at H
       have c20b0 : (t768 != t769) = false := by simpa using c20
       (try (have c20b1 : decide (t768 = t769) = true := by simpa using c20))
       (try (have c20b2 : (t768 == t769) = true := by simpa using c20))
       clear c20
       have H' := Aside0.mk H
       clear H
       obtain ⟨Ao25, co25, eo25⟩ := Kd.R_slice HO759.out
       subst eo25
       obtain ⟨Ao26, co26, eo26⟩ := Kd.R_slice HO764.out
       subst eo26
       go_wp2_with (first | (go_at_call 31; (with_reducible refine (laws_qxScores.calls k _ _ t757 _ _ t762 true _ ?side1 ?side2 ?side3 ?side4 A16.out).mono ?_); (case side1 => repeat (first | exact (Kd.R_reads' HO759.out).2.2 | (with_reducible refine Kd.C_alloc ?_ _) | (with_reducible refine Kd.C_drewN ?_ _) | (with_reducible refine Kd.C_drew ?_))); (case side2 => exact (Kd.R_reads' HO759.out).2.1); (case side3 => repeat (first | exact (Kd.R_reads' HO764.out).2.2 | (with_reducible refine Kd.C_alloc ?_ _) | (with_reducible refine Kd.C_drewN ?_ _) | (with_reducible refine Kd.C_drew ?_))); (case side4 => exact (Kd.R_reads' HO764.out).2.1); rintro e w' ⟨rfl, ⟨nd, rfl⟩⟩) | (go_at_call 17; (with_reducible refine (impl_ScoresOk.calls k _ _ t751 t768 _ ?side1 ?side2 A18.out).mono ?_); (case side1 => repeat (first | exact (Kd.R_reads' HO753.out).2.2 | (with_reducible refine Kd.C_alloc ?_ _) | (with_reducible refine Kd.C_drewN ?_ _) | (with_reducible refine Kd.C_drew ?_))); (case side2 => exact (Kd.R_reads' HO753.out).2.1); rintro e w27 ⟨rfl, hb⟩; have n0_ := Aside0.mk (Kd.R_below (by (with_reducible repeat (first | apply Kd.R_alloc | apply Kd.R_drewN | apply Kd.R_drew)); exact HO753.out) hb); have n1_ := Aside0.mk (Kd.R_below (by (with_reducible repeat (first | apply Kd.R_alloc | apply Kd.R_drewN | apply Kd.R_drew)); exact HO759.out) hb); have n2_ := Aside0.mk (Kd.R_below (by (with_reducible repeat (first | apply Kd.R_alloc | apply Kd.R_drewN | apply Kd.R_drew)); exact HO764.out) hb); have n3_ := Aside0.mk (blk_below (g := gb756) (o := .cells #[.string t754, .int .i64 t755] 40 (0, 0)) (by (with_reducible repeat (first | refine blk_drewN ?_ _ | refine blk_drew ?_ | refine blk_alloc ?_ _)); exact BK756.out) hb); have n4_ := Aside0.mk (below_step (by repeat (first | (with_reducible first | exact HB.out | apply below_alloc | apply pw_below_drewN | apply below_drew1 | refine below_set ?_ GE756.out) | exact HB.out)) hb); clear HO753; clear HO759; clear HO764; clear BK756; clear HB; have HO753 := n0_; have HO759 := n1_; have HO764 := n2_; have BK756 := n3_; have HB := n4_; clear n0_ n1_ n2_ n3_ n4_; (try clear hb); (try clear hb2); (try clear hk); (try clear hi)) | (go_at_call 15; (with_reducible refine (spec_ScoresOk.calls k _ _ t751 t769 _ ?side1 ?side2 A19.out).mono ?_); (case side1 => repeat (first | exact (Kd.R_reads' HO753.out).2.2 | (with_reducible refine Kd.C_alloc ?_ _) | (with_reducible refine Kd.C_drewN ?_ _) | (with_reducible refine Kd.C_drew ?_))); (case side2 => exact (Kd.R_reads' HO753.out).2.1); rintro e w28 ⟨rfl, hb⟩; have n0_ := Aside0.mk (Kd.R_below (by (with_reducible repeat (first | apply Kd.R_alloc | apply Kd.R_drewN | apply Kd.R_drew)); exact HO753.out) hb); have n1_ := Aside0.mk (Kd.R_below (by (with_reducible repeat (first | apply Kd.R_alloc | apply Kd.R_drewN | apply Kd.R_drew)); exact HO759.out) hb); have n2_ := Aside0.mk (Kd.R_below (by (with_reducible repeat (first | apply Kd.R_alloc | apply Kd.R_drewN | apply Kd.R_drew)); exact HO764.out) hb); have n3_ := Aside0.mk (blk_below (g := gb756) (o := .cells #[.string t754, .int .i64 t755] 40 (0, 0)) (by (with_reducible repeat (first | refine blk_drewN ?_ _ | refine blk_drew ?_ | refine blk_alloc ?_ _)); exact BK756.out) hb); have n4_ := Aside0.mk (below_step (by repeat (first | (with_reducible first | exact HB.out | apply below_alloc | apply pw_below_drewN | apply below_drew1 | refine below_set ?_ GE756.out) | exact HB.out)) hb); clear HO753; clear HO759; clear HO764; clear BK756; clear HB; have HO753 := n0_; have HO759 := n1_; have HO764 := n2_; have BK756 := n3_; have HB := n4_; clear n0_ n1_ n2_ n3_ n4_; (try clear hb); (try clear hb2); (try clear hk); (try clear hi)))
       go_meet
       case rel => exact ⟨_, (!t761), (by first | rfl | (simp; done) | (simp [*]; done)), H', ⟨by first | omega | exact Nat.le_refl _⟩, ⟨by (with_reducible repeat (first | apply Kd.R_alloc | apply Kd.R_drewN | apply Kd.R_drew)); exact Kd.R_mono HO753.out (fun _ hk => ⟨hk.1.2, ⟨hk.2, hk.1.1.2⟩⟩)⟩, ⟨by (with_reducible repeat (first | apply Kd.R_alloc | apply Kd.R_drewN | apply Kd.R_drew)); exact Kd.R_mono HO759.out (fun _ hk => ⟨hk.1.1.2, ⟨hk.2, hk.1.2⟩⟩)⟩, ⟨by (with_reducible repeat (first | apply Kd.R_alloc | apply Kd.R_drewN | apply Kd.R_drew)); exact Kd.R_mono HO764.out (fun _ hk => ⟨hk.1.1.2, ⟨hk.1.2, hk.2⟩⟩)⟩, ⟨by (with_reducible repeat (first | refine blk_drewN ?_ _ | refine blk_drew ?_ | refine blk_alloc ?_ _)); exact BK756.out⟩, ⟨by repeat (first | (with_reducible first | exact HB.out | apply below_alloc | apply pw_below_drewN | apply below_drew1 | refine below_set ?_ GE756.out) | exact HB.out)⟩⟩
     ·replace c17 := Bool.eq_false_iff.mpr c17
      subst c17
      have H1 : (laws_FnScoresPut.j0 k t751 t757 t760 t761 t762 t765 t766 true t754 t755) = some r := by rw [if_neg (show ¬ (false = true) by decide)] at H; exact H
      clear H
      have H := H1
      clear H1
      have H' := Aside0.mk H
      clear H
      obtain ⟨Ao29, co29, eo29⟩ := Kd.R_slice HO759.out
      subst eo29
      obtain ⟨Ao30, co30, eo30⟩ := Kd.R_slice HO764.out
      subst eo30
      go_wp2_with (first | (go_at_call 31; (with_reducible refine (laws_qxScores.calls k _ _ t757 _ _ t762 false _ ?side1 ?side2 ?side3 ?side4 A16.out).mono ?_); (case side1 => repeat (first | exact (Kd.R_reads' HO759.out).2.2 | (with_reducible refine Kd.C_alloc ?_ _) | (with_reducible refine Kd.C_drewN ?_ _) | (with_reducible refine Kd.C_drew ?_))); (case side2 => exact (Kd.R_reads' HO759.out).2.1); (case side3 => repeat (first | exact (Kd.R_reads' HO764.out).2.2 | (with_reducible refine Kd.C_alloc ?_ _) | (with_reducible refine Kd.C_drewN ?_ _) | (with_reducible refine Kd.C_drew ?_))); (case side4 => exact (Kd.R_reads' HO764.out).2.1); rintro e w' ⟨rfl, ⟨nd, rfl⟩⟩))
      go_meet
      case rel => exact ⟨_, (true), (by first | rfl | (simp; done) | (simp [*]; done)), H', ⟨by first | omega | exact Nat.le_refl _⟩, ⟨by (with_reducible repeat (first | apply Kd.R_alloc | apply Kd.R_drewN | apply Kd.R_drew)); exact Kd.R_mono HO753.out (fun _ hk => ⟨hk.1.2, ⟨hk.2, hk.1.1.2⟩⟩)⟩, ⟨by (with_reducible repeat (first | apply Kd.R_alloc | apply Kd.R_drewN | apply Kd.R_drew)); exact Kd.R_mono HO759.out (fun _ hk => ⟨hk.1.1.2, ⟨hk.2, hk.1.2⟩⟩)⟩, ⟨by (with_reducible repeat (first | apply Kd.R_alloc | apply Kd.R_drewN | apply Kd.R_drew)); exact Kd.R_mono HO764.out (fun _ hk => ⟨hk.1.1.2, ⟨hk.1.2, hk.2⟩⟩)⟩, ⟨by (with_reducible repeat (first | refine blk_drewN ?_ _ | refine blk_drew ?_ | refine blk_alloc ?_ _)); exact BK756.out⟩, ⟨by repeat (first | (with_reducible first | exact HB.out | apply below_alloc | apply pw_below_drewN | apply below_drew1 | refine below_set ?_ GE756.out) | exact HB.out)⟩⟩
  case rest =>
   clear HC6
   try clear c1
   try clear c2
   try clear c2b0
   try clear c2b1
   try clear p2
   try clear c3
   try clear c13
   try clear c14
   try clear c14b0
   try clear c14b1
   try clear c14b2
   try clear c15
   try clear c15b0
   try clear c15b1
   try clear c15b2
   try clear c17
   try clear c20
   try clear c20b0
   try clear c20b1
   try clear c20b2
   try clear hcz12_0
   try clear hcz12_1
   try clear hcz9_0
   try clear hcz9_1
   try clear hfz12_0
   try clear hfz12_1
   try clear hfz9_0
   try clear hfz9_1
   obtain ⟨kq, x62_5, rfl, HA, HJ5, HO_3, HO_5, HO_8, BK756, HB⟩ := hcut
   cases kq with
   | zero => exact absurd HA.out (by simp [laws_FnScoresPut.j0])
   | succ kj5 =>
    have H := HA.out
    clear HA
    simp only [laws_FnScoresPut.j0] at H
    by_cases c31 : x62_5 = true
    ·subst c31
     have H1 : (if (t761 == t766) = true then (if (t760 == t765) = true then ((laws_qxScores.f kj5 t757 t762).bind fun t770 => (if t770 = true then ((impl_ScoresOk.f kj5 t751).bind fun t771 => ((spec_ScoresOk.f kj5 t751).bind fun t772 => (some (t771 == t772)))) else (some false))) else (some false)) else (some false)) = some r := by rw [if_pos rfl] at H; exact H
     clear H
     have H := H1
     clear H1
     by_cases c32 : (t761 == t766) = true
     ·rw [if_pos c32] at H
      have c32b0 : (t761 == t766) = true := c32
      (try (have c32b1 : decide (t761 = t766) = true := by simpa using c32))
      (try (have c32b2 : (t761 == t766) = true := by simpa using c32))
      clear c32
      by_cases c33 : (t760 == t765) = true
      ·rw [if_pos c33] at H
       have c33b0 : (t760 == t765) = true := c33
       (try (have c33b1 : decide (t760 = t765) = true := by simpa using c33))
       (try (have c33b2 : (t760 == t765) = true := by simpa using c33))
       clear c33
       replace H := Option.bind_eq_some_iff.mp H
       obtain ⟨t770, A340, H⟩ := H
       replace H : (if t770 = true then ((impl_ScoresOk.f kj5 t751).bind fun t771 => ((spec_ScoresOk.f kj5 t751).bind fun t772 => (some (t771 == t772)))) else (some false)) = some r := H
       have A34 := Aside0.mk A340
       clear A340
       by_cases c35 : t770 = true
       ·subst c35
        have H1 : ((impl_ScoresOk.f kj5 t751).bind fun t771 => ((spec_ScoresOk.f kj5 t751).bind fun t772 => (some (t771 == t772)))) = some r := by rw [if_pos rfl] at H; exact H
        clear H
        have H := H1
        clear H1
        replace H := Option.bind_eq_some_iff.mp H
        obtain ⟨t771, A360, H⟩ := H
        replace H : ((spec_ScoresOk.f kj5 t751).bind fun t772 => (some (t771 == t772))) = some r := H
        have A36 := Aside0.mk A360
        clear A360
        replace H := Option.bind_eq_some_iff.mp H
        obtain ⟨t772, A370, H⟩ := H
        replace H : (some (t771 == t772)) = some r := H
        have A37 := Aside0.mk A370
        clear A370
        obtain rfl := Option.some.inj H
        obtain ⟨Ao38, co38, eo38⟩ := Kd.R_slice HO_5.out
        subst eo38
        obtain ⟨Ao39, co39, eo39⟩ := Kd.R_slice HO_8.out
        subst eo39
        go_wp2_with (first | (go_at_call 31; (with_reducible refine (laws_qxScores.calls kj5 _ _ t757 _ _ t762 true _ ?side1 ?side2 ?side3 ?side4 A34.out).mono ?_); (case side1 => repeat (first | exact (Kd.R_reads' HO_5.out).2.2 | (with_reducible refine Kd.C_alloc ?_ _) | (with_reducible refine Kd.C_drewN ?_ _) | (with_reducible refine Kd.C_drew ?_))); (case side2 => exact (Kd.R_reads' HO_5.out).2.1); (case side3 => repeat (first | exact (Kd.R_reads' HO_8.out).2.2 | (with_reducible refine Kd.C_alloc ?_ _) | (with_reducible refine Kd.C_drewN ?_ _) | (with_reducible refine Kd.C_drew ?_))); (case side4 => exact (Kd.R_reads' HO_8.out).2.1); rintro e w' ⟨rfl, ⟨nd, rfl⟩⟩) | (go_at_call 17; (with_reducible refine (impl_ScoresOk.calls kj5 _ _ t751 t771 _ ?side1 ?side2 A36.out).mono ?_); (case side1 => repeat (first | exact (Kd.R_reads' HO_3.out).2.2 | (with_reducible refine Kd.C_alloc ?_ _) | (with_reducible refine Kd.C_drewN ?_ _) | (with_reducible refine Kd.C_drew ?_))); (case side2 => exact (Kd.R_reads' HO_3.out).2.1); rintro e w40 ⟨rfl, hb⟩; have n0_ := Aside0.mk (Kd.R_below (by (with_reducible repeat (first | apply Kd.R_alloc | apply Kd.R_drewN | apply Kd.R_drew)); exact HO_3.out) hb); have n1_ := Aside0.mk (Kd.R_below (by (with_reducible repeat (first | apply Kd.R_alloc | apply Kd.R_drewN | apply Kd.R_drew)); exact HO_5.out) hb); have n2_ := Aside0.mk (Kd.R_below (by (with_reducible repeat (first | apply Kd.R_alloc | apply Kd.R_drewN | apply Kd.R_drew)); exact HO_8.out) hb); have n3_ := Aside0.mk (blk_below (g := gb756) (o := .cells #[.string t754, .int .i64 t755] 40 (0, 0)) (by (with_reducible repeat (first | refine blk_drewN ?_ _ | refine blk_drew ?_ | refine blk_alloc ?_ _)); exact BK756.out) hb); have n4_ := Aside0.mk (below_step (by repeat (first | (with_reducible first | exact HB.out | apply below_alloc | apply pw_below_drewN | apply below_drew1 | refine below_set ?_ GE756.out) | exact HB.out)) hb); clear HO_3; clear HO_5; clear HO_8; clear BK756; clear HB; have HO_3 := n0_; have HO_5 := n1_; have HO_8 := n2_; have BK756 := n3_; have HB := n4_; clear n0_ n1_ n2_ n3_ n4_; (try clear hb); (try clear hb2); (try clear hk); (try clear hi)) | (go_at_call 15; (with_reducible refine (spec_ScoresOk.calls kj5 _ _ t751 t772 _ ?side1 ?side2 A37.out).mono ?_); (case side1 => repeat (first | exact (Kd.R_reads' HO_3.out).2.2 | (with_reducible refine Kd.C_alloc ?_ _) | (with_reducible refine Kd.C_drewN ?_ _) | (with_reducible refine Kd.C_drew ?_))); (case side2 => exact (Kd.R_reads' HO_3.out).2.1); rintro e w41 ⟨rfl, hb⟩; have n0_ := Aside0.mk (Kd.R_below (by (with_reducible repeat (first | apply Kd.R_alloc | apply Kd.R_drewN | apply Kd.R_drew)); exact HO_3.out) hb); have n1_ := Aside0.mk (Kd.R_below (by (with_reducible repeat (first | apply Kd.R_alloc | apply Kd.R_drewN | apply Kd.R_drew)); exact HO_5.out) hb); have n2_ := Aside0.mk (Kd.R_below (by (with_reducible repeat (first | apply Kd.R_alloc | apply Kd.R_drewN | apply Kd.R_drew)); exact HO_8.out) hb); have n3_ := Aside0.mk (blk_below (g := gb756) (o := .cells #[.string t754, .int .i64 t755] 40 (0, 0)) (by (with_reducible repeat (first | refine blk_drewN ?_ _ | refine blk_drew ?_ | refine blk_alloc ?_ _)); exact BK756.out) hb); have n4_ := Aside0.mk (below_step (by repeat (first | (with_reducible first | exact HB.out | apply below_alloc | apply pw_below_drewN | apply below_drew1 | refine below_set ?_ GE756.out) | exact HB.out)) hb); clear HO_3; clear HO_5; clear HO_8; clear BK756; clear HB; have HO_3 := n0_; have HO_5 := n1_; have HO_8 := n2_; have BK756 := n3_; have HB := n4_; clear n0_ n1_ n2_ n3_ n4_; (try clear hb); (try clear hb2); (try clear hk); (try clear hi)))
        go_ret
        exact ⟨by first | rfl | (simp [errW_none, errW_some] <;> rfl) | (simp [*, errW_none, errW_some] <;> rfl), by repeat (first | (with_reducible first | exact HB.out | apply below_alloc | apply pw_below_drewN | apply below_drew1 | refine below_set ?_ GE756.out) | exact HB.out)⟩
       ·replace c35 := Bool.eq_false_iff.mpr c35
        subst c35
        have H1 : (some false) = some r := by rw [if_neg (show ¬ (false = true) by decide)] at H; exact H
        clear H
        have H := H1
        clear H1
        obtain rfl := Option.some.inj H
        cases hr_
      ·rw [if_neg c33] at H
       have c33b0 : (t760 == t765) = false := by simpa using c33
       (try (have c33b1 : decide (t760 = t765) = false := by simpa using c33))
       (try (have c33b2 : (t760 == t765) = false := by simpa using c33))
       (try (have c33b3 : ¬ (t760 = t765) := by simpa using c33))
       clear c33
       obtain rfl := Option.some.inj H
       cases hr_
     ·rw [if_neg c32] at H
      have c32b0 : (t761 == t766) = false := by simpa using c32
      (try (have c32b1 : decide (t761 = t766) = false := by simpa using c32))
      (try (have c32b2 : (t761 == t766) = false := by simpa using c32))
      (try (have c32b3 : ¬ (t761 = t766) := by simpa using c32))
      clear c32
      obtain rfl := Option.some.inj H
      cases hr_
    ·replace c31 := Bool.eq_false_iff.mpr c31
     subst c31
     have H1 : ((impl_ScoresRank.f kj5 t757 t754).bind fun t773 => ((impl_ScoresDrop.f kj5 t757 t754).bind fun bt774 => ((impl_ScoresDrop.f kj5 t751 t754).bind fun bt778 => ((impl_ScoresOk.f kj5 t757).bind fun t782 => (if t782 = true then (if t773 ≥ 0 then (if 0 ≤ t773 then (if t773 < (t757.length : Int) then (if ((((rd_T40 t757 t773).f0).toList) == t754.toList && (((rd_T40 t757 t773).f1) == t755)) = true then ((impl_ScoresRank.f kj5 t751 t754).bind fun t784 => (if (t760 == (decide (t784 < 0))) = true then (if bt774.2 = true then ((laws_qxScores.f kj5 bt774.1 bt778.1).bind fun t785 => (some t785)) else (some false)) else (some false))) else (some false)) else (none)) else (none)) else (some false)) else (some false)))))) = some r := by rw [if_neg (show ¬ (false = true) by decide)] at H; exact H
     clear H
     have H := H1
     clear H1
     replace H := Option.bind_eq_some_iff.mp H
     obtain ⟨t773, A440, H⟩ := H
     replace H : ((impl_ScoresDrop.f kj5 t757 t754).bind fun bt774 => ((impl_ScoresDrop.f kj5 t751 t754).bind fun bt778 => ((impl_ScoresOk.f kj5 t757).bind fun t782 => (if t782 = true then (if t773 ≥ 0 then (if 0 ≤ t773 then (if t773 < (t757.length : Int) then (if ((((rd_T40 t757 t773).f0).toList) == t754.toList && (((rd_T40 t757 t773).f1) == t755)) = true then ((impl_ScoresRank.f kj5 t751 t754).bind fun t784 => (if (t760 == (decide (t784 < 0))) = true then (if bt774.2 = true then ((laws_qxScores.f kj5 bt774.1 bt778.1).bind fun t785 => (some t785)) else (some false)) else (some false))) else (some false)) else (none)) else (none)) else (some false)) else (some false))))) = some r := H
     have A44 := Aside0.mk A440
     clear A440
     replace H := Option.bind_eq_some_iff.mp H
     obtain ⟨⟨t774, t775⟩, A450, H⟩ := H
     replace H : ((impl_ScoresDrop.f kj5 t751 t754).bind fun bt778 => ((impl_ScoresOk.f kj5 t757).bind fun t782 => (if t782 = true then (if t773 ≥ 0 then (if 0 ≤ t773 then (if t773 < (t757.length : Int) then (if ((((rd_T40 t757 t773).f0).toList) == t754.toList && (((rd_T40 t757 t773).f1) == t755)) = true then ((impl_ScoresRank.f kj5 t751 t754).bind fun t784 => (if (t760 == (decide (t784 < 0))) = true then (if t775 = true then ((laws_qxScores.f kj5 t774 bt778.1).bind fun t785 => (some t785)) else (some false)) else (some false))) else (some false)) else (none)) else (none)) else (some false)) else (some false)))) = some r := H
     have A45 := Aside0.mk A450
     clear A450
     replace H := Option.bind_eq_some_iff.mp H
     obtain ⟨⟨t778, t779⟩, A460, H⟩ := H
     replace H : ((impl_ScoresOk.f kj5 t757).bind fun t782 => (if t782 = true then (if t773 ≥ 0 then (if 0 ≤ t773 then (if t773 < (t757.length : Int) then (if ((((rd_T40 t757 t773).f0).toList) == t754.toList && (((rd_T40 t757 t773).f1) == t755)) = true then ((impl_ScoresRank.f kj5 t751 t754).bind fun t784 => (if (t760 == (decide (t784 < 0))) = true then (if t775 = true then ((laws_qxScores.f kj5 t774 t778).bind fun t785 => (some t785)) else (some false)) else (some false))) else (some false)) else (none)) else (none)) else (some false)) else (some false))) = some r := H
     have A46 := Aside0.mk A460
     clear A460
     replace H := Option.bind_eq_some_iff.mp H
     obtain ⟨t782, A470, H⟩ := H
     replace H : (if t782 = true then (if t773 ≥ 0 then (if 0 ≤ t773 then (if t773 < (t757.length : Int) then (if ((((rd_T40 t757 t773).f0).toList) == t754.toList && (((rd_T40 t757 t773).f1) == t755)) = true then ((impl_ScoresRank.f kj5 t751 t754).bind fun t784 => (if (t760 == (decide (t784 < 0))) = true then (if t775 = true then ((laws_qxScores.f kj5 t774 t778).bind fun t785 => (some t785)) else (some false)) else (some false))) else (some false)) else (none)) else (none)) else (some false)) else (some false)) = some r := H
     have A47 := Aside0.mk A470
     clear A470
     by_cases c48 : t782 = true
     ·subst c48
      have H1 : (if t773 ≥ 0 then (if 0 ≤ t773 then (if t773 < (t757.length : Int) then (if ((((rd_T40 t757 t773).f0).toList) == t754.toList && (((rd_T40 t757 t773).f1) == t755)) = true then ((impl_ScoresRank.f kj5 t751 t754).bind fun t784 => (if (t760 == (decide (t784 < 0))) = true then (if t775 = true then ((laws_qxScores.f kj5 t774 t778).bind fun t785 => (some t785)) else (some false)) else (some false))) else (some false)) else (none)) else (none)) else (some false)) = some r := by rw [if_pos rfl] at H; exact H
      clear H
      have H := H1
      clear H1
      by_cases c49 : t773 ≥ 0
      ·rw [if_pos c49] at H
       have c49b0 : decide (0 ≤ t773) = true := decide_eq_true c49
       clear c49
       by_cases c50 : 0 ≤ t773
       ·rw [if_pos c50] at H
        have c50b0 : decide (0 ≤ t773) = true := decide_eq_true c50
        clear c50
        by_cases c51 : t773 < (t757.length : Int)
        ·rw [if_pos c51] at H
         have c51b0 : decide (t773 < (t757.length : Int)) = true := decide_eq_true c51
         clear c51
         by_cases c52 : ((((rd_T40 t757 t773).f0).toList) == t754.toList && (((rd_T40 t757 t773).f1) == t755)) = true
         ·rw [if_pos c52] at H
          have c52b0 : ((((rd_T40 t757 t773).f0).toList) == t754.toList && (((rd_T40 t757 t773).f1) == t755)) = true := c52
          (try (have c52b1 : decide ((((rd_T40 t757 t773).f0).toList) = t754.toList && (((rd_T40 t757 t773).f1) == t755)) = true := by simpa using c52))
          (try (have c52b2 : ((((rd_T40 t757 t773).f0).toList) == t754.toList && (((rd_T40 t757 t773).f1) == t755)) = true := by simpa using c52))
          clear c52
          replace H := Option.bind_eq_some_iff.mp H
          obtain ⟨t784, A530, H⟩ := H
          replace H : (if (t760 == (decide (t784 < 0))) = true then (if t775 = true then ((laws_qxScores.f kj5 t774 t778).bind fun t785 => (some t785)) else (some false)) else (some false)) = some r := H
          have A53 := Aside0.mk A530
          clear A530
          by_cases c54 : (t760 == (decide (t784 < 0))) = true
          ·rw [if_pos c54] at H
           have c54b0 : (t760 == (decide (t784 < 0))) = true := c54
           (try (have c54b1 : decide (t760 = (decide (t784 < 0))) = true := by simpa using c54))
           (try (have c54b2 : (t760 == (decide (t784 < 0))) = true := by simpa using c54))
           clear c54
           by_cases c55 : t775 = true
           ·subst c55
            have H1 : ((laws_qxScores.f kj5 t774 t778).bind fun t785 => (some t785)) = some r := by rw [if_pos rfl] at H; exact H
            clear H
            have H := H1
            clear H1
            replace H := Option.bind_eq_some_iff.mp H
            obtain ⟨t785, A560, H⟩ := H
            replace H : (some t785) = some r := H
            have A56 := Aside0.mk A560
            clear A560
            obtain rfl := Option.some.inj H
            have hcz57_0 : wc.cell? ⟨gb756, 0, none⟩ = some (.string t754) := (blk_cell BK756.out 0).trans rfl
            have hcz57_1 : wc.cell? ⟨gb756, 1, none⟩ = some (.int .i64 t755) := (blk_cell BK756.out 1).trans rfl
            have hfz57_0 := blk_frozen BK756.out 0
            have hfz57_1 := blk_frozen BK756.out 1
            obtain ⟨Ao58, co58, eo58⟩ := Kd.R_slice HO_5.out
            subst eo58
            try go_wp2_with (first | ((with_reducible refine gate_callee (f := 20) rfl ?_); refine goesL_ (some 86) rfl rfl Try.func20 (by kernel_rfl) rfl #[.slice Ao58 t757.length co58, .string t754] rfl (by (try simp only [List.map_toArray, List.map_cons, List.map_nil]); first | done | rfl | (simp only [List.length_drop, List.length_take]; rfl)) ?_; (with_reducible refine (impl_ScoresRank.calls kj5 _ _ t757 t754 t773 _ ?side1 ?side2 A44.out).mono ?_); (case side1 => repeat (first | exact (Kd.R_reads' HO_5.out).2.2 | (with_reducible refine Kd.C_alloc ?_ _) | (with_reducible refine Kd.C_drewN ?_ _) | (with_reducible refine Kd.C_drew ?_))); (case side2 => exact (Kd.R_reads' HO_5.out).2.1); rintro e w59 ⟨rfl, hb⟩; refine ⟨_, rfl, ?_⟩; have n0_ := Aside0.mk (Kd.R_below (by (with_reducible repeat (first | apply Kd.R_alloc | apply Kd.R_drewN | apply Kd.R_drew)); exact HO_3.out) hb); have n1_ := Aside0.mk (Kd.R_below (by (with_reducible repeat (first | apply Kd.R_alloc | apply Kd.R_drewN | apply Kd.R_drew)); exact HO_5.out) hb); have n2_ := Aside0.mk (Kd.R_below (by (with_reducible repeat (first | apply Kd.R_alloc | apply Kd.R_drewN | apply Kd.R_drew)); exact HO_8.out) hb); have n3_ := Aside0.mk (blk_below (g := gb756) (o := .cells #[.string t754, .int .i64 t755] 40 (0, 0)) (by (with_reducible repeat (first | refine blk_drewN ?_ _ | refine blk_drew ?_ | refine blk_alloc ?_ _)); exact BK756.out) hb); have n4_ := Aside0.mk (below_step (by repeat (first | (with_reducible first | exact HB.out | apply below_alloc | apply pw_below_drewN | apply below_drew1 | refine below_set ?_ GE756.out) | exact HB.out)) hb); clear HO_3; clear HO_5; clear HO_8; clear BK756; clear HB; have HO_3 := n0_; have HO_5 := n1_; have HO_8 := n2_; have BK756 := n3_; have HB := n4_; clear n0_ n1_ n2_ n3_ n4_; (try clear hb); (try clear hb2); (try clear hk); (try clear hi); have hcz60_0 : w59.cell? ⟨gb756, 0, none⟩ = some (.string t754) := (blk_cell BK756.out 0).trans rfl; have hcz60_1 : w59.cell? ⟨gb756, 1, none⟩ = some (.int .i64 t755) := (blk_cell BK756.out 1).trans rfl; have hfz60_0 := blk_frozen BK756.out 0; have hfz60_1 := blk_frozen BK756.out 1) | ((with_reducible refine gate_callee (f := 26) rfl ?_); refine goesL_ (some 91) rfl rfl Try.func26 (by kernel_rfl) rfl #[.slice Ao58 t757.length co58, .string t754] rfl (by (try simp only [List.map_toArray, List.map_cons, List.map_nil]); first | done | rfl | (simp only [List.length_drop, List.length_take]; rfl)) ?_; (with_reducible refine (impl_ScoresDrop.calls kj5 _ _ t757 t754 t774 true _ ?side1 ?side2 A45.out).mono ?_); (case side1 => repeat (first | exact (Kd.R_reads' HO_5.out).2.2 | (with_reducible refine Kd.C_alloc ?_ _) | (with_reducible refine Kd.C_drewN ?_ _) | (with_reducible refine Kd.C_drew ?_))); (case side2 => exact (Kd.R_reads' HO_5.out).2.1); rintro e w61 ⟨v776, rfl, ho0, hb⟩; refine ⟨_, rfl, ?_⟩; have n0_ := Aside0.mk (Kd.R_elder' (by (with_reducible repeat (first | apply Kd.R_alloc | apply Kd.R_drewN | apply Kd.R_drew)); exact HO_3.out) (Kd.R_base ho0) hb); have n1_ := Aside0.mk (Kd.R_elder' (by (with_reducible repeat (first | apply Kd.R_alloc | apply Kd.R_drewN | apply Kd.R_drew)); exact HO_5.out) (Kd.R_base ho0) hb); have n2_ := Aside0.mk (Kd.R_elder' (by (with_reducible repeat (first | apply Kd.R_alloc | apply Kd.R_drewN | apply Kd.R_drew)); exact HO_8.out) (Kd.R_base ho0) hb); have n3_ := Aside0.mk (Kd.R_lower (Kd.R_newB (Kd.R_new' (Kd.R_new' (Kd.R_new' ho0 (Kd.R_lt (by (with_reducible repeat (first | apply Kd.R_alloc | apply Kd.R_drewN | apply Kd.R_drew)); exact HO_3.out))) (Kd.R_lt (by (with_reducible repeat (first | apply Kd.R_alloc | apply Kd.R_drewN | apply Kd.R_drew)); exact HO_5.out))) (Kd.R_lt (by (with_reducible repeat (first | apply Kd.R_alloc | apply Kd.R_drewN | apply Kd.R_drew)); exact HO_8.out))) (g := gb756) (o := .cells #[.string t754, .int .i64 t755] 40 (0, 0)) (by (with_reducible repeat (first | refine blk_drewN ?_ _ | refine blk_drew ?_ | refine blk_alloc ?_ _)); exact BK756.out)) (below_size (by repeat (first | (with_reducible first | exact HB.out | apply below_alloc | apply pw_below_drewN | apply below_drew1 | refine below_set ?_ GE756.out) | exact HB.out)))); have n4_ := Aside0.mk (blk_below (g := gb756) (o := .cells #[.string t754, .int .i64 t755] 40 (0, 0)) (by (with_reducible repeat (first | refine blk_drewN ?_ _ | refine blk_drew ?_ | refine blk_alloc ?_ _)); exact BK756.out) hb); have n5_ := Aside0.mk (below_step (by repeat (first | (with_reducible first | exact HB.out | apply below_alloc | apply pw_below_drewN | apply below_drew1 | refine below_set ?_ GE756.out) | exact HB.out)) hb); clear HO_3; clear HO_5; clear HO_8; clear BK756; clear HB; have HO_3 := n0_; have HO_5 := n1_; have HO_8 := n2_; have HO777 := n3_; have BK756 := n4_; have HB := n5_; clear n0_ n1_ n2_ n3_ n4_ n5_; (try clear hb); (try clear hb2); (try clear hk); (try clear hi); (try clear ho0); have hcz62_0 : w61.cell? ⟨gb756, 0, none⟩ = some (.string t754) := (blk_cell BK756.out 0).trans rfl; have hcz62_1 : w61.cell? ⟨gb756, 1, none⟩ = some (.int .i64 t755) := (blk_cell BK756.out 1).trans rfl; have hfz62_0 := blk_frozen BK756.out 0; have hfz62_1 := blk_frozen BK756.out 1) | ((with_reducible refine gate_callee (f := 26) rfl ?_); refine goesL_ (some 98) rfl rfl Try.func26 (by kernel_rfl) rfl #[.slice Ao10 t751.length co10, .string t754] rfl (by (try simp only [List.map_toArray, List.map_cons, List.map_nil]); first | done | rfl | (simp only [List.length_drop, List.length_take]; rfl)) ?_; (with_reducible refine (impl_ScoresDrop.calls kj5 _ _ t751 t754 t778 t779 _ ?side1 ?side2 A46.out).mono ?_); (case side1 => repeat (first | exact (Kd.R_reads' HO_3.out).2.2 | (with_reducible refine Kd.C_alloc ?_ _) | (with_reducible refine Kd.C_drewN ?_ _) | (with_reducible refine Kd.C_drew ?_))); (case side2 => exact (Kd.R_reads' HO_3.out).2.1); rintro e w63 ⟨v780, rfl, ho0, hb⟩; refine ⟨_, rfl, ?_⟩; have n0_ := Aside0.mk (Kd.R_elder' (by (with_reducible repeat (first | apply Kd.R_alloc | apply Kd.R_drewN | apply Kd.R_drew)); exact HO_3.out) (Kd.R_base ho0) hb); have n1_ := Aside0.mk (Kd.R_elder' (by (with_reducible repeat (first | apply Kd.R_alloc | apply Kd.R_drewN | apply Kd.R_drew)); exact HO_5.out) (Kd.R_base ho0) hb); have n2_ := Aside0.mk (Kd.R_elder' (by (with_reducible repeat (first | apply Kd.R_alloc | apply Kd.R_drewN | apply Kd.R_drew)); exact HO_8.out) (Kd.R_base ho0) hb); have n3_ := Aside0.mk (Kd.R_elder' (by (with_reducible repeat (first | apply Kd.R_alloc | apply Kd.R_drewN | apply Kd.R_drew)); exact HO777.out) (Kd.R_base ho0) hb); have n4_ := Aside0.mk (Kd.R_lower (Kd.R_newB (Kd.R_new' (Kd.R_new' (Kd.R_new' (Kd.R_new' ho0 (Kd.R_lt (by (with_reducible repeat (first | apply Kd.R_alloc | apply Kd.R_drewN | apply Kd.R_drew)); exact HO_3.out))) (Kd.R_lt (by (with_reducible repeat (first | apply Kd.R_alloc | apply Kd.R_drewN | apply Kd.R_drew)); exact HO_5.out))) (Kd.R_lt (by (with_reducible repeat (first | apply Kd.R_alloc | apply Kd.R_drewN | apply Kd.R_drew)); exact HO_8.out))) (Kd.R_lt (by (with_reducible repeat (first | apply Kd.R_alloc | apply Kd.R_drewN | apply Kd.R_drew)); exact HO777.out))) (g := gb756) (o := .cells #[.string t754, .int .i64 t755] 40 (0, 0)) (by (with_reducible repeat (first | refine blk_drewN ?_ _ | refine blk_drew ?_ | refine blk_alloc ?_ _)); exact BK756.out)) (below_size (by repeat (first | (with_reducible first | exact HB.out | apply below_alloc | apply pw_below_drewN | apply below_drew1 | refine below_set ?_ GE756.out) | exact HB.out)))); have n5_ := Aside0.mk (blk_below (g := gb756) (o := .cells #[.string t754, .int .i64 t755] 40 (0, 0)) (by (with_reducible repeat (first | refine blk_drewN ?_ _ | refine blk_drew ?_ | refine blk_alloc ?_ _)); exact BK756.out) hb); have n6_ := Aside0.mk (below_step (by repeat (first | (with_reducible first | exact HB.out | apply below_alloc | apply pw_below_drewN | apply below_drew1 | refine below_set ?_ GE756.out) | exact HB.out)) hb); clear HO_3; clear HO_5; clear HO_8; clear HO777; clear BK756; clear HB; have HO_3 := n0_; have HO_5 := n1_; have HO_8 := n2_; have HO777 := n3_; have HO781 := n4_; have BK756 := n5_; have HB := n6_; clear n0_ n1_ n2_ n3_ n4_ n5_ n6_; (try clear hb); (try clear hb2); (try clear hk); (try clear hi); (try clear ho0)))
            have n0_ := Aside0.mk (Kd.R_drew HO_3.out)
            have n1_ := Aside0.mk (Kd.R_drew HO_5.out)
            have n2_ := Aside0.mk (Kd.R_drew HO_8.out)
            have n3_ := Aside0.mk (Kd.R_drew HO777.out)
            have n4_ := Aside0.mk (Kd.R_drew HO781.out)
            have n5_ := Aside0.mk (blk_drew BK756.out)
            have n6_ := Aside0.mk (below_drew1 HB.out)
            clear HO_3
            clear HO_5
            clear HO_8
            clear HO777
            clear HO781
            clear BK756
            clear HB
            have HO_3 := n0_
            have HO_5 := n1_
            have HO_8 := n2_
            have HO777 := n3_
            have HO781 := n4_
            have BK756 := n5_
            have HB := n6_
            clear n0_ n1_ n2_ n3_ n4_ n5_ n6_
            have p783 : 0 ≤ (t773 : Int) := of_decide_eq_true (by first | (with_reducible assumption) | assumption)
            have q783 : t773 < (t757.length : Int) := of_decide_eq_true (by first | (with_reducible assumption) | assumption)
            obtain ⟨ad783, e783, hx783_0, hx783_1⟩ := at_T40 (Kd.R_reads' HO_5.out).2.2 t773 p783 q783
            cases e783
            replace p783 := eq_true p783
            replace q783 := eq_true q783
            refine start_ (n := 32) (S := fun w' => w'.cell? ⟨gb756, 0, none⟩ = some (.string t754) ∧ w'.cell? ⟨gb756, 1, none⟩ = some (.int .i64 t755) ∧ w'.cell? (ad783.add ((t773).toNat * 2)) = some (.string ((rd_T40 t757 t773).f0)) ∧ w'.cell? ⟨(ad783.add ((t773).toNat * 2)).block, (ad783.add ((t773).toNat * 2)).off + 1, none⟩ = some (.int .i64 ((rd_T40 t757 t773).f1))) (ds := []) #[false, false, false, false, false, false, false, false, false, false, false, false, false, false, false, false, false, false, false, false, false, false, false, false, false, false, false, false, false, false, false, false] (by kernel_rfl) rfl rfl ⟨(blk_cell BK756.out 0).trans rfl, (blk_cell BK756.out 1).trans rfl, hx783_0, hx783_1⟩ (fun hHeld => ?_); refine with_tabW laws_FnScoresPut.tab11 laws_FnScoresPut.bits11 (fun HT_ HW_ => ?_)
            generalize w63.drew = w64 at HO_3 HO_5 HO_8 HO777 HO781 BK756 HB hx783_0 hx783_1 hHeld ⊢
            refine pure_ (i := 0) (N := some 101) (v := ?_) (a' := ?_) #[true, false, false, false, false, false, false, false, false, false, false, false, false, false, false, false, false, false, false, false, false, false, false, false, false, false, false, false, false, false, false, false] rfl rfl (any_of HT_.out (by kernel_rfl)) (fun _ _ _ h => h) (Or.inl ⟨by rfl, ?_⟩) ?_ ?_
            rotate_left
            ·intro w'
             go_simp
             with_reducible rfl
            rotate_left
            ·simp only [Act.put, List.setIfInBounds_toArray, List.set_cons_zero, List.set_cons_succ, i64_w, i32_w]
             rfl
            refine one_ (i := 1) (N := some 102) #[true, true, false, false, false, false, false, false, false, false, false, false, false, false, false, false, false, false, false, false, false, false, false, false, false, false, false, false, false, false, false, false] rfl rfl (one_of HT_.out (by kernel_rfl)) (by decide) (fun K hK => ?_)
            refine goes_ Try.func17 (by kernel_rfl) rfl #[.slice (some ad783) t757.length co58] (by rfl) rfl rfl (by (try simp only [List.map_toArray, List.map_cons, List.map_nil]); first | done | rfl | (simp only [List.length_drop, List.length_take]; rfl)) ?_
            with_reducible refine (impl_ScoresOk.calls kj5 _ _ t757 true _ ?side1 ?side2 A47.out).mono ?_
            (case side1 => repeat (first | exact (Kd.R_reads' HO_5.out).2.2 | (with_reducible refine Kd.C_alloc ?_ _) | (with_reducible refine Kd.C_drewN ?_ _) | (with_reducible refine Kd.C_drew ?_)))
            (case side2 => exact (Kd.R_reads' HO_5.out).2.1)
            rintro e w65 ⟨rfl, hb⟩
            have HS2_ := (hb.cell (World.block_lt_of_cell? _ _ (hHeld.2.2.1))).trans (hHeld.2.2.1)
            have HS3_ := (hb.cell (World.block_lt_of_cell? _ _ (hHeld.2.2.2))).trans (hHeld.2.2.2)
            refine ⟨_, rfl, ?_⟩
            have n0_ := Aside0.mk (Kd.R_below (by (with_reducible repeat (first | apply Kd.R_alloc | apply Kd.R_drewN | apply Kd.R_drew)); exact HO_3.out) hb)
            have n1_ := Aside0.mk (Kd.R_below (by (with_reducible repeat (first | apply Kd.R_alloc | apply Kd.R_drewN | apply Kd.R_drew)); exact HO_5.out) hb)
            have n2_ := Aside0.mk (Kd.R_below (by (with_reducible repeat (first | apply Kd.R_alloc | apply Kd.R_drewN | apply Kd.R_drew)); exact HO_8.out) hb)
            have n3_ := Aside0.mk (Kd.R_below (by (with_reducible repeat (first | apply Kd.R_alloc | apply Kd.R_drewN | apply Kd.R_drew)); exact HO777.out) hb)
            have n4_ := Aside0.mk (Kd.R_below (by (with_reducible repeat (first | apply Kd.R_alloc | apply Kd.R_drewN | apply Kd.R_drew)); exact HO781.out) hb)
            have n5_ := Aside0.mk (blk_below (g := gb756) (o := .cells #[.string t754, .int .i64 t755] 40 (0, 0)) (by (with_reducible repeat (first | refine blk_drewN ?_ _ | refine blk_drew ?_ | refine blk_alloc ?_ _)); exact BK756.out) hb)
            have n6_ := Aside0.mk (below_step (by repeat (first | (with_reducible first | exact HB.out | apply below_alloc | apply pw_below_drewN | apply below_drew1 | refine below_set ?_ GE756.out) | exact HB.out)) hb)
            clear HO_3
            clear HO_5
            clear HO_8
            clear HO777
            clear HO781
            clear BK756
            clear HB
            have HO_3 := n0_
            have HO_5 := n1_
            have HO_8 := n2_
            have HO777 := n3_
            have HO781 := n4_
            have BK756 := n5_
            have HB := n6_
            clear n0_ n1_ n2_ n3_ n4_ n5_ n6_
            (try clear hb)
            (try clear hb2)
            (try clear hk)
            (try clear hi)
            refine hK.out _ _ ⟨(blk_cell BK756.out 0).trans rfl, (blk_cell BK756.out 1).trans rfl, HS2_, HS3_⟩ (fun hHeld => ?_)
            clear hK K
            refine norm_ (a' := ?_) ?_ ?_
            rotate_left
            ·show Act.put _ (some 102) _ = _
             simp only [Act.put, List.setIfInBounds_toArray, List.set_cons_zero, List.set_cons_succ, i64_w, i32_w]
             rfl
            refine pure_ (i := 2) (N := some 103) (v := ?_) (a' := ?_) #[true, true, true, false, false, false, false, false, false, false, false, false, false, false, false, false, false, false, false, false, false, false, false, false, false, false, false, false, false, false, false, false] rfl rfl (any_of HT_.out (by kernel_rfl)) (fun _ _ _ h => h) (Or.inl ⟨by rfl, ?_⟩) ?_ ?_
            rotate_left
            ·intro w'
             go_simp
             with_reducible rfl
            rotate_left
            ·simp only [Act.put, List.setIfInBounds_toArray, List.set_cons_zero, List.set_cons_succ, i64_w, i32_w]
             rfl
            refine pure_ (i := 3) (N := some 104) (v := ?_) (a' := ?_) #[true, true, true, true, false, false, false, false, false, false, false, false, false, false, false, false, false, false, false, false, false, false, false, false, false, false, false, false, false, false, false, false] rfl rfl (any_of HT_.out (by kernel_rfl)) (fun _ _ _ h => h) (Or.inl ⟨by rfl, ?_⟩) ?_ ?_
            rotate_left
            ·intro w'
             go_simp
             with_reducible rfl
            rotate_left
            ·simp only [Act.put, List.setIfInBounds_toArray, List.set_cons_zero, List.set_cons_succ, i64_w, i32_w]
             rfl
            refine pure_ (i := 4) (N := some 105) (v := ?_) (a' := ?_) #[true, true, true, true, true, false, false, false, false, false, false, false, false, false, false, false, false, false, false, false, false, false, false, false, false, false, false, false, false, false, false, false] rfl rfl (any_of HT_.out (by kernel_rfl)) (fun _ _ _ h => h) (Or.inl ⟨by rfl, ?_⟩) ?_ ?_
            rotate_left
            ·intro w'
             go_simp
             with_reducible rfl
            rotate_left
            ·simp only [Act.put, List.setIfInBounds_toArray, List.set_cons_zero, List.set_cons_succ, i64_w, i32_w]
             rfl
            refine pure_ (i := 5) (N := some 106) (v := ?_) (a' := ?_) #[true, true, true, true, true, true, false, false, false, false, false, false, false, false, false, false, false, false, false, false, false, false, false, false, false, false, false, false, false, false, false, false] rfl rfl (any_of HT_.out (by kernel_rfl)) (fun _ _ _ h => h) (Or.inl ⟨by rfl, ?_⟩) ?_ ?_
            rotate_left
            ·intro w'
             go_simp
             with_reducible rfl
            rotate_left
            ·simp only [Act.put, List.setIfInBounds_toArray, List.set_cons_zero, List.set_cons_succ, i64_w, i32_w]
             rfl
            refine pure_ (i := 6) (N := some 107) (v := ?_) (a' := ?_) #[true, true, true, true, true, true, true, false, false, false, false, false, false, false, false, false, false, false, false, false, false, false, false, false, false, false, false, false, false, false, false, false] rfl rfl (any_of HT_.out (by kernel_rfl)) (fun _ _ _ h => h) (Or.inl ⟨by rfl, ?_⟩) ?_ ?_
            rotate_left
            ·intro w'
             go_simp
             with_reducible rfl
            rotate_left
            ·simp only [Act.put, List.setIfInBounds_toArray, List.set_cons_zero, List.set_cons_succ, i64_w, i32_w]
             rfl
            refine pure_ (i := 7) (N := some 108) (v := ?_) (a' := ?_) #[true, true, true, true, true, true, true, true, false, false, false, false, false, false, false, false, false, false, false, false, false, false, false, false, false, false, false, false, false, false, false, false] rfl rfl (any_of HT_.out (by kernel_rfl)) (fun _ _ _ h => h) (Or.inl ⟨by rfl, ?_⟩) ?_ ?_
            rotate_left
            ·intro w'
             go_simp
             with_reducible rfl
            rotate_left
            ·simp only [Act.put, List.setIfInBounds_toArray, List.set_cons_zero, List.set_cons_succ, i64_w, i32_w]
             rfl
            refine pure_ (i := 8) (N := some 109) (v := ?_) (a' := ?_) #[true, true, true, true, true, true, true, true, true, false, false, false, false, false, false, false, false, false, false, false, false, false, false, false, false, false, false, false, false, false, false, false] rfl rfl (any_of HT_.out (by kernel_rfl)) (fun _ _ _ h => h) (Or.inl ⟨by rfl, ?_⟩) ?_ ?_
            rotate_left
            ·intro w'
             go_simp
             with_reducible rfl
            rotate_left
            ·simp only [Act.put, List.setIfInBounds_toArray, List.set_cons_zero, List.set_cons_succ, i64_w, i32_w]
             rfl
            refine pure_ (i := 9) (N := some 110) (v := ?_) (a' := ?_) #[true, true, true, true, true, true, true, true, true, true, false, false, false, false, false, false, false, false, false, false, false, false, false, false, false, false, false, false, false, false, false, false] rfl rfl (any_of HT_.out (by kernel_rfl)) (fun _ _ _ h => h) (Or.inl ⟨by rfl, ?_⟩) ?_ ?_
            rotate_left
            ·intro w'
             go_simp
             with_reducible rfl
            rotate_left
            ·simp only [Act.put, List.setIfInBounds_toArray, List.set_cons_zero, List.set_cons_succ, i64_w, i32_w]
             rfl
            refine take_ (i := 10) (N := some 111) (v := ?_) (a' := ?_) #[true, true, true, true, true, true, true, true, true, true, true, false, false, false, false, false, false, false, false, false, false, false, false, false, false, false, false, false, false, false, false, false] rfl rfl (take_ofW HT_.out HW_.out (by kernel_rfl)) (fun _ _ _ h => h) (Or.inl ⟨by rfl, ?_⟩) hHeld ?_ ?_
            rotate_left
            ·rintro w' ⟨s0, s1, s2, s3⟩
             go_simp
             with_reducible rfl
            rotate_left
            ·simp only [Act.put, List.setIfInBounds_toArray, List.set_cons_zero, List.set_cons_succ, i64_w, i32_w]
             rfl
            refine take_ (i := 11) (N := some 112) (v := ?_) (a' := ?_) #[true, true, true, true, true, true, true, true, true, true, true, true, false, false, false, false, false, false, false, false, false, false, false, false, false, false, false, false, false, false, false, false] rfl rfl (take_ofW HT_.out HW_.out (by kernel_rfl)) (fun _ _ _ h => h) (Or.inl ⟨by rfl, ?_⟩) hHeld ?_ ?_
            rotate_left
            ·rintro w' ⟨s0, s1, s2, s3⟩
             go_simp
             with_reducible rfl
            rotate_left
            ·simp only [Act.put, List.setIfInBounds_toArray, List.set_cons_zero, List.set_cons_succ, i64_w, i32_w]
             rfl
            refine pure_ (i := 12) (N := some 113) (v := ?_) (a' := ?_) #[true, true, true, true, true, true, true, true, true, true, true, true, true, false, false, false, false, false, false, false, false, false, false, false, false, false, false, false, false, false, false, false] rfl rfl (any_of HT_.out (by kernel_rfl)) (fun _ _ _ h => h) (Or.inl ⟨by rfl, ?_⟩) ?_ ?_
            rotate_left
            ·intro w'
             go_simp
             with_reducible rfl
            rotate_left
            ·simp only [Act.put, List.setIfInBounds_toArray, List.set_cons_zero, List.set_cons_succ, i64_w, i32_w]
             rfl
            refine pure_ (i := 13) (N := some 114) (v := ?_) (a' := ?_) #[true, true, true, true, true, true, true, true, true, true, true, true, true, true, false, false, false, false, false, false, false, false, false, false, false, false, false, false, false, false, false, false] rfl rfl (any_of HT_.out (by kernel_rfl)) (fun _ _ _ h => h) (Or.inl ⟨by rfl, ?_⟩) ?_ ?_
            rotate_left
            ·intro w'
             go_simp
             with_reducible rfl
            rotate_left
            ·simp only [Act.put, List.setIfInBounds_toArray, List.set_cons_zero, List.set_cons_succ, i64_w, i32_w]
             rfl
            refine pure_ (i := 14) (N := some 115) (v := ?_) (a' := ?_) #[true, true, true, true, true, true, true, true, true, true, true, true, true, true, true, false, false, false, false, false, false, false, false, false, false, false, false, false, false, false, false, false] rfl rfl (any_of HT_.out (by kernel_rfl)) (fun _ _ _ h => h) (Or.inl ⟨by rfl, ?_⟩) ?_ ?_
            rotate_left
            ·intro w'
             go_simp
             with_reducible rfl
            rotate_left
            ·simp only [Act.put, List.setIfInBounds_toArray, List.set_cons_zero, List.set_cons_succ, i64_w, i32_w]
             rfl
            refine pure_ (i := 15) (N := some 116) (v := ?_) (a' := ?_) #[true, true, true, true, true, true, true, true, true, true, true, true, true, true, true, true, false, false, false, false, false, false, false, false, false, false, false, false, false, false, false, false] rfl rfl (any_of HT_.out (by kernel_rfl)) (fun _ _ _ h => h) (Or.inl ⟨by rfl, ?_⟩) ?_ ?_
            rotate_left
            ·intro w'
             go_simp
             with_reducible rfl
            rotate_left
            ·simp only [Act.put, List.setIfInBounds_toArray, List.set_cons_zero, List.set_cons_succ, i64_w, i32_w]
             rfl
            refine pure_ (i := 16) (N := some 117) (v := ?_) (a' := ?_) #[true, true, true, true, true, true, true, true, true, true, true, true, true, true, true, true, true, false, false, false, false, false, false, false, false, false, false, false, false, false, false, false] rfl rfl (any_of HT_.out (by kernel_rfl)) (fun _ _ _ h => h) (Or.inl ⟨by rfl, ?_⟩) ?_ ?_
            rotate_left
            ·intro w'
             go_simp
             with_reducible rfl
            rotate_left
            ·simp only [Act.put, List.setIfInBounds_toArray, List.set_cons_zero, List.set_cons_succ, i64_w, i32_w]
             rfl
            refine pure_ (i := 17) (N := some 118) (v := ?_) (a' := ?_) #[true, true, true, true, true, true, true, true, true, true, true, true, true, true, true, true, true, true, false, false, false, false, false, false, false, false, false, false, false, false, false, false] rfl rfl (any_of HT_.out (by kernel_rfl)) (fun _ _ _ h => h) (Or.inl ⟨by rfl, ?_⟩) ?_ ?_
            rotate_left
            ·intro w'
             go_simp
             with_reducible rfl
            rotate_left
            ·simp only [Act.put, List.setIfInBounds_toArray, List.set_cons_zero, List.set_cons_succ, i64_w, i32_w]
             rfl
            refine take_ (i := 18) (N := some 119) (v := ?_) (a' := ?_) #[true, true, true, true, true, true, true, true, true, true, true, true, true, true, true, true, true, true, true, false, false, false, false, false, false, false, false, false, false, false, false, false] rfl rfl (take_ofW HT_.out HW_.out (by kernel_rfl)) (fun _ _ _ h => h) (Or.inl ⟨by rfl, ?_⟩) hHeld ?_ ?_
            rotate_left
            ·rintro w' ⟨s0, s1, s2, s3⟩
             go_simp
             with_reducible rfl
            rotate_left
            ·simp only [Act.put, List.setIfInBounds_toArray, List.set_cons_zero, List.set_cons_succ, i64_w, i32_w]
             rfl
            refine one_ (i := 19) (N := some 120) #[true, true, true, true, true, true, true, true, true, true, true, true, true, true, true, true, true, true, true, true, false, false, false, false, false, false, false, false, false, false, false, false] rfl rfl (one_of HT_.out (by kernel_rfl)) (by decide) (fun K hK => ?_)
            refine goes_ Try.func20 (by kernel_rfl) rfl #[.slice Ao10 t751.length co10, .string t754] (by rfl) rfl rfl (by (try simp only [List.map_toArray, List.map_cons, List.map_nil]); first | done | rfl | (simp only [List.length_drop, List.length_take]; rfl)) ?_
            with_reducible refine (impl_ScoresRank.calls kj5 _ _ t751 t754 t784 _ ?side1 ?side2 A53.out).mono ?_
            (case side1 => repeat (first | exact (Kd.R_reads' HO_3.out).2.2 | (with_reducible refine Kd.C_alloc ?_ _) | (with_reducible refine Kd.C_drewN ?_ _) | (with_reducible refine Kd.C_drew ?_)))
            (case side2 => exact (Kd.R_reads' HO_3.out).2.1)
            rintro e w66 ⟨rfl, hb⟩
            have HS2_ := (hb.cell (World.block_lt_of_cell? _ _ (hHeld.2.2.1))).trans (hHeld.2.2.1)
            have HS3_ := (hb.cell (World.block_lt_of_cell? _ _ (hHeld.2.2.2))).trans (hHeld.2.2.2)
            refine ⟨_, rfl, ?_⟩
            have n0_ := Aside0.mk (Kd.R_below (by (with_reducible repeat (first | apply Kd.R_alloc | apply Kd.R_drewN | apply Kd.R_drew)); exact HO_3.out) hb)
            have n1_ := Aside0.mk (Kd.R_below (by (with_reducible repeat (first | apply Kd.R_alloc | apply Kd.R_drewN | apply Kd.R_drew)); exact HO_5.out) hb)
            have n2_ := Aside0.mk (Kd.R_below (by (with_reducible repeat (first | apply Kd.R_alloc | apply Kd.R_drewN | apply Kd.R_drew)); exact HO_8.out) hb)
            have n3_ := Aside0.mk (Kd.R_below (by (with_reducible repeat (first | apply Kd.R_alloc | apply Kd.R_drewN | apply Kd.R_drew)); exact HO777.out) hb)
            have n4_ := Aside0.mk (Kd.R_below (by (with_reducible repeat (first | apply Kd.R_alloc | apply Kd.R_drewN | apply Kd.R_drew)); exact HO781.out) hb)
            have n5_ := Aside0.mk (blk_below (g := gb756) (o := .cells #[.string t754, .int .i64 t755] 40 (0, 0)) (by (with_reducible repeat (first | refine blk_drewN ?_ _ | refine blk_drew ?_ | refine blk_alloc ?_ _)); exact BK756.out) hb)
            have n6_ := Aside0.mk (below_step (by repeat (first | (with_reducible first | exact HB.out | apply below_alloc | apply pw_below_drewN | apply below_drew1 | refine below_set ?_ GE756.out) | exact HB.out)) hb)
            clear HO_3
            clear HO_5
            clear HO_8
            clear HO777
            clear HO781
            clear BK756
            clear HB
            have HO_3 := n0_
            have HO_5 := n1_
            have HO_8 := n2_
            have HO777 := n3_
            have HO781 := n4_
            have BK756 := n5_
            have HB := n6_
            clear n0_ n1_ n2_ n3_ n4_ n5_ n6_
            (try clear hb)
            (try clear hb2)
            (try clear hk)
            (try clear hi)
            obtain ⟨Ao67, co67, eo67⟩ := Kd.R_slice HO777.out
            (first | subst eo67 | (injection eo67 with f1_ f2_ f3_; have f4_ := f1_.symm; have f5_ := f3_.symm; clear f1_ f2_ f3_; subst f4_; subst f5_))
            obtain ⟨Ao68, co68, eo68⟩ := Kd.R_slice HO781.out
            (first | subst eo68 | (injection eo68 with f1_ f2_ f3_; have f4_ := f1_.symm; have f5_ := f3_.symm; clear f1_ f2_ f3_; subst f4_; subst f5_))
            refine hK.out _ _ ⟨(blk_cell BK756.out 0).trans rfl, (blk_cell BK756.out 1).trans rfl, HS2_, HS3_⟩ (fun hHeld => ?_)
            clear hK K
            refine norm_ (a' := ?_) ?_ ?_
            rotate_left
            ·show Act.put _ (some 120) _ = _
             simp only [Act.put, List.setIfInBounds_toArray, List.set_cons_zero, List.set_cons_succ, i64_w, i32_w]
             rfl
            refine pure_ (i := 20) (N := some 121) (v := ?_) (a' := ?_) #[true, true, true, true, true, true, true, true, true, true, true, true, true, true, true, true, true, true, true, true, true, false, false, false, false, false, false, false, false, false, false, false] rfl rfl (any_of HT_.out (by kernel_rfl)) (fun _ _ _ h => h) (Or.inl ⟨by rfl, ?_⟩) ?_ ?_
            rotate_left
            ·intro w'
             go_simp
             with_reducible rfl
            rotate_left
            ·simp only [Act.put, List.setIfInBounds_toArray, List.set_cons_zero, List.set_cons_succ, i64_w, i32_w]
             rfl
            refine pure_ (i := 21) (N := some 122) (v := ?_) (a' := ?_) #[true, true, true, true, true, true, true, true, true, true, true, true, true, true, true, true, true, true, true, true, true, true, false, false, false, false, false, false, false, false, false, false] rfl rfl (any_of HT_.out (by kernel_rfl)) (fun _ _ _ h => h) (Or.inl ⟨by rfl, ?_⟩) ?_ ?_
            rotate_left
            ·intro w'
             go_simp
             with_reducible rfl
            rotate_left
            ·simp only [Act.put, List.setIfInBounds_toArray, List.set_cons_zero, List.set_cons_succ, i64_w, i32_w]
             rfl
            refine pure_ (i := 22) (N := some 123) (v := ?_) (a' := ?_) #[true, true, true, true, true, true, true, true, true, true, true, true, true, true, true, true, true, true, true, true, true, true, true, false, false, false, false, false, false, false, false, false] rfl rfl (any_of HT_.out (by kernel_rfl)) (fun _ _ _ h => h) (Or.inl ⟨by rfl, ?_⟩) ?_ ?_
            rotate_left
            ·intro w'
             go_simp
             with_reducible rfl
            rotate_left
            ·simp only [Act.put, List.setIfInBounds_toArray, List.set_cons_zero, List.set_cons_succ, i64_w, i32_w]
             rfl
            refine pure_ (i := 23) (N := some 124) (v := ?_) (a' := ?_) #[true, true, true, true, true, true, true, true, true, true, true, true, true, true, true, true, true, true, true, true, true, true, true, true, false, false, false, false, false, false, false, false] rfl rfl (any_of HT_.out (by kernel_rfl)) (fun _ _ _ h => h) (Or.inl ⟨by rfl, ?_⟩) ?_ ?_
            rotate_left
            ·intro w'
             go_simp
             with_reducible rfl
            rotate_left
            ·simp only [Act.put, List.setIfInBounds_toArray, List.set_cons_zero, List.set_cons_succ, i64_w, i32_w]
             rfl
            refine pure_ (i := 24) (N := some 125) (v := ?_) (a' := ?_) #[true, true, true, true, true, true, true, true, true, true, true, true, true, true, true, true, true, true, true, true, true, true, true, true, true, false, false, false, false, false, false, false] rfl rfl (any_of HT_.out (by kernel_rfl)) (fun _ _ _ h => h) (Or.inl ⟨by rfl, ?_⟩) ?_ ?_
            rotate_left
            ·intro w'
             go_simp
             with_reducible rfl
            rotate_left
            ·simp only [Act.put, List.setIfInBounds_toArray, List.set_cons_zero, List.set_cons_succ, i64_w, i32_w]
             rfl
            refine pure_ (i := 25) (N := some 126) (v := ?_) (a' := ?_) #[true, true, true, true, true, true, true, true, true, true, true, true, true, true, true, true, true, true, true, true, true, true, true, true, true, true, false, false, false, false, false, false] rfl rfl (any_of HT_.out (by kernel_rfl)) (fun _ _ _ h => h) (Or.inl ⟨by rfl, ?_⟩) ?_ ?_
            rotate_left
            ·intro w'
             go_simp
             with_reducible rfl
            rotate_left
            ·simp only [Act.put, List.setIfInBounds_toArray, List.set_cons_zero, List.set_cons_succ, i64_w, i32_w]
             rfl
            refine pure_ (i := 26) (N := some 127) (v := ?_) (a' := ?_) #[true, true, true, true, true, true, true, true, true, true, true, true, true, true, true, true, true, true, true, true, true, true, true, true, true, true, true, false, false, false, false, false] rfl rfl (any_of HT_.out (by kernel_rfl)) (fun _ _ _ h => h) (Or.inl ⟨by rfl, ?_⟩) ?_ ?_
            rotate_left
            ·intro w'
             go_simp
             with_reducible rfl
            rotate_left
            ·simp only [Act.put, List.setIfInBounds_toArray, List.set_cons_zero, List.set_cons_succ, i64_w, i32_w]
             rfl
            refine pure_ (i := 27) (N := some 128) (v := ?_) (a' := ?_) #[true, true, true, true, true, true, true, true, true, true, true, true, true, true, true, true, true, true, true, true, true, true, true, true, true, true, true, true, false, false, false, false] rfl rfl (any_of HT_.out (by kernel_rfl)) (fun _ _ _ h => h) (Or.inl ⟨by rfl, ?_⟩) ?_ ?_
            rotate_left
            ·intro w'
             go_simp
             with_reducible rfl
            rotate_left
            ·simp only [Act.put, List.setIfInBounds_toArray, List.set_cons_zero, List.set_cons_succ, i64_w, i32_w]
             rfl
            refine pure_ (i := 28) (N := some 129) (v := ?_) (a' := ?_) #[true, true, true, true, true, true, true, true, true, true, true, true, true, true, true, true, true, true, true, true, true, true, true, true, true, true, true, true, true, false, false, false] rfl rfl (any_of HT_.out (by kernel_rfl)) (fun _ _ _ h => h) (Or.inl ⟨by rfl, ?_⟩) ?_ ?_
            rotate_left
            ·intro w'
             go_simp
             with_reducible rfl
            rotate_left
            ·simp only [Act.put, List.setIfInBounds_toArray, List.set_cons_zero, List.set_cons_succ, i64_w, i32_w]
             rfl
            refine one_ (i := 29) (N := some 130) #[true, true, true, true, true, true, true, true, true, true, true, true, true, true, true, true, true, true, true, true, true, true, true, true, true, true, true, true, true, true, false, false] rfl rfl (one_of HT_.out (by kernel_rfl)) (by decide) (fun K hK => ?_)
            refine goes_ Try.func31 (by kernel_rfl) rfl #[.slice Ao67 t774.length co67, .slice Ao68 t778.length co68] (by rfl) rfl rfl (by (try simp only [List.map_toArray, List.map_cons, List.map_nil]); first | done | rfl | (simp only [List.length_drop, List.length_take]; rfl)) ?_
            with_reducible refine (laws_qxScores.calls kj5 _ _ t774 _ _ t778 t785 _ ?side1 ?side2 ?side3 ?side4 A56.out).mono ?_
            (case side1 => repeat (first | exact (Kd.R_reads' HO777.out).2.2 | (with_reducible refine Kd.C_alloc ?_ _) | (with_reducible refine Kd.C_drewN ?_ _) | (with_reducible refine Kd.C_drew ?_)))
            (case side2 => exact (Kd.R_reads' HO777.out).2.1)
            (case side3 => repeat (first | exact (Kd.R_reads' HO781.out).2.2 | (with_reducible refine Kd.C_alloc ?_ _) | (with_reducible refine Kd.C_drewN ?_ _) | (with_reducible refine Kd.C_drew ?_)))
            (case side4 => exact (Kd.R_reads' HO781.out).2.1)
            rintro e w' ⟨rfl, ⟨nd, rfl⟩⟩
            refine ⟨_, rfl, ?_⟩
            refine hK.out _ _ ⟨(blk_cell BK756.out 0).trans rfl, (blk_cell BK756.out 1).trans rfl, hHeld.2.2.1, hHeld.2.2.2⟩ (fun hHeld => ?_)
            clear hK K
            refine norm_ (a' := ?_) ?_ ?_
            rotate_left
            ·show Act.put _ (some 130) _ = _
             simp only [Act.put, List.setIfInBounds_toArray, List.set_cons_zero, List.set_cons_succ, i64_w, i32_w]
             rfl
            refine pure_ (i := 30) (N := some 131) (v := ?_) (a' := ?_) #[true, true, true, true, true, true, true, true, true, true, true, true, true, true, true, true, true, true, true, true, true, true, true, true, true, true, true, true, true, true, true, false] rfl rfl (any_of HT_.out (by kernel_rfl)) (fun _ _ _ h => h) (Or.inl ⟨by rfl, ?_⟩) ?_ ?_
            rotate_left
            ·intro w'
             go_simp
             with_reducible rfl
            rotate_left
            ·simp only [Act.put, List.setIfInBounds_toArray, List.set_cons_zero, List.set_cons_succ, i64_w, i32_w]
             rfl
            refine pure_ (i := 31) (N := some 2) (v := ?_) (a' := ?_) #[true, true, true, true, true, true, true, true, true, true, true, true, true, true, true, true, true, true, true, true, true, true, true, true, true, true, true, true, true, true, true, true] rfl rfl (any_of HT_.out (by kernel_rfl)) (fun _ _ _ h => h) (Or.inl ⟨by rfl, ?_⟩) ?_ ?_
            rotate_left
            ·intro w'
             go_simp
             with_reducible rfl
            rotate_left
            ·simp only [Act.put, List.setIfInBounds_toArray, List.set_cons_zero, List.set_cons_succ, i64_w, i32_w]
             rfl
            refine done_ (done_of HT_.out (by kernel_rfl)) ?_
            try go_wp2
            go_ret
            exact ⟨by first | rfl | (simp [errW_none, errW_some] <;> rfl) | (simp [*, errW_none, errW_some] <;> rfl), by repeat (first | (with_reducible first | exact HB.out | apply below_alloc | apply pw_below_drewN | apply below_drew1 | refine below_set ?_ GE756.out) | exact HB.out)⟩
           ·replace c55 := Bool.eq_false_iff.mpr c55
            subst c55
            have H1 : (some false) = some r := by rw [if_neg (show ¬ (false = true) by decide)] at H; exact H
            clear H
            have H := H1
            clear H1
            obtain rfl := Option.some.inj H
            cases hr_
          ·rw [if_neg c54] at H
           have c54b0 : (t760 == (decide (t784 < 0))) = false := by simpa using c54
           (try (have c54b1 : decide (t760 = (decide (t784 < 0))) = false := by simpa using c54))
           (try (have c54b2 : (t760 == (decide (t784 < 0))) = false := by simpa using c54))
           (try (have c54b3 : ¬ (t760 = (decide (t784 < 0))) := by simpa using c54))
           clear c54
           obtain rfl := Option.some.inj H
           cases hr_
         ·rw [if_neg c52] at H
          have c52b0 : ((((rd_T40 t757 t773).f0).toList) == t754.toList && (((rd_T40 t757 t773).f1) == t755)) = false := by simpa using c52
          (try (have c52b1 : decide ((((rd_T40 t757 t773).f0).toList) = t754.toList && (((rd_T40 t757 t773).f1) == t755)) = false := by simpa using c52))
          (try (have c52b2 : ((((rd_T40 t757 t773).f0).toList) == t754.toList && (((rd_T40 t757 t773).f1) == t755)) = false := by simpa using c52))
          (try (have c52b3 : ¬ ((((rd_T40 t757 t773).f0).toList) = t754.toList && (((rd_T40 t757 t773).f1) == t755)) := by simpa using c52))
          clear c52
          obtain rfl := Option.some.inj H
          cases hr_
        ·rw [if_neg c51] at H
         exact absurd H (by simp)
       ·rw [if_neg c50] at H
        exact absurd H (by simp)
      ·rw [if_neg c49] at H
       have c49b0 : decide (0 ≤ t773) = false := decide_eq_false c49
       clear c49
       obtain rfl := Option.some.inj H
       cases hr_
     ·replace c48 := Bool.eq_false_iff.mpr c48
      subst c48
      have H1 : (some false) = some r := by rw [if_neg (show ¬ (false = true) by decide)] at H; exact H
      clear H
      have H := H1
      clear H1
      obtain rfl := Option.some.inj H
      cases hr_
end Go.Proofs.Ytcpnekdhdmncfaa.P
namespace Go.Proofs.Ytcpnekdhdmncfaa.Q
open Go.RowKit Go.Proofs.YtcpnekdhdmncfaaW.PrintWords Go.Proofs.YtcpnekdhdmncfaaW.PrintLast
def Opens {α H : Type} (enc : TypeId × Value → H) (P : Program) (W : World) (t : TypeId) (d : Kd α) (ok : α → Prop) : Prop :=
  ∀ (fuel : Nat) (cs : List Value) (y : DataW H × List MemPlace), DataW.trod enc P W 0 (fun _ => true) true fuel t cs = some y → ∃ x : α, d.K W x cs ∧ ok x
section
variable {α β H : Type} {enc : TypeId × Value → H} {P : Program} {W : World} {t e : TypeId}
theorem Opens.int {k : IntKind} (ht : P.underlying t = some (.int k)) : Opens enc P W t (Kd.int k) (fun x => (Lit.int k x).wf = true) := by
  intro fuel cs y h
  obtain ⟨n, rfl, _, hn⟩ := DataW.trod_int ht h
  exact ⟨n, rfl, hn⟩
theorem Opens.string (ht : P.underlying t = some .string) : Opens enc P W t Kd.string (fun x => x.size ≤ maxLen) := by
  intro fuel cs y h
  obtain ⟨s, rfl, _, hs⟩ := DataW.trod_string ht h
  exact ⟨s, rfl, hs⟩
theorem cells_len {b : Nat} {a : Addr} {n : Nat} {cs : List Value} (h : W.cells? b a n = some cs) : cs.length = n := by
  unfold World.cells? at h
  split at h
  · simpa using mapM_some_length h
  · cases h
theorem cells_get {b : Nat} {a : Addr} {n : Nat} {cs : List Value} (h : W.cells? b a n = some cs) (i : Nat) (u : Value) (hu : cs[i]? = some u) : W.cell? (a.add i) = some u := by
  have hl := cells_len h
  have hi : i < n := by rw [← hl]; exact (List.getElem?_eq_some_iff.1 hu).1
  unfold World.cells? at h
  split at h
  · rw [← hu]; exact mapM_some_get h i i (by simp [hi])
  · cases h
theorem each_of {γ : Type} {Q : Nat → γ → Prop} (n : Nat) (h : ∀ i, i < n → ∃ x, Q i x) : ∃ l : List γ, l.length = n ∧ ∀ i x, l[i]? = some x → Q i x := by
  induction n with
  | zero => exact ⟨[], rfl, fun i x hx => by simp at hx⟩
  | succ n ih =>
    obtain ⟨l, hl, hq⟩ := ih (fun i hi => h i (by omega))
    obtain ⟨x, hx⟩ := h n (by omega)
    refine ⟨l ++ [x], by simp [hl], fun i y hy => ?_⟩
    rcases Nat.lt_or_ge i l.length with hi | hi
    · rw [List.getElem?_append_left hi] at hy
      exact hq i y hy
    · rw [List.getElem?_append_right hi] at hy
      have : i - l.length = 0 := by
        have := (List.getElem?_eq_some_iff.1 hy).1
        simp at this
        omega
      rw [this] at hy
      injection hy with hy
      obtain rfl : i = n := by omega
      exact hy ▸ hx
theorem Opens.slice {d : Kd α} {ok : α → Prop} (ht : P.underlying t = some (.slice e)) (hc : P.cellsOf e = d.sz) (h : Opens enc P W e d ok) :
    Opens enc P W t (Kd.slice e d) (fun xs => xs.length ≤ maxLen ∧ ∀ x ∈ xs, ok x) := by
  intro fuel cs y hy
  rcases DataW.trod_slice ht hy with ⟨rfl, _⟩ | ⟨a, len, cap, elems, rest, n, _, rfl, _, hb, hl, hm, hlen, hel, _, _⟩
  · exact ⟨[], ⟨none, 0, rfl, Nat.le_refl _, rfl, by simp, fun h => by simp at h⟩, by simp, by simp⟩
  · have each : ∀ i, i < len → ∃ x : α, (∃ c, c.length = d.sz ∧ d.K W x c ∧ ∀ j u, c[j]? = some u → W.cell? (a.add (i * d.sz + j)) = some u) ∧ ok x := by
      intro i hi
      have h1 := hel i hi
      rw [List.getElem?_eq_getElem (by omega)] at h1
      obtain ⟨c, h2, h3⟩ := Option.bind_eq_some_iff.1 h1
      obtain ⟨x, hK, hx⟩ := h _ _ _ h3
      rw [hc] at h2
      refine ⟨x, ⟨c, d.K_len hK, hK, fun j u hu => ?_⟩, hx⟩
      have h4 := cells_get h2 j u hu
      rwa [add_add] at h4
    obtain ⟨l, hll, hq⟩ := each_of len each
    subst hll
    refine ⟨l, ⟨some a, cap, rfl, hl, rfl, ?_, fun _ => ⟨a, rfl, fun j p hp => (hq j p hp).1⟩⟩, by omega, fun x hx => ?_⟩
    · unfold maxLen at hm; omega
    · obtain ⟨i, hi, rfl⟩ := List.getElem_of_mem hx
      exact (hq i _ (List.getElem?_eq_getElem hi)).2
theorem Opens.iso {d : Kd α} {ok : α → Prop} (f : β → α) (g : α → β) (hfg : ∀ a, f (g a) = a) (h : Opens enc P W t d ok) : Opens enc P W t (Kd.iso d f) (fun x => ok (f x)) := by
  intro fuel cs y hy
  obtain ⟨x, hK, hx⟩ := h _ _ _ hy
  exact ⟨g x, by show d.K W (f (g x)) cs; rw [hfg]; exact hK, by show ok (f (g x)); rw [hfg]; exact hx⟩
theorem Opens.imp {d : Kd α} {ok ok' : α → Prop} (h : Opens enc P W t d ok) (hi : ∀ x, ok x → ok' x) : Opens enc P W t d ok' := fun fuel cs y hy => by
  obtain ⟨x, hK, hx⟩ := h _ _ _ hy
  exact ⟨x, hK, hi x hx⟩
def OpensF {α H : Type} (enc : TypeId × Value → H) (P : Program) (W : World) (fs : List Field) (o : Nat) (d : Kd α) (ok : α → Prop) : Prop :=
  ∀ (n : Nat) (cs : List Value) (xs : List (DataW H × List MemPlace)), cs.length = o + d.sz → xs.length = fs.length →
    (∀ (i : Nat) (f : Field), fs[i]? = some f → DataW.trod enc P W 0 (fun _ => true) true n f.type ((cs.drop f.offset).take (P.cellsOf f.type)) = xs[i]?) → ∃ x : α, d.K W x (cs.drop o) ∧ ok x
theorem OpensF.one {d : Kd α} {ok : α → Prop} {f : Field} {o : Nat} (ho : f.offset = o) (hc : P.cellsOf f.type = d.sz) (h : Opens enc P W f.type d ok) : OpensF enc P W [f] o d ok := by
  intro n cs xs hl hx hf
  match xs, hx with
  | [x0], _ =>
    have h0 := hf 0 f rfl
    rw [ho, hc, List.take_of_length_le (by rw [List.length_drop]; omega)] at h0
    exact h n _ x0 (by simpa using h0)
theorem OpensF.cons {d : Kd α} {ok : α → Prop} {d' : Kd β} {ok' : β → Prop} {f : Field} {fs : List Field} {o : Nat} (ho : f.offset = o) (hc : P.cellsOf f.type = d.sz) (h : Opens enc P W f.type d ok)
    (hs : OpensF enc P W fs (o + d.sz) d' ok') : OpensF enc P W (f :: fs) o (Kd.pair d d') (fun x => ok x.1 ∧ ok' x.2) := by
  intro n cs xs hl hx hf
  have hsz : (Kd.pair d d').sz = d.sz + d'.sz := rfl
  match xs, hx with
  | x0 :: xs', hx =>
    have h0 := hf 0 f rfl
    rw [ho, hc] at h0
    obtain ⟨a, ha, oka⟩ := h n _ x0 (by simpa using h0)
    obtain ⟨b, hb, okb⟩ := hs n cs xs' (by omega) (by simpa using hx) (fun i g hg => by simpa using hf (i + 1) g (by simpa using hg))
    refine ⟨(a, b), ⟨(cs.drop o).take d.sz, cs.drop (o + d.sz), ?_, ha, hb⟩, oka, okb⟩
    rw [← List.drop_drop, List.take_append_drop]
theorem Opens.struct {d : Kd α} {ok : α → Prop} {fs : Array Field} (ht : P.underlying t = some (.struct fs)) (hc : P.cellsOf t = d.sz) (h : OpensF enc P W fs.toList 0 d ok) : Opens enc P W t d ok := by
  intro fuel cs y hy
  obtain ⟨xs, n, _, _, hl, hx, hf⟩ := DataW.trod_struct ht hy
  have := h n cs xs (by omega) (by simpa using hx) (fun i f hf' => hf i f (by simpa using hf'))
  simpa using this
end
end Go.Proofs.Ytcpnekdhdmncfaa.Q
namespace Go.Proofs.Ytcpnekdhdmncfaa.Q
open Go.RowKit Go.Proofs.YtcpnekdhdmncfaaW.PrintWords Go.Proofs.YtcpnekdhdmncfaaW.PrintLast
theorem pos {α : Type} {c : Prop} [Decidable c] {t e : Nat → Option α} {r : α} (h : c) (x : Ev t r) : Ev (fun k => if c then t k else e k) r := by
  obtain ⟨K, hK⟩ := x
  exact ⟨K, fun k hk => (if_pos h).trans (hK k hk)⟩
theorem neg {α : Type} {c : Prop} [Decidable c] {t e : Nat → Option α} {r : α} (h : ¬ c) (x : Ev e r) : Ev (fun k => if c then t k else e k) r := by
  obtain ⟨K, hK⟩ := x
  exact ⟨K, fun k hk => (if_neg h).trans (hK k hk)⟩
theorem both {α : Type} {c : Prop} [Decidable c] {t e : Nat → Option α} {r : α} (x : c → Ev t r) (y : ¬ c → Ev e r) : Ev (fun k => if c then t k else e k) r := by
  by_cases h : c
  · exact pos h (x h)
  · exact neg h (y h)
theorem ret {α : Type} (r : α) : Ev (fun _ => some r) r := Ev.now r
theorem ret' {α : Type} {r q : α} (h : r = q) : Ev (fun _ => some r) q := h ▸ Ev.now r
theorem val {α : Type} {g : Option α} {r : α} (h : g = some r) : Ev (fun _ => g) r := ⟨0, fun _ _ => h⟩
theorem of_eq {α : Type} {g : Nat → Option α} {r q : α} (h : Ev g r) (e : r = q) : Ev g q := e ▸ h
theorem exists_of {α : Type} {g : Nat → Option α} {r : α} (h : Ev g r) : ∃ k, g k = some r := by
  obtain ⟨K, hK⟩ := h
  exact ⟨K, hK K (Nat.le_refl _)⟩
theorem wrap_id {x : Int} (h1 : -9223372036854775808 ≤ x) (h2 : x ≤ 9223372036854775807) : wrap64 x = x := by
  unfold wrap64
  omega
theorem rdOf_lt {α : Type} (d : α) (l : List α) (i : Nat) (h : i < l.length) : rdOf d l (i : Int) = l[i] := by
  simp [rdOf, List.getD_eq_getElem?_getD, h]
theorem toList_inj {a b : ByteArray} (h : a.toList = b.toList) : a = b := by
  rw [ByteArray.toList_eq, ByteArray.toList_eq] at h
  cases a with
  | mk x => cases b with
    | mk y =>
      congr
      exact Array.toList_inj.1 h
end Go.Proofs.Ytcpnekdhdmncfaa.Q
namespace Go.Proofs.Ytcpnekdhdmncfaa.Q
open Go.RowKit Go.Proofs.YtcpnekdhdmncfaaW.PrintWords Go.Proofs.YtcpnekdhdmncfaaW.PrintLast Go.Proofs.Ytcpnekdhdmncfaa.P
abbrev Score := S40
instance : DecidableEq Score := fun a b => decidable_of_iff (a.f0 = b.f0 ∧ a.f1 = b.f1) ⟨fun h => by cases a; cases b; simp at h; simp [h], fun h => by rw [h]; exact ⟨rfl, rfl⟩⟩
theorem rdScore_lt (l : List Score) (i : Nat) (h : i < l.length) : rd_T40 l (i : Int) = l[i] := by
  simp [rd_T40, List.getD_eq_getElem?_getD, h]
end Go.Proofs.Ytcpnekdhdmncfaa.Q
namespace Go.Proofs.Ytcpnekdhdmncfaa.Q
open Go.RowKit Go.Proofs.YtcpnekdhdmncfaaW.PrintWords Go.Proofs.YtcpnekdhdmncfaaW.PrintLast
theorem bl_irrefl (a : List UInt8) : Op.bytesLess a a = false := by
  induction a with
  | nil => rfl
  | cons x r ih => simp [Op.bytesLess, ih]
theorem bl_trans (a : List UInt8) : ∀ (b c : List UInt8), Op.bytesLess a b = true → Op.bytesLess b c = true → Op.bytesLess a c = true := by
  induction a with
  | nil =>
    intro b c h1 h2
    cases c with
    | nil => cases b <;> simp [Op.bytesLess] at h2
    | cons z c => rfl
  | cons x a ih =>
    intro b c h1 h2
    cases b with
    | nil => simp [Op.bytesLess] at h1
    | cons y b =>
      cases c with
      | nil => simp [Op.bytesLess] at h2
      | cons z c =>
        simp only [Op.bytesLess, Bool.or_eq_true, Bool.and_eq_true, decide_eq_true_eq, beq_iff_eq] at h1 h2 ⊢
        rcases h1 with h1 | ⟨rfl, h1⟩
        · rcases h2 with h2 | ⟨rfl, h2⟩
          · exact .inl (UInt8.lt_trans h1 h2)
          · exact .inl h1
        · rcases h2 with h2 | ⟨rfl, h2⟩
          · exact .inl h2
          · exact .inr ⟨rfl, ih b c h1 h2⟩
theorem bl_tri (a : List UInt8) : ∀ (b : List UInt8), Op.bytesLess a b = true ∨ a = b ∨ Op.bytesLess b a = true := by
  induction a with
  | nil =>
    intro b
    cases b with
    | nil => exact .inr (.inl rfl)
    | cons y b => exact .inl rfl
  | cons x a ih =>
    intro b
    cases b with
    | nil => exact .inr (.inr rfl)
    | cons y b =>
      simp only [Op.bytesLess, Bool.or_eq_true, Bool.and_eq_true, decide_eq_true_eq, beq_iff_eq]
      by_cases h : x < y
      · exact .inl (.inl h)
      · by_cases h' : y < x
        · exact .inr (.inr (.inl h'))
        · obtain rfl : x = y := UInt8.le_antisymm (UInt8.not_lt.1 h') (UInt8.not_lt.1 h)
          rcases ih b with h | rfl | h
          · exact .inl (.inr ⟨rfl, h⟩)
          · exact .inr (.inl rfl)
          · exact .inr (.inr (.inr ⟨rfl, h⟩))
def lt (a b : ByteArray) : Bool := Op.bytesLess a.toList b.toList
theorem lt_irrefl (a : ByteArray) : lt a a = false := bl_irrefl _
theorem lt_trans {a b c : ByteArray} (h : lt a b = true) (h' : lt b c = true) : lt a c = true := bl_trans _ _ _ h h'
theorem lt_tri (a b : ByteArray) : lt a b = true ∨ a = b ∨ lt b a = true := by
  rcases bl_tri a.toList b.toList with h | h | h
  · exact .inl h
  · exact .inr (.inl (toList_inj h))
  · exact .inr (.inr h)
end Go.Proofs.Ytcpnekdhdmncfaa.Q
namespace Go.Proofs.Ytcpnekdhdmncfaa.Q
open Go.RowKit Go.Proofs.YtcpnekdhdmncfaaW.PrintWords Go.Proofs.YtcpnekdhdmncfaaW.PrintLast Go.Proofs.Ytcpnekdhdmncfaa.P
def inB (n low high : Int) : Bool := decide (low ≤ n) && decide (n ≤ high)
def placeB (n : Int) : Bool := inB n (-1000000000) 1000000000
theorem inB_iff {n low high : Int} : inB n low high = true ↔ low ≤ n ∧ n ≤ high := by simp [inB]
theorem l1In_eq (n low high : Int) : spec_l1In.f n low high = some (inB n low high) := by
  unfold spec_l1In.f inB
  by_cases h : low ≤ n
  · rw [if_pos (show n ≥ low from h)]; simp [h]
  · rw [if_neg (show ¬ n ≥ low from h)]; simp [h]
theorem within_eq (n low high : Int) : impl_within.f n low high = some (inB n low high) := by
  unfold impl_within.f inB
  by_cases h : low ≤ n
  · rw [if_pos (show n ≥ low from h)]; simp [h]
  · rw [if_neg (show ¬ n ≥ low from h)]; simp [h]
theorem position_eq (n : Int) : impl_position.f n = some (placeB n) := by
  unfold impl_position.f
  rw [within_eq]
  rfl
theorem l1In_ev (n low high : Int) : Ev (fun _ => spec_l1In.f n low high) (inB n low high) := val (l1In_eq n low high)
theorem position_ev (n : Int) : Ev (fun _ => impl_position.f n) (placeB n) := val (position_eq n)
end Go.Proofs.Ytcpnekdhdmncfaa.Q
namespace Go.Proofs.Ytcpnekdhdmncfaa.Q
open Go.RowKit Go.Proofs.YtcpnekdhdmncfaaW.PrintWords Go.Proofs.YtcpnekdhdmncfaaW.PrintLast Go.Proofs.Ytcpnekdhdmncfaa.P
def ahd (a b : Score) : Bool := decide (a.f1 < b.f1) || (decide (a.f1 = b.f1) && lt a.f0 b.f0)
theorem l3Ahead_eq (a b : Score) : spec_l3Ahead.f a.f0 a.f1 b.f0 b.f1 = some (ahd a b) := by
  unfold spec_l3Ahead.f ahd
  by_cases h : a.f1 < b.f1
  · rw [if_pos h]; simp [h]
  · rw [if_neg h]
    by_cases h' : a.f1 = b.f1
    · rw [if_pos h']; simp [h', lt]
    · rw [if_neg h']; simp [h, h']
theorem Compare_int_eq (a b : Int) : cmp_Compare_int.f a b = some (if a < b then -1 else if a > b then 1 else 0) := by
  unfold cmp_Compare_int.f cmp_isNaN_int.f
  simp
  split
  · rfl
  · split <;> rfl
theorem Compare_string_eq (a b : ByteArray) : cmp_Compare_string.f a b = some (if lt a b = true then -1 else if lt b a = true then 1 else 0) := by
  unfold cmp_Compare_string.f cmp_isNaN_string.f lt
  simp
  split
  · rfl
  · split <;> rfl
theorem Or_ev (a b : Int) : Ev (fun k => cmp_Or_int.f k [a, b]) (if a = 0 then b else a) := by
  unfold cmp_Or_int.f
  refine Ev.step (g := fun k => cmp_Or_int.l0 k _ _ _ _) (fun k => by rw [cmp_Or_int.l0]) (pos (by simp) (pos (by omega) (pos (by simp) ?_)))
  rw [show rd [a, b] 0 = a by rfl]
  refine both (fun h => ?_) (fun h => ret' (if_neg h).symm)
  rw [if_pos h, show wrap64 (0 + 1) = 1 by unfold wrap64; decide]
  refine Ev.step (g := fun k => cmp_Or_int.l0 k _ _ _ _) (fun k => by rw [cmp_Or_int.l0]) (pos (by simp) (pos (by omega) (pos (by simp) ?_)))
  rw [show rd [a, b] 1 = b by rfl, show wrap64 (1 + 1) = 2 by unfold wrap64; decide]
  refine both (fun h' => ?_) (fun h' => ret _)
  exact Ev.step (g := fun k => cmp_Or_int.l0 k _ _ _ _) (fun k => by rw [cmp_Or_int.l0]) (neg (by simp) (ret' h'.symm))
def ordM (a b : Score) : Int := if a.f1 < b.f1 then -1 else if a.f1 > b.f1 then 1 else if lt a.f0 b.f0 = true then -1 else if lt b.f0 a.f0 = true then 1 else 0
theorem scoreOrder_ev (a b : Score) : Ev (fun k => impl_scoreOrder.f k a.f0 a.f1 b.f0 b.f1) (ordM a b) := by
  unfold impl_scoreOrder.f
  refine Ev.bind (val (Compare_int_eq _ _)) (Ev.bind (val (Compare_string_eq _ _)) (Ev.bind (Or_ev _ _) (ret' ?_)))
  unfold ordM
  by_cases h : a.f1 < b.f1
  · simp [h]
  · by_cases h' : a.f1 > b.f1
    · simp [h, h']
    · simp [h, h']
theorem ordM_ahd (a b : Score) : ordM a b ≥ 0 ↔ ahd a b = false := by
  unfold ordM ahd
  by_cases h : a.f1 < b.f1
  · simp [h]
  · by_cases h' : a.f1 > b.f1
    · have : ¬ a.f1 = b.f1 := by omega
      simp [h, h', this]
    · have : a.f1 = b.f1 := by omega
      cases hl : lt a.f0 b.f0 with
      | true => simp [this]
      | false => simp [this]; split <;> decide
def fresh (l : List Score) (i : Nat) : Bool := (List.range i).all (fun k => !decide ((rd_T40 l (k : Int)).f0 = (rd_T40 l (i : Int)).f0))
def sOk (l : List Score) (i : Nat) : Bool :=
  decide ((rd_T40 l (i : Int)).f0.size ≤ 40) && (placeB (rd_T40 l (i : Int)).f1 && ((decide (i = 0) || ahd (rd_T40 l ((i - 1 : Nat) : Int)) (rd_T40 l (i : Int))) && fresh l i))
theorem sOk_eq {l : List Score} {i : Nat} (h40 : (rd_T40 l (i : Int)).f0.size ≤ 40) (hp : placeB (rd_T40 l (i : Int)).f1 = true) (ha : i = 0 ∨ ahd (rd_T40 l ((i - 1 : Nat) : Int)) (rd_T40 l (i : Int)) = true) : sOk l i = fresh l i := by
  unfold sOk
  rw [decide_eq_true h40, hp, Bool.true_and, Bool.true_and]
  rcases ha with ha | ha
  · rw [decide_eq_true ha, Bool.true_or, Bool.true_and]
  · rw [ha, Bool.or_true, Bool.true_and]
theorem sOk_no {l : List Score} {i : Nat} (h : ¬ (rd_T40 l (i : Int)).f0.size ≤ 40 ∨ placeB (rd_T40 l (i : Int)).f1 = false ∨ (¬ i = 0 ∧ ahd (rd_T40 l ((i - 1 : Nat) : Int)) (rd_T40 l (i : Int)) = false) ∨ fresh l i = false) : sOk l i = false := by
  unfold sOk
  rcases h with h | h | ⟨h, h'⟩ | h
  · rw [decide_eq_false h, Bool.false_and]
  · rw [h, Bool.false_and, Bool.and_false]
  · rw [decide_eq_false h, h', Bool.false_or, Bool.false_and, Bool.and_false, Bool.and_false]
  · rw [h, Bool.and_false, Bool.and_false, Bool.and_false]
def scoresB (l : List Score) : Bool := (List.range' 0 l.length).all (sOk l) && decide ((l.length : Int) ≤ 16)
theorem spec_ScoresOk_l1 (l : List Score) (hl : l.length ≤ maxLen) (i : Nat) (hi : i < l.length) (r : Bool) (hr : Ev (fun k => spec_ScoresOk.l0 k l (wrap64 ((i : Int) + 1))) r) (d : Nat) : ∀ (j : Nat), j + d = i →
    Ev (fun k => spec_ScoresOk.l1 k l (i : Int) (j : Int)) ((List.range' j d).all (fun k => !decide ((rd_T40 l (k : Int)).f0 = (rd_T40 l (i : Int)).f0)) && r) := by
  unfold maxLen at hl
  induction d with
  | zero =>
    intro j hj
    refine Ev.step (g := fun k => spec_ScoresOk.l1 k _ _ _) (fun k => by rw [spec_ScoresOk.l1]) (neg (by omega) ?_)
    simpa using hr
  | succ d ih =>
    intro j hj
    refine Ev.step (g := fun k => spec_ScoresOk.l1 k _ _ _) (fun k => by rw [spec_ScoresOk.l1]) (pos (by omega) (pos (by omega) (pos (by omega) (pos (by omega) (pos (by omega) ?_)))))
    rw [wrap_id (x := (j : Int) + 1) (by omega) (by omega), List.range'_succ, List.all_cons]
    refine both (fun h => ret' ?_) (fun h => ?_)
    · simp [toList_inj h]
    · have : ¬ (rd_T40 l (j : Int)).f0 = (rd_T40 l (i : Int)).f0 := fun e => h (by rw [e])
      refine of_eq (ih (j + 1) (by omega)) ?_
      simp [this]
theorem spec_ScoresOk_l0 (l : List Score) (hl : l.length ≤ maxLen) (d : Nat) : ∀ (i : Nat), i + d = l.length → Ev (fun k => spec_ScoresOk.l0 k l (i : Int)) ((List.range' i d).all (sOk l) && decide ((l.length : Int) ≤ 16)) := by
  have hl' := hl
  unfold maxLen at hl'
  induction d with
  | zero =>
    intro i hi
    refine Ev.step (g := fun k => spec_ScoresOk.l0 k _ _) (fun k => by rw [spec_ScoresOk.l0]) (neg (by omega) (ret' ?_))
    simp
  | succ d ih =>
    intro i hi
    have hw : wrap64 ((i : Int) + 1) = ((i + 1 : Nat) : Int) := by rw [wrap_id (by omega) (by omega)]; omega
    have ih' := ih (i + 1) (by omega)
    have hin := spec_ScoresOk_l1 l hl i (by omega) _ (by rw [hw]; exact ih') i 0 (by omega)
    rw [← List.range_eq_range'] at hin
    refine Ev.step (g := fun k => spec_ScoresOk.l0 k _ _) (fun k => by rw [spec_ScoresOk.l0]) (pos (by omega) (pos (by omega) ?_))
    rw [List.range'_succ, List.all_cons]
    refine both (fun h => ?_) (fun h => ?_)
    · refine Ev.step (g := fun k => spec_ScoresOk.j1 k _ _ _) (fun k => by rw [spec_ScoresOk.j1]) ?_
      exact pos rfl (ret' (by rw [sOk_no (.inl (by omega))]; rfl))
    · have h40 : (rd_T40 l (i : Int)).f0.size ≤ 40 := by omega
      refine Ev.bind (l1In_ev _ _ _) ?_
      rw [show inB (rd_T40 l (i : Int)).f1 (-1000000000) 1000000000 = placeB (rd_T40 l (i : Int)).f1 from rfl]
      cases hp : placeB (rd_T40 l (i : Int)).f1 with
      | false =>
        refine neg (by decide) ?_
        refine Ev.step (g := fun k => spec_ScoresOk.j1 k _ _ _) (fun k => by rw [spec_ScoresOk.j1]) ?_
        exact pos rfl (ret' (by rw [sOk_no (.inr (.inl hp))]; rfl))
      | true =>
        refine pos rfl ?_
        by_cases h0 : i = 0
        · refine neg (by omega) ?_
          refine Ev.step (g := fun k => spec_ScoresOk.j1 k _ _ _) (fun k => by rw [spec_ScoresOk.j1]) ?_
          exact neg (by decide) (of_eq hin (by rw [sOk_eq h40 hp (.inl h0), Bool.and_assoc]; rfl))
        · refine pos (by omega) ?_
          rw [show wrap64 ((i : Int) - 1) = ((i - 1 : Nat) : Int) by rw [wrap_id (by omega) (by omega)]; omega]
          refine pos (by omega) (pos (by omega) (Ev.bind (val (l3Ahead_eq _ _)) ?_))
          cases ha : ahd (rd_T40 l ((i - 1 : Nat) : Int)) (rd_T40 l (i : Int)) with
          | false =>
            refine Ev.step (g := fun k => spec_ScoresOk.j1 k _ _ _) (fun k => by rw [spec_ScoresOk.j1]) ?_
            exact pos rfl (ret' (by rw [sOk_no (.inr (.inr (.inl ⟨h0, ha⟩)))]; rfl))
          | true =>
            refine Ev.step (g := fun k => spec_ScoresOk.j1 k _ _ _) (fun k => by rw [spec_ScoresOk.j1]) ?_
            exact neg (by decide) (of_eq hin (by rw [sOk_eq h40 hp (.inr ha), Bool.and_assoc]; rfl))
theorem spec_ScoresOk_ev (l : List Score) (hl : l.length ≤ maxLen) : Ev (fun k => spec_ScoresOk.f k l) (scoresB l) := spec_ScoresOk_l0 l hl l.length 0 (by omega)
theorem from_ge (t : ByteArray) (r : List Score) : ∀ o : Nat, impl_scoreAt.from t r o = -1 ∨ (o : Int) ≤ impl_scoreAt.from t r o ∧ impl_scoreAt.from t r o < o + r.length := by
  induction r with
  | nil => intro o; exact .inl rfl
  | cons x r ih =>
    intro o
    rw [impl_scoreAt.from]
    by_cases h : x.f0.toList = t.toList
    · rw [if_pos h]; right; simp; omega
    · rw [if_neg h]
      rcases ih (o + 1) with h | h
      · exact .inl h
      · right; simp; omega
theorem from_iff (t : ByteArray) (r : List Score) : ∀ (o j : Nat), impl_scoreAt.from t r o = ((o + j : Nat) : Int) ↔ ∃ h : j < r.length, r[j].f0 = t ∧ ∀ k (hk : k < j), (r[k]'(by omega)).f0 ≠ t := by
  induction r with
  | nil =>
    intro o j
    refine ⟨fun h => ?_, fun ⟨h, _⟩ => ?_⟩
    · have : (-1 : Int) = ((o + j : Nat) : Int) := h
      omega
    · simp at h
  | cons x r ih =>
    intro o j
    rw [impl_scoreAt.from]
    by_cases h : x.f0.toList = t.toList
    · rw [if_pos h]
      refine ⟨fun e => ?_, fun ⟨h1, h2, h3⟩ => ?_⟩
      · obtain rfl : j = 0 := by omega
        exact ⟨by simp, toList_inj h, fun k hk => by omega⟩
      · cases j with
        | zero => rfl
        | succ j => exact absurd (toList_inj h) (h3 0 (by omega))
    · rw [if_neg h]
      cases j with
      | zero =>
        refine ⟨fun e => ?_, fun ⟨h1, h2, h3⟩ => ?_⟩
        · rcases from_ge t r (o + 1) with q | q <;> omega
        · exact absurd (by rw [← h2]; rfl) h
      | succ j =>
        rw [show o + (j + 1) = (o + 1) + j by omega, ih (o + 1) j]
        refine ⟨fun ⟨h1, h2, h3⟩ => ⟨by simp; omega, h2, fun k hk => ?_⟩, fun ⟨h1, h2, h3⟩ => ⟨by simp at h1; omega, h2, fun k hk => h3 (k + 1) (by omega)⟩⟩
        cases k with
        | zero => exact fun e => h (by rw [← e]; rfl)
        | succ k => exact h3 k (by omega)
theorem from_fresh (l : List Score) (i : Nat) (hi : i < l.length) : decide (impl_scoreAt.from (rd_T40 l (i : Int)).f0 l 0 = (i : Int)) = fresh l i := by
  have := from_iff (rd_T40 l (i : Int)).f0 l 0 i
  rw [Nat.zero_add] at this
  rw [Bool.eq_iff_iff, decide_eq_true_iff, this]
  unfold fresh
  simp only [List.all_eq_true, List.mem_range, Bool.not_eq_true', decide_eq_false_iff_not]
  rw [rdScore_lt _ _ hi]
  refine ⟨fun ⟨_, _, h⟩ k hk => ?_, fun h => ⟨hi, rfl, fun k hk => ?_⟩⟩
  · rw [rdScore_lt _ _ (by omega)]; exact h k hk
  · have := h k hk
    rw [rdScore_lt _ _ (by omega)] at this
    exact this
theorem impl_ScoresOk_l0 (l : List Score) (hl : l.length ≤ maxLen) (d : Nat) : ∀ (i : Nat), i + d = l.length → Ev (fun k => impl_ScoresOk.l0 k l l (l.length : Int) (i : Int)) ((List.range' i d).all (sOk l) && decide ((l.length : Int) ≤ 16)) := by
  have hl' := hl
  unfold maxLen at hl'
  induction d with
  | zero =>
    intro i hi
    refine Ev.step (g := fun k => impl_ScoresOk.l0 k _ _ _ _) (fun k => by rw [impl_ScoresOk.l0]) (neg (by omega) (ret' ?_))
    simp
  | succ d ih =>
    intro i hi
    have ih' := ih (i + 1) (by omega)
    have hf := from_fresh l i (by omega)
    refine Ev.step (g := fun k => impl_ScoresOk.l0 k _ _ _ _) (fun k => by rw [impl_ScoresOk.l0]) (pos (by omega) (pos (by omega) (pos (by omega) ?_)))
    rw [List.range'_succ, List.all_cons, wrap_id (x := (i : Int) + 1) (by omega) (by omega)]
    refine both (fun h => ret' (by rw [sOk_no (.inl (by omega))]; rfl)) (fun h => ?_)
    · have h40 : (rd_T40 l (i : Int)).f0.size ≤ 40 := by omega
      refine Ev.bind (position_ev _) ?_
      cases hp : placeB (rd_T40 l (i : Int)).f1 with
      | false => exact neg (by decide) (ret' (by rw [sOk_no (.inr (.inl hp))]; rfl))
      | true =>
        refine pos rfl ?_
        by_cases h0 : i = 0
        · refine neg (by omega) (Ev.bind (val rfl) ?_)
          refine both (fun q => ?_) (fun q => ret' ?_)
          · rw [decide_eq_true q] at hf
            exact of_eq ih' (by rw [sOk_eq h40 hp (.inl h0), ← hf, Bool.true_and])
          · rw [decide_eq_false q] at hf
            rw [sOk_no (.inr (.inr (.inr hf.symm)))]; rfl
        · refine pos (by omega) ?_
          rw [show wrap64 ((i : Int) - 1) = ((i - 1 : Nat) : Int) by rw [wrap_id (by omega) (by omega)]; omega]
          refine pos (by omega) (pos (by omega) (Ev.bind (scoreOrder_ev _ _) ?_))
          refine both (fun q => ret' ?_) (fun q => ?_)
          · rw [sOk_no (.inr (.inr (.inl ⟨h0, (ordM_ahd _ _).1 q⟩)))]; rfl
          · have ha : ahd (rd_T40 l ((i - 1 : Nat) : Int)) (rd_T40 l (i : Int)) = true := by
              cases e : ahd (rd_T40 l ((i - 1 : Nat) : Int)) (rd_T40 l (i : Int)) with
              | true => rfl
              | false => exact absurd ((ordM_ahd _ _).2 e) q
            refine Ev.bind (val rfl) ?_
            refine both (fun q => ?_) (fun q => ret' ?_)
            · rw [decide_eq_true q] at hf
              exact of_eq ih' (by rw [sOk_eq h40 hp (.inr ha), ← hf, Bool.true_and])
            · rw [decide_eq_false q] at hf
              rw [sOk_no (.inr (.inr (.inr hf.symm)))]; rfl
theorem impl_ScoresOk_ev (l : List Score) (hl : l.length ≤ maxLen) : Ev (fun k => impl_ScoresOk.f k l) (scoresB l) := impl_ScoresOk_l0 l hl l.length 0 (by omega)
end Go.Proofs.Ytcpnekdhdmncfaa.Q
namespace Go.Proofs.Ytcpnekdhdmncfaa.Q
open Go.RowKit Go.Proofs.YtcpnekdhdmncfaaW.PrintWords Go.Proofs.YtcpnekdhdmncfaaW.PrintLast Go.Proofs.Ytcpnekdhdmncfaa.P
end Go.Proofs.Ytcpnekdhdmncfaa.Q
namespace Go.Proofs.Ytcpnekdhdmncfaa.Q
open Go.RowKit Go.Proofs.YtcpnekdhdmncfaaW.PrintWords Go.Proofs.YtcpnekdhdmncfaaW.PrintLast Go.Proofs.YtcpnekdhdmncfaaW.PrintMore Go.Proofs.Ytcpnekdhdmncfaa.P
end Go.Proofs.Ytcpnekdhdmncfaa.Q
namespace Go.Proofs.Ytcpnekdhdmncfaa.Q
open Go.RowKit Go.Proofs.YtcpnekdhdmncfaaW.PrintWords Go.Proofs.YtcpnekdhdmncfaaW.PrintLast Go.Proofs.YtcpnekdhdmncfaaW.PrintMore Go.Proofs.Ytcpnekdhdmncfaa.P
theorem scoresB_len {l : List Score} (h : scoresB l = true) : l.length ≤ 16 := by
  simp only [scoresB, Bool.and_eq_true, decide_eq_true_eq] at h
  omega
theorem scoresB_fresh {l : List Score} (h : scoresB l = true) (i : Nat) (hi : i < l.length) : fresh l i = true := by
  simp only [scoresB, Bool.and_eq_true, List.all_eq_true] at h
  have := h.1 i (by simp [List.mem_range'_1]; exact hi)
  unfold sOk at this
  simp only [Bool.and_eq_true] at this
  exact this.2.2.2
theorem scoresB_apart {l : List Score} (h : scoresB l = true) : l.Pairwise (fun a b => a.f0 ≠ b.f0) := by
  rw [List.pairwise_iff_getElem]
  intro i j hi hj hij
  have := scoresB_fresh h j hj
  unfold fresh at this
  simp only [List.all_eq_true, List.mem_range, Bool.not_eq_true', decide_eq_false_iff_not] at this
  have := this i hij
  rw [rdScore_lt _ _ hi, rdScore_lt _ _ hj] at this
  exact this
def rankM (l : List Score) (t : ByteArray) : Int := if scoresB l = true then impl_scoreAt.from t l 0 else -1
theorem impl_ScoresRank_ev (l : List Score) (hl : l.length ≤ maxLen) (t : ByteArray) : Ev (fun k => impl_ScoresRank.f k l t) (rankM l t) := by
  unfold impl_ScoresRank.f rankM
  refine Ev.bind (impl_ScoresOk_ev l hl) (both (fun h => ?_) (fun h => ?_))
  · rw [if_pos h]; exact Ev.bind (val rfl) (ret _)
  · rw [if_neg h]; exact ret _
theorem filter_cons' (p : Score → Bool) (x : Score) (r : List Score) : (x :: r).filter p = if p x = true then x :: r.filter p else r.filter p := by
  by_cases h : p x = true <;> simp [h]
def withoutM (l : List Score) (t : ByteArray) : List Score := l.filter (fun s => !decide (s.f0 = t))
theorem withoutM_cons (x : Score) (r : List Score) (t : ByteArray) : withoutM (x :: r) t = if x.f0 = t then withoutM r t else x :: withoutM r t := by
  unfold withoutM
  by_cases h : x.f0 = t <;> simp [h]
theorem l3Without_l0 (l : List Score) (hl : l.length ≤ 1048576) (t : ByteArray) (d : Nat) : ∀ (i : Nat) (x : List Score), i + d = l.length → x.length ≤ i → Ev (fun k => spec_l3Without.l0 k l t x (i : Int)) (x ++ withoutM (l.drop i) t) := by
  induction d with
  | zero =>
    intro i x hi hx
    refine Ev.step (g := fun k => spec_l3Without.l0 k _ _ _ _) (fun k => by rw [spec_l3Without.l0]) (neg (by omega) (ret' ?_))
    rw [List.drop_of_length_le (by omega)]
    simp [withoutM]
  | succ d ih =>
    intro i x hi hx
    have hlt : i < l.length := by omega
    refine Ev.step (g := fun k => spec_l3Without.l0 k _ _ _ _) (fun k => by rw [spec_l3Without.l0]) (pos (by omega) (pos (by omega) ?_))
    rw [rdScore_lt _ _ hlt, List.drop_eq_getElem_cons hlt, wrap_id (by omega) (by omega), withoutM_cons]
    refine both (fun q => ?_) (fun q => ?_)
    · rw [if_pos (toList_inj q)]
      exact ih (i + 1) x (by omega) (by omega)
    · rw [if_neg (fun e => q (by rw [e]))]
      exact pos (by omega) (of_eq (ih (i + 1) (x ++ [l[i]]) (by omega) (by simp; omega)) (by simp))
theorem l3Without_ev (l : List Score) (hl : l.length ≤ 1048576) (t : ByteArray) : Ev (fun k => spec_l3Without.f k l t) (withoutM l t) := by
  have := l3Without_l0 l hl t l.length 0 [] (by omega) (by simp)
  simpa [spec_l3Without.f] using this
theorem withoutM_len (l : List Score) (t : ByteArray) : (withoutM l t).length ≤ l.length := List.length_filter_le _ _
theorem withoutM_all {l : List Score} {t : ByteArray} (h : ∀ s ∈ l, s.f0 ≠ t) : withoutM l t = l := by
  unfold withoutM
  rw [List.filter_eq_self]
  intro s hs
  simp [h s hs]
theorem without_from (t : ByteArray) (l : List Score) : ∀ (o : Nat), l.Pairwise (fun a b => a.f0 ≠ b.f0) →
    (impl_scoreAt.from t l o = -1 ∧ withoutM l t = l) ∨ (∃ j : Nat, impl_scoreAt.from t l o = ((o + j : Nat) : Int) ∧ j < l.length ∧ withoutM l t = l.eraseIdx j) := by
  induction l with
  | nil => intro o _; exact .inl ⟨rfl, rfl⟩
  | cons x r ih =>
    intro o hp
    obtain ⟨h1, h2⟩ := List.pairwise_cons.1 hp
    rw [impl_scoreAt.from, withoutM_cons]
    by_cases h : x.f0.toList = t.toList
    · rw [if_pos h, if_pos (toList_inj h)]
      refine .inr ⟨0, rfl, by simp, ?_⟩
      rw [withoutM_all (fun s hs e => h1 s hs (by rw [toList_inj h, e]))]
      rfl
    · rw [if_neg h, if_neg (fun e => h (by rw [e]))]
      rcases ih (o + 1) h2 with ⟨a, b⟩ | ⟨j, a, b, c⟩
      · exact .inl ⟨a, by rw [b]⟩
      · refine .inr ⟨j + 1, by rw [a]; congr 1; omega, by simp; omega, by rw [c]; rfl⟩
def scoresDropM (l : List Score) (t : ByteArray) : List Score × Bool := if scoresB l = true then (withoutM l t, decide ((withoutM l t).length < l.length)) else ([], false)
theorem copiedScores_ev (l : List Score) (hl : l.length ≤ 1048576) : Ev (fun _ => impl_copiedScores.f l) l := by
  unfold impl_copiedScores.f
  refine Ev.bind (ret _) (pos ?_ (ret' rfl))
  simp; omega
theorem impl_ScoresDrop_ev (l : List Score) (hl : l.length ≤ 1048576) (t : ByteArray) : Ev (fun k => impl_ScoresDrop.f k l t) (scoresDropM l t) := by
  unfold impl_ScoresDrop.f scoresDropM
  refine Ev.bind (impl_ScoresOk_ev l (by unfold maxLen; omega)) (both (fun h => ?_) (fun h => ?_))
  · rw [if_pos h]
    refine Ev.bind (copiedScores_ev l hl) (Ev.bind (val rfl) ?_)
    rcases without_from t l 0 (scoresB_apart h) with ⟨a, b⟩ | ⟨j, a, b, c⟩
    · rw [a, b]
      exact pos (by omega) (ret' (by simp))
    · rw [a, c, Nat.zero_add]
      have hD : slices_Delete_impl_Score_impl_Score.f l (j : Int) (wrap64 ((j : Int) + 1)) = some (l.eraseIdx j) := by
        unfold slices_Delete_impl_Score_impl_Score.f
        rw [if_pos ⟨by omega, by omega, by rw [wrap_id (by omega) (by omega)]⟩, Int.toNat_natCast]
      have hle := List.length_eraseIdx_of_lt b
      refine neg (by omega) ?_
      refine Ev.bind (val hD) ?_
      refine Ev.bind (copiedScores_ev _ (by omega)) (ret' ?_)
      rw [decide_eq_true (by omega)]
  · rw [if_neg h]; exact ret _
end Go.Proofs.Ytcpnekdhdmncfaa.Q
namespace Go.Proofs.Ytcpnekdhdmncfaa.Q
open Go.RowKit Go.Proofs.YtcpnekdhdmncfaaW.PrintWords Go.Proofs.YtcpnekdhdmncfaaW.PrintLast Go.Proofs.Ytcpnekdhdmncfaa.P
theorem ahd_iff {a b : Score} : ahd a b = true ↔ a.f1 < b.f1 ∨ (a.f1 = b.f1 ∧ lt a.f0 b.f0 = true) := by simp [ahd]
theorem ahd_trans {a b c : Score} (h : ahd a b = true) (h' : ahd b c = true) : ahd a c = true := by
  rw [ahd_iff] at h h' ⊢
  rcases h with h | ⟨h, g⟩ <;> rcases h' with h' | ⟨h', g'⟩
  · left; omega
  · left; omega
  · left; omega
  · right; exact ⟨by omega, lt_trans g g'⟩
theorem ahd_irrefl (a : Score) : ahd a a = false := by
  cases h : ahd a a with
  | false => rfl
  | true =>
    rcases ahd_iff.1 h with q | ⟨_, q⟩
    · omega
    · rw [lt_irrefl] at q; cases q
theorem ahd_total {a b : Score} (h : a.f0 ≠ b.f0) (h' : ¬ ahd a b = true) : ahd b a = true := by
  rw [ahd_iff] at h' ⊢
  rcases Int.lt_trichotomy a.f1 b.f1 with q | q | q
  · exact absurd (.inl q) h'
  · rcases lt_tri a.f0 b.f0 with w | w | w
    · exact absurd (.inr ⟨q, w⟩) h'
    · exact absurd w h
    · exact .inr ⟨q.symm, w⟩
  · exact .inl q
theorem scoresB_iff (l : List Score) : scoresB l = true ↔ (∀ x ∈ l, x.f0.size ≤ 40 ∧ placeB x.f1 = true) ∧ l.Pairwise (fun a b => ahd a b = true) ∧ l.Pairwise (fun a b => a.f0 ≠ b.f0) ∧ l.length ≤ 16 := by
  constructor
  · intro h
    have hf := scoresB_apart h
    have h16 := scoresB_len h
    have hs : ∀ i (hi : i < l.length), sOk l i = true := by
      intro i hi
      simp only [scoresB, Bool.and_eq_true, List.all_eq_true] at h
      exact h.1 i (by simp [List.mem_range'_1]; exact hi)
    have hadj : ∀ i (hi : i + 1 < l.length), ahd l[i] l[i + 1] = true := by
      intro i hi
      have := hs (i + 1) hi
      unfold sOk at this
      simp only [Bool.and_eq_true, Bool.or_eq_true, decide_eq_true_eq] at this
      obtain ⟨_, _, h3, _⟩ := this
      rcases h3 with h3 | h3
      · omega
      · rw [show i + 1 - 1 = i by omega, rdScore_lt _ _ (by omega), rdScore_lt _ _ hi] at h3
        exact h3
    refine ⟨fun x hx => ?_, ?_, hf, h16⟩
    · obtain ⟨i, hi, rfl⟩ := List.getElem_of_mem hx
      have := hs i hi
      unfold sOk at this
      simp only [Bool.and_eq_true, decide_eq_true_eq] at this
      rw [rdScore_lt _ _ hi] at this
      exact ⟨this.1, this.2.1⟩
    · rw [List.pairwise_iff_getElem]
      intro i j hi hj hij
      obtain ⟨d, rfl⟩ : ∃ d, j = i + 1 + d := ⟨j - (i + 1), by omega⟩
      clear hij
      induction d with
      | zero => exact hadj i hj
      | succ d ih => exact ahd_trans (ih (by omega)) (hadj (i + 1 + d) hj)
  · rintro ⟨h1, h2, h3, h4⟩
    simp only [scoresB, Bool.and_eq_true, List.all_eq_true, decide_eq_true_eq]
    refine ⟨fun i hi => ?_, by omega⟩
    have hi : i < l.length := by simpa [List.mem_range'_1] using hi
    obtain ⟨a, b⟩ := h1 _ (List.getElem_mem hi)
    rw [sOk_eq (by rw [rdScore_lt _ _ hi]; exact a) (by rw [rdScore_lt _ _ hi]; exact b)]
    · unfold fresh
      simp only [List.all_eq_true, List.mem_range, Bool.not_eq_true', decide_eq_false_iff_not]
      intro k hk
      rw [rdScore_lt _ _ (show k < l.length by omega), rdScore_lt _ _ hi]
      exact List.pairwise_iff_getElem.1 h3 k i (by omega) hi hk
    · by_cases h0 : i = 0
      · exact .inl h0
      · right
        rw [rdScore_lt _ _ (show i - 1 < l.length by omega), rdScore_lt _ _ hi]
        exact List.pairwise_iff_getElem.1 h2 (i - 1) i (by omega) hi (by omega)
def insM (s : Score) : List Score → List Score
  | [] => [s]
  | x :: r => if ahd x s = true then x :: insM s r else s :: x :: r
theorem insM_len (s : Score) (l : List Score) : (insM s l).length = l.length + 1 := by
  induction l with
  | nil => rfl
  | cons x r ih =>
    rw [insM]
    split
    · simp [ih]
    · rfl
theorem insM_mem (s : Score) (l : List Score) (x : Score) : x ∈ insM s l ↔ x = s ∨ x ∈ l := by
  induction l with
  | nil => simp [insM]
  | cons y r ih =>
    rw [insM]
    split
    · rw [List.mem_cons, ih, List.mem_cons]
      constructor
      · rintro (h | h | h)
        · exact .inr (.inl h)
        · exact .inl h
        · exact .inr (.inr h)
      · rintro (h | h | h)
        · exact .inr (.inl h)
        · exact .inl h
        · exact .inr (.inr h)
    · simp
theorem insM_asc (s : Score) (l : List Score) (h : l.Pairwise (fun a b => ahd a b = true)) (hs : ∀ x ∈ l, x.f0 ≠ s.f0) : (insM s l).Pairwise (fun a b => ahd a b = true) := by
  induction l with
  | nil => simp [insM]
  | cons x r ih =>
    obtain ⟨h1, h2⟩ := List.pairwise_cons.1 h
    rw [insM]
    by_cases hx : ahd x s = true
    · rw [if_pos hx, List.pairwise_cons]
      refine ⟨fun y hy => ?_, ih h2 (fun y hy => hs y (List.mem_cons_of_mem _ hy))⟩
      rcases (insM_mem s r y).1 hy with rfl | hy
      · exact hx
      · exact h1 y hy
    · rw [if_neg hx, List.pairwise_cons]
      have ht : ahd s x = true := ahd_total (hs x (by simp)) hx
      refine ⟨fun y hy => ?_, h⟩
      rcases List.mem_cons.1 hy with rfl | hy
      · exact ht
      · exact ahd_trans ht (h1 y hy)
theorem insM_apart (s : Score) (l : List Score) (h : l.Pairwise (fun a b => a.f0 ≠ b.f0)) (hs : ∀ x ∈ l, x.f0 ≠ s.f0) : (insM s l).Pairwise (fun a b => a.f0 ≠ b.f0) := by
  induction l with
  | nil => simp [insM]
  | cons x r ih =>
    obtain ⟨h1, h2⟩ := List.pairwise_cons.1 h
    rw [insM]
    by_cases hx : ahd x s = true
    · rw [if_pos hx, List.pairwise_cons]
      refine ⟨fun y hy => ?_, ih h2 (fun y hy => hs y (List.mem_cons_of_mem _ hy))⟩
      rcases (insM_mem s r y).1 hy with rfl | hy
      · exact hs x (by simp)
      · exact h1 y hy
    · rw [if_neg hx, List.pairwise_cons]
      refine ⟨fun y hy => ?_, h⟩
      rcases List.mem_cons.1 hy with rfl | hy
      · exact fun e => hs y (by simp) e.symm
      · exact fun e => hs y (List.mem_cons_of_mem _ hy) e.symm
theorem without_mem {l : List Score} {t : ByteArray} {x : Score} (h : x ∈ withoutM l t) : x ∈ l ∧ x.f0 ≠ t := by
  have := List.mem_filter.1 h
  exact ⟨this.1, by simpa using this.2⟩
def scoresPutM (l : List Score) (s : Score) : List Score × Bool × Bool :=
  if scoresB l = true then (if scoresB (insM s (withoutM l s.f0)) = true then (insM s (withoutM l s.f0), (((withoutM l s.f0).length : Int) == (l.length : Int)), true) else (l, false, false)) else ([], false, false)
theorem scoresPutM_len (l : List Score) (s : Score) : (scoresPutM l s).1.length ≤ l.length + 1 := by
  have := withoutM_len l s.f0
  unfold scoresPutM
  split
  · split
    · rw [insM_len]; omega
    · simp
  · simp
theorem scoresPutM_ok {l : List Score} (s : Score) (h : scoresB l = true) : scoresB (scoresPutM l s).1 = true := by
  unfold scoresPutM
  rw [if_pos h]
  split
  · assumption
  · exact h
theorem scoresPutM_mem {l : List Score} {s x : Score} (hx : x ∈ (scoresPutM l s).1) : x = s ∨ x ∈ l := by
  unfold scoresPutM at hx
  split at hx
  · split at hx
    · rcases (insM_mem _ _ _).1 hx with h | h
      · exact .inl h
      · exact .inr (without_mem h).1
    · exact .inr hx
  · simp at hx
theorem scoresPutM_new {l : List Score} {s : Score} (h : scoresB l = true) (hn : ∀ x ∈ l, x.f0 ≠ s.f0) (hl : l.length < 16) (hs : s.f0.size ≤ 40) (hp : placeB s.f1 = true) : (scoresPutM l s).1 = insM s l ∧ scoresB (insM s l) = true := by
  obtain ⟨h1, h2, h3, h4⟩ := (scoresB_iff l).1 h
  have hw : withoutM l s.f0 = l := withoutM_all hn
  have hok : scoresB (insM s l) = true := (scoresB_iff _).2 ⟨fun x hx => by
    rcases (insM_mem _ _ _).1 hx with rfl | hx
    · exact ⟨hs, hp⟩
    · exact h1 x hx, insM_asc s l h2 hn, insM_apart s l h3 hn, by rw [insM_len]; omega⟩
  refine ⟨?_, hok⟩
  unfold scoresPutM
  rw [if_pos h, hw, if_pos hok]
theorem spec_ScoresPut_l0 (l0 : List Score) (hl0 : l0.length ≤ 1048576) (l : List Score) (hl : l.length ≤ 1048576) (s : Score) (d : Nat) : ∀ (i : Nat), i + d = l.length →
    Ev (fun k => spec_ScoresPut.l0 k l0 l (i : Int) s.f0 s.f1) (if scoresB (l.take i ++ insM s (l.drop i)) = true then (l.take i ++ insM s (l.drop i), ((l.length : Int) == (l0.length : Int)), true) else (l0, false, false)) := by
  have last : ∀ (i : Nat) (o : List Score), i ≤ l.length → l.take i ++ [s] ++ l.drop i = o → Ev (fun k => (spec_ScoresOk.f k o).bind fun t434 => (if t434 = true then (some (o, ((l.length : Int) == (l0.length : Int)), true)) else ((some (([] : List Score) : List Score)).bind fun y435 => (if y435.length + l0.length < 5864062014805 then (some ((y435 ++ l0), false, false)) else (none))))) (if scoresB o = true then (o, ((l.length : Int) == (l0.length : Int)), true) else (l0, false, false)) := by
    intro i o hi e
    have hlen : o.length ≤ maxLen := by
      rw [← e]
      unfold maxLen
      simp
      omega
    refine Ev.bind (spec_ScoresOk_ev o hlen) (both (fun h => ?_) (fun h => ?_))
    · rw [if_pos h]; exact ret _
    · rw [if_neg h]
      exact Ev.bind (ret _) (pos (by simp; omega) (ret' (by simp)))
  induction d with
  | zero =>
    intro i hi
    refine Ev.step (g := fun k => spec_ScoresPut.l0 k _ _ _ _ _) (fun k => by rw [spec_ScoresPut.l0]) (neg (by omega) ?_)
    refine Ev.step (g := fun k => spec_ScoresPut.j1 k _ _ _ _ _) (fun k => by rw [spec_ScoresPut.j1]) ?_
    refine Ev.bind (ret _) (pos (by omega) (pos (by omega) (Ev.bind (ret _) ?_)))
    refine pos (by simp; omega) (Ev.bind (ret _) (Ev.bind (ret _) ?_))
    refine pos (by simp; omega) (Ev.bind (ret _) (Ev.bind (ret _) ?_))
    refine pos (by simp; omega) (Ev.bind (ret _) ?_)
    have e : l.take i ++ insM s (l.drop i) = [] ++ l.take (i : Int).toNat ++ [(⟨s.f0, s.f1⟩ : Score)] ++ l.drop (i : Int).toNat := by
      rw [Int.toNat_natCast, List.drop_of_length_le (by omega)]
      simp [insM]
    rw [e]
    refine last i _ (by omega) ?_
    rw [Int.toNat_natCast]
    rfl
  | succ d ih =>
    intro i hi
    have hlt : i < l.length := by omega
    have hd := List.drop_eq_getElem_cons hlt
    refine Ev.step (g := fun k => spec_ScoresPut.l0 k _ _ _ _ _) (fun k => by rw [spec_ScoresPut.l0]) (pos (by omega) (pos (by omega) ?_))
    refine Ev.bind (val (l3Ahead_eq _ s)) ?_
    rw [rdScore_lt _ _ hlt, wrap_id (x := (i : Int) + 1) (by omega) (by omega)]
    refine both (fun h => ?_) (fun h => ?_)
    · have e : l.take i ++ insM s (l.drop i) = l.take (i + 1) ++ insM s (l.drop (i + 1)) := by
        rw [hd, insM, if_pos h, List.take_succ_eq_append_getElem hlt, List.append_assoc, List.singleton_append]
      rw [e]
      exact ih (i + 1) (by omega)
    · refine Ev.step (g := fun k => spec_ScoresPut.j1 k _ _ _ _ _) (fun k => by rw [spec_ScoresPut.j1]) ?_
      refine Ev.bind (ret _) (pos (by omega) (pos (by omega) (Ev.bind (ret _) ?_)))
      refine pos (by simp; omega) (Ev.bind (ret _) (Ev.bind (ret _) ?_))
      refine pos (by simp; omega) (Ev.bind (ret _) (Ev.bind (ret _) ?_))
      refine pos (by simp; omega) (Ev.bind (ret _) ?_)
      have e : l.take i ++ insM s (l.drop i) = [] ++ l.take (i : Int).toNat ++ [(⟨s.f0, s.f1⟩ : Score)] ++ l.drop (i : Int).toNat := by
        rw [Int.toNat_natCast, hd, insM, if_neg h]
        simp
      rw [e]
      refine last i _ (by omega) ?_
      rw [Int.toNat_natCast]
      rfl
theorem spec_ScoresPut_ev (l : List Score) (hl : l.length ≤ 1048576) (s : Score) : Ev (fun k => spec_ScoresPut.f k l s.f0 s.f1) (scoresPutM l s) := by
  unfold spec_ScoresPut.f scoresPutM
  refine Ev.bind (spec_ScoresOk_ev l (by unfold maxLen; omega)) (both (fun h => ?_) (fun h => ?_))
  · rw [if_pos h]
    have hw := withoutM_len l s.f0
    refine Ev.bind (l3Without_ev l hl s.f0) ?_
    have := spec_ScoresPut_l0 l hl (withoutM l s.f0) (by omega) s (withoutM l s.f0).length 0 (by omega)
    exact this
  · rw [if_neg h]; exact ret _
end Go.Proofs.Ytcpnekdhdmncfaa.Q
namespace Go.Proofs.Ytcpnekdhdmncfaa.Q
open Go.RowKit Go.Proofs.YtcpnekdhdmncfaaW.PrintWords Go.Proofs.YtcpnekdhdmncfaaW.PrintLast Go.Proofs.Ytcpnekdhdmncfaa.P
def Code (l : List Int) : Prop := l.length ≤ 2000 ∧ ∀ x ∈ l, 0 ≤ x ∧ x ≤ 255
theorem xor_nonneg (x y : Int) (hx : 0 ≤ x) (hx' : x < 9223372036854775808) (hy : 0 ≤ y) (hy' : y < 9223372036854775808) : 0 ≤ Go.bits .xor .i64 x y := by
  have h1 : (BitVec.ofInt 64 x) = BitVec.ofNat 64 x.toNat := by
    apply BitVec.eq_of_toNat_eq
    rw [BitVec.toNat_ofInt, BitVec.toNat_ofNat]
    omega
  have h2 : (BitVec.ofInt 64 y) = BitVec.ofNat 64 y.toNat := by
    apply BitVec.eq_of_toNat_eq
    rw [BitVec.toNat_ofInt, BitVec.toNat_ofNat]
    omega
  have h3 : (BitVec.ofNat 64 x.toNat ^^^ BitVec.ofNat 64 y.toNat).toNat < 2 ^ 63 := by
    rw [BitVec.toNat_xor, BitVec.toNat_ofNat, BitVec.toNat_ofNat, Nat.mod_eq_of_lt (by omega), Nat.mod_eq_of_lt (by omega)]
    exact Nat.xor_lt_two_pow (by omega) (by omega)
  show 0 ≤ IntKind.i64.wrap ((BitVec.ofInt 64 x ^^^ BitVec.ofInt 64 y).toNat : Int)
  rw [h1, h2]
  generalize (BitVec.ofNat 64 x.toNat ^^^ BitVec.ofNat 64 y.toNat).toNat = m at h3
  have h4 : IntKind.i64.wrap (m : Int) = wrap64 (m : Int) := i64_w _
  rw [h4, wrap_id (by omega) (by omega)]
  omega
theorem l1Open_ev (l : List Int) (hl : l.length ≤ maxLen) (hb : ∀ x ∈ l, (Lit.int .u8 x).wf = true) : ∃ c, Ev (fun _ => spec_l1Open.f l) (c, 0) ∧ Code c := by
  unfold maxLen at hl
  have hb' : ∀ x ∈ l, 0 ≤ x ∧ x ≤ 255 := by
    intro x hx
    have := hb x hx
    simp only [Lit.wf, Bool.and_eq_true, decide_eq_true_eq] at this
    exact this
  unfold spec_l1Open.f
  by_cases h : (l.length : Int) > 2000
  · refine ⟨l.take 2000, pos h (pos (by omega) (ret _)), by simp; omega, fun x hx => hb' x (List.mem_of_mem_take hx)⟩
  · exact ⟨l, neg h (ret _), by omega, hb'⟩
theorem rd_code {l : List Int} (hl : Code l) (i : Int) (h0 : 0 ≤ i) (h1 : i < l.length) : 0 ≤ rd l i ∧ rd l i ≤ 255 := by
  obtain ⟨n, rfl⟩ := Int.eq_ofNat_of_zero_le h0
  have hn : n < l.length := by omega
  have : rd l (n : Int) = l[n] := by simp [rd, List.getD_eq_getElem?_getD, hn]
  rw [this]
  exact hl.2 _ (List.getElem_mem hn)
theorem tmod_bd (a n : Int) (ha : 0 ≤ a) (hn : 0 < n) : 0 ≤ Int.tmod a n ∧ Int.tmod a n < n := ⟨Int.tmod_nonneg _ ha, Int.tmod_lt_of_pos _ hn⟩
theorem tdiv_bd (a n : Int) (ha : 0 ≤ a) (hn : 0 < n) : 0 ≤ Int.tdiv a n ∧ Int.tdiv a n ≤ a := by
  rw [Int.tdiv_eq_ediv_of_nonneg ha]
  exact ⟨Int.ediv_nonneg ha (by omega), Int.ediv_le_self _ ha⟩
theorem pick_ev (l : List Int) (hl : Code l) (p n : Int) (h0 : 0 ≤ p) (h1 : p ≤ 1000000000) (hn : 1 ≤ n) (hn' : n ≤ 4294967296) : ∃ v, Ev (fun k => spec_l1Rd_pick.f k l p n) (v, p + 1) ∧ 0 ≤ v ∧ v < n := by
  have hlen := hl.1
  have e1 : wrap64 (p + 1) = p + 1 := wrap_id (by omega) (by omega)
  have e2 : wrap64 (p + 1 - 1) = p := by rw [wrap_id (by omega) (by omega)]; omega
  unfold spec_l1Rd_pick.f
  rw [e1]
  by_cases hz : l.length = 0
  · have e : ((l.length : Int) == 0) = true := by simp [hz]
    refine ⟨0, neg (by omega) ?_, by omega, by omega⟩
    rw [e]
    refine Ev.step (g := fun k => spec_l1Rd_pick.j0 k _ _ _ _) (fun k => by rw [spec_l1Rd_pick.j0]) ?_
    exact pos rfl (ret _)
  · have e : ((l.length : Int) == 0) = false := by simp; exact fun h => hz (by simp [h])
    rw [e]
    by_cases hlt : p < l.length
    · obtain ⟨b0, b1⟩ := rd_code hl p h0 hlt
      have e3 : wrap64 (rd l p) = rd l p := wrap_id (by omega) (by omega)
      obtain ⟨c0, c1⟩ := tmod_bd (rd l p) n b0 (by omega)
      refine ⟨Int.tmod (rd l p) n, neg (by omega) ?_, c0, c1⟩
      refine Ev.step (g := fun k => spec_l1Rd_pick.j0 k _ _ _ _) (fun k => by rw [spec_l1Rd_pick.j0]) (neg (by decide) ?_)
      rw [e2, e3]
      exact pos hlt (pos h0 (neg (by omega) (ret _)))
    · have hpos : (0 : Int) < l.length := by omega
      obtain ⟨m0, m1⟩ := tmod_bd p l.length h0 hpos
      have e7 : wrap64 (p * 7) = p * 7 := wrap_id (by omega) (by omega)
      have e73 : wrap64 (p * 7 + 3) = p * 7 + 3 := wrap_id (by omega) (by omega)
      obtain ⟨q0, q1⟩ := tmod_bd (p * 7 + 3) l.length (by omega) hpos
      obtain ⟨d0, d1⟩ := tdiv_bd p l.length h0 hpos
      obtain ⟨b0, b1⟩ := rd_code hl _ m0 m1
      obtain ⟨b2, b3⟩ := rd_code hl _ q0 q1
      generalize hA : rd l (Int.tmod p (l.length : Int)) = A at b0 b1
      generalize hB : rd l (Int.tmod (p * 7 + 3) (l.length : Int)) = B at b2 b3
      generalize hD : Int.tdiv p (l.length : Int) = D at d0 d1
      have f1 : wrap64 A = A := wrap_id (by omega) (by omega)
      have f2 : wrap64 (A * 131) = A * 131 := wrap_id (by omega) (by omega)
      have f3 : wrap64 B = B := wrap_id (by omega) (by omega)
      have f4 : wrap64 (B * 1117) = B * 1117 := wrap_id (by omega) (by omega)
      have f5 : wrap64 (A * 131 + B * 1117) = A * 131 + B * 1117 := wrap_id (by omega) (by omega)
      have f6 : wrap64 (p * 29) = p * 29 := wrap_id (by omega) (by omega)
      have f7 : wrap64 (A * 131 + B * 1117 + p * 29) = A * 131 + B * 1117 + p * 29 := wrap_id (by omega) (by omega)
      have f8 : wrap64 D = D := wrap_id (by omega) (by omega)
      have f9 : wrap64 (D * 53) = D * 53 := wrap_id (by omega) (by omega)
      have f10 : wrap64 (A * 131 + B * 1117 + p * 29 + D * 53) = A * 131 + B * 1117 + p * 29 + D * 53 := wrap_id (by omega) (by omega)
      generalize hX : A * 131 + B * 1117 + p * 29 + D * 53 = X at f10
      have x0 : 0 ≤ X := by omega
      have x1 : X ≤ 1000000000000 := by omega
      obtain ⟨y0, y1⟩ := tdiv_bd X 64 x0 (by omega)
      have f11 : wrap64 (Int.tdiv X 64) = Int.tdiv X 64 := wrap_id (by omega) (by omega)
      have z0 := xor_nonneg X (Int.tdiv X 64) x0 (by omega) y0 (by omega)
      obtain ⟨c0, c1⟩ := tmod_bd _ n z0 (by omega)
      refine ⟨_, neg (by omega) ?_, c0, c1⟩
      refine Ev.step (g := fun k => spec_l1Rd_pick.j0 k _ _ _ _) (fun k => by rw [spec_l1Rd_pick.j0]) (neg (by decide) ?_)
      rw [e2, e7, e73, hA, hB, hD, f1, f2, f3, f4, f5, f6, f7, f8, f9, hX, f10, f11]
      exact neg hlt (neg (by omega) (pos m0 (pos m1 (pos q0 (pos q1 (neg (by omega) (ret _)))))))
theorem of_ev (l : List Int) (hl : Code l) (p : Int) (t : List ByteArray) (h0 : 0 ≤ p) (h1 : p ≤ 1000000000) (ht : 0 < t.length) (ht' : t.length ≤ 1000) : ∃ s, Ev (fun k => spec_l1Rd_of.f k l p t) (s, p + 1) ∧ s ∈ t := by
  obtain ⟨v, hv, v0, v1⟩ := pick_ev l hl p t.length h0 h1 (by omega) (by omega)
  obtain ⟨n, rfl⟩ := Int.eq_ofNat_of_zero_le v0
  have hn : n < t.length := by omega
  refine ⟨t[n], ?_, List.getElem_mem hn⟩
  unfold spec_l1Rd_of.f
  refine Ev.bind hv (pos v0 (pos v1 (ret' ?_)))
  rw [rdOf_lt _ _ _ hn]
end Go.Proofs.Ytcpnekdhdmncfaa.Q
namespace Go.Proofs.Ytcpnekdhdmncfaa.Q
open Go.RowKit Go.Proofs.YtcpnekdhdmncfaaW.PrintWords Go.Proofs.YtcpnekdhdmncfaaW.PrintLast Go.Proofs.Ytcpnekdhdmncfaa.P
theorem l1Many_l0 (d : Nat) : ∀ (n : Nat) (x y : ByteArray), n ≤ d → n ≤ 1000000 → y.size + x.size * n ≤ 1000000 → ∃ s, Ev (fun k => spec_l1Many.l0 k x (n : Int) y) s ∧ s.size = y.size + x.size * n := by
  induction d with
  | zero =>
    intro n x y hn _ h
    obtain rfl : n = 0 := by omega
    exact ⟨y, Ev.step (g := fun k => spec_l1Many.l0 k _ _ _) (fun k => by rw [spec_l1Many.l0]) (neg (by omega) (ret _)), by simp⟩
  | succ d ih =>
    intro n x y hn hb h
    by_cases h0 : n = 0
    · subst h0
      exact ⟨y, Ev.step (g := fun k => spec_l1Many.l0 k _ _ _) (fun k => by rw [spec_l1Many.l0]) (neg (by omega) (ret _)), by simp⟩
    · have e1 : Int.tmod (n : Int) 2 = (n : Int) % 2 := Int.tmod_eq_emod_of_nonneg (by omega)
      have e2 : Int.tdiv (n : Int) 2 = ((n / 2 : Nat) : Int) := by rw [Int.tdiv_eq_ediv_of_nonneg (by omega)]; omega
      have hx : x.size ≤ x.size * n := Nat.le_mul_of_pos_right _ (by omega)
      have sq : (x ++ x).size = x.size + x.size := ByteArray.size_append
      have hm : x.size * n = (x.size + x.size) * (n / 2) + x.size * (n % 2) := by
        have : n = 2 * (n / 2) + n % 2 := by omega
        conv => lhs; rw [this, Nat.mul_add, ← Nat.mul_assoc, Nat.mul_two]
      rcases (show n % 2 = 1 ∨ n % 2 = 0 by omega) with ho | ho
      · have sy : (y ++ x).size = y.size + x.size := ByteArray.size_append
        rw [ho, Nat.mul_one] at hm
        obtain ⟨s, hs, hz⟩ := ih (n / 2) (x ++ x) (y ++ x) (by omega) (by omega) (by rw [sq, sy]; omega)
        rw [sq, sy] at hz
        refine ⟨s, Ev.step (g := fun k => spec_l1Many.l0 k _ _ _) (fun k => by rw [spec_l1Many.l0]) (pos (by omega) ?_), by omega⟩
        rw [e1, e2, wrap_id (by omega) (by omega)]
        exact pos (by omega) (pos (by omega) (pos (by omega) hs))
      · rw [ho, Nat.mul_zero, Nat.add_zero] at hm
        obtain ⟨s, hs, hz⟩ := ih (n / 2) (x ++ x) y (by omega) (by omega) (by rw [sq]; omega)
        rw [sq] at hz
        refine ⟨s, Ev.step (g := fun k => spec_l1Many.l0 k _ _ _) (fun k => by rw [spec_l1Many.l0]) (pos (by omega) ?_), by omega⟩
        rw [e1, e2, wrap_id (by omega) (by omega)]
        exact neg (by omega) (pos (by omega) hs)
theorem l1Many_ev (x : ByteArray) (n : Nat) (h : n ≤ 1000) (hx : x.size = 1) : ∃ s, Ev (fun k => spec_l1Many.f k x (n : Int)) s ∧ s.size = n := by
  obtain ⟨s, hs, hz⟩ := l1Many_l0 n n x (⟨#[]⟩ : ByteArray) (Nat.le_refl _) (by omega) (by rw [hx]; show 0 + 1 * n ≤ _; omega)
  refine ⟨s, hs, ?_⟩
  rw [hz, hx]
  show 0 + 1 * n = n
  omega
theorem l11Text_ev (l : List Int) (hl : Code l) (p : Int) (h0 : 0 ≤ p) (h1 : p ≤ 1000000000) : ∃ s, Ev (fun k => spec_l11Text.f k l p) (s, p + 1) ∧ s.size ≤ 40 := by
  obtain ⟨m, hm, hz⟩ := l1Many_ev (⟨#[120]⟩ : ByteArray) 40 (by omega) rfl
  obtain ⟨s, hs, hmem⟩ := of_ev l hl p (([(⟨#[]⟩ : ByteArray), (⟨#[97]⟩ : ByteArray), (⟨#[98]⟩ : ByteArray), (⟨#[99]⟩ : ByteArray), (⟨#[53]⟩ : ByteArray), (⟨#[45, 51]⟩ : ByteArray), (⟨#[104, 101, 108, 108, 111]⟩ : ByteArray), (⟨#[13, 10]⟩ : ByteArray), (⟨#[255]⟩ : ByteArray), m, (⟨#[57, 57, 57, 57, 57, 57, 57, 57, 57]⟩ : ByteArray)] : List ByteArray)) h0 h1 (by simp) (by simp)
  refine ⟨s, ?_, ?_⟩
  · unfold spec_l11Text.f
    exact Ev.bind hm (Ev.bind hs (ret _))
  · simp only [List.mem_cons, List.not_mem_nil, or_false] at hmem
    rcases hmem with rfl | rfl | rfl | rfl | rfl | rfl | rfl | rfl | rfl | rfl | rfl <;> first | decide | omega
end Go.Proofs.Ytcpnekdhdmncfaa.Q
namespace Go.Proofs.Ytcpnekdhdmncfaa.Q
open Go.RowKit Go.Proofs.YtcpnekdhdmncfaaW.PrintWords Go.Proofs.YtcpnekdhdmncfaaW.PrintLast Go.Proofs.Ytcpnekdhdmncfaa.P
def decS (n : Nat) : ByteArray := if n < 10 then strOfNums (([(wrap64 (48 + (n : Int))) % 256] : List Int)) else strOfNums (([(wrap64 (48 + ((n / 10 : Nat) : Int))) % 256] : List Int)) ++ strOfNums (([(wrap64 (48 + (Int.tmod (n : Int) 10))) % 256] : List Int))
def nT (n : Nat) : ByteArray := (⟨#[110]⟩ : ByteArray) ++ decS n
theorem one_size (x : Int) : (strOfNums [x]).size = 1 := rfl
theorem decS_size (n : Nat) : (decS n).size ≤ 2 := by
  unfold decS
  split
  · rw [one_size]; omega
  · rw [ByteArray.size_append, one_size, one_size]; omega
theorem nT_size (n : Nat) : (nT n).size ≤ 3 := by
  have := decS_size n
  unfold nT
  rw [ByteArray.size_append]
  show 1 + (decS n).size ≤ 3
  omega
theorem decS_ev (n : Nat) (h : n < 100) : Ev (fun k => spec_l1Dec.f k (n : Int)) (decS n) := by
  have small : ∀ m : Nat, m < 10 → Ev (fun k => spec_l1Dec.f k (m : Int)) (strOfNums (([(wrap64 (48 + (m : Int))) % 256] : List Int))) := fun m hm =>
    Ev.step (g := fun k => spec_l1Dec.f k _) (fun k => by rw [spec_l1Dec.f]) (neg (by omega) (neg (by omega) (pos (by omega) (ret _))))
  unfold decS
  by_cases h10 : n < 10
  · rw [if_pos h10]; exact small n h10
  · rw [if_neg h10]
    have e2 : Int.tdiv (n : Int) 10 = ((n / 10 : Nat) : Int) := by rw [Int.tdiv_eq_ediv_of_nonneg (by omega)]; omega
    refine Ev.step (g := fun k => spec_l1Dec.f k _) (fun k => by rw [spec_l1Dec.f]) (neg (by omega) (neg (by omega) (neg (by omega) ?_)))
    rw [e2, wrap_id (by omega) (by omega)]
    refine Ev.bind (small (n / 10) (by omega)) (Ev.bind (ret _) (pos ?_ (ret _)))
    rw [one_size, one_size]
    omega
theorem nT_inj (i j : Nat) (hi : i < 17) (hj : j < 17) (hn : i ≠ j) : nT i ≠ nT j := by
  have : ∀ i : Fin 17, ∀ j : Fin 17, i ≠ j → nT i.1 ≠ nT j.1 := by decide +kernel
  exact this ⟨i, hi⟩ ⟨j, hj⟩ (fun e => hn (by injection e))
theorem nT_other : ∀ s ∈ (([(⟨#[]⟩ : ByteArray), (⟨#[97]⟩ : ByteArray), (⟨#[98]⟩ : ByteArray), (⟨#[99]⟩ : ByteArray), (⟨#[53]⟩ : ByteArray), (⟨#[45, 51]⟩ : ByteArray), (⟨#[104, 101, 108, 108, 111]⟩ : ByteArray), (⟨#[13, 10]⟩ : ByteArray), (⟨#[255]⟩ : ByteArray), (⟨#[57, 57, 57, 57, 57, 57, 57, 57, 57]⟩ : ByteArray)] : List ByteArray)), ∀ k, k < 17 → s ≠ nT k := by
  have : ∀ s ∈ (([(⟨#[]⟩ : ByteArray), (⟨#[97]⟩ : ByteArray), (⟨#[98]⟩ : ByteArray), (⟨#[99]⟩ : ByteArray), (⟨#[53]⟩ : ByteArray), (⟨#[45, 51]⟩ : ByteArray), (⟨#[104, 101, 108, 108, 111]⟩ : ByteArray), (⟨#[13, 10]⟩ : ByteArray), (⟨#[255]⟩ : ByteArray), (⟨#[57, 57, 57, 57, 57, 57, 57, 57, 57]⟩ : ByteArray)] : List ByteArray)), ∀ k : Fin 17, s ≠ nT k.1 := by decide +kernel
  exact fun s hs k hk => this s hs ⟨k, hk⟩
theorem l11TextN_ev (l : List Int) (hl : Code l) (p : Int) (h0 : 0 ≤ p) (h1 : p ≤ 1000000000) : ∃ s, Ev (fun k => spec_l11Text.f k l p) (s, p + 1) ∧ s.size ≤ 40 ∧ ∀ k, k < 17 → s ≠ nT k := by
  obtain ⟨m, hm, hz⟩ := l1Many_ev (⟨#[120]⟩ : ByteArray) 40 (by omega) rfl
  obtain ⟨s, hs, hmem⟩ := of_ev l hl p (([(⟨#[]⟩ : ByteArray), (⟨#[97]⟩ : ByteArray), (⟨#[98]⟩ : ByteArray), (⟨#[99]⟩ : ByteArray), (⟨#[53]⟩ : ByteArray), (⟨#[45, 51]⟩ : ByteArray), (⟨#[104, 101, 108, 108, 111]⟩ : ByteArray), (⟨#[13, 10]⟩ : ByteArray), (⟨#[255]⟩ : ByteArray), m, (⟨#[57, 57, 57, 57, 57, 57, 57, 57, 57]⟩ : ByteArray)] : List ByteArray)) h0 h1 (by simp) (by simp)
  refine ⟨s, ?_, ?_, ?_⟩
  · unfold spec_l11Text.f
    exact Ev.bind hm (Ev.bind hs (ret _))
  · simp only [List.mem_cons, List.not_mem_nil, or_false] at hmem
    rcases hmem with rfl | rfl | rfl | rfl | rfl | rfl | rfl | rfl | rfl | rfl | rfl <;> first | decide | omega
  · intro k hk
    by_cases e : s = m
    · intro q
      have := nT_size k
      rw [← q, e] at this
      omega
    · refine nT_other s ?_ k hk
      simp only [List.mem_cons, List.not_mem_nil, or_false] at hmem ⊢
      rcases hmem with h | h | h | h | h | h | h | h | h | h | h
      all_goals first | exact absurd h e | simp [h]
end Go.Proofs.Ytcpnekdhdmncfaa.Q
namespace Go.Proofs.Ytcpnekdhdmncfaa.Q
open Go.RowKit Go.Proofs.YtcpnekdhdmncfaaW.PrintWords Go.Proofs.YtcpnekdhdmncfaaW.PrintLast Go.Proofs.Ytcpnekdhdmncfaa.P
theorem one_ev (l : List Int) (hl : Code l) (p : Int) (t : List Int) (h0 : 0 ≤ p) (h1 : p ≤ 1000000000) (ht : 0 < t.length) (ht' : t.length ≤ 1000) : ∃ s, Ev (fun k => spec_l1Rd_one.f k l p t) (s, p + 1) ∧ s ∈ t := by
  obtain ⟨v, hv, v0, v1⟩ := pick_ev l hl p t.length h0 h1 (by omega) (by omega)
  obtain ⟨n, rfl⟩ := Int.eq_ofNat_of_zero_le v0
  have hn : n < t.length := by omega
  refine ⟨t[n], ?_, List.getElem_mem hn⟩
  unfold spec_l1Rd_one.f
  refine Ev.bind hv (pos v0 (pos v1 (ret' ?_)))
  have : rd t (n : Int) = t[n] := by simp [rd, List.getD_eq_getElem?_getD, hn]
  rw [this]
end Go.Proofs.Ytcpnekdhdmncfaa.Q
namespace Go.Proofs.Ytcpnekdhdmncfaa.Q
open Go.RowKit Go.Proofs.YtcpnekdhdmncfaaW.PrintWords Go.Proofs.YtcpnekdhdmncfaaW.PrintLast Go.Proofs.Ytcpnekdhdmncfaa.P
def Free (l : List Score) (j : Nat) : Prop := scoresB l = true ∧ ∀ x ∈ l, ∀ k, j ≤ k → k < 17 → x.f0 ≠ nT k
theorem l11Scores_l1 (c : List Int) (p : Int) (d : Nat) : ∀ (x : List Score) (j : Nat), x.length + d = 16 → j + d ≤ 16 → Free x j → ∃ l, Ev (fun k => spec_l11Scores.l1 k x (j : Int) c p) (l, p) ∧ scoresB l = true := by
  induction d with
  | zero =>
    intro x j hx _ hF
    exact ⟨x, Ev.step (g := fun k => spec_l11Scores.l1 k _ _ _ _) (fun k => by rw [spec_l11Scores.l1]) (neg (by omega) (ret _)), hF.1⟩
  | succ d ih =>
    intro x j hx hj hF
    have hmod : Int.tmod (j : Int) 3 = (j : Int) % 3 := Int.tmod_eq_emod_of_nonneg (by omega)
    have hp : placeB (Int.tmod (j : Int) 3) = true := inB_iff.2 (by omega)
    obtain ⟨e, hok⟩ := scoresPutM_new (s := ⟨nT j, Int.tmod (j : Int) 3⟩) hF.1 (fun y hy => hF.2 y hy j (Nat.le_refl _) (by omega)) (by omega) (by have := nT_size j; show (nT j).size ≤ 40; omega) hp
    have hP := spec_ScoresPut_ev x (by omega) ⟨nT j, Int.tmod (j : Int) 3⟩
    obtain ⟨l, hl, hS⟩ := ih (insM ⟨nT j, Int.tmod (j : Int) 3⟩ x) (j + 1) (by rw [insM_len]; omega) (by omega) ⟨hok, fun y hy k hk hk' => by
      rcases (insM_mem _ _ _).1 hy with rfl | hy
      · exact fun q => nT_inj j k (by omega) hk' (by omega) q
      · exact hF.2 y hy k (by omega) hk'⟩
    refine ⟨l, Ev.step (g := fun k => spec_l11Scores.l1 k _ _ _ _) (fun k => by rw [spec_l11Scores.l1]) (pos (by omega) ?_), hS⟩
    have hsz := nT_size j
    refine Ev.bind (decS_ev j (by omega)) (pos ?_ (Ev.bind hP ?_))
    · have : (nT j).size = 1 + (decS j).size := by unfold nT; rw [ByteArray.size_append]; rfl
      omega
    · rw [e, wrap_id (by omega) (by omega)]
      exact hl
theorem l11Scores_l0 (c : List Int) (hc : Code c) (n : Nat) : ∀ (x : List Score) (p : Int), 0 ≤ p → p + 2 * n ≤ 10000 → x.length + n ≤ 6 → Free x 0 →
    ∃ l q, Ev (fun k => spec_l11Scores.l0 k x (n : Int) c p) (l, q) ∧ scoresB l = true ∧ p ≤ q ∧ q ≤ p + 2 * n + 1 := by
  induction n with
  | zero =>
    intro x p h0 h1 hx hF
    obtain ⟨v, hv, v0, v1⟩ := pick_ev c hc p 30 h0 (by omega) (by omega) (by omega)
    by_cases e : v = 0
    · obtain ⟨l, hl, hS⟩ := l11Scores_l1 c (p + 1) (16 - x.length) x 0 (by omega) (by omega) hF
      refine ⟨l, p + 1, Ev.step (g := fun k => spec_l11Scores.l0 k _ _ _ _) (fun k => by rw [spec_l11Scores.l0]) (neg (by omega) ?_), hS, by omega, by omega⟩
      exact Ev.bind hv (pos e hl)
    · refine ⟨x, p + 1, Ev.step (g := fun k => spec_l11Scores.l0 k _ _ _ _) (fun k => by rw [spec_l11Scores.l0]) (neg (by omega) ?_), hF.1, by omega, by omega⟩
      exact Ev.bind hv (neg e (ret _))
  | succ n ih =>
    intro x p h0 h1 hx hF
    obtain ⟨s, hs, hz, hn⟩ := l11TextN_ev c hc p h0 (by omega)
    obtain ⟨v, hv, hmem⟩ := one_ev c hc (p + 1) ([0, 1, 1, 2, (-5), 7, 1000000000] : List Int) (by omega) (by omega) (by simp) (by simp)
    have hlen := scoresPutM_len x ⟨s, v⟩
    obtain ⟨l, q, hl, hS, q0, q1⟩ := ih (scoresPutM x ⟨s, v⟩).1 (p + 1 + 1) (by omega) (by omega) (by omega) ⟨scoresPutM_ok _ hF.1, fun y hy k hk hk' => by
      rcases scoresPutM_mem hy with rfl | hy
      · exact hn k hk'
      · exact hF.2 y hy k hk hk'⟩
    refine ⟨l, q, Ev.step (g := fun k => spec_l11Scores.l0 k _ _ _ _) (fun k => by rw [spec_l11Scores.l0]) (pos (by omega) ?_), hS, by omega, by omega⟩
    refine Ev.bind hs (Ev.bind hv ?_)
    refine Ev.bind (spec_ScoresPut_ev x (by omega) ⟨s, v⟩) ?_
    rw [show wrap64 (((n + 1 : Nat) : Int) - 1) = (n : Int) by rw [wrap_id (by omega) (by omega)]; omega]
    exact hl
theorem l11AnyScores_ev (c : List Int) (hc : Code c) (p : Int) (h0 : 0 ≤ p) (h1 : p ≤ 1000) : ∃ l q, Ev (fun k => spec_l11AnyScores.f k c p) (l, q) ∧ l.length ≤ 17 ∧ p ≤ q ∧ q ≤ p + 30 := by
  obtain ⟨v, hv, v0, v1⟩ := pick_ev c hc p 7 h0 (by omega) (by omega) (by omega)
  obtain ⟨n, rfl⟩ := Int.eq_ofNat_of_zero_le v0
  have hnil : scoresB ([] : List Score) = true := (scoresB_iff _).2 ⟨by simp, by simp, by simp, by simp⟩
  obtain ⟨l, q, hl, hS, q0, q1⟩ := l11Scores_l0 c hc n [] (p + 1) (by omega) (by omega) (by simp; omega) ⟨hnil, by simp⟩
  have h16 := scoresB_len hS
  have hL : Ev (fun k => spec_l11Scores.f k c p) (l, q) := by
    unfold spec_l11Scores.f
    exact Ev.bind hv hl
  obtain ⟨u, hu, u0, u1⟩ := pick_ev c hc q 10 (by omega) (by omega) (by omega) (by omega)
  obtain ⟨s, hs, z⟩ := l11Text_ev c hc (q + 1) (by omega) (by omega)
  obtain ⟨w, hw, hmem⟩ := one_ev c hc (q + 1 + 1) ([0, 1000000001] : List Int) (by omega) (by omega) (by simp) (by simp)
  unfold spec_l11AnyScores.f
  by_cases e : u = 0
  · refine ⟨l ++ [⟨s, w⟩], q + 1 + 1 + 1, Ev.bind hL (Ev.bind hu (pos e ?_)), by simp; omega, by omega, by omega⟩
    refine Ev.bind hs (Ev.bind hw (pos (by dsimp only; omega) (ret _)))
  · exact ⟨l, q + 1, Ev.bind hL (Ev.bind hu (neg e (ret _))), by omega, by omega, by omega⟩
theorem qxScores_l0 (l : List Score) (hl : l.length ≤ maxLen) (d : Nat) : ∀ (i : Nat), i + d = l.length → Ev (fun k => laws_qxScores.l0 k l l (i : Int)) true := by
  unfold maxLen at hl
  induction d with
  | zero =>
    intro i hi
    exact Ev.step (g := fun k => laws_qxScores.l0 k _ _ _) (fun k => by rw [laws_qxScores.l0]) (neg (by omega) (ret _))
  | succ d ih =>
    intro i hi
    refine Ev.step (g := fun k => laws_qxScores.l0 k _ _ _) (fun k => by rw [laws_qxScores.l0]) (pos (by omega) (pos (by omega) (pos (by omega) (neg (by simp) ?_))))
    rw [wrap_id (by omega) (by omega)]
    exact ih (i + 1) (by omega)
theorem qxScores_same (l : List Score) (hl : l.length ≤ maxLen) : Ev (fun k => laws_qxScores.f k l l) true := by
  unfold laws_qxScores.f
  exact pos rfl (qxScores_l0 l hl l.length 0 (by omega))
end Go.Proofs.Ytcpnekdhdmncfaa.Q
namespace Go.Proofs.Ytcpnekdhdmncfaa.Q
open Go.RowKit Go.Proofs.YtcpnekdhdmncfaaW.PrintWords Go.Proofs.YtcpnekdhdmncfaaW.PrintLast Go.Proofs.Ytcpnekdhdmncfaa.P
theorem insM_perm (s : Score) (l : List Score) : (insM s l).Perm (s :: l) := by
  induction l with
  | nil => exact List.Perm.refl _
  | cons x r ih =>
    rw [insM]
    split
    · exact (ih.cons x).trans (List.Perm.swap s x r)
    · exact List.Perm.refl _
theorem set_perm (s : Score) (l : List Score) : ∀ (i : Nat), l.Pairwise (fun a b => a.f0 ≠ b.f0) → (h : i < l.length) → l[i].f0 = s.f0 → (l.set i s).Perm (s :: withoutM l s.f0) := by
  induction l with
  | nil => intro i _ h; simp at h
  | cons x r ih =>
    intro i hp h he
    obtain ⟨h1, h2⟩ := List.pairwise_cons.1 hp
    cases i with
    | zero =>
      rw [List.getElem_cons_zero] at he
      rw [List.set_cons_zero, withoutM_cons, if_pos he, withoutM_all (fun y hy e => h1 y hy (by rw [he, e]))]
    | succ i =>
      rw [List.getElem_cons_succ] at he
      have hi : i < r.length := by simpa using h
      have hne : ¬ x.f0 = s.f0 := fun e => h1 r[i] (List.getElem_mem hi) (by rw [e, he])
      rw [List.set_cons_succ, withoutM_cons, if_neg hne]
      exact ((ih i h2 hi he).cons x).trans (List.Perm.swap s x _)
theorem sortS_ev {l m : List Score} (hp : l.Perm m) (hm : m.Pairwise fun a b => ahd a b = true) (hd : m.Pairwise fun a b => a.f0 ≠ b.f0) (hn : l ≠ []) (hl : l.length ≤ 1048576) : slices_SortFunc_impl_Score_impl_Score.f l = some m := by
  have hdl : l.Pairwise fun a b => a.f0 ≠ b.f0 := hp.symm.pairwise hd (fun h => h.symm)
  unfold slices_SortFunc_impl_Score_impl_Score.f
  rw [if_pos ⟨hn, hdl, by omega⟩]
  congr 1
  unfold slices_SortFunc_impl_Score_impl_Score.sorted
  have hO := slices_SortFunc_impl_Score_impl_Score.swo
  refine List.Perm.eq_of_pairwise (le := fun x y => (!slices_SortFunc_impl_Score_impl_Score.lt y x) = true) (fun a b ha hb h h' => ?_) (List.pairwise_mergeSort (fun a b c h h' => ?_) (fun a b => ?_) l) (hm.imp fun {a b} h => ?_) ((List.mergeSort_perm l _).trans hp)
  · simp only [Bool.not_eq_true'] at h h'
    exact slices_SortFunc_impl_Score_impl_Score.uniq hd a (hp.mem_iff.1 ((List.mergeSort_perm l _).mem_iff.1 ha)) b hb (slices_SortFunc_impl_Score_impl_Score.lt_eq h' h)
  · simp only [Bool.not_eq_true'] at h h' ⊢
    exact hO.ntrans c b a h' h
  · cases h : slices_SortFunc_impl_Score_impl_Score.lt b a with
    | false => rfl
    | true =>
      cases h' : slices_SortFunc_impl_Score_impl_Score.lt a b with
      | false => rfl
      | true => have := hO.trans _ _ _ h h'; rw [hO.irrefl] at this; cases this
  · have : slices_SortFunc_impl_Score_impl_Score.lt b a = false := by
      cases h' : slices_SortFunc_impl_Score_impl_Score.lt b a with
      | false => rfl
      | true => have := ahd_trans h (show ahd b a = true from h'); rw [ahd_irrefl] at this; cases this
    rw [this]
    rfl
theorem impl_ScoresPut_ev (l : List Score) (hl : l.length ≤ 1048576) (s : Score) : Ev (fun k => impl_ScoresPut.f k l s.f0 s.f1) (scoresPutM l s) := by
  unfold impl_ScoresPut.f scoresPutM
  refine Ev.bind (impl_ScoresOk_ev l (by unfold maxLen; omega)) ?_
  cases hS : scoresB l with
  | false => exact neg (by decide) (ret' (by simp))
  | true =>
    have h16 := scoresB_len hS
    obtain ⟨_, h2, h3, _⟩ := (scoresB_iff l).1 hS
    have hC := copiedScores_ev l hl
    refine pos rfl (Ev.bind hC (Ev.bind (val rfl) ?_))
    rw [if_pos rfl]
    have hw := withoutM_len l s.f0
    have hil := insM_len s (withoutM l s.f0)
    have hne : ∀ x ∈ withoutM l s.f0, x.f0 ≠ s.f0 := fun x hx => (without_mem hx).2
    have hasc := insM_asc s _ (h2.filter _ : (withoutM l s.f0).Pairwise _) hne
    have hap := insM_apart s _ (h3.filter _ : (withoutM l s.f0).Pairwise _) hne
    have hK := impl_ScoresOk_ev (insM s (withoutM l s.f0)) (by unfold maxLen; omega)
    have hC2 := copiedScores_ev (insM s (withoutM l s.f0)) (by omega)
    have fin : ∀ (m : List Score) (a : Int), m.Perm (s :: withoutM l s.f0) → m ≠ [] → (decide (a < 0)) = (((withoutM l s.f0).length : Int) == (l.length : Int)) → Ev (fun k => impl_ScoresPut.j0 k l m a) (if scoresB (insM s (withoutM l s.f0)) = true then (insM s (withoutM l s.f0), (((withoutM l s.f0).length : Int) == (l.length : Int)), true) else (l, false, false)) := by
      intro m a hm hn ha
      have hml := hm.length_eq
      rw [List.length_cons] at hml
      refine Ev.step (g := fun k => impl_ScoresPut.j0 k _ _ _) (fun k => by rw [impl_ScoresPut.j0]) (Ev.bind (val (sortS_ev (hm.trans (insM_perm s _).symm) hasc hap hn (by omega))) (Ev.bind hK ?_))
      cases hb : scoresB (insM s (withoutM l s.f0)) with
      | true => exact pos rfl (Ev.bind hC2 (ret' (by rw [ha]; rfl)))
      | false => exact neg (by decide) (Ev.bind hC (ret' (by simp)))
    rcases without_from s.f0 l 0 h3 with ⟨a, b⟩ | ⟨j, a, b, c⟩
    · rw [a]
      refine neg (by omega) (pos (by omega) ?_)
      refine fin _ _ ?_ (by simp) (by rw [b]; simp)
      rw [b]
      exact List.perm_append_singleton _ _
    · rw [Nat.zero_add] at a
      have hat := (from_iff s.f0 l 0 j).1 (by rw [a, Nat.zero_add])
      obtain ⟨_, e1, _⟩ := hat
      have hlen := List.length_eraseIdx_of_lt b
      rw [a]
      refine pos (by omega) (pos (by omega) (pos (by omega) ?_))
      rw [Int.toNat_natCast]
      refine fin _ _ (set_perm s l j h3 b e1) (fun e => by rw [List.set_eq_nil_iff] at e; rw [e] at b; simp at b) ?_
      rw [decide_eq_false (by omega), eq_comm, beq_eq_false_iff_ne, c]
      omega
end Go.Proofs.Ytcpnekdhdmncfaa.Q
namespace Go.Proofs.Ytcpnekdhdmncfaa.Q
open Go.RowKit Go.Proofs.YtcpnekdhdmncfaaW.PrintWords Go.Proofs.YtcpnekdhdmncfaaW.PrintLast Go.Proofs.Ytcpnekdhdmncfaa.P
theorem DrawScoresPut_ev (l : List Int) (hl : l.length ≤ maxLen) (hb : ∀ x ∈ l, (Lit.int .u8 x).wf = true) : ∃ m a b, Ev (fun k => spec_DrawScoresPut.f k l) (m, a, b) ∧ m.length ≤ 17 := by
  obtain ⟨c, hc, hC⟩ := l1Open_ev l hl hb
  obtain ⟨m, p, hm, h17, a1, a2⟩ := l11AnyScores_ev c hC 0 (by omega) (by omega)
  obtain ⟨s1, hs1, z1⟩ := l11Text_ev c hC p (by omega) (by omega)
  obtain ⟨s2, hs2, z2⟩ := l11Text_ev c hC (p + 1) (by omega) (by omega)
  obtain ⟨y, hy, hz⟩ := l1Many_ev (⟨#[121]⟩ : ByteArray) 41 (by omega) rfl
  obtain ⟨a, ha, _⟩ := of_ev c hC (p + 1 + 1) ([s1, s2, y] : List ByteArray) (by omega) (by omega) (by simp) (by simp)
  obtain ⟨b, hb', _⟩ := one_ev c hC (p + 1 + 1 + 1) ([0, 1, 3, (-9), 1000000000, 1000000001] : List Int) (by omega) (by omega) (by simp) (by simp)
  refine ⟨m, a, b, ?_, h17⟩
  unfold spec_DrawScoresPut.f
  exact Ev.bind hc (Ev.bind hm (Ev.bind hs1 (Ev.bind hs2 (Ev.bind hy (Ev.bind ha (Ev.bind hb' (ret _)))))))
theorem without_ins (s : Score) (l : List Score) (h : ∀ x ∈ l, x.f0 ≠ s.f0) : withoutM (insM s l) s.f0 = l := by
  induction l with
  | nil => simp [insM, withoutM]
  | cons x r ih =>
    have hx := h x (by simp)
    rw [insM]
    split
    · rw [withoutM_cons, if_neg hx, ih (fun y hy => h y (by simp [hy]))]
    · rw [withoutM_cons, if_pos rfl, withoutM_all h]
theorem rank_ins (s : Score) (l : List Score) (h : ∀ x ∈ l, x.f0 ≠ s.f0) (hd : (insM s l).Pairwise (fun a b => a.f0 ≠ b.f0)) : ∃ j : Nat, impl_scoreAt.from s.f0 (insM s l) 0 = (j : Int) ∧ ∃ hj : j < (insM s l).length, (insM s l)[j] = s := by
  rcases without_from s.f0 (insM s l) 0 hd with ⟨_, b⟩ | ⟨j, a, b, _⟩
  · have h1 := congrArg List.length b
    rw [without_ins s l h, insM_len] at h1
    omega
  · rw [Nat.zero_add] at a
    obtain ⟨_, e1, _⟩ := (from_iff s.f0 (insM s l) 0 j).1 (by rw [a, Nat.zero_add])
    refine ⟨j, a, b, ?_⟩
    rcases (insM_mem s l _).1 (List.getElem_mem b) with e | e
    · exact e
    · exact absurd e1 (h _ e)
theorem FnScoresPut_pure (l : List Int) (hl : l.length ≤ maxLen) (hb : ∀ x ∈ l, (Lit.int .u8 x).wf = true) : ∃ k, laws_FnScoresPut.f k l = some true := by
  refine exists_of (r := true) ?_
  unfold laws_FnScoresPut.f
  refine both (fun _ => ret _) (fun _ => ?_)
  obtain ⟨m, a, b, hD, h17⟩ := DrawScoresPut_ev l hl hb
  have hm : m.length ≤ maxLen := by unfold maxLen; omega
  have hI := impl_ScoresPut_ev m (by omega) ⟨a, b⟩
  have hW := spec_ScoresPut_ev m (by omega) ⟨a, b⟩
  have hlen := scoresPutM_len m ⟨a, b⟩
  have hX := qxScores_same (scoresPutM m ⟨a, b⟩).1 (by unfold maxLen; omega)
  have hK := impl_ScoresOk_ev m hm
  have hK2 := spec_ScoresOk_ev m hm
  refine Ev.bind hD (Ev.bind hI (Ev.bind hW (neg (by simp) (neg (by simp) (Ev.bind hX (pos rfl (Ev.bind hK (Ev.bind hK2 (neg (by simp) ?_)))))))))
  refine Ev.step (g := fun k => laws_FnScoresPut.j0 k _ _ _ _ _ _ _ _ _ _) (fun k => by rw [laws_FnScoresPut.j0]) ?_
  dsimp only
  cases hb2 : (scoresPutM m ⟨a, b⟩).2.2 with
  | false => exact pos rfl (pos (by simp) (pos (by simp) (Ev.bind hX (pos rfl (Ev.bind hK (Ev.bind hK2 (ret' (by simp))))))))
  | true =>
    have hk : (scoresB m = true ∧ scoresB (insM ⟨a, b⟩ (withoutM m a)) = true) ∧ scoresPutM m ⟨a, b⟩ = (insM ⟨a, b⟩ (withoutM m a), (((withoutM m a).length : Int) == (m.length : Int)), true) := by
      unfold scoresPutM at hb2 ⊢
      split at hb2
      · rename_i h1
        split at hb2
        · rename_i h2
          rw [if_pos h1, if_pos h2]
          exact ⟨⟨h1, h2⟩, rfl⟩
        · cases hb2
      · cases hb2
    obtain ⟨⟨k1, k2⟩, k3⟩ := hk
    rw [k3]
    have hwl := withoutM_len m a
    have hil := insM_len ⟨a, b⟩ (withoutM m a)
    have hne : ∀ x ∈ withoutM m a, x.f0 ≠ (⟨a, b⟩ : Score).f0 := fun x hx => (without_mem hx).2
    have hi : (insM ⟨a, b⟩ (withoutM m a)).length ≤ maxLen := by unfold maxLen; omega
    have g1 := impl_ScoresRank_ev (insM ⟨a, b⟩ (withoutM m a)) hi a
    have g2 := impl_ScoresRank_ev m hm a
    have d1 := impl_ScoresDrop_ev (insM ⟨a, b⟩ (withoutM m a)) (by omega) a
    have d2 := impl_ScoresDrop_ev m (by omega) a
    have o1 := impl_ScoresOk_ev (insM ⟨a, b⟩ (withoutM m a)) hi
    obtain ⟨j, r1, hj, r2⟩ := rank_ins ⟨a, b⟩ (withoutM m a) hne (scoresB_apart k2)
    have e1 : rankM (insM ⟨a, b⟩ (withoutM m a)) a = (j : Int) := by unfold rankM; rw [if_pos k2]; exact r1
    have e2 : rankM m a = impl_scoreAt.from a m 0 := by unfold rankM; rw [if_pos k1]
    have e3 : scoresDropM (insM ⟨a, b⟩ (withoutM m a)) a = (withoutM m a, true) := by
      unfold scoresDropM
      rw [if_pos k2, without_ins ⟨a, b⟩ (withoutM m a) hne, decide_eq_true (by omega)]
    have e4 : (scoresDropM m a).1 = withoutM m a := by unfold scoresDropM; rw [if_pos k1]
    have e5 : ((((withoutM m a).length : Int) == (m.length : Int)) == decide (impl_scoreAt.from a m 0 < 0)) = true := by
      rcases without_from a m 0 (scoresB_apart k1) with ⟨q, w⟩ | ⟨i, q, w, c⟩
      · rw [q, w]; simp
      · have h1 := List.length_eraseIdx_of_lt w
        rw [q, c, decide_eq_false (by omega)]
        simp; omega
    have hX2 := qxScores_same (withoutM m a) (by unfold maxLen; omega)
    rw [e1] at g1
    rw [e2] at g2
    rw [e3] at d1
    rw [k2] at o1
    refine neg (by decide) (Ev.bind g1 (Ev.bind d1 (Ev.bind d2 (Ev.bind o1 (pos rfl ?_)))))
    dsimp only
    refine pos (by omega) (pos (by omega) (pos (by omega) (pos ?_ (Ev.bind g2 (pos e5 (pos rfl ?_))))))
    · rw [rdScore_lt _ _ hj, r2]; simp
    · rw [e4]
      exact Ev.bind hX2 (ret _)
end Go.Proofs.Ytcpnekdhdmncfaa.Q
