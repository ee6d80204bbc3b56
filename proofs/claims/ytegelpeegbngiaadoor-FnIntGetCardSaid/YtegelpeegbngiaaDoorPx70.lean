-- Written by wip/px.py of this session, over the kit's print.py. Not trusted: Lean checks it.
import Derived.Test.YtegelpeegbngiaaDoorPx0
import Derived.Test.YtegelpeegbngiaaDoorPx1
namespace Go.Proofs.YtegelpeegbngiaaDoor.P
open Go.RowKit Go.Proofs.YtegelpeegbngiaaDoorW.PrintWords Go.Proofs.YtegelpeegbngiaaDoorW.PrintLast Go.Proofs.YtegelpeegbngiaaDoorW.PrintMore
attribute [local go_sem] max2_int min2_int max_two min_two max_three min_three max_four min_four   -- for this text's walks alone
set_option linter.unusedVariables false
set_option linter.unusedSimpArgs false

/-! ### impl_IntGet: the walk -/
set_option maxHeartbeats 8000000 in
set_option maxRecDepth 100000 in
theorem impl_IntGet.calls (a0 : ByteArray) (r1 : Int) (r2 : Bool) (w : World) (hT0 : X.Tabs w) (h : impl_IntGet.f a0 = some (r1, r2)) :
    Calls Tryd.prog 20 #[.string a0] w fun e w' => e = .returned (.tuple #[.int .i64 r1, .bool r2]) ∧ Below w.heap.size w w' := by
  unfold impl_IntGet.f at h
  split at h
  case isFalse => cases h
  case isTrue hsz =>
  cases ha : Go.Lib.atoiAll a0.data.toList with
  | «syntax» =>
    rw [ha] at h
    obtain ⟨rfl, rfl⟩ := Prod.mk.inj (Option.some.inj h)
    obtain ⟨ev, hv, hev⟩ := hT0.2.1
    have HA := Aside0.mk (Tryd.strconv_Atoi_syntax a0 hsz ha ev w hv hev)
    clear hv hev h ha hsz hT0
    go_enter Tryd.func20, Tryd.ntmps20
    go_wp2_with (first | ((with_reducible refine gate_callee (f := 37) rfl ?_); refine goesL_ (some 8) rfl rfl Tryd.func37 (by kernel_rfl) rfl #[.string a0] rfl (by (try simp only [List.map_toArray, List.map_cons, List.map_nil]); first | done | rfl) ?_; (refine HA.out.mono ?_); rintro e w7 ⟨NN, rfl, h1, h2, HB⟩; refine ⟨_, rfl, ?_⟩; clear h1 h2))
    go_ret2
    exact ⟨rfl, HB⟩
  | range =>
    rw [ha] at h
    obtain ⟨rfl, rfl⟩ := Prod.mk.inj (Option.some.inj h)
    obtain ⟨ev, hv, hev⟩ := hT0.2.2
    have HA := Aside0.mk (Tryd.strconv_Atoi_range a0 hsz ha ev w hv hev)
    generalize Go.Lib.atoiSat a0.data.toList = sat at HA
    clear hv hev h ha hsz hT0
    go_enter Tryd.func20, Tryd.ntmps20
    go_wp2_with (first | ((with_reducible refine gate_callee (f := 37) rfl ?_); refine goesL_ (some 8) rfl rfl Tryd.func37 (by kernel_rfl) rfl #[.string a0] rfl (by (try simp only [List.map_toArray, List.map_cons, List.map_nil]); first | done | rfl) ?_; (refine HA.out.mono ?_); rintro e w7 ⟨NN, rfl, h1, h2, HB⟩; refine ⟨_, rfl, ?_⟩; clear h1 h2))
    go_ret2
    exact ⟨rfl, HB⟩
  | ok v =>
    rw [ha] at h
    replace h := Option.some.inj h
    obtain ⟨vb0, vb1⟩ := Go.Lib.atoiAll_bounds ha
    have HA := Aside0.mk (Tryd.strconv_Atoi_ok a0 (by omega) v ha w)
    have hall : ∀ w1, (w1 = w ∨ ∃ t, w1 = Go.Lib.bytesWorld w 5 t) → Below w.heap.size w w1 := by
      rintro w1 (rfl | ⟨t, rfl⟩)
      · exact Below.refl _ _
      · exact ⟨rfl, rfl, rfl, by rw [Go.Lib.bytesWorld_size]; omega, fun k hk => Go.Lib.bytesWorld_at_old w 5 t k hk⟩
    have hall := Aside0.mk hall
    by_cases hb : -1000000000 ≤ v ∧ v ≤ 1000000000
    · obtain ⟨q0, q1⟩ := hb
      have c0 : (decide (-1000000000 ≤ v) && decide (v ≤ 1000000000)) = true := by rw [decide_eq_true q0, decide_eq_true q1]; rfl
      have HI : ∀ w1, Below w.heap.size w w1 → Calls Tryd.prog 25 #[.int .i64 v] w1 fun e w' => e = .returned (.string ⟨(Go.Lib.itoa v).toArray⟩) ∧ Below w.heap.size w w' := by
        intro w1 hB
        refine (Tryd.strconv_Itoa v (by omega) (by omega) w1 (hT0.1.keep hB)).mono ?_
        rintro e w' ⟨rfl, k, os, rfl⟩
        exact ⟨rfl, hB.trans ((X.below_grow w1 k os).mono hB.size)⟩
      have HI := Aside0.mk HI
      cases c1 : (Go.Lib.itoa v == a0.toList) with
      | true =>
        rw [if_pos ⟨⟨q0, q1⟩, c1⟩] at h
        obtain ⟨rfl, rfl⟩ := Prod.mk.inj h
        clear h ha hsz hT0 q0 q1 vb0 vb1
        go_enter Tryd.func20, Tryd.ntmps20
        go_wp2_with (first | ((with_reducible refine gate_callee (f := 37) rfl ?_); refine goesL_ (some 8) rfl rfl Tryd.func37 (by kernel_rfl) rfl #[.string a0] rfl (by (try simp only [List.map_toArray, List.map_cons, List.map_nil]); first | done | rfl) ?_; (refine HA.out.mono ?_); rintro e w7 ⟨rfl, hW⟩; refine ⟨_, rfl, ?_⟩; have HB := Aside0.mk (hall.out w7 hW); clear hW))
        refine (impl_IntGet.within _ _ _ _).mono ?_
        rintro e w' ⟨rfl, ⟨nd, rfl⟩⟩
        rw [c0]
        have HB2 := Aside0.mk (show Below w.heap.size w (w7.drewN nd) from by repeat (first | exact HB.out | apply pw_below_drewN))
        generalize w7.drewN nd = w8 at HB2 ⊢
        clear HB
        go_wp2_with (go_at_fn 25; fail)
        refine (HI.out _ HB2.out).mono ?_
        rintro e w9 ⟨rfl, HB3⟩
        have HB3 := Aside0.mk HB3
        clear HI hall HA HB2
        go_wp2
        go_ret2
        exact ⟨rfl, HB3.out⟩
      | false =>
        rw [if_neg (fun x => by rw [c1] at x; exact absurd x.2 (by decide))] at h
        obtain ⟨rfl, rfl⟩ := Prod.mk.inj h
        clear h ha hsz hT0 q0 q1 vb0 vb1
        go_enter Tryd.func20, Tryd.ntmps20
        go_wp2_with (first | ((with_reducible refine gate_callee (f := 37) rfl ?_); refine goesL_ (some 8) rfl rfl Tryd.func37 (by kernel_rfl) rfl #[.string a0] rfl (by (try simp only [List.map_toArray, List.map_cons, List.map_nil]); first | done | rfl) ?_; (refine HA.out.mono ?_); rintro e w7 ⟨rfl, hW⟩; refine ⟨_, rfl, ?_⟩; have HB := Aside0.mk (hall.out w7 hW); clear hW))
        refine (impl_IntGet.within _ _ _ _).mono ?_
        rintro e w' ⟨rfl, ⟨nd, rfl⟩⟩
        rw [c0]
        have HB2 := Aside0.mk (show Below w.heap.size w (w7.drewN nd) from by repeat (first | exact HB.out | apply pw_below_drewN))
        generalize w7.drewN nd = w8 at HB2 ⊢
        clear HB
        go_wp2_with (go_at_fn 25; fail)
        refine (HI.out _ HB2.out).mono ?_
        rintro e w9 ⟨rfl, HB3⟩
        have HB3 := Aside0.mk HB3
        clear HI hall HA HB2
        go_wp2
        go_ret2
        exact ⟨rfl, HB3.out⟩
    · rw [if_neg (fun x => hb x.1)] at h
      have c0 : (decide (-1000000000 ≤ v) && decide (v ≤ 1000000000)) = false := by
        rw [Bool.eq_false_iff]
        intro x
        rw [Bool.and_eq_true, decide_eq_true_eq, decide_eq_true_eq] at x
        exact hb x
      obtain ⟨rfl, rfl⟩ := Prod.mk.inj h
      clear h ha hsz hT0 hb vb0 vb1
      go_enter Tryd.func20, Tryd.ntmps20
      go_wp2_with (first | ((with_reducible refine gate_callee (f := 37) rfl ?_); refine goesL_ (some 8) rfl rfl Tryd.func37 (by kernel_rfl) rfl #[.string a0] rfl (by (try simp only [List.map_toArray, List.map_cons, List.map_nil]); first | done | rfl) ?_; (refine HA.out.mono ?_); rintro e w7 ⟨rfl, hW⟩; refine ⟨_, rfl, ?_⟩; have HB := Aside0.mk (hall.out w7 hW); clear hW))
      refine (impl_IntGet.within _ _ _ _).mono ?_
      rintro e w' ⟨rfl, ⟨nd, rfl⟩⟩
      rw [c0]
      have HB2 := Aside0.mk (show Below w.heap.size w (w7.drewN nd) from by repeat (first | exact HB.out | apply pw_below_drewN))
      generalize w7.drewN nd = w8 at HB2 ⊢
      clear HB
      go_wp2
      go_ret2
      exact ⟨rfl, HB2.out⟩


end Go.Proofs.YtegelpeegbngiaaDoor.P
