-- Written by wip/px.py of this session, over the kit's print.py. Not trusted: Lean checks it.
import Derived.Test.YthdbjegppeekoaaPx0
import Derived.Test.YthdbjegppeekoaaPx1
import Derived.Test.YthdbjegppeekoaaPx6
import Derived.Test.YthdbjegppeekoaaPx8
namespace Go.Proofs.Ythdbjegppeekoaa.P
open Go.RowKit Go.Proofs.YthdbjegppeekoaaW.PrintWords Go.Proofs.YthdbjegppeekoaaW.PrintLast Go.Proofs.YthdbjegppeekoaaW.PrintMore
attribute [local go_sem] max2_int min2_int max_two min_two max_three min_three max_four min_four   -- for this text's walks alone
set_option linter.unusedVariables false
set_option linter.unusedSimpArgs false

/-! ### impl_OrderGet: the walk -/
set_option maxHeartbeats 8000000 in
set_option maxRecDepth 100000 in
theorem impl_OrderGet.calls (k : Nat) (a0 : ByteArray) (r1 : List ByteArray) (r2 : Int) (w : World) (h : impl_OrderGet.f k a0 = some (r1, r2)) :
    Calls Try.prog 5 #[.string a0] w fun e w' => ∃ v0_ : Value, e = .returned (.tuple #[v0_, .int .i64 r2]) ∧ Kd.R Kd.string 9 w' w.heap.size (fun _ => True) v0_ r1 ∧ Below w.heap.size w w' := by
  have HL := Aside0.mk (Nat.le_refl w.heap.size)
  have HW0 := Aside0.mk (Nat.le_refl w.heap.size)
  have HB := Aside0.mk (Below.refl w.heap.size w)
  have H : ((impl_wire_number.f k a0 0 false false 42 1 8).bind fun bt150 => (impl_OrderGet.l0 k a0 bt150.1 (([] : List ByteArray)) 0 bt150.2.1 bt150.2.2.1 bt150.2.2.2.1 bt150.2.2.2.2)) = some (r1, r2) := h
  clear h
  replace H := Option.bind_eq_some_iff.mp H
  obtain ⟨⟨t150, t151, t152, t153, t154⟩, A30, H⟩ := H
  replace H : (impl_OrderGet.l0 k a0 t150 (([] : List ByteArray)) 0 t151 t152 t153 t154) = some (r1, r2) := H
  have A3 := Aside0.mk A30
  clear A30
  obtain ⟨y155, hy155⟩ : ∃ y_ : List ByteArray, y_ = (([] : List ByteArray)) := ⟨_, rfl⟩
  replace H : (impl_OrderGet.l0 k a0 t150 y155 0 t151 t152 t153 t154) = some (r1, r2) := by first | (rw [hy155]; with_reducible exact H) | (have H2_ := (Option.bind_some _ _).symm.trans H; rw [hy155]; with_reducible exact H2_) | (have H2_ := (Option.bind_some _ _).symm.trans H; with_reducible exact H2_) | with_reducible exact H | (rw [hy155]; exact H) | exact H
  have Ny155 := Aside0.mk hy155
  clear hy155
  have HC4 := Aside0.mk H
  clear H
  go_enter Try.func5, Try.ntmps5
  go_upto_block 0 with (first | ((with_reducible refine gate_dst (N := 11) rfl ?_); refine bx 11 #[.string a0, .int .i64 0, .bool false, .bool false] 32 ?_; intro g hg_ w1 hbox hb; have HI1 := Aside0.mk (show IsS32 w w1 g a0 0 false false from ⟨hbox, by first | exact Nat.le_of_eq hg_.symm | (rw [hg_]; exact (b0 HB).size) | (rw [hg_]; exact HB.out.size)⟩); have HK := Aside0.mk (KeepBut.of_below hb g none); have n1_ := Aside0.mk (below_step HB.out hb); clear HB; have HB := n1_; clear n1_; clear hg_ hbox hb) | (go_at_call 10; (with_reducible refine (impl_wire_number.calls k g a0 0 false false 42 1 8 t150 t151 t152 t153 t154 w _ ?side1 ?side2 A3.out).mono ?_); (case side1 => repeat (first | (with_reducible first | exact HI1.out | apply IsS32.alloc | apply IsS32.drewN | apply IsS32.drew | apply IsS32.set_0 | apply IsS32.set_1 | apply IsS32.set_2 | apply IsS32.set_3) | exact HI1.out)); (case side2 => exact b1 HB (Aside0.mk (IsS32.ge HI1.out))); rintro e w5 ⟨rfl, hi, hb, hk⟩; have n0_ := Aside0.mk (KeepBut.trans (by exact kz HK) hk (.inl rfl)); have n1_ := Aside0.mk (hb); have n2_ := Aside0.mk (hi); clear HK; clear HB; clear HI1; have HK := n0_; have HB := n1_; have HI1 := n2_; clear n0_ n1_ n2_; (try clear hb); (try clear hb2); (try clear hk); (try clear hi)) | ((with_reducible refine gate_dst (N := 14) rfl ?_); refine Kd.R_lit Kd.string _ 9 ?hg (N := 14) ?hd (xs := ([] : List ByteArray)) (inner := []) (ok := fun _ => True) (okp := fun _ => True) ?hr ?hp (fun _ hk => hk) trivial (Below.refl _ _) (Nat.le_refl _) (by simp) ?_; (case hd => rfl); (case hg => rfl); (case hr => first | (go_simp; done) | (go_simp; rfl)); (case hp => exact (Reps.none _ _)); intro v156 w6 ho7 hb hg_ hnew_; clear hg_ hnew_; (first | rw [← Ny155.out] at ho7 | (simp only [Int.reduceToNat] at ho7; rw [← Ny155.out] at ho7)); have n0_ := Aside0.mk (Kd.R_lower ho7 (keep_size (w := w) (g := g) (row := none) (by exact kz HK))); have n1_ := Aside0.mk (IsS32.below (by repeat (first | (with_reducible first | exact HI1.out | apply IsS32.alloc | apply IsS32.drewN | apply IsS32.drew | apply IsS32.set_0 | apply IsS32.set_1 | apply IsS32.set_2 | apply IsS32.set_3) | exact HI1.out)) hb); have n2_ := Aside0.mk (KeepBut.trans (by exact kz HK) (KeepBut.of_below hb g none) (.inl rfl)); have n3_ := Aside0.mk (below_step (by exact b1 HB (Aside0.mk (IsS32.ge HI1.out))) hb); clear HI1; clear HK; clear HB; have HO157 := n0_; have HI1 := n1_; have HK := n2_; have HB := n3_; clear n0_ n1_ n2_ n3_; clear hb ho7))
  repeat (go_quiet (first | ((with_reducible refine gate_dst (N := 11) rfl ?_); refine bx 11 #[.string a0, .int .i64 0, .bool false, .bool false] 32 ?_; intro g hg_ w1 hbox hb; have HI1 := Aside0.mk (show IsS32 w w1 g a0 0 false false from ⟨hbox, by first | exact Nat.le_of_eq hg_.symm | (rw [hg_]; exact (b0 HB).size) | (rw [hg_]; exact HB.out.size)⟩); have HK := Aside0.mk (KeepBut.of_below hb g none); have n1_ := Aside0.mk (below_step HB.out hb); clear HB; have HB := n1_; clear n1_; clear hg_ hbox hb) | (go_at_call 10; (with_reducible refine (impl_wire_number.calls k g a0 0 false false 42 1 8 t150 t151 t152 t153 t154 w _ ?side1 ?side2 A3.out).mono ?_); (case side1 => repeat (first | (with_reducible first | exact HI1.out | apply IsS32.alloc | apply IsS32.drewN | apply IsS32.drew | apply IsS32.set_0 | apply IsS32.set_1 | apply IsS32.set_2 | apply IsS32.set_3) | exact HI1.out)); (case side2 => exact b1 HB (Aside0.mk (IsS32.ge HI1.out))); rintro e w5 ⟨rfl, hi, hb, hk⟩; have n0_ := Aside0.mk (KeepBut.trans (by exact kz HK) hk (.inl rfl)); have n1_ := Aside0.mk (hb); have n2_ := Aside0.mk (hi); clear HK; clear HB; clear HI1; have HK := n0_; have HB := n1_; have HI1 := n2_; clear n0_ n1_ n2_; (try clear hb); (try clear hb2); (try clear hk); (try clear hi)) | ((with_reducible refine gate_dst (N := 14) rfl ?_); refine Kd.R_lit Kd.string _ 9 ?hg (N := 14) ?hd (xs := ([] : List ByteArray)) (inner := []) (ok := fun _ => True) (okp := fun _ => True) ?hr ?hp (fun _ hk => hk) trivial (Below.refl _ _) (Nat.le_refl _) (by simp) ?_; (case hd => rfl); (case hg => rfl); (case hr => first | (go_simp; done) | (go_simp; rfl)); (case hp => exact (Reps.none _ _)); intro v156 w6 ho7 hb hg_ hnew_; clear hg_ hnew_; (first | rw [← Ny155.out] at ho7 | (simp only [Int.reduceToNat] at ho7; rw [← Ny155.out] at ho7)); have n0_ := Aside0.mk (Kd.R_lower ho7 (keep_size (w := w) (g := g) (row := none) (by exact kz HK))); have n1_ := Aside0.mk (IsS32.below (by repeat (first | (with_reducible first | exact HI1.out | apply IsS32.alloc | apply IsS32.drewN | apply IsS32.drew | apply IsS32.set_0 | apply IsS32.set_1 | apply IsS32.set_2 | apply IsS32.set_3) | exact HI1.out)) hb); have n2_ := Aside0.mk (KeepBut.trans (by exact kz HK) (KeepBut.of_below hb g none) (.inl rfl)); have n3_ := Aside0.mk (below_step (by exact b1 HB (Aside0.mk (IsS32.ge HI1.out))) hb); clear HI1; clear HK; clear HB; have HO157 := n0_; have HI1 := n1_; have HK := n2_; have HB := n3_; clear n0_ n1_ n2_ n3_; clear hb ho7)); go_upto_block 0 with (first | ((with_reducible refine gate_dst (N := 11) rfl ?_); refine bx 11 #[.string a0, .int .i64 0, .bool false, .bool false] 32 ?_; intro g hg_ w1 hbox hb; have HI1 := Aside0.mk (show IsS32 w w1 g a0 0 false false from ⟨hbox, by first | exact Nat.le_of_eq hg_.symm | (rw [hg_]; exact (b0 HB).size) | (rw [hg_]; exact HB.out.size)⟩); have HK := Aside0.mk (KeepBut.of_below hb g none); have n1_ := Aside0.mk (below_step HB.out hb); clear HB; have HB := n1_; clear n1_; clear hg_ hbox hb) | (go_at_call 10; (with_reducible refine (impl_wire_number.calls k g a0 0 false false 42 1 8 t150 t151 t152 t153 t154 w _ ?side1 ?side2 A3.out).mono ?_); (case side1 => repeat (first | (with_reducible first | exact HI1.out | apply IsS32.alloc | apply IsS32.drewN | apply IsS32.drew | apply IsS32.set_0 | apply IsS32.set_1 | apply IsS32.set_2 | apply IsS32.set_3) | exact HI1.out)); (case side2 => exact b1 HB (Aside0.mk (IsS32.ge HI1.out))); rintro e w5 ⟨rfl, hi, hb, hk⟩; have n0_ := Aside0.mk (KeepBut.trans (by exact kz HK) hk (.inl rfl)); have n1_ := Aside0.mk (hb); have n2_ := Aside0.mk (hi); clear HK; clear HB; clear HI1; have HK := n0_; have HB := n1_; have HI1 := n2_; clear n0_ n1_ n2_; (try clear hb); (try clear hb2); (try clear hk); (try clear hi)) | ((with_reducible refine gate_dst (N := 14) rfl ?_); refine Kd.R_lit Kd.string _ 9 ?hg (N := 14) ?hd (xs := ([] : List ByteArray)) (inner := []) (ok := fun _ => True) (okp := fun _ => True) ?hr ?hp (fun _ hk => hk) trivial (Below.refl _ _) (Nat.le_refl _) (by simp) ?_; (case hd => rfl); (case hg => rfl); (case hr => first | (go_simp; done) | (go_simp; rfl)); (case hp => exact (Reps.none _ _)); intro v156 w6 ho7 hb hg_ hnew_; clear hg_ hnew_; (first | rw [← Ny155.out] at ho7 | (simp only [Int.reduceToNat] at ho7; rw [← Ny155.out] at ho7)); have n0_ := Aside0.mk (Kd.R_lower ho7 (keep_size (w := w) (g := g) (row := none) (by exact kz HK))); have n1_ := Aside0.mk (IsS32.below (by repeat (first | (with_reducible first | exact HI1.out | apply IsS32.alloc | apply IsS32.drewN | apply IsS32.drew | apply IsS32.set_0 | apply IsS32.set_1 | apply IsS32.set_2 | apply IsS32.set_3) | exact HI1.out)) hb); have n2_ := Aside0.mk (KeepBut.trans (by exact kz HK) (KeepBut.of_below hb g none) (.inl rfl)); have n3_ := Aside0.mk (below_step (by exact b1 HB (Aside0.mk (IsS32.ge HI1.out))) hb); clear HI1; clear HK; clear HB; have HO157 := n0_; have HI1 := n1_; have HK := n2_; have HB := n3_; clear n0_ n1_ n2_ n3_; clear hb ho7)))
  (try simp only [Act.put, List.setIfInBounds_toArray, List.set_cons_zero, List.set_cons_succ])
  go_cut [6] (fun v6 wc => ∃ (kq : Nat) (x6_3 : List ByteArray) (x2000_3 : ByteArray) (x2001_3 : Int) (x2002_3 : Bool) (x2003_3 : Bool), Aside0 (impl_OrderGet.j3 kq x6_3 x2000_3 x2001_3 x2002_3 x2003_3 = some (r1, r2)) ∧ Aside0 (kq ≤ k) ∧ Aside0 (Kd.R Kd.string 9 wc w.heap.size (fun _ => True) v6 x6_3) ∧ Aside0 (IsS32 w wc g x2000_3 x2001_3 x2002_3 x2003_3) ∧ Aside0 (KeepBut w wc g none) ∧ Aside0 (Below w.heap.size w wc))
  case first =>
    have H := HC4.out
    clear HC4
    have H' := Aside0.mk H
    clear H
    go_wp2
    repeat (go_quiet (fail); try go_wp2)
    go_loopg [6, 7] k (fun kq v6 v7 w' => ∃ (x6_1 : List ByteArray) (x7_1 : Int) (x2000_1 : ByteArray) (x2001_1 : Int) (x2002_1 : Bool) (x2003_1 : Bool), v7 = .int .i64 x7_1 ∧ Aside0 (impl_OrderGet.l0 kq a0 t150 x6_1 x7_1 x2000_1 x2001_1 x2002_1 x2003_1 = some (r1, r2)) ∧ Aside0 (kq ≤ k) ∧ Aside0 (Kd.R Kd.string 9 w' w.heap.size (fun _ => True) v6 x6_1) ∧ Aside0 (IsS32 w w' g x2000_1 x2001_1 x2002_1 x2003_1) ∧ Aside0 (KeepBut w w' g none) ∧ Aside0 (Below w.heap.size w w'))
    case atStart => exact ⟨(y155), (0), (t151), (t152), (t153), (t154), (by first | rfl | (simp; done) | (simp [*]; done)), H', ⟨Nat.le_refl _⟩, ⟨by (with_reducible repeat (first | apply Kd.R_alloc | apply Kd.R_drewN | apply Kd.R_drew)); exact HO157.out⟩, ⟨by repeat (first | (with_reducible first | exact HI1.out | apply IsS32.alloc | apply IsS32.drewN | apply IsS32.drew | apply IsS32.set_0 | apply IsS32.set_1 | apply IsS32.set_2 | apply IsS32.set_3) | exact HI1.out)⟩, ⟨by exact kz HK⟩, ⟨by exact b1 HB (Aside0.mk (IsS32.ge HI1.out))⟩⟩
    case round =>
      clear H'
      try clear p2
      try clear c5
      obtain ⟨x6_1, x7_1, x2000_1, x2001_1, x2002_1, x2003_1, rfl, HA, HK1, HO_6, HI1, HK, HB⟩ := hrel
      cases gk with
      | zero => exact absurd HA.out (by simp [impl_OrderGet.l0])
      | succ k1 =>
        have H := HA.out
        clear HA
        simp only [impl_OrderGet.l0] at H
        have HC8 := Aside0.mk H
        clear H
        go_upto_region 5 with (fail)
        repeat (go_quiet (fail); go_upto_region 5 with (fail))
        go_cut [31] (fun v31 wc => ∃ (kq : Nat) (x31_7 : Bool), v31 = .bool x31_7 ∧ Aside0 (impl_OrderGet.j1 kq a0 t150 x6_1 x7_1 x31_7 x2000_1 x2001_1 x2002_1 x2003_1 = some (r1, r2)) ∧ Aside0 (kq ≤ k1) ∧ Aside0 (Kd.R Kd.string 9 wc w.heap.size (fun _ => True) u6 x6_1) ∧ Aside0 (IsS32 w wc g x2000_1 x2001_1 x2002_1 x2003_1) ∧ Aside0 (KeepBut w wc g none) ∧ Aside0 (Below w.heap.size w wc))
        case first =>
          have H := HC8.out
          clear HC8
          by_cases c9 : x7_1 < t150
          · rw [if_pos c9] at H
            have c9b0 : decide (x7_1 < t150) = true := decide_eq_true c9
            clear c9
            (first | rw [c9b0] | (simp only [i64_w, i32_w]; rw [c9b0]) | skip)
            by_cases c10 : x2002_1 = true
            · subst c10
              have H1 : (impl_OrderGet.j1 k1 a0 t150 x6_1 x7_1 false x2000_1 x2001_1 true x2003_1) = some (r1, r2) := by rw [if_pos rfl] at H; exact H
              clear H
              have H := H1
              clear H1
              have H' := Aside0.mk H
              clear H
              obtain ⟨HGz11, hgz11⟩ := HI1.out
              have hcz11_0 := cellS32_0 HGz11
              have hcz11_1 := cellS32_1 HGz11
              have hcz11_2 := cellS32_2 HGz11
              have hcz11_3 := cellS32_3 HGz11
              have hfz11_0 := blk_frozen HGz11 0
              have hfz11_1 := blk_frozen HGz11 1
              have hfz11_2 := blk_frozen HGz11 2
              have hfz11_3 := blk_frozen HGz11 3
              clear HGz11 hgz11
              go_wp2
              repeat (go_quiet (fail); try go_wp2)
              go_meet
              case rel => exact ⟨_, (false), (by first | rfl | (simp; done) | (simp [*]; done)), H', ⟨by have := HK1.out; first | omega | exact Nat.le_refl _⟩, ⟨by (with_reducible repeat (first | apply Kd.R_alloc | apply Kd.R_drewN | apply Kd.R_drew)); exact HO_6.out⟩, ⟨by repeat (first | (with_reducible first | exact HI1.out | apply IsS32.alloc | apply IsS32.drewN | apply IsS32.drew | apply IsS32.set_0 | apply IsS32.set_1 | apply IsS32.set_2 | apply IsS32.set_3) | exact HI1.out)⟩, ⟨by exact kz HK⟩, ⟨by exact b1 HB (Aside0.mk (IsS32.ge HI1.out))⟩⟩
            · replace c10 := Bool.eq_false_iff.mpr c10
              subst c10
              have H1 : (impl_OrderGet.j1 k1 a0 t150 x6_1 x7_1 (!x2003_1) x2000_1 x2001_1 false x2003_1) = some (r1, r2) := by rw [if_neg (show ¬ (false = true) by decide)] at H; exact H
              clear H
              have H := H1
              clear H1
              have H' := Aside0.mk H
              clear H
              obtain ⟨HGz12, hgz12⟩ := HI1.out
              have hcz12_0 := cellS32_0 HGz12
              have hcz12_1 := cellS32_1 HGz12
              have hcz12_2 := cellS32_2 HGz12
              have hcz12_3 := cellS32_3 HGz12
              have hfz12_0 := blk_frozen HGz12 0
              have hfz12_1 := blk_frozen HGz12 1
              have hfz12_2 := blk_frozen HGz12 2
              have hfz12_3 := blk_frozen HGz12 3
              clear HGz12 hgz12
              go_wp2
              repeat (go_quiet (fail); try go_wp2)
              go_meet
              case rel => exact ⟨_, (!x2003_1), (by first | rfl | (simp; done) | (simp [*]; done)), H', ⟨by have := HK1.out; first | omega | exact Nat.le_refl _⟩, ⟨by (with_reducible repeat (first | apply Kd.R_alloc | apply Kd.R_drewN | apply Kd.R_drew)); exact HO_6.out⟩, ⟨by repeat (first | (with_reducible first | exact HI1.out | apply IsS32.alloc | apply IsS32.drewN | apply IsS32.drew | apply IsS32.set_0 | apply IsS32.set_1 | apply IsS32.set_2 | apply IsS32.set_3) | exact HI1.out)⟩, ⟨by exact kz HK⟩, ⟨by exact b1 HB (Aside0.mk (IsS32.ge HI1.out))⟩⟩
          · rw [if_neg c9] at H
            have c9b0 : decide (x7_1 < t150) = false := decide_eq_false c9
            clear c9
            (first | rw [c9b0] | (simp only [i64_w, i32_w]; rw [c9b0]) | skip)
            have H' := Aside0.mk H
            clear H
            go_wp2
            repeat (go_quiet (fail); try go_wp2)
            go_meet
            case rel => exact ⟨_, (false), (by first | rfl | (simp; done) | (simp [*]; done)), H', ⟨by have := HK1.out; first | omega | exact Nat.le_refl _⟩, ⟨by (with_reducible repeat (first | apply Kd.R_alloc | apply Kd.R_drewN | apply Kd.R_drew)); exact HO_6.out⟩, ⟨by repeat (first | (with_reducible first | exact HI1.out | apply IsS32.alloc | apply IsS32.drewN | apply IsS32.drew | apply IsS32.set_0 | apply IsS32.set_1 | apply IsS32.set_2 | apply IsS32.set_3) | exact HI1.out)⟩, ⟨by exact kz HK⟩, ⟨by exact b1 HB (Aside0.mk (IsS32.ge HI1.out))⟩⟩
        case rest =>
          clear HC8
          try clear c1
          try clear p2
          try clear c5
          try clear c9
          try clear c9b0
          try clear c10
          try clear hcz11_0
          try clear hcz11_1
          try clear hcz11_2
          try clear hcz11_3
          try clear hcz12_0
          try clear hcz12_1
          try clear hcz12_2
          try clear hcz12_3
          try clear hfz11_0
          try clear hfz11_1
          try clear hfz11_2
          try clear hfz11_3
          try clear hfz12_0
          try clear hfz12_1
          try clear hfz12_2
          try clear hfz12_3
          try clear p2
          obtain ⟨kq, x31_7, rfl, HA, HJ7, HO_6, HI1, HK, HB⟩ := hcut
          cases kq with
          | zero => exact absurd HA.out (by simp [impl_OrderGet.j1])
          | succ kj7 =>
            have H := HA.out
            clear HA
            simp only [impl_OrderGet.j1] at H
            by_cases c13 : x31_7 = true
            · subst c13
              have H1 : ((impl_wire_number.f kj7 x2000_1 x2001_1 x2002_1 x2003_1 36 0 40).bind fun bt158 => (if bt158.2.2.2.1 = true then (impl_OrderGet.j2 kj7 a0 t150 x6_1 x7_1 bt158.1 true bt158.2.1 bt158.2.2.1 bt158.2.2.2.1 bt158.2.2.2.2) else (impl_OrderGet.j2 kj7 a0 t150 x6_1 x7_1 bt158.1 bt158.2.2.2.2 bt158.2.1 bt158.2.2.1 bt158.2.2.2.1 bt158.2.2.2.2))) = some (r1, r2) := by rw [if_pos rfl] at H; exact H
              clear H
              have H := H1
              clear H1
              replace H := Option.bind_eq_some_iff.mp H
              obtain ⟨⟨t158, t159, t160, t161, t162⟩, A140, H⟩ := H
              replace H : (if t161 = true then (impl_OrderGet.j2 kj7 a0 t150 x6_1 x7_1 t158 true t159 t160 t161 t162) else (impl_OrderGet.j2 kj7 a0 t150 x6_1 x7_1 t158 t162 t159 t160 t161 t162)) = some (r1, r2) := H
              have A14 := Aside0.mk A140
              clear A140
              have HC15 := Aside0.mk H
              clear H
              go_upto_region 8 with (first | (go_at_call 10; (with_reducible refine (impl_wire_number.calls kj7 g x2000_1 x2001_1 x2002_1 x2003_1 36 0 40 t158 t159 t160 t161 t162 w _ ?side1 ?side2 A14.out).mono ?_); (case side1 => repeat (first | (with_reducible first | exact HI1.out | apply IsS32.alloc | apply IsS32.drewN | apply IsS32.drew | apply IsS32.set_0 | apply IsS32.set_1 | apply IsS32.set_2 | apply IsS32.set_3) | exact HI1.out)); (case side2 => exact b1 HB (Aside0.mk (IsS32.ge HI1.out))); rintro e w16 ⟨rfl, hi, hb, hk⟩; have n0_ := Aside0.mk (Kd.R_mono (Kd.R_keep (IsS32.apart (show IsS32 w _ g x2000_1 x2001_1 x2002_1 x2003_1 from by repeat (first | (with_reducible first | exact HI1.out | apply IsS32.alloc | apply IsS32.drewN | apply IsS32.drew | apply IsS32.set_0 | apply IsS32.set_1 | apply IsS32.set_2 | apply IsS32.set_3) | exact HI1.out)) (by exact rz HO_6) (by decide)) hk (fun _ h => h.2)) (fun _ h => h.1)); have n1_ := Aside0.mk (KeepBut.trans (by exact kz HK) hk (.inl rfl)); have n2_ := Aside0.mk (hb); have n3_ := Aside0.mk (hi); clear HO_6; clear HK; clear HB; clear HI1; have HO_6 := n0_; have HK := n1_; have HB := n2_; have HI1 := n3_; clear n0_ n1_ n2_ n3_; (try clear hb); (try clear hb2); (try clear hk); (try clear hi)))
              repeat (go_quiet (first | (go_at_call 10; (with_reducible refine (impl_wire_number.calls kj7 g x2000_1 x2001_1 x2002_1 x2003_1 36 0 40 t158 t159 t160 t161 t162 w _ ?side1 ?side2 A14.out).mono ?_); (case side1 => repeat (first | (with_reducible first | exact HI1.out | apply IsS32.alloc | apply IsS32.drewN | apply IsS32.drew | apply IsS32.set_0 | apply IsS32.set_1 | apply IsS32.set_2 | apply IsS32.set_3) | exact HI1.out)); (case side2 => exact b1 HB (Aside0.mk (IsS32.ge HI1.out))); rintro e w16 ⟨rfl, hi, hb, hk⟩; have n0_ := Aside0.mk (Kd.R_mono (Kd.R_keep (IsS32.apart (show IsS32 w _ g x2000_1 x2001_1 x2002_1 x2003_1 from by repeat (first | (with_reducible first | exact HI1.out | apply IsS32.alloc | apply IsS32.drewN | apply IsS32.drew | apply IsS32.set_0 | apply IsS32.set_1 | apply IsS32.set_2 | apply IsS32.set_3) | exact HI1.out)) (by exact rz HO_6) (by decide)) hk (fun _ h => h.2)) (fun _ h => h.1)); have n1_ := Aside0.mk (KeepBut.trans (by exact kz HK) hk (.inl rfl)); have n2_ := Aside0.mk (hb); have n3_ := Aside0.mk (hi); clear HO_6; clear HK; clear HB; clear HI1; have HO_6 := n0_; have HK := n1_; have HB := n2_; have HI1 := n3_; clear n0_ n1_ n2_ n3_; (try clear hb); (try clear hb2); (try clear hk); (try clear hi))); go_upto_region 8 with (first | (go_at_call 10; (with_reducible refine (impl_wire_number.calls kj7 g x2000_1 x2001_1 x2002_1 x2003_1 36 0 40 t158 t159 t160 t161 t162 w _ ?side1 ?side2 A14.out).mono ?_); (case side1 => repeat (first | (with_reducible first | exact HI1.out | apply IsS32.alloc | apply IsS32.drewN | apply IsS32.drew | apply IsS32.set_0 | apply IsS32.set_1 | apply IsS32.set_2 | apply IsS32.set_3) | exact HI1.out)); (case side2 => exact b1 HB (Aside0.mk (IsS32.ge HI1.out))); rintro e w16 ⟨rfl, hi, hb, hk⟩; have n0_ := Aside0.mk (Kd.R_mono (Kd.R_keep (IsS32.apart (show IsS32 w _ g x2000_1 x2001_1 x2002_1 x2003_1 from by repeat (first | (with_reducible first | exact HI1.out | apply IsS32.alloc | apply IsS32.drewN | apply IsS32.drew | apply IsS32.set_0 | apply IsS32.set_1 | apply IsS32.set_2 | apply IsS32.set_3) | exact HI1.out)) (by exact rz HO_6) (by decide)) hk (fun _ h => h.2)) (fun _ h => h.1)); have n1_ := Aside0.mk (KeepBut.trans (by exact kz HK) hk (.inl rfl)); have n2_ := Aside0.mk (hb); have n3_ := Aside0.mk (hi); clear HO_6; clear HK; clear HB; clear HI1; have HO_6 := n0_; have HK := n1_; have HB := n2_; have HI1 := n3_; clear n0_ n1_ n2_ n3_; (try clear hb); (try clear hb2); (try clear hk); (try clear hi))))
              (try simp only [Act.put, List.setIfInBounds_toArray, List.set_cons_zero, List.set_cons_succ])
              go_cut [45] (fun v45 wc => ∃ (kq : Nat) (x45_14 : Bool), v45 = .bool x45_14 ∧ Aside0 (impl_OrderGet.j2 kq a0 t150 x6_1 x7_1 t158 x45_14 t159 t160 t161 t162 = some (r1, r2)) ∧ Aside0 (kq ≤ kj7) ∧ Aside0 (Kd.R Kd.string 9 wc w.heap.size (fun _ => True) u6 x6_1) ∧ Aside0 (IsS32 w wc g t159 t160 t161 t162) ∧ Aside0 (KeepBut w wc g none) ∧ Aside0 (Below w.heap.size w wc))
              case first =>
                have H := HC15.out
                clear HC15
                by_cases c17 : t161 = true
                · subst c17
                  have H1 : (impl_OrderGet.j2 kj7 a0 t150 x6_1 x7_1 t158 true t159 t160 true t162) = some (r1, r2) := by rw [if_pos rfl] at H; exact H
                  clear H
                  have H := H1
                  clear H1
                  have H' := Aside0.mk H
                  clear H
                  obtain ⟨HGz18, hgz18⟩ := HI1.out
                  have hcz18_0 := cellS32_0 HGz18
                  have hcz18_1 := cellS32_1 HGz18
                  have hcz18_2 := cellS32_2 HGz18
                  have hcz18_3 := cellS32_3 HGz18
                  have hfz18_0 := blk_frozen HGz18 0
                  have hfz18_1 := blk_frozen HGz18 1
                  have hfz18_2 := blk_frozen HGz18 2
                  have hfz18_3 := blk_frozen HGz18 3
                  clear HGz18 hgz18
                  go_wp2
                  repeat (go_quiet (fail); try go_wp2)
                  go_meet
                  case rel => exact ⟨_, (true), (by first | rfl | (simp; done) | (simp [*]; done)), H', ⟨by have := HK1.out; have := HJ7.out; first | omega | exact Nat.le_refl _⟩, ⟨by (with_reducible repeat (first | apply Kd.R_alloc | apply Kd.R_drewN | apply Kd.R_drew)); exact HO_6.out⟩, ⟨by repeat (first | (with_reducible first | exact HI1.out | apply IsS32.alloc | apply IsS32.drewN | apply IsS32.drew | apply IsS32.set_0 | apply IsS32.set_1 | apply IsS32.set_2 | apply IsS32.set_3) | exact HI1.out)⟩, ⟨by exact kz HK⟩, ⟨by exact b1 HB (Aside0.mk (IsS32.ge HI1.out))⟩⟩
                · replace c17 := Bool.eq_false_iff.mpr c17
                  subst c17
                  have H1 : (impl_OrderGet.j2 kj7 a0 t150 x6_1 x7_1 t158 t162 t159 t160 false t162) = some (r1, r2) := by rw [if_neg (show ¬ (false = true) by decide)] at H; exact H
                  clear H
                  have H := H1
                  clear H1
                  have H' := Aside0.mk H
                  clear H
                  obtain ⟨HGz19, hgz19⟩ := HI1.out
                  have hcz19_0 := cellS32_0 HGz19
                  have hcz19_1 := cellS32_1 HGz19
                  have hcz19_2 := cellS32_2 HGz19
                  have hcz19_3 := cellS32_3 HGz19
                  have hfz19_0 := blk_frozen HGz19 0
                  have hfz19_1 := blk_frozen HGz19 1
                  have hfz19_2 := blk_frozen HGz19 2
                  have hfz19_3 := blk_frozen HGz19 3
                  clear HGz19 hgz19
                  go_wp2
                  repeat (go_quiet (fail); try go_wp2)
                  go_meet
                  case rel => exact ⟨_, (t162), (by first | rfl | (simp; done) | (simp [*]; done)), H', ⟨by have := HK1.out; have := HJ7.out; first | omega | exact Nat.le_refl _⟩, ⟨by (with_reducible repeat (first | apply Kd.R_alloc | apply Kd.R_drewN | apply Kd.R_drew)); exact HO_6.out⟩, ⟨by repeat (first | (with_reducible first | exact HI1.out | apply IsS32.alloc | apply IsS32.drewN | apply IsS32.drew | apply IsS32.set_0 | apply IsS32.set_1 | apply IsS32.set_2 | apply IsS32.set_3) | exact HI1.out)⟩, ⟨by exact kz HK⟩, ⟨by exact b1 HB (Aside0.mk (IsS32.ge HI1.out))⟩⟩
              case rest =>
                clear HC15
                try clear c1
                try clear p2
                try clear c5
                try clear c9
                try clear c9b0
                try clear c10
                try clear c13
                try clear c17
                try clear hcz11_0
                try clear hcz11_1
                try clear hcz11_2
                try clear hcz11_3
                try clear hcz12_0
                try clear hcz12_1
                try clear hcz12_2
                try clear hcz12_3
                try clear hcz18_0
                try clear hcz18_1
                try clear hcz18_2
                try clear hcz18_3
                try clear hcz19_0
                try clear hcz19_1
                try clear hcz19_2
                try clear hcz19_3
                try clear hfz11_0
                try clear hfz11_1
                try clear hfz11_2
                try clear hfz11_3
                try clear hfz12_0
                try clear hfz12_1
                try clear hfz12_2
                try clear hfz12_3
                try clear hfz18_0
                try clear hfz18_1
                try clear hfz18_2
                try clear hfz18_3
                try clear hfz19_0
                try clear hfz19_1
                try clear hfz19_2
                try clear hfz19_3
                try clear p2
                obtain ⟨kq, x45_14, rfl, HA, HJ14, HO_6, HI1, HK, HB⟩ := hcut
                cases kq with
                | zero => exact absurd HA.out (by simp [impl_OrderGet.j2])
                | succ kj14 =>
                  have H := HA.out
                  clear HA
                  simp only [impl_OrderGet.j2] at H
                  by_cases c20 : x45_14 = true
                  · subst c20
                    have H1 : (impl_OrderGet.j3 kj14 x6_1 t159 t160 t161 t162) = some (r1, r2) := by rw [if_pos rfl] at H; exact H
                    clear H
                    have H := H1
                    clear H1
                    have H' := Aside0.mk H
                    clear H
                    go_wp2
                    repeat (go_quiet (fail); try go_wp2)
                    go_meet
                    case rel => exact ⟨_, (x6_1), (t159), (t160), (t161), (t162), H', ⟨by have := HK1.out; have := HJ7.out; have := HJ14.out; first | omega | exact Nat.le_refl _⟩, ⟨by (with_reducible repeat (first | apply Kd.R_alloc | apply Kd.R_drewN | apply Kd.R_drew)); exact HO_6.out⟩, ⟨by repeat (first | (with_reducible first | exact HI1.out | apply IsS32.alloc | apply IsS32.drewN | apply IsS32.drew | apply IsS32.set_0 | apply IsS32.set_1 | apply IsS32.set_2 | apply IsS32.set_3) | exact HI1.out)⟩, ⟨by exact kz HK⟩, ⟨by exact b1 HB (Aside0.mk (IsS32.ge HI1.out))⟩⟩
                  · replace c20 := Bool.eq_false_iff.mpr c20
                    subst c20
                    have H1 : (if (wrap64 ((a0.size : Int) - t160)) < t158 then (impl_OrderGet.j3 kj14 x6_1 t159 t160 true t162) else (if 0 ≤ t160 then (if t160 ≤ (wrap64 (t160 + t158)) then (if (wrap64 (t160 + t158)) ≤ (a0.size : Int) then (if x6_1.length < 8796093022208 then ((impl_wire_byte.f kj14 t159 (wrap64 (t160 + t158)) t161 t162 13).bind fun bt166 => ((impl_wire_byte.f kj14 bt166.1 bt166.2.1 bt166.2.2.1 bt166.2.2.2 10).bind fun bt170 => (impl_OrderGet.l0 kj14 a0 t150 (x6_1 ++ [a0.extract (t160 : Int).toNat ((wrap64 (t160 + t158)) : Int).toNat]) (wrap64 (x7_1 + 1)) bt170.1 bt170.2.1 bt170.2.2.1 bt170.2.2.2))) else (none)) else (none)) else (none)) else (none))) = some (r1, r2) := by rw [if_neg (show ¬ (false = true) by decide)] at H; exact H
                    clear H
                    have H := H1
                    clear H1
                    by_cases c21 : (wrap64 ((a0.size : Int) - t160)) < t158
                    · rw [if_pos c21] at H
                      have c21b0 : decide ((wrap64 ((a0.size : Int) - t160)) < t158) = true := decide_eq_true c21
                      clear c21
                      have H' := Aside0.mk H
                      clear H
                      obtain ⟨HGz22, hgz22⟩ := HI1.out
                      have hcz22_0 := cellS32_0 HGz22
                      have hcz22_1 := cellS32_1 HGz22
                      have hcz22_2 := cellS32_2 HGz22
                      have hcz22_3 := cellS32_3 HGz22
                      have hfz22_0 := blk_frozen HGz22 0
                      have hfz22_1 := blk_frozen HGz22 1
                      have hfz22_2 := blk_frozen HGz22 2
                      have hfz22_3 := blk_frozen HGz22 3
                      clear HGz22 hgz22
                      go_wp2
                      repeat (go_quiet (fail); try go_wp2)
                      go_meet
                      case rel => exact ⟨_, (x6_1), (t159), (t160), (true), (t162), H', ⟨by have := HK1.out; have := HJ7.out; have := HJ14.out; first | omega | exact Nat.le_refl _⟩, ⟨by (with_reducible repeat (first | apply Kd.R_alloc | apply Kd.R_drewN | apply Kd.R_drew)); exact Kd.R_mono (Kd.R_far (p := ⟨g, 2, none⟩) (IsS32.apart HI1.out HO_6.out (by decide)) (fun _ hk => hk.2) (.bool true)) (fun _ hk => trivial)⟩, ⟨by repeat (first | (with_reducible first | exact HI1.out | apply IsS32.alloc | apply IsS32.drewN | apply IsS32.drew | apply IsS32.set_0 | apply IsS32.set_1 | apply IsS32.set_2 | apply IsS32.set_3) | exact HI1.out)⟩, ⟨by exact kz HK⟩, ⟨by exact b1 HB (Aside0.mk (IsS32.ge HI1.out))⟩⟩
                    · rw [if_neg c21] at H
                      have c21b0 : decide ((wrap64 ((a0.size : Int) - t160)) < t158) = false := decide_eq_false c21
                      clear c21
                      by_cases c23 : 0 ≤ t160
                      · rw [if_pos c23] at H
                        have c23b0 := eq_true c23
                        have c23b1 : decide (0 ≤ t160) = true := decide_eq_true c23
                        clear c23
                        by_cases c24 : t160 ≤ (wrap64 (t160 + t158))
                        · rw [if_pos c24] at H
                          have c24b0 := eq_true c24
                          have c24b1 : decide (t160 ≤ (wrap64 (t160 + t158))) = true := decide_eq_true c24
                          by_cases c25 : (wrap64 (t160 + t158)) ≤ (a0.size : Int)
                          · rw [if_pos c25] at H
                            have c25b0 := eq_true c25
                            have c25b1 : decide ((wrap64 (t160 + t158)) ≤ (a0.size : Int)) = true := decide_eq_true c25
                            by_cases c26 : x6_1.length < 8796093022208
                            · rw [if_pos c26] at H
                              have LMc26 := Aside0.mk c26
                              clear c26
                              obtain ⟨y163, hy163⟩ : ∃ y_ : List ByteArray, y_ = (x6_1 ++ [a0.extract (t160 : Int).toNat ((wrap64 (t160 + t158)) : Int).toNat]) := ⟨_, rfl⟩
                              replace H : ((impl_wire_byte.f kj14 t159 (wrap64 (t160 + t158)) t161 t162 13).bind fun bt166 => ((impl_wire_byte.f kj14 bt166.1 bt166.2.1 bt166.2.2.1 bt166.2.2.2 10).bind fun bt170 => (impl_OrderGet.l0 kj14 a0 t150 y163 (wrap64 (x7_1 + 1)) bt170.1 bt170.2.1 bt170.2.2.1 bt170.2.2.2))) = some (r1, r2) := by first | (rw [hy163]; with_reducible exact H) | (have H2_ := (Option.bind_some _ _).symm.trans H; rw [hy163]; with_reducible exact H2_) | (have H2_ := (Option.bind_some _ _).symm.trans H; with_reducible exact H2_) | with_reducible exact H | (rw [hy163]; exact H) | exact H
                              have Ny163 := Aside0.mk hy163
                              clear hy163
                              replace H := Option.bind_eq_some_iff.mp H
                              obtain ⟨⟨t166, t167, t168, t169⟩, A270, H⟩ := H
                              replace H : ((impl_wire_byte.f kj14 t166 t167 t168 t169 10).bind fun bt170 => (impl_OrderGet.l0 kj14 a0 t150 y163 (wrap64 (x7_1 + 1)) bt170.1 bt170.2.1 bt170.2.2.1 bt170.2.2.2)) = some (r1, r2) := H
                              have A27 := Aside0.mk A270
                              clear A270
                              replace H := Option.bind_eq_some_iff.mp H
                              obtain ⟨⟨t170, t171, t172, t173⟩, A280, H⟩ := H
                              replace H : (impl_OrderGet.l0 kj14 a0 t150 y163 (wrap64 (x7_1 + 1)) t170 t171 t172 t173) = some (r1, r2) := H
                              have A28 := Aside0.mk A280
                              clear A280
                              have H' := Aside0.mk H
                              clear H
                              obtain ⟨HGz29, hgz29⟩ := HI1.out
                              have hcz29_0 := cellS32_0 HGz29
                              have hcz29_1 := cellS32_1 HGz29
                              have hcz29_2 := cellS32_2 HGz29
                              have hcz29_3 := cellS32_3 HGz29
                              have hfz29_0 := blk_frozen HGz29 0
                              have hfz29_1 := blk_frozen HGz29 1
                              have hfz29_2 := blk_frozen HGz29 2
                              have hfz29_3 := blk_frozen HGz29 3
                              clear HGz29 hgz29
                              go_wp2
                              have hb1_ : (0 : Int) ≤ t160 := of_eq_true c23b0
                              clear c21b0 c24b0 c25b0 c24b1 c25b1 c23b1 c23b0
                              obtain ⟨q_, hq_⟩ : ∃ j_ : Int, j_ = wrap64 (t160 + t158) := ⟨_, rfl⟩
                              have hw_ : IntKind.i64.wrap (t160 + t158) = q_ := (i64_w _).trans hq_.symm
                              rw [← hq_] at c24 c25 A27 Ny163
                              clear hq_
                              go_region_held3 (fun w' => w'.cell? ⟨g, 1, none⟩ = some (.int .i64 t160)) (first | go_keep | exact cellS32_1 n0_.out.1) ((refine Kd.R_append_step (W := wc.drew) Kd.string w.heap.size (by rfl) (.tmp 58) (.tmp 71) 22 9 (.string ⟨#[]⟩) 16 (by rfl) Try.underlying22 info9 rfl (by decide) (by omega) u6 x6_1 (a0.extract t160.toNat q_.toNat) [.string (a0.extract t160.toNat q_.toNat)] (fun _ => True) (fun _ => False) (by rfl) (by rfl) (by exact rfl) (fun _ hk => hk.elim) (fun _ _ => trivial) (by exact rz HO_6) (Below.refl _ _) (keep_size (w := w) (g := g) (row := none) (by exact kz HK)) (by have := LMc26.out; omega) ?_; intro v164 w30 ho hb hg hat; have n0_ := Aside0.mk (IsS32.grown (by repeat (first | (with_reducible first | exact HI1.out | apply IsS32.alloc | apply IsS32.drewN | apply IsS32.drew | apply IsS32.set_0 | apply IsS32.set_1 | apply IsS32.set_2 | apply IsS32.set_3) | exact HI1.out)) hg (IsS32.own_ne HI1.out HO_6.out (by decide)))))
                              try clear hHeld
                              rw [← Ny163.out] at ho
                              have n1_ := Aside0.mk (below_weaken (by exact b1 HB (Aside0.mk (IsS32.ge HI1.out))) HL.out hb)
                              have n2_ := Aside0.mk (KeepBut.trans (by exact kz HK) (KeepBut.of_grown hg g) (Kd.R_base2 HO_6.out))
                              have n3_ := Aside0.mk ho
                              clear HI1 HB HK HO_6
                              have HI1 := n0_
                              have HB := n1_
                              have HK := n2_
                              have HO165 := n3_
                              clear n0_ n1_ n2_ n3_ ho hb hg hat
                              clear hcz29_0 hcz29_1 hcz29_2 hcz29_3 hfz29_0 hfz29_1 hfz29_2 hfz29_3
                              obtain ⟨HGz31, hgz31⟩ := HI1.out
                              have hcz31_0 := cellS32_0 HGz31
                              have hcz31_1 := cellS32_1 HGz31
                              have hcz31_2 := cellS32_2 HGz31
                              have hcz31_3 := cellS32_3 HGz31
                              have hfz31_0 := blk_frozen HGz31 0
                              have hfz31_1 := blk_frozen HGz31 1
                              have hfz31_2 := blk_frozen HGz31 2
                              have hfz31_3 := blk_frozen HGz31 3
                              clear HGz31 hgz31
                              go_wp2_with (first | (go_at_call 11; (with_reducible refine (impl_wire_byte.calls kj14 g t159 q_ t161 t162 13 t166 t167 t168 t169 w _ ?side1 ?side2 A27.out).mono ?_); (case side1 => repeat (first | (with_reducible first | exact HI1.out | apply IsS32.alloc | apply IsS32.drewN | apply IsS32.drew | apply IsS32.set_0 | apply IsS32.set_1 | apply IsS32.set_2 | apply IsS32.set_3) | exact HI1.out)); (case side2 => exact b1 HB (Aside0.mk (IsS32.ge HI1.out))); rintro e w32 ⟨rfl, hi, hb, hk⟩; have n0_ := Aside0.mk (Kd.R_mono (Kd.R_keep (IsS32.apart (show IsS32 w _ g t159 q_ t161 t162 from by repeat (first | (with_reducible first | exact HI1.out | apply IsS32.alloc | apply IsS32.drewN | apply IsS32.drew | apply IsS32.set_0 | apply IsS32.set_1 | apply IsS32.set_2 | apply IsS32.set_3) | exact HI1.out)) (by (with_reducible repeat (first | apply Kd.R_alloc | apply Kd.R_drewN | apply Kd.R_drew)); exact (Kd.R_mono (Kd.R_far (p := ⟨g, 1, none⟩) (IsS32.apart HI1.out HO165.out (by decide)) (fun _ hk => hk.2) (.int .i64 q_)) (fun _ h_ => h_.1))) (by decide)) hk (fun _ h => h.2)) (fun _ h => h.1)); have n1_ := Aside0.mk (KeepBut.trans (by exact kz HK) hk (.inl rfl)); have n2_ := Aside0.mk (hb); have n3_ := Aside0.mk (hi); clear HO165; clear HK; clear HB; clear HI1; have HO165 := n0_; have HK := n1_; have HB := n2_; have HI1 := n3_; clear n0_ n1_ n2_ n3_; (try clear hb); (try clear hb2); (try clear hk); (try clear hi)) | (go_at_call 11; (with_reducible refine (impl_wire_byte.calls kj14 g t166 t167 t168 t169 10 t170 t171 t172 t173 w _ ?side1 ?side2 A28.out).mono ?_); (case side1 => repeat (first | (with_reducible first | exact HI1.out | apply IsS32.alloc | apply IsS32.drewN | apply IsS32.drew | apply IsS32.set_0 | apply IsS32.set_1 | apply IsS32.set_2 | apply IsS32.set_3) | exact HI1.out)); (case side2 => exact b1 HB (Aside0.mk (IsS32.ge HI1.out))); rintro e w33 ⟨rfl, hi, hb, hk⟩; have n0_ := Aside0.mk (Kd.R_mono (Kd.R_keep (IsS32.apart (show IsS32 w _ g t166 t167 t168 t169 from by repeat (first | (with_reducible first | exact HI1.out | apply IsS32.alloc | apply IsS32.drewN | apply IsS32.drew | apply IsS32.set_0 | apply IsS32.set_1 | apply IsS32.set_2 | apply IsS32.set_3) | exact HI1.out)) (by exact rz HO165) (by decide)) hk (fun _ h => h.2)) (fun _ h => h.1)); have n1_ := Aside0.mk (KeepBut.trans (by exact kz HK) hk (.inl rfl)); have n2_ := Aside0.mk (hb); have n3_ := Aside0.mk (hi); clear HO165; clear HK; clear HB; clear HI1; have HO165 := n0_; have HK := n1_; have HB := n2_; have HI1 := n3_; clear n0_ n1_ n2_ n3_; (try clear hb); (try clear hb2); (try clear hk); (try clear hi)))
                              repeat (go_quiet (first | (go_at_call 11; (with_reducible refine (impl_wire_byte.calls kj14 g t159 q_ t161 t162 13 t166 t167 t168 t169 w _ ?side1 ?side2 A27.out).mono ?_); (case side1 => repeat (first | (with_reducible first | exact HI1.out | apply IsS32.alloc | apply IsS32.drewN | apply IsS32.drew | apply IsS32.set_0 | apply IsS32.set_1 | apply IsS32.set_2 | apply IsS32.set_3) | exact HI1.out)); (case side2 => exact b1 HB (Aside0.mk (IsS32.ge HI1.out))); rintro e w32 ⟨rfl, hi, hb, hk⟩; have n0_ := Aside0.mk (Kd.R_mono (Kd.R_keep (IsS32.apart (show IsS32 w _ g t159 q_ t161 t162 from by repeat (first | (with_reducible first | exact HI1.out | apply IsS32.alloc | apply IsS32.drewN | apply IsS32.drew | apply IsS32.set_0 | apply IsS32.set_1 | apply IsS32.set_2 | apply IsS32.set_3) | exact HI1.out)) (by (with_reducible repeat (first | apply Kd.R_alloc | apply Kd.R_drewN | apply Kd.R_drew)); exact (Kd.R_mono (Kd.R_far (p := ⟨g, 1, none⟩) (IsS32.apart HI1.out HO165.out (by decide)) (fun _ hk => hk.2) (.int .i64 q_)) (fun _ h_ => h_.1))) (by decide)) hk (fun _ h => h.2)) (fun _ h => h.1)); have n1_ := Aside0.mk (KeepBut.trans (by exact kz HK) hk (.inl rfl)); have n2_ := Aside0.mk (hb); have n3_ := Aside0.mk (hi); clear HO165; clear HK; clear HB; clear HI1; have HO165 := n0_; have HK := n1_; have HB := n2_; have HI1 := n3_; clear n0_ n1_ n2_ n3_; (try clear hb); (try clear hb2); (try clear hk); (try clear hi)) | (go_at_call 11; (with_reducible refine (impl_wire_byte.calls kj14 g t166 t167 t168 t169 10 t170 t171 t172 t173 w _ ?side1 ?side2 A28.out).mono ?_); (case side1 => repeat (first | (with_reducible first | exact HI1.out | apply IsS32.alloc | apply IsS32.drewN | apply IsS32.drew | apply IsS32.set_0 | apply IsS32.set_1 | apply IsS32.set_2 | apply IsS32.set_3) | exact HI1.out)); (case side2 => exact b1 HB (Aside0.mk (IsS32.ge HI1.out))); rintro e w33 ⟨rfl, hi, hb, hk⟩; have n0_ := Aside0.mk (Kd.R_mono (Kd.R_keep (IsS32.apart (show IsS32 w _ g t166 t167 t168 t169 from by repeat (first | (with_reducible first | exact HI1.out | apply IsS32.alloc | apply IsS32.drewN | apply IsS32.drew | apply IsS32.set_0 | apply IsS32.set_1 | apply IsS32.set_2 | apply IsS32.set_3) | exact HI1.out)) (by exact rz HO165) (by decide)) hk (fun _ h => h.2)) (fun _ h => h.1)); have n1_ := Aside0.mk (KeepBut.trans (by exact kz HK) hk (.inl rfl)); have n2_ := Aside0.mk (hb); have n3_ := Aside0.mk (hi); clear HO165; clear HK; clear HB; clear HI1; have HO165 := n0_; have HK := n1_; have HB := n2_; have HI1 := n3_; clear n0_ n1_ n2_ n3_; (try clear hb); (try clear hb2); (try clear hk); (try clear hi))); try go_wp2_with (first | (go_at_call 11; (with_reducible refine (impl_wire_byte.calls kj14 g t159 q_ t161 t162 13 t166 t167 t168 t169 w _ ?side1 ?side2 A27.out).mono ?_); (case side1 => repeat (first | (with_reducible first | exact HI1.out | apply IsS32.alloc | apply IsS32.drewN | apply IsS32.drew | apply IsS32.set_0 | apply IsS32.set_1 | apply IsS32.set_2 | apply IsS32.set_3) | exact HI1.out)); (case side2 => exact b1 HB (Aside0.mk (IsS32.ge HI1.out))); rintro e w32 ⟨rfl, hi, hb, hk⟩; have n0_ := Aside0.mk (Kd.R_mono (Kd.R_keep (IsS32.apart (show IsS32 w _ g t159 q_ t161 t162 from by repeat (first | (with_reducible first | exact HI1.out | apply IsS32.alloc | apply IsS32.drewN | apply IsS32.drew | apply IsS32.set_0 | apply IsS32.set_1 | apply IsS32.set_2 | apply IsS32.set_3) | exact HI1.out)) (by (with_reducible repeat (first | apply Kd.R_alloc | apply Kd.R_drewN | apply Kd.R_drew)); exact (Kd.R_mono (Kd.R_far (p := ⟨g, 1, none⟩) (IsS32.apart HI1.out HO165.out (by decide)) (fun _ hk => hk.2) (.int .i64 q_)) (fun _ h_ => h_.1))) (by decide)) hk (fun _ h => h.2)) (fun _ h => h.1)); have n1_ := Aside0.mk (KeepBut.trans (by exact kz HK) hk (.inl rfl)); have n2_ := Aside0.mk (hb); have n3_ := Aside0.mk (hi); clear HO165; clear HK; clear HB; clear HI1; have HO165 := n0_; have HK := n1_; have HB := n2_; have HI1 := n3_; clear n0_ n1_ n2_ n3_; (try clear hb); (try clear hb2); (try clear hk); (try clear hi)) | (go_at_call 11; (with_reducible refine (impl_wire_byte.calls kj14 g t166 t167 t168 t169 10 t170 t171 t172 t173 w _ ?side1 ?side2 A28.out).mono ?_); (case side1 => repeat (first | (with_reducible first | exact HI1.out | apply IsS32.alloc | apply IsS32.drewN | apply IsS32.drew | apply IsS32.set_0 | apply IsS32.set_1 | apply IsS32.set_2 | apply IsS32.set_3) | exact HI1.out)); (case side2 => exact b1 HB (Aside0.mk (IsS32.ge HI1.out))); rintro e w33 ⟨rfl, hi, hb, hk⟩; have n0_ := Aside0.mk (Kd.R_mono (Kd.R_keep (IsS32.apart (show IsS32 w _ g t166 t167 t168 t169 from by repeat (first | (with_reducible first | exact HI1.out | apply IsS32.alloc | apply IsS32.drewN | apply IsS32.drew | apply IsS32.set_0 | apply IsS32.set_1 | apply IsS32.set_2 | apply IsS32.set_3) | exact HI1.out)) (by exact rz HO165) (by decide)) hk (fun _ h => h.2)) (fun _ h => h.1)); have n1_ := Aside0.mk (KeepBut.trans (by exact kz HK) hk (.inl rfl)); have n2_ := Aside0.mk (hb); have n3_ := Aside0.mk (hi); clear HO165; clear HK; clear HB; clear HI1; have HO165 := n0_; have HK := n1_; have HB := n2_; have HI1 := n3_; clear n0_ n1_ n2_ n3_; (try clear hb); (try clear hb2); (try clear hk); (try clear hi))))
                              go_roundg kj14
                              case measure => have := HK1.out; have := HJ7.out; have := HJ14.out; omega
                              case rel => exact ⟨(y163), (wrap64 (x7_1 + 1)), (t170), (t171), (t172), (t173), (by first | rfl | (simp; done) | (simp [*]; done)), H', ⟨by have := HK1.out; have := HJ7.out; have := HJ14.out; omega⟩, ⟨by (with_reducible repeat (first | apply Kd.R_alloc | apply Kd.R_drewN | apply Kd.R_drew)); exact HO165.out⟩, ⟨by repeat (first | (with_reducible first | exact HI1.out | apply IsS32.alloc | apply IsS32.drewN | apply IsS32.drew | apply IsS32.set_0 | apply IsS32.set_1 | apply IsS32.set_2 | apply IsS32.set_3) | exact HI1.out)⟩, ⟨by exact kz HK⟩, ⟨by exact b1 HB (Aside0.mk (IsS32.ge HI1.out))⟩⟩
                            · rw [if_neg c26] at H
                              exact absurd H (by simp)
                          · rw [if_neg c25] at H
                            exact absurd H (by simp)
                        · rw [if_neg c24] at H
                          exact absurd H (by simp)
                      · rw [if_neg c23] at H
                        exact absurd H (by simp)
            · replace c13 := Bool.eq_false_iff.mpr c13
              subst c13
              have H1 : (impl_OrderGet.j3 kj7 x6_1 x2000_1 x2001_1 x2002_1 x2003_1) = some (r1, r2) := by rw [if_neg (show ¬ (false = true) by decide)] at H; exact H
              clear H
              have H := H1
              clear H1
              have H' := Aside0.mk H
              clear H
              go_wp2
              repeat (go_quiet (fail); try go_wp2)
              go_meet
              case rel => exact ⟨_, (x6_1), (x2000_1), (x2001_1), (x2002_1), (x2003_1), H', ⟨by have := HK1.out; have := HJ7.out; first | omega | exact Nat.le_refl _⟩, ⟨by (with_reducible repeat (first | apply Kd.R_alloc | apply Kd.R_drewN | apply Kd.R_drew)); exact HO_6.out⟩, ⟨by repeat (first | (with_reducible first | exact HI1.out | apply IsS32.alloc | apply IsS32.drewN | apply IsS32.drew | apply IsS32.set_0 | apply IsS32.set_1 | apply IsS32.set_2 | apply IsS32.set_3) | exact HI1.out)⟩, ⟨by exact kz HK⟩, ⟨by exact b1 HB (Aside0.mk (IsS32.ge HI1.out))⟩⟩
  case rest =>
    clear HC4
    try clear c1
    try clear c2
    try clear p2
    try clear c5
    try clear p6
    try clear c9
    try clear c9b0
    try clear c10
    try clear c13
    try clear c17
    try clear c20
    try clear c21
    try clear c21b0
    try clear c23
    try clear c23b0
    try clear c23b1
    try clear c24
    try clear c24b0
    try clear c24b1
    try clear c25
    try clear c25b0
    try clear c25b1
    try clear c26
    try clear hcz11_0
    try clear hcz11_1
    try clear hcz11_2
    try clear hcz11_3
    try clear hcz12_0
    try clear hcz12_1
    try clear hcz12_2
    try clear hcz12_3
    try clear hcz18_0
    try clear hcz18_1
    try clear hcz18_2
    try clear hcz18_3
    try clear hcz19_0
    try clear hcz19_1
    try clear hcz19_2
    try clear hcz19_3
    try clear hcz22_0
    try clear hcz22_1
    try clear hcz22_2
    try clear hcz22_3
    try clear hcz29_0
    try clear hcz29_1
    try clear hcz29_2
    try clear hcz29_3
    try clear hcz31_0
    try clear hcz31_1
    try clear hcz31_2
    try clear hcz31_3
    try clear hfz11_0
    try clear hfz11_1
    try clear hfz11_2
    try clear hfz11_3
    try clear hfz12_0
    try clear hfz12_1
    try clear hfz12_2
    try clear hfz12_3
    try clear hfz18_0
    try clear hfz18_1
    try clear hfz18_2
    try clear hfz18_3
    try clear hfz19_0
    try clear hfz19_1
    try clear hfz19_2
    try clear hfz19_3
    try clear hfz22_0
    try clear hfz22_1
    try clear hfz22_2
    try clear hfz22_3
    try clear hfz29_0
    try clear hfz29_1
    try clear hfz29_2
    try clear hfz29_3
    try clear hfz31_0
    try clear hfz31_1
    try clear hfz31_2
    try clear hfz31_3
    try clear p2
    obtain ⟨kq, x6_3, x2000_3, x2001_3, x2002_3, x2003_3, HA, HJ3, HO_6, HI1, HK, HB⟩ := hcut
    cases kq with
    | zero => exact absurd HA.out (by simp [impl_OrderGet.j3])
    | succ kj3 =>
      have H := HA.out
      clear HA
      simp only [impl_OrderGet.j3] at H
      by_cases c34 : x2003_3 = true
      · subst c34
        have H1 : (some ((([] : List ByteArray)), (-1))) = some (r1, r2) := by rw [if_pos rfl] at H; exact H
        clear H
        have H := H1
        clear H1
        obtain ⟨y174, hy174⟩ : ∃ y_ : List ByteArray, y_ = (([] : List ByteArray)) := ⟨_, rfl⟩
        replace H : (some (y174, (-1))) = some (r1, r2) := by first | (rw [hy174]; with_reducible exact H) | (have H2_ := (Option.bind_some _ _).symm.trans H; rw [hy174]; with_reducible exact H2_) | (have H2_ := (Option.bind_some _ _).symm.trans H; with_reducible exact H2_) | with_reducible exact H | (rw [hy174]; exact H) | exact H
        have Ny174 := Aside0.mk hy174
        clear hy174
        simp only [Option.some.injEq, Prod.mk.injEq] at H
        obtain ⟨rfl, rfl⟩ := H
        obtain ⟨HGz35, hgz35⟩ := HI1.out
        have hcz35_0 := cellS32_0 HGz35
        have hcz35_1 := cellS32_1 HGz35
        have hcz35_2 := cellS32_2 HGz35
        have hcz35_3 := cellS32_3 HGz35
        have hfz35_0 := blk_frozen HGz35 0
        have hfz35_1 := blk_frozen HGz35 1
        have hfz35_2 := blk_frozen HGz35 2
        have hfz35_3 := blk_frozen HGz35 3
        clear HGz35 hgz35
        go_wp2_with (first | ((with_reducible refine gate_dst (N := 90) rfl ?_); refine Kd.R_lit Kd.string _ 9 ?hg (N := 90) ?hd (xs := ([] : List ByteArray)) (inner := []) (ok := fun _ => True) (okp := fun _ => True) ?hr ?hp (fun _ hk => hk) trivial (Below.refl _ _) (Nat.le_refl _) (by simp) ?_; (case hd => rfl); (case hg => rfl); (case hr => first | (go_simp; done) | (go_simp; rfl)); (case hp => exact (Reps.none _ _)); intro v175 w36 ho37 hb hg_ hnew_; clear hg_ hnew_; (first | rw [← Ny174.out] at ho37 | (simp only [Int.reduceToNat] at ho37; rw [← Ny174.out] at ho37)); have n0_ := Aside0.mk (Kd.R_elder' (by exact rz HO_6) (Kd.R_base ho37) hb); have n1_ := Aside0.mk (Kd.R_lower (Kd.R_new' ho37 (Kd.R_lt (by exact rz HO_6))) (keep_size (w := w) (g := g) (row := none) (by exact kz HK))); have n2_ := Aside0.mk (IsS32.below (by repeat (first | (with_reducible first | exact HI1.out | apply IsS32.alloc | apply IsS32.drewN | apply IsS32.drew | apply IsS32.set_0 | apply IsS32.set_1 | apply IsS32.set_2 | apply IsS32.set_3) | exact HI1.out)) hb); have n3_ := Aside0.mk (KeepBut.trans (by exact kz HK) (KeepBut.of_below hb g none) (.inl rfl)); have n4_ := Aside0.mk (below_step (by exact b1 HB (Aside0.mk (IsS32.ge HI1.out))) hb); clear HO_6; clear HI1; clear HK; clear HB; have HO_6 := n0_; have HO176 := n1_; have HI1 := n2_; have HK := n3_; have HB := n4_; clear n0_ n1_ n2_ n3_ n4_; clear hb ho37))
        repeat (go_quiet (first | ((with_reducible refine gate_dst (N := 90) rfl ?_); refine Kd.R_lit Kd.string _ 9 ?hg (N := 90) ?hd (xs := ([] : List ByteArray)) (inner := []) (ok := fun _ => True) (okp := fun _ => True) ?hr ?hp (fun _ hk => hk) trivial (Below.refl _ _) (Nat.le_refl _) (by simp) ?_; (case hd => rfl); (case hg => rfl); (case hr => first | (go_simp; done) | (go_simp; rfl)); (case hp => exact (Reps.none _ _)); intro v175 w36 ho37 hb hg_ hnew_; clear hg_ hnew_; (first | rw [← Ny174.out] at ho37 | (simp only [Int.reduceToNat] at ho37; rw [← Ny174.out] at ho37)); have n0_ := Aside0.mk (Kd.R_elder' (by exact rz HO_6) (Kd.R_base ho37) hb); have n1_ := Aside0.mk (Kd.R_lower (Kd.R_new' ho37 (Kd.R_lt (by exact rz HO_6))) (keep_size (w := w) (g := g) (row := none) (by exact kz HK))); have n2_ := Aside0.mk (IsS32.below (by repeat (first | (with_reducible first | exact HI1.out | apply IsS32.alloc | apply IsS32.drewN | apply IsS32.drew | apply IsS32.set_0 | apply IsS32.set_1 | apply IsS32.set_2 | apply IsS32.set_3) | exact HI1.out)) hb); have n3_ := Aside0.mk (KeepBut.trans (by exact kz HK) (KeepBut.of_below hb g none) (.inl rfl)); have n4_ := Aside0.mk (below_step (by exact b1 HB (Aside0.mk (IsS32.ge HI1.out))) hb); clear HO_6; clear HI1; clear HK; clear HB; have HO_6 := n0_; have HO176 := n1_; have HI1 := n2_; have HK := n3_; have HB := n4_; clear n0_ n1_ n2_ n3_ n4_; clear hb ho37)); try go_wp2_with (first | ((with_reducible refine gate_dst (N := 90) rfl ?_); refine Kd.R_lit Kd.string _ 9 ?hg (N := 90) ?hd (xs := ([] : List ByteArray)) (inner := []) (ok := fun _ => True) (okp := fun _ => True) ?hr ?hp (fun _ hk => hk) trivial (Below.refl _ _) (Nat.le_refl _) (by simp) ?_; (case hd => rfl); (case hg => rfl); (case hr => first | (go_simp; done) | (go_simp; rfl)); (case hp => exact (Reps.none _ _)); intro v175 w36 ho37 hb hg_ hnew_; clear hg_ hnew_; (first | rw [← Ny174.out] at ho37 | (simp only [Int.reduceToNat] at ho37; rw [← Ny174.out] at ho37)); have n0_ := Aside0.mk (Kd.R_elder' (by exact rz HO_6) (Kd.R_base ho37) hb); have n1_ := Aside0.mk (Kd.R_lower (Kd.R_new' ho37 (Kd.R_lt (by exact rz HO_6))) (keep_size (w := w) (g := g) (row := none) (by exact kz HK))); have n2_ := Aside0.mk (IsS32.below (by repeat (first | (with_reducible first | exact HI1.out | apply IsS32.alloc | apply IsS32.drewN | apply IsS32.drew | apply IsS32.set_0 | apply IsS32.set_1 | apply IsS32.set_2 | apply IsS32.set_3) | exact HI1.out)) hb); have n3_ := Aside0.mk (KeepBut.trans (by exact kz HK) (KeepBut.of_below hb g none) (.inl rfl)); have n4_ := Aside0.mk (below_step (by exact b1 HB (Aside0.mk (IsS32.ge HI1.out))) hb); clear HO_6; clear HI1; clear HK; clear HB; have HO_6 := n0_; have HO176 := n1_; have HI1 := n2_; have HK := n3_; have HB := n4_; clear n0_ n1_ n2_ n3_ n4_; clear hb ho37)))
        go_ret2
        exact ⟨_, by first | rfl | (simp [errW_none, errW_some] <;> rfl) | (simp [*, errW_none, errW_some] <;> rfl), by (with_reducible repeat (first | apply Kd.R_alloc | apply Kd.R_drewN | apply Kd.R_drew)); exact Kd.R_mono HO176.out (fun _ hk => trivial), by exact b1 HB (Aside0.mk (IsS32.ge HI1.out))⟩
      · replace c34 := Bool.eq_false_iff.mpr c34
        subst c34
        have H1 : (if x2002_3 = true then (some ((([] : List ByteArray)), 0)) else (some (x6_3, x2001_3))) = some (r1, r2) := by rw [if_neg (show ¬ (false = true) by decide)] at H; exact H
        clear H
        have H := H1
        clear H1
        by_cases c38 : x2002_3 = true
        · subst c38
          have H1 : (some ((([] : List ByteArray)), 0)) = some (r1, r2) := by rw [if_pos rfl] at H; exact H
          clear H
          have H := H1
          clear H1
          obtain ⟨y177, hy177⟩ : ∃ y_ : List ByteArray, y_ = (([] : List ByteArray)) := ⟨_, rfl⟩
          replace H : (some (y177, 0)) = some (r1, r2) := by first | (rw [hy177]; with_reducible exact H) | (have H2_ := (Option.bind_some _ _).symm.trans H; rw [hy177]; with_reducible exact H2_) | (have H2_ := (Option.bind_some _ _).symm.trans H; with_reducible exact H2_) | with_reducible exact H | (rw [hy177]; exact H) | exact H
          have Ny177 := Aside0.mk hy177
          clear hy177
          simp only [Option.some.injEq, Prod.mk.injEq] at H
          obtain ⟨rfl, rfl⟩ := H
          obtain ⟨HGz39, hgz39⟩ := HI1.out
          have hcz39_0 := cellS32_0 HGz39
          have hcz39_1 := cellS32_1 HGz39
          have hcz39_2 := cellS32_2 HGz39
          have hcz39_3 := cellS32_3 HGz39
          have hfz39_0 := blk_frozen HGz39 0
          have hfz39_1 := blk_frozen HGz39 1
          have hfz39_2 := blk_frozen HGz39 2
          have hfz39_3 := blk_frozen HGz39 3
          clear HGz39 hgz39
          go_wp2_with (first | ((with_reducible refine gate_dst (N := 96) rfl ?_); refine Kd.R_lit Kd.string _ 9 ?hg (N := 96) ?hd (xs := ([] : List ByteArray)) (inner := []) (ok := fun _ => True) (okp := fun _ => True) ?hr ?hp (fun _ hk => hk) trivial (Below.refl _ _) (Nat.le_refl _) (by simp) ?_; (case hd => rfl); (case hg => rfl); (case hr => first | (go_simp; done) | (go_simp; rfl)); (case hp => exact (Reps.none _ _)); intro v178 w40 ho41 hb hg_ hnew_; clear hg_ hnew_; (first | rw [← Ny177.out] at ho41 | (simp only [Int.reduceToNat] at ho41; rw [← Ny177.out] at ho41)); have n0_ := Aside0.mk (Kd.R_elder' (by exact rz HO_6) (Kd.R_base ho41) hb); have n1_ := Aside0.mk (Kd.R_lower (Kd.R_new' ho41 (Kd.R_lt (by exact rz HO_6))) (keep_size (w := w) (g := g) (row := none) (by exact kz HK))); have n2_ := Aside0.mk (IsS32.below (by repeat (first | (with_reducible first | exact HI1.out | apply IsS32.alloc | apply IsS32.drewN | apply IsS32.drew | apply IsS32.set_0 | apply IsS32.set_1 | apply IsS32.set_2 | apply IsS32.set_3) | exact HI1.out)) hb); have n3_ := Aside0.mk (KeepBut.trans (by exact kz HK) (KeepBut.of_below hb g none) (.inl rfl)); have n4_ := Aside0.mk (below_step (by exact b1 HB (Aside0.mk (IsS32.ge HI1.out))) hb); clear HO_6; clear HI1; clear HK; clear HB; have HO_6 := n0_; have HO179 := n1_; have HI1 := n2_; have HK := n3_; have HB := n4_; clear n0_ n1_ n2_ n3_ n4_; clear hb ho41))
          repeat (go_quiet (first | ((with_reducible refine gate_dst (N := 96) rfl ?_); refine Kd.R_lit Kd.string _ 9 ?hg (N := 96) ?hd (xs := ([] : List ByteArray)) (inner := []) (ok := fun _ => True) (okp := fun _ => True) ?hr ?hp (fun _ hk => hk) trivial (Below.refl _ _) (Nat.le_refl _) (by simp) ?_; (case hd => rfl); (case hg => rfl); (case hr => first | (go_simp; done) | (go_simp; rfl)); (case hp => exact (Reps.none _ _)); intro v178 w40 ho41 hb hg_ hnew_; clear hg_ hnew_; (first | rw [← Ny177.out] at ho41 | (simp only [Int.reduceToNat] at ho41; rw [← Ny177.out] at ho41)); have n0_ := Aside0.mk (Kd.R_elder' (by exact rz HO_6) (Kd.R_base ho41) hb); have n1_ := Aside0.mk (Kd.R_lower (Kd.R_new' ho41 (Kd.R_lt (by exact rz HO_6))) (keep_size (w := w) (g := g) (row := none) (by exact kz HK))); have n2_ := Aside0.mk (IsS32.below (by repeat (first | (with_reducible first | exact HI1.out | apply IsS32.alloc | apply IsS32.drewN | apply IsS32.drew | apply IsS32.set_0 | apply IsS32.set_1 | apply IsS32.set_2 | apply IsS32.set_3) | exact HI1.out)) hb); have n3_ := Aside0.mk (KeepBut.trans (by exact kz HK) (KeepBut.of_below hb g none) (.inl rfl)); have n4_ := Aside0.mk (below_step (by exact b1 HB (Aside0.mk (IsS32.ge HI1.out))) hb); clear HO_6; clear HI1; clear HK; clear HB; have HO_6 := n0_; have HO179 := n1_; have HI1 := n2_; have HK := n3_; have HB := n4_; clear n0_ n1_ n2_ n3_ n4_; clear hb ho41)); try go_wp2_with (first | ((with_reducible refine gate_dst (N := 96) rfl ?_); refine Kd.R_lit Kd.string _ 9 ?hg (N := 96) ?hd (xs := ([] : List ByteArray)) (inner := []) (ok := fun _ => True) (okp := fun _ => True) ?hr ?hp (fun _ hk => hk) trivial (Below.refl _ _) (Nat.le_refl _) (by simp) ?_; (case hd => rfl); (case hg => rfl); (case hr => first | (go_simp; done) | (go_simp; rfl)); (case hp => exact (Reps.none _ _)); intro v178 w40 ho41 hb hg_ hnew_; clear hg_ hnew_; (first | rw [← Ny177.out] at ho41 | (simp only [Int.reduceToNat] at ho41; rw [← Ny177.out] at ho41)); have n0_ := Aside0.mk (Kd.R_elder' (by exact rz HO_6) (Kd.R_base ho41) hb); have n1_ := Aside0.mk (Kd.R_lower (Kd.R_new' ho41 (Kd.R_lt (by exact rz HO_6))) (keep_size (w := w) (g := g) (row := none) (by exact kz HK))); have n2_ := Aside0.mk (IsS32.below (by repeat (first | (with_reducible first | exact HI1.out | apply IsS32.alloc | apply IsS32.drewN | apply IsS32.drew | apply IsS32.set_0 | apply IsS32.set_1 | apply IsS32.set_2 | apply IsS32.set_3) | exact HI1.out)) hb); have n3_ := Aside0.mk (KeepBut.trans (by exact kz HK) (KeepBut.of_below hb g none) (.inl rfl)); have n4_ := Aside0.mk (below_step (by exact b1 HB (Aside0.mk (IsS32.ge HI1.out))) hb); clear HO_6; clear HI1; clear HK; clear HB; have HO_6 := n0_; have HO179 := n1_; have HI1 := n2_; have HK := n3_; have HB := n4_; clear n0_ n1_ n2_ n3_ n4_; clear hb ho41)))
          go_ret2
          exact ⟨_, by first | rfl | (simp [errW_none, errW_some] <;> rfl) | (simp [*, errW_none, errW_some] <;> rfl), by (with_reducible repeat (first | apply Kd.R_alloc | apply Kd.R_drewN | apply Kd.R_drew)); exact Kd.R_mono HO179.out (fun _ hk => trivial), by exact b1 HB (Aside0.mk (IsS32.ge HI1.out))⟩
        · replace c38 := Bool.eq_false_iff.mpr c38
          subst c38
          have H1 : (some (x6_3, x2001_3)) = some (r1, r2) := by rw [if_neg (show ¬ (false = true) by decide)] at H; exact H
          clear H
          have H := H1
          clear H1
          simp only [Option.some.injEq, Prod.mk.injEq] at H
          obtain ⟨rfl, rfl⟩ := H
          obtain ⟨HGz42, hgz42⟩ := HI1.out
          have hcz42_0 := cellS32_0 HGz42
          have hcz42_1 := cellS32_1 HGz42
          have hcz42_2 := cellS32_2 HGz42
          have hcz42_3 := cellS32_3 HGz42
          have hfz42_0 := blk_frozen HGz42 0
          have hfz42_1 := blk_frozen HGz42 1
          have hfz42_2 := blk_frozen HGz42 2
          have hfz42_3 := blk_frozen HGz42 3
          clear HGz42 hgz42
          go_wp2
          repeat (go_quiet (fail); try go_wp2)
          go_ret2
          exact ⟨_, by first | rfl | (simp [errW_none, errW_some] <;> rfl) | (simp [*, errW_none, errW_some] <;> rfl), by (with_reducible repeat (first | apply Kd.R_alloc | apply Kd.R_drewN | apply Kd.R_drew)); exact HO_6.out, by exact b1 HB (Aside0.mk (IsS32.ge HI1.out))⟩


end Go.Proofs.Ythdbjegppeekoaa.P
