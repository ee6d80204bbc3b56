import Derived.Test.YtnkgmcgbbldkgaaPrFnExactBaseDrop5
import Derived.ProofKit
import Derived.SizedLaws
/- Texts of this claim, one behind the other: words on worlds and rows, printed functions and their walks, plain lemmas. -/
namespace Go.Proofs.Ytnkgmcgbbldkgaa.P
open Go.RowKit Go.Proofs.YtnkgmcgbbldkgaaW.PrintWords Go.Proofs.YtnkgmcgbbldkgaaW.PrintLast Go.Proofs.YtnkgmcgbbldkgaaW.PrintMore
attribute [local go_sem] max2_int min2_int max_two min_two max_three min_three max_four min_four   -- for this text's walks alone
set_option linter.unusedVariables false
set_option linter.unusedSimpArgs false
set_option maxHeartbeats 8000000 in
set_option maxRecDepth 100000 in
theorem impl_BaseDrop.calls (k : Nat) (a0_0 : Int) (A0_1 : Option Addr) (c0_1 : Nat) (l0_1 : List (S32)) (a1 : ByteArray) (r1 : Int) (r2 : List (S32)) (r3 : Bool) (w : World) (hr0_1 : Kd.C k32 w A0_1 l0_1.length l0_1) (hc0_1 : l0_1.length ≤ c0_1) (h : impl_BaseDrop.f k a0_0 l0_1 a1 = some (r1, r2, r3)) :
    Calls Try.prog 35 #[.agg #[.int .i64 a0_0, .slice A0_1 l0_1.length c0_1], .string a1] w fun e w' => ∃ v1_ : Value, e = .returned (.tuple #[.agg #[.int .i64 r1, v1_], .bool r3]) ∧ Kd.S k32 32 w' w.heap.size (fun _ => True) v1_ r2 ∧ Below w.heap.size w w' := by
  have hu := Try.underlying46; have HR := zq9 hr0_1; have HC := zq9 hc0_1; clear hr0_1 hc0_1
  have HB := zq9 (Below.refl w.heap.size w)
  have HT := zq9 (Ok.start w)
  unfold impl_BaseDrop.f at h
  obtain ⟨t, H1, h⟩ := Option.bind_eq_some_iff.mp h
  replace H1 := zq9 H1
  cases t with
  | false =>
    replace h := (if_neg (by decide)).symm.trans h
    obtain ⟨rfl, rfl, rfl⟩ : 0 = r1 ∧ [] = r2 ∧ false = r3 := by injection h with h; injection h with h1 h2; injection h2 with h2 h3; exact ⟨h1, h2, h3⟩
    clear h
    go_enter Try.func35, Try.ntmps35
    go_wp2_with (first
      | ((with_reducible refine zq25 (N := 2) rfl ?_); refine bx 2 #[.int .i64 a0_0, .slice A0_1 l0_1.length c0_1] 46 ?_; intro p2 hg w1 hbox hb; have n0_ := zq9 (HT.out.box hg hbox hb); have n1_ := zq9 (zq27 HB.out hb); clear HT HB hbox hg hb; have HT := n0_; have HB := n1_; clear n0_ n1_)
      | ((with_reducible refine zq25 (N := 4) rfl ?_); refine bx 4 #[.int .i64 0, .slice none 0 0] 46 ?_; intro p4 hg w2 hbox hb; have n0_ := zq9 (HT.out.box hg hbox hb); have n1_ := zq9 (zq27 HB.out hb); clear HT HB hbox hg hb; have HT := n0_; have HB := n1_; clear n0_ n1_; have hc0_0 : w2.cell? ⟨p2, 0, none⟩ = some (.int .i64 a0_0) := HT.out.cell 0 0 rfl rfl; have hc0_1 : w2.cell? ⟨p2, 1, none⟩ = some (.slice A0_1 l0_1.length c0_1) := HT.out.cell 0 1 rfl rfl)
      | ((with_reducible refine zq24 (f := 19) rfl ?_); refine gl (some 9) Try.func19 #[.agg #[.int .i64 a0_0, .slice A0_1 l0_1.length c0_1]] ?_; (with_reducible refine (impl_BaseOk.calls k a0_0 _ _ l0_1 false _ ?s1 ?s2 H1.out).mono ?_); (case s1 => exact (zq31 HR.out HB.out)); (case s2 => exact HC.out); rintro e w3 ⟨rfl, hb⟩; refine ⟨_, rfl, ?_⟩; have n0_ := zq9 (HT.out.below hb); have n1_ := zq9 (zq27 HB.out hb); clear hc0_0 hc0_1 HT HB hb; have HT := n0_; have HB := n1_; clear n0_ n1_; have hc1_0 : w3.cell? ⟨p4, 0, none⟩ = some (.int .i64 0) := HT.out.cell 1 0 rfl rfl; have hf1_0 : w3.frozen? ⟨p4, 0, none⟩ = false := HT.out.frozen 1 0 rfl; have hc1_1 : w3.cell? ⟨p4, 1, none⟩ = some (.slice none 0 0) := HT.out.cell 1 1 rfl rfl; have hf1_1 : w3.frozen? ⟨p4, 1, none⟩ = false := HT.out.frozen 1 1 rfl)
      | ((with_reducible refine zq26 (t := 46) (p := 4) rfl ?_); refine store_event (t := 46) (p := 4) (v := ?vo4_) (w1 := ((w3.setCell ⟨p4, 0, none⟩ (.int .i64 0)).setCell ⟨p4, 1, none⟩ (.slice none 0 0))) ?hg ?ho ?hn ?hr ?_; (case ho => rfl); (case hg => rfl); (case hn => rfl); (case hr => first | (go_simp; done) | (go_simp; rfl)); intro w4 hw; have n0_ : Aside0 (Ok w4 w.heap.size [boxE p2 #[.int .i64 a0_0, .slice A0_1 l0_1.length c0_1] 46, boxE p4 #[.int .i64 0, .slice none 0 0] 46]) := ⟨by rw [hw]; exact ((HT.out.store 1 rfl 0 (.int .i64 0)).store 1 rfl 1 (.slice none 0 0))⟩; have n1_ : Aside0 (Below w.heap.size w w4) := ⟨by rw [hw]; exact (zq28 (zq28 HB.out (HT.out.ge 1 rfl)) (HT.out.ge 1 rfl))⟩; clear hc1_0 hf1_0 hc1_1 hf1_1 HT HB hw; have HT := n0_; have HB := n1_; clear n0_ n1_))
    refine bodyPost_ret (results_ct rfl _ _ p4 46 #[.int .i64 0, .slice none 0 0] (0, 0) _ rfl (HT.out.get 1 rfl).2.2.2 hu rfl (by kernel_rfl)) rfl ?_
    exact ⟨_, rfl, Kd.S_nil _ _ _ _ _, HB.out⟩
  | true =>
    replace h := (if_pos rfl).symm.trans h
    obtain ⟨⟨c1, c2⟩, H2, h⟩ := Option.bind_eq_some_iff.mp h
    replace H2 := zq9 H2
    obtain ⟨i, H3, h⟩ := Option.bind_eq_some_iff.mp h
    replace H3 := zq9 H3
    dsimp only at H3 h
    by_cases ci : i < 0
    · replace h := (if_pos ci).symm.trans h
      obtain ⟨rfl, rfl, rfl⟩ : c1 = r1 ∧ c2 = r2 ∧ false = r3 := by injection h with h; injection h with h1 h2; injection h2 with h2 h3; exact ⟨h1, h2, h3⟩
      have cib : decide (i < 0) = true := decide_eq_true ci
      clear h ci
      go_enter Try.func35, Try.ntmps35
      go_wp2_with (first
        | ((with_reducible refine zq25 (N := 2) rfl ?_); refine bx 2 #[.int .i64 a0_0, .slice A0_1 l0_1.length c0_1] 46 ?_; intro p2 hg w1 hbox hb; have n0_ := zq9 (HT.out.box hg hbox hb); have n1_ := zq9 (zq27 HB.out hb); clear HT HB hbox hg hb; have HT := n0_; have HB := n1_; clear n0_ n1_)
        | ((with_reducible refine zq25 (N := 4) rfl ?_); refine bx 4 #[.int .i64 0, .slice none 0 0] 46 ?_; intro p4 hg w2 hbox hb; have n0_ := zq9 (HT.out.box hg hbox hb); have n1_ := zq9 (zq27 HB.out hb); clear HT HB hbox hg hb; have HT := n0_; have HB := n1_; clear n0_ n1_; have hc0_0 : w2.cell? ⟨p2, 0, none⟩ = some (.int .i64 a0_0) := HT.out.cell 0 0 rfl rfl; have hc0_1 : w2.cell? ⟨p2, 1, none⟩ = some (.slice A0_1 l0_1.length c0_1) := HT.out.cell 0 1 rfl rfl)
        | ((with_reducible refine zq24 (f := 19) rfl ?_); refine gl (some 9) Try.func19 #[.agg #[.int .i64 a0_0, .slice A0_1 l0_1.length c0_1]] ?_; (with_reducible refine (impl_BaseOk.calls k a0_0 _ _ l0_1 true _ ?s1 ?s2 H1.out).mono ?_); (case s1 => exact (zq31 HR.out HB.out)); (case s2 => exact HC.out); rintro e w3 ⟨rfl, hb⟩; refine ⟨_, rfl, ?_⟩; have n0_ := zq9 (HT.out.below hb); have n1_ := zq9 (zq27 HB.out hb); clear hc0_0 hc0_1 HT HB hb; have HT := n0_; have HB := n1_; clear n0_ n1_; have hc0_0 : w3.cell? ⟨p2, 0, none⟩ = some (.int .i64 a0_0) := HT.out.cell 0 0 rfl rfl; have hc0_1 : w3.cell? ⟨p2, 1, none⟩ = some (.slice A0_1 l0_1.length c0_1) := HT.out.cell 0 1 rfl rfl; have HP4 := zq9 (show p4 < w3.heap.size from (HT.out.get 1 rfl).2.2.1))
        | ((with_reducible refine zq24 (f := 75) rfl ?_); refine gl (some 13) Try.func75 #[.agg #[.int .i64 a0_0, .slice A0_1 l0_1.length c0_1]] ?_; (with_reducible refine (impl_cloneBase.calls k a0_0 _ _ l0_1 c1 c2 _ ?s1 ?s2 H2.out).mono ?_); (case s1 => exact (zq31 HR.out HB.out)); (case s2 => exact HC.out); rintro e w4 ⟨v0, rfl, ho, hb⟩; refine ⟨_, rfl, ?_⟩; obtain ⟨Ac, cc, rfl⟩ := Kd.S_slice ho; have n0_ := zq9 (HT.out.row HB.out.size ho hb); have n1_ := zq9 (zq27 HB.out hb); clear hc0_0 hc0_1 HT HB ho hb; have HT := n0_; have HB := n1_; clear n0_ n1_)
        | ((with_reducible refine zq25 (N := 6) rfl ?_); refine bx 6 #[.int .i64 0, .slice none 0 0] 46 ?_; intro p6 hg w5 hbox hb; have HG6 := zq9 (show w4.heap.size ≤ p6 by rw [hg]; exact (HT.out.get 2 rfl).2.2.1); have n0_ := zq9 (HT.out.box hg hbox hb); have n1_ := zq9 (zq27 HB.out hb); clear HT HB hbox hg hb; have HT := n0_; have HB := n1_; clear n0_ n1_; have hc3_0 : w5.cell? ⟨p6, 0, none⟩ = some (.int .i64 0) := HT.out.cell 3 0 rfl rfl; have hf3_0 : w5.frozen? ⟨p6, 0, none⟩ = false := HT.out.frozen 3 0 rfl; have hc3_1 : w5.cell? ⟨p6, 1, none⟩ = some (.slice none 0 0) := HT.out.cell 3 1 rfl rfl; have hf3_1 : w5.frozen? ⟨p6, 1, none⟩ = false := HT.out.frozen 3 1 rfl)
        | ((with_reducible refine zq26 (t := 46) (p := 6) rfl ?_); refine store_event (t := 46) (p := 6) (v := ?vo5_) (w1 := ((w5.setCell ⟨p6, 0, none⟩ (.int .i64 c1)).setCell ⟨p6, 1, none⟩ (.slice Ac c2.length cc))) ?hg ?ho ?hn ?hr ?_; (case ho => rfl); (case hg => rfl); (case hn => rfl); (case hr => first | (go_simp; done) | (go_simp; rfl)); intro w6 hw; have n0_ : Aside0 (Ok w6 w.heap.size [boxE p2 #[.int .i64 a0_0, .slice A0_1 l0_1.length c0_1] 46, boxE p4 #[.int .i64 0, .slice none 0 0] 46, rowE k32 32 w.heap.size (.slice Ac c2.length cc) c2 w3.heap.size w4.heap.size, boxE p6 #[.int .i64 c1, .slice Ac c2.length cc] 46]) := ⟨by rw [hw]; exact ((HT.out.store 3 rfl 0 (.int .i64 c1)).store 3 rfl 1 (.slice Ac c2.length cc))⟩; have n1_ : Aside0 (Below w.heap.size w w6) := ⟨by rw [hw]; exact (zq28 (zq28 HB.out (HT.out.ge 3 rfl)) (HT.out.ge 3 rfl))⟩; clear hc3_0 hf3_0 hc3_1 hf3_1 HT HB hw; have HT := n0_; have HB := n1_; clear n0_ n1_; have hc3_0 : w6.cell? ⟨p6, 0, none⟩ = some (.int .i64 c1) := HT.out.cell 3 0 rfl rfl; have hc3_1 : w6.cell? ⟨p6, 1, none⟩ = some (.slice Ac c2.length cc) := HT.out.cell 3 1 rfl rfl)
        | ((with_reducible refine zq24 (f := 67) rfl ?_); refine gl (some 16) Try.func67 #[.agg #[.int .i64 c1, .slice Ac c2.length cc], .string a1] ?_; (with_reducible refine (impl_Base_at.calls c1 _ _ c2 a1 i _ ?s1 ?s2 H3.out).mono ?_); (case s1 => exact HT.out.sC 2 rfl); (case s2 => exact HT.out.sle 2 rfl); rintro e w7 ⟨rfl, hb⟩; refine ⟨_, rfl, ?_⟩; have n0_ := zq9 (HT.out.below hb); have n1_ := zq9 (zq27 HB.out hb); clear hc3_0 hc3_1 HT HB hb; have HT := n0_; have HB := n1_; clear n0_ n1_; have hc3_0 : w7.cell? ⟨p6, 0, none⟩ = some (.int .i64 c1) := HT.out.cell 3 0 rfl rfl; have hf3_0 : w7.frozen? ⟨p6, 0, none⟩ = false := HT.out.frozen 3 0 rfl; have hc3_1 : w7.cell? ⟨p6, 1, none⟩ = some (.slice Ac c2.length cc) := HT.out.cell 3 1 rfl rfl; have hf3_1 : w7.frozen? ⟨p6, 1, none⟩ = false := HT.out.frozen 3 1 rfl; have hc1_0 : w7.cell? ⟨p4, 0, none⟩ = some (.int .i64 0) := HT.out.cell 1 0 rfl rfl; have hf1_0 : w7.frozen? ⟨p4, 0, none⟩ = false := HT.out.frozen 1 0 rfl; have hc1_1 : w7.cell? ⟨p4, 1, none⟩ = some (.slice none 0 0) := HT.out.cell 1 1 rfl rfl; have hf1_1 : w7.frozen? ⟨p4, 1, none⟩ = false := HT.out.frozen 1 1 rfl)
        | ((with_reducible refine zq26 (t := 46) (p := 4) rfl ?_); refine store_event (t := 46) (p := 4) (v := ?vo6_) (w1 := ((w7.setCell ⟨p4, 0, none⟩ (.int .i64 c1)).setCell ⟨p4, 1, none⟩ (.slice Ac c2.length cc))) ?hg ?ho ?hn ?hr ?_; (case ho => rfl); (case hg => rfl); (case hn => rfl); (case hr => first | (go_simp; done) | (go_simp; rfl)); intro w8 hw; have n0_ : Aside0 (Ok w8 w.heap.size [boxE p2 #[.int .i64 a0_0, .slice A0_1 l0_1.length c0_1] 46, boxE p4 #[.int .i64 c1, .slice Ac c2.length cc] 46, rowE k32 32 w.heap.size (.slice Ac c2.length cc) c2 w3.heap.size w4.heap.size, boxE p6 #[.int .i64 c1, .slice Ac c2.length cc] 46]) := ⟨by rw [hw]; exact ((HT.out.store 1 rfl 0 (.int .i64 c1)).store 1 rfl 1 (.slice Ac c2.length cc))⟩; have n1_ : Aside0 (Below w.heap.size w w8) := ⟨by rw [hw]; exact (zq28 (zq28 HB.out (HT.out.ge 1 rfl)) (HT.out.ge 1 rfl))⟩; clear hc3_0 hf3_0 hc3_1 hf3_1 hc1_0 hf1_0 hc1_1 hf1_1 HT HB hw; have HT := n0_; have HB := n1_; clear n0_ n1_))
      refine bodyPost_ret (results_ct rfl _ _ p4 46 #[.int .i64 c1, .slice Ac c2.length cc] (0, 0) _ rfl (HT.out.get 1 rfl).2.2.2 hu rfl (by kernel_rfl)) rfl ?_
      exact ⟨_, rfl, Kd.S_mono (HT.out.s 2 rfl) (fun _ _ => trivial), HB.out⟩
    · replace h := (if_neg ci).symm.trans h
      have cib : decide (i < 0) = false := decide_eq_false ci
      clear ci
      obtain ⟨d, H4, h⟩ := Option.bind_eq_some_iff.mp h
      replace H4 := zq9 H4
      by_cases cl : d.length < 1172812402961
      case neg => exact absurd ((if_neg cl).symm.trans h) (by simp)
      obtain ⟨rfl, rfl, rfl⟩ : c1 = r1 ∧ d = r2 ∧ true = r3 := by have h := (if_pos cl).symm.trans h; injection h with h; injection h with h1 h2; injection h2 with h2 h3; exact ⟨h1, h2, h3⟩
      have HCL := zq9 cl; clear h cl
      go_enter Try.func35, Try.ntmps35
      go_wp2_with (first
        | ((with_reducible refine zq25 (N := 2) rfl ?_); refine bx 2 #[.int .i64 a0_0, .slice A0_1 l0_1.length c0_1] 46 ?_; intro p2 hg w1 hbox hb; have n0_ := zq9 (HT.out.box hg hbox hb); have n1_ := zq9 (zq27 HB.out hb); clear HT HB hbox hg hb; have HT := n0_; have HB := n1_; clear n0_ n1_)
        | ((with_reducible refine zq25 (N := 4) rfl ?_); refine bx 4 #[.int .i64 0, .slice none 0 0] 46 ?_; intro p4 hg w2 hbox hb; have n0_ := zq9 (HT.out.box hg hbox hb); have n1_ := zq9 (zq27 HB.out hb); clear HT HB hbox hg hb; have HT := n0_; have HB := n1_; clear n0_ n1_; have hc0_0 : w2.cell? ⟨p2, 0, none⟩ = some (.int .i64 a0_0) := HT.out.cell 0 0 rfl rfl; have hc0_1 : w2.cell? ⟨p2, 1, none⟩ = some (.slice A0_1 l0_1.length c0_1) := HT.out.cell 0 1 rfl rfl)
        | ((with_reducible refine zq24 (f := 19) rfl ?_); refine gl (some 9) Try.func19 #[.agg #[.int .i64 a0_0, .slice A0_1 l0_1.length c0_1]] ?_; (with_reducible refine (impl_BaseOk.calls k a0_0 _ _ l0_1 true _ ?s1 ?s2 H1.out).mono ?_); (case s1 => exact (zq31 HR.out HB.out)); (case s2 => exact HC.out); rintro e w3 ⟨rfl, hb⟩; refine ⟨_, rfl, ?_⟩; have n0_ := zq9 (HT.out.below hb); have n1_ := zq9 (zq27 HB.out hb); clear hc0_0 hc0_1 HT HB hb; have HT := n0_; have HB := n1_; clear n0_ n1_; have hc0_0 : w3.cell? ⟨p2, 0, none⟩ = some (.int .i64 a0_0) := HT.out.cell 0 0 rfl rfl; have hc0_1 : w3.cell? ⟨p2, 1, none⟩ = some (.slice A0_1 l0_1.length c0_1) := HT.out.cell 0 1 rfl rfl; have HP4 := zq9 (show p4 < w3.heap.size from (HT.out.get 1 rfl).2.2.1))
        | ((with_reducible refine zq24 (f := 75) rfl ?_); refine gl (some 13) Try.func75 #[.agg #[.int .i64 a0_0, .slice A0_1 l0_1.length c0_1]] ?_; (with_reducible refine (impl_cloneBase.calls k a0_0 _ _ l0_1 c1 c2 _ ?s1 ?s2 H2.out).mono ?_); (case s1 => exact (zq31 HR.out HB.out)); (case s2 => exact HC.out); rintro e w4 ⟨v0, rfl, ho, hb⟩; refine ⟨_, rfl, ?_⟩; obtain ⟨Ac, cc, rfl⟩ := Kd.S_slice ho; have n0_ := zq9 (HT.out.row HB.out.size ho hb); have n1_ := zq9 (zq27 HB.out hb); clear hc0_0 hc0_1 HT HB ho hb; have HT := n0_; have HB := n1_; clear n0_ n1_)
        | ((with_reducible refine zq25 (N := 6) rfl ?_); refine bx 6 #[.int .i64 0, .slice none 0 0] 46 ?_; intro p6 hg w5 hbox hb; have HG6 := zq9 (show w4.heap.size ≤ p6 by rw [hg]; exact (HT.out.get 2 rfl).2.2.1); have n0_ := zq9 (HT.out.box hg hbox hb); have n1_ := zq9 (zq27 HB.out hb); clear HT HB hbox hg hb; have HT := n0_; have HB := n1_; clear n0_ n1_; have hc3_0 : w5.cell? ⟨p6, 0, none⟩ = some (.int .i64 0) := HT.out.cell 3 0 rfl rfl; have hf3_0 : w5.frozen? ⟨p6, 0, none⟩ = false := HT.out.frozen 3 0 rfl; have hc3_1 : w5.cell? ⟨p6, 1, none⟩ = some (.slice none 0 0) := HT.out.cell 3 1 rfl rfl; have hf3_1 : w5.frozen? ⟨p6, 1, none⟩ = false := HT.out.frozen 3 1 rfl)
        | ((with_reducible refine zq26 (t := 46) (p := 6) rfl ?_); refine store_event (t := 46) (p := 6) (v := ?vo7_) (w1 := ((w5.setCell ⟨p6, 0, none⟩ (.int .i64 c1)).setCell ⟨p6, 1, none⟩ (.slice Ac c2.length cc))) ?hg ?ho ?hn ?hr ?_; (case ho => rfl); (case hg => rfl); (case hn => rfl); (case hr => first | (go_simp; done) | (go_simp; rfl)); intro w6 hw; have n0_ : Aside0 (Ok w6 w.heap.size [boxE p2 #[.int .i64 a0_0, .slice A0_1 l0_1.length c0_1] 46, boxE p4 #[.int .i64 0, .slice none 0 0] 46, rowE k32 32 w.heap.size (.slice Ac c2.length cc) c2 w3.heap.size w4.heap.size, boxE p6 #[.int .i64 c1, .slice Ac c2.length cc] 46]) := ⟨by rw [hw]; exact ((HT.out.store 3 rfl 0 (.int .i64 c1)).store 3 rfl 1 (.slice Ac c2.length cc))⟩; have n1_ : Aside0 (Below w.heap.size w w6) := ⟨by rw [hw]; exact (zq28 (zq28 HB.out (HT.out.ge 3 rfl)) (HT.out.ge 3 rfl))⟩; clear hc3_0 hf3_0 hc3_1 hf3_1 HT HB hw; have HT := n0_; have HB := n1_; clear n0_ n1_; have hc3_0 : w6.cell? ⟨p6, 0, none⟩ = some (.int .i64 c1) := HT.out.cell 3 0 rfl rfl; have hc3_1 : w6.cell? ⟨p6, 1, none⟩ = some (.slice Ac c2.length cc) := HT.out.cell 3 1 rfl rfl)
        | ((with_reducible refine zq24 (f := 67) rfl ?_); refine gl (some 16) Try.func67 #[.agg #[.int .i64 c1, .slice Ac c2.length cc], .string a1] ?_; (with_reducible refine (impl_Base_at.calls c1 _ _ c2 a1 i _ ?s1 ?s2 H3.out).mono ?_); (case s1 => exact HT.out.sC 2 rfl); (case s2 => exact HT.out.sle 2 rfl); rintro e w7 ⟨rfl, hb⟩; refine ⟨_, rfl, ?_⟩; have n0_ := zq9 (HT.out.below hb); have n1_ := zq9 (zq27 HB.out hb); clear hc3_0 hc3_1 HT HB hb; have HT := n0_; have HB := n1_; clear n0_ n1_; have hc3_0 : w7.cell? ⟨p6, 0, none⟩ = some (.int .i64 c1) := HT.out.cell 3 0 rfl rfl; have hf3_0 : w7.frozen? ⟨p6, 0, none⟩ = false := HT.out.frozen 3 0 rfl; have hc3_1 : w7.cell? ⟨p6, 1, none⟩ = some (.slice Ac c2.length cc) := HT.out.cell 3 1 rfl rfl; have hf3_1 : w7.frozen? ⟨p6, 1, none⟩ = false := HT.out.frozen 3 1 rfl; have hc1_0 : w7.cell? ⟨p4, 0, none⟩ = some (.int .i64 0) := HT.out.cell 1 0 rfl rfl; have hf1_0 : w7.frozen? ⟨p4, 0, none⟩ = false := HT.out.frozen 1 0 rfl; have hc1_1 : w7.cell? ⟨p4, 1, none⟩ = some (.slice none 0 0) := HT.out.cell 1 1 rfl rfl; have hf1_1 : w7.frozen? ⟨p4, 1, none⟩ = false := HT.out.frozen 1 1 rfl)
        | ((with_reducible refine zq25 (N := 20) rfl ?_); have HLE := zq9 (show w4.heap.size ≤ w7.heap.size from (HT.out.get 2 rfl).2.2.1); have HP6 := zq9 (show p6 < w7.heap.size from (HT.out.get 3 rfl).2.2.1); refine Kd.R_lit (Kd.tag (fun _ => 0) k32) _ 32 ?hg (N := 20) ?hd (xs := ([] : List (S32 × Nat))) (inner := []) (ok := fun _ => True) (okp := fun _ => True) ?hr ?hp (fun _ hk => hk) trivial (Below.refl _ _) (Nat.le_refl _) (by simp) ?_; (case hd => rfl); (case hg => rfl); (case hr => first | (go_simp; done) | (go_simp; rfl)); (case hp => exact (Reps.none _ _)); intro vl w8 ho hb hg_ hnew_; clear hg_ hnew_; have n0_ := zq9 (HT.out.rowr HB.out.size ho hb); have n1_ := zq9 (zq27 HB.out hb); clear hc3_0 hf3_0 hc3_1 hf3_1 hc1_0 hf1_0 hc1_1 hf1_1 HT HB ho hb; have HT := n0_; have HB := n1_; clear n0_ n1_; have hc3_0 : w8.cell? ⟨p6, 0, none⟩ = some (.int .i64 c1) := HT.out.cell 3 0 rfl rfl; have hc3_1 : w8.cell? ⟨p6, 1, none⟩ = some (.slice Ac c2.length cc) := HT.out.cell 3 1 rfl rfl)
        | ((with_reducible refine zq24 (f := 78) rfl ?_); refine gl (some 26) Try.func78 #[.slice Ac c2.length cc, .int .i64 i, .int .i64 (wrap64 (i + 1))] ?_; (with_reducible refine (slices_Delete_impl_Entry_impl_Entry.calls (fun k_ => w3.heap.size ≤ k_ ∧ k_ < w4.heap.size) _ c2 i (wrap64 (i + 1)) d w _ ?s1 ?s2 H4.out).mono ?_); (case s1 => exact HB.out); (case s2 => exact HT.out.s 2 rfl); rintro e w9 ⟨v0, rfl, ho, hb, hk⟩; refine ⟨_, rfl, ?_⟩; obtain ⟨Ad, cd, rfl⟩ := Kd.S_slice ho; have n0_ := zq9 (HT.out.markV 2 rfl ho hk); have n1_ := zq9 hb; clear hc3_0 hc3_1 HT HB ho hb hk; have HT := n0_; have HB := n1_; clear n0_ n1_; obtain ⟨ft, hrd⟩ := app_rows (HT.out.s 2 rfl); have HRD := zq9 hrd; clear hrd)
        | ((with_reducible refine gate_builtin (b := .append) (xs := #[.tmp 20, .tmp 26]) rfl ?_); at_builtin; refine Kd.R_append_rows (Kd.tag ft k32) (w0 := w) w.heap.size rfl (.tmp 20) (.tmp 26) 44 32 (.agg #[.string ⟨#[]⟩, .int .i64 0, .int .i64 0, .string ⟨#[]⟩, .slice none 0 0, .slice none 0 0, .slice none 0 0]) 120 rfl Try.underlying44 info32 rfl (show 0 < k32.sz by decide) (by omega) vl ([] : List (S32 × Nat)) d.zipIdx _ _ _ (fun k_ => (w3.heap.size ≤ k_ ∧ k_ < w4.heap.size) ∨ w7.heap.size ≤ k_) (fun k_ => (w3.heap.size ≤ k_ ∧ k_ < w4.heap.size) ∧ some k_ ≠ (Value.slice Ad d.length cd).ownBlock) rfl rfl ?aO HRD.out (fun _ _ h => h) ?aK ?aF HB.out HB.out.size ?aL ?_; (case aO => exact Kd.R_mono (R_nil_any (d := Kd.tag (fun _ => 0) k32) rfl (HT.out.rr 4 rfl)) (fun _ hk => .inr hk.1)); (case aK => exact fun k_ hk => ⟨.inl hk.1, fun e_ => by have h1 := ((HT.out.rr 4 rfl).1 k_ e_.symm).1; have h2 := HLE.out; have h3 := hk.1.2; omega⟩); (case aF => exact fun k_ hk => .inr (Nat.le_trans (Nat.le_trans (HT.out.get 4 rfl).2.1 (HT.out.get 4 rfl).2.2.1) hk)); (case aL => have h1 := HCL.out; simp only [List.length_nil, Nat.zero_add]; omega); intro v1 w10 ho hb hgr hat; obtain ⟨An, cn, en⟩ := Kd.S_slice (show Kd.S k32 32 w10 w.heap.size (fun k_ => (w3.heap.size ≤ k_ ∧ k_ < w4.heap.size) ∨ w7.heap.size ≤ k_) v1 d from ⟨ft, ho⟩); subst en; have HS := zq9 (show Kd.S k32 32 w10 w.heap.size (fun k_ => (w3.heap.size ≤ k_ ∧ k_ < w4.heap.size) ∨ w7.heap.size ≤ k_) (.slice An d.length cn) d from ⟨ft, ho⟩); have hne : ∀ g, g < w7.heap.size → some g ≠ vl.ownBlock := (fun g hg e_ => by have h1 := ((HT.out.rr 4 rfl).1 g e_.symm).1; omega); have BK6 := zq9 (blk_grown (HT.out.get 3 rfl).2.2.2 hgr (hne _ HP6.out)); have BK4 := zq9 (blk_grown (HT.out.get 1 rfl).2.2.2 hgr (hne _ (by have h1 := HP4.out; have h2 := HG6.out; have h3 := HP6.out; have h4 : w3.heap.size ≤ w4.heap.size := (HT.out.get 2 rfl).2.1; exact Nat.lt_of_lt_of_le h1 (Nat.le_trans h4 (Nat.le_trans h2 (Nat.le_of_lt h3)))))); have GE4 := zq9 (HT.out.ge 1 rfl); have GE6 := zq9 (HT.out.ge 3 rfl); have HLH := zq9 (show w3.heap.size ≤ w4.heap.size from (HT.out.get 2 rfl).2.1); clear HB hne; have HB := zq9 hb; clear ho hb hgr hat HT; have hc6 : w10.cell? ⟨p6, 1, none⟩ = some (.slice Ac c2.length cc) := bc BK6 1; have hf6 : w10.frozen? ⟨p6, 1, none⟩ = false := zq6 BK6.out 1)
        | ((with_reducible refine zq26 (t := 44) (p := 28) rfl ?_); refine store_event (t := 44) (p := 28) (v := ?vo8_) (w1 := (w10.setCell ⟨p6, 1, none⟩ (.slice An d.length cn))) ?hg ?ho ?hn ?hr ?_; (case ho => rfl); (case hg => rfl); (case hn => rfl); (case hr => first | (go_simp; done) | (go_simp; rfl)); intro w11 hw; have n0_ : Aside0 (w11.heap[p6]? = some (.cells #[.int .i64 c1, .slice An d.length cn] 46 (0, 0))) := ⟨by rw [hw]; exact blk_set BK6.out 1 _⟩; have n1_ : Aside0 (w11.heap[p4]? = some (.cells #[.int .i64 0, .slice none 0 0] 46 (0, 0))) := ⟨by rw [hw]; exact blk_far BK4.out (Nat.ne_of_lt (Nat.lt_of_lt_of_le HP4.out (Nat.le_trans HLH.out HG6.out))) _⟩; have n2_ : Aside0 (Kd.S k32 32 w11 w.heap.size (fun k_ => (w3.heap.size ≤ k_ ∧ k_ < w4.heap.size) ∨ w7.heap.size ≤ k_) (.slice An d.length cn) d) := ⟨by rw [hw]; exact Kd.S_far HS.out (fun k_ hk_ => hk_.elim (fun h_ => Nat.ne_of_lt (Nat.lt_of_lt_of_le h_.2 HG6.out)) (fun h_ => Nat.ne_of_gt (Nat.lt_of_lt_of_le HP6.out h_))) _⟩; have n3_ : Aside0 (Below w.heap.size w w11) := ⟨by rw [hw]; exact zq28 HB.out GE6.out⟩; clear hc6 hf6 hw BK6 BK4 HS HB; have BK6 := n0_; have BK4 := n1_; have HS := n2_; have HB := n3_; clear n0_ n1_ n2_ n3_; have hc60 : w11.cell? ⟨p6, 0, none⟩ = some (.int .i64 c1) := bc BK6 0; have hc61 : w11.cell? ⟨p6, 1, none⟩ = some (.slice An d.length cn) := bc BK6 1; have hc40 : w11.cell? ⟨p4, 0, none⟩ = some (.int .i64 0) := bc BK4 0; have hc41 : w11.cell? ⟨p4, 1, none⟩ = some (.slice none 0 0) := bc BK4 1; have hf40 : w11.frozen? ⟨p4, 0, none⟩ = false := zq6 BK4.out 0; have hf41 : w11.frozen? ⟨p4, 1, none⟩ = false := zq6 BK4.out 1)
        | ((with_reducible refine zq26 (t := 46) (p := 4) rfl ?_); refine store_event (t := 46) (p := 4) (v := ?vo9_) (w1 := ((w11.setCell ⟨p4, 0, none⟩ (.int .i64 c1)).setCell ⟨p4, 1, none⟩ (.slice An d.length cn))) ?hg ?ho ?hn ?hr ?_; (case ho => rfl); (case hg => rfl); (case hn => rfl); (case hr => first | (go_simp; done) | (go_simp; rfl)); intro w12 hw; have n1_ : Aside0 (w12.heap[p4]? = some (.cells #[.int .i64 c1, .slice An d.length cn] 46 (0, 0))) := ⟨by rw [hw]; exact blk_set (blk_set BK4.out 0 _) 1 _⟩; have n2_ : Aside0 (Kd.S k32 32 w12 w.heap.size (fun k_ => (w3.heap.size ≤ k_ ∧ k_ < w4.heap.size) ∨ w7.heap.size ≤ k_) (.slice An d.length cn) d) := ⟨by rw [hw]; exact Kd.S_far (Kd.S_far HS.out (fun k_ hk_ => hk_.elim (fun h_ => Nat.ne_of_gt (Nat.lt_of_lt_of_le HP4.out h_.1)) (fun h_ => Nat.ne_of_gt (Nat.lt_of_lt_of_le (Nat.lt_of_lt_of_le HP4.out (Nat.le_trans HLH.out HG6.out)) (Nat.le_trans (Nat.le_of_lt HP6.out) h_)))) _) (fun k_ hk_ => hk_.elim (fun h_ => Nat.ne_of_gt (Nat.lt_of_lt_of_le HP4.out h_.1)) (fun h_ => Nat.ne_of_gt (Nat.lt_of_lt_of_le (Nat.lt_of_lt_of_le HP4.out (Nat.le_trans HLH.out HG6.out)) (Nat.le_trans (Nat.le_of_lt HP6.out) h_)))) _⟩; have n3_ : Aside0 (Below w.heap.size w w12) := ⟨by rw [hw]; exact zq28 (zq28 HB.out GE4.out) GE4.out⟩; clear hc60 hc61 hc40 hc41 hf40 hf41 hw BK4 BK6 HS HB; have BK4 := n1_; have HS := n2_; have HB := n3_; clear n1_ n2_ n3_))
      refine bodyPost_ret (results_ct rfl _ _ p4 46 #[.int .i64 c1, .slice An d.length cn] (0, 0) _ rfl BK4.out hu rfl (by kernel_rfl)) rfl ?_
      exact ⟨_, rfl, Kd.S_mono HS.out (fun _ _ => trivial), HB.out⟩
set_option maxHeartbeats 8000000 in
set_option maxRecDepth 100000 in
theorem laws_FnExactBaseDrop.calls_t (k : Nat) (a0_0 : Int) (A0_1 : Option Addr) (c0_1 : Nat) (l0_1 : List (S26)) (a1 : ByteArray) (r : Bool) (w : World) (hr0_1 : Kd.C k26 w A0_1 l0_1.length l0_1) (hc0_1 : l0_1.length ≤ c0_1) (h : laws_FnExactBaseDrop.f k a0_0 l0_1 a1 = some r) (hr_ : r = true) :
    Calls Try.prog 9 #[.agg #[.int .i64 a0_0, .slice A0_1 l0_1.length c0_1], .string a1] w fun e w' => e = .returned (.bool r) ∧ Below w.heap.size w w' := by
  subst hr_; have hu41 := Try.underlying41; have hu46 := Try.underlying46; have HR := zq9 hr0_1; have HC := zq9 hc0_1; clear hr0_1 hc0_1
  have HB := zq9 (Below.refl w.heap.size w)
  have HT := zq9 (Ok.start w)
  unfold laws_FnExactBaseDrop.f at h
  by_cases cs : (a1.size : Int) > 1048576
  · have csb : decide (1048576 < (a1.size : Int)) = true := decide_eq_true cs
    have csc : decide (1048576 < a1.size) = true := decide_eq_true (by omega)
    clear h
    go_enter Try.func9, Try.ntmps9
    go_wp2_with (first
      | ((with_reducible refine zq25 (N := 2) rfl ?_); refine bx 2 #[.int .i64 a0_0, .slice A0_1 l0_1.length c0_1] 41 ?_; intro p2 hg w1 hbox hb; have n0_ := zq9 (HT.out.box hg hbox hb); have n1_ := zq9 (zq27 HB.out hb); clear HT HB hbox hg hb; have HT := n0_; have HB := n1_; clear n0_ n1_))
    go_ret
    exact ⟨rfl, HB.out⟩
  rw [if_neg cs] at h
  have csb : decide (1048576 < (a1.size : Int)) = false := decide_eq_false cs
  have csc : decide (1048576 < a1.size) = false := decide_eq_false (by omega)
  clear cs
  obtain ⟨t0, H0, h⟩ := Option.bind_eq_some_iff.mp h
  replace H0 := zq9 H0
  by_cases c0 : t0 < 0
  · have c0b : decide (t0 < 0) = true := decide_eq_true c0
    clear h
    go_enter Try.func9, Try.ntmps9
    go_wp2_with (first
      | ((with_reducible refine zq25 (N := 2) rfl ?_); refine bx 2 #[.int .i64 a0_0, .slice A0_1 l0_1.length c0_1] 41 ?_; intro p2 hg w1 hbox hb; have n0_ := zq9 (HT.out.box hg hbox hb); have n1_ := zq9 (zq27 HB.out hb); clear HT HB hbox hg hb; have HT := n0_; have HB := n1_; clear n0_ n1_; have hc0_0 : w1.cell? ⟨p2, 0, none⟩ = some (.int .i64 a0_0) := HT.out.cell 0 0 rfl rfl; have hc0_1 : w1.cell? ⟨p2, 1, none⟩ = some (.slice A0_1 l0_1.length c0_1) := HT.out.cell 0 1 rfl rfl)
      | ((with_reducible refine zq24 (f := 16) rfl ?_); refine gl (some 21) Try.func16 #[.agg #[.int .i64 a0_0, .slice A0_1 l0_1.length c0_1], .int .i64 1048576] ?_; (with_reducible refine (laws_szBase.calls k a0_0 _ _ l0_1 1048576 t0 _ ?s1 ?s2 H0.out).mono ?_); (case s1 => exact (zq31 HR.out HB.out)); (case s2 => exact HC.out); rintro e w2 ⟨rfl, hb⟩; refine ⟨_, rfl, ?_⟩; have n0_ := zq9 (HT.out.below hb); have n1_ := zq9 (zq27 HB.out hb); clear hc0_0 hc0_1 HT HB hb; have HT := n0_; have HB := n1_; clear n0_ n1_; have hc0_0 : w2.cell? ⟨p2, 0, none⟩ = some (.int .i64 a0_0) := HT.out.cell 0 0 rfl rfl; have hc0_1 : w2.cell? ⟨p2, 1, none⟩ = some (.slice A0_1 l0_1.length c0_1) := HT.out.cell 0 1 rfl rfl))
    go_ret
    exact ⟨rfl, HB.out⟩
  rw [if_neg c0] at h
  have c0b : decide (t0 < 0) = false := decide_eq_false c0
  clear c0
  obtain ⟨⟨b1, b2⟩, H1, h⟩ := Option.bind_eq_some_iff.mp h
  replace H1 := zq9 H1
  obtain ⟨⟨v1, v2, v3⟩, H2, h⟩ := Option.bind_eq_some_iff.mp h
  replace H2 := zq9 H2
  obtain ⟨⟨x1, x2⟩, H3, h⟩ := Option.bind_eq_some_iff.mp h
  replace H3 := zq9 H3
  obtain ⟨⟨g1, g2, g3⟩, H4, h⟩ := Option.bind_eq_some_iff.mp h
  replace H4 := zq9 H4
  obtain ⟨e1, H5, h⟩ := Option.bind_eq_some_iff.mp h
  replace H5 := zq9 H5
  obtain ⟨rfl, h⟩ := ift h
  obtain ⟨cg, h⟩ := iff_ h
  simp only [bne_iff_ne, ne_eq, Decidable.not_not] at cg
  subst cg
  obtain ⟨⟨y1, y2⟩, H6, h⟩ := Option.bind_eq_some_iff.mp h
  replace H6 := zq9 H6
  obtain ⟨e2, H7, h⟩ := Option.bind_eq_some_iff.mp h
  replace H7 := zq9 H7
  obtain ⟨rfl, h⟩ := ift h
  obtain ⟨⟨m1, m2⟩, H8, h⟩ := Option.bind_eq_some_iff.mp h
  replace H8 := zq9 H8
  obtain ⟨cm, h⟩ := iff_ h
  have cmb : decide (m1 < 0) = false := decide_eq_false cm
  clear cm
  obtain ⟨e3, H9, h⟩ := Option.bind_eq_some_iff.mp h
  replace H9 := zq9 H9
  obtain ⟨rfl, h⟩ := ift h
  obtain ⟨⟨n1, n2⟩, H10, h⟩ := Option.bind_eq_some_iff.mp h
  replace H10 := zq9 H10
  obtain ⟨q, H11, h⟩ := Option.bind_eq_some_iff.mp h
  replace H11 := zq9 H11
  obtain ⟨cq, h⟩ := iff_ h
  have cqb : decide (q < 0) = false := decide_eq_false cq
  clear cq
  obtain ⟨cn, h⟩ := ift h
  dsimp only at cn
  subst cn
  obtain ⟨⟨z1, z2⟩, H12, h⟩ := Option.bind_eq_some_iff.mp h
  replace H12 := zq9 H12
  obtain ⟨⟨h1, h2, h3⟩, H13, h⟩ := Option.bind_eq_some_iff.mp h
  replace H13 := zq9 H13
  obtain ⟨e4, H14, h⟩ := Option.bind_eq_some_iff.mp h
  replace H14 := zq9 H14
  obtain ⟨rfl, h⟩ := ift h
  obtain ⟨ch, h⟩ := iff_ h
  simp only [bne_iff_ne, ne_eq, Decidable.not_not] at ch
  subst ch
  obtain ⟨q2, H15, h⟩ := Option.bind_eq_some_iff.mp h
  replace H15 := zq9 H15
  obtain ⟨cq, h⟩ := iff_ h
  obtain ⟨cn, h⟩ := ift h
  dsimp only at cn
  subst cn; clear h cq
  try dsimp only at H1 H2 H3 H4 H5 H6 H7 H8 H9 H10 H11 H12 H13 H14 H15
  go_enter Try.func9, Try.ntmps9
  go_wp2_with (first
    | ((with_reducible refine zq25 (N := 2) rfl ?_); refine bx 2 #[.int .i64 a0_0, .slice A0_1 l0_1.length c0_1] 41 ?_; intro p2 hg w1 hbox hb; have n0_ := zq9 (HT.out.box hg hbox hb); have n1_ := zq9 (zq27 HB.out hb); clear HT HB hbox hg hb; have HT := n0_; have HB := n1_; clear n0_ n1_; have hc0_0 : w1.cell? ⟨p2, 0, none⟩ = some (.int .i64 a0_0) := HT.out.cell 0 0 rfl rfl; have hc0_1 : w1.cell? ⟨p2, 1, none⟩ = some (.slice A0_1 l0_1.length c0_1) := HT.out.cell 0 1 rfl rfl)
    | ((with_reducible refine zq24 (f := 16) rfl ?_); refine gl (some 21) Try.func16 #[.agg #[.int .i64 a0_0, .slice A0_1 l0_1.length c0_1], .int .i64 1048576] ?_; (with_reducible refine (laws_szBase.calls k a0_0 _ _ l0_1 1048576 t0 _ ?s1 ?s2 H0.out).mono ?_); (case s1 => exact (zq31 HR.out HB.out)); (case s2 => exact HC.out); rintro e w2 ⟨rfl, hb⟩; refine ⟨_, rfl, ?_⟩; have n0_ := zq9 (HT.out.below hb); have n1_ := zq9 (zq27 HB.out hb); clear hc0_0 hc0_1 HT HB hb; have HT := n0_; have HB := n1_; clear n0_ n1_; have hc0_0 : w2.cell? ⟨p2, 0, none⟩ = some (.int .i64 a0_0) := HT.out.cell 0 0 rfl rfl; have hc0_1 : w2.cell? ⟨p2, 1, none⟩ = some (.slice A0_1 l0_1.length c0_1) := HT.out.cell 0 1 rfl rfl)
    | ((with_reducible refine zq24 (f := 18) rfl ?_); refine gl (some 26) Try.func18 #[.agg #[.int .i64 a0_0, .slice A0_1 l0_1.length c0_1]] ?_; (with_reducible refine (laws_toBase.calls k a0_0 _ _ l0_1 b1 b2 _ ?s1 ?s2 H1.out).mono ?_); (case s1 => exact (zq31 HR.out HB.out)); (case s2 => exact HC.out); rintro e w3 ⟨v0, rfl, ho, hb⟩; refine ⟨_, rfl, ?_⟩; obtain ⟨Ab, cb, rfl⟩ := Kd.S_slice ho; have n0_ := zq9 (HT.out.row HB.out.size ho hb); have n1_ := zq9 (zq27 HB.out hb); clear hc0_0 hc0_1 HT HB ho hb; have HT := n0_; have HB := n1_; clear n0_ n1_)
    | ((with_reducible refine zq24 (f := 34) rfl ?_); refine gl (some 28) Try.func34 #[.agg #[.int .i64 b1, .slice Ab b2.length cb], .string a1] ?_; (with_reducible refine (spec_BaseDrop.calls k b1 _ _ b2 a1 v1 v2 _ _ ?s1 ?s2 H2.out).mono ?_); (case s1 => exact HT.out.sC 1 rfl); (case s2 => exact HT.out.sle 1 rfl); rintro e w4 ⟨v0, rfl, ho, hb⟩; refine ⟨_, rfl, ?_⟩; obtain ⟨Av, cv, rfl⟩ := Kd.N_slice ho; have n0_ := zq9 (HT.out.rown HB.out.size ho hb); have n1_ := zq9 (zq27 HB.out hb); clear HT HB ho hb; have HT := n0_; have HB := n1_; clear n0_ n1_)
    | ((with_reducible refine zq25 (N := 6) rfl ?_); refine bx 6 #[.int .i64 0, .slice none 0 0] 46 ?_; intro pv hg w5 hbox hb; have n0_ := zq9 (HT.out.box hg hbox hb); have n1_ := zq9 (zq27 HB.out hb); clear HT HB hbox hg hb; have HT := n0_; have HB := n1_; clear n0_ n1_; have hc3_0 : w5.cell? ⟨pv, 0, none⟩ = some (.int .i64 0) := HT.out.cell 3 0 rfl rfl; have hf3_0 : w5.frozen? ⟨pv, 0, none⟩ = false := HT.out.frozen 3 0 rfl; have hc3_1 : w5.cell? ⟨pv, 1, none⟩ = some (.slice none 0 0) := HT.out.cell 3 1 rfl rfl; have hf3_1 : w5.frozen? ⟨pv, 1, none⟩ = false := HT.out.frozen 3 1 rfl)
    | ((with_reducible refine zq26 (t := 46) (p := 6) rfl ?_); refine store_event (t := 46) (p := 6) (v := ?vo19_) (w1 := ((w5.setCell ⟨pv, 0, none⟩ (.int .i64 v1)).setCell ⟨pv, 1, none⟩ (.slice Av v2.length cv))) ?hg ?ho ?hn ?hr ?_; (case ho => rfl); (case hg => rfl); (case hn => rfl); (case hr => first | (go_simp; done) | (go_simp; rfl)); intro w6 hw; have n0_ : Aside0 (Ok w6 w.heap.size [boxE p2 #[.int .i64 a0_0, .slice A0_1 l0_1.length c0_1] 41, rowE k32 32 w.heap.size (.slice Ab b2.length cb) b2 w2.heap.size w3.heap.size, rowN k32 32 w.heap.size (.slice Av v2.length cv) v2 w3.heap.size w4.heap.size, boxE pv #[.int .i64 v1, .slice Av v2.length cv] 46]) := ⟨by rw [hw]; exact ((HT.out.store 3 rfl 0 (.int .i64 v1)).store 3 rfl 1 (.slice Av v2.length cv))⟩; have n1_ : Aside0 (Below w.heap.size w w6) := ⟨by rw [hw]; exact (zq28 (zq28 HB.out (HT.out.ge 3 rfl)) (HT.out.ge 3 rfl))⟩; clear hc3_0 hf3_0 hc3_1 hf3_1 HT HB hw; have HT := n0_; have HB := n1_; clear n0_ n1_; have hc0_0 : w6.cell? ⟨p2, 0, none⟩ = some (.int .i64 a0_0) := HT.out.cell 0 0 rfl rfl; have hc0_1 : w6.cell? ⟨p2, 1, none⟩ = some (.slice A0_1 l0_1.length c0_1) := HT.out.cell 0 1 rfl rfl)
    | ((with_reducible refine zq24 (f := 18) rfl ?_); refine gl (some 32) Try.func18 #[.agg #[.int .i64 a0_0, .slice A0_1 l0_1.length c0_1]] ?_; (with_reducible refine (laws_toBase.calls k a0_0 _ _ l0_1 x1 x2 _ ?s1 ?s2 H3.out).mono ?_); (case s1 => exact (zq31 HR.out HB.out)); (case s2 => exact HC.out); rintro e w7 ⟨v0, rfl, ho, hb⟩; refine ⟨_, rfl, ?_⟩; obtain ⟨Ax, cx, rfl⟩ := Kd.S_slice ho; have n0_ := zq9 (HT.out.row HB.out.size ho hb); have n1_ := zq9 (zq27 HB.out hb); clear hc0_0 hc0_1 HT HB ho hb; have HT := n0_; have HB := n1_; clear n0_ n1_)
    | ((with_reducible refine zq25 (N := 8) rfl ?_); refine bx 8 #[.int .i64 0, .slice none 0 0] 46 ?_; intro px hg w8 hbox hb; have n0_ := zq9 (HT.out.box hg hbox hb); have n1_ := zq9 (zq27 HB.out hb); clear HT HB hbox hg hb; have HT := n0_; have HB := n1_; clear n0_ n1_; have hc5_0 : w8.cell? ⟨px, 0, none⟩ = some (.int .i64 0) := HT.out.cell 5 0 rfl rfl; have hf5_0 : w8.frozen? ⟨px, 0, none⟩ = false := HT.out.frozen 5 0 rfl; have hc5_1 : w8.cell? ⟨px, 1, none⟩ = some (.slice none 0 0) := HT.out.cell 5 1 rfl rfl; have hf5_1 : w8.frozen? ⟨px, 1, none⟩ = false := HT.out.frozen 5 1 rfl)
    | ((with_reducible refine zq26 (t := 46) (p := 8) rfl ?_); refine store_event (t := 46) (p := 8) (v := ?vo20_) (w1 := ((w8.setCell ⟨px, 0, none⟩ (.int .i64 x1)).setCell ⟨px, 1, none⟩ (.slice Ax x2.length cx))) ?hg ?ho ?hn ?hr ?_; (case ho => rfl); (case hg => rfl); (case hn => rfl); (case hr => first | (go_simp; done) | (go_simp; rfl)); intro w9 hw; have n0_ : Aside0 (Ok w9 w.heap.size [boxE p2 #[.int .i64 a0_0, .slice A0_1 l0_1.length c0_1] 41, rowE k32 32 w.heap.size (.slice Ab b2.length cb) b2 w2.heap.size w3.heap.size, rowN k32 32 w.heap.size (.slice Av v2.length cv) v2 w3.heap.size w4.heap.size, boxE pv #[.int .i64 v1, .slice Av v2.length cv] 46, rowE k32 32 w.heap.size (.slice Ax x2.length cx) x2 w6.heap.size w7.heap.size, boxE px #[.int .i64 x1, .slice Ax x2.length cx] 46]) := ⟨by rw [hw]; exact ((HT.out.store 5 rfl 0 (.int .i64 x1)).store 5 rfl 1 (.slice Ax x2.length cx))⟩; have n1_ : Aside0 (Below w.heap.size w w9) := ⟨by rw [hw]; exact (zq28 (zq28 HB.out (HT.out.ge 5 rfl)) (HT.out.ge 5 rfl))⟩; clear hc5_0 hf5_0 hc5_1 hf5_1 HT HB hw; have HT := n0_; have HB := n1_; clear n0_ n1_; have hc5_0 : w9.cell? ⟨px, 0, none⟩ = some (.int .i64 x1) := HT.out.cell 5 0 rfl rfl; have hc5_1 : w9.cell? ⟨px, 1, none⟩ = some (.slice Ax x2.length cx) := HT.out.cell 5 1 rfl rfl)
    | ((with_reducible refine zq24 (f := 35) rfl ?_); refine gl (some 36) Try.func35 #[.agg #[.int .i64 x1, .slice Ax x2.length cx], .string a1] ?_; (with_reducible refine (impl_BaseDrop.calls k x1 _ _ x2 a1 g1 g2 _ _ ?s1 ?s2 H4.out).mono ?_); (case s1 => exact HT.out.sC 4 rfl); (case s2 => exact HT.out.sle 4 rfl); rintro e w10 ⟨v0, rfl, ho, hb⟩; refine ⟨_, rfl, ?_⟩; obtain ⟨Ag, cg, rfl⟩ := Kd.S_slice ho; have n0_ := zq9 (HT.out.row HB.out.size ho hb); have n1_ := zq9 (zq27 HB.out hb); clear hc5_0 hc5_1 HT HB ho hb; have HT := n0_; have HB := n1_; clear n0_ n1_)
    | ((with_reducible refine zq25 (N := 9) rfl ?_); refine bx 9 #[.int .i64 0, .slice none 0 0] 46 ?_; intro pg hg w11 hbox hb; have n0_ := zq9 (HT.out.box hg hbox hb); have n1_ := zq9 (zq27 HB.out hb); clear HT HB hbox hg hb; have HT := n0_; have HB := n1_; clear n0_ n1_; have hc7_0 : w11.cell? ⟨pg, 0, none⟩ = some (.int .i64 0) := HT.out.cell 7 0 rfl rfl; have hf7_0 : w11.frozen? ⟨pg, 0, none⟩ = false := HT.out.frozen 7 0 rfl; have hc7_1 : w11.cell? ⟨pg, 1, none⟩ = some (.slice none 0 0) := HT.out.cell 7 1 rfl rfl; have hf7_1 : w11.frozen? ⟨pg, 1, none⟩ = false := HT.out.frozen 7 1 rfl)
    | ((with_reducible refine zq26 (t := 46) (p := 9) rfl ?_); refine store_event (t := 46) (p := 9) (v := ?vo21_) (w1 := ((w11.setCell ⟨pg, 0, none⟩ (.int .i64 g1)).setCell ⟨pg, 1, none⟩ (.slice Ag g2.length cg))) ?hg ?ho ?hn ?hr ?_; (case ho => rfl); (case hg => rfl); (case hn => rfl); (case hr => first | (go_simp; done) | (go_simp; rfl)); intro w12 hw; have n0_ : Aside0 (Ok w12 w.heap.size [boxE p2 #[.int .i64 a0_0, .slice A0_1 l0_1.length c0_1] 41, rowE k32 32 w.heap.size (.slice Ab b2.length cb) b2 w2.heap.size w3.heap.size, rowN k32 32 w.heap.size (.slice Av v2.length cv) v2 w3.heap.size w4.heap.size, boxE pv #[.int .i64 v1, .slice Av v2.length cv] 46, rowE k32 32 w.heap.size (.slice Ax x2.length cx) x2 w6.heap.size w7.heap.size, boxE px #[.int .i64 x1, .slice Ax x2.length cx] 46, rowE k32 32 w.heap.size (.slice Ag g2.length cg) g2 w9.heap.size w10.heap.size, boxE pg #[.int .i64 g1, .slice Ag g2.length cg] 46]) := ⟨by rw [hw]; exact ((HT.out.store 7 rfl 0 (.int .i64 g1)).store 7 rfl 1 (.slice Ag g2.length cg))⟩; have n1_ : Aside0 (Below w.heap.size w w12) := ⟨by rw [hw]; exact (zq28 (zq28 HB.out (HT.out.ge 7 rfl)) (HT.out.ge 7 rfl))⟩; clear hc7_0 hf7_0 hc7_1 hf7_1 HT HB hw; have HT := n0_; have HB := n1_; clear n0_ n1_; have hc7_0 : w12.cell? ⟨pg, 0, none⟩ = some (.int .i64 g1) := HT.out.cell 7 0 rfl rfl; have hc7_1 : w12.cell? ⟨pg, 1, none⟩ = some (.slice Ag g2.length cg) := HT.out.cell 7 1 rfl rfl; have hc3_0 : w12.cell? ⟨pv, 0, none⟩ = some (.int .i64 v1) := HT.out.cell 3 0 rfl rfl; have hc3_1 : w12.cell? ⟨pv, 1, none⟩ = some (.slice Av v2.length cv) := HT.out.cell 3 1 rfl rfl)
    | ((with_reducible refine zq24 (f := 20) rfl ?_); refine gl (some 41) Try.func20 #[.agg #[.int .i64 g1, .slice Ag g2.length cg], .agg #[.int .i64 v1, .slice Av v2.length cv]] ?_; (with_reducible refine (laws_eqBase.calls k g1 _ _ g2 v1 _ _ v2 true _ ?s1 ?s2 ?s3 ?s4 H5.out).mono ?_); (case s1 => exact HT.out.sC 6 rfl); (case s2 => exact HT.out.sle 6 rfl); (case s3 => exact HT.out.nC 2 rfl); (case s4 => exact HT.out.nle 2 rfl); rintro e w13 ⟨rfl, hb⟩; refine ⟨_, rfl, ?_⟩; have n0_ := zq9 (HT.out.below hb); have n1_ := zq9 (zq27 HB.out hb); clear hc7_0 hc7_1 hc3_0 hc3_1 HT HB hb; have HT := n0_; have HB := n1_; clear n0_ n1_))
  have n0_ := zq9 (HT.out.below (below_drew (Below.refl _ _)))
  have n1_ := zq9 (below_drew HB.out)
  clear HT HB; have HT := n0_; have HB := n1_; clear n0_ n1_
  refine start_ (n := 5) (S := fun w' => w'.cell? ⟨px, 0, none⟩ = some (.int .i64 x1) ∧ w'.cell? ⟨px, 1, none⟩ = some (.slice Ax x2.length cx) ∧ w'.cell? ⟨p2, 0, none⟩ = some (.int .i64 a0_0) ∧ w'.cell? ⟨p2, 1, none⟩ = some (.slice A0_1 l0_1.length c0_1)) (ds := []) #[false, false, false, false, false] (by kernel_rfl) rfl rfl ⟨HT.out.cell 5 0 rfl rfl, HT.out.cell 5 1 rfl rfl, HT.out.cell 0 0 rfl rfl, HT.out.cell 0 1 rfl rfl⟩ (fun hHeld => ?_)
  generalize w13.drew = w14 at HT HB hHeld ⊢
  refine take_ (i := 0) (N := some 48) (v := ?_) (a' := ?_) (zb 5 1) rfl rfl (by kernel_rfl) (fun _ _ _ h => h) (Or.inl ⟨by rfl, ?_⟩) hHeld ?_ ?_
  rotate_left; · rintro w' ⟨s0, s1, s2, s3⟩; go_simp; with_reducible rfl
  rotate_left; · simp only [Act.put, zq0, zq1, zq2, i64_w, i32_w]; rfl
  refine take_ (i := 1) (N := some 49) (v := ?_) (a' := ?_) (zb 5 3) rfl rfl (by kernel_rfl) (fun _ _ _ h => h) (Or.inl ⟨by rfl, ?_⟩) hHeld ?_ ?_
  rotate_left; · rintro w' ⟨s0, s1, s2, s3⟩; go_simp; with_reducible rfl
  rotate_left; · simp only [Act.put, zq0, zq1, zq2, i64_w, i32_w]; rfl
  refine one_ (i := 2) (N := some 50) (zb 5 7) rfl rfl (by kernel_rfl) (by decide) (fun K hK => ?_)
  refine gs Try.func18 #[.agg #[.int .i64 a0_0, .slice A0_1 l0_1.length c0_1]] ?_
  (with_reducible refine (laws_toBase.calls k a0_0 _ _ l0_1 y1 y2 _ ?s1 ?s2 H6.out).mono ?_)
  (case s1 => exact (zq31 HR.out HB.out))
  (case s2 => exact HC.out)
  rintro e w15 ⟨v0, rfl, ho, hb⟩
  refine ⟨_, rfl, ?_⟩
  obtain ⟨Ay, cy, rfl⟩ := Kd.S_slice ho
  have n0_ := zq9 (HT.out.row HB.out.size ho hb)
  have n1_ := zq9 (zq27 HB.out hb)
  clear HT HB ho hb; have HT := n0_; have HB := n1_; clear n0_ n1_
  refine hK.out _ _ ⟨HT.out.cell 5 0 rfl rfl, HT.out.cell 5 1 rfl rfl, HT.out.cell 0 0 rfl rfl, HT.out.cell 0 1 rfl rfl⟩ (fun hHeld => ?_)
  clear hK K
  refine norm_ (a' := ?_) ?_ ?_
  rotate_left; · show Act.put _ (some 50) _ = _; simp only [Act.put, zq0, zq1, zq2, i64_w, i32_w]; rfl
  refine one_ (i := 3) (N := some 51) (zb 5 15) rfl rfl (by kernel_rfl) (by decide) (fun K hK => ?_)
  refine gs Try.func20 #[.agg #[.int .i64 x1, .slice Ax x2.length cx], .agg #[.int .i64 y1, .slice Ay y2.length cy]] ?_
  (with_reducible refine (laws_eqBase.calls k x1 _ _ x2 y1 _ _ y2 true _ ?s1 ?s2 ?s3 ?s4 H7.out).mono ?_)
  (case s1 => exact HT.out.sC 4 rfl)
  (case s2 => exact HT.out.sle 4 rfl)
  (case s3 => exact HT.out.sC 8 rfl)
  (case s4 => exact HT.out.sle 8 rfl)
  rintro e w16 ⟨rfl, hb⟩
  refine ⟨_, rfl, ?_⟩
  have n0_ := zq9 (HT.out.below hb)
  have n1_ := zq9 (zq27 HB.out hb)
  clear HT HB hb; have HT := n0_; have HB := n1_; clear n0_ n1_
  refine hK.out _ _ ⟨HT.out.cell 5 0 rfl rfl, HT.out.cell 5 1 rfl rfl, HT.out.cell 0 0 rfl rfl, HT.out.cell 0 1 rfl rfl⟩ (fun hHeld => ?_)
  clear hK K
  refine norm_ (a' := ?_) ?_ ?_
  rotate_left; · show Act.put _ (some 51) _ = _; simp only [Act.put, zq0, zq1, zq2, i64_w, i32_w]; rfl
  refine pure_ (i := 4) (N := some 52) (v := ?_) (a' := ?_) (zb 5 31) rfl rfl (by kernel_rfl) (fun _ _ _ h => h) (Or.inl ⟨by rfl, ?_⟩) ?_ ?_
  rotate_left; · intro w'; go_simp; with_reducible rfl
  rotate_left; · simp only [Act.put, zq0, zq1, zq2, i64_w, i32_w]; rfl
  refine done_ (by kernel_rfl) ?_
  have hc5_0 : w16.cell? ⟨px, 0, none⟩ = some (.int .i64 x1) := HT.out.cell 5 0 rfl rfl; have hc5_1 : w16.cell? ⟨px, 1, none⟩ = some (.slice Ax x2.length cx) := HT.out.cell 5 1 rfl rfl
  go_wp2_with (first
    | ((with_reducible refine zq24 (f := 24) rfl ?_); refine gl (some 55) Try.func24 #[.agg #[.int .i64 x1, .slice Ax x2.length cx], .int .i64 1] ?_; (with_reducible refine (laws_markBase.calls k x1 (fun k_ => w6.heap.size ≤ k_ ∧ k_ < w7.heap.size) _ x2 1 _ m2 w _ ?s1 ?s2 H8.out).mono ?_); (case s1 => exact HB.out); (case s2 => exact HT.out.s 4 rfl); rintro e w17 ⟨rfl, ho, hb, hk⟩; refine ⟨_, rfl, ?_⟩; have n0_ := zq9 (HT.out.mark 4 rfl ho hk); have n1_ := zq9 hb; have lm := zq9 (show x2.length = m2.length from (Kd.S_reads' ho).1); clear hc5_0 hc5_1 HT HB ho hb hk; have HT := n0_; have HB := n1_; clear n0_ n1_; have hc7_0 : w17.cell? ⟨pg, 0, none⟩ = some (.int .i64 g1) := HT.out.cell 7 0 rfl rfl; have hc7_1 : w17.cell? ⟨pg, 1, none⟩ = some (.slice Ag g2.length cg) := HT.out.cell 7 1 rfl rfl; have hc3_0 : w17.cell? ⟨pv, 0, none⟩ = some (.int .i64 v1) := HT.out.cell 3 0 rfl rfl; have hc3_1 : w17.cell? ⟨pv, 1, none⟩ = some (.slice Av v2.length cv) := HT.out.cell 3 1 rfl rfl)
    | (go_at_call 20; (with_reducible refine (laws_eqBase.calls k g1 _ _ g2 v1 _ _ v2 true _ ?s1 ?s2 ?s3 ?s4 H9.out).mono ?_); (case s1 => exact HT.out.sC 6 rfl); (case s2 => exact HT.out.sle 6 rfl); (case s3 => exact HT.out.nC 2 rfl); (case s4 => exact HT.out.nle 2 rfl); rintro e w18 ⟨rfl, hb⟩; have n0_ := zq9 (HT.out.below hb); have n1_ := zq9 (zq27 HB.out hb); clear hc7_0 hc7_1 hc3_0 hc3_1 HT HB hb; have HT := n0_; have HB := n1_; clear n0_ n1_; have hc7_0 : w18.cell? ⟨pg, 0, none⟩ = some (.int .i64 g1) := HT.out.cell 7 0 rfl rfl; have hc7_1 : w18.cell? ⟨pg, 1, none⟩ = some (.slice Ag g2.length cg) := HT.out.cell 7 1 rfl rfl)
    | ((with_reducible refine zq24 (f := 24) rfl ?_); refine gl (some 71) Try.func24 #[.agg #[.int .i64 g1, .slice Ag g2.length cg], .int .i64 1] ?_; (with_reducible refine (laws_markBase.calls k g1 (fun k_ => w9.heap.size ≤ k_ ∧ k_ < w10.heap.size) _ g2 1 _ n2 w _ ?s1 ?s2 H10.out).mono ?_); (case s1 => exact HB.out); (case s2 => exact HT.out.s 6 rfl); rintro e w19 ⟨rfl, ho, hb, hk⟩; refine ⟨_, rfl, ?_⟩; have n0_ := zq9 (HT.out.mark 6 rfl ho hk); have n1_ := zq9 hb; have ln := zq9 (show g2.length = n2.length from (Kd.S_reads' ho).1); clear hc7_0 hc7_1 HT HB ho hb hk; have HT := n0_; have HB := n1_; clear n0_ n1_; have hc7_0 : w19.cell? ⟨pg, 0, none⟩ = some (.int .i64 g1) := HT.out.cell 7 0 rfl rfl; have hc7_1 : w19.cell? ⟨pg, 1, none⟩ = some (.slice Ag g2.length cg) := HT.out.cell 7 1 rfl rfl)
    | ((with_reducible refine zq24 (f := 33) rfl ?_); refine gl (some 74) Try.func33 #[.agg #[.int .i64 g1, .slice Ag g2.length cg], .int .i64 1] ?_; refine calls_of_args (args' := #[.agg #[.int .i64 g1, .slice Ag n2.length cg], .int .i64 1]) (by rw [ln.out]) ?_; (with_reducible refine (laws_heldBase.calls k g1 _ _ n2 1 _ _ ?s1 ?s2 H11.out).mono ?_); (case s1 => exact HT.out.sC 6 rfl); (case s2 => exact HT.out.sle 6 rfl); rintro e w20 ⟨rfl, hb⟩; refine ⟨_, rfl, ?_⟩; have n0_ := zq9 (HT.out.below hb); have n1_ := zq9 (zq27 HB.out hb); clear hc7_0 hc7_1 HT HB hb; have HT := n0_; have HB := n1_; clear n0_ n1_; have hc0_0 : w20.cell? ⟨p2, 0, none⟩ = some (.int .i64 a0_0) := HT.out.cell 0 0 rfl rfl; have hc0_1 : w20.cell? ⟨p2, 1, none⟩ = some (.slice A0_1 l0_1.length c0_1) := HT.out.cell 0 1 rfl rfl)
    | ((with_reducible refine zq24 (f := 18) rfl ?_); refine gl (some 82) Try.func18 #[.agg #[.int .i64 a0_0, .slice A0_1 l0_1.length c0_1]] ?_; (with_reducible refine (laws_toBase.calls k a0_0 _ _ l0_1 z1 z2 _ ?s1 ?s2 H12.out).mono ?_); (case s1 => exact (zq31 HR.out HB.out)); (case s2 => exact HC.out); rintro e w21 ⟨v0, rfl, ho, hb⟩; refine ⟨_, rfl, ?_⟩; obtain ⟨Az, cz, rfl⟩ := Kd.S_slice ho; have n0_ := zq9 (HT.out.row HB.out.size ho hb); have n1_ := zq9 (zq27 HB.out hb); clear hc0_0 hc0_1 HT HB ho hb; have HT := n0_; have HB := n1_; clear n0_ n1_)
    | ((with_reducible refine zq24 (f := 35) rfl ?_); refine gl (some 84) Try.func35 #[.agg #[.int .i64 z1, .slice Az z2.length cz], .string a1] ?_; (with_reducible refine (impl_BaseDrop.calls k z1 _ _ z2 a1 h1 h2 _ _ ?s1 ?s2 H13.out).mono ?_); (case s1 => exact HT.out.sC 9 rfl); (case s2 => exact HT.out.sle 9 rfl); rintro e w22 ⟨v0, rfl, ho, hb⟩; refine ⟨_, rfl, ?_⟩; obtain ⟨Ah, ch, rfl⟩ := Kd.S_slice ho; have n0_ := zq9 (HT.out.row HB.out.size ho hb); have n1_ := zq9 (zq27 HB.out hb); clear HT HB ho hb; have HT := n0_; have HB := n1_; clear n0_ n1_)
    | ((with_reducible refine zq25 (N := 14) rfl ?_); refine bx 14 #[.int .i64 0, .slice none 0 0] 46 ?_; intro ph hg w23 hbox hb; have n0_ := zq9 (HT.out.box hg hbox hb); have n1_ := zq9 (zq27 HB.out hb); clear HT HB hbox hg hb; have HT := n0_; have HB := n1_; clear n0_ n1_; have hc11_0 : w23.cell? ⟨ph, 0, none⟩ = some (.int .i64 0) := HT.out.cell 11 0 rfl rfl; have hf11_0 : w23.frozen? ⟨ph, 0, none⟩ = false := HT.out.frozen 11 0 rfl; have hc11_1 : w23.cell? ⟨ph, 1, none⟩ = some (.slice none 0 0) := HT.out.cell 11 1 rfl rfl; have hf11_1 : w23.frozen? ⟨ph, 1, none⟩ = false := HT.out.frozen 11 1 rfl)
    | ((with_reducible refine zq26 (t := 46) (p := 14) rfl ?_); refine store_event (t := 46) (p := 14) (v := ?vo22_) (w1 := ((w23.setCell ⟨ph, 0, none⟩ (.int .i64 h1)).setCell ⟨ph, 1, none⟩ (.slice Ah h2.length ch))) ?hg ?ho ?hn ?hr ?_; (case ho => rfl); (case hg => rfl); (case hn => rfl); (case hr => first | (go_simp; done) | (go_simp; rfl)); intro w24 hw; have n0_ : Aside0 (Ok w24 w.heap.size [boxE p2 #[.int .i64 a0_0, .slice A0_1 l0_1.length c0_1] 41, rowE k32 32 w.heap.size (.slice Ab b2.length cb) b2 w2.heap.size w3.heap.size, rowN k32 32 w.heap.size (.slice Av v2.length cv) v2 w3.heap.size w4.heap.size, boxE pv #[.int .i64 v1, .slice Av v2.length cv] 46, rowE k32 32 w.heap.size (.slice Ax x2.length cx) m2 w6.heap.size w7.heap.size, boxE px #[.int .i64 x1, .slice Ax x2.length cx] 46, rowE k32 32 w.heap.size (.slice Ag g2.length cg) n2 w9.heap.size w10.heap.size, boxE pg #[.int .i64 g1, .slice Ag g2.length cg] 46, rowE k32 32 w.heap.size (.slice Ay y2.length cy) y2 w14.heap.size w15.heap.size, rowE k32 32 w.heap.size (.slice Az z2.length cz) z2 w20.heap.size w21.heap.size, rowE k32 32 w.heap.size (.slice Ah h2.length ch) h2 w21.heap.size w22.heap.size, boxE ph #[.int .i64 h1, .slice Ah h2.length ch] 46]) := ⟨by rw [hw]; exact ((HT.out.store 11 rfl 0 (.int .i64 h1)).store 11 rfl 1 (.slice Ah h2.length ch))⟩; have n1_ : Aside0 (Below w.heap.size w w24) := ⟨by rw [hw]; exact (zq28 (zq28 HB.out (HT.out.ge 11 rfl)) (HT.out.ge 11 rfl))⟩; clear hc11_0 hf11_0 hc11_1 hf11_1 HT HB hw; have HT := n0_; have HB := n1_; clear n0_ n1_; have hc11_0 : w24.cell? ⟨ph, 0, none⟩ = some (.int .i64 h1) := HT.out.cell 11 0 rfl rfl; have hc11_1 : w24.cell? ⟨ph, 1, none⟩ = some (.slice Ah h2.length ch) := HT.out.cell 11 1 rfl rfl; have hc3_0 : w24.cell? ⟨pv, 0, none⟩ = some (.int .i64 v1) := HT.out.cell 3 0 rfl rfl; have hc3_1 : w24.cell? ⟨pv, 1, none⟩ = some (.slice Av v2.length cv) := HT.out.cell 3 1 rfl rfl)
    | ((with_reducible refine zq24 (f := 20) rfl ?_); refine gl (some 89) Try.func20 #[.agg #[.int .i64 h1, .slice Ah h2.length ch], .agg #[.int .i64 v1, .slice Av v2.length cv]] ?_; (with_reducible refine (laws_eqBase.calls k h1 _ _ h2 v1 _ _ v2 true _ ?s1 ?s2 ?s3 ?s4 H14.out).mono ?_); (case s1 => exact HT.out.sC 10 rfl); (case s2 => exact HT.out.sle 10 rfl); (case s3 => exact HT.out.nC 2 rfl); (case s4 => exact HT.out.nle 2 rfl); rintro e w25 ⟨rfl, hb⟩; refine ⟨_, rfl, ?_⟩; have n0_ := zq9 (HT.out.below hb); have n1_ := zq9 (zq27 HB.out hb); clear hc11_0 hc11_1 hc3_0 hc3_1 HT HB hb; have HT := n0_; have HB := n1_; clear n0_ n1_; have hc7_0 : w25.cell? ⟨pg, 0, none⟩ = some (.int .i64 g1) := HT.out.cell 7 0 rfl rfl; have hc7_1 : w25.cell? ⟨pg, 1, none⟩ = some (.slice Ag g2.length cg) := HT.out.cell 7 1 rfl rfl)
    | ((with_reducible refine zq24 (f := 33) rfl ?_); refine gl (some 98) Try.func33 #[.agg #[.int .i64 g1, .slice Ag g2.length cg], .int .i64 1] ?_; refine calls_of_args (args' := #[.agg #[.int .i64 g1, .slice Ag n2.length cg], .int .i64 1]) (by rw [ln.out]) ?_; (with_reducible refine (laws_heldBase.calls k g1 _ _ n2 1 _ _ ?s1 ?s2 H15.out).mono ?_); (case s1 => exact HT.out.sC 6 rfl); (case s2 => exact HT.out.sle 6 rfl); rintro e w26 ⟨rfl, hb⟩; refine ⟨_, rfl, ?_⟩; have n0_ := zq9 (HT.out.below hb); have n1_ := zq9 (zq27 HB.out hb); clear hc7_0 hc7_1 HT HB hb; have HT := n0_; have HB := n1_; clear n0_ n1_))
  go_ret
  exact ⟨rfl, HB.out⟩
end Go.Proofs.Ytnkgmcgbbldkgaa.P
namespace Go.Proofs.Ytnkgmcgbbldkgaa.Q
open Go.RowKit Go.Proofs.YtnkgmcgbbldkgaaW.PrintWords Go.Proofs.YtnkgmcgbbldkgaaW.PrintLast
def Opens {α H : Type} (enc : TypeId × Value → H) (P : Program) (W : World) (t : TypeId) (d : Kd α) (ok : α → Prop) : Prop :=
  ∀ (fuel : Nat) (cs : List Value) (y : DataW H × List MemPlace), DataW.trod enc P W 0 (fun _ => true) true fuel t cs = some y → ∃ x : α, d.K W x cs ∧ ok x
section
variable {α β H : Type} {enc : TypeId × Value → H} {P : Program} {W : World} {t e : TypeId}
theorem Opens.int {k : IntKind} (ht : P.underlying t = some (.int k)) : Opens enc P W t (Kd.int k) (fun x => (Lit.int k x).wf = true) := by
  intro fuel cs y h
  obtain ⟨n, rfl, _, hn⟩ := DataW.trod_int ht h
  exact ⟨n, rfl, hn⟩
theorem Opens.string (ht : P.underlying t = some .string) : Opens enc P W t Kd.string (fun x => x.size ≤ maxLen) := by
  intro fuel cs y h
  obtain ⟨s, rfl, _, hs⟩ := DataW.trod_string ht h
  exact ⟨s, rfl, hs⟩
theorem cells_len {b : Nat} {a : Addr} {n : Nat} {cs : List Value} (h : W.cells? b a n = some cs) : cs.length = n := by
  unfold World.cells? at h
  split at h
  · simpa using mapM_some_length h
  · cases h
theorem cells_get {b : Nat} {a : Addr} {n : Nat} {cs : List Value} (h : W.cells? b a n = some cs) (i : Nat) (u : Value) (hu : cs[i]? = some u) : W.cell? (a.add i) = some u := by
  have hl := cells_len h
  have hi : i < n := by rw [← hl]; exact (List.getElem?_eq_some_iff.1 hu).1
  unfold World.cells? at h
  split at h
  · rw [← hu]; exact mapM_some_get h i i (by simp [hi])
  · cases h
theorem each_of {γ : Type} {Q : Nat → γ → Prop} (n : Nat) (h : ∀ i, i < n → ∃ x, Q i x) : ∃ l : List γ, l.length = n ∧ ∀ i x, l[i]? = some x → Q i x := by
  induction n with
  | zero => exact ⟨[], rfl, fun i x hx => by simp at hx⟩
  | succ n ih =>
    obtain ⟨l, hl, hq⟩ := ih (fun i hi => h i (by omega))
    obtain ⟨x, hx⟩ := h n (by omega)
    refine ⟨l ++ [x], by simp [hl], fun i y hy => ?_⟩
    rcases Nat.lt_or_ge i l.length with hi | hi
    · rw [List.getElem?_append_left hi] at hy
      exact hq i y hy
    · rw [List.getElem?_append_right hi] at hy
      have : i - l.length = 0 := by
        have := (List.getElem?_eq_some_iff.1 hy).1
        simp at this
        omega
      rw [this] at hy
      injection hy with hy
      obtain rfl : i = n := by omega
      exact hy ▸ hx
theorem Opens.slice {d : Kd α} {ok : α → Prop} (ht : P.underlying t = some (.slice e)) (hc : P.cellsOf e = d.sz) (h : Opens enc P W e d ok) :
    Opens enc P W t (Kd.slice e d) (fun xs => xs.length ≤ maxLen ∧ ∀ x ∈ xs, ok x) := by
  intro fuel cs y hy
  rcases DataW.trod_slice ht hy with ⟨rfl, _⟩ | ⟨a, len, cap, elems, rest, n, _, rfl, _, hb, hl, hm, hlen, hel, _, _⟩
  · exact ⟨[], ⟨none, 0, rfl, Nat.le_refl _, rfl, by simp, fun h => by simp at h⟩, by simp, by simp⟩
  · have each : ∀ i, i < len → ∃ x : α, (∃ c, c.length = d.sz ∧ d.K W x c ∧ ∀ j u, c[j]? = some u → W.cell? (a.add (i * d.sz + j)) = some u) ∧ ok x := by
      intro i hi
      have h1 := hel i hi
      rw [List.getElem?_eq_getElem (by omega)] at h1
      obtain ⟨c, h2, h3⟩ := Option.bind_eq_some_iff.1 h1
      obtain ⟨x, hK, hx⟩ := h _ _ _ h3
      rw [hc] at h2
      refine ⟨x, ⟨c, d.K_len hK, hK, fun j u hu => ?_⟩, hx⟩
      have h4 := cells_get h2 j u hu
      rwa [add_add] at h4
    obtain ⟨l, hll, hq⟩ := each_of len each
    subst hll
    refine ⟨l, ⟨some a, cap, rfl, hl, rfl, ?_, fun _ => ⟨a, rfl, fun j p hp => (hq j p hp).1⟩⟩, by omega, fun x hx => ?_⟩
    · unfold maxLen at hm; omega
    · obtain ⟨i, hi, rfl⟩ := List.getElem_of_mem hx
      exact (hq i _ (List.getElem?_eq_getElem hi)).2
theorem Opens.iso {d : Kd α} {ok : α → Prop} (f : β → α) (g : α → β) (hfg : ∀ a, f (g a) = a) (h : Opens enc P W t d ok) : Opens enc P W t (Kd.iso d f) (fun x => ok (f x)) := by
  intro fuel cs y hy
  obtain ⟨x, hK, hx⟩ := h _ _ _ hy
  exact ⟨g x, by show d.K W (f (g x)) cs; rw [hfg]; exact hK, by show ok (f (g x)); rw [hfg]; exact hx⟩
theorem Opens.imp {d : Kd α} {ok ok' : α → Prop} (h : Opens enc P W t d ok) (hi : ∀ x, ok x → ok' x) : Opens enc P W t d ok' := fun fuel cs y hy => by
  obtain ⟨x, hK, hx⟩ := h _ _ _ hy
  exact ⟨x, hK, hi x hx⟩
def OpensF {α H : Type} (enc : TypeId × Value → H) (P : Program) (W : World) (fs : List Field) (o : Nat) (d : Kd α) (ok : α → Prop) : Prop :=
  ∀ (n : Nat) (cs : List Value) (xs : List (DataW H × List MemPlace)), cs.length = o + d.sz → xs.length = fs.length →
    (∀ (i : Nat) (f : Field), fs[i]? = some f → DataW.trod enc P W 0 (fun _ => true) true n f.type ((cs.drop f.offset).take (P.cellsOf f.type)) = xs[i]?) → ∃ x : α, d.K W x (cs.drop o) ∧ ok x
theorem OpensF.one {d : Kd α} {ok : α → Prop} {f : Field} {o : Nat} (ho : f.offset = o) (hc : P.cellsOf f.type = d.sz) (h : Opens enc P W f.type d ok) : OpensF enc P W [f] o d ok := by
  intro n cs xs hl hx hf
  match xs, hx with
  | [x0], _ =>
    have h0 := hf 0 f rfl
    rw [ho, hc, List.take_of_length_le (by rw [List.length_drop]; omega)] at h0
    exact h n _ x0 (by simpa using h0)
theorem OpensF.cons {d : Kd α} {ok : α → Prop} {d' : Kd β} {ok' : β → Prop} {f : Field} {fs : List Field} {o : Nat} (ho : f.offset = o) (hc : P.cellsOf f.type = d.sz) (h : Opens enc P W f.type d ok)
    (hs : OpensF enc P W fs (o + d.sz) d' ok') : OpensF enc P W (f :: fs) o (Kd.pair d d') (fun x => ok x.1 ∧ ok' x.2) := by
  intro n cs xs hl hx hf
  have hsz : (Kd.pair d d').sz = d.sz + d'.sz := rfl
  match xs, hx with
  | x0 :: xs', hx =>
    have h0 := hf 0 f rfl
    rw [ho, hc] at h0
    obtain ⟨a, ha, oka⟩ := h n _ x0 (by simpa using h0)
    obtain ⟨b, hb, okb⟩ := hs n cs xs' (by omega) (by simpa using hx) (fun i g hg => by simpa using hf (i + 1) g (by simpa using hg))
    refine ⟨(a, b), ⟨(cs.drop o).take d.sz, cs.drop (o + d.sz), ?_, ha, hb⟩, oka, okb⟩
    rw [← List.drop_drop, List.take_append_drop]
theorem Opens.struct {d : Kd α} {ok : α → Prop} {fs : Array Field} (ht : P.underlying t = some (.struct fs)) (hc : P.cellsOf t = d.sz) (h : OpensF enc P W fs.toList 0 d ok) : Opens enc P W t d ok := by
  intro fuel cs y hy
  obtain ⟨xs, n, _, _, hl, hx, hf⟩ := DataW.trod_struct ht hy
  have := h n cs xs (by omega) (by simpa using hx) (fun i f hf' => hf i f (by simpa using hf'))
  simpa using this
end
theorem pos {α : Type} {c : Prop} [Decidable c] {t e : Nat → Option α} {r : α} (h : c) (x : Ev t r) : Ev (fun k => if c then t k else e k) r := by
  obtain ⟨K, hK⟩ := x
  exact ⟨K, fun k hk => (if_pos h).trans (hK k hk)⟩
theorem neg {α : Type} {c : Prop} [Decidable c] {t e : Nat → Option α} {r : α} (h : ¬ c) (x : Ev e r) : Ev (fun k => if c then t k else e k) r := by
  obtain ⟨K, hK⟩ := x
  exact ⟨K, fun k hk => (if_neg h).trans (hK k hk)⟩
theorem both {α : Type} {c : Prop} [Decidable c] {t e : Nat → Option α} {r : α} (x : c → Ev t r) (y : ¬ c → Ev e r) : Ev (fun k => if c then t k else e k) r := by
  by_cases h : c
  · exact pos h (x h)
  · exact neg h (y h)
theorem ret {α : Type} (r : α) : Ev (fun _ => some r) r := Ev.now r
theorem ret' {α : Type} {r q : α} (h : r = q) : Ev (fun _ => some r) q := h ▸ Ev.now r
theorem val {α : Type} {g : Option α} {r : α} (h : g = some r) : Ev (fun _ => g) r := ⟨0, fun _ _ => h⟩
theorem of_eq {α : Type} {g : Nat → Option α} {r q : α} (h : Ev g r) (e : r = q) : Ev g q := e ▸ h
theorem exists_of {α : Type} {g : Nat → Option α} {r : α} (h : Ev g r) : ∃ k, g k = some r := by
  obtain ⟨K, hK⟩ := h
  exact ⟨K, hK K (Nat.le_refl _)⟩
theorem wrap_id {x : Int} (h1 : -9223372036854775808 ≤ x) (h2 : x ≤ 9223372036854775807) : wrap64 x = x := by
  unfold wrap64
  omega
theorem rdOf_lt {α : Type} (d : α) (l : List α) (i : Nat) (h : i < l.length) : rdOf d l (i : Int) = l[i] := by
  simp [rdOf, List.getD_eq_getElem?_getD, h]
theorem toList_inj {a b : ByteArray} (h : a.toList = b.toList) : a = b := by
  rw [ByteArray.toList_eq, ByteArray.toList_eq] at h
  cases a with
  | mk x => cases b with
    | mk y =>
      congr
      exact Array.toList_inj.1 h
end Go.Proofs.Ytnkgmcgbbldkgaa.Q
namespace Go.Proofs.Ytnkgmcgbbldkgaa.Q
open Go.RowKit Go.Proofs.YtnkgmcgbbldkgaaW.PrintWords Go.Proofs.YtnkgmcgbbldkgaaW.PrintLast Go.Proofs.Ytnkgmcgbbldkgaa.P
theorem strOfNums_one (x : Int) : (strOfNums [x]).size = 1 := by rfl
theorem markText_l0 (d : Nat) : ∀ (x : Int) (s : ByteArray), x.toNat ≤ d → x.toNat + s.size ≤ 9223372036854775806 → ∃ r, Ev (fun k => laws_markText.l0 k x s) r := by
  induction d with
  | zero =>
    intro x s hx hs
    exact ⟨_, Ev.step (fun k => by rw [laws_markText.l0]) (neg (by omega) (pos (by omega) (ret _)))⟩
  | succ d ih =>
    intro x s hx hs
    by_cases h : x > 0
    · have e1 : (Int.tdiv x 10) = x / 10 := Int.tdiv_eq_ediv_of_nonneg (by omega)
      have e2 : wrap64 (Int.tdiv x 10) = x / 10 := by rw [e1]; exact wrap_id (by omega) (by omega)
      obtain ⟨r, hr⟩ := ih (x / 10) (strOfNums [(wrap64 (48 + (Int.tmod x 10))) % 256] ++ s) (by omega) (by rw [ByteArray.size_append, strOfNums_one]; omega)
      refine ⟨r, Ev.step (fun k => by rw [laws_markText.l0]) (pos h ?_)⟩
      refine Ev.bind (ret _) (pos ?_ ?_)
      · rw [strOfNums_one]; omega
      · rw [e2]; exact hr
    · exact ⟨_, Ev.step (fun k => by rw [laws_markText.l0]) (neg h (pos (by omega) (ret _)))⟩
theorem markText_ex (n : Int) (h : n ≤ 9223372036854775806) : ∃ r, Ev (fun k => laws_markText.f k n) r := by
  unfold laws_markText.f
  by_cases h0 : n ≤ 0
  · exact ⟨_, pos h0 (ret _)⟩
  · obtain ⟨r, hr⟩ := markText_l0 n.toNat n (⟨#[]⟩ : ByteArray) (Nat.le_refl _) (by show n.toNat + 0 ≤ _; omega)
    exact ⟨r, neg h0 hr⟩
open Classical in
noncomputable def markT (n : Int) : ByteArray := if h : ∃ r, Ev (fun k => laws_markText.f k n) r then h.choose else ByteArray.empty
theorem markT_ev (n : Int) (h : n ≤ 9223372036854775806) : Ev (fun k => laws_markText.f k n) (markT n) := by
  have h' := markText_ex n h
  unfold markT
  rw [dif_pos h']
  exact h'.choose_spec
noncomputable def marks (n : Int) (m : Nat) : List ByteArray := (List.range m).map fun (j : Nat) => markT (n + (j : Int))
theorem marks_length (n : Int) (m : Nat) : (marks n m).length = m := by simp [marks]
theorem marks_get (n : Int) (m j : Nat) (h : j < (marks n m).length) : (marks n m)[j] = markT (n + j) := by simp [marks]
theorem marks_succ (n : Int) (m : Nat) : marks n (m + 1) = marks n m ++ [markT (n + m)] := by simp [marks, List.range_succ]
theorem markStringS_l0 (n : Int) (m : Nat) (h0 : 0 ≤ n) (h1 : n + m ≤ 9223372036854775806) (d : Nat) : ∀ (i : Nat) (x : List ByteArray), i + d = m → x.length = m → x.take i = marks n i →
    Ev (fun k => laws_markStringS.l0 k x (n + i) (i : Int)) (n + m, marks n m) := by
  induction d with
  | zero =>
    intro i x hi hx ht
    refine Ev.step (fun k => by rw [laws_markStringS.l0]) (neg (by omega) (ret' ?_))
    obtain rfl : i = m := by omega
    rw [List.take_of_length_le (by omega)] at ht
    rw [ht]
  | succ d ih =>
    intro i x hi hx ht
    refine Ev.step (fun k => by rw [laws_markStringS.l0]) (pos (by omega) (Ev.bind (markT_ev _ (by omega)) ?_))
    refine pos (by omega) ?_
    rw [wrap_id (by omega) (by omega), wrap_id (by omega) (by omega)]
    have := ih (i + 1) (x.set i (markT (n + i))) (by omega) (by simp [hx]) (by
      rw [List.take_succ_eq_append_getElem (by simp; omega), marks_succ, List.take_set_of_le (Nat.le_refl _), ht]
      simp)
    rw [show (n + (i : Int) + 1) = n + ((i + 1 : Nat) : Int) by omega, Int.toNat_natCast]
    exact this
theorem markStringS_ev (l : List ByteArray) (n : Int) (h0 : 0 ≤ n) (h1 : n + l.length ≤ 9223372036854775806) : Ev (fun k => laws_markStringS.f k l n) (n + l.length, marks n l.length) := by
  have := markStringS_l0 n l.length h0 h1 l.length 0 l (by omega) rfl (by simp [marks])
  simpa [laws_markStringS.f] using this
theorem heldStringS_l0 (n : Int) (m : Nat) (h0 : 0 ≤ n) (h1 : n + m ≤ 9223372036854775806) (d : Nat) : ∀ (i : Nat), i + d = m →
    Ev (fun k => laws_heldStringS.l0 k (marks n m) (n + i) (i : Int)) (n + m) := by
  have hm := marks_length n m
  induction d with
  | zero =>
    intro i hi
    obtain rfl : i = m := by omega
    exact Ev.step (fun k => by rw [laws_heldStringS.l0]) (neg (by omega) (ret' rfl))
  | succ d ih =>
    intro i hi
    refine Ev.step (fun k => by rw [laws_heldStringS.l0]) (pos (by omega) (pos (by omega) (Ev.bind (markT_ev _ (by omega)) ?_)))
    refine pos ?_ ?_
    · rw [rdOf_lt _ _ _ (by omega), marks_get]
    · rw [wrap_id (by omega) (by omega), wrap_id (by omega) (by omega)]
      exact ih (i + 1) (by omega) |> fun h => by rw [show (n + (i : Int) + 1) = n + ((i + 1 : Nat) : Int) by omega]; exact h
theorem heldStringS_ev (n : Int) (m : Nat) (h0 : 0 ≤ n) (h1 : n + m ≤ 9223372036854775806) : Ev (fun k => laws_heldStringS.f k (marks n m) n) (n + m) := by
  have := heldStringS_l0 n m h0 h1 m 0 (by omega)
  simpa [laws_heldStringS.f] using this
abbrev LScore := S95
abbrev Score := S99
instance : DecidableEq Score := fun a b => decidable_of_iff (a.f0 = b.f0 ∧ a.f1 = b.f1) ⟨fun h => by cases a; cases b; simp at h; simp [h], fun h => by rw [h]; exact ⟨rfl, rfl⟩⟩
theorem rdLScore_lt (l : List LScore) (i : Nat) (h : i < l.length) : rd_T95 l (i : Int) = l[i] := by
  simp [rd_T95, List.getD_eq_getElem?_getD, h]
theorem rdScore_lt (l : List Score) (i : Nat) (h : i < l.length) : rd_T99 l (i : Int) = l[i] := by
  simp [rd_T99, List.getD_eq_getElem?_getD, h]
theorem szScore_ev (a : ByteArray) (n : Int) (ha : a.size ≤ maxLen) (c : Int) (h0 : 0 ≤ c) (h1 : c ≤ 1048576) :
    ∃ v, laws_szScore.f a n c = some v ∧ v ≤ c ∧ -1 ≤ v ∧ (0 ≤ v → a.size ≤ 1048576) := by
  unfold maxLen at ha
  unfold laws_szScore.f
  rw [wrap_id (x := c - (a.size : Int)) (by omega) (by omega)]
  by_cases h : c - (a.size : Int) < 0
  · exact ⟨-1, if_pos h, by omega, by omega, by omega⟩
  · exact ⟨_, if_neg h, by omega, by omega, fun _ => by omega⟩
theorem szScoreS_l0 (l : List LScore) (hl : l.length ≤ maxLen) (hs : ∀ s ∈ l, s.f0.size ≤ maxLen ∧ (Lit.int .i64 s.f1).wf = true) (d : Nat) : ∀ (i : Nat) (c : Int), i + d = l.length → 0 ≤ c → c ≤ 1048576 →
    ∃ v, Ev (fun k => laws_szScoreS.l0 k l c (i : Int)) v ∧ v ≤ c ∧ -1 ≤ v ∧ (0 ≤ v → ∀ j (h : j < l.length), i ≤ j → l[j].f0.size ≤ 1048576) := by
  unfold maxLen at hl
  induction d with
  | zero =>
    intro i c hi h0 h1
    exact ⟨c, Ev.step (fun k => by rw [laws_szScoreS.l0]) (neg (by omega) (ret c)), by omega, by omega, fun _ j hj hij => by omega⟩
  | succ d ih =>
    intro i c hi h0 h1
    have hlt : i < l.length := by omega
    obtain ⟨hs0, _⟩ := hs _ (List.getElem_mem hlt)
    obtain ⟨v, hv, hv1, hv2, hv3⟩ := szScore_ev _ l[i].f1 hs0 c h0 h1
    by_cases hneg : v < 0
    · refine ⟨-1, Ev.step (fun k => by rw [laws_szScoreS.l0]) (pos (by omega) (pos (by omega) ?_)), by omega, by omega, by omega⟩
      rw [rdLScore_lt _ _ hlt]
      exact Ev.bind (val hv) (pos hneg (ret (-1)))
    · obtain ⟨u, hu, h2, h3, h4⟩ := ih (i + 1) v (by omega) (by omega) (by omega)
      refine ⟨u, Ev.step (fun k => by rw [laws_szScoreS.l0]) (pos (by omega) (pos (by omega) ?_)), by omega, h3, fun h5 j hj hij => ?_⟩
      · rw [rdLScore_lt _ _ hlt, wrap_id (x := (i : Int) + 1) (by omega) (by omega)]
        exact Ev.bind (val hv) (neg hneg hu)
      · rcases Nat.eq_or_lt_of_le hij with rfl | hij
        · exact hv3 (by omega)
        · exact h4 h5 j hj hij
theorem szScoreS_ev (l : List LScore) (hl : l.length ≤ maxLen) (hs : ∀ s ∈ l, s.f0.size ≤ maxLen ∧ (Lit.int .i64 s.f1).wf = true) (c : Int) (h0 : 0 ≤ c) (h1 : c ≤ 1048576) :
    ∃ v, Ev (fun k => laws_szScoreS.f k l c) v ∧ v ≤ c ∧ -1 ≤ v ∧ (0 ≤ v → l.length ≤ 1048576 ∧ ∀ s ∈ l, s.f0.size ≤ 1048576) := by
  have hl' := hl
  unfold maxLen at hl'
  by_cases h : c - (l.length : Int) < 0
  · refine ⟨-1, ?_, by omega, by omega, by omega⟩
    unfold laws_szScoreS.f
    refine pos ?_ (ret _)
    rw [wrap_id (by omega) (by omega)]
    exact h
  · obtain ⟨v, hv, h2, h3, h4⟩ := szScoreS_l0 l hl hs l.length 0 (c - (l.length : Int)) (by omega) (by omega) (by omega)
    refine ⟨v, ?_, by omega, h3, fun h5 => ⟨by omega, fun s hs => ?_⟩⟩
    · unfold laws_szScoreS.f
      rw [wrap_id (by omega) (by omega)]
      exact neg h hv
    · obtain ⟨j, hj, rfl⟩ := List.getElem_of_mem hs
      exact h4 h5 j hj (by omega)
def cvScore (x : LScore) : Score := ⟨x.f0, x.f1⟩
theorem toScoreS_l0 (l : List LScore) (hl : l.length ≤ maxLen) (d : Nat) : ∀ (i : Nat) (x : List Score), i + d = l.length → x.length = l.length → Ev (fun k => laws_toScoreS.l0 k l x (i : Int)) (x.take i ++ (l.drop i).map cvScore) := by
  unfold maxLen at hl
  induction d with
  | zero =>
    intro i x hi hx
    refine Ev.step (fun k => by rw [laws_toScoreS.l0]) (neg (by omega) (ret' ?_))
    rw [List.drop_of_length_le (by omega), List.take_of_length_le (by omega), List.map_nil, List.append_nil]
  | succ d ih =>
    intro i x hi hx
    have hlt : i < l.length := by omega
    refine Ev.step (fun k => by rw [laws_toScoreS.l0]) (pos (by omega) (pos (by omega) ?_))
    rw [rdLScore_lt _ _ hlt, wrap_id (by omega) (by omega)]
    refine Ev.bind (val rfl) (pos (by omega) (of_eq (ih (i + 1) _ (by omega) (by simp [hx])) ?_))
    rw [List.drop_eq_getElem_cons hlt, Int.toNat_natCast, List.take_set, List.take_succ_eq_append_getElem (by omega), List.set_append_right _ _ (by simp; omega), List.map_cons]
    simp [show min i x.length = i by omega]
    rfl
theorem toScoreS_ev (l : List LScore) (hl : l.length ≤ 1048576) : Ev (fun k => laws_toScoreS.f k l) (l.map cvScore) := by
  unfold laws_toScoreS.f
  refine pos (by omega) (pos (by omega) ?_)
  exact of_eq (toScoreS_l0 l (by unfold maxLen; omega) l.length 0 _ (by omega) (by simp)) (by simp)
theorem eqScore_eq (a b : Score) : laws_eqScore.f a.f0 a.f1 b.f0 b.f1 = some (decide (a = b)) := by
  unfold laws_eqScore.f
  obtain ⟨a0, a1⟩ := a
  obtain ⟨b0, b1⟩ := b
  by_cases h0 : a0 = b0
  · by_cases h1 : a1 = b1
    · simp [h0, h1]
    · simp [h0, h1]
  · have : ¬ a0.toList = b0.toList := fun e => h0 (toList_inj e)
    simp [h0, this]
theorem eqScoreS_l0 (l l' : List Score) (hl : l.length ≤ maxLen) (he : l.length = l'.length) (d : Nat) : ∀ (i : Nat), i + d = l.length → Ev (fun k => laws_eqScoreS.l0 k l l' (i : Int)) (decide (l.drop i = l'.drop i)) := by
  unfold maxLen at hl
  induction d with
  | zero =>
    intro i hi
    refine Ev.step (fun k => by rw [laws_eqScoreS.l0]) (neg (by omega) (ret' ?_))
    rw [List.drop_of_length_le (by omega), List.drop_of_length_le (by omega)]
    simp
  | succ d ih =>
    intro i hi
    have hlt : i < l.length := by omega
    have hlt' : i < l'.length := by omega
    refine Ev.step (fun k => by rw [laws_eqScoreS.l0]) (pos (by omega) (pos (by omega) (pos (by omega) ?_)))
    rw [rdScore_lt _ _ hlt, rdScore_lt _ _ hlt', wrap_id (by omega) (by omega), List.drop_eq_getElem_cons hlt, List.drop_eq_getElem_cons hlt']
    refine Ev.bind (val (eqScore_eq _ _)) (both (fun h => ?_) (fun h => ret' ?_))
    · refine of_eq (ih (i + 1) (by omega)) ?_
      rw [of_decide_eq_true h]
      exact decide_eq_decide.2 (by simp only [List.cons.injEq, true_and])
    · exact (decide_eq_false (fun e => h (decide_eq_true (List.cons.inj e).1))).symm
theorem eqScoreS_ev (l l' : List Score) (hl : l.length ≤ maxLen) : Ev (fun k => laws_eqScoreS.f k l l') (decide (l = l')) := by
  unfold laws_eqScoreS.f
  refine both (fun h => ?_) (fun h => ret' ?_)
  · exact eqScoreS_l0 l l' hl (by omega) l.length 0 (by omega)
  · have : l ≠ l' := fun e => h (by rw [e])
    simp [this]
theorem eqScoreS_same (l : List Score) (hl : l.length ≤ maxLen) : Ev (fun k => laws_eqScoreS.f k l l) true := of_eq (eqScoreS_ev l l hl) (by simp)
noncomputable def marksS (n : Int) (m : Nat) : List Score := (List.range m).map fun (j : Nat) => ⟨markT (n + 2 * (j : Int)), n + 2 * (j : Int) + 1⟩
theorem marksS_length (n : Int) (m : Nat) : (marksS n m).length = m := by simp [marksS]
theorem marksS_get (n : Int) (m j : Nat) (h : j < (marksS n m).length) : (marksS n m)[j] = ⟨markT (n + 2 * j), n + 2 * j + 1⟩ := by simp [marksS]
theorem marksS_succ (n : Int) (m : Nat) : marksS n (m + 1) = marksS n m ++ [⟨markT (n + 2 * m), n + 2 * m + 1⟩] := by simp [marksS, List.range_succ]
theorem markScoreS_l0 (n : Int) (m : Nat) (h0 : 0 ≤ n) (h1 : n + 2 * m ≤ 9223372036854775806) (d : Nat) : ∀ (i : Nat) (x : List Score), i + d = m → x.length = m → x.take i = marksS n i →
    Ev (fun k => laws_markScoreS.l0 k x (n + 2 * i) (i : Int)) (n + 2 * m, marksS n m) := by
  induction d with
  | zero =>
    intro i x hi hx ht
    refine Ev.step (g := fun k => laws_markScoreS.l0 k _ _ _) (fun k => by rw [laws_markScoreS.l0]) (neg (by omega) (ret' ?_))
    obtain rfl : i = m := by omega
    rw [List.take_of_length_le (by omega)] at ht
    rw [ht]
  | succ d ih =>
    intro i x hi hx ht
    have hlt : i < x.length := by omega
    refine Ev.step (g := fun k => laws_markScoreS.l0 k _ _ _) (fun k => by rw [laws_markScoreS.l0]) (pos (by omega) (Ev.bind (markT_ev _ (by omega)) ?_))
    refine pos (by omega) (Ev.bind (ret _) ?_)
    rw [wrap_id (x := n + 2 * (i : Int) + 1) (by omega) (by omega), wrap_id (x := n + 2 * (i : Int) + 1 + 1) (by omega) (by omega), wrap_id (x := (i : Int) + 1) (by omega) (by omega)]
    rw [Int.toNat_natCast, rdScore_lt _ _ hlt, rdScore_lt _ _ (by simp; omega)]
    have := ih (i + 1) (x.set i ⟨markT (n + 2 * i), n + 2 * i + 1⟩) (by omega) (by simp [hx]) (by
      rw [List.take_succ_eq_append_getElem (by simp; omega), marksS_succ, List.take_set_of_le (Nat.le_refl _), ht]
      simp)
    rw [show (n + 2 * (i : Int) + 1 + 1) = n + 2 * ((i + 1 : Nat) : Int) by omega, List.set_set, List.getElem_set_self]
    exact this
theorem markScoreS_ev (l : List Score) (n : Int) (h0 : 0 ≤ n) (h1 : n + 2 * l.length ≤ 9223372036854775806) : Ev (fun k => laws_markScoreS.f k l n) (n + 2 * l.length, marksS n l.length) := by
  have := markScoreS_l0 n l.length h0 h1 l.length 0 l (by omega) rfl (by simp [marksS])
  simpa [laws_markScoreS.f] using this
theorem heldScoreS_l0 (n : Int) (m : Nat) (h0 : 0 ≤ n) (h1 : n + 2 * m ≤ 9223372036854775806) (d : Nat) : ∀ (i : Nat), i + d = m →
    Ev (fun k => laws_heldScoreS.l0 k (marksS n m) (n + 2 * i) (i : Int)) (n + 2 * m) := by
  have hm := marksS_length n m
  induction d with
  | zero =>
    intro i hi
    obtain rfl : i = m := by omega
    exact Ev.step (g := fun k => laws_heldScoreS.l0 k _ _ _) (fun k => by rw [laws_heldScoreS.l0]) (neg (by omega) (ret' rfl))
  | succ d ih =>
    intro i hi
    refine Ev.step (g := fun k => laws_heldScoreS.l0 k _ _ _) (fun k => by rw [laws_heldScoreS.l0]) (pos (by omega) (pos (by omega) ?_))
    rw [wrap_id (x := n + 2 * (i : Int) + 1) (by omega) (by omega), wrap_id (x := n + 2 * (i : Int) + 1 + 1) (by omega) (by omega), wrap_id (x := (i : Int) + 1) (by omega) (by omega), rdScore_lt _ _ (by omega), marksS_get]
    refine Ev.bind (markT_ev _ (by omega)) (pos rfl (pos rfl ?_))
    have := ih (i + 1) (by omega)
    rw [show (n + 2 * (i : Int) + 1 + 1) = n + 2 * ((i + 1 : Nat) : Int) by omega]
    exact this
theorem heldScoreS_ev (n : Int) (m : Nat) (h0 : 0 ≤ n) (h1 : n + 2 * m ≤ 9223372036854775806) : Ev (fun k => laws_heldScoreS.f k (marksS n m) n) (n + 2 * m) := by
  have := heldScoreS_l0 n m h0 h1 m 0 (by omega)
  simpa [laws_heldScoreS.f] using this
abbrev LPair := S98
abbrev Pair := S101
instance : DecidableEq Pair := fun a b => decidable_of_iff (a.f0 = b.f0 ∧ a.f1 = b.f1) ⟨fun h => by cases a; cases b; simp at h; simp [h], fun h => by rw [h]; exact ⟨rfl, rfl⟩⟩
theorem rdLPair_lt (l : List LPair) (i : Nat) (h : i < l.length) : rd_T98 l (i : Int) = l[i] := by
  simp [rd_T98, List.getD_eq_getElem?_getD, h]
theorem rdPair_lt (l : List Pair) (i : Nat) (h : i < l.length) : rd_T101 l (i : Int) = l[i] := by
  simp [rd_T101, List.getD_eq_getElem?_getD, h]
theorem szPair_ev (a b : ByteArray) (ha : a.size ≤ maxLen) (hb : b.size ≤ maxLen) (c : Int) (h0 : 0 ≤ c) (h1 : c ≤ 1048576) :
    ∃ v, laws_szPair.f a b c = some v ∧ v ≤ c ∧ -1 ≤ v ∧ (0 ≤ v → a.size ≤ 1048576 ∧ b.size ≤ 1048576) := by
  unfold maxLen at ha hb
  unfold laws_szPair.f
  rw [wrap_id (x := c - (a.size : Int)) (by omega) (by omega)]
  by_cases h : c - (a.size : Int) < 0
  · exact ⟨-1, if_pos h, by omega, by omega, by omega⟩
  · rw [if_neg h, wrap_id (x := c - (a.size : Int) - (b.size : Int)) (by omega) (by omega)]
    by_cases h' : c - (a.size : Int) - (b.size : Int) < 0
    · exact ⟨-1, if_pos h', by omega, by omega, by omega⟩
    · exact ⟨_, if_neg h', by omega, by omega, fun _ => ⟨by omega, by omega⟩⟩
theorem szPairS_l0 (l : List LPair) (hl : l.length ≤ maxLen) (hs : ∀ s ∈ l, s.f0.size ≤ maxLen ∧ s.f1.size ≤ maxLen) (d : Nat) : ∀ (i : Nat) (c : Int), i + d = l.length → 0 ≤ c → c ≤ 1048576 →
    ∃ v, Ev (fun k => laws_szPairS.l0 k l c (i : Int)) v ∧ v ≤ c ∧ -1 ≤ v ∧ (0 ≤ v → ∀ j (h : j < l.length), i ≤ j → l[j].f0.size ≤ 1048576 ∧ l[j].f1.size ≤ 1048576) := by
  unfold maxLen at hl
  induction d with
  | zero =>
    intro i c hi h0 h1
    exact ⟨c, Ev.step (fun k => by rw [laws_szPairS.l0]) (neg (by omega) (ret c)), by omega, by omega, fun _ j hj hij => by omega⟩
  | succ d ih =>
    intro i c hi h0 h1
    have hlt : i < l.length := by omega
    obtain ⟨hs0, hs1⟩ := hs _ (List.getElem_mem hlt)
    obtain ⟨v, hv, hv1, hv2, hv3⟩ := szPair_ev _ _ hs0 hs1 c h0 h1
    by_cases hneg : v < 0
    · refine ⟨-1, Ev.step (fun k => by rw [laws_szPairS.l0]) (pos (by omega) (pos (by omega) ?_)), by omega, by omega, by omega⟩
      rw [rdLPair_lt _ _ hlt]
      exact Ev.bind (val hv) (pos hneg (ret (-1)))
    · obtain ⟨u, hu, h2, h3, h4⟩ := ih (i + 1) v (by omega) (by omega) (by omega)
      refine ⟨u, Ev.step (fun k => by rw [laws_szPairS.l0]) (pos (by omega) (pos (by omega) ?_)), by omega, h3, fun h5 j hj hij => ?_⟩
      · rw [rdLPair_lt _ _ hlt, wrap_id (x := (i : Int) + 1) (by omega) (by omega)]
        exact Ev.bind (val hv) (neg hneg hu)
      · rcases Nat.eq_or_lt_of_le hij with rfl | hij
        · exact hv3 (by omega)
        · exact h4 h5 j hj hij
theorem szPairS_ev (l : List LPair) (hl : l.length ≤ maxLen) (hs : ∀ s ∈ l, s.f0.size ≤ maxLen ∧ s.f1.size ≤ maxLen) (c : Int) (h0 : 0 ≤ c) (h1 : c ≤ 1048576) :
    ∃ v, Ev (fun k => laws_szPairS.f k l c) v ∧ v ≤ c ∧ -1 ≤ v ∧ (0 ≤ v → l.length ≤ 1048576 ∧ ∀ s ∈ l, s.f0.size ≤ 1048576 ∧ s.f1.size ≤ 1048576) := by
  have hl' := hl
  unfold maxLen at hl'
  by_cases h : c - (l.length : Int) < 0
  · refine ⟨-1, ?_, by omega, by omega, by omega⟩
    unfold laws_szPairS.f
    refine pos ?_ (ret _)
    rw [wrap_id (by omega) (by omega)]
    exact h
  · obtain ⟨v, hv, h2, h3, h4⟩ := szPairS_l0 l hl hs l.length 0 (c - (l.length : Int)) (by omega) (by omega) (by omega)
    refine ⟨v, ?_, by omega, h3, fun h5 => ⟨by omega, fun s hs => ?_⟩⟩
    · unfold laws_szPairS.f
      rw [wrap_id (by omega) (by omega)]
      exact neg h hv
    · obtain ⟨j, hj, rfl⟩ := List.getElem_of_mem hs
      exact h4 h5 j hj (by omega)
def cvPair (x : LPair) : Pair := ⟨x.f0, x.f1⟩
theorem toPairS_l0 (l : List LPair) (hl : l.length ≤ maxLen) (d : Nat) : ∀ (i : Nat) (x : List Pair), i + d = l.length → x.length = l.length → Ev (fun k => laws_toPairS.l0 k l x (i : Int)) (x.take i ++ (l.drop i).map cvPair) := by
  unfold maxLen at hl
  induction d with
  | zero =>
    intro i x hi hx
    refine Ev.step (fun k => by rw [laws_toPairS.l0]) (neg (by omega) (ret' ?_))
    rw [List.drop_of_length_le (by omega), List.take_of_length_le (by omega), List.map_nil, List.append_nil]
  | succ d ih =>
    intro i x hi hx
    have hlt : i < l.length := by omega
    refine Ev.step (fun k => by rw [laws_toPairS.l0]) (pos (by omega) (pos (by omega) ?_))
    rw [rdLPair_lt _ _ hlt, wrap_id (by omega) (by omega)]
    refine Ev.bind (val rfl) (pos (by omega) (of_eq (ih (i + 1) _ (by omega) (by simp [hx])) ?_))
    rw [List.drop_eq_getElem_cons hlt, Int.toNat_natCast, List.take_set, List.take_succ_eq_append_getElem (by omega), List.set_append_right _ _ (by simp; omega), List.map_cons]
    simp [show min i x.length = i by omega]
    rfl
theorem toPairS_ev (l : List LPair) (hl : l.length ≤ 1048576) : Ev (fun k => laws_toPairS.f k l) (l.map cvPair) := by
  unfold laws_toPairS.f
  refine pos (by omega) (pos (by omega) ?_)
  exact of_eq (toPairS_l0 l (by unfold maxLen; omega) l.length 0 _ (by omega) (by simp)) (by simp)
theorem eqPair_eq (a b : Pair) : laws_eqPair.f a.f0 a.f1 b.f0 b.f1 = some (decide (a = b)) := by
  unfold laws_eqPair.f
  obtain ⟨a0, a1⟩ := a
  obtain ⟨b0, b1⟩ := b
  by_cases h0 : a0 = b0
  · by_cases h1 : a1 = b1
    · simp [h0, h1]
    · have : ¬ a1.toList = b1.toList := fun e => h1 (toList_inj e)
      simp [h0, h1, this]
  · have : ¬ a0.toList = b0.toList := fun e => h0 (toList_inj e)
    simp [h0, this]
theorem eqPairS_l0 (l l' : List Pair) (hl : l.length ≤ maxLen) (he : l.length = l'.length) (d : Nat) : ∀ (i : Nat), i + d = l.length → Ev (fun k => laws_eqPairS.l0 k l l' (i : Int)) (decide (l.drop i = l'.drop i)) := by
  unfold maxLen at hl
  induction d with
  | zero =>
    intro i hi
    refine Ev.step (fun k => by rw [laws_eqPairS.l0]) (neg (by omega) (ret' ?_))
    rw [List.drop_of_length_le (by omega), List.drop_of_length_le (by omega)]
    simp
  | succ d ih =>
    intro i hi
    have hlt : i < l.length := by omega
    have hlt' : i < l'.length := by omega
    refine Ev.step (fun k => by rw [laws_eqPairS.l0]) (pos (by omega) (pos (by omega) (pos (by omega) ?_)))
    rw [rdPair_lt _ _ hlt, rdPair_lt _ _ hlt', wrap_id (by omega) (by omega), List.drop_eq_getElem_cons hlt, List.drop_eq_getElem_cons hlt']
    refine Ev.bind (val (eqPair_eq _ _)) (both (fun h => ?_) (fun h => ret' ?_))
    · refine of_eq (ih (i + 1) (by omega)) ?_
      rw [of_decide_eq_true h]
      exact decide_eq_decide.2 (by simp only [List.cons.injEq, true_and])
    · exact (decide_eq_false (fun e => h (decide_eq_true (List.cons.inj e).1))).symm
theorem eqPairS_ev (l l' : List Pair) (hl : l.length ≤ maxLen) : Ev (fun k => laws_eqPairS.f k l l') (decide (l = l')) := by
  unfold laws_eqPairS.f
  refine both (fun h => ?_) (fun h => ret' ?_)
  · exact eqPairS_l0 l l' hl (by omega) l.length 0 (by omega)
  · have : l ≠ l' := fun e => h (by rw [e])
    simp [this]
theorem eqPairS_same (l : List Pair) (hl : l.length ≤ maxLen) : Ev (fun k => laws_eqPairS.f k l l) true := of_eq (eqPairS_ev l l hl) (by simp)
noncomputable def marksP (n : Int) (m : Nat) : List Pair := (List.range m).map fun (j : Nat) => ⟨markT (n + 2 * (j : Int)), markT (n + 2 * (j : Int) + 1)⟩
theorem marksP_length (n : Int) (m : Nat) : (marksP n m).length = m := by simp [marksP]
theorem marksP_get (n : Int) (m j : Nat) (h : j < (marksP n m).length) : (marksP n m)[j] = ⟨markT (n + 2 * j), markT (n + 2 * j + 1)⟩ := by simp [marksP]
theorem marksP_succ (n : Int) (m : Nat) : marksP n (m + 1) = marksP n m ++ [⟨markT (n + 2 * m), markT (n + 2 * m + 1)⟩] := by simp [marksP, List.range_succ]
theorem markPairS_l0 (n : Int) (m : Nat) (h0 : 0 ≤ n) (h1 : n + 2 * m ≤ 9223372036854775806) (d : Nat) : ∀ (i : Nat) (x : List Pair), i + d = m → x.length = m → x.take i = marksP n i →
    Ev (fun k => laws_markPairS.l0 k x (n + 2 * i) (i : Int)) (n + 2 * m, marksP n m) := by
  induction d with
  | zero =>
    intro i x hi hx ht
    refine Ev.step (g := fun k => laws_markPairS.l0 k _ _ _) (fun k => by rw [laws_markPairS.l0]) (neg (by omega) (ret' ?_))
    obtain rfl : i = m := by omega
    rw [List.take_of_length_le (by omega)] at ht
    rw [ht]
  | succ d ih =>
    intro i x hi hx ht
    have hlt : i < x.length := by omega
    refine Ev.step (g := fun k => laws_markPairS.l0 k _ _ _) (fun k => by rw [laws_markPairS.l0]) (pos (by omega) (Ev.bind (markT_ev _ (by omega)) ?_))
    refine pos (by omega) (Ev.bind (ret _) ?_)
    rw [wrap_id (x := n + 2 * (i : Int) + 1) (by omega) (by omega), wrap_id (x := n + 2 * (i : Int) + 1 + 1) (by omega) (by omega), wrap_id (x := (i : Int) + 1) (by omega) (by omega)]
    refine Ev.bind (markT_ev _ (by omega)) ?_
    rw [Int.toNat_natCast, rdPair_lt _ _ hlt, rdPair_lt _ _ (by simp; omega)]
    have := ih (i + 1) (x.set i ⟨markT (n + 2 * i), markT (n + 2 * i + 1)⟩) (by omega) (by simp [hx]) (by
      rw [List.take_succ_eq_append_getElem (by simp; omega), marksP_succ, List.take_set_of_le (Nat.le_refl _), ht]
      simp)
    rw [show (n + 2 * (i : Int) + 1 + 1) = n + 2 * ((i + 1 : Nat) : Int) by omega, List.set_set, List.getElem_set_self]
    exact this
theorem markPairS_ev (l : List Pair) (n : Int) (h0 : 0 ≤ n) (h1 : n + 2 * l.length ≤ 9223372036854775806) : Ev (fun k => laws_markPairS.f k l n) (n + 2 * l.length, marksP n l.length) := by
  have := markPairS_l0 n l.length h0 h1 l.length 0 l (by omega) rfl (by simp [marksP])
  simpa [laws_markPairS.f] using this
theorem heldPairS_l0 (n : Int) (m : Nat) (h0 : 0 ≤ n) (h1 : n + 2 * m ≤ 9223372036854775806) (d : Nat) : ∀ (i : Nat), i + d = m →
    Ev (fun k => laws_heldPairS.l0 k (marksP n m) (n + 2 * i) (i : Int)) (n + 2 * m) := by
  have hm := marksP_length n m
  induction d with
  | zero =>
    intro i hi
    obtain rfl : i = m := by omega
    exact Ev.step (g := fun k => laws_heldPairS.l0 k _ _ _) (fun k => by rw [laws_heldPairS.l0]) (neg (by omega) (ret' rfl))
  | succ d ih =>
    intro i hi
    refine Ev.step (g := fun k => laws_heldPairS.l0 k _ _ _) (fun k => by rw [laws_heldPairS.l0]) (pos (by omega) (pos (by omega) ?_))
    rw [wrap_id (x := n + 2 * (i : Int) + 1) (by omega) (by omega), wrap_id (x := n + 2 * (i : Int) + 1 + 1) (by omega) (by omega), wrap_id (x := (i : Int) + 1) (by omega) (by omega), rdPair_lt _ _ (by omega), marksP_get]
    refine Ev.bind (markT_ev _ (by omega)) (pos rfl (Ev.bind (markT_ev _ (by omega)) (pos rfl ?_)))
    have := ih (i + 1) (by omega)
    rw [show (n + 2 * (i : Int) + 1 + 1) = n + 2 * ((i + 1 : Nat) : Int) by omega]
    exact this
theorem heldPairS_ev (n : Int) (m : Nat) (h0 : 0 ≤ n) (h1 : n + 2 * m ≤ 9223372036854775806) : Ev (fun k => laws_heldPairS.f k (marksP n m) n) (n + 2 * m) := by
  have := heldPairS_l0 n m h0 h1 m 0 (by omega)
  simpa [laws_heldPairS.f] using this
end Go.Proofs.Ytnkgmcgbbldkgaa.Q
namespace Go.Proofs.Ytnkgmcgbbldkgaa.Q
open Go.RowKit Go.Proofs.YtnkgmcgbbldkgaaW.PrintWords Go.Proofs.YtnkgmcgbbldkgaaW.PrintLast
theorem bl_irrefl (a : List UInt8) : Op.bytesLess a a = false := by
  induction a with
  | nil => rfl
  | cons x r ih => simp [Op.bytesLess, ih]
theorem bl_trans (a : List UInt8) : ∀ (b c : List UInt8), Op.bytesLess a b = true → Op.bytesLess b c = true → Op.bytesLess a c = true := by
  induction a with
  | nil =>
    intro b c h1 h2
    cases c with
    | nil => cases b <;> simp [Op.bytesLess] at h2
    | cons z c => rfl
  | cons x a ih =>
    intro b c h1 h2
    cases b with
    | nil => simp [Op.bytesLess] at h1
    | cons y b =>
      cases c with
      | nil => simp [Op.bytesLess] at h2
      | cons z c =>
        simp only [Op.bytesLess, Bool.or_eq_true, Bool.and_eq_true, decide_eq_true_eq, beq_iff_eq] at h1 h2 ⊢
        rcases h1 with h1 | ⟨rfl, h1⟩
        · rcases h2 with h2 | ⟨rfl, h2⟩
          · exact .inl (UInt8.lt_trans h1 h2)
          · exact .inl h1
        · rcases h2 with h2 | ⟨rfl, h2⟩
          · exact .inl h2
          · exact .inr ⟨rfl, ih b c h1 h2⟩
theorem bl_tri (a : List UInt8) : ∀ (b : List UInt8), Op.bytesLess a b = true ∨ a = b ∨ Op.bytesLess b a = true := by
  induction a with
  | nil =>
    intro b
    cases b with
    | nil => exact .inr (.inl rfl)
    | cons y b => exact .inl rfl
  | cons x a ih =>
    intro b
    cases b with
    | nil => exact .inr (.inr rfl)
    | cons y b =>
      simp only [Op.bytesLess, Bool.or_eq_true, Bool.and_eq_true, decide_eq_true_eq, beq_iff_eq]
      by_cases h : x < y
      · exact .inl (.inl h)
      · by_cases h' : y < x
        · exact .inr (.inr (.inl h'))
        · obtain rfl : x = y := UInt8.le_antisymm (UInt8.not_lt.1 h') (UInt8.not_lt.1 h)
          rcases ih b with h | rfl | h
          · exact .inl (.inr ⟨rfl, h⟩)
          · exact .inr (.inl rfl)
          · exact .inr (.inr (.inr ⟨rfl, h⟩))
def lt (a b : ByteArray) : Bool := Op.bytesLess a.toList b.toList
theorem lt_irrefl (a : ByteArray) : lt a a = false := bl_irrefl _
theorem lt_trans {a b c : ByteArray} (h : lt a b = true) (h' : lt b c = true) : lt a c = true := bl_trans _ _ _ h h'
theorem lt_tri (a b : ByteArray) : lt a b = true ∨ a = b ∨ lt b a = true := by
  rcases bl_tri a.toList b.toList with h | h | h
  · exact .inl h
  · exact .inr (.inl (toList_inj h))
  · exact .inr (.inr h)
theorem lt_ne {a b : ByteArray} (h : lt a b = true) : a ≠ b := fun e => by rw [e, lt_irrefl] at h; cases h
end Go.Proofs.Ytnkgmcgbbldkgaa.Q
namespace Go.Proofs.Ytnkgmcgbbldkgaa.Q
open Go.RowKit Go.Proofs.YtnkgmcgbbldkgaaW.PrintWords Go.Proofs.YtnkgmcgbbldkgaaW.PrintLast Go.Proofs.Ytnkgmcgbbldkgaa.P
def inB (n low high : Int) : Bool := decide (low ≤ n) && decide (n ≤ high)
def placeB (n : Int) : Bool := inB n (-1000000000) 1000000000
theorem l1In_eq (n low high : Int) : spec_l1In.f n low high = some (inB n low high) := by
  unfold spec_l1In.f inB
  by_cases h : low ≤ n
  · rw [if_pos (show n ≥ low from h)]; simp [h]
  · rw [if_neg (show ¬ n ≥ low from h)]; simp [h]
theorem within_eq (n low high : Int) : impl_within.f n low high = some (inB n low high) := by
  unfold impl_within.f inB
  by_cases h : low ≤ n
  · rw [if_pos (show n ≥ low from h)]; simp [h]
  · rw [if_neg (show ¬ n ≥ low from h)]; simp [h]
theorem position_eq (n : Int) : impl_position.f n = some (placeB n) := by
  unfold impl_position.f
  rw [within_eq]
  rfl
theorem l1In_ev (n low high : Int) : Ev (fun _ => spec_l1In.f n low high) (inB n low high) := val (l1In_eq n low high)
theorem within_ev (n low high : Int) : Ev (fun _ => impl_within.f n low high) (inB n low high) := val (within_eq n low high)
theorem position_ev (n : Int) : Ev (fun _ => impl_position.f n) (placeB n) := val (position_eq n)
def ahd (a b : Score) : Bool := decide (a.f1 < b.f1) || (decide (a.f1 = b.f1) && lt a.f0 b.f0)
theorem l3Ahead_eq (a b : Score) : spec_l3Ahead.f a.f0 a.f1 b.f0 b.f1 = some (ahd a b) := by
  unfold spec_l3Ahead.f ahd
  by_cases h : a.f1 < b.f1
  · rw [if_pos h]; simp [h]
  · rw [if_neg h]
    by_cases h' : a.f1 = b.f1
    · rw [if_pos h']; simp [h', lt]
    · rw [if_neg h']; simp [h, h']
theorem Compare_int_eq (a b : Int) : cmp_Compare_int.f a b = some (if a < b then -1 else if a > b then 1 else 0) := by
  unfold cmp_Compare_int.f cmp_isNaN_int.f
  simp
  split
  · rfl
  · split <;> rfl
theorem Compare_string_eq (a b : ByteArray) : cmp_Compare_string.f a b = some (if lt a b = true then -1 else if lt b a = true then 1 else 0) := by
  unfold cmp_Compare_string.f cmp_isNaN_string.f lt
  simp
  split
  · rfl
  · split <;> rfl
theorem Or_ev (a b : Int) : Ev (fun k => cmp_Or_int.f k [a, b]) (if a = 0 then b else a) := by
  unfold cmp_Or_int.f
  refine Ev.step (g := fun k => cmp_Or_int.l0 k _ _ _ _) (fun k => by rw [cmp_Or_int.l0]) (pos (by simp) (pos (by omega) (pos (by simp) ?_)))
  rw [show rd [a, b] 0 = a by rfl]
  refine both (fun h => ?_) (fun h => ret' (if_neg h).symm)
  rw [if_pos h, show wrap64 (0 + 1) = 1 by unfold wrap64; decide]
  refine Ev.step (g := fun k => cmp_Or_int.l0 k _ _ _ _) (fun k => by rw [cmp_Or_int.l0]) (pos (by simp) (pos (by omega) (pos (by simp) ?_)))
  rw [show rd [a, b] 1 = b by rfl, show wrap64 (1 + 1) = 2 by unfold wrap64; decide]
  refine both (fun h' => ?_) (fun h' => ret _)
  exact Ev.step (g := fun k => cmp_Or_int.l0 k _ _ _ _) (fun k => by rw [cmp_Or_int.l0]) (neg (by simp) (ret' h'.symm))
def ordM (a b : Score) : Int := if a.f1 < b.f1 then -1 else if a.f1 > b.f1 then 1 else if lt a.f0 b.f0 = true then -1 else if lt b.f0 a.f0 = true then 1 else 0
theorem scoreOrder_ev (a b : Score) : Ev (fun k => impl_scoreOrder.f k a.f0 a.f1 b.f0 b.f1) (ordM a b) := by
  unfold impl_scoreOrder.f
  refine Ev.bind (val (Compare_int_eq _ _)) (Ev.bind (val (Compare_string_eq _ _)) (Ev.bind (Or_ev _ _) (ret' ?_)))
  unfold ordM
  by_cases h : a.f1 < b.f1
  · simp [h]
  · by_cases h' : a.f1 > b.f1
    · simp [h, h']
    · simp [h, h']
theorem ordM_ahd (a b : Score) : ordM a b ≥ 0 ↔ ahd a b = false := by
  unfold ordM ahd
  by_cases h : a.f1 < b.f1
  · simp [h]
  · by_cases h' : a.f1 > b.f1
    · have : ¬ a.f1 = b.f1 := by omega
      simp [h, h', this]
    · have : a.f1 = b.f1 := by omega
      cases hl : lt a.f0 b.f0 with
      | true => simp [this]
      | false => simp [this]; split <;> decide
def fresh (l : List Score) (i : Nat) : Bool := (List.range i).all (fun k => !decide ((rd_T99 l (k : Int)).f0 = (rd_T99 l (i : Int)).f0))
def sOk (l : List Score) (i : Nat) : Bool :=
  decide ((rd_T99 l (i : Int)).f0.size ≤ 40) && (placeB (rd_T99 l (i : Int)).f1 && ((decide (i = 0) || ahd (rd_T99 l ((i - 1 : Nat) : Int)) (rd_T99 l (i : Int))) && fresh l i))
theorem sOk_eq {l : List Score} {i : Nat} (h40 : (rd_T99 l (i : Int)).f0.size ≤ 40) (hp : placeB (rd_T99 l (i : Int)).f1 = true) (ha : i = 0 ∨ ahd (rd_T99 l ((i - 1 : Nat) : Int)) (rd_T99 l (i : Int)) = true) : sOk l i = fresh l i := by
  unfold sOk
  rw [decide_eq_true h40, hp, Bool.true_and, Bool.true_and]
  rcases ha with ha | ha
  · rw [decide_eq_true ha, Bool.true_or, Bool.true_and]
  · rw [ha, Bool.or_true, Bool.true_and]
theorem sOk_no {l : List Score} {i : Nat} (h : ¬ (rd_T99 l (i : Int)).f0.size ≤ 40 ∨ placeB (rd_T99 l (i : Int)).f1 = false ∨ (¬ i = 0 ∧ ahd (rd_T99 l ((i - 1 : Nat) : Int)) (rd_T99 l (i : Int)) = false) ∨ fresh l i = false) : sOk l i = false := by
  unfold sOk
  rcases h with h | h | ⟨h, h'⟩ | h
  · rw [decide_eq_false h, Bool.false_and]
  · rw [h, Bool.false_and, Bool.and_false]
  · rw [decide_eq_false h, h', Bool.false_or, Bool.false_and, Bool.and_false, Bool.and_false]
  · rw [h, Bool.and_false, Bool.and_false, Bool.and_false]
def scoresB (l : List Score) : Bool := (List.range' 0 l.length).all (sOk l) && decide ((l.length : Int) ≤ 16)
theorem spec_ScoresOk_l1 (l : List Score) (hl : l.length ≤ maxLen) (i : Nat) (hi : i < l.length) (r : Bool) (hr : Ev (fun k => spec_ScoresOk.l0 k l (wrap64 ((i : Int) + 1))) r) (d : Nat) : ∀ (j : Nat), j + d = i →
    Ev (fun k => spec_ScoresOk.l1 k l (i : Int) (j : Int)) ((List.range' j d).all (fun k => !decide ((rd_T99 l (k : Int)).f0 = (rd_T99 l (i : Int)).f0)) && r) := by
  unfold maxLen at hl
  induction d with
  | zero =>
    intro j hj
    refine Ev.step (g := fun k => spec_ScoresOk.l1 k _ _ _) (fun k => by rw [spec_ScoresOk.l1]) (neg (by omega) ?_)
    simpa using hr
  | succ d ih =>
    intro j hj
    refine Ev.step (g := fun k => spec_ScoresOk.l1 k _ _ _) (fun k => by rw [spec_ScoresOk.l1]) (pos (by omega) (pos (by omega) (pos (by omega) (pos (by omega) (pos (by omega) ?_)))))
    rw [wrap_id (x := (j : Int) + 1) (by omega) (by omega), List.range'_succ, List.all_cons]
    refine both (fun h => ret' ?_) (fun h => ?_)
    · simp [toList_inj h]
    · have : ¬ (rd_T99 l (j : Int)).f0 = (rd_T99 l (i : Int)).f0 := fun e => h (by rw [e])
      refine of_eq (ih (j + 1) (by omega)) ?_
      simp [this]
theorem spec_ScoresOk_l0 (l : List Score) (hl : l.length ≤ maxLen) (d : Nat) : ∀ (i : Nat), i + d = l.length → Ev (fun k => spec_ScoresOk.l0 k l (i : Int)) ((List.range' i d).all (sOk l) && decide ((l.length : Int) ≤ 16)) := by
  have hl' := hl
  unfold maxLen at hl'
  induction d with
  | zero =>
    intro i hi
    refine Ev.step (g := fun k => spec_ScoresOk.l0 k _ _) (fun k => by rw [spec_ScoresOk.l0]) (neg (by omega) (ret' ?_))
    simp
  | succ d ih =>
    intro i hi
    have hw : wrap64 ((i : Int) + 1) = ((i + 1 : Nat) : Int) := by rw [wrap_id (by omega) (by omega)]; omega
    have ih' := ih (i + 1) (by omega)
    have hin := spec_ScoresOk_l1 l hl i (by omega) _ (by rw [hw]; exact ih') i 0 (by omega)
    rw [← List.range_eq_range'] at hin
    refine Ev.step (g := fun k => spec_ScoresOk.l0 k _ _) (fun k => by rw [spec_ScoresOk.l0]) (pos (by omega) (pos (by omega) ?_))
    rw [List.range'_succ, List.all_cons]
    refine both (fun h => ?_) (fun h => ?_)
    · refine Ev.step (g := fun k => spec_ScoresOk.j1 k _ _ _) (fun k => by rw [spec_ScoresOk.j1]) ?_
      exact pos rfl (ret' (by rw [sOk_no (.inl (by omega))]; rfl))
    · have h40 : (rd_T99 l (i : Int)).f0.size ≤ 40 := by omega
      refine Ev.bind (l1In_ev _ _ _) ?_
      rw [show inB (rd_T99 l (i : Int)).f1 (-1000000000) 1000000000 = placeB (rd_T99 l (i : Int)).f1 from rfl]
      cases hp : placeB (rd_T99 l (i : Int)).f1 with
      | false =>
        refine neg (by decide) ?_
        refine Ev.step (g := fun k => spec_ScoresOk.j1 k _ _ _) (fun k => by rw [spec_ScoresOk.j1]) ?_
        exact pos rfl (ret' (by rw [sOk_no (.inr (.inl hp))]; rfl))
      | true =>
        refine pos rfl ?_
        by_cases h0 : i = 0
        · refine neg (by omega) ?_
          refine Ev.step (g := fun k => spec_ScoresOk.j1 k _ _ _) (fun k => by rw [spec_ScoresOk.j1]) ?_
          exact neg (by decide) (of_eq hin (by rw [sOk_eq h40 hp (.inl h0), Bool.and_assoc]; rfl))
        · refine pos (by omega) ?_
          rw [show wrap64 ((i : Int) - 1) = ((i - 1 : Nat) : Int) by rw [wrap_id (by omega) (by omega)]; omega]
          refine pos (by omega) (pos (by omega) (Ev.bind (val (l3Ahead_eq _ _)) ?_))
          cases ha : ahd (rd_T99 l ((i - 1 : Nat) : Int)) (rd_T99 l (i : Int)) with
          | false =>
            refine Ev.step (g := fun k => spec_ScoresOk.j1 k _ _ _) (fun k => by rw [spec_ScoresOk.j1]) ?_
            exact pos rfl (ret' (by rw [sOk_no (.inr (.inr (.inl ⟨h0, ha⟩)))]; rfl))
          | true =>
            refine Ev.step (g := fun k => spec_ScoresOk.j1 k _ _ _) (fun k => by rw [spec_ScoresOk.j1]) ?_
            exact neg (by decide) (of_eq hin (by rw [sOk_eq h40 hp (.inr ha), Bool.and_assoc]; rfl))
theorem spec_ScoresOk_ev (l : List Score) (hl : l.length ≤ maxLen) : Ev (fun k => spec_ScoresOk.f k l) (scoresB l) := spec_ScoresOk_l0 l hl l.length 0 (by omega)
theorem from_ge (t : ByteArray) (r : List Score) : ∀ o : Nat, impl_scoreAt.from t r o = -1 ∨ (o : Int) ≤ impl_scoreAt.from t r o ∧ impl_scoreAt.from t r o < o + r.length := by
  induction r with
  | nil => intro o; exact .inl rfl
  | cons x r ih =>
    intro o
    rw [impl_scoreAt.from]
    by_cases h : x.f0.toList = t.toList
    · rw [if_pos h]; right; simp; omega
    · rw [if_neg h]
      rcases ih (o + 1) with h | h
      · exact .inl h
      · right; simp; omega
theorem from_iff (t : ByteArray) (r : List Score) : ∀ (o j : Nat), impl_scoreAt.from t r o = ((o + j : Nat) : Int) ↔ ∃ h : j < r.length, r[j].f0 = t ∧ ∀ k (hk : k < j), (r[k]'(by omega)).f0 ≠ t := by
  induction r with
  | nil =>
    intro o j
    refine ⟨fun h => ?_, fun ⟨h, _⟩ => ?_⟩
    · have : (-1 : Int) = ((o + j : Nat) : Int) := h
      omega
    · simp at h
  | cons x r ih =>
    intro o j
    rw [impl_scoreAt.from]
    by_cases h : x.f0.toList = t.toList
    · rw [if_pos h]
      refine ⟨fun e => ?_, fun ⟨h1, h2, h3⟩ => ?_⟩
      · obtain rfl : j = 0 := by omega
        exact ⟨by simp, toList_inj h, fun k hk => by omega⟩
      · cases j with
        | zero => rfl
        | succ j => exact absurd (toList_inj h) (h3 0 (by omega))
    · rw [if_neg h]
      cases j with
      | zero =>
        refine ⟨fun e => ?_, fun ⟨h1, h2, h3⟩ => ?_⟩
        · rcases from_ge t r (o + 1) with q | q <;> omega
        · exact absurd (by rw [← h2]; rfl) h
      | succ j =>
        rw [show o + (j + 1) = (o + 1) + j by omega, ih (o + 1) j]
        refine ⟨fun ⟨h1, h2, h3⟩ => ⟨by simp; omega, h2, fun k hk => ?_⟩, fun ⟨h1, h2, h3⟩ => ⟨by simp at h1; omega, h2, fun k hk => h3 (k + 1) (by omega)⟩⟩
        cases k with
        | zero => exact fun e => h (by rw [← e]; rfl)
        | succ k => exact h3 k (by omega)
theorem from_fresh (l : List Score) (i : Nat) (hi : i < l.length) : decide (impl_scoreAt.from (rd_T99 l (i : Int)).f0 l 0 = (i : Int)) = fresh l i := by
  have := from_iff (rd_T99 l (i : Int)).f0 l 0 i
  rw [Nat.zero_add] at this
  rw [Bool.eq_iff_iff, decide_eq_true_iff, this]
  unfold fresh
  simp only [List.all_eq_true, List.mem_range, Bool.not_eq_true', decide_eq_false_iff_not]
  rw [rdScore_lt _ _ hi]
  refine ⟨fun ⟨_, _, h⟩ k hk => ?_, fun h => ⟨hi, rfl, fun k hk => ?_⟩⟩
  · rw [rdScore_lt _ _ (by omega)]; exact h k hk
  · have := h k hk
    rw [rdScore_lt _ _ (by omega)] at this
    exact this
theorem impl_ScoresOk_l0 (l : List Score) (hl : l.length ≤ maxLen) (d : Nat) : ∀ (i : Nat), i + d = l.length → Ev (fun k => impl_ScoresOk.l0 k l l (l.length : Int) (i : Int)) ((List.range' i d).all (sOk l) && decide ((l.length : Int) ≤ 16)) := by
  have hl' := hl
  unfold maxLen at hl'
  induction d with
  | zero =>
    intro i hi
    refine Ev.step (g := fun k => impl_ScoresOk.l0 k _ _ _ _) (fun k => by rw [impl_ScoresOk.l0]) (neg (by omega) (ret' ?_))
    simp
  | succ d ih =>
    intro i hi
    have ih' := ih (i + 1) (by omega)
    have hf := from_fresh l i (by omega)
    refine Ev.step (g := fun k => impl_ScoresOk.l0 k _ _ _ _) (fun k => by rw [impl_ScoresOk.l0]) (pos (by omega) (pos (by omega) (pos (by omega) ?_)))
    rw [List.range'_succ, List.all_cons, wrap_id (x := (i : Int) + 1) (by omega) (by omega)]
    refine both (fun h => ret' (by rw [sOk_no (.inl (by omega))]; rfl)) (fun h => ?_)
    · have h40 : (rd_T99 l (i : Int)).f0.size ≤ 40 := by omega
      refine Ev.bind (position_ev _) ?_
      cases hp : placeB (rd_T99 l (i : Int)).f1 with
      | false => exact neg (by decide) (ret' (by rw [sOk_no (.inr (.inl hp))]; rfl))
      | true =>
        refine pos rfl ?_
        by_cases h0 : i = 0
        · refine neg (by omega) (Ev.bind (val rfl) ?_)
          refine both (fun q => ?_) (fun q => ret' ?_)
          · rw [decide_eq_true q] at hf
            exact of_eq ih' (by rw [sOk_eq h40 hp (.inl h0), ← hf, Bool.true_and])
          · rw [decide_eq_false q] at hf
            rw [sOk_no (.inr (.inr (.inr hf.symm)))]; rfl
        · refine pos (by omega) ?_
          rw [show wrap64 ((i : Int) - 1) = ((i - 1 : Nat) : Int) by rw [wrap_id (by omega) (by omega)]; omega]
          refine pos (by omega) (pos (by omega) (Ev.bind (scoreOrder_ev _ _) ?_))
          refine both (fun q => ret' ?_) (fun q => ?_)
          · rw [sOk_no (.inr (.inr (.inl ⟨h0, (ordM_ahd _ _).1 q⟩)))]; rfl
          · have ha : ahd (rd_T99 l ((i - 1 : Nat) : Int)) (rd_T99 l (i : Int)) = true := by
              cases e : ahd (rd_T99 l ((i - 1 : Nat) : Int)) (rd_T99 l (i : Int)) with
              | true => rfl
              | false => exact absurd ((ordM_ahd _ _).2 e) q
            refine Ev.bind (val rfl) ?_
            refine both (fun q => ?_) (fun q => ret' ?_)
            · rw [decide_eq_true q] at hf
              exact of_eq ih' (by rw [sOk_eq h40 hp (.inr ha), ← hf, Bool.true_and])
            · rw [decide_eq_false q] at hf
              rw [sOk_no (.inr (.inr (.inr hf.symm)))]; rfl
theorem impl_ScoresOk_ev (l : List Score) (hl : l.length ≤ maxLen) : Ev (fun k => impl_ScoresOk.f k l) (scoresB l) := impl_ScoresOk_l0 l hl l.length 0 (by omega)
def ahead : Option ByteArray → ByteArray → Bool
  | none, _ => true
  | some y, x => lt y x
def fieldsUp : Option ByteArray → List Pair → Bool
  | _, [] => true
  | p, x :: r => decide (x.f0.size ≤ 40) && (decide (x.f1.size ≤ 40) && (ahead p x.f0 && fieldsUp (some x.f0) r))
def fieldsB (l : List Pair) : Bool := fieldsUp none l && decide ((l.length : Int) ≤ 16)
def before (l : List Pair) (i : Nat) : Option ByteArray := if h : 0 < i ∧ i - 1 < l.length then some (l[i - 1]'h.2).f0 else none
theorem spec_FieldsOk_l0 (l : List Pair) (hl : l.length ≤ maxLen) (d : Nat) : ∀ (i : Nat), i + d = l.length → Ev (fun k => spec_FieldsOk.l0 k l (i : Int)) (fieldsUp (before l i) (l.drop i) && decide ((l.length : Int) ≤ 16)) := by
  unfold maxLen at hl
  induction d with
  | zero =>
    intro i hi
    refine Ev.step (g := fun k => spec_FieldsOk.l0 k _ _) (fun k => by rw [spec_FieldsOk.l0]) (neg (by omega) (ret' ?_))
    rw [List.drop_of_length_le (by omega), fieldsUp, Bool.true_and]
  | succ d ih =>
    intro i hi
    have hlt : i < l.length := by omega
    refine Ev.step (g := fun k => spec_FieldsOk.l0 k _ _) (fun k => by rw [spec_FieldsOk.l0]) (pos (by omega) (pos (by omega) ?_))
    try refine pos (by omega) ?_
    rw [rdPair_lt _ _ hlt, List.drop_eq_getElem_cons hlt, fieldsUp, wrap_id (x := (i : Int) + 1) (by omega) (by omega)]
    have hb : before l (i + 1) = some l[i].f0 := by unfold before; rw [dif_pos ⟨by omega, by omega⟩]; rfl
    have ih := ih (i + 1) (by omega)
    rw [hb] at ih
    refine both (fun h => ret' ?_) (fun h => both (fun h' => ret' ?_) (fun h' => ?_))
    · rw [decide_eq_false (by omega), Bool.false_and, Bool.false_and]
    · rw [decide_eq_false (p := l[i].f1.size ≤ 40) (by omega)]; simp
    · rw [decide_eq_true (by omega), decide_eq_true (p := l[i].f1.size ≤ 40) (by omega), Bool.true_and, Bool.true_and]
      by_cases h0 : i = 0
      · subst h0
        refine neg (by omega) (of_eq ih ?_)
        simp [before, ahead]
      · have hlt1 : i - 1 < l.length := by omega
        have hp : before l i = some l[i - 1].f0 := by unfold before; rw [dif_pos ⟨by omega, hlt1⟩]
        have e : wrap64 ((i : Int) - 1) = ((i - 1 : Nat) : Int) := by rw [wrap_id (by omega) (by omega)]; omega
        rw [hp, e, rdPair_lt _ _ hlt1]
        refine pos (by omega) (pos (by omega) (pos (by omega) (both (fun h => ?_) (fun h => ret' ?_))))
        · refine of_eq ih ?_
          show _ = (lt l[i - 1].f0 l[i].f0 && fieldsUp (some l[i].f0) (l.drop (i + 1)) && _)
          rw [show lt l[i - 1].f0 l[i].f0 = true from h, Bool.true_and]
        · show false = (lt l[i - 1].f0 l[i].f0 && fieldsUp (some l[i].f0) (l.drop (i + 1)) && _)
          rw [show lt l[i - 1].f0 l[i].f0 = false from Bool.eq_false_iff.2 h, Bool.false_and, Bool.false_and]
theorem spec_FieldsOk_ev (l : List Pair) (hl : l.length ≤ maxLen) : Ev (fun k => spec_FieldsOk.f k l) (fieldsB l) := by
  have := spec_FieldsOk_l0 l hl l.length 0 (by omega)
  simpa [before, spec_FieldsOk.f, fieldsB] using this
theorem impl_FieldsOk_l0 (l : List Pair) (hl : l.length ≤ maxLen) (d : Nat) : ∀ (i : Nat), i + d = l.length → Ev (fun k => impl_FieldsOk.l0 k l l (l.length : Int) (i : Int)) (fieldsUp (before l i) (l.drop i) && decide ((l.length : Int) ≤ 16)) := by
  unfold maxLen at hl
  induction d with
  | zero =>
    intro i hi
    refine Ev.step (g := fun k => impl_FieldsOk.l0 k _ _ _ _) (fun k => by rw [impl_FieldsOk.l0]) (neg (by omega) (ret' ?_))
    rw [List.drop_of_length_le (by omega), fieldsUp, Bool.true_and]
  | succ d ih =>
    intro i hi
    have hlt : i < l.length := by omega
    refine Ev.step (g := fun k => impl_FieldsOk.l0 k _ _ _ _) (fun k => by rw [impl_FieldsOk.l0]) (pos (by omega) (pos (by omega) ?_))
    try refine pos (by omega) ?_
    rw [rdPair_lt _ _ hlt, List.drop_eq_getElem_cons hlt, fieldsUp, wrap_id (x := (i : Int) + 1) (by omega) (by omega)]
    have hb : before l (i + 1) = some l[i].f0 := by unfold before; rw [dif_pos ⟨by omega, by omega⟩]; rfl
    have ih := ih (i + 1) (by omega)
    rw [hb] at ih
    refine both (fun h => ret' ?_) (fun h => both (fun h' => ret' ?_) (fun h' => ?_))
    · rw [decide_eq_false (by omega), Bool.false_and, Bool.false_and]
    · rw [decide_eq_false (p := l[i].f1.size ≤ 40) (by omega)]; simp
    · rw [decide_eq_true (by omega), decide_eq_true (p := l[i].f1.size ≤ 40) (by omega), Bool.true_and, Bool.true_and]
      by_cases h0 : i = 0
      · subst h0
        refine neg (by omega) (of_eq ih ?_)
        simp [before, ahead]
      · have hlt1 : i - 1 < l.length := by omega
        have hp : before l i = some l[i - 1].f0 := by unfold before; rw [dif_pos ⟨by omega, hlt1⟩]
        have e : wrap64 ((i : Int) - 1) = ((i - 1 : Nat) : Int) := by rw [wrap_id (by omega) (by omega)]; omega
        rw [hp, e, rdPair_lt _ _ hlt1]
        refine pos (by omega) (pos (by omega) (pos (by omega) (both (fun h => ?_) (fun h => ret' ?_))))
        · refine of_eq ih ?_
          show _ = (lt l[i - 1].f0 l[i].f0 && fieldsUp (some l[i].f0) (l.drop (i + 1)) && _)
          rw [show lt l[i - 1].f0 l[i].f0 = true from h, Bool.true_and]
        · show false = (lt l[i - 1].f0 l[i].f0 && fieldsUp (some l[i].f0) (l.drop (i + 1)) && _)
          rw [show lt l[i - 1].f0 l[i].f0 = false from Bool.eq_false_iff.2 h, Bool.false_and, Bool.false_and]
theorem impl_FieldsOk_ev (l : List Pair) (hl : l.length ≤ maxLen) : Ev (fun k => impl_FieldsOk.f k l) (fieldsB l) := by
  have := impl_FieldsOk_l0 l hl l.length 0 (by omega)
  simpa [before, impl_FieldsOk.f, fieldsB] using this
theorem szStringS_l0 (l : List ByteArray) (hl : l.length ≤ maxLen) (hs : ∀ s ∈ l, s.size ≤ maxLen) (d : Nat) : ∀ (i : Nat) (c : Int), i + d = l.length → 0 ≤ c → c ≤ 1048576 →
    ∃ v, Ev (fun k => laws_szStringS.l0 k l c (i : Int)) v ∧ v ≤ c ∧ -1 ≤ v ∧ (0 ≤ v → ∀ j (h : j < l.length), i ≤ j → l[j].size ≤ 1048576) := by
  unfold maxLen at hl hs
  induction d with
  | zero =>
    intro i c hi h0 h1
    exact ⟨c, Ev.step (fun k => by rw [laws_szStringS.l0]) (neg (by omega) (ret c)), by omega, by omega, fun _ j hj hij => by omega⟩
  | succ d ih =>
    intro i c hi h0 h1
    have hlt : i < l.length := by omega
    have hsz := hs _ (List.getElem_mem hlt)
    by_cases hneg : c - (l[i].size : Int) < 0
    · refine ⟨-1, Ev.step (fun k => by rw [laws_szStringS.l0]) (pos (by omega) (pos (by omega) (pos ?_ (ret (-1))))), by omega, by omega, by omega⟩
      rw [rdOf_lt _ _ _ hlt, wrap_id (by omega) (by omega)]
      exact hneg
    · obtain ⟨v, hv, h2, h3, h4⟩ := ih (i + 1) (c - (l[i].size : Int)) (by omega) (by omega) (by omega)
      refine ⟨v, Ev.step (fun k => by rw [laws_szStringS.l0]) (pos (by omega) (pos (by omega) (neg ?_ ?_))), by omega, h3, fun h5 j hj hij => ?_⟩
      · rw [rdOf_lt _ _ _ hlt, wrap_id (by omega) (by omega)]
        exact hneg
      · rw [rdOf_lt _ _ _ hlt, wrap_id (x := c - _) (by omega) (by omega), wrap_id (x := (i : Int) + 1) (by omega) (by omega)]
        exact hv
      · rcases Nat.eq_or_lt_of_le hij with rfl | hij
        · omega
        · exact h4 h5 j hj hij
theorem szStringS_ev (l : List ByteArray) (hl : l.length ≤ maxLen) (hs : ∀ s ∈ l, s.size ≤ maxLen) (c : Int) (h0 : 0 ≤ c) (h1 : c ≤ 1048576) :
    ∃ v, Ev (fun k => laws_szStringS.f k l c) v ∧ v ≤ c ∧ -1 ≤ v ∧ (0 ≤ v → l.length ≤ 1048576 ∧ ∀ s ∈ l, s.size ≤ 1048576) := by
  have hl' := hl
  unfold maxLen at hl'
  by_cases h : c - (l.length : Int) < 0
  · refine ⟨-1, ?_, by omega, by omega, by omega⟩
    unfold laws_szStringS.f
    refine pos ?_ (ret _)
    rw [wrap_id (by omega) (by omega)]
    exact h
  · obtain ⟨v, hv, h2, h3, h4⟩ := szStringS_l0 l hl hs l.length 0 (c - (l.length : Int)) (by omega) (by omega) (by omega)
    refine ⟨v, ?_, by omega, h3, fun h5 => ⟨by omega, fun s hs => ?_⟩⟩
    · unfold laws_szStringS.f
      rw [wrap_id (by omega) (by omega)]
      exact neg h hv
    · obtain ⟨j, hj, rfl⟩ := List.getElem_of_mem hs
      exact h4 h5 j hj (by omega)
def textsB (l : List ByteArray) (m : Int) : Bool := l.all (fun s => decide (s.size ≤ 40)) && decide ((l.length : Int) ≤ m)
theorem l2Texts_l0 (l : List ByteArray) (hl : l.length ≤ maxLen) (d : Nat) : ∀ (i : Nat), i + d = l.length → Ev (fun k => spec_l2Texts.l0 k l (i : Int)) ((l.drop i).all (fun s => decide (s.size ≤ 40)) && decide ((l.length : Int) ≤ 16)) := by
  unfold maxLen at hl
  induction d with
  | zero =>
    intro i hi
    refine Ev.step (fun k => by rw [spec_l2Texts.l0]) (neg (by omega) (ret' ?_))
    rw [List.drop_of_length_le (by omega)]
    simp
  | succ d ih =>
    intro i hi
    have hlt : i < l.length := by omega
    refine Ev.step (fun k => by rw [spec_l2Texts.l0]) (pos (by omega) (pos (by omega) ?_))
    rw [rdOf_lt _ _ _ hlt, List.drop_eq_getElem_cons hlt, List.all_cons, wrap_id (by omega) (by omega)]
    refine both (fun h => ret' ?_) (fun h => ?_)
    · have : ¬ l[i].size ≤ 40 := by omega
      simp [this]
    · have : l[i].size ≤ 40 := by omega
      simp only [this, decide_true, Bool.true_and]
      exact ih (i + 1) (by omega)
theorem l2Texts_ev (l : List ByteArray) (hl : l.length ≤ maxLen) : Ev (fun k => spec_l2Texts.f k l) (textsB l 16) := l2Texts_l0 l hl l.length 0 (by omega)
theorem textsOk_l0 (l : List ByteArray) (hl : l.length ≤ maxLen) (m : Int) (d : Nat) : ∀ (i : Nat), i + d = l.length → Ev (fun k => impl_textsOk.l0 k l m l (l.length : Int) (i : Int)) ((l.drop i).all (fun s => decide (s.size ≤ 40)) && decide ((l.length : Int) ≤ m)) := by
  unfold maxLen at hl
  induction d with
  | zero =>
    intro i hi
    refine Ev.step (fun k => by rw [impl_textsOk.l0]) (neg (by omega) (ret' ?_))
    rw [List.drop_of_length_le (by omega)]
    simp
  | succ d ih =>
    intro i hi
    have hlt : i < l.length := by omega
    refine Ev.step (fun k => by rw [impl_textsOk.l0]) (pos (by omega) (pos (by omega) (pos (by omega) ?_)))
    rw [rdOf_lt _ _ _ hlt, List.drop_eq_getElem_cons hlt, List.all_cons, wrap_id (by omega) (by omega)]
    refine both (fun h => ret' ?_) (fun h => ?_)
    · have : ¬ l[i].size ≤ 40 := by omega
      simp [this]
    · have : l[i].size ≤ 40 := by omega
      simp only [this, decide_true, Bool.true_and]
      exact ih (i + 1) (by omega)
theorem textsOk_ev (l : List ByteArray) (hl : l.length ≤ maxLen) (m : Int) : Ev (fun k => impl_textsOk.f k l m) (textsB l m) := textsOk_l0 l hl m l.length 0 (by omega)
theorem listOk_ev (l : List ByteArray) (hl : l.length ≤ maxLen) : Ev (fun k => impl_listOk.f k l) (textsB l 16) := by
  unfold impl_listOk.f
  exact Ev.bind (textsOk_ev l hl 16) (ret _)
theorem toStringS_l0 (l : List ByteArray) (hl : l.length ≤ maxLen) (d : Nat) : ∀ (i : Nat) (x : List ByteArray), i + d = l.length → x.length = l.length → Ev (fun k => laws_toStringS.l0 k l x (i : Int)) (x.take i ++ l.drop i) := by
  unfold maxLen at hl
  induction d with
  | zero =>
    intro i x hi hx
    refine Ev.step (fun k => by rw [laws_toStringS.l0]) (neg (by omega) (ret' ?_))
    rw [List.drop_of_length_le (by omega), List.take_of_length_le (by omega), List.append_nil]
  | succ d ih =>
    intro i x hi hx
    have hlt : i < l.length := by omega
    refine Ev.step (fun k => by rw [laws_toStringS.l0]) (pos (by omega) (pos (by omega) (pos (by omega) ?_)))
    rw [rdOf_lt _ _ _ hlt, wrap_id (by omega) (by omega)]
    refine of_eq (ih (i + 1) _ (by omega) (by simp [hx])) ?_
    rw [List.drop_eq_getElem_cons hlt, Int.toNat_natCast, List.take_set, List.take_succ_eq_append_getElem (by omega), List.set_append_right _ _ (by simp; omega)]
    simp [show min i x.length = i by omega]
theorem toStringS_ev (l : List ByteArray) (hl : l.length ≤ 17592186044416) : Ev (fun k => laws_toStringS.f k l) l := by
  unfold laws_toStringS.f
  refine pos (by omega) (pos (by omega) ?_)
  exact of_eq (toStringS_l0 l (by unfold maxLen; omega) l.length 0 _ (by omega) (by simp)) (by simp)
theorem eqStringS_l0 (l l' : List ByteArray) (hl : l.length ≤ maxLen) (he : l.length = l'.length) (d : Nat) : ∀ (i : Nat), i + d = l.length → Ev (fun k => laws_eqStringS.l0 k l l' (i : Int)) (decide (l.drop i = l'.drop i)) := by
  unfold maxLen at hl
  induction d with
  | zero =>
    intro i hi
    refine Ev.step (fun k => by rw [laws_eqStringS.l0]) (neg (by omega) (ret' ?_))
    rw [List.drop_of_length_le (by omega), List.drop_of_length_le (by omega)]
    simp
  | succ d ih =>
    intro i hi
    have hlt : i < l.length := by omega
    have hlt' : i < l'.length := by omega
    refine Ev.step (fun k => by rw [laws_eqStringS.l0]) (pos (by omega) (pos (by omega) (pos (by omega) ?_)))
    rw [rdOf_lt _ _ _ hlt, rdOf_lt _ _ _ hlt', wrap_id (by omega) (by omega), List.drop_eq_getElem_cons hlt, List.drop_eq_getElem_cons hlt']
    refine both (fun h => ?_) (fun h => ret' ?_)
    · refine of_eq (ih (i + 1) (by omega)) ?_
      rw [toList_inj h]
      exact decide_eq_decide.2 (by simp only [List.cons.injEq, true_and])
    · exact (decide_eq_false (fun e => h (by rw [(List.cons.inj e).1]))).symm
theorem eqStringS_ev (l l' : List ByteArray) (hl : l.length ≤ maxLen) : Ev (fun k => laws_eqStringS.f k l l') (decide (l = l')) := by
  unfold laws_eqStringS.f
  refine both (fun h => ?_) (fun h => ret' ?_)
  · exact eqStringS_l0 l l' hl (by omega) l.length 0 (by omega)
  · have : l ≠ l' := fun e => h (by rw [e])
    simp [this]
theorem eqStringS_same (l : List ByteArray) (hl : l.length ≤ maxLen) : Ev (fun k => laws_eqStringS.f k l l) true := of_eq (eqStringS_ev l l hl) (by simp)
def ascB : List ByteArray → Bool
  | a :: b :: r => lt a b && ascB (b :: r)
  | _ => true
def setB (l : List ByteArray) : Bool := ascB l && textsB l 16
theorem spec_SetOk_l0 (l : List ByteArray) (hl : l.length ≤ maxLen) (d : Nat) : ∀ (j : Nat), j + 1 + d = l.length → Ev (fun k => spec_SetOk.l0 k l ((j : Int) + 1)) (ascB (l.drop j) && textsB l 16) := by
  have hl' := hl
  unfold maxLen at hl'
  induction d with
  | zero =>
    intro j hj
    refine Ev.step (fun k => by rw [spec_SetOk.l0]) (neg (by omega) ?_)
    rw [List.drop_eq_getElem_cons (by omega : j < l.length), List.drop_of_length_le (by omega)]
    exact Ev.bind (l2Texts_ev l hl) (ret' (by simp [ascB]))
  | succ d ih =>
    intro j hj
    have h1 : j < l.length := by omega
    have h2 : j + 1 < l.length := by omega
    have e : (j : Int) + 1 = ((j + 1 : Nat) : Int) := by omega
    refine Ev.step (fun k => by rw [spec_SetOk.l0]) (pos (by omega) ?_)
    rw [wrap_id (x := (j : Int) + 1 - 1) (by omega) (by omega), show (j : Int) + 1 - 1 = (j : Int) by omega]
    refine pos (by omega) (pos (by omega) (pos (by omega) ?_))
    rw [rdOf_lt _ _ _ h1, e, rdOf_lt _ _ _ h2, wrap_id (by omega) (by omega)]
    have hd : l.drop j = l[j] :: l[j + 1] :: l.drop (j + 2) := by rw [List.drop_eq_getElem_cons h1, List.drop_eq_getElem_cons h2]
    have hd1 : l.drop (j + 1) = l[j + 1] :: l.drop (j + 2) := List.drop_eq_getElem_cons h2
    rw [hd]
    refine both (fun h => ?_) (fun h => ret' ?_)
    · have := ih (j + 1) (by omega)
      rw [hd1] at this
      refine of_eq this ?_
      show _ = (lt l[j] l[j + 1] && ascB (l[j + 1] :: l.drop (j + 2)) && textsB l 16)
      rw [show lt l[j] l[j + 1] = true from h, Bool.true_and]
    · show false = (lt l[j] l[j + 1] && ascB (l[j + 1] :: l.drop (j + 2)) && textsB l 16)
      rw [show lt l[j] l[j + 1] = false from Bool.eq_false_iff.2 h, Bool.false_and, Bool.false_and]
theorem spec_SetOk_ev (l : List ByteArray) (hl : l.length ≤ maxLen) : Ev (fun k => spec_SetOk.f k l) (setB l) := by
  unfold spec_SetOk.f setB
  by_cases h : l.length = 0
  · obtain rfl : l = [] := List.length_eq_zero_iff.1 h
    refine Ev.step (fun k => by rw [spec_SetOk.l0]) (neg (by simp) ?_)
    exact Ev.bind (l2Texts_ev [] (by simp)) (ret' (by simp [ascB]))
  · exact spec_SetOk_l0 l hl (l.length - 1) 0 (by omega)
theorem impl_SetOk_l0 (l : List ByteArray) (hl : l.length ≤ maxLen) (d : Nat) : ∀ (j : Nat), j + 1 + d = l.length → Ev (fun k => impl_SetOk.l0 k l ((j : Int) + 1)) (ascB (l.drop j) && textsB l 16) := by
  have hl' := hl
  unfold maxLen at hl'
  induction d with
  | zero =>
    intro j hj
    refine Ev.step (fun k => by rw [impl_SetOk.l0]) (neg (by omega) ?_)
    rw [List.drop_eq_getElem_cons (by omega : j < l.length), List.drop_of_length_le (by omega)]
    exact Ev.bind (listOk_ev l hl) (ret' (by simp [ascB]))
  | succ d ih =>
    intro j hj
    have h1 : j < l.length := by omega
    have h2 : j + 1 < l.length := by omega
    have e : (j : Int) + 1 = ((j + 1 : Nat) : Int) := by omega
    refine Ev.step (fun k => by rw [impl_SetOk.l0]) (pos (by omega) ?_)
    rw [wrap_id (x := (j : Int) + 1 - 1) (by omega) (by omega), show (j : Int) + 1 - 1 = (j : Int) by omega]
    refine pos (by omega) (pos (by omega) (pos (by omega) ?_))
    rw [rdOf_lt _ _ _ h1, e, rdOf_lt _ _ _ h2, wrap_id (by omega) (by omega)]
    have hd : l.drop j = l[j] :: l[j + 1] :: l.drop (j + 2) := by rw [List.drop_eq_getElem_cons h1, List.drop_eq_getElem_cons h2]
    have hd1 : l.drop (j + 1) = l[j + 1] :: l.drop (j + 2) := List.drop_eq_getElem_cons h2
    rw [hd]
    refine both (fun h => ?_) (fun h => ret' ?_)
    · have := ih (j + 1) (by omega)
      rw [hd1] at this
      refine of_eq this ?_
      show _ = (lt l[j] l[j + 1] && ascB (l[j + 1] :: l.drop (j + 2)) && textsB l 16)
      rw [show lt l[j] l[j + 1] = true from h, Bool.true_and]
    · show false = (lt l[j] l[j + 1] && ascB (l[j + 1] :: l.drop (j + 2)) && textsB l 16)
      rw [show lt l[j] l[j + 1] = false from Bool.eq_false_iff.2 h, Bool.false_and, Bool.false_and]
theorem impl_SetOk_ev (l : List ByteArray) (hl : l.length ≤ maxLen) : Ev (fun k => impl_SetOk.f k l) (setB l) := by
  unfold impl_SetOk.f setB
  by_cases h : l.length = 0
  · obtain rfl : l = [] := List.length_eq_zero_iff.1 h
    refine Ev.step (fun k => by rw [impl_SetOk.l0]) (neg (by simp) ?_)
    exact Ev.bind (listOk_ev [] (by simp)) (ret' (by simp [ascB]))
  · exact impl_SetOk_l0 l hl (l.length - 1) 0 (by omega)
end Go.Proofs.Ytnkgmcgbbldkgaa.Q
namespace Go.Proofs.Ytnkgmcgbbldkgaa.Q
open Go.RowKit Go.Proofs.YtnkgmcgbbldkgaaW.PrintWords Go.Proofs.YtnkgmcgbbldkgaaW.PrintLast Go.Proofs.Ytnkgmcgbbldkgaa.P
set_option linter.unusedSimpArgs false
def kindB (kd : Int) (sz bt bl bs bf T S C F : Bool) : Bool :=
  if kd = 1 then sz && (bl && (bs && bf)) else if kd = 2 then bt && (!bl && (T && (bs && bf))) else if kd = 3 then bt && (!bl && (S && (bs && bf))) else if kd = 4 then bt && (bl && (!bs && (C && bf))) else if kd = 5 then bt && (bl && (bs && (!bf && F))) else false
def entryB (key : ByteArray) (exp kd : Int) (t : ByteArray) (l : List ByteArray) (s : List Score) (f : List Pair) : Bool :=
  inB (key.size : Int) 1 12 && (inB exp 0 2000000 && kindB kd (decide ((t.size : Int) ≤ 40)) (decide (t.toList = [])) (decide (l.length = 0)) (decide (s.length = 0)) (decide (f.length = 0)) (textsB l 16) (setB l) (scoresB s) (fieldsB f))
theorem len_pos (n : Nat) : ((n : Int) > 0) = (decide (n = 0) = false) := by
  rw [decide_eq_false_iff_not]
  exact propext (by omega)
theorem len_zero (n : Nat) : ((n : Int) = 0) = (decide (n = 0) = true) := by
  rw [decide_eq_true_iff]
  exact propext (by omega)
theorem len_beq (n : Nat) : ((n : Int) == 0) = decide (n = 0) := by
  rw [Bool.eq_iff_iff, beq_iff_eq, decide_eq_true_iff]
  omega
theorem len_dec (n : Nat) : decide ((n : Int) > 0) = !decide (n = 0) := by
  rw [Bool.eq_iff_iff, decide_eq_true_iff, Bool.not_eq_true', decide_eq_false_iff_not]
  omega
theorem text_nil (t : ByteArray) : (t.toList = ([] : List UInt8)) = (decide (t.toList = ([] : List UInt8)) = true) := by rw [decide_eq_true_iff]
theorem spec_EntryOk_j0 (key : ByteArray) (exp kd : Int) (t : ByteArray) (l : List ByteArray) (s : List Score) (f : List Pair) (hl : l.length ≤ maxLen) (hs : s.length ≤ maxLen) (hf : f.length ≤ maxLen) :
    Ev (fun k => spec_EntryOk.j0 k false key exp kd t l s f) (kindB kd (decide ((t.size : Int) ≤ 40)) (decide (t.toList = [])) (decide (l.length = 0)) (decide (s.length = 0)) (decide (f.length = 0)) (textsB l 16) (setB l) (scoresB s) (fieldsB f)) := by
  have hT := l2Texts_ev l hl
  have hT' := listOk_ev l hl
  have hS := spec_SetOk_ev l hl
  have hC := spec_ScoresOk_ev s hs
  have hF := spec_FieldsOk_ev f hf
  refine Ev.step (g := fun k => spec_EntryOk.j0 k _ _ _ _ _ _ _ _) (fun k => by rw [spec_EntryOk.j0]) (neg (by decide) ?_)
  generalize hbl : decide (l.length = 0) = bl
  generalize hbs : decide (s.length = 0) = bs
  generalize hbf : decide (f.length = 0) = bf
  generalize hbt : decide (t.toList = ([] : List UInt8)) = bt
  generalize hz : decide ((t.size : Int) ≤ 40) = sz
  have z1 : ((t.size : Int) ≤ 40) = (sz = true) := by rw [← hz, decide_eq_true_iff]
  have a1 := len_pos l.length
  have a2 := len_pos s.length
  have a3 := len_pos f.length
  have b1 := len_zero l.length
  have b2 := len_zero s.length
  have b3 := len_zero f.length
  have c1 := len_beq f.length
  have d1 := len_dec f.length
  have d2 := len_dec s.length
  have e1 := text_nil t
  rw [hbl] at a1 b1
  rw [hbs] at a2 b2 d2
  rw [hbf] at a3 b3 c1 d1
  rw [hbt] at e1
  generalize textsB l 16 = T at hT hT'
  generalize setB l = S at hS
  generalize scoresB s = C at hC
  generalize fieldsB f = F at hF
  clear hbl hbs hbf hbt hz
  simp only [a1, a2, a3, b1, b2, b3, c1, d1, d2, e1, z1]
  clear a1 a2 a3 b1 b2 b3 c1 d1 d2 e1 z1
  repeat' first
    | refine Ev.bind hT ?_
    | refine Ev.bind hT' ?_
    | refine Ev.bind hS ?_
    | refine Ev.bind hC ?_
    | refine Ev.bind hF ?_
    | (refine ret' ?_; simp_all [kindB]; done)
    | refine both (fun _ => ?_) (fun _ => ?_)
theorem spec_EntryOk_ev (key : ByteArray) (exp kd : Int) (t : ByteArray) (l : List ByteArray) (s : List Score) (f : List Pair) (hl : l.length ≤ maxLen) (hs : s.length ≤ maxLen) (hf : f.length ≤ maxLen) :
    Ev (fun k => spec_EntryOk.f k key exp kd t l s f) (entryB key exp kd t l s f) := by
  have hj := spec_EntryOk_j0 key exp kd t l s f hl hs hf
  unfold spec_EntryOk.f entryB
  have no : Ev (fun k => spec_EntryOk.j0 k true key exp kd t l s f) false := by
    refine Ev.step (g := fun k => spec_EntryOk.j0 k _ _ _ _ _ _ _ _) (fun k => by rw [spec_EntryOk.j0]) ?_
    exact pos rfl (ret _)
  have hK : Ev (fun _ => spec_l4Key.f key) (inB (key.size : Int) 1 12) := by
    unfold spec_l4Key.f
    exact Ev.bind (l1In_ev _ _ _) (ret _)
  have hK' : Ev (fun _ => impl_keyOk.f key) (inB (key.size : Int) 1 12) := by
    unfold impl_keyOk.f
    exact Ev.bind (within_ev _ _ _) (ret _)
  have hE := l1In_ev exp 0 2000000
  have hE' := within_ev exp 0 2000000
  first
    | refine Ev.bind hK ?_
    | refine Ev.bind hK' ?_
  cases inB (key.size : Int) 1 12 with
  | false => exact neg (by decide) no
  | true =>
    refine pos rfl ?_
    first
      | refine Ev.bind hE ?_
      | refine Ev.bind hE' ?_
    cases inB exp 0 2000000 with
    | false => exact no
    | true => exact hj
theorem impl_EntryOk_j0 (key : ByteArray) (exp kd : Int) (t : ByteArray) (l : List ByteArray) (s : List Score) (f : List Pair) (hl : l.length ≤ maxLen) (hs : s.length ≤ maxLen) (hf : f.length ≤ maxLen) :
    Ev (fun k => impl_EntryOk.j0 k false key exp kd t l s f) (kindB kd (decide ((t.size : Int) ≤ 40)) (decide (t.toList = [])) (decide (l.length = 0)) (decide (s.length = 0)) (decide (f.length = 0)) (textsB l 16) (setB l) (scoresB s) (fieldsB f)) := by
  have hT := l2Texts_ev l hl
  have hT' := listOk_ev l hl
  have hS := impl_SetOk_ev l hl
  have hC := impl_ScoresOk_ev s hs
  have hF := impl_FieldsOk_ev f hf
  refine Ev.step (g := fun k => impl_EntryOk.j0 k _ _ _ _ _ _ _ _) (fun k => by rw [impl_EntryOk.j0]) (neg (by decide) ?_)
  generalize hbl : decide (l.length = 0) = bl
  generalize hbs : decide (s.length = 0) = bs
  generalize hbf : decide (f.length = 0) = bf
  generalize hbt : decide (t.toList = ([] : List UInt8)) = bt
  generalize hz : decide ((t.size : Int) ≤ 40) = sz
  have z1 : ((t.size : Int) ≤ 40) = (sz = true) := by rw [← hz, decide_eq_true_iff]
  have a1 := len_pos l.length
  have a2 := len_pos s.length
  have a3 := len_pos f.length
  have b1 := len_zero l.length
  have b2 := len_zero s.length
  have b3 := len_zero f.length
  have c1 := len_beq f.length
  have d1 := len_dec f.length
  have d2 := len_dec s.length
  have e1 := text_nil t
  rw [hbl] at a1 b1
  rw [hbs] at a2 b2 d2
  rw [hbf] at a3 b3 c1 d1
  rw [hbt] at e1
  generalize textsB l 16 = T at hT hT'
  generalize setB l = S at hS
  generalize scoresB s = C at hC
  generalize fieldsB f = F at hF
  clear hbl hbs hbf hbt hz
  simp only [a1, a2, a3, b1, b2, b3, c1, d1, d2, e1, z1]
  clear a1 a2 a3 b1 b2 b3 c1 d1 d2 e1 z1
  repeat' first
    | refine Ev.bind hT ?_
    | refine Ev.bind hT' ?_
    | refine Ev.bind hS ?_
    | refine Ev.bind hC ?_
    | refine Ev.bind hF ?_
    | (refine ret' ?_; simp_all [kindB]; done)
    | refine both (fun _ => ?_) (fun _ => ?_)
theorem impl_EntryOk_ev (key : ByteArray) (exp kd : Int) (t : ByteArray) (l : List ByteArray) (s : List Score) (f : List Pair) (hl : l.length ≤ maxLen) (hs : s.length ≤ maxLen) (hf : f.length ≤ maxLen) :
    Ev (fun k => impl_EntryOk.f k key exp kd t l s f) (entryB key exp kd t l s f) := by
  have hj := impl_EntryOk_j0 key exp kd t l s f hl hs hf
  unfold impl_EntryOk.f entryB
  have no : Ev (fun k => impl_EntryOk.j0 k true key exp kd t l s f) false := by
    refine Ev.step (g := fun k => impl_EntryOk.j0 k _ _ _ _ _ _ _ _) (fun k => by rw [impl_EntryOk.j0]) ?_
    exact pos rfl (ret _)
  have hK : Ev (fun _ => spec_l4Key.f key) (inB (key.size : Int) 1 12) := by
    unfold spec_l4Key.f
    exact Ev.bind (l1In_ev _ _ _) (ret _)
  have hK' : Ev (fun _ => impl_keyOk.f key) (inB (key.size : Int) 1 12) := by
    unfold impl_keyOk.f
    exact Ev.bind (within_ev _ _ _) (ret _)
  have hE := l1In_ev exp 0 2000000
  have hE' := within_ev exp 0 2000000
  first
    | refine Ev.bind hK ?_
    | refine Ev.bind hK' ?_
  cases inB (key.size : Int) 1 12 with
  | false => exact neg (by decide) no
  | true =>
    refine pos rfl ?_
    first
      | refine Ev.bind hE ?_
      | refine Ev.bind hE' ?_
    cases inB exp 0 2000000 with
    | false => exact no
    | true => exact hj
end Go.Proofs.Ytnkgmcgbbldkgaa.Q
namespace Go.Proofs.Ytnkgmcgbbldkgaa.Q
open Go.RowKit Go.Proofs.YtnkgmcgbbldkgaaW.PrintWords Go.Proofs.YtnkgmcgbbldkgaaW.PrintLast Go.Proofs.Ytnkgmcgbbldkgaa.P
abbrev LEntry := S26
abbrev Entry := S32
theorem rdLEntry_lt (l : List LEntry) (i : Nat) (h : i < l.length) : rd_T26 l (i : Int) = l[i] := by
  simp [rd_T26, List.getD_eq_getElem?_getD, h]
theorem rdEntry_lt (l : List Entry) (i : Nat) (h : i < l.length) : rd_T32 l (i : Int) = l[i] := by
  simp [rd_T32, List.getD_eq_getElem?_getD, h]
def entryIn (x : LEntry) : Prop := x.f0.size ≤ maxLen ∧ x.f3.size ≤ maxLen ∧ (x.f4.length ≤ maxLen ∧ ∀ s ∈ x.f4, s.size ≤ maxLen) ∧ (x.f5.length ≤ maxLen ∧ ∀ s ∈ x.f5, s.f0.size ≤ maxLen ∧ (Lit.int .i64 s.f1).wf = true) ∧ (x.f6.length ≤ maxLen ∧ ∀ s ∈ x.f6, s.f0.size ≤ maxLen ∧ s.f1.size ≤ maxLen)
def entrySmall (x : LEntry) : Prop := x.f4.length ≤ 1048576 ∧ x.f5.length ≤ 1048576 ∧ x.f6.length ≤ 1048576
theorem szEntry_ev (x : LEntry) (hx : entryIn x) (c : Int) (h0 : 0 ≤ c) (h1 : c ≤ 1048576) :
    ∃ v, Ev (fun k => laws_szEntry.f k x.f0 x.f1 x.f2 x.f3 x.f4 x.f5 x.f6 c) v ∧ v ≤ c ∧ -1 ≤ v ∧ (0 ≤ v → entrySmall x) := by
  obtain ⟨hk, ht, ⟨hl, hls⟩, ⟨hs, hss⟩, ⟨hf, hfs⟩⟩ := hx
  unfold laws_szEntry.f
  unfold maxLen at hk ht
  rw [wrap_id (x := c - (x.f0.size : Int)) (by omega) (by omega)]
  by_cases c1 : c - (x.f0.size : Int) < 0
  · exact ⟨-1, pos c1 (ret _), by omega, by omega, by omega⟩
  · rw [wrap_id (x := c - (x.f0.size : Int) - (x.f3.size : Int)) (by omega) (by omega)]
    by_cases c2 : c - (x.f0.size : Int) - (x.f3.size : Int) < 0
    · exact ⟨-1, neg c1 (pos c2 (ret _)), by omega, by omega, by omega⟩
    · obtain ⟨v1, hv1, p1, q1, r1⟩ := szStringS_ev x.f4 hl hls (c - (x.f0.size : Int) - (x.f3.size : Int)) (by omega) (by omega)
      by_cases c3 : v1 < 0
      · exact ⟨-1, neg c1 (neg c2 (Ev.bind hv1 (pos c3 (ret _)))), by omega, by omega, by omega⟩
      · obtain ⟨v2, hv2, p2, q2, r2⟩ := szScoreS_ev x.f5 hs hss v1 (by omega) (by omega)
        by_cases c4 : v2 < 0
        · exact ⟨-1, neg c1 (neg c2 (Ev.bind hv1 (neg c3 (Ev.bind hv2 (pos c4 (ret _)))))), by omega, by omega, by omega⟩
        · obtain ⟨v3, hv3, p3, q3, r3⟩ := szPairS_ev x.f6 hf hfs v2 (by omega) (by omega)
          by_cases c5 : v3 < 0
          · exact ⟨-1, neg c1 (neg c2 (Ev.bind hv1 (neg c3 (Ev.bind hv2 (neg c4 (Ev.bind hv3 (pos c5 (ret _)))))))), by omega, by omega, by omega⟩
          · exact ⟨v3, neg c1 (neg c2 (Ev.bind hv1 (neg c3 (Ev.bind hv2 (neg c4 (Ev.bind hv3 (neg c5 (ret _)))))))), by omega, by omega, fun _ => ⟨(r1 (by omega)).1, (r2 (by omega)).1, (r3 (by omega)).1⟩⟩
theorem szEntryS_l0 (l : List LEntry) (hl : l.length ≤ maxLen) (hs : ∀ x ∈ l, entryIn x) (d : Nat) : ∀ (i : Nat) (c : Int), i + d = l.length → 0 ≤ c → c ≤ 1048576 →
    ∃ v, Ev (fun k => laws_szEntryS.l0 k l c (i : Int)) v ∧ v ≤ c ∧ -1 ≤ v ∧ (0 ≤ v → ∀ j (h : j < l.length), i ≤ j → entrySmall l[j]) := by
  unfold maxLen at hl
  induction d with
  | zero =>
    intro i c hi h0 h1
    exact ⟨c, Ev.step (g := fun k => laws_szEntryS.l0 k _ _ _) (fun k => by rw [laws_szEntryS.l0]) (neg (by omega) (ret c)), by omega, by omega, fun _ j hj hij => by omega⟩
  | succ d ih =>
    intro i c hi h0 h1
    have hlt : i < l.length := by omega
    obtain ⟨v, hv, hv1, hv2, hv3⟩ := szEntry_ev _ (hs _ (List.getElem_mem hlt)) c h0 h1
    by_cases hneg : v < 0
    · refine ⟨-1, Ev.step (g := fun k => laws_szEntryS.l0 k _ _ _) (fun k => by rw [laws_szEntryS.l0]) (pos (by omega) (pos (by omega) ?_)), by omega, by omega, by omega⟩
      rw [rdLEntry_lt _ _ hlt]
      exact Ev.bind hv (pos hneg (ret (-1)))
    · obtain ⟨u, hu, h2, h3, h4⟩ := ih (i + 1) v (by omega) (by omega) (by omega)
      refine ⟨u, Ev.step (g := fun k => laws_szEntryS.l0 k _ _ _) (fun k => by rw [laws_szEntryS.l0]) (pos (by omega) (pos (by omega) ?_)), by omega, h3, fun h5 j hj hij => ?_⟩
      · rw [rdLEntry_lt _ _ hlt, wrap_id (x := (i : Int) + 1) (by omega) (by omega)]
        exact Ev.bind hv (neg hneg hu)
      · rcases Nat.eq_or_lt_of_le hij with rfl | hij
        · exact hv3 (by omega)
        · exact h4 h5 j hj hij
theorem szEntryS_ev (l : List LEntry) (hl : l.length ≤ maxLen) (hs : ∀ x ∈ l, entryIn x) (c : Int) (h0 : 0 ≤ c) (h1 : c ≤ 1048576) :
    ∃ v, Ev (fun k => laws_szEntryS.f k l c) v ∧ v ≤ c ∧ -1 ≤ v ∧ (0 ≤ v → l.length ≤ 1048576 ∧ ∀ x ∈ l, entrySmall x) := by
  have hl' := hl
  unfold maxLen at hl'
  by_cases h : c - (l.length : Int) < 0
  · refine ⟨-1, ?_, by omega, by omega, by omega⟩
    unfold laws_szEntryS.f
    refine pos ?_ (ret _)
    rw [wrap_id (by omega) (by omega)]
    exact h
  · obtain ⟨v, hv, h2, h3, h4⟩ := szEntryS_l0 l hl hs l.length 0 (c - (l.length : Int)) (by omega) (by omega) (by omega)
    refine ⟨v, ?_, by omega, h3, fun h5 => ⟨by omega, fun s hs => ?_⟩⟩
    · unfold laws_szEntryS.f
      rw [wrap_id (by omega) (by omega)]
      exact neg h hv
    · obtain ⟨j, hj, rfl⟩ := List.getElem_of_mem hs
      exact h4 h5 j hj (by omega)
def cvEntry (x : LEntry) : Entry := ⟨x.f0, x.f1, x.f2, x.f3, x.f4, x.f5.map cvScore, x.f6.map cvPair⟩
theorem toEntry_ev (x : LEntry) (h : entrySmall x) : Ev (fun k => laws_toEntry.f k x.f0 x.f1 x.f2 x.f3 x.f4 x.f5 x.f6) (x.f0, x.f1, x.f2, x.f3, x.f4, x.f5.map cvScore, x.f6.map cvPair) := by
  obtain ⟨a, b, c⟩ := h
  unfold laws_toEntry.f
  exact Ev.bind (toStringS_ev x.f4 (by omega)) (Ev.bind (toScoreS_ev x.f5 b) (Ev.bind (toPairS_ev x.f6 c) (ret _)))
theorem toEntryS_l0 (l : List LEntry) (hl : l.length ≤ maxLen) (hs : ∀ x ∈ l, entrySmall x) (d : Nat) : ∀ (i : Nat) (x : List Entry), i + d = l.length → x.length = l.length → Ev (fun k => laws_toEntryS.l0 k l x (i : Int)) (x.take i ++ (l.drop i).map cvEntry) := by
  unfold maxLen at hl
  induction d with
  | zero =>
    intro i x hi hx
    refine Ev.step (g := fun k => laws_toEntryS.l0 k _ _ _) (fun k => by rw [laws_toEntryS.l0]) (neg (by omega) (ret' ?_))
    rw [List.drop_of_length_le (by omega), List.take_of_length_le (by omega), List.map_nil, List.append_nil]
  | succ d ih =>
    intro i x hi hx
    have hlt : i < l.length := by omega
    refine Ev.step (g := fun k => laws_toEntryS.l0 k _ _ _) (fun k => by rw [laws_toEntryS.l0]) (pos (by omega) (pos (by omega) ?_))
    rw [rdLEntry_lt _ _ hlt, wrap_id (by omega) (by omega)]
    refine Ev.bind (toEntry_ev _ (hs _ (List.getElem_mem hlt))) (pos (by omega) (of_eq (ih (i + 1) _ (by omega) (by simp [hx])) ?_))
    rw [List.drop_eq_getElem_cons hlt, Int.toNat_natCast, List.take_set, List.take_succ_eq_append_getElem (by omega), List.set_append_right _ _ (by simp; omega), List.map_cons]
    simp [show min i x.length = i by omega]
    rfl
theorem toEntryS_ev (l : List LEntry) (hl : l.length ≤ 1048576) (hs : ∀ x ∈ l, entrySmall x) : Ev (fun k => laws_toEntryS.f k l) (l.map cvEntry) := by
  unfold laws_toEntryS.f
  refine pos (by omega) (pos (by omega) ?_)
  exact of_eq (toEntryS_l0 l (by unfold maxLen; omega) hs l.length 0 _ (by omega) (by simp)) (by simp)
def entryLen (x : Entry) : Prop := x.f4.length ≤ maxLen ∧ x.f5.length ≤ maxLen ∧ x.f6.length ≤ maxLen
theorem eqEntry_same (x : Entry) (h : entryLen x) : Ev (fun k => laws_eqEntry.f k x.f0 x.f1 x.f2 x.f3 x.f4 x.f5 x.f6 x.f0 x.f1 x.f2 x.f3 x.f4 x.f5 x.f6) true := by
  obtain ⟨a, b, c⟩ := h
  unfold laws_eqEntry.f
  refine pos rfl (pos rfl (pos rfl (pos rfl (Ev.bind (eqStringS_same x.f4 a) (pos rfl (Ev.bind (eqScoreS_same x.f5 b) (pos rfl (Ev.bind (eqPairS_same x.f6 c) (pos rfl (ret _))))))))))
theorem eqEntryS_l0 (l : List Entry) (hl : l.length ≤ maxLen) (hs : ∀ x ∈ l, entryLen x) (d : Nat) : ∀ (i : Nat), i + d = l.length → Ev (fun k => laws_eqEntryS.l0 k l l (i : Int)) true := by
  unfold maxLen at hl
  induction d with
  | zero =>
    intro i hi
    exact Ev.step (g := fun k => laws_eqEntryS.l0 k _ _ _) (fun k => by rw [laws_eqEntryS.l0]) (neg (by omega) (ret _))
  | succ d ih =>
    intro i hi
    have hlt : i < l.length := by omega
    refine Ev.step (g := fun k => laws_eqEntryS.l0 k _ _ _) (fun k => by rw [laws_eqEntryS.l0]) (pos (by omega) (pos (by omega) (pos (by omega) ?_)))
    rw [rdEntry_lt _ _ hlt, wrap_id (by omega) (by omega)]
    exact Ev.bind (eqEntry_same _ (hs _ (List.getElem_mem hlt))) (pos rfl (ih (i + 1) (by omega)))
theorem eqEntryS_same (l : List Entry) (hl : l.length ≤ maxLen) (hs : ∀ x ∈ l, entryLen x) : Ev (fun k => laws_eqEntryS.f k l l) true := by
  unfold laws_eqEntryS.f
  exact pos rfl (eqEntryS_l0 l hl hs l.length 0 (by omega))
def stepB (now : Int) (l : List Entry) (i : Nat) : Bool :=
  entryB (rd_T32 l (i : Int)).f0 (rd_T32 l (i : Int)).f1 (rd_T32 l (i : Int)).f2 (rd_T32 l (i : Int)).f3 (rd_T32 l (i : Int)).f4 (rd_T32 l (i : Int)).f5 (rd_T32 l (i : Int)).f6 &&
    ((decide (i = 0) || lt (rd_T32 l ((i - 1 : Nat) : Int)).f0 (rd_T32 l (i : Int)).f0) && (decide ((rd_T32 l (i : Int)).f1 = 0) || !decide ((rd_T32 l (i : Int)).f1 ≤ now)))
def baseB (now : Int) (l : List Entry) : Bool := (List.range' 0 l.length).all (stepB now l) && (inB now 0 1000000 && decide ((l.length : Int) ≤ 12))
theorem spec_BaseOk_l0 (now : Int) (l : List Entry) (hl : l.length ≤ maxLen) (hs : ∀ x ∈ l, entryLen x) (d : Nat) : ∀ (i : Nat), i + d = l.length → Ev (fun k => spec_BaseOk.l0 k (i : Int) now l) ((List.range' i d).all (stepB now l) && (inB now 0 1000000 && decide ((l.length : Int) ≤ 12))) := by
  have hl' := hl
  unfold maxLen at hl'
  induction d with
  | zero =>
    intro i hi
    refine Ev.step (g := fun k => spec_BaseOk.l0 k _ _ _) (fun k => by rw [spec_BaseOk.l0]) (neg (by omega) (Ev.bind (l1In_ev _ _ _) ?_))
    cases inB now 0 1000000 with
    | true => exact pos rfl (ret' (by simp))
    | false => exact neg (by decide) (ret' (by simp))
  | succ d ih =>
    intro i hi
    have hlt : i < l.length := by omega
    obtain ⟨a, b, c⟩ := hs _ (List.getElem_mem hlt)
    rw [← rdEntry_lt l i hlt] at a b c
    have hE := spec_EntryOk_ev (rd_T32 l (i : Int)).f0 (rd_T32 l (i : Int)).f1 (rd_T32 l (i : Int)).f2 (rd_T32 l (i : Int)).f3 (rd_T32 l (i : Int)).f4 (rd_T32 l (i : Int)).f5 (rd_T32 l (i : Int)).f6 a b c
    have ih := ih (i + 1) (by omega)
    rw [List.range'_succ, List.all_cons, Bool.and_assoc]
    generalize ((List.range' (i + 1) d).all (stepB now l) && (inB now 0 1000000 && decide ((l.length : Int) ≤ 12))) = rest at ih
    have jj : ∀ q : Bool, Ev (fun k => spec_BaseOk.j1 k (i : Int) q now l) (!q && rest) := by
      intro q
      refine Ev.step (g := fun k => spec_BaseOk.j1 k _ _ _ _) (fun k => by rw [spec_BaseOk.j1]) ?_
      rw [wrap_id (x := (i : Int) + 1) (by omega) (by omega)]
      cases q with
      | true => exact pos rfl (ret' (by simp))
      | false => exact neg (by decide) (of_eq ih (by simp))
    refine Ev.step (g := fun k => spec_BaseOk.l0 k _ _ _) (fun k => by rw [spec_BaseOk.l0]) (pos (by omega) (pos (by omega) (Ev.bind hE ?_)))
    unfold stepB
    cases hB : entryB (rd_T32 l (i : Int)).f0 (rd_T32 l (i : Int)).f1 (rd_T32 l (i : Int)).f2 (rd_T32 l (i : Int)).f3 (rd_T32 l (i : Int)).f4 (rd_T32 l (i : Int)).f5 (rd_T32 l (i : Int)).f6 with
    | false => exact neg (by decide) (of_eq (jj true) (by simp))
    | true =>
      refine pos rfl ?_
      by_cases h0 : i = 0
      · have hn : ¬ (i : Int) > 0 := by omega
        refine both (fun h => neg hn (of_eq (jj false) (by rw [decide_eq_true h0]; simp [h]))) (fun h => both (fun h' => of_eq (jj true) (by rw [decide_eq_true h0]; simp [h, h'])) (fun h' => neg hn (of_eq (jj false) (by rw [decide_eq_true h0]; simp [h, h']))))
      · have hp : (i : Int) > 0 := by omega
        have e : wrap64 ((i : Int) - 1) = ((i - 1 : Nat) : Int) := by rw [wrap_id (by omega) (by omega)]; omega
        rw [e]
        have q1 : (0 : Int) ≤ ((i - 1 : Nat) : Int) := by omega
        have q2 : ((i - 1 : Nat) : Int) < (l.length : Int) := by omega
        refine both (fun h => pos hp (pos q1 (pos q2 (of_eq (jj _) ?_)))) (fun h => both (fun h' => of_eq (jj true) (by simp [h, h'])) (fun h' => pos hp (pos q1 (pos q2 (of_eq (jj _) ?_)))))
        · simp [h, h0, lt]
        · simp [h, h', h0, lt]
theorem spec_BaseOk_ev (now : Int) (l : List Entry) (hl : l.length ≤ maxLen) (hs : ∀ x ∈ l, entryLen x) : Ev (fun k => spec_BaseOk.f k now l) (baseB now l) := spec_BaseOk_l0 now l hl hs l.length 0 (by omega)
theorem impl_BaseOk_l0 (now : Int) (l : List Entry) (hl : l.length ≤ maxLen) (hs : ∀ x ∈ l, entryLen x) (d : Nat) : ∀ (i : Nat), i + d = l.length → Ev (fun k => impl_BaseOk.l0 k l (l.length : Int) (i : Int) now l) ((List.range' i d).all (stepB now l)) := by
  have hl' := hl
  unfold maxLen at hl'
  induction d with
  | zero =>
    intro i hi
    exact Ev.step (g := fun k => impl_BaseOk.l0 k _ _ _ _ _) (fun k => by rw [impl_BaseOk.l0]) (neg (by omega) (ret' (by simp)))
  | succ d ih =>
    intro i hi
    have hlt : i < l.length := by omega
    obtain ⟨a, b, c⟩ := hs _ (List.getElem_mem hlt)
    rw [← rdEntry_lt l i hlt] at a b c
    have hE := impl_EntryOk_ev (rd_T32 l (i : Int)).f0 (rd_T32 l (i : Int)).f1 (rd_T32 l (i : Int)).f2 (rd_T32 l (i : Int)).f3 (rd_T32 l (i : Int)).f4 (rd_T32 l (i : Int)).f5 (rd_T32 l (i : Int)).f6 a b c
    have ih := ih (i + 1) (by omega)
    rw [List.range'_succ, List.all_cons]
    generalize (List.range' (i + 1) d).all (stepB now l) = rest at ih
    have jj : ∀ q : Bool, Ev (fun k => impl_BaseOk.j2 k l (l.length : Int) (i : Int) q now l) (!q && rest) := by
      intro q
      refine Ev.step (g := fun k => impl_BaseOk.j2 k _ _ _ _ _ _) (fun k => by rw [impl_BaseOk.j2]) ?_
      rw [wrap_id (x := (i : Int) + 1) (by omega) (by omega)]
      cases q with
      | true => exact pos rfl (ret' (by simp))
      | false => exact neg (by decide) (of_eq ih (by simp))
    refine Ev.step (g := fun k => impl_BaseOk.l0 k _ _ _ _ _) (fun k => by rw [impl_BaseOk.l0]) (pos (by omega) (pos (by omega) (pos (by omega) (Ev.bind hE ?_))))
    unfold stepB
    cases hB : entryB (rd_T32 l (i : Int)).f0 (rd_T32 l (i : Int)).f1 (rd_T32 l (i : Int)).f2 (rd_T32 l (i : Int)).f3 (rd_T32 l (i : Int)).f4 (rd_T32 l (i : Int)).f5 (rd_T32 l (i : Int)).f6 with
    | false => exact neg (by decide) (of_eq (jj true) (by simp))
    | true =>
      refine pos rfl ?_
      by_cases h0 : i = 0
      · have hn : ¬ (i : Int) > 0 := by omega
        exact neg hn (both (fun h => of_eq (jj false) (by rw [decide_eq_true h0]; simp [h])) (fun h => of_eq (jj _) (by rw [decide_eq_true h0]; simp [h])))
      · have hp : (i : Int) > 0 := by omega
        have e : wrap64 ((i : Int) - 1) = ((i - 1 : Nat) : Int) := by rw [wrap_id (by omega) (by omega)]; omega
        rw [e]
        have q1 : (0 : Int) ≤ ((i - 1 : Nat) : Int) := by omega
        have q2 : ((i - 1 : Nat) : Int) < (l.length : Int) := by omega
        refine pos hp (pos q1 (pos q2 (both (fun g => both (fun h => of_eq (jj false) ?_) (fun h => of_eq (jj _) ?_)) (fun g => of_eq (jj true) ?_))))
        · simp [h, h0, lt, g]
        · simp [h, h0, lt, g]
        · simp [h0, lt, g]
theorem impl_BaseOk_ev (now : Int) (l : List Entry) (hl : l.length ≤ maxLen) (hs : ∀ x ∈ l, entryLen x) : Ev (fun k => impl_BaseOk.f k now l) (baseB now l) := by
  have hl0 := impl_BaseOk_l0 now l hl hs l.length 0 (by omega)
  have hj : ∀ q : Bool, Ev (fun k => impl_BaseOk.j0 k q now l) (!q && (List.range' 0 l.length).all (stepB now l)) := by
    intro q
    refine Ev.step (g := fun k => impl_BaseOk.j0 k _ _ _) (fun k => by rw [impl_BaseOk.j0]) ?_
    cases q with
    | true => exact pos rfl (ret' (by simp))
    | false => exact neg (by decide) (of_eq hl0 (by simp))
  unfold impl_BaseOk.f baseB
  refine Ev.bind (within_ev _ _ _) ?_
  cases inB now 0 1000000 with
  | false => exact neg (by decide) (of_eq (hj true) (by simp))
  | true =>
    refine pos rfl (of_eq (hj _) ?_)
    rw [Bool.true_and, Bool.and_comm]
    congr 1
    rw [← decide_not]
    exact decide_eq_decide.2 (by omega)
theorem of_eq' {α : Type} {g g' : Nat → Option α} {r : α} (h : Ev g r) (e : g' = g) : Ev g' r := e ▸ h
theorem len1 {α : Type} (l : List α) (x : α) : (l ++ [x]).length = l.length + 1 := by simp
def cntE (x : Entry) : Nat := 4 + x.f4.length + 2 * x.f5.length + 2 * x.f6.length
def totE (l : List Entry) : Nat := (l.map cntE).sum
noncomputable def markE (n : Int) (x : Entry) : Entry := ⟨markT n, n + 1, n + 2, markT (n + 3), marks (n + 4) x.f4.length, marksS (n + 4 + x.f4.length) x.f5.length, marksP (n + 4 + x.f4.length + 2 * x.f5.length) x.f6.length⟩
noncomputable def marksE : Int → List Entry → List Entry
  | _, [] => []
  | n, x :: r => markE n x :: marksE (n + cntE x) r
def entryCap (x : Entry) : Prop := x.f4.length ≤ 1048576 ∧ x.f5.length ≤ 1048576 ∧ x.f6.length ≤ 1048576
theorem totE_cons (x : Entry) (r : List Entry) : totE (x :: r) = cntE x + totE r := by simp [totE]
theorem totE_le (l : List Entry) (h : ∀ x ∈ l, entryCap x) : totE l ≤ l.length * 5242884 := by
  induction l with
  | nil => simp [totE]
  | cons x r ih =>
    have h1 := ih (fun y hy => h y (List.mem_cons_of_mem _ hy))
    obtain ⟨a, b, c⟩ := h x List.mem_cons_self
    rw [totE_cons, List.length_cons]
    unfold cntE
    omega
theorem rdE_app (done : List Entry) (x : Entry) (r : List Entry) : rd_T32 (done ++ x :: r) ((done.length : Nat) : Int) = x := by
  simp [rd_T32, List.getD_eq_getElem?_getD]
theorem markEntryS_l0 (rest : List Entry) : ∀ (done : List Entry) (n : Int), 0 ≤ n → n + totE rest ≤ 4611686018427387904 → done.length + rest.length ≤ 2097152 →
    Ev (fun k => laws_markEntryS.l0 k (done ++ rest) n (done.length : Int)) (n + totE rest, done ++ marksE n rest) := by
  induction rest with
  | nil =>
    intro done n h0 h1 h2
    refine Ev.step (g := fun k => laws_markEntryS.l0 k _ _ _) (fun k => by rw [laws_markEntryS.l0]) (neg (by simp) (ret' ?_))
    simp [totE, marksE]
  | cons x r ih =>
    intro done n h0 h1 h2
    rw [totE_cons] at h1 ⊢
    rw [List.length_cons] at h2
    have hc : cntE x = 4 + x.f4.length + 2 * x.f5.length + 2 * x.f6.length := rfl
    refine Ev.step (g := fun k => laws_markEntryS.l0 k _ _ _) (fun k => by rw [laws_markEntryS.l0]) (pos (by rw [List.length_append, List.length_cons]; omega) (pos (by omega) ?_))
    rw [rdE_app, wrap_id (x := n + 1) (by omega) (by omega), wrap_id (x := n + 1 + 1) (by omega) (by omega), wrap_id (x := n + 1 + 1 + 1) (by omega) (by omega), wrap_id (x := n + 1 + 1 + 1 + 1) (by omega) (by omega), wrap_id (x := (done.length : Int) + 1) (by omega) (by omega)]
    refine Ev.bind (markT_ev _ (by omega)) (Ev.bind (markT_ev _ (by omega)) (Ev.bind (markStringS_ev x.f4 (n + 1 + 1 + 1 + 1) (by omega) (by omega)) ?_))
    refine Ev.bind (markScoreS_ev x.f5 _ (by omega) (by omega)) (Ev.bind (markPairS_ev x.f6 _ (by omega) (by omega)) ?_)
    have h := ih (done ++ [markE n x]) (n + cntE x) (by omega) (by omega) (by rw [List.length_append, List.length_singleton]; omega)
    have e1 : (done ++ x :: r).set (done.length : Int).toNat (markE n x) = done ++ [markE n x] ++ r := by simp
    rw [marksE]
    refine of_eq (r := (n + cntE x + totE r, done ++ [markE n x] ++ marksE (n + cntE x) r)) ?_ (by simp; omega)
    rw [← e1, List.length_append, List.length_singleton] at h
    unfold markE at h
    rw [show n + 1 + 1 = n + 2 by omega, show n + 2 + 1 = n + 3 by omega, show n + 3 + 1 = n + 4 by omega]
    refine of_eq' h ?_
    funext k
    rw [show n + 4 + (x.f4.length : Int) + 2 * (x.f5.length : Int) + 2 * (x.f6.length : Int) = n + (cntE x : Int) by rw [hc]; omega]
    rfl
theorem markEntryS_ev (l : List Entry) (hl : l.length ≤ 1048576) (hs : ∀ x ∈ l, entryCap x) : Ev (fun k => laws_markEntryS.f k l 1) (1 + totE l, marksE 1 l) := by
  have h1 := totE_le l hs
  have h2 : l.length * 5242884 ≤ 1048576 * 5242884 := Nat.mul_le_mul_right _ hl
  simpa [laws_markEntryS.f] using markEntryS_l0 l [] 1 (by omega) (by omega) (by simp; omega)
theorem heldEntryS_l0 (rest : List Entry) : ∀ (done : List Entry) (n : Int), 0 ≤ n → n + totE rest ≤ 4611686018427387904 → done.length + rest.length ≤ 2097152 →
    Ev (fun k => laws_heldEntryS.l0 k (done ++ marksE n rest) n (done.length : Int)) (n + totE rest) := by
  induction rest with
  | nil =>
    intro done n h0 h1 h2
    refine Ev.step (g := fun k => laws_heldEntryS.l0 k _ _ _) (fun k => by rw [laws_heldEntryS.l0]) (neg (by simp [marksE]) (ret' ?_))
    simp [totE]
  | cons x r ih =>
    intro done n h0 h1 h2
    rw [totE_cons] at h1 ⊢
    rw [List.length_cons] at h2
    have hc : cntE x = 4 + x.f4.length + 2 * x.f5.length + 2 * x.f6.length := rfl
    rw [marksE]
    refine Ev.step (g := fun k => laws_heldEntryS.l0 k _ _ _) (fun k => by rw [laws_heldEntryS.l0]) (pos (by rw [List.length_append, List.length_cons]; omega) (pos (by omega) ?_))
    rw [rdE_app, wrap_id (x := n + 1) (by omega) (by omega), wrap_id (x := n + 1 + 1) (by omega) (by omega), wrap_id (x := n + 1 + 1 + 1) (by omega) (by omega), wrap_id (x := n + 1 + 1 + 1 + 1) (by omega) (by omega), wrap_id (x := (done.length : Int) + 1) (by omega) (by omega)]
    rw [show n + 1 + 1 = n + 2 by omega, show n + 2 + 1 = n + 3 by omega, show n + 3 + 1 = n + 4 by omega]
    refine Ev.bind (markT_ev _ (by omega)) (pos rfl (pos rfl (pos rfl (Ev.bind (markT_ev _ (by omega)) (pos rfl (Ev.bind (heldStringS_ev (n + 4) x.f4.length (by omega) (by omega)) (neg (by omega) ?_)))))))
    refine Ev.bind (heldScoreS_ev (n + 4 + x.f4.length) x.f5.length (by omega) (by omega)) (neg (by omega) (Ev.bind (heldPairS_ev (n + 4 + x.f4.length + 2 * x.f5.length) x.f6.length (by omega) (by omega)) (neg (by omega) ?_)))
    have h := ih (done ++ [markE n x]) (n + cntE x) (by omega) (by omega) (by rw [List.length_append, List.length_singleton]; omega)
    rw [List.length_append, List.length_singleton, List.append_assoc, List.singleton_append] at h
    refine of_eq (r := n + cntE x + totE r) ?_ (by omega)
    refine of_eq' h ?_
    funext k
    rw [show n + 4 + (x.f4.length : Int) + 2 * (x.f5.length : Int) + 2 * (x.f6.length : Int) = n + (cntE x : Int) by rw [hc]; omega]
    rfl
theorem heldEntryS_ev (l : List Entry) (hl : l.length ≤ 1048576) (hs : ∀ x ∈ l, entryCap x) : Ev (fun k => laws_heldEntryS.f k (marksE 1 l) 1) (1 + totE l) := by
  have h1 := totE_le l hs
  have h2 : l.length * 5242884 ≤ 1048576 * 5242884 := Nat.mul_le_mul_right _ hl
  simpa [laws_heldEntryS.f] using heldEntryS_l0 l [] 1 (by omega) (by omega) (by simp; omega)
theorem markBase_ev (now : Int) (l : List Entry) (hl : l.length ≤ 1048576) (hs : ∀ x ∈ l, entryCap x) : Ev (fun k => laws_markBase.f k now l 1) (1 + totE l, marksE 1 l) := markEntryS_ev l hl hs
theorem heldBase_ev (now : Int) (l : List Entry) (hl : l.length ≤ 1048576) (hs : ∀ x ∈ l, entryCap x) : Ev (fun k => laws_heldBase.f k now (marksE 1 l) 1) (1 + totE l) := by
  unfold laws_heldBase.f
  exact Ev.bind (heldEntryS_ev l hl hs) (neg (by omega) (ret _))
theorem eqBase_same (now : Int) (l : List Entry) (hl : l.length ≤ 1048576) (hs : ∀ x ∈ l, entryCap x) : Ev (fun k => laws_eqBase.f k now l now l) true := by
  unfold laws_eqBase.f
  exact pos rfl (Ev.bind (eqEntryS_same l (by unfold maxLen; omega) (fun x hx => by obtain ⟨a, b, c⟩ := hs x hx; exact ⟨by unfold maxLen; omega, by unfold maxLen; omega, by unfold maxLen; omega⟩)) (pos rfl (ret _)))
theorem toBase_ev (now : Int) (l : List LEntry) (hl : l.length ≤ 1048576) (hs : ∀ x ∈ l, entrySmall x) : Ev (fun k => laws_toBase.f k now l) (now, l.map cvEntry) := by
  unfold laws_toBase.f
  exact Ev.bind (toEntryS_ev l hl hs) (ret _)
theorem szBase_ev (now : Int) (l : List LEntry) (hl : l.length ≤ maxLen)
    (hs : ∀ x ∈ l, x.f0.size ≤ maxLen ∧ (Lit.int .i64 x.f1).wf = true ∧ (Lit.int .i64 x.f2).wf = true ∧ x.f3.size ≤ maxLen ∧ (x.f4.length ≤ maxLen ∧ ∀ s ∈ x.f4, s.size ≤ maxLen) ∧ (x.f5.length ≤ maxLen ∧ ∀ s ∈ x.f5, s.f0.size ≤ maxLen ∧ (Lit.int .i64 s.f1).wf = true) ∧ (x.f6.length ≤ maxLen ∧ ∀ s ∈ x.f6, s.f0.size ≤ maxLen ∧ s.f1.size ≤ maxLen)) :
    ∃ v, Ev (fun k => laws_szBase.f k now l 1048576) v ∧ (¬ v < 0 → l.length ≤ 1048576 ∧ ∀ x ∈ l, entrySmall x) := by
  obtain ⟨v, hv, h1, h2, h3⟩ := szEntryS_ev l hl (fun x hx => by
    obtain ⟨a, _, _, b, c, d, e⟩ := hs x hx
    exact ⟨a, b, c, d, e⟩) 1048576 (by omega) (by omega)
  refine ⟨if v < 0 then -1 else v, ?_, fun h => h3 ?_⟩
  · unfold laws_szBase.f
    exact Ev.bind hv (both (fun h => ret' (if_pos h).symm) (fun h => ret' (if_neg h).symm))
  · by_cases q : v < 0
    · rw [if_pos q] at h; omega
    · omega
theorem cvEntry_cap {x : LEntry} (h : entrySmall x) : entryCap (cvEntry x) := ⟨h.1, by show (x.f5.map cvScore).length ≤ _; rw [List.length_map]; exact h.2.1, by show (x.f6.map cvPair).length ≤ _; rw [List.length_map]; exact h.2.2⟩
theorem cap_len {x : Entry} (h : entryCap x) : entryLen x := ⟨by have := h.1; unfold maxLen; omega, by have := h.2.1; unfold maxLen; omega, by have := h.2.2; unfold maxLen; omega⟩
theorem baseB_at {now : Int} {l : List Entry} (h : baseB now l = true) (i : Nat) (hi : i < l.length) : stepB now l i = true := by
  unfold baseB at h
  simp only [Bool.and_eq_true, List.all_eq_true] at h
  exact h.1 i (List.mem_range'_1.2 ⟨by omega, by omega⟩)
theorem baseB_lt {now : Int} {l : List Entry} (h : baseB now l = true) (i : Nat) (hi : i + 1 < l.length) : lt l[i].f0 l[i + 1].f0 = true := by
  have h1 := baseB_at h (i + 1) hi
  unfold stepB at h1
  simp only [Bool.and_eq_true, Bool.or_eq_true, decide_eq_true_eq] at h1
  have h2 := h1.2.1
  rw [Nat.add_sub_cancel, rdEntry_lt l i (by omega), rdEntry_lt l (i + 1) hi] at h2
  rcases h2 with h2 | h2
  · omega
  · exact h2
theorem l2Copy_ev (l : List ByteArray) (h : l.length < 8796093022208) : Ev (fun _ => spec_l2Copy.f l) l := by
  unfold spec_l2Copy.f
  refine Ev.bind (ret _) (pos ?_ (ret' rfl))
  simpa using h
theorem copied_ev (l : List ByteArray) (h : l.length < 8796093022208) : Ev (fun _ => impl_copied.f l) l := by
  unfold impl_copied.f
  refine Ev.bind (ret _) (pos ?_ (ret' rfl))
  simpa using h
theorem baseB_sorted {now : Int} {l : List Entry} (h : baseB now l = true) : l.Pairwise (fun x y => lt x.f0 y.f0 = true) := by
  have hd : ∀ (d i : Nat) (hj : i + 1 + d < l.length), lt l[i].f0 l[i + 1 + d].f0 = true := by
    intro d
    induction d with
    | zero => intro i hj; exact baseB_lt h i hj
    | succ d ih => intro i hj; exact lt_trans (ih i (by omega)) (baseB_lt h (i + 1 + d) hj)
  rw [List.pairwise_iff_getElem]
  intro i j hi hj hij
  obtain ⟨d, rfl⟩ : ∃ d, j = i + 1 + d := ⟨j - (i + 1), by omega⟩
  exact hd d i hj
theorem from_none (t : ByteArray) : ∀ (l : List Entry) (i : Nat), (∀ x ∈ l, x.f0 ≠ t) → impl_Base_at.from t l i = -1
  | [], _, _ => rfl
  | x :: r, i, h => by
    rw [impl_Base_at.from, if_neg (fun e => h x List.mem_cons_self (toList_inj e))]
    exact from_none t r (i + 1) (fun y hy => h y (List.mem_cons_of_mem _ hy))
theorem from_at (t : ByteArray) : ∀ (l : List Entry) (i : Nat), impl_Base_at.from t l i = -1 ∨ ∃ n, n < l.length ∧ impl_Base_at.from t l i = ((i + n : Nat) : Int)
  | [], _ => .inl rfl
  | x :: r, i => by
    rw [impl_Base_at.from]
    split
    · exact .inr ⟨0, by simp, by simp⟩
    · rcases from_at t r (i + 1) with h | ⟨n, h1, h2⟩
      · exact .inl h
      · exact .inr ⟨n + 1, by simp; omega, by rw [h2]; congr 1; omega⟩
theorem l4At_l0 (now : Int) (t : ByteArray) (rest : List Entry) : ∀ (done : List Entry), done.length + rest.length ≤ 1048576 → rest.Pairwise (fun x y => lt x.f0 y.f0 = true) →
    ∃ j b, Ev (fun k => spec_l4At.l0 k t (done.length : Int) now (done ++ rest)) (j, b) ∧ (b = true → j = impl_Base_at.from t rest done.length ∧ 0 ≤ j) ∧ (b = false → impl_Base_at.from t rest done.length = -1) := by
  induction rest with
  | nil =>
    intro done _ _
    exact ⟨_, false, Ev.step (g := fun k => spec_l4At.l0 k _ _ _ _) (fun k => by rw [spec_l4At.l0]) (neg (by simp) (ret _)), fun h => (by cases h), fun _ => rfl⟩
  | cons x r ih =>
    intro done h2 hp
    rw [List.length_cons] at h2
    obtain ⟨hx, hr⟩ := List.pairwise_cons.1 hp
    have q : (done.length : Int) < ((done ++ x :: r).length : Int) := by rw [List.length_append, List.length_cons]; omega
    by_cases c : lt x.f0 t = true
    · obtain ⟨j, b, h, h3, h4⟩ := ih (done ++ [x]) (by simp; omega) hr
      have e1 : done ++ x :: r = done ++ [x] ++ r := by simp
      rw [← e1, len1 done x] at h
      rw [len1 done x] at h3 h4
      have ef : impl_Base_at.from t (x :: r) done.length = impl_Base_at.from t r (done.length + 1) := by rw [impl_Base_at.from, if_neg (fun e => lt_ne c (toList_inj e))]
      refine ⟨j, b, Ev.step (g := fun k => spec_l4At.l0 k _ _ _ _) (fun k => by rw [spec_l4At.l0]) (pos q (pos (by omega) ?_)), by rw [ef]; exact h3, by rw [ef]; exact h4⟩
      rw [rdE_app, wrap_id (x := (done.length : Int) + 1) (by omega) (by omega)]
      exact pos c h
    · refine ⟨(done.length : Int), x.f0.toList == t.toList, Ev.step (g := fun k => spec_l4At.l0 k _ _ _ _) (fun k => by rw [spec_l4At.l0]) (pos q (pos (by omega) ?_)), fun h => ?_, fun h => ?_⟩
      · rw [rdE_app]
        exact neg c (ret _)
      · rw [impl_Base_at.from, if_pos (by simpa using h)]
        exact ⟨rfl, by omega⟩
      · have hn : x.f0 ≠ t := fun e => by rw [e] at h; simp at h
        have hlt : lt t x.f0 = true := by
          rcases lt_tri x.f0 t with h1 | h1 | h1
          · exact absurd h1 c
          · exact absurd h1 hn
          · exact h1
        refine from_none t _ _ (fun y hy => ?_)
        rcases List.mem_cons.1 hy with rfl | hy
        · exact hn
        · exact (lt_ne (lt_trans hlt (hx y hy))).symm
theorem l4Entry_ev (x : Entry) (h : entryCap x) : Ev (fun _ => spec_l4Entry.f x.f0 x.f1 x.f2 x.f3 x.f4 x.f5 x.f6) (x.f0, x.f1, x.f2, x.f3, x.f4, x.f5, x.f6) := by
  obtain ⟨a, b, c⟩ := h
  unfold spec_l4Entry.f
  exact Ev.bind (l2Copy_ev x.f4 (by omega)) (Ev.bind (ret _) (pos (by simp; omega) (Ev.bind (ret _) (pos (by simp; omega) (ret' rfl)))))
theorem cloneEntry_ev (x : Entry) (h : entryCap x) : Ev (fun _ => impl_cloneEntry.f x.f0 x.f1 x.f2 x.f3 x.f4 x.f5 x.f6) (x.f0, x.f1, x.f2, x.f3, x.f4, x.f5, x.f6) := by
  obtain ⟨a, b, c⟩ := h
  have h5 : Ev (fun _ => impl_copiedScores.f x.f5) x.f5 := by
    unfold impl_copiedScores.f
    exact Ev.bind (ret _) (pos (by simp; omega) (ret' rfl))
  have h6 : Ev (fun _ => impl_copiedPairs.f x.f6) x.f6 := by
    unfold impl_copiedPairs.f
    exact Ev.bind (ret _) (pos (by simp; omega) (ret' rfl))
  unfold impl_cloneEntry.f
  exact Ev.bind (copied_ev x.f4 (by omega)) (Ev.bind h5 (Ev.bind h6 (ret' rfl)))
theorem cloneBase_l0 (now : Int) (rest : List Entry) : ∀ (done acc : List Entry), acc.length ≤ done.length → done.length + rest.length ≤ 1048576 → (∀ x ∈ rest, entryCap x) →
    Ev (fun k => impl_cloneBase.l0 k (done ++ rest) ((done ++ rest).length : Int) (done.length : Int) now acc) (now, acc ++ rest) := by
  induction rest with
  | nil => intro done acc _ h2 _; exact Ev.step (g := fun k => impl_cloneBase.l0 k _ _ _ _ _) (fun k => by rw [impl_cloneBase.l0]) (neg (by simp) (ret' (by simp)))
  | cons x r ih =>
    intro done acc h1 h2 h3
    rw [List.length_cons] at h2
    have q : (done.length : Int) < ((done ++ x :: r).length : Int) := by rw [List.length_append, List.length_cons]; omega
    refine Ev.step (g := fun k => impl_cloneBase.l0 k _ _ _ _ _) (fun k => by rw [impl_cloneBase.l0]) (pos q (pos (by omega) (pos q ?_)))
    rw [rdE_app, wrap_id (x := (done.length : Int) + 1) (by omega) (by omega)]
    have h := ih (done ++ [x]) (acc ++ [x]) (by simp; omega) (by simp; omega) (fun y hy => h3 y (List.mem_cons_of_mem _ hy))
    rw [List.append_assoc, List.append_assoc, List.singleton_append, len1 done x] at h
    exact Ev.bind (cloneEntry_ev x (h3 x List.mem_cons_self)) (pos (by omega) h)
theorem cloneBase_ev (now : Int) (l : List Entry) (hl : l.length ≤ 1048576) (hs : ∀ x ∈ l, entryCap x) : Ev (fun k => impl_cloneBase.f k now l) (now, l) := by
  simpa [impl_cloneBase.f] using cloneBase_l0 now l [] [] (by simp) (by simpa using hl) hs
theorem l4Copy_l0 (now : Int) (rest : List Entry) : ∀ (done acc : List Entry), acc.length ≤ done.length → done.length + rest.length ≤ 1048576 → (∀ x ∈ rest, entryCap x) →
    Ev (fun k => spec_l4Copy.l0 k (done.length : Int) now (done ++ rest) now acc) (now, acc ++ rest) := by
  induction rest with
  | nil => intro done acc _ h2 _; exact Ev.step (g := fun k => spec_l4Copy.l0 k _ _ _ _ _) (fun k => by rw [spec_l4Copy.l0]) (neg (by simp) (ret' (by simp)))
  | cons x r ih =>
    intro done acc h1 h2 h3
    rw [List.length_cons] at h2
    have q : (done.length : Int) < ((done ++ x :: r).length : Int) := by rw [List.length_append, List.length_cons]; omega
    refine Ev.step (g := fun k => spec_l4Copy.l0 k _ _ _ _ _) (fun k => by rw [spec_l4Copy.l0]) (pos q (pos (by omega) ?_))
    rw [rdE_app, wrap_id (x := (done.length : Int) + 1) (by omega) (by omega)]
    have h := ih (done ++ [x]) (acc ++ [x]) (by simp; omega) (by simp; omega) (fun y hy => h3 y (List.mem_cons_of_mem _ hy))
    rw [List.append_assoc, List.append_assoc, List.singleton_append, len1 done x] at h
    exact Ev.bind (l4Entry_ev x (h3 x List.mem_cons_self)) (pos (by omega) h)
theorem l4Copy_ev (now : Int) (l : List Entry) (hl : l.length ≤ 1048576) (hs : ∀ x ∈ l, entryCap x) : Ev (fun k => spec_l4Copy.f k now l) (now, l) := by
  simpa [spec_l4Copy.f] using l4Copy_l0 now l [] [] (by simp) (by simpa using hl) hs
def dropB (now : Int) (l : List Entry) (t : ByteArray) : Int × List Entry × Bool :=
  if baseB now l = true then (if impl_Base_at.from t l 0 < 0 then (now, l, false) else (now, l.eraseIdx (impl_Base_at.from t l 0).toNat, true)) else (0, [], false)
theorem dropB_mem (now : Int) (l : List Entry) (t : ByteArray) : ∀ x ∈ (dropB now l t).2.1, x ∈ l := by
  unfold dropB
  intro x hx
  split at hx
  · split at hx
    · exact hx
    · exact List.mem_of_mem_eraseIdx hx
  · cases hx
theorem dropB_len (now : Int) (l : List Entry) (t : ByteArray) : (dropB now l t).2.1.length ≤ l.length := by
  unfold dropB
  split
  · split
    · exact Nat.le_refl _
    · exact List.length_eraseIdx_le _ _
  · exact Nat.zero_le _
theorem dropB_at {now : Int} {l : List Entry} {t : ByteArray} {n : Nat} (hb : baseB now l = true) (h2 : impl_Base_at.from t l 0 = ((0 + n : Nat) : Int)) : dropB now l t = (now, l.eraseIdx n, true) := by
  unfold dropB
  rw [if_pos hb, h2, if_neg (by omega), Nat.zero_add, Int.toNat_natCast]
theorem impl_BaseDrop_ev (now : Int) (l : List Entry) (t : ByteArray) (hl : l.length ≤ 1048576) (hs : ∀ x ∈ l, entryCap x) : Ev (fun k => impl_BaseDrop.f k now l t) (dropB now l t) := by
  have hB := impl_BaseOk_ev now l (by unfold maxLen; omega) (fun y hy => cap_len (hs y hy))
  unfold impl_BaseDrop.f
  refine Ev.bind hB ?_
  cases hb : baseB now l with
  | false => exact of_eq (neg (by decide) (ret _)) (by unfold dropB; rw [hb]; rfl)
  | true =>
    refine pos rfl (Ev.bind (cloneBase_ev now l hl hs) (Ev.bind (show Ev (fun _ => impl_Base_at.f now l t) (impl_Base_at.from t l 0) from ret _) ?_))
    by_cases c : impl_Base_at.from t l 0 < 0
    · exact of_eq (pos c (ret _)) (by unfold dropB; rw [if_pos hb, if_pos c])
    · rcases from_at t l 0 with h1 | ⟨n, h1, h2⟩
      · rw [h1] at c; omega
      · rw [dropB_at hb h2]
        refine neg c ?_
        rw [h2, Nat.zero_add, wrap_id (x := (n : Int) + 1) (by omega) (by omega)]
        have hd : Ev (fun _ => slices_Delete_impl_Entry_impl_Entry.f l (n : Int) ((n : Int) + 1)) (l.eraseIdx n) := by
          unfold slices_Delete_impl_Entry_impl_Entry.f
          rw [if_pos ⟨by omega, by omega, rfl⟩, Int.toNat_natCast]
          exact ret _
        have hle := List.length_eraseIdx_le l n
        exact Ev.bind hd (pos (by omega) (ret _))
theorem spec_BaseDrop_ev (now : Int) (l : List Entry) (t : ByteArray) (hl : l.length ≤ 1048576) (hs : ∀ x ∈ l, entryCap x) : Ev (fun k => spec_BaseDrop.f k now l t) (dropB now l t) := by
  have hB := spec_BaseOk_ev now l (by unfold maxLen; omega) (fun y hy => cap_len (hs y hy))
  have hC := l4Copy_ev now l hl hs
  unfold spec_BaseDrop.f
  refine Ev.bind hB ?_
  cases hb : baseB now l with
  | false => exact of_eq (neg (by decide) (ret _)) (by unfold dropB; rw [hb]; rfl)
  | true =>
    refine pos rfl ?_
    obtain ⟨j, b, h, h3, h4⟩ := l4At_l0 now t l [] (by simpa using hl) (baseB_sorted hb)
    have hA : Ev (fun k => spec_l4At.f k now l t) (j, b) := by simpa [spec_l4At.f] using h
    refine Ev.bind hA ?_
    cases b with
    | false =>
      have h6 := h4 rfl
      rw [List.length_nil] at h6
      have hD : Ev (fun k => spec_l4Drop.f k now l t) (now, l) := by
        unfold spec_l4Drop.f
        exact Ev.bind hC (Ev.bind hA (neg (by simp) (ret' rfl)))
      exact of_eq (Ev.bind hD (ret' rfl)) (by unfold dropB; rw [if_pos hb, h6]; rfl)
    | true =>
      obtain ⟨rfl, h5⟩ := h3 rfl
      rw [List.length_nil] at hA h5
      rcases from_at t l 0 with h1 | ⟨n, h1, h2⟩
      · rw [h1] at h5; omega
      · rw [h2, Nat.zero_add] at hA
        have hD : Ev (fun k => spec_l4Drop.f k now l t) (now, l.eraseIdx n) := by
          unfold spec_l4Drop.f
          refine Ev.bind hC (Ev.bind hA (pos rfl ?_))
          dsimp only
          rw [wrap_id (x := (n : Int) + 1) (by omega) (by omega)]
          refine Ev.bind (ret _) (pos (by omega) (pos (by omega) (Ev.bind (ret _) ?_)))
          rw [Int.toNat_natCast, show ((n : Int) + 1).toNat = n + 1 by omega]
          refine pos (by rw [List.length_nil, List.length_take]; omega) (Ev.bind (ret _) (pos (by omega) (pos (by omega) (Ev.bind (ret _) ?_))))
          refine pos (by rw [List.nil_append, List.length_take, List.length_drop]; omega) (ret' ?_)
          rw [List.nil_append, List.eraseIdx_eq_take_drop_succ]
        rw [dropB_at hb h2]
        exact Ev.bind hD (ret' rfl)
theorem FnExactBaseDrop_pure (now : Int) (l : List LEntry) (t : ByteArray) (_hn : (Lit.int .i64 now).wf = true) (hl : l.length ≤ maxLen)
    (hs : ∀ x ∈ l, x.f0.size ≤ maxLen ∧ (Lit.int .i64 x.f1).wf = true ∧ (Lit.int .i64 x.f2).wf = true ∧ x.f3.size ≤ maxLen ∧ (x.f4.length ≤ maxLen ∧ ∀ s ∈ x.f4, s.size ≤ maxLen) ∧ (x.f5.length ≤ maxLen ∧ ∀ s ∈ x.f5, s.f0.size ≤ maxLen ∧ (Lit.int .i64 s.f1).wf = true) ∧ (x.f6.length ≤ maxLen ∧ ∀ s ∈ x.f6, s.f0.size ≤ maxLen ∧ s.f1.size ≤ maxLen)) (_ht : t.size ≤ 140737488351232) :
    ∃ k, laws_FnExactBaseDrop.f k now l t = some true := by
  refine exists_of (r := true) ?_
  unfold laws_FnExactBaseDrop.f
  refine both (fun _ => ret _) (fun _ => ?_)
  obtain ⟨v, hv, h1⟩ := szBase_ev now l hl hs
  refine Ev.bind hv (both (fun _ => ret _) (fun h => ?_))
  obtain ⟨h4, h5⟩ := h1 h
  have hT := toBase_ev now l h4 h5
  have hlen : (l.map cvEntry).length ≤ 1048576 := by rw [List.length_map]; exact h4
  have hc : ∀ x ∈ l.map cvEntry, entryCap x := by
    intro x hx
    obtain ⟨y, hy, rfl⟩ := List.mem_map.1 hx
    exact cvEntry_cap (h5 y hy)
  generalize l.map cvEntry = m at hT hlen hc
  have hS := spec_BaseDrop_ev now m t hlen hc
  have hI := impl_BaseDrop_ev now m t hlen hc
  have hrl := dropB_len now m t
  have hrm := dropB_mem now m t
  generalize dropB now m t = q at hS hI hrl hrm
  obtain ⟨p, r, r3⟩ := q
  dsimp only at hrl hrm
  have hcr : ∀ x ∈ r, entryCap x := fun x hx => hc x (hrm x hx)
  have hE := eqBase_same now m hlen hc
  have hE1 := eqBase_same p r (by omega) hcr
  have hm := markBase_ev now m hlen hc
  have hm1 := markBase_ev p r (by omega) hcr
  have hh1 := heldBase_ev p r (by omega) hcr
  repeat' first
    | exact ret _
    | exact ret' rfl
    | dsimp only
    | refine Ev.bind (hT) ?_
    | refine Ev.bind (hS) ?_
    | refine Ev.bind (hI) ?_
    | refine Ev.bind (hE) ?_
    | refine Ev.bind (hE1) ?_
    | refine Ev.bind (hm) ?_
    | refine Ev.bind (hm1) ?_
    | refine Ev.bind (hh1) ?_
    | refine pos rfl ?_
    | refine neg (by decide) ?_
    | refine pos (by omega) ?_
    | refine neg (by omega) ?_
    | refine neg (by simp) ?_
end Go.Proofs.Ytnkgmcgbbldkgaa.Q
