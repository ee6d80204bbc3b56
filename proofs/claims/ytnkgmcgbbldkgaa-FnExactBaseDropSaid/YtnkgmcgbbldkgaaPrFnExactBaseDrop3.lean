import Derived.Test.YtnkgmcgbbldkgaaPrFnExactBaseDrop2
/- Texts of this claim, one behind the other: words on worlds and rows, printed functions and their walks, plain lemmas. -/
namespace Go.Proofs.Ytnkgmcgbbldkgaa.P
open Go.RowKit Go.Proofs.YtnkgmcgbbldkgaaW.PrintWords Go.Proofs.YtnkgmcgbbldkgaaW.PrintLast Go.Proofs.YtnkgmcgbbldkgaaW.PrintMore
attribute [local go_sem] max2_int min2_int max_two min_two max_three min_three max_four min_four   -- for this text's walks alone
set_option linter.unusedVariables false
set_option linter.unusedSimpArgs false
set_option maxHeartbeats 8000000 in
set_option maxRecDepth 100000 in
theorem laws_toPairS.calls (k : Nat) (A0 : Option Addr) (c0 : Nat) (l0 : List (S98)) (r : List (S101)) (w : World) (hr0 : Kd.C k98 w A0 l0.length l0) (hc0 : l0.length ≤ c0) (h : laws_toPairS.f k l0 = some r) :
  Calls Try.prog 47 #[.slice A0 l0.length c0] w fun e w' => ∃ v0_ : Value, e = .returned (v0_) ∧ Kd.R k101 101 w' w.heap.size (fun _ => True) v0_ r ∧ Below w.heap.size w w' := by
 have hu98 := Try.underlying98; have hu101 := Try.underlying101; have HR0 := zq9 hr0; have HC0 := zq9 hc0; clear hr0 hc0
 have HB := zq9 (Below.refl w.heap.size w)
 have H : (if 0 ≤ (l0.length : Int) then (if ((l0.length : Int) : Int).toNat ≤ 8796093022208 then (laws_toPairS.l0 k l0 (List.replicate ((l0.length : Int) : Int).toNat z101) 0) else (none)) else (none)) = some r := h
 clear h
 by_cases c2 : 0 ≤ (l0.length : Int)
 ·rw [if_pos c2] at H
  have c2b0 := eq_true c2
  have c2b1 : decide (0 ≤ (l0.length : Int)) = true := decide_eq_true c2; clear c2
  by_cases c3 : ((l0.length : Int) : Int).toNat ≤ 8796093022208
  ·rw [if_pos c3] at H
   have c3b0 := eq_true c3
   have c3b1 : decide (((l0.length : Int) : Int).toNat ≤ 8796093022208) = true := decide_eq_true c3; clear c3
   obtain ⟨y156, hy156⟩ : ∃ y_ : List (S101), y_ = (List.replicate ((l0.length : Int) : Int).toNat z101) := ⟨_, rfl⟩
   replace H : (laws_toPairS.l0 k l0 y156 0) = some r := by first | (rw [hy156]; with_reducible exact H) | (have H2_ := (Option.bind_some _ _).symm.trans H; rw [hy156]; with_reducible exact H2_) | (have H2_ := (Option.bind_some _ _).symm.trans H; with_reducible exact H2_) | with_reducible exact H | (rw [hy156]; exact H) | exact H
   have Ny156 := zq9 hy156; clear hy156; have H' := zq9 H; clear H
   go_enter Try.func47, Try.ntmps47
   go_wp2_with (first | ((with_reducible refine zq25 (N := 7) rfl ?_); refine Kd.R_make k101 _ 101 rfl (N := 7) rfl 30 _ _ rfl (l0.length : Int) rfl rfl Try.underlying30 (.agg #[(.string ⟨#[]⟩), (.string ⟨#[]⟩)]) 32 info101 rfl (by decide) (by omega) z101 (ok := fun _ => True) (okp := fun _ => True) (k101_mkM _ _ _ z101 ) (fun _ hk => hk) trivial (of_decide_eq_true ‹_›) (Nat.le_trans (Nat.mul_le_mul_right _ (of_decide_eq_true ‹_› : (l0.length : Int).toNat ≤ 8796093022208)) (by omega)) (Below.refl _ _) (Nat.le_refl _) ?_; intro v157 w4 ho5 hb hg_ hnew_; clear hg_ hnew_; (first | rw [← Ny156.out] at ho5 | (simp only [Int.reduceToNat] at ho5; rw [← Ny156.out] at ho5)); have n0_ := zq9 (Kd.R_lower ho5 (zq29 (by exact bl HB))); have n1_ := zq9 (zq27 (by exact bl HB) hb); clear HB; have HO158 := n0_; have HB := n1_; clear n0_ n1_; clear hb ho5))
   go_loopg [4] k (fun kq v4 w' => ∃ (x3_1 : List (S101)) (x4_1 : Int), v4 = .int .i64 x4_1 ∧ Aside0 (laws_toPairS.l0 kq l0 x3_1 x4_1 = some r) ∧ Aside0 (kq ≤ k) ∧ Aside0 (Kd.R k101 101 w' w.heap.size (fun _ => True) v157 x3_1) ∧ Aside0 (Below w.heap.size w w'))
   case atStart => exact ⟨(y156), (0), (by first | rfl | (simp; done) | (simp [*]; done)), H', ⟨Nat.le_refl _⟩, ⟨by (with_reducible repeat (first | apply zq10 | apply zq11 | apply zq12)); exact HO158.out⟩, ⟨by exact bl HB⟩⟩
   case round =>
    clear H'
    try clear c2
    try clear c2b0
    try clear c2b1
    try clear p2
    try clear c3
    try clear c3b0
    try clear c3b1
    try clear c4
    obtain ⟨x3_1, x4_1, rfl, HA, HK1, HO_3, HB⟩ := hrel
    cases gk with
    | zero => exact absurd HA.out (by simp [laws_toPairS.l0])
    | succ k1 =>
     have H := HA.out; clear HA
     simp only [laws_toPairS.l0] at H
     by_cases c6 : x4_1 < (l0.length : Int)
     ·rw [if_pos c6] at H; have c6b0 : decide (x4_1 < (l0.length : Int)) = true := decide_eq_true c6; clear c6
      by_cases c7 : 0 ≤ x4_1
      ·rw [if_pos c7] at H; have c7b0 : decide (0 ≤ x4_1) = true := decide_eq_true c7; clear c7; replace H := Option.bind_eq_some_iff.mp H
       obtain ⟨⟨t160, t161⟩, A80, H⟩ := H
       try dsimp only at H
       have A8 := zq9 A80; clear A80
       by_cases c9 : x4_1 < (x3_1.length : Int)
       ·rw [if_pos c9] at H; have c9b0 : decide (x4_1 < (x3_1.length : Int)) = true := decide_eq_true c9; clear c9
        obtain ⟨y162, hy162⟩ : ∃ y_ : List (S101), y_ = (x3_1.set (x4_1 : Int).toNat (⟨t160, t161⟩ : S101)) := ⟨_, rfl⟩
        replace H : (laws_toPairS.l0 k1 l0 y162 (wrap64 (x4_1 + 1))) = some r := by first | (rw [hy162]; with_reducible exact H) | (have H2_ := (Option.bind_some _ _).symm.trans H; rw [hy162]; with_reducible exact H2_) | (have H2_ := (Option.bind_some _ _).symm.trans H; with_reducible exact H2_) | with_reducible exact H | (rw [hy162]; exact H) | exact H
        have Ny162 := zq9 hy162; clear hy162; have H' := zq9 H; clear H
        have p159 : 0 ≤ (x4_1 : Int) := of_decide_eq_true ‹_›
        have q159 : x4_1 < (l0.length : Int) := of_decide_eq_true ‹_›
        obtain ⟨ad159, e159, hx159_0, hx159_1⟩ := at_T98 HR0.out x4_1 p159 q159
        cases e159; replace hx159_0 := hcl HB hx159_0; replace hx159_1 := hcl HB hx159_1; replace p159 := eq_true p159; replace q159 := eq_true q159
        go_wp2_with (first | ((with_reducible refine zq24 (f := 83) rfl ?_); refine gl (some 20) Try.func83 #[.agg #[.string ((rd_T98 l0 x4_1).f0), .string ((rd_T98 l0 x4_1).f1)]] ?_; (with_reducible refine (laws_toPair.calls ((rd_T98 l0 x4_1).f0) ((rd_T98 l0 x4_1).f1) t160 t161 _ A8.out).mono ?_); rintro e w11 ⟨rfl, hb⟩; refine ⟨_, rfl, ?_⟩; have n0_ := zq9 (Kd.R_below (by exact rz HO_3) hb); have n1_ := zq9 (zq27 (by exact bl HB) hb); clear HO_3; clear HB; have HO_3 := n0_; have HB := n1_; clear n0_ n1_; (try clear hb); (try clear hb2); (try clear hk); (try clear hi); have p10 : 0 ≤ (x4_1 : Int) := of_decide_eq_true ‹_›; have q10 : (x4_1 : Int) < ((x3_1.length : Int) : Int) := of_decide_eq_true ‹_›; obtain ⟨go10, co10, eo10, gb10, gl10, cl10, HG10⟩ := Kd.R_form HO_3.out (by omega); (first | cases eo10 | (injection eo10 with ea_ en_ ec_; (first | subst ea_ | (injection ea_ with ea_; subst ea_)); subst ec_; clear en_)); have GB10 := zq9 gb10; have GG10 := zq9 HG10; clear gb10 gl10 HG10; obtain ⟨ce10, hcl10, hM10, hcc10, hfr10⟩ := Kd.R_elem HO_3.out z101 (x4_1 : Int) p10 q10; obtain rfl := k101_openM hM10; have hx10_0 : w11.cell? ⟨go10, (x4_1 : Int).toNat * 2, none⟩ = some (.string ((rd_T101 x3_1 x4_1).f0)) := hcc10 0 _ rfl; have hx10_1 : w11.cell? ⟨go10, (x4_1 : Int).toNat * 2 + 1, none⟩ = some (.string ((rd_T101 x3_1 x4_1).f1)) := hcc10 1 _ rfl; have hf10_0 : w11.frozen? ⟨go10, (x4_1 : Int).toNat * 2, none⟩ = false := hfr10 0; have hf10_1 : w11.frozen? ⟨go10, (x4_1 : Int).toNat * 2 + 1, none⟩ = false := hfr10 1; clear hcl10 hcc10 hfr10 hM10; replace p10 := eq_true p10; replace q10 := eq_true q10; have HX12 := zq9 (show Kd.R k101 101 w11 w.heap.size (fun _ => True) (.slice (some ⟨go10, 0, none⟩) x3_1.length co10) x3_1 from (by exact rz HO_3)); obtain ⟨ce12, hcl12, hM12, hcc12, hfr12⟩ := Kd.R_elem HX12.out z101 (x4_1 : Int) (of_decide_eq_true ‹_›) (by have h_ : (x4_1 : Int) < ((x3_1.length : Int) : Int) := of_decide_eq_true ‹_›; first | exact h_ | (have e_ := (Kd.R_reads' HO_3.out).1; omega) | simpa using h_); obtain rfl := k101_openM hM12; have HP12 := Kd.R_seg HX12.out (x4_1 : Int) (of_decide_eq_true ‹_›) (by have h_ : (x4_1 : Int) < ((x3_1.length : Int) : Int) := of_decide_eq_true ‹_›; first | exact h_ | (have e_ := (Kd.R_reads' HO_3.out).1; omega) | simpa using h_) (seg := [.string t160, .string t161]) (j := 0) hcl12 hcc12 (show 2 ≤ 2 from by decide) (x' := (⟨t160, t161⟩ : S101)) (k101_mkM _ _ _ (⟨t160, t161⟩ : S101) ) (fun _ hk => hk); have hx12_0 := hcc12 0 _ rfl; (try simp only [show (k101).sz = 2 from rfl, Nat.mul_one, Nat.add_zero] at hx12_0); have hf12_0 := hfr12 0; (try simp only [show (k101).sz = 2 from rfl, Nat.mul_one, Nat.add_zero] at hf12_0); have hx12_1 := hcc12 1 _ rfl; (try simp only [show (k101).sz = 2 from rfl, Nat.mul_one, Nat.add_zero] at hx12_1); have hf12_1 := hfr12 1; (try simp only [show (k101).sz = 2 from rfl, Nat.mul_one, Nat.add_zero] at hf12_1); clear hcl12 hcc12 hfr12 hM12) | ((with_reducible refine zq26 (t := 101) (p := 21) rfl ?_); refine store_event (t := 101) (p := 21) (v := ?vo_w13) (w1 := ((w11.setCell ⟨go10, (x4_1 : Int).toNat * 2, none⟩ (.string t160)).setCell ⟨go10, (x4_1 : Int).toNat * 2 + 1, none⟩ (.string t161))) ?hg ?ho ?hn ?hr ?_; (case ho => rfl); (case hg => rfl); (case hn => rfl); (case hr => first | (go_simp; done) | (go_simp; rfl)); intro w13 hw; have hg : w11.grownBy w13 (some go10) := (by rw [hw]; exact HP12.2); have hp_ : Kd.R k101 101 w13 w.heap.size (fun _ => True) (.slice (some ⟨go10, 0, none⟩) x3_1.length co10) y162 := (by rw [hw, Ny162.out]; exact HP12.1); clear HP12; have n0_ := zq9 (hp_); have n1_ := zq9 ((by rw [hw]; exact zq28 (zq28 (HB.out) GB10.out) GB10.out : Below w.heap.size w w13)); clear HO_3; clear HB; have HO_3 := n0_; have HB := n1_; clear n0_ n1_; clear hg hw hp_))
        go_roundg k1
        case measure => have := HK1.out; omega
        case rel => exact ⟨(y162), (wrap64 (x4_1 + 1)), (by first | rfl | (simp; done) | (simp [*]; done)), H', ⟨by have := HK1.out; omega⟩, ⟨by (with_reducible repeat (first | apply zq10 | apply zq11 | apply zq12)); exact HO_3.out⟩, ⟨by exact bl HB⟩⟩
       ·rw [if_neg c9] at H
        exact absurd H (by simp)
      ·rw [if_neg c7] at H
       exact absurd H (by simp)
     ·rw [if_neg c6] at H; have c6b0 : decide (x4_1 < (l0.length : Int)) = false := decide_eq_false c6; clear c6; obtain rfl := Option.some.inj H
      go_wp2
      go_ret
      exact ⟨_, by first | rfl | (simp [errW_none, errW_some] <;> rfl) | (simp [*, errW_none, errW_some] <;> rfl), by (with_reducible repeat (first | apply zq10 | apply zq11 | apply zq12)); exact HO_3.out, by exact bl HB⟩
  ·rw [if_neg c3] at H
   exact absurd H (by simp)
 ·rw [if_neg c2] at H
  exact absurd H (by simp)
set_option maxHeartbeats 8000000 in
set_option maxRecDepth 100000 in
theorem laws_toEntry.calls (k : Nat) (a0_0 : ByteArray) (a0_1 : Int) (a0_2 : Int) (a0_3 : ByteArray) (A0_4 : Option Addr) (c0_4 : Nat) (l0_4 : List ByteArray) (A0_5 : Option Addr) (c0_5 : Nat) (l0_5 : List (S95)) (A0_6 : Option Addr) (c0_6 : Nat) (l0_6 : List (S98)) (r1 : ByteArray) (r2 : Int) (r3 : Int) (r4 : ByteArray) (r5 : List ByteArray) (r6 : List (S99)) (r7 : List (S101)) (w : World) (hr0_4 : Kd.C Kd.string w A0_4 l0_4.length l0_4) (hc0_4 : l0_4.length ≤ c0_4) (hr0_5 : Kd.C k95 w A0_5 l0_5.length l0_5) (hc0_5 : l0_5.length ≤ c0_5) (hr0_6 : Kd.C k98 w A0_6 l0_6.length l0_6) (hc0_6 : l0_6.length ≤ c0_6) (h : laws_toEntry.f k a0_0 a0_1 a0_2 a0_3 l0_4 l0_5 l0_6 = some (r1, r2, r3, r4, r5, r6, r7)) :
    Calls Try.prog 12 #[.agg #[.string a0_0, .int .i64 a0_1, .int .i64 a0_2, .string a0_3, .slice A0_4 l0_4.length c0_4, .slice A0_5 l0_5.length c0_5, .slice A0_6 l0_6.length c0_6]] w fun e w' => ∃ v4_ v5_ v6_ : Value, e = .returned (.agg #[.string r1, .int .i64 r2, .int .i64 r3, .string r4, v4_, v5_, v6_]) ∧ Kd.R Kd.string 9 w' w.heap.size (fun _ => True) v4_ r5 ∧ Kd.R k99 99 w' w.heap.size (fun _ => True) v5_ r6 ∧ Kd.R k101 101 w' w.heap.size (fun _ => True) v6_ r7 ∧ Below w.heap.size w w' := by
  have hu26 := Try.underlying26; have hu32 := Try.underlying32; have HR0_4 := zq9 hr0_4; have HC0_4 := zq9 hc0_4; clear hr0_4 hc0_4; have HR0_5 := zq9 hr0_5; have HC0_5 := zq9 hc0_5; clear hr0_5 hc0_5; have HR0_6 := zq9 hr0_6; have HC0_6 := zq9 hc0_6; clear hr0_6 hc0_6
  have HB := zq9 (Below.refl w.heap.size w)
  have H : ((laws_toStringS.f k l0_4).bind fun t166 => ((laws_toScoreS.f k l0_5).bind fun t169 => ((laws_toPairS.f k l0_6).bind fun t172 => (some (a0_0, a0_1, a0_2, a0_3, t166, t169, t172))))) = some (r1, r2, r3, r4, r5, r6, r7) := h
  clear h; replace H := Option.bind_eq_some_iff.mp H; obtain ⟨t166, A20, H⟩ := H
  try dsimp only at H
  have A2 := zq9 A20; clear A20; replace H := Option.bind_eq_some_iff.mp H; obtain ⟨t169, A30, H⟩ := H
  try dsimp only at H
  have A3 := zq9 A30; clear A30; replace H := Option.bind_eq_some_iff.mp H; obtain ⟨t172, A40, H⟩ := H
  try dsimp only at H
  have A4 := zq9 A40; clear A40
  simp only [Option.some.injEq, Prod.mk.injEq] at H
  obtain ⟨rfl, rfl, rfl, rfl, rfl, rfl, rfl⟩ := H
  go_enter Try.func12, Try.ntmps12
  go_wp2_with (first | ((with_reducible refine zq25 (N := 1) rfl ?_); refine bx 1 #[.string a0_0, .int .i64 a0_1, .int .i64 a0_2, .string a0_3, .slice A0_4 l0_4.length c0_4, .slice A0_5 l0_5.length c0_5, .slice A0_6 l0_6.length c0_6] 26 ?_; intro gb163 hg w5 hbox hb; have n0_ := zq9 (zq27 (by exact bl HB) hb); have n1_ := zq9 (hbox); have n2_ := zq9 ((by rw [hg]; exact (zq29 (by exact bl HB)) : w.heap.size ≤ gb163)); have n3_ := n2_; clear HB; have HB := n0_; have BK163 := n1_; have GW163 := n2_; have GE163 := n3_; clear n0_ n1_ n2_ n3_; clear hb hbox hg) | ((with_reducible refine zq25 (N := 2) rfl ?_); refine bx 2 #[.string (⟨#[]⟩ : ByteArray), .int .i64 0, .int .i64 0, .string (⟨#[]⟩ : ByteArray), .slice none 0 0, .slice none 0 0, .slice none 0 0] 32 ?_; intro gb164 hg w6 hbox hb; have n0_ := zq9 (zq30 (g := gb163) (o := .cells #[.string a0_0, .int .i64 a0_1, .int .i64 a0_2, .string a0_3, .slice A0_4 l0_4.length c0_4, .slice A0_5 l0_5.length c0_5, .slice A0_6 l0_6.length c0_6] 26 (0, 0)) (by exact bk BK163) hb); have n1_ := zq9 (zq27 (by exact b1 HB GE163) hb); have n2_ := zq9 (hbox); have n3_ := zq9 ((by rw [hg]; exact (zq29 (by exact b1 HB GE163)) : w.heap.size ≤ gb164)); have n4_ := n3_; have n5_ := zq9 ((by rw [hg]; exact Nat.ne_of_lt (blk_lt (g := gb163) (o := .cells #[.string a0_0, .int .i64 a0_1, .int .i64 a0_2, .string a0_3, .slice A0_4 l0_4.length c0_4, .slice A0_5 l0_5.length c0_5, .slice A0_6 l0_6.length c0_6] 26 (0, 0)) (by exact bk BK163)) : gb163 ≠ gb164)); have n6_ := zq9 ((by rw [hg]; exact Nat.ne_of_gt (blk_lt (g := gb163) (o := .cells #[.string a0_0, .int .i64 a0_1, .int .i64 a0_2, .string a0_3, .slice A0_4 l0_4.length c0_4, .slice A0_5 l0_5.length c0_5, .slice A0_6 l0_6.length c0_6] 26 (0, 0)) (by exact bk BK163)) : gb164 ≠ gb163)); clear BK163; clear HB; have BK163 := n0_; have HB := n1_; have BK164 := n2_; have GW164 := n3_; have GE164 := n4_; have NB163_164 := n5_; have NB164_163 := n6_; clear n0_ n1_ n2_ n3_ n4_ n5_ n6_; clear hb hbox hg) | ((with_reducible refine zq25 (N := 3) rfl ?_); refine bx 3 #[.string (⟨#[]⟩ : ByteArray), .int .i64 0, .int .i64 0, .string (⟨#[]⟩ : ByteArray), .slice none 0 0, .slice none 0 0, .slice none 0 0] 32 ?_; intro gb165 hg w7 hbox hb; have n0_ := zq9 (zq30 (g := gb163) (o := .cells #[.string a0_0, .int .i64 a0_1, .int .i64 a0_2, .string a0_3, .slice A0_4 l0_4.length c0_4, .slice A0_5 l0_5.length c0_5, .slice A0_6 l0_6.length c0_6] 26 (0, 0)) (by exact bk BK163) hb); have n1_ := zq9 (zq30 (g := gb164) (o := .cells #[.string (⟨#[]⟩ : ByteArray), .int .i64 0, .int .i64 0, .string (⟨#[]⟩ : ByteArray), .slice none 0 0, .slice none 0 0, .slice none 0 0] 32 (0, 0)) (by exact bk BK164) hb); have n2_ := zq9 (zq27 (by exact b2 HB GE163 GE164) hb); have n3_ := zq9 (hbox); have n4_ := zq9 ((by rw [hg]; exact (zq29 (by exact b2 HB GE163 GE164)) : w.heap.size ≤ gb165)); have n5_ := n4_; have n6_ := zq9 ((by rw [hg]; exact Nat.ne_of_lt (blk_lt (g := gb163) (o := .cells #[.string a0_0, .int .i64 a0_1, .int .i64 a0_2, .string a0_3, .slice A0_4 l0_4.length c0_4, .slice A0_5 l0_5.length c0_5, .slice A0_6 l0_6.length c0_6] 26 (0, 0)) (by exact bk BK163)) : gb163 ≠ gb165)); have n7_ := zq9 ((by rw [hg]; exact Nat.ne_of_gt (blk_lt (g := gb163) (o := .cells #[.string a0_0, .int .i64 a0_1, .int .i64 a0_2, .string a0_3, .slice A0_4 l0_4.length c0_4, .slice A0_5 l0_5.length c0_5, .slice A0_6 l0_6.length c0_6] 26 (0, 0)) (by exact bk BK163)) : gb165 ≠ gb163)); have n8_ := zq9 ((by rw [hg]; exact Nat.ne_of_lt (blk_lt (g := gb164) (o := .cells #[.string (⟨#[]⟩ : ByteArray), .int .i64 0, .int .i64 0, .string (⟨#[]⟩ : ByteArray), .slice none 0 0, .slice none 0 0, .slice none 0 0] 32 (0, 0)) (by exact bk BK164)) : gb164 ≠ gb165)); have n9_ := zq9 ((by rw [hg]; exact Nat.ne_of_gt (blk_lt (g := gb164) (o := .cells #[.string (⟨#[]⟩ : ByteArray), .int .i64 0, .int .i64 0, .string (⟨#[]⟩ : ByteArray), .slice none 0 0, .slice none 0 0, .slice none 0 0] 32 (0, 0)) (by exact bk BK164)) : gb165 ≠ gb164)); clear BK163; clear BK164; clear HB; have BK163 := n0_; have BK164 := n1_; have HB := n2_; have BK165 := n3_; have GW165 := n4_; have GE165 := n5_; have NB163_165 := n6_; have NB165_163 := n7_; have NB164_165 := n8_; have NB165_164 := n9_; clear n0_ n1_ n2_ n3_ n4_ n5_ n6_ n7_ n8_ n9_; clear hb hbox hg; have hnb8 := NB163_164.out; have hnc8 := NB164_163.out; have hnb9 := NB163_165.out; have hnc9 := NB165_163.out; have hcz10_0 : w7.cell? ⟨gb163, 0, none⟩ = some (.string a0_0) := bc BK163 0; have hcz10_1 : w7.cell? ⟨gb163, 1, none⟩ = some (.int .i64 a0_1) := bc BK163 1; have hcz10_2 : w7.cell? ⟨gb163, 2, none⟩ = some (.int .i64 a0_2) := bc BK163 2; have hcz10_3 : w7.cell? ⟨gb163, 3, none⟩ = some (.string a0_3) := bc BK163 3; have hcz10_4 : w7.cell? ⟨gb163, 4, none⟩ = some (.slice A0_4 l0_4.length c0_4) := bc BK163 4; have hcz10_5 : w7.cell? ⟨gb163, 5, none⟩ = some (.slice A0_5 l0_5.length c0_5) := bc BK163 5; have hcz10_6 : w7.cell? ⟨gb163, 6, none⟩ = some (.slice A0_6 l0_6.length c0_6) := bc BK163 6; have hfz10_0 := zq6 BK163.out 0; have hfz10_1 := zq6 BK163.out 1; have hfz10_2 := zq6 BK163.out 2; have hfz10_3 := zq6 BK163.out 3; have hfz10_4 := zq6 BK163.out 4; have hfz10_5 := zq6 BK163.out 5; have hfz10_6 := zq6 BK163.out 6; have hnb11 := NB165_164.out; have hnc11 := NB164_165.out; have hcz12_0 : w7.cell? ⟨gb165, 0, none⟩ = some (.string (⟨#[]⟩ : ByteArray)) := bc BK165 0; have hcz12_1 : w7.cell? ⟨gb165, 1, none⟩ = some (.int .i64 0) := bc BK165 1; have hcz12_2 : w7.cell? ⟨gb165, 2, none⟩ = some (.int .i64 0) := bc BK165 2; have hcz12_3 : w7.cell? ⟨gb165, 3, none⟩ = some (.string (⟨#[]⟩ : ByteArray)) := bc BK165 3; have hcz12_4 : w7.cell? ⟨gb165, 4, none⟩ = some (.slice none 0 0) := bc BK165 4; have hcz12_5 : w7.cell? ⟨gb165, 5, none⟩ = some (.slice none 0 0) := bc BK165 5; have hcz12_6 : w7.cell? ⟨gb165, 6, none⟩ = some (.slice none 0 0) := bc BK165 6; have hfz12_0 := zq6 BK165.out 0; have hfz12_1 := zq6 BK165.out 1; have hfz12_2 := zq6 BK165.out 2; have hfz12_3 := zq6 BK165.out 3; have hfz12_4 := zq6 BK165.out 4; have hfz12_5 := zq6 BK165.out 5; have hfz12_6 := zq6 BK165.out 6) | ((with_reducible refine zq24 (f := 45) rfl ?_); refine gl (some 18) Try.func45 #[.slice A0_4 l0_4.length c0_4] ?_; (with_reducible refine (laws_toStringS.calls k _ _ l0_4 t166 _ ?side1 ?side2 A2.out).mono ?_); (case side1 => exact zq31 HR0_4.out (by exact b3 HB GE163 GE164 GE165)); (case side2 => exact HC0_4.out); rintro e w13 ⟨v167, rfl, ho0, hb⟩; refine ⟨_, rfl, ?_⟩; have n0_ := zq9 (Kd.R_lower ho0 (zq29 (by exact b3 HB GE163 GE164 GE165))); have n1_ := zq9 (zq30 (g := gb163) (o := .cells #[.string a0_0, .int .i64 a0_1, .int .i64 a0_2, .string a0_3, .slice A0_4 l0_4.length c0_4, .slice A0_5 l0_5.length c0_5, .slice A0_6 l0_6.length c0_6] 26 (0, 0)) (by refine bp ?_; refine blk_far ?_ NB163_165.out _; refine bp ?_; refine blk_far ?_ NB163_165.out _; refine bp ?_; refine blk_far ?_ NB163_165.out _; refine bp ?_; refine blk_far ?_ NB163_165.out _; refine bp ?_; exact BK163.out) hb); have n2_ := zq9 (zq30 (g := gb164) (o := .cells #[.string (⟨#[]⟩ : ByteArray), .int .i64 0, .int .i64 0, .string (⟨#[]⟩ : ByteArray), .slice none 0 0, .slice none 0 0, .slice none 0 0] 32 (0, 0)) (by refine bp ?_; refine blk_far ?_ NB164_165.out _; refine bp ?_; refine blk_far ?_ NB164_165.out _; refine bp ?_; refine blk_far ?_ NB164_165.out _; refine bp ?_; refine blk_far ?_ NB164_165.out _; refine bp ?_; exact BK164.out) hb); have n3_ := zq9 (zq30 (g := gb165) (o := .cells #[.string a0_0, .int .i64 a0_1, .int .i64 a0_2, .string a0_3, .slice none 0 0, .slice none 0 0, .slice none 0 0] 32 (0, 0)) (by refine bp ?_; refine blk_put (cs := #[.string a0_0, .int .i64 a0_1, .int .i64 a0_2, .string (⟨#[]⟩ : ByteArray), .slice none 0 0, .slice none 0 0, .slice none 0 0]) ?_ 3 _ rfl; refine bp ?_; refine blk_put (cs := #[.string a0_0, .int .i64 a0_1, .int .i64 0, .string (⟨#[]⟩ : ByteArray), .slice none 0 0, .slice none 0 0, .slice none 0 0]) ?_ 2 _ rfl; refine bp ?_; refine blk_put (cs := #[.string a0_0, .int .i64 0, .int .i64 0, .string (⟨#[]⟩ : ByteArray), .slice none 0 0, .slice none 0 0, .slice none 0 0]) ?_ 1 _ rfl; refine bp ?_; refine blk_put (cs := #[.string (⟨#[]⟩ : ByteArray), .int .i64 0, .int .i64 0, .string (⟨#[]⟩ : ByteArray), .slice none 0 0, .slice none 0 0, .slice none 0 0]) ?_ 0 _ rfl; refine bp ?_; exact BK165.out) hb); have n4_ := zq9 (zq27 (by exact b3 HB GE163 GE164 GE165) hb); clear BK163; clear BK164; clear BK165; clear HB; have HO168 := n0_; have BK163 := n1_; have BK164 := n2_; have BK165 := n3_; have HB := n4_; clear n0_ n1_ n2_ n3_ n4_; (try clear hb); (try clear hb2); (try clear hk); (try clear hi); (try clear ho0); obtain ⟨Ao14, co14, eo14⟩ := Kd.R_slice HO168.out; subst eo14; have hcz15_0 : w13.cell? ⟨gb165, 0, none⟩ = some (.string a0_0) := bc BK165 0; have hcz15_1 : w13.cell? ⟨gb165, 1, none⟩ = some (.int .i64 a0_1) := bc BK165 1; have hcz15_2 : w13.cell? ⟨gb165, 2, none⟩ = some (.int .i64 a0_2) := bc BK165 2; have hcz15_3 : w13.cell? ⟨gb165, 3, none⟩ = some (.string a0_3) := bc BK165 3; have hcz15_4 : w13.cell? ⟨gb165, 4, none⟩ = some (.slice none 0 0) := bc BK165 4; have hcz15_5 : w13.cell? ⟨gb165, 5, none⟩ = some (.slice none 0 0) := bc BK165 5; have hcz15_6 : w13.cell? ⟨gb165, 6, none⟩ = some (.slice none 0 0) := bc BK165 6; have hfz15_0 := zq6 BK165.out 0; have hfz15_1 := zq6 BK165.out 1; have hfz15_2 := zq6 BK165.out 2; have hfz15_3 := zq6 BK165.out 3; have hfz15_4 := zq6 BK165.out 4; have hfz15_5 := zq6 BK165.out 5; have hfz15_6 := zq6 BK165.out 6; have hcz16_0 : w13.cell? ⟨gb163, 0, none⟩ = some (.string a0_0) := bc BK163 0; have hcz16_1 : w13.cell? ⟨gb163, 1, none⟩ = some (.int .i64 a0_1) := bc BK163 1; have hcz16_2 : w13.cell? ⟨gb163, 2, none⟩ = some (.int .i64 a0_2) := bc BK163 2; have hcz16_3 : w13.cell? ⟨gb163, 3, none⟩ = some (.string a0_3) := bc BK163 3; have hcz16_4 : w13.cell? ⟨gb163, 4, none⟩ = some (.slice A0_4 l0_4.length c0_4) := bc BK163 4; have hcz16_5 : w13.cell? ⟨gb163, 5, none⟩ = some (.slice A0_5 l0_5.length c0_5) := bc BK163 5; have hcz16_6 : w13.cell? ⟨gb163, 6, none⟩ = some (.slice A0_6 l0_6.length c0_6) := bc BK163 6; have hfz16_0 := zq6 BK163.out 0; have hfz16_1 := zq6 BK163.out 1; have hfz16_2 := zq6 BK163.out 2; have hfz16_3 := zq6 BK163.out 3; have hfz16_4 := zq6 BK163.out 4; have hfz16_5 := zq6 BK163.out 5; have hfz16_6 := zq6 BK163.out 6) | ((with_reducible refine zq24 (f := 46) rfl ?_); refine gl (some 22) Try.func46 #[.slice A0_5 l0_5.length c0_5] ?_; (with_reducible refine (laws_toScoreS.calls k _ _ l0_5 t169 _ ?side1 ?side2 A3.out).mono ?_); (case side1 => exact zq31 HR0_5.out (by exact b3 HB GE163 GE164 GE165)); (case side2 => exact HC0_5.out); rintro e w17 ⟨v170, rfl, ho0, hb⟩; refine ⟨_, rfl, ?_⟩; have n0_ := zq9 (Kd.R_below (by (with_reducible repeat (first | apply zq10 | apply zq11 | apply zq12)); exact (Kd.R_mono (Kd.R_far (p := ⟨gb165, 4, none⟩) (Kd.R_types HO168.out BK165.out (by decide)) (fun _ hk => hk.2) (.slice Ao14 t166.length co14)) (fun _ h_ => h_.1))) hb); have n1_ := zq9 (Kd.R_lower ho0 (zq29 (by exact b3 HB GE163 GE164 GE165))); have n2_ := zq9 (zq30 (g := gb163) (o := .cells #[.string a0_0, .int .i64 a0_1, .int .i64 a0_2, .string a0_3, .slice A0_4 l0_4.length c0_4, .slice A0_5 l0_5.length c0_5, .slice A0_6 l0_6.length c0_6] 26 (0, 0)) (by refine bp ?_; refine blk_far ?_ NB163_165.out _; refine bp ?_; exact BK163.out) hb); have n3_ := zq9 (zq30 (g := gb164) (o := .cells #[.string (⟨#[]⟩ : ByteArray), .int .i64 0, .int .i64 0, .string (⟨#[]⟩ : ByteArray), .slice none 0 0, .slice none 0 0, .slice none 0 0] 32 (0, 0)) (by refine bp ?_; refine blk_far ?_ NB164_165.out _; refine bp ?_; exact BK164.out) hb); have n4_ := zq9 (zq30 (g := gb165) (o := .cells #[.string a0_0, .int .i64 a0_1, .int .i64 a0_2, .string a0_3, .slice Ao14 t166.length co14, .slice none 0 0, .slice none 0 0] 32 (0, 0)) (by refine bp ?_; refine blk_put (cs := #[.string a0_0, .int .i64 a0_1, .int .i64 a0_2, .string a0_3, .slice none 0 0, .slice none 0 0, .slice none 0 0]) ?_ 4 _ rfl; refine bp ?_; exact BK165.out) hb); have n5_ := zq9 (zq27 (by exact b3 HB GE163 GE164 GE165) hb); clear HO168; clear BK163; clear BK164; clear BK165; clear HB; have HO168 := n0_; have HO171 := n1_; have BK163 := n2_; have BK164 := n3_; have BK165 := n4_; have HB := n5_; clear n0_ n1_ n2_ n3_ n4_ n5_; (try clear hb); (try clear hb2); (try clear hk); (try clear hi); (try clear ho0); obtain ⟨Ao18, co18, eo18⟩ := Kd.R_slice HO171.out; subst eo18; have hcz19_0 : w17.cell? ⟨gb165, 0, none⟩ = some (.string a0_0) := bc BK165 0; have hcz19_1 : w17.cell? ⟨gb165, 1, none⟩ = some (.int .i64 a0_1) := bc BK165 1; have hcz19_2 : w17.cell? ⟨gb165, 2, none⟩ = some (.int .i64 a0_2) := bc BK165 2; have hcz19_3 : w17.cell? ⟨gb165, 3, none⟩ = some (.string a0_3) := bc BK165 3; have hcz19_4 : w17.cell? ⟨gb165, 4, none⟩ = some (.slice Ao14 t166.length co14) := bc BK165 4; have hcz19_5 : w17.cell? ⟨gb165, 5, none⟩ = some (.slice none 0 0) := bc BK165 5; have hcz19_6 : w17.cell? ⟨gb165, 6, none⟩ = some (.slice none 0 0) := bc BK165 6; have hfz19_0 := zq6 BK165.out 0; have hfz19_1 := zq6 BK165.out 1; have hfz19_2 := zq6 BK165.out 2; have hfz19_3 := zq6 BK165.out 3; have hfz19_4 := zq6 BK165.out 4; have hfz19_5 := zq6 BK165.out 5; have hfz19_6 := zq6 BK165.out 6; have hcz20_0 : w17.cell? ⟨gb163, 0, none⟩ = some (.string a0_0) := bc BK163 0; have hcz20_1 : w17.cell? ⟨gb163, 1, none⟩ = some (.int .i64 a0_1) := bc BK163 1; have hcz20_2 : w17.cell? ⟨gb163, 2, none⟩ = some (.int .i64 a0_2) := bc BK163 2; have hcz20_3 : w17.cell? ⟨gb163, 3, none⟩ = some (.string a0_3) := bc BK163 3; have hcz20_4 : w17.cell? ⟨gb163, 4, none⟩ = some (.slice A0_4 l0_4.length c0_4) := bc BK163 4; have hcz20_5 : w17.cell? ⟨gb163, 5, none⟩ = some (.slice A0_5 l0_5.length c0_5) := bc BK163 5; have hcz20_6 : w17.cell? ⟨gb163, 6, none⟩ = some (.slice A0_6 l0_6.length c0_6) := bc BK163 6; have hfz20_0 := zq6 BK163.out 0; have hfz20_1 := zq6 BK163.out 1; have hfz20_2 := zq6 BK163.out 2; have hfz20_3 := zq6 BK163.out 3; have hfz20_4 := zq6 BK163.out 4; have hfz20_5 := zq6 BK163.out 5; have hfz20_6 := zq6 BK163.out 6) | ((with_reducible refine zq24 (f := 47) rfl ?_); refine gl (some 26) Try.func47 #[.slice A0_6 l0_6.length c0_6] ?_; (with_reducible refine (laws_toPairS.calls k _ _ l0_6 t172 _ ?side1 ?side2 A4.out).mono ?_); (case side1 => exact zq31 HR0_6.out (by exact b3 HB GE163 GE164 GE165)); (case side2 => exact HC0_6.out); rintro e w21 ⟨v173, rfl, ho0, hb⟩; refine ⟨_, rfl, ?_⟩; have n0_ := zq9 (Kd.R_below (by (with_reducible repeat (first | apply zq10 | apply zq11 | apply zq12)); exact (Kd.R_mono (Kd.R_far (p := ⟨gb165, 5, none⟩) (Kd.R_types HO168.out BK165.out (by decide)) (fun _ hk => hk.2) (.slice Ao18 t169.length co18)) (fun _ h_ => h_.1))) hb); have n1_ := zq9 (Kd.R_below (by (with_reducible repeat (first | apply zq10 | apply zq11 | apply zq12)); exact (Kd.R_mono (Kd.R_far (p := ⟨gb165, 5, none⟩) (Kd.R_types HO171.out BK165.out (by decide)) (fun _ hk => hk.2) (.slice Ao18 t169.length co18)) (fun _ h_ => h_.1))) hb); have n2_ := zq9 (Kd.R_lower ho0 (zq29 (by exact b3 HB GE163 GE164 GE165))); have n3_ := zq9 (zq30 (g := gb163) (o := .cells #[.string a0_0, .int .i64 a0_1, .int .i64 a0_2, .string a0_3, .slice A0_4 l0_4.length c0_4, .slice A0_5 l0_5.length c0_5, .slice A0_6 l0_6.length c0_6] 26 (0, 0)) (by refine bp ?_; refine blk_far ?_ NB163_165.out _; refine bp ?_; exact BK163.out) hb); have n4_ := zq9 (zq30 (g := gb164) (o := .cells #[.string (⟨#[]⟩ : ByteArray), .int .i64 0, .int .i64 0, .string (⟨#[]⟩ : ByteArray), .slice none 0 0, .slice none 0 0, .slice none 0 0] 32 (0, 0)) (by refine bp ?_; refine blk_far ?_ NB164_165.out _; refine bp ?_; exact BK164.out) hb); have n5_ := zq9 (zq30 (g := gb165) (o := .cells #[.string a0_0, .int .i64 a0_1, .int .i64 a0_2, .string a0_3, .slice Ao14 t166.length co14, .slice Ao18 t169.length co18, .slice none 0 0] 32 (0, 0)) (by refine bp ?_; refine blk_put (cs := #[.string a0_0, .int .i64 a0_1, .int .i64 a0_2, .string a0_3, .slice Ao14 t166.length co14, .slice none 0 0, .slice none 0 0]) ?_ 5 _ rfl; refine bp ?_; exact BK165.out) hb); have n6_ := zq9 (zq27 (by exact b3 HB GE163 GE164 GE165) hb); clear HO168; clear HO171; clear BK163; clear BK164; clear BK165; clear HB; have HO168 := n0_; have HO171 := n1_; have HO174 := n2_; have BK163 := n3_; have BK164 := n4_; have BK165 := n5_; have HB := n6_; clear n0_ n1_ n2_ n3_ n4_ n5_ n6_; (try clear hb); (try clear hb2); (try clear hk); (try clear hi); (try clear ho0); obtain ⟨Ao22, co22, eo22⟩ := Kd.R_slice HO174.out; subst eo22; have hcz23_0 : w21.cell? ⟨gb165, 0, none⟩ = some (.string a0_0) := bc BK165 0; have hcz23_1 : w21.cell? ⟨gb165, 1, none⟩ = some (.int .i64 a0_1) := bc BK165 1; have hcz23_2 : w21.cell? ⟨gb165, 2, none⟩ = some (.int .i64 a0_2) := bc BK165 2; have hcz23_3 : w21.cell? ⟨gb165, 3, none⟩ = some (.string a0_3) := bc BK165 3; have hcz23_4 : w21.cell? ⟨gb165, 4, none⟩ = some (.slice Ao14 t166.length co14) := bc BK165 4; have hcz23_5 : w21.cell? ⟨gb165, 5, none⟩ = some (.slice Ao18 t169.length co18) := bc BK165 5; have hcz23_6 : w21.cell? ⟨gb165, 6, none⟩ = some (.slice none 0 0) := bc BK165 6; have hfz23_0 := zq6 BK165.out 0; have hfz23_1 := zq6 BK165.out 1; have hfz23_2 := zq6 BK165.out 2; have hfz23_3 := zq6 BK165.out 3; have hfz23_4 := zq6 BK165.out 4; have hfz23_5 := zq6 BK165.out 5; have hfz23_6 := zq6 BK165.out 6; have hcz24_0 : w21.cell? ⟨gb164, 0, none⟩ = some (.string (⟨#[]⟩ : ByteArray)) := bc BK164 0; have hcz24_1 : w21.cell? ⟨gb164, 1, none⟩ = some (.int .i64 0) := bc BK164 1; have hcz24_2 : w21.cell? ⟨gb164, 2, none⟩ = some (.int .i64 0) := bc BK164 2; have hcz24_3 : w21.cell? ⟨gb164, 3, none⟩ = some (.string (⟨#[]⟩ : ByteArray)) := bc BK164 3; have hcz24_4 : w21.cell? ⟨gb164, 4, none⟩ = some (.slice none 0 0) := bc BK164 4; have hcz24_5 : w21.cell? ⟨gb164, 5, none⟩ = some (.slice none 0 0) := bc BK164 5; have hcz24_6 : w21.cell? ⟨gb164, 6, none⟩ = some (.slice none 0 0) := bc BK164 6; have hfz24_0 := zq6 BK164.out 0; have hfz24_1 := zq6 BK164.out 1; have hfz24_2 := zq6 BK164.out 2; have hfz24_3 := zq6 BK164.out 3; have hfz24_4 := zq6 BK164.out 4; have hfz24_5 := zq6 BK164.out 5; have hfz24_6 := zq6 BK164.out 6))
  refine bodyPost_ret (results_cell_row rfl _ _ gb164 32 #[.string a0_0, .int .i64 a0_1, .int .i64 a0_2, .string a0_3, .slice Ao14 t166.length co14, .slice Ao18 t169.length co18, .slice Ao22 t172.length co22] (0, 0) _ rfl (by refine bp ?_; refine blk_put (cs := #[.string a0_0, .int .i64 a0_1, .int .i64 a0_2, .string a0_3, .slice Ao14 t166.length co14, .slice Ao18 t169.length co18, .slice none 0 0]) ?_ 6 _ rfl; refine bp ?_; refine blk_put (cs := #[.string a0_0, .int .i64 a0_1, .int .i64 a0_2, .string a0_3, .slice Ao14 t166.length co14, .slice none 0 0, .slice none 0 0]) ?_ 5 _ rfl; refine bp ?_; refine blk_put (cs := #[.string a0_0, .int .i64 a0_1, .int .i64 a0_2, .string a0_3, .slice none 0 0, .slice none 0 0, .slice none 0 0]) ?_ 4 _ rfl; refine bp ?_; refine blk_put (cs := #[.string a0_0, .int .i64 a0_1, .int .i64 a0_2, .string (⟨#[]⟩ : ByteArray), .slice none 0 0, .slice none 0 0, .slice none 0 0]) ?_ 3 _ rfl; refine bp ?_; refine blk_put (cs := #[.string a0_0, .int .i64 a0_1, .int .i64 0, .string (⟨#[]⟩ : ByteArray), .slice none 0 0, .slice none 0 0, .slice none 0 0]) ?_ 2 _ rfl; refine bp ?_; refine blk_put (cs := #[.string a0_0, .int .i64 0, .int .i64 0, .string (⟨#[]⟩ : ByteArray), .slice none 0 0, .slice none 0 0, .slice none 0 0]) ?_ 1 _ rfl; refine bp ?_; refine blk_put (cs := #[.string (⟨#[]⟩ : ByteArray), .int .i64 0, .int .i64 0, .string (⟨#[]⟩ : ByteArray), .slice none 0 0, .slice none 0 0, .slice none 0 0]) ?_ 0 _ rfl; refine bp ?_; refine blk_far ?_ NB164_165.out _; refine bp ?_; exact BK164.out) Try.underlying32 rfl (by kernel_rfl)) rfl ?_
  exact ⟨_, _, _, by first | rfl | (simp [errW_none, errW_some] <;> rfl) | (simp [*, errW_none, errW_some] <;> rfl), by (with_reducible repeat (first | apply zq10 | apply zq11 | apply zq12)); exact Kd.R_mono (Kd.R_far (p := ⟨gb164, 6, none⟩) (Kd.R_far (p := ⟨gb164, 5, none⟩) (Kd.R_far (p := ⟨gb164, 4, none⟩) (Kd.R_far (p := ⟨gb164, 3, none⟩) (Kd.R_far (p := ⟨gb164, 2, none⟩) (Kd.R_far (p := ⟨gb164, 1, none⟩) (Kd.R_far (p := ⟨gb164, 0, none⟩) (Kd.R_far (p := ⟨gb165, 6, none⟩) (Kd.R_types (Kd.R_types HO168.out BK165.out (by decide)) BK164.out (by decide)) (fun _ hk => hk.1.2) (.slice Ao22 t172.length co22)) (fun _ hk => hk.2) (.string a0_0)) (fun _ hk => hk.2) (.int .i64 a0_1)) (fun _ hk => hk.2) (.int .i64 a0_2)) (fun _ hk => hk.2) (.string a0_3)) (fun _ hk => hk.2) (.slice Ao14 t166.length co14)) (fun _ hk => hk.2) (.slice Ao18 t169.length co18)) (fun _ hk => hk.2) (.slice Ao22 t172.length co22)) (fun _ hk => trivial), by (with_reducible repeat (first | apply zq10 | apply zq11 | apply zq12)); exact Kd.R_mono (Kd.R_far (p := ⟨gb164, 6, none⟩) (Kd.R_far (p := ⟨gb164, 5, none⟩) (Kd.R_far (p := ⟨gb164, 4, none⟩) (Kd.R_far (p := ⟨gb164, 3, none⟩) (Kd.R_far (p := ⟨gb164, 2, none⟩) (Kd.R_far (p := ⟨gb164, 1, none⟩) (Kd.R_far (p := ⟨gb164, 0, none⟩) (Kd.R_far (p := ⟨gb165, 6, none⟩) (Kd.R_types (Kd.R_types HO171.out BK165.out (by decide)) BK164.out (by decide)) (fun _ hk => hk.1.2) (.slice Ao22 t172.length co22)) (fun _ hk => hk.2) (.string a0_0)) (fun _ hk => hk.2) (.int .i64 a0_1)) (fun _ hk => hk.2) (.int .i64 a0_2)) (fun _ hk => hk.2) (.string a0_3)) (fun _ hk => hk.2) (.slice Ao14 t166.length co14)) (fun _ hk => hk.2) (.slice Ao18 t169.length co18)) (fun _ hk => hk.2) (.slice Ao22 t172.length co22)) (fun _ hk => trivial), by (with_reducible repeat (first | apply zq10 | apply zq11 | apply zq12)); exact Kd.R_mono (Kd.R_far (p := ⟨gb164, 6, none⟩) (Kd.R_far (p := ⟨gb164, 5, none⟩) (Kd.R_far (p := ⟨gb164, 4, none⟩) (Kd.R_far (p := ⟨gb164, 3, none⟩) (Kd.R_far (p := ⟨gb164, 2, none⟩) (Kd.R_far (p := ⟨gb164, 1, none⟩) (Kd.R_far (p := ⟨gb164, 0, none⟩) (Kd.R_far (p := ⟨gb165, 6, none⟩) (Kd.R_types (Kd.R_types HO174.out BK165.out (by decide)) BK164.out (by decide)) (fun _ hk => hk.1.2) (.slice Ao22 t172.length co22)) (fun _ hk => hk.2) (.string a0_0)) (fun _ hk => hk.2) (.int .i64 a0_1)) (fun _ hk => hk.2) (.int .i64 a0_2)) (fun _ hk => hk.2) (.string a0_3)) (fun _ hk => hk.2) (.slice Ao14 t166.length co14)) (fun _ hk => hk.2) (.slice Ao18 t169.length co18)) (fun _ hk => hk.2) (.slice Ao22 t172.length co22)) (fun _ hk => trivial), by exact b3 HB GE163 GE164 GE165⟩
set_option maxHeartbeats 8000000 in
set_option maxRecDepth 100000 in
theorem laws_toEntryS.calls (k : Nat) (A0 : Option Addr) (c0 : Nat) (l0 : List (S26)) (r : List (S32)) (w : World) (hr0 : Kd.C k26 w A0 l0.length l0) (hc0 : l0.length ≤ c0) (h : laws_toEntryS.f k l0 = some r) :
  Calls Try.prog 59 #[.slice A0 l0.length c0] w fun e w' => ∃ v0_ : Value, e = .returned (v0_) ∧ Kd.S k32 32 w' w.heap.size (fun _ => True) v0_ r ∧ Below w.heap.size w w' := by
 have hu26 := Try.underlying26; have hu32 := Try.underlying32; have HR0 := zq9 hr0; have HC0 := zq9 hc0; clear hr0 hc0
 have HB := zq9 (Below.refl w.heap.size w)
 have H : (if 0 ≤ (l0.length : Int) then (if ((l0.length : Int) : Int).toNat ≤ 2345624805922 then (laws_toEntryS.l0 k l0 (List.replicate ((l0.length : Int) : Int).toNat z32) 0) else (none)) else (none)) = some r := h
 clear h
 by_cases c2 : 0 ≤ (l0.length : Int)
 ·rw [if_pos c2] at H
  have c2b0 := eq_true c2
  have c2b1 : decide (0 ≤ (l0.length : Int)) = true := decide_eq_true c2; clear c2
  by_cases c3 : ((l0.length : Int) : Int).toNat ≤ 2345624805922
  ·rw [if_pos c3] at H
   have c3b0 := eq_true c3
   have c3b1 : decide (((l0.length : Int) : Int).toNat ≤ 2345624805922) = true := decide_eq_true c3; clear c3
   obtain ⟨y652, hy652⟩ : ∃ y_ : List (S32), y_ = (List.replicate ((l0.length : Int) : Int).toNat z32) := ⟨_, rfl⟩
   replace H : (laws_toEntryS.l0 k l0 y652 0) = some r := by first | (rw [hy652]; with_reducible exact H) | (have H2_ := (Option.bind_some _ _).symm.trans H; rw [hy652]; with_reducible exact H2_) | (have H2_ := (Option.bind_some _ _).symm.trans H; with_reducible exact H2_) | with_reducible exact H | (rw [hy652]; exact H) | exact H
   have Ny652 := zq9 hy652; clear hy652; have H' := zq9 H; clear H
   go_enter Try.func59, Try.ntmps59
   go_wp2_with (first | ((with_reducible refine zq25 (N := 7) rfl ?_); refine Kd.S_make k32 _ 32 rfl (N := 7) rfl 44 _ _ rfl (l0.length : Int) rfl rfl Try.underlying44 (.agg #[(.string ⟨#[]⟩), (.int .i64 0), (.int .i64 0), (.string ⟨#[]⟩), (.slice none 0 0), (.slice none 0 0), (.slice none 0 0)]) 120 info32 rfl (by decide) (by omega) z32 (ok := fun _ => True) (okp := fun _ => True) (k32_mkM _ _ _ z32 (Kd.R_nil _ _ _ _ _) (Kd.R_nil _ _ _ _ _) (Kd.R_nil _ _ _ _ _)) (fun _ hk => hk) trivial (of_decide_eq_true ‹_›) (Nat.le_trans (Nat.mul_le_mul_right _ (of_decide_eq_true ‹_› : (l0.length : Int).toNat ≤ 2345624805922)) (by omega)) (Below.refl _ _) (Nat.le_refl _) ?_; intro v653 w4 ho5 hb hg_ hnew_; clear hg_ hnew_; (first | rw [← Ny652.out] at ho5 | (simp only [Int.reduceToNat] at ho5; rw [← Ny652.out] at ho5)); have n0_ := zq9 (Kd.S_lower ho5 (zq29 (by exact bl HB))); have n1_ := zq9 (zq27 (by exact bl HB) hb); clear HB; have HO654 := n0_; have HB := n1_; clear n0_ n1_; clear hb ho5))
   go_loopg [4] k (fun kq v4 w' => ∃ (x3_1 : List (S32)) (x4_1 : Int), v4 = .int .i64 x4_1 ∧ Aside0 (laws_toEntryS.l0 kq l0 x3_1 x4_1 = some r) ∧ Aside0 (kq ≤ k) ∧ Aside0 (Kd.S k32 32 w' w.heap.size (fun _ => True) v653 x3_1) ∧ Aside0 (Below w.heap.size w w'))
   case atStart => exact ⟨(y652), (0), (by first | rfl | (simp; done) | (simp [*]; done)), H', ⟨Nat.le_refl _⟩, ⟨by (with_reducible repeat (first | apply Kd.S_alloc | apply Kd.S_drewN | apply Kd.S_drew)); exact HO654.out⟩, ⟨by exact bl HB⟩⟩
   case round =>
    clear H'
    try clear c2
    try clear c2b0
    try clear c2b1
    try clear p2
    try clear c3
    try clear c3b0
    try clear c3b1
    try clear c5
    obtain ⟨x3_1, x4_1, rfl, HA, HK1, HO_3, HB⟩ := hrel
    cases gk with
    | zero => exact absurd HA.out (by simp [laws_toEntryS.l0])
    | succ k1 =>
     have H := HA.out; clear HA
     simp only [laws_toEntryS.l0] at H
     by_cases c6 : x4_1 < (l0.length : Int)
     ·rw [if_pos c6] at H; have c6b0 : decide (x4_1 < (l0.length : Int)) = true := decide_eq_true c6; clear c6
      by_cases c7 : 0 ≤ x4_1
      ·rw [if_pos c7] at H; have c7b0 : decide (0 ≤ x4_1) = true := decide_eq_true c7; clear c7; replace H := Option.bind_eq_some_iff.mp H
       obtain ⟨⟨t656, t657, t658, t659, t660, t663, t666⟩, A80, H⟩ := H
       try dsimp only at H
       have A8 := zq9 A80; clear A80
       by_cases c9 : x4_1 < (x3_1.length : Int)
       ·rw [if_pos c9] at H; have c9b0 : decide (x4_1 < (x3_1.length : Int)) = true := decide_eq_true c9; clear c9
        obtain ⟨y669, hy669⟩ : ∃ y_ : List (S32), y_ = (x3_1.set (x4_1 : Int).toNat (⟨t656, t657, t658, t659, t660, t663, t666⟩ : S32)) := ⟨_, rfl⟩
        replace H : (laws_toEntryS.l0 k1 l0 y669 (wrap64 (x4_1 + 1))) = some r := by first | (rw [hy669]; with_reducible exact H) | (have H2_ := (Option.bind_some _ _).symm.trans H; rw [hy669]; with_reducible exact H2_) | (have H2_ := (Option.bind_some _ _).symm.trans H; with_reducible exact H2_) | with_reducible exact H | (rw [hy669]; exact H) | exact H
        have Ny669 := zq9 hy669; clear hy669; have H' := zq9 H; clear H
        have p655 : 0 ≤ (x4_1 : Int) := of_decide_eq_true ‹_›
        have q655 : x4_1 < (l0.length : Int) := of_decide_eq_true ‹_›
        obtain ⟨ad655, A655_4, c655_4, A655_5, c655_5, A655_6, c655_6, e655, hx655_0, hx655_1, hx655_2, hx655_3, hx655_4, hx655_5, hx655_6, hl655_4, hi655_4, hl655_5, hi655_5, hl655_6, hi655_6⟩ := at_T26 HR0.out x4_1 p655 q655
        cases e655; replace hx655_0 := hcl HB hx655_0; replace hx655_1 := hcl HB hx655_1; replace hx655_2 := hcl HB hx655_2; replace hx655_3 := hcl HB hx655_3; replace hx655_4 := hcl HB hx655_4; replace hx655_5 := hcl HB hx655_5; replace hx655_6 := hcl HB hx655_6; have HR655_4 := zq9 hi655_4; have HC655_4 := zq9 hl655_4; clear hi655_4 hl655_4; have HR655_5 := zq9 hi655_5; have HC655_5 := zq9 hl655_5
        clear hi655_5 hl655_5; have HR655_6 := zq9 hi655_6; have HC655_6 := zq9 hl655_6; clear hi655_6 hl655_6; replace p655 := eq_true p655; replace q655 := eq_true q655
        go_wp2_with (first | ((with_reducible refine zq24 (f := 12) rfl ?_); refine gl (some 20) Try.func12 #[.agg #[.string ((rd_T26 l0 x4_1).f0), .int .i64 ((rd_T26 l0 x4_1).f1), .int .i64 ((rd_T26 l0 x4_1).f2), .string ((rd_T26 l0 x4_1).f3), .slice A655_4 ((rd_T26 l0 x4_1).f4).length c655_4, .slice A655_5 ((rd_T26 l0 x4_1).f5).length c655_5, .slice A655_6 ((rd_T26 l0 x4_1).f6).length c655_6]] ?_; (with_reducible refine (laws_toEntry.calls k1 ((rd_T26 l0 x4_1).f0) ((rd_T26 l0 x4_1).f1) ((rd_T26 l0 x4_1).f2) ((rd_T26 l0 x4_1).f3) _ _ ((rd_T26 l0 x4_1).f4) _ _ ((rd_T26 l0 x4_1).f5) _ _ ((rd_T26 l0 x4_1).f6) t656 t657 t658 t659 t660 t663 t666 _ ?side1 ?side2 ?side3 ?side4 ?side5 ?side6 A8.out).mono ?_); (case side1 => exact kc HR655_4 HB); (case side2 => exact HC655_4.out); (case side3 => exact kc HR655_5 HB); (case side4 => exact HC655_5.out); (case side5 => exact kc HR655_6 HB); (case side6 => exact HC655_6.out); rintro e w11 ⟨v661, v664, v667, rfl, ho0, ho1, ho2, hb⟩; refine ⟨_, rfl, ?_⟩; have n0_ := zq9 (Kd.S_mono (Kd.S_told (Kd.S_told (Kd.S_told (Kd.S_old (by (with_reducible repeat (first | apply Kd.S_alloc | apply Kd.S_drewN | apply Kd.S_drew)); exact HO_3.out) hb) (Kd.R_base ho0)) (Kd.R_base ho1)) (Kd.R_base ho2)) (fun _ h_ => h_.1)); have n1_ := zq9 (Kd.R_lower ho0 (zq29 (by exact bl HB))); have n2_ := zq9 (Kd.R_lower ho1 (zq29 (by exact bl HB))); have n3_ := zq9 (Kd.R_lower ho2 (zq29 (by exact bl HB))); have n4_ := zq9 (zq27 (by exact bl HB) hb); clear HO_3; clear HB; have HO_3 := n0_; have HO662 := n1_; have HO665 := n2_; have HO668 := n3_; have HB := n4_; clear n0_ n1_ n2_ n3_ n4_; (try clear hb); (try clear hb2); (try clear hk); (try clear hi); (try clear ho0); (try clear ho1); (try clear ho2); have p10 : 0 ≤ (x4_1 : Int) := of_decide_eq_true ‹_›; have q10 : (x4_1 : Int) < ((x3_1.length : Int) : Int) := of_decide_eq_true ‹_›; obtain ⟨go10, co10, eo10, gb10, gl10, cl10, HG10⟩ := Kd.S_form HO_3.out (by omega); (first | cases eo10 | (injection eo10 with ea_ en_ ec_; (first | subst ea_ | (injection ea_ with ea_; subst ea_)); subst ec_; clear en_)); have GB10 := zq9 gb10; have GG10 := zq9 HG10; clear gb10 gl10 HG10; obtain ⟨_, ce10, hcl10, hM10, hcc10, hfr10, _, _⟩ := Kd.S_elem HO_3.out z32 (x4_1 : Int) p10 q10; obtain ⟨ve10_4, ve10_5, ve10_6, rfl, ge10_4, ge10_5, ge10_6⟩ := k32_openM hM10; have hx10_0 : w11.cell? ⟨go10, (x4_1 : Int).toNat * 7, none⟩ = some (.string ((rd_T32 x3_1 x4_1).f0)) := hcc10 0 _ rfl; have hx10_1 : w11.cell? ⟨go10, (x4_1 : Int).toNat * 7 + 1, none⟩ = some (.int .i64 ((rd_T32 x3_1 x4_1).f1)) := hcc10 1 _ rfl; have hx10_2 : w11.cell? ⟨go10, (x4_1 : Int).toNat * 7 + 2, none⟩ = some (.int .i64 ((rd_T32 x3_1 x4_1).f2)) := hcc10 2 _ rfl; have hx10_3 : w11.cell? ⟨go10, (x4_1 : Int).toNat * 7 + 3, none⟩ = some (.string ((rd_T32 x3_1 x4_1).f3)) := hcc10 3 _ rfl; have hx10_4 : w11.cell? ⟨go10, (x4_1 : Int).toNat * 7 + 4, none⟩ = some (ve10_4) := hcc10 4 _ rfl; have hx10_5 : w11.cell? ⟨go10, (x4_1 : Int).toNat * 7 + 5, none⟩ = some (ve10_5) := hcc10 5 _ rfl; have hx10_6 : w11.cell? ⟨go10, (x4_1 : Int).toNat * 7 + 6, none⟩ = some (ve10_6) := hcc10 6 _ rfl; have hf10_0 : w11.frozen? ⟨go10, (x4_1 : Int).toNat * 7, none⟩ = false := hfr10 0; have hf10_1 : w11.frozen? ⟨go10, (x4_1 : Int).toNat * 7 + 1, none⟩ = false := hfr10 1; have hf10_2 : w11.frozen? ⟨go10, (x4_1 : Int).toNat * 7 + 2, none⟩ = false := hfr10 2; have hf10_3 : w11.frozen? ⟨go10, (x4_1 : Int).toNat * 7 + 3, none⟩ = false := hfr10 3; have hf10_4 : w11.frozen? ⟨go10, (x4_1 : Int).toNat * 7 + 4, none⟩ = false := hfr10 4; have hf10_5 : w11.frozen? ⟨go10, (x4_1 : Int).toNat * 7 + 5, none⟩ = false := hfr10 5; have hf10_6 : w11.frozen? ⟨go10, (x4_1 : Int).toNat * 7 + 6, none⟩ = false := hfr10 6; clear hcl10 hcc10 hfr10 hM10; replace p10 := eq_true p10; replace q10 := eq_true q10; have n_ := zq9 (Kd.S_mono (ok' := (fun k_ => some k_ ≠ (v661 : Value).ownBlock ∧ some k_ ≠ (v664 : Value).ownBlock ∧ some k_ ≠ (v667 : Value).ownBlock)) HO_3.out (fun k_ hk => ⟨hk.1.1.2, ⟨hk.1.2, hk.2⟩⟩)); clear HO_3; have HO_3 := n_; clear n_; have HX12 := zq9 (show Kd.S k32 32 w11 w.heap.size (fun k_ => ((fun _ => True)) k_ ∧ ¬ ((fun k_ => some k_ = (v661 : Value).ownBlock ∨ some k_ = (v664 : Value).ownBlock ∨ some k_ = (v667 : Value).ownBlock)) k_) (.slice (some ⟨go10, 0, none⟩) x3_1.length co10) x3_1 from (by (with_reducible repeat (first | apply Kd.S_alloc | apply Kd.S_drewN | apply Kd.S_drew)); exact Kd.S_mono HO_3.out (fun k_ hk => ⟨trivial, fun e_ => e_.elim (fun h_ => hk.1 h_) (fun h_ => h_.elim (fun h_ => hk.2.1 h_) (fun h_ => hk.2.2 h_))⟩))); obtain ⟨oki12, ce12, hcl12, hM12, hcc12, hfr12, hoki12, hH12⟩ := Kd.S_elem HX12.out z32 (x4_1 : Int) (of_decide_eq_true ‹_›) (by have h_ : (x4_1 : Int) < ((x3_1.length : Int) : Int) := of_decide_eq_true ‹_›; first | exact h_ | (have e_ := (Kd.S_reads' HO_3.out).1; omega) | simpa using h_); obtain ⟨ve12_4, ve12_5, ve12_6, rfl, ge12_4, ge12_5, ge12_6⟩ := k32_openM hM12; have HP12 := Kd.S_seg hH12 (of_decide_eq_true ‹_›) (by have h_ : (x4_1 : Int) < ((x3_1.length : Int) : Int) := of_decide_eq_true ‹_›; first | exact h_ | (have e_ := (Kd.S_reads' HO_3.out).1; omega) | simpa using h_) (seg := [.string t656, .int .i64 t657, .int .i64 t658, .string t659, v661, v664, v667]) (j := 0) (show 7 ≤ 7 from by decide) (x' := (⟨t656, t657, t658, t659, t660, t663, t666⟩ : S32)) (k32_mkM _ _ _ (⟨t656, t657, t658, t659, t660, t663, t666⟩ : S32) (Kd.R_mono (Kd.R_tight rfl (Kd.R_mono (ok' := fun k_ => ((fun _ => True)) k_ ∧ k_ ≠ go10) (Kd.R_apart' (HO662.out) (Kd.S_typed HO_3.out) (by decide)) (fun k_ hk => ⟨trivial, fun e_ => (hk.2) (by rw [e_]; rfl)⟩))) (fun _ h_ => Or.inr (Or.inl h_))) (Kd.R_mono (Kd.R_tight rfl (Kd.R_mono (ok' := fun k_ => ((fun _ => True)) k_ ∧ k_ ≠ go10) (Kd.R_apart' (HO665.out) (Kd.S_typed HO_3.out) (by decide)) (fun k_ hk => ⟨trivial, fun e_ => (hk.2) (by rw [e_]; rfl)⟩))) (fun _ h_ => Or.inr (Or.inr (Or.inl h_)))) (Kd.R_mono (Kd.R_tight rfl (Kd.R_mono (ok' := fun k_ => ((fun _ => True)) k_ ∧ k_ ≠ go10) (Kd.R_apart' (HO668.out) (Kd.S_typed HO_3.out) (by decide)) (fun k_ hk => ⟨trivial, fun e_ => (hk.2) (by rw [e_]; rfl)⟩))) (fun _ h_ => Or.inr (Or.inr (Or.inr (h_)))))) (fun _ hk => hk) (fun k_ hk_ => hk_.elim (fun h_ => ((Kd.R_mono (ok' := fun k_ => ((fun _ => True)) k_ ∧ k_ ≠ go10) (Kd.R_apart' (HO662.out) (Kd.S_typed HO_3.out) (by decide)) (fun k_ hk => ⟨trivial, fun e_ => (hk.2) (by rw [e_]; rfl)⟩))).1 k_ h_.symm) (fun h_ => h_.elim (fun h_ => ((Kd.R_mono (ok' := fun k_ => ((fun _ => True)) k_ ∧ k_ ≠ go10) (Kd.R_apart' (HO665.out) (Kd.S_typed HO_3.out) (by decide)) (fun k_ hk => ⟨trivial, fun e_ => (hk.2) (by rw [e_]; rfl)⟩))).1 k_ h_.symm) (fun h_ => ((Kd.R_mono (ok' := fun k_ => ((fun _ => True)) k_ ∧ k_ ≠ go10) (Kd.R_apart' (HO668.out) (Kd.S_typed HO_3.out) (by decide)) (fun k_ hk => ⟨trivial, fun e_ => (hk.2) (by rw [e_]; rfl)⟩))).1 k_ h_.symm))); have hx12_0 := hcc12 0 _ rfl; (try simp only [show (k32).sz = 7 from rfl, Nat.mul_one, Nat.add_zero] at hx12_0); have hf12_0 := hfr12 0; (try simp only [show (k32).sz = 7 from rfl, Nat.mul_one, Nat.add_zero] at hf12_0); have hx12_1 := hcc12 1 _ rfl; (try simp only [show (k32).sz = 7 from rfl, Nat.mul_one, Nat.add_zero] at hx12_1); have hf12_1 := hfr12 1; (try simp only [show (k32).sz = 7 from rfl, Nat.mul_one, Nat.add_zero] at hf12_1); have hx12_2 := hcc12 2 _ rfl; (try simp only [show (k32).sz = 7 from rfl, Nat.mul_one, Nat.add_zero] at hx12_2); have hf12_2 := hfr12 2; (try simp only [show (k32).sz = 7 from rfl, Nat.mul_one, Nat.add_zero] at hf12_2); have hx12_3 := hcc12 3 _ rfl; (try simp only [show (k32).sz = 7 from rfl, Nat.mul_one, Nat.add_zero] at hx12_3); have hf12_3 := hfr12 3; (try simp only [show (k32).sz = 7 from rfl, Nat.mul_one, Nat.add_zero] at hf12_3); have hx12_4 := hcc12 4 _ rfl; (try simp only [show (k32).sz = 7 from rfl, Nat.mul_one, Nat.add_zero] at hx12_4); have hf12_4 := hfr12 4; (try simp only [show (k32).sz = 7 from rfl, Nat.mul_one, Nat.add_zero] at hf12_4); have hx12_5 := hcc12 5 _ rfl; (try simp only [show (k32).sz = 7 from rfl, Nat.mul_one, Nat.add_zero] at hx12_5); have hf12_5 := hfr12 5; (try simp only [show (k32).sz = 7 from rfl, Nat.mul_one, Nat.add_zero] at hf12_5); have hx12_6 := hcc12 6 _ rfl; (try simp only [show (k32).sz = 7 from rfl, Nat.mul_one, Nat.add_zero] at hx12_6); have hf12_6 := hfr12 6; (try simp only [show (k32).sz = 7 from rfl, Nat.mul_one, Nat.add_zero] at hf12_6); clear hcl12 hcc12 hfr12 hM12 hoki12 hH12) | (obtain ⟨Aq0, cq0, eq0⟩ := Kd.R_slice HO662.out; obtain ⟨Aq1, cq1, eq1⟩ := Kd.R_slice HO665.out; obtain ⟨Aq2, cq2, eq2⟩ := Kd.R_slice HO668.out; subst eq0; subst eq1; subst eq2; (with_reducible refine zq26 (t := 32) (p := 21) rfl ?_); refine store_event (t := 32) (p := 21) (v := ?vo_w13) (w1 := (((((((w11.setCell ⟨go10, (x4_1 : Int).toNat * 7, none⟩ (.string t656)).setCell ⟨go10, (x4_1 : Int).toNat * 7 + 1, none⟩ (.int .i64 t657)).setCell ⟨go10, (x4_1 : Int).toNat * 7 + 2, none⟩ (.int .i64 t658)).setCell ⟨go10, (x4_1 : Int).toNat * 7 + 3, none⟩ (.string t659)).setCell ⟨go10, (x4_1 : Int).toNat * 7 + 4, none⟩ (.slice Aq0 t660.length cq0)).setCell ⟨go10, (x4_1 : Int).toNat * 7 + 5, none⟩ (.slice Aq1 t663.length cq1)).setCell ⟨go10, (x4_1 : Int).toNat * 7 + 6, none⟩ (.slice Aq2 t666.length cq2))) ?hg ?ho ?hn ?hr ?_; (case ho => rfl); (case hg => rfl); (case hn => rfl); (case hr => first | (go_simp; done) | (go_simp; rfl)); intro w13 hw; have hg : w11.grownBy w13 (some go10) := (by rw [hw]; exact HP12.2); have hp_ : Kd.S k32 32 w13 w.heap.size (fun _ => True) (.slice (some ⟨go10, 0, none⟩) x3_1.length co10) y669 := (by rw [hw, Ny669.out]; exact HP12.1); clear HP12; have n0_ := zq9 (hp_); have n1_ := zq9 ((by rw [hw]; exact zq28 (zq28 (zq28 (zq28 (zq28 (zq28 (zq28 (HB.out) GB10.out) GB10.out) GB10.out) GB10.out) GB10.out) GB10.out) GB10.out : Below w.heap.size w w13)); clear HO_3; clear HB; clear HO662; clear HO665; clear HO668; have HO_3 := n0_; have HB := n1_; clear n0_ n1_; clear hg hw hp_))
        go_roundg k1
        case measure => have := HK1.out; omega
        case rel => exact ⟨(y669), (wrap64 (x4_1 + 1)), (by first | rfl | (simp; done) | (simp [*]; done)), H', ⟨by have := HK1.out; omega⟩, ⟨by (with_reducible repeat (first | apply Kd.S_alloc | apply Kd.S_drewN | apply Kd.S_drew)); exact HO_3.out⟩, ⟨by exact bl HB⟩⟩
       ·rw [if_neg c9] at H
        exact absurd H (by simp)
      ·rw [if_neg c7] at H
       exact absurd H (by simp)
     ·rw [if_neg c6] at H; have c6b0 : decide (x4_1 < (l0.length : Int)) = false := decide_eq_false c6; clear c6; obtain rfl := Option.some.inj H
      go_wp2
      go_ret
      exact ⟨_, by first | rfl | (simp [errW_none, errW_some] <;> rfl) | (simp [*, errW_none, errW_some] <;> rfl), by (with_reducible repeat (first | apply Kd.S_alloc | apply Kd.S_drewN | apply Kd.S_drew)); exact HO_3.out, by exact bl HB⟩
  ·rw [if_neg c3] at H
   exact absurd H (by simp)
 ·rw [if_neg c2] at H
  exact absurd H (by simp)
set_option maxHeartbeats 8000000 in
set_option maxRecDepth 100000 in
theorem laws_toBase.calls (k : Nat) (a0_0 : Int) (A0_1 : Option Addr) (c0_1 : Nat) (l0_1 : List (S26)) (r1 : Int) (r2 : List (S32)) (w : World) (hr0_1 : Kd.C k26 w A0_1 l0_1.length l0_1) (hc0_1 : l0_1.length ≤ c0_1) (h : laws_toBase.f k a0_0 l0_1 = some (r1, r2)) :
    Calls Try.prog 18 #[.agg #[.int .i64 a0_0, .slice A0_1 l0_1.length c0_1]] w fun e w' => ∃ v1_ : Value, e = .returned (.agg #[.int .i64 r1, v1_]) ∧ Kd.S k32 32 w' w.heap.size (fun _ => True) v1_ r2 ∧ Below w.heap.size w w' := by
  have hu41 := Try.underlying41; have hu46 := Try.underlying46; have HR0_1 := zq9 hr0_1; have HC0_1 := zq9 hc0_1; clear hr0_1 hc0_1
  have HB := zq9 (Below.refl w.heap.size w)
  have H : ((laws_toEntryS.f k l0_1).bind fun t673 => (some (a0_0, t673))) = some (r1, r2) := h
  clear h; replace H := Option.bind_eq_some_iff.mp H; obtain ⟨t673, A20, H⟩ := H
  try dsimp only at H
  have A2 := zq9 A20; clear A20
  simp only [Option.some.injEq, Prod.mk.injEq] at H
  obtain ⟨rfl, rfl⟩ := H
  go_enter Try.func18, Try.ntmps18
  go_wp2_with (first | ((with_reducible refine zq25 (N := 1) rfl ?_); refine bx 1 #[.int .i64 a0_0, .slice A0_1 l0_1.length c0_1] 41 ?_; intro gb670 hg w3 hbox hb; have n0_ := zq9 (zq27 (by exact bl HB) hb); have n1_ := zq9 (hbox); have n2_ := zq9 ((by rw [hg]; exact (zq29 (by exact bl HB)) : w.heap.size ≤ gb670)); have n3_ := n2_; clear HB; have HB := n0_; have BK670 := n1_; have GW670 := n2_; have GE670 := n3_; clear n0_ n1_ n2_ n3_; clear hb hbox hg) | ((with_reducible refine zq25 (N := 2) rfl ?_); refine bx 2 #[.int .i64 0, .slice none 0 0] 46 ?_; intro gb671 hg w4 hbox hb; have n0_ := zq9 (zq30 (g := gb670) (o := .cells #[.int .i64 a0_0, .slice A0_1 l0_1.length c0_1] 41 (0, 0)) (by exact bk BK670) hb); have n1_ := zq9 (zq27 (by exact b1 HB GE670) hb); have n2_ := zq9 (hbox); have n3_ := zq9 ((by rw [hg]; exact (zq29 (by exact b1 HB GE670)) : w.heap.size ≤ gb671)); have n4_ := n3_; have n5_ := zq9 ((by rw [hg]; exact Nat.ne_of_lt (blk_lt (g := gb670) (o := .cells #[.int .i64 a0_0, .slice A0_1 l0_1.length c0_1] 41 (0, 0)) (by exact bk BK670)) : gb670 ≠ gb671)); have n6_ := zq9 ((by rw [hg]; exact Nat.ne_of_gt (blk_lt (g := gb670) (o := .cells #[.int .i64 a0_0, .slice A0_1 l0_1.length c0_1] 41 (0, 0)) (by exact bk BK670)) : gb671 ≠ gb670)); clear BK670; clear HB; have BK670 := n0_; have HB := n1_; have BK671 := n2_; have GW671 := n3_; have GE671 := n4_; have NB670_671 := n5_; have NB671_670 := n6_; clear n0_ n1_ n2_ n3_ n4_ n5_ n6_; clear hb hbox hg) | ((with_reducible refine zq25 (N := 3) rfl ?_); refine bx 3 #[.int .i64 0, .slice none 0 0] 46 ?_; intro gb672 hg w5 hbox hb; have n0_ := zq9 (zq30 (g := gb670) (o := .cells #[.int .i64 a0_0, .slice A0_1 l0_1.length c0_1] 41 (0, 0)) (by exact bk BK670) hb); have n1_ := zq9 (zq30 (g := gb671) (o := .cells #[.int .i64 0, .slice none 0 0] 46 (0, 0)) (by exact bk BK671) hb); have n2_ := zq9 (zq27 (by exact b2 HB GE670 GE671) hb); have n3_ := zq9 (hbox); have n4_ := zq9 ((by rw [hg]; exact (zq29 (by exact b2 HB GE670 GE671)) : w.heap.size ≤ gb672)); have n5_ := n4_; have n6_ := zq9 ((by rw [hg]; exact Nat.ne_of_lt (blk_lt (g := gb670) (o := .cells #[.int .i64 a0_0, .slice A0_1 l0_1.length c0_1] 41 (0, 0)) (by exact bk BK670)) : gb670 ≠ gb672)); have n7_ := zq9 ((by rw [hg]; exact Nat.ne_of_gt (blk_lt (g := gb670) (o := .cells #[.int .i64 a0_0, .slice A0_1 l0_1.length c0_1] 41 (0, 0)) (by exact bk BK670)) : gb672 ≠ gb670)); have n8_ := zq9 ((by rw [hg]; exact Nat.ne_of_lt (blk_lt (g := gb671) (o := .cells #[.int .i64 0, .slice none 0 0] 46 (0, 0)) (by exact bk BK671)) : gb671 ≠ gb672)); have n9_ := zq9 ((by rw [hg]; exact Nat.ne_of_gt (blk_lt (g := gb671) (o := .cells #[.int .i64 0, .slice none 0 0] 46 (0, 0)) (by exact bk BK671)) : gb672 ≠ gb671)); clear BK670; clear BK671; clear HB; have BK670 := n0_; have BK671 := n1_; have HB := n2_; have BK672 := n3_; have GW672 := n4_; have GE672 := n5_; have NB670_672 := n6_; have NB672_670 := n7_; have NB671_672 := n8_; have NB672_671 := n9_; clear n0_ n1_ n2_ n3_ n4_ n5_ n6_ n7_ n8_ n9_; clear hb hbox hg; have hnb6 := NB670_671.out; have hnc6 := NB671_670.out; have hnb7 := NB670_672.out; have hnc7 := NB672_670.out; have hcz8_0 : w5.cell? ⟨gb670, 0, none⟩ = some (.int .i64 a0_0) := bc BK670 0; have hcz8_1 : w5.cell? ⟨gb670, 1, none⟩ = some (.slice A0_1 l0_1.length c0_1) := bc BK670 1; have hfz8_0 := zq6 BK670.out 0; have hfz8_1 := zq6 BK670.out 1; have hnb9 := NB672_671.out; have hnc9 := NB671_672.out; have hcz10_0 : w5.cell? ⟨gb672, 0, none⟩ = some (.int .i64 0) := bc BK672 0; have hcz10_1 : w5.cell? ⟨gb672, 1, none⟩ = some (.slice none 0 0) := bc BK672 1; have hfz10_0 := zq6 BK672.out 0; have hfz10_1 := zq6 BK672.out 1) | ((with_reducible refine zq24 (f := 59) rfl ?_); refine gl (some 9) Try.func59 #[.slice A0_1 l0_1.length c0_1] ?_; (with_reducible refine (laws_toEntryS.calls k _ _ l0_1 t673 _ ?side1 ?side2 A2.out).mono ?_); (case side1 => exact zq31 HR0_1.out (by exact b3 HB GE670 GE671 GE672)); (case side2 => exact HC0_1.out); rintro e w11 ⟨v674, rfl, ho0, hb⟩; refine ⟨_, rfl, ?_⟩; have n0_ := zq9 (Kd.S_lower ho0 (zq29 (by exact b3 HB GE670 GE671 GE672))); have n1_ := zq9 (zq30 (g := gb670) (o := .cells #[.int .i64 a0_0, .slice A0_1 l0_1.length c0_1] 41 (0, 0)) (by refine bp ?_; refine blk_far ?_ NB670_672.out _; refine bp ?_; exact BK670.out) hb); have n2_ := zq9 (zq30 (g := gb671) (o := .cells #[.int .i64 0, .slice none 0 0] 46 (0, 0)) (by refine bp ?_; refine blk_far ?_ NB671_672.out _; refine bp ?_; exact BK671.out) hb); have n3_ := zq9 (zq30 (g := gb672) (o := .cells #[.int .i64 a0_0, .slice none 0 0] 46 (0, 0)) (by refine bp ?_; refine blk_put (cs := #[.int .i64 0, .slice none 0 0]) ?_ 0 _ rfl; refine bp ?_; exact BK672.out) hb); have n4_ := zq9 (zq27 (by exact b3 HB GE670 GE671 GE672) hb); clear BK670; clear BK671; clear BK672; clear HB; have HO675 := n0_; have BK670 := n1_; have BK671 := n2_; have BK672 := n3_; have HB := n4_; clear n0_ n1_ n2_ n3_ n4_; (try clear hb); (try clear hb2); (try clear hk); (try clear hi); (try clear ho0); obtain ⟨Ao12, co12, eo12⟩ := Kd.S_slice HO675.out; subst eo12; have hcz13_0 : w11.cell? ⟨gb672, 0, none⟩ = some (.int .i64 a0_0) := bc BK672 0; have hcz13_1 : w11.cell? ⟨gb672, 1, none⟩ = some (.slice none 0 0) := bc BK672 1; have hfz13_0 := zq6 BK672.out 0; have hfz13_1 := zq6 BK672.out 1; have hcz14_0 : w11.cell? ⟨gb671, 0, none⟩ = some (.int .i64 0) := bc BK671 0; have hcz14_1 : w11.cell? ⟨gb671, 1, none⟩ = some (.slice none 0 0) := bc BK671 1; have hfz14_0 := zq6 BK671.out 0; have hfz14_1 := zq6 BK671.out 1))
  refine bodyPost_ret (results_cell_row rfl _ _ gb671 46 #[.int .i64 a0_0, .slice Ao12 t673.length co12] (0, 0) _ rfl (by refine bp ?_; refine blk_put (cs := #[.int .i64 a0_0, .slice none 0 0]) ?_ 1 _ rfl; refine bp ?_; refine blk_put (cs := #[.int .i64 0, .slice none 0 0]) ?_ 0 _ rfl; refine bp ?_; refine blk_far ?_ NB671_672.out _; refine bp ?_; exact BK671.out) Try.underlying46 rfl (by kernel_rfl)) rfl ?_
  exact ⟨_, by first | rfl | (simp [errW_none, errW_some] <;> rfl) | (simp [*, errW_none, errW_some] <;> rfl), by (with_reducible repeat (first | apply Kd.S_alloc | apply Kd.S_drewN | apply Kd.S_drew)); exact Kd.S_mono (Kd.S_far (p := ⟨gb671, 1, none⟩) (Kd.S_far (p := ⟨gb671, 0, none⟩) (Kd.S_far (p := ⟨gb672, 1, none⟩) (Kd.S_types (Kd.S_types HO675.out BK672.out (by decide)) BK671.out (by decide)) (fun _ hk => hk.1.2) (.slice Ao12 t673.length co12)) (fun _ hk => hk.2) (.int .i64 a0_0)) (fun _ hk => hk.2) (.slice Ao12 t673.length co12)) (fun _ hk => trivial), by exact b3 HB GE670 GE671 GE672⟩
set_option maxHeartbeats 8000000 in
set_option maxRecDepth 100000 in
theorem laws_eqStringS.calls (k : Nat) (A0 : Option Addr) (c0 : Nat) (l0 : List ByteArray) (A1 : Option Addr) (c1 : Nat) (l1 : List ByteArray) (r : Bool) (w : World) (hr0 : Kd.C Kd.string w A0 l0.length l0) (hc0 : l0.length ≤ c0) (hr1 : Kd.C Kd.string w A1 l1.length l1) (hc1 : l1.length ≤ c1) (h : laws_eqStringS.f k l0 l1 = some r) :
  Calls Try.prog 23 #[.slice A0 l0.length c0, .slice A1 l1.length c1] w fun e w' => e = .returned (.bool r) ∧ Drawn0 w w' := by
 have HR0 := zq9 hr0; have HC0 := zq9 hc0; clear hr0 hc0; have HR1 := zq9 hr1; have HC1 := zq9 hc1; clear hr1 hc1
 have H : (if (l0.length : Int) = (l1.length : Int) then (laws_eqStringS.l0 k l0 l1 0) else (some false)) = some r := h
 clear h
 go_enter Try.func23, Try.ntmps23
 by_cases c3 : (l0.length : Int) = (l1.length : Int)
 ·rw [if_pos c3] at H
  have c3b0 : ((l0.length : Int) == (l1.length : Int)) = true := beq_iff_eq.mpr c3
  have c3b1 : ((l0.length : Int) != (l1.length : Int)) = false := bne_eq_false_iff_eq.mpr c3
  have c3b2 : (l0.length == l1.length) = true := by first | simpa using c3 | (simp at c3 ⊢; omega)
  clear c3; have H' := zq9 H; clear H
  go_wp2
  repeat (go_quiet (fail); try go_wp2)
  go_loopg [5] k (fun kq v5 w' => ∃ (x5_1 : Int), v5 = .int .i64 x5_1 ∧ Aside0 (laws_eqStringS.l0 kq l0 l1 x5_1 = some r) ∧ Aside0 (kq ≤ k) ∧ Drawn0 w w')
  case atStart => exact ⟨(0), (by first | rfl | (simp; done) | (simp [*]; done)), H', ⟨Nat.le_refl _⟩, by repeat (first | exact Drawn0.refl _ | apply Drawn0.step)⟩
  case round =>
   clear H'
   try clear c1
   try clear c2
   try clear p2
   try clear c3
   try clear c3b0
   try clear c3b1
   try clear c3b2
   obtain ⟨x5_1, rfl, HA, HK1, ⟨m1, rfl⟩⟩ := hrel
   cases gk with
   | zero => exact absurd HA.out (by simp [laws_eqStringS.l0])
   | succ k1 =>
    have H := HA.out; clear HA
    simp only [laws_eqStringS.l0] at H
    by_cases c4 : x5_1 < (l0.length : Int)
    ·rw [if_pos c4] at H; have c4b0 : decide (x5_1 < (l0.length : Int)) = true := decide_eq_true c4; clear c4
     by_cases c5 : 0 ≤ x5_1
     ·rw [if_pos c5] at H; have c5b0 : decide (0 ≤ x5_1) = true := decide_eq_true c5; clear c5
      by_cases c6 : x5_1 < (l1.length : Int)
      ·rw [if_pos c6] at H; have c6b0 : decide (x5_1 < (l1.length : Int)) = true := decide_eq_true c6; clear c6
       have p212 : 0 ≤ (x5_1 : Int) := of_decide_eq_true ‹_›
       have q212 : x5_1 < (l0.length : Int) := of_decide_eq_true ‹_›
       obtain ⟨ad212, e212, hx212_0⟩ := Kd.at_string HR0.out x5_1 p212 q212
       cases e212; replace p212 := eq_true p212; replace q212 := eq_true q212
       have p213 : 0 ≤ (x5_1 : Int) := of_decide_eq_true ‹_›
       have q213 : x5_1 < (l1.length : Int) := of_decide_eq_true ‹_›
       obtain ⟨ad213, e213, hx213_0⟩ := Kd.at_string HR1.out x5_1 p213 q213
       cases e213; replace p213 := eq_true p213; replace q213 := eq_true q213
       go_wp2
       by_cases c7 : (rdOf ByteArray.empty l0 x5_1).toList = (rdOf ByteArray.empty l1 x5_1).toList
       ·rw [if_pos c7] at H
        have c7b0 : ((rdOf ByteArray.empty l0 x5_1).toList == (rdOf ByteArray.empty l1 x5_1).toList) = true := beq_iff_eq.mpr c7
        have c7b1 : ((rdOf ByteArray.empty l0 x5_1).toList != (rdOf ByteArray.empty l1 x5_1).toList) = false := bne_eq_false_iff_eq.mpr c7
        clear c7; have H' := zq9 H; clear H
        repeat (go_quiet (fail); try go_wp2)
        go_roundg k1
        case measure => have := HK1.out; omega
        case rel => exact ⟨(wrap64 (x5_1 + 1)), (by first | rfl | (simp; done) | (simp [*]; done)), H', ⟨by have := HK1.out; omega⟩, by repeat (first | exact Drawn0.refl _ | apply Drawn0.step)⟩
       ·rw [if_neg c7] at H
        have c7b0 : ((rdOf ByteArray.empty l0 x5_1).toList == (rdOf ByteArray.empty l1 x5_1).toList) = false := beq_eq_false_iff_ne.mpr c7
        have c7b1 : ((rdOf ByteArray.empty l0 x5_1).toList != (rdOf ByteArray.empty l1 x5_1).toList) = true := bne_iff_ne.mpr c7
        obtain rfl := Option.some.inj H
        repeat (go_quiet (fail); try go_wp2)
        go_ret
        exact ⟨by first | rfl | (simp; done) | (simp [*]; done), by repeat (first | exact Drawn0.refl _ | apply Drawn0.step)⟩
      ·rw [if_neg c6] at H
       exact absurd H (by simp)
     ·rw [if_neg c5] at H
      exact absurd H (by simp)
    ·rw [if_neg c4] at H; have c4b0 : decide (x5_1 < (l0.length : Int)) = false := decide_eq_false c4; clear c4; obtain rfl := Option.some.inj H
     go_wp2
     repeat (go_quiet (fail); try go_wp2)
     go_ret
     exact ⟨by first | rfl | (simp; done) | (simp [*]; done), by repeat (first | exact Drawn0.refl _ | apply Drawn0.step)⟩
 ·rw [if_neg c3] at H
  have c3b0 : ((l0.length : Int) == (l1.length : Int)) = false := beq_eq_false_iff_ne.mpr c3
  have c3b1 : ((l0.length : Int) != (l1.length : Int)) = true := bne_iff_ne.mpr c3
  have c3b2 : (l0.length == l1.length) = false := by first | simpa using c3 | (simp at c3 ⊢; omega)
  obtain rfl := Option.some.inj H
  go_wp2
  repeat (go_quiet (fail); try go_wp2)
  go_ret
  exact ⟨by first | rfl | (simp; done) | (simp [*]; done), by repeat (first | exact Drawn0.refl _ | apply Drawn0.step)⟩
set_option maxHeartbeats 8000000 in
set_option maxRecDepth 100000 in
theorem laws_eqScore.calls (a0_0 : ByteArray) (a0_1 : Int) (a1_0 : ByteArray) (a1_1 : Int) (r : Bool) (w : World) (h : laws_eqScore.f a0_0 a0_1 a1_0 a1_1 = some r) :
    Calls Try.prog 88 #[.agg #[.string a0_0, .int .i64 a0_1], .agg #[.string a1_0, .int .i64 a1_1]] w fun e w' => e = .returned (.bool r) ∧ Below w.heap.size w w' := by
  have hu99 := Try.underlying99
  have HB := zq9 (Below.refl w.heap.size w)
  have H : (if a0_0.toList = a1_0.toList then (if a0_1 = a1_1 then (some true) else (some false)) else (some false)) = some r := h
  clear h
  go_enter Try.func88, Try.ntmps88
  refine (Classical.em (a0_0.toList = a1_0.toList)).elim (fun c3 => ?p0) (fun c3 => ?n0)
  case' p0 =>
    rw [if_pos c3] at H
    have c3b0 : (a0_0.toList == a1_0.toList) = true := beq_iff_eq.mpr c3
    have c3b1 : (a0_0.toList != a1_0.toList) = false := bne_eq_false_iff_eq.mpr c3
    clear c3
    refine (Classical.em (a0_1 = a1_1)).elim (fun c4 => ?p1) (fun c4 => ?n1)
    case' p1 =>
      rw [if_pos c4] at H
      have c4b0 : (a0_1 == a1_1) = true := beq_iff_eq.mpr c4
      have c4b1 : (a0_1 != a1_1) = false := bne_eq_false_iff_eq.mpr c4
      clear c4; obtain rfl := Option.some.inj H
    case' n1 =>
      rw [if_neg c4] at H
      have c4b0 : (a0_1 == a1_1) = false := beq_eq_false_iff_ne.mpr c4
      have c4b1 : (a0_1 != a1_1) = true := bne_iff_ne.mpr c4
      obtain rfl := Option.some.inj H
  case' n0 =>
    rw [if_neg c3] at H
    have c3b0 : (a0_0.toList == a1_0.toList) = false := beq_eq_false_iff_ne.mpr c3
    have c3b1 : (a0_0.toList != a1_0.toList) = true := bne_iff_ne.mpr c3
    obtain rfl := Option.some.inj H
  case p1 | n1 | n0 =>
    try go_wp2_with (first | ((with_reducible refine zq25 (N := 2) rfl ?_); refine bx 2 #[.string a0_0, .int .i64 a0_1] 99 ?_; intro gb214 hg w5 hbox hb; have n0_ := zq9 (zq27 (by exact bl HB) hb); have n1_ := zq9 (hbox); have n2_ := zq9 ((by rw [hg]; exact (zq29 (by exact bl HB)) : w.heap.size ≤ gb214)); have n3_ := n2_; clear HB; have HB := n0_; have BK214 := n1_; have GW214 := n2_; have GE214 := n3_; clear n0_ n1_ n2_ n3_; clear hb hbox hg) | ((with_reducible refine zq25 (N := 3) rfl ?_); refine bx 3 #[.string a1_0, .int .i64 a1_1] 99 ?_; intro gb215 hg w6 hbox hb; have n0_ := zq9 (zq30 (g := gb214) (o := .cells #[.string a0_0, .int .i64 a0_1] 99 (0, 0)) (by exact bk BK214) hb); have n1_ := zq9 (zq27 (by exact b1 HB GE214) hb); have n2_ := zq9 (hbox); have n3_ := zq9 ((by rw [hg]; exact (zq29 (by exact b1 HB GE214)) : w.heap.size ≤ gb215)); have n4_ := n3_; have n5_ := zq9 ((by rw [hg]; exact Nat.ne_of_lt (blk_lt (g := gb214) (o := .cells #[.string a0_0, .int .i64 a0_1] 99 (0, 0)) (by exact bk BK214)) : gb214 ≠ gb215)); have n6_ := zq9 ((by rw [hg]; exact Nat.ne_of_gt (blk_lt (g := gb214) (o := .cells #[.string a0_0, .int .i64 a0_1] 99 (0, 0)) (by exact bk BK214)) : gb215 ≠ gb214)); clear BK214; clear HB; have BK214 := n0_; have HB := n1_; have BK215 := n2_; have GW215 := n3_; have GE215 := n4_; have NB214_215 := n5_; have NB215_214 := n6_; clear n0_ n1_ n2_ n3_ n4_ n5_ n6_; clear hb hbox hg; have hnb7 := NB214_215.out; have hnc7 := NB215_214.out; have hcz8_0 : w6.cell? ⟨gb214, 0, none⟩ = some (.string a0_0) := bc BK214 0; have hcz8_1 : w6.cell? ⟨gb214, 1, none⟩ = some (.int .i64 a0_1) := bc BK214 1; have hfz8_0 := zq6 BK214.out 0; have hfz8_1 := zq6 BK214.out 1; have hcz9_0 : w6.cell? ⟨gb215, 0, none⟩ = some (.string a1_0) := bc BK215 0; have hcz9_1 : w6.cell? ⟨gb215, 1, none⟩ = some (.int .i64 a1_1) := bc BK215 1; have hfz9_0 := zq6 BK215.out 0; have hfz9_1 := zq6 BK215.out 1))
    go_ret
    exact fz (by exact b2 HB GE214 GE215)
def laws_eqScoreS.T6 : Bool × List (List Nat × List Nat) := (true, [([], []), ([], []), ([0, 1], [0, 1]), ([2], [2]), ([], []), ([], []), ([4, 5], [4, 5]), ([6], [6]), ([3, 7], [3, 7]), ([8], [8])])
def laws_eqScoreS.B6 : List Nat := [0, 0, 3, 7, 0, 0, 48, 112, 255, 511]
theorem laws_eqScoreS.tab6 : rtab .any (opsOf Try.f54 6) = laws_eqScoreS.T6 := by kernel_rfl
theorem laws_eqScoreS.bits6 : waitsOk laws_eqScoreS.T6.2 laws_eqScoreS.B6 = true := by kernel_rfl
set_option maxHeartbeats 8000000 in
set_option maxRecDepth 100000 in
theorem laws_eqScoreS.calls (k : Nat) (A0 : Option Addr) (c0 : Nat) (l0 : List (S99)) (A1 : Option Addr) (c1 : Nat) (l1 : List (S99)) (r : Bool) (w : World) (hr0 : Kd.C k99 w A0 l0.length l0) (hc0 : l0.length ≤ c0) (hr1 : Kd.C k99 w A1 l1.length l1) (hc1 : l1.length ≤ c1) (h : laws_eqScoreS.f k l0 l1 = some r) :
  Calls Try.prog 54 #[.slice A0 l0.length c0, .slice A1 l1.length c1] w fun e w' => e = .returned (.bool r) ∧ Below w.heap.size w w' := by
 have hu99 := Try.underlying99; have HR0 := zq9 hr0; have HC0 := zq9 hc0; clear hr0 hc0; have HR1 := zq9 hr1; have HC1 := zq9 hc1; clear hr1 hc1
 have HB := zq9 (Below.refl w.heap.size w)
 have H : (if (l0.length : Int) = (l1.length : Int) then (laws_eqScoreS.l0 k l0 l1 0) else (some false)) = some r := h
 clear h
 go_enter Try.func54, Try.ntmps54
 by_cases c3 : (l0.length : Int) = (l1.length : Int)
 ·rw [if_pos c3] at H
  have c3b0 : ((l0.length : Int) == (l1.length : Int)) = true := beq_iff_eq.mpr c3
  have c3b1 : ((l0.length : Int) != (l1.length : Int)) = false := bne_eq_false_iff_eq.mpr c3
  have c3b2 : (l0.length == l1.length) = true := by first | simpa using c3 | (simp at c3 ⊢; omega)
  clear c3; have H' := zq9 H; clear H
  go_wp2
  go_loopg [5] k (fun kq v5 w' => ∃ (x5_1 : Int), v5 = .int .i64 x5_1 ∧ Aside0 (laws_eqScoreS.l0 kq l0 l1 x5_1 = some r) ∧ Aside0 (kq ≤ k) ∧ Aside0 (Below w.heap.size w w'))
  case atStart => exact ⟨(0), (by first | rfl | (simp; done) | (simp [*]; done)), H', ⟨Nat.le_refl _⟩, ⟨by exact bl HB⟩⟩
  case round =>
   clear H'
   try clear c1
   try clear p2
   try clear c3
   try clear c3b0
   try clear c3b1
   try clear c3b2
   obtain ⟨x5_1, rfl, HA, HK1, HB⟩ := hrel
   cases gk with
   | zero => exact absurd HA.out (by simp [laws_eqScoreS.l0])
   | succ k1 =>
    have H := HA.out; clear HA
    simp only [laws_eqScoreS.l0] at H
    by_cases c4 : x5_1 < (l0.length : Int)
    ·rw [if_pos c4] at H; have c4b0 : decide (x5_1 < (l0.length : Int)) = true := decide_eq_true c4; clear c4
     by_cases c5 : 0 ≤ x5_1
     ·rw [if_pos c5] at H; have c5b0 : decide (0 ≤ x5_1) = true := decide_eq_true c5; clear c5
      by_cases c6 : x5_1 < (l1.length : Int)
      ·rw [if_pos c6] at H; have c6b0 : decide (x5_1 < (l1.length : Int)) = true := decide_eq_true c6; clear c6; replace H := Option.bind_eq_some_iff.mp H; obtain ⟨t218, A70, H⟩ := H
       try dsimp only at H
       have A7 := zq9 A70; clear A70
       try go_wp2
       have n0_ := zq9 (zq4 HB.out)
       clear HB; have HB := n0_; clear n0_
       have p216 : 0 ≤ (x5_1 : Int) := of_decide_eq_true ‹_›
       have q216 : x5_1 < (l0.length : Int) := of_decide_eq_true ‹_›
       obtain ⟨ad216, e216, hx216_0, hx216_1⟩ := at_T99 HR0.out x5_1 p216 q216
       have hw216_1 := hx216_1; have hw216_0 := hx216_0; cases e216; replace hx216_0 := hcl HB hx216_0; replace hx216_1 := hcl HB hx216_1; replace p216 := eq_true p216; replace q216 := eq_true q216
       have p217 : 0 ≤ (x5_1 : Int) := of_decide_eq_true ‹_›
       have q217 : x5_1 < (l1.length : Int) := of_decide_eq_true ‹_›
       obtain ⟨ad217, e217, hx217_0, hx217_1⟩ := at_T99 HR1.out x5_1 p217 q217
       have hw217_1 := hx217_1; have hw217_0 := hx217_0; cases e217; replace hx217_0 := hcl HB hx217_0; replace hx217_1 := hcl HB hx217_1; replace p217 := eq_true p217; replace q217 := eq_true q217
       refine start_ (n := 10) (S := fun w' => w'.cell? (ad216.add ((x5_1).toNat * 2)) = some (.string ((rd_T99 l0 x5_1).f0)) ∧ w'.cell? ⟨(ad216.add ((x5_1).toNat * 2)).block, (ad216.add ((x5_1).toNat * 2)).off + 1, none⟩ = some (.int .i64 ((rd_T99 l0 x5_1).f1)) ∧ w'.cell? (ad217.add ((x5_1).toNat * 2)) = some (.string ((rd_T99 l1 x5_1).f0)) ∧ w'.cell? ⟨(ad217.add ((x5_1).toNat * 2)).block, (ad217.add ((x5_1).toNat * 2)).off + 1, none⟩ = some (.int .i64 ((rd_T99 l1 x5_1).f1))) (ds := []) #[false, false, false, false, false, false, false, false, false, false] (by kernel_rfl) rfl rfl ⟨(hcm HB hw216_0), (hcm HB hw216_1), (hcm HB hw217_0), (hcm HB hw217_1)⟩ (fun hHeld => ?_); refine with_tabW laws_eqScoreS.tab6 laws_eqScoreS.bits6 (fun HT_ HW_ => ?_)
       generalize wr.drew = w9 at HB hx216_0 hx216_1 hx217_0 hx217_1 hHeld ⊢
       refine pa HT_ 0 17 (zb 10 1) ?_; refine pa HT_ 1 18 (zb 10 3) ?_; refine pa HT_ 2 19 (zb 10 7) ?_; refine pa HT_ 4 21 (zb 10 23) ?_; refine pa HT_ 5 22 (zb 10 55) ?_; refine pa HT_ 6 23 (zb 10 119) ?_
       refine take_ (i := 3) (N := some 20) (v := ?_) (a' := ?_) (zb 10 127) rfl rfl (take_ofW HT_.out HW_.out (by kernel_rfl)) (fun _ _ _ h => h) (Or.inl ⟨by rfl, ?_⟩) hHeld ?_ ?_
       rotate_left; ·rintro w' ⟨s0, s1, s2, s3⟩; go_simp; with_reducible rfl
       rotate_left; ·simp only [Act.put, zq0, zq1, zq2, i64_w, i32_w]; rfl
       refine take_ (i := 7) (N := some 24) (v := ?_) (a' := ?_) (zb 10 255) rfl rfl (take_ofW HT_.out HW_.out (by kernel_rfl)) (fun _ _ _ h => h) (Or.inl ⟨by rfl, ?_⟩) hHeld ?_ ?_
       rotate_left; ·rintro w' ⟨s0, s1, s2, s3⟩; go_simp; with_reducible rfl
       rotate_left; ·simp only [Act.put, zq0, zq1, zq2, i64_w, i32_w]; rfl
       refine one_ (i := 8) (N := some 25) (zb 10 511) rfl rfl (one_of HT_.out (by kernel_rfl)) (by decide) (fun K hK => ?_)
       refine gs Try.func88 #[.agg #[.string ((rd_T99 l0 x5_1).f0), .int .i64 ((rd_T99 l0 x5_1).f1)], .agg #[.string ((rd_T99 l1 x5_1).f0), .int .i64 ((rd_T99 l1 x5_1).f1)]] ?_
       with_reducible refine (laws_eqScore.calls ((rd_T99 l0 x5_1).f0) ((rd_T99 l0 x5_1).f1) ((rd_T99 l1 x5_1).f0) ((rd_T99 l1 x5_1).f1) t218 _ A7.out).mono ?_
       rintro e w10 ⟨rfl, hb⟩
       refine ⟨_, rfl, ?_⟩
       have n0_ := zq9 (zq27 (by exact bl HB) hb)
       clear HB; have HB := n0_; clear n0_
       (try clear hb)
       (try clear hb2)
       (try clear hk)
       (try clear hi)
       refine hK.out _ _ ⟨(hcm HB hw216_0), (hcm HB hw216_1), (hcm HB hw217_0), (hcm HB hw217_1)⟩ (fun hHeld => ?_)
       clear hK K
       refine norm_ (a' := ?_) ?_ ?_
       rotate_left; ·show Act.put _ (some 25) _ = _; simp only [Act.put, zq0, zq1, zq2, i64_w, i32_w]; rfl
       refine pa HT_ 9 26 (zb 10 1023) ?_
       refine done_ (done_of HT_.out (by kernel_rfl)) ?_
       by_cases c8 : t218 = true
       ·subst c8
        have H1 : (laws_eqScoreS.l0 k1 l0 l1 (wrap64 (x5_1 + 1))) = some r := by rw [if_pos rfl] at H; exact H
        clear H; have H := H1; clear H1; have H' := zq9 H; clear H
        try go_wp2
        go_roundg k1
        case measure => have := HK1.out; omega
        case rel => exact ⟨(wrap64 (x5_1 + 1)), (by first | rfl | (simp; done) | (simp [*]; done)), H', ⟨by have := HK1.out; omega⟩, ⟨by exact bl HB⟩⟩
       ·replace c8 := Bool.eq_false_iff.mpr c8
        subst c8
        have H1 : (some false) = some r := by rw [if_neg (show ¬ (false = true) by decide)] at H; exact H
        clear H; have H := H1; clear H1; obtain rfl := Option.some.inj H
        try go_wp2
        go_ret
        exact fz (by exact bl HB)
      ·rw [if_neg c6] at H
       exact absurd H (by simp)
     ·rw [if_neg c5] at H
      exact absurd H (by simp)
    ·rw [if_neg c4] at H; have c4b0 : decide (x5_1 < (l0.length : Int)) = false := decide_eq_false c4; clear c4; obtain rfl := Option.some.inj H
     go_wp2
     go_ret
     exact fz (by exact bl HB)
 ·rw [if_neg c3] at H
  have c3b0 : ((l0.length : Int) == (l1.length : Int)) = false := beq_eq_false_iff_ne.mpr c3
  have c3b1 : ((l0.length : Int) != (l1.length : Int)) = true := bne_iff_ne.mpr c3
  have c3b2 : (l0.length == l1.length) = false := by first | simpa using c3 | (simp at c3 ⊢; omega)
  obtain rfl := Option.some.inj H
  go_wp2
  go_ret
  exact fz (by exact bl HB)
set_option maxHeartbeats 8000000 in
set_option maxRecDepth 100000 in
theorem laws_eqPair.calls (a0_0 : ByteArray) (a0_1 : ByteArray) (a1_0 : ByteArray) (a1_1 : ByteArray) (r : Bool) (w : World) (h : laws_eqPair.f a0_0 a0_1 a1_0 a1_1 = some r) :
    Calls Try.prog 89 #[.agg #[.string a0_0, .string a0_1], .agg #[.string a1_0, .string a1_1]] w fun e w' => e = .returned (.bool r) ∧ Below w.heap.size w w' := by
  have hu101 := Try.underlying101
  have HB := zq9 (Below.refl w.heap.size w)
  have H : (if a0_0.toList = a1_0.toList then (if a0_1.toList = a1_1.toList then (some true) else (some false)) else (some false)) = some r := h
  clear h
  go_enter Try.func89, Try.ntmps89
  refine (Classical.em (a0_0.toList = a1_0.toList)).elim (fun c3 => ?p0) (fun c3 => ?n0)
  case' p0 =>
    rw [if_pos c3] at H
    have c3b0 : (a0_0.toList == a1_0.toList) = true := beq_iff_eq.mpr c3
    have c3b1 : (a0_0.toList != a1_0.toList) = false := bne_eq_false_iff_eq.mpr c3
    clear c3
    refine (Classical.em (a0_1.toList = a1_1.toList)).elim (fun c4 => ?p1) (fun c4 => ?n1)
    case' p1 =>
      rw [if_pos c4] at H
      have c4b0 : (a0_1.toList == a1_1.toList) = true := beq_iff_eq.mpr c4
      have c4b1 : (a0_1.toList != a1_1.toList) = false := bne_eq_false_iff_eq.mpr c4
      clear c4; obtain rfl := Option.some.inj H
    case' n1 =>
      rw [if_neg c4] at H
      have c4b0 : (a0_1.toList == a1_1.toList) = false := beq_eq_false_iff_ne.mpr c4
      have c4b1 : (a0_1.toList != a1_1.toList) = true := bne_iff_ne.mpr c4
      obtain rfl := Option.some.inj H
  case' n0 =>
    rw [if_neg c3] at H
    have c3b0 : (a0_0.toList == a1_0.toList) = false := beq_eq_false_iff_ne.mpr c3
    have c3b1 : (a0_0.toList != a1_0.toList) = true := bne_iff_ne.mpr c3
    obtain rfl := Option.some.inj H
  case p1 | n1 | n0 =>
    try go_wp2_with (first | ((with_reducible refine zq25 (N := 2) rfl ?_); refine bx 2 #[.string a0_0, .string a0_1] 101 ?_; intro gb219 hg w5 hbox hb; have n0_ := zq9 (zq27 (by exact bl HB) hb); have n1_ := zq9 (hbox); have n2_ := zq9 ((by rw [hg]; exact (zq29 (by exact bl HB)) : w.heap.size ≤ gb219)); have n3_ := n2_; clear HB; have HB := n0_; have BK219 := n1_; have GW219 := n2_; have GE219 := n3_; clear n0_ n1_ n2_ n3_; clear hb hbox hg) | ((with_reducible refine zq25 (N := 3) rfl ?_); refine bx 3 #[.string a1_0, .string a1_1] 101 ?_; intro gb220 hg w6 hbox hb; have n0_ := zq9 (zq30 (g := gb219) (o := .cells #[.string a0_0, .string a0_1] 101 (0, 0)) (by exact bk BK219) hb); have n1_ := zq9 (zq27 (by exact b1 HB GE219) hb); have n2_ := zq9 (hbox); have n3_ := zq9 ((by rw [hg]; exact (zq29 (by exact b1 HB GE219)) : w.heap.size ≤ gb220)); have n4_ := n3_; have n5_ := zq9 ((by rw [hg]; exact Nat.ne_of_lt (blk_lt (g := gb219) (o := .cells #[.string a0_0, .string a0_1] 101 (0, 0)) (by exact bk BK219)) : gb219 ≠ gb220)); have n6_ := zq9 ((by rw [hg]; exact Nat.ne_of_gt (blk_lt (g := gb219) (o := .cells #[.string a0_0, .string a0_1] 101 (0, 0)) (by exact bk BK219)) : gb220 ≠ gb219)); clear BK219; clear HB; have BK219 := n0_; have HB := n1_; have BK220 := n2_; have GW220 := n3_; have GE220 := n4_; have NB219_220 := n5_; have NB220_219 := n6_; clear n0_ n1_ n2_ n3_ n4_ n5_ n6_; clear hb hbox hg; have hnb7 := NB219_220.out; have hnc7 := NB220_219.out; have hcz8_0 : w6.cell? ⟨gb219, 0, none⟩ = some (.string a0_0) := bc BK219 0; have hcz8_1 : w6.cell? ⟨gb219, 1, none⟩ = some (.string a0_1) := bc BK219 1; have hfz8_0 := zq6 BK219.out 0; have hfz8_1 := zq6 BK219.out 1; have hcz9_0 : w6.cell? ⟨gb220, 0, none⟩ = some (.string a1_0) := bc BK220 0; have hcz9_1 : w6.cell? ⟨gb220, 1, none⟩ = some (.string a1_1) := bc BK220 1; have hfz9_0 := zq6 BK220.out 0; have hfz9_1 := zq6 BK220.out 1))
    go_ret
    exact fz (by exact b2 HB GE219 GE220)
def laws_eqPairS.T6 : Bool × List (List Nat × List Nat) := (true, [([], []), ([], []), ([0, 1], [0, 1]), ([2], [2]), ([], []), ([], []), ([4, 5], [4, 5]), ([6], [6]), ([3, 7], [3, 7]), ([8], [8])])
def laws_eqPairS.B6 : List Nat := [0, 0, 3, 7, 0, 0, 48, 112, 255, 511]
theorem laws_eqPairS.tab6 : rtab .any (opsOf Try.f55 6) = laws_eqPairS.T6 := by kernel_rfl
theorem laws_eqPairS.bits6 : waitsOk laws_eqPairS.T6.2 laws_eqPairS.B6 = true := by kernel_rfl
set_option maxHeartbeats 8000000 in
set_option maxRecDepth 100000 in
theorem laws_eqPairS.calls (k : Nat) (A0 : Option Addr) (c0 : Nat) (l0 : List (S101)) (A1 : Option Addr) (c1 : Nat) (l1 : List (S101)) (r : Bool) (w : World) (hr0 : Kd.C k101 w A0 l0.length l0) (hc0 : l0.length ≤ c0) (hr1 : Kd.C k101 w A1 l1.length l1) (hc1 : l1.length ≤ c1) (h : laws_eqPairS.f k l0 l1 = some r) :
  Calls Try.prog 55 #[.slice A0 l0.length c0, .slice A1 l1.length c1] w fun e w' => e = .returned (.bool r) ∧ Below w.heap.size w w' := by
 have hu101 := Try.underlying101; have HR0 := zq9 hr0; have HC0 := zq9 hc0; clear hr0 hc0; have HR1 := zq9 hr1; have HC1 := zq9 hc1; clear hr1 hc1
 have HB := zq9 (Below.refl w.heap.size w)
 have H : (if (l0.length : Int) = (l1.length : Int) then (laws_eqPairS.l0 k l0 l1 0) else (some false)) = some r := h
 clear h
 go_enter Try.func55, Try.ntmps55
 by_cases c3 : (l0.length : Int) = (l1.length : Int)
 ·rw [if_pos c3] at H
  have c3b0 : ((l0.length : Int) == (l1.length : Int)) = true := beq_iff_eq.mpr c3
  have c3b1 : ((l0.length : Int) != (l1.length : Int)) = false := bne_eq_false_iff_eq.mpr c3
  have c3b2 : (l0.length == l1.length) = true := by first | simpa using c3 | (simp at c3 ⊢; omega)
  clear c3; have H' := zq9 H; clear H
  go_wp2
  go_loopg [5] k (fun kq v5 w' => ∃ (x5_1 : Int), v5 = .int .i64 x5_1 ∧ Aside0 (laws_eqPairS.l0 kq l0 l1 x5_1 = some r) ∧ Aside0 (kq ≤ k) ∧ Aside0 (Below w.heap.size w w'))
  case atStart => exact ⟨(0), (by first | rfl | (simp; done) | (simp [*]; done)), H', ⟨Nat.le_refl _⟩, ⟨by exact bl HB⟩⟩
  case round =>
   clear H'
   try clear c1
   try clear p2
   try clear c3
   try clear c3b0
   try clear c3b1
   try clear c3b2
   obtain ⟨x5_1, rfl, HA, HK1, HB⟩ := hrel
   cases gk with
   | zero => exact absurd HA.out (by simp [laws_eqPairS.l0])
   | succ k1 =>
    have H := HA.out; clear HA
    simp only [laws_eqPairS.l0] at H
    by_cases c4 : x5_1 < (l0.length : Int)
    ·rw [if_pos c4] at H; have c4b0 : decide (x5_1 < (l0.length : Int)) = true := decide_eq_true c4; clear c4
     by_cases c5 : 0 ≤ x5_1
     ·rw [if_pos c5] at H; have c5b0 : decide (0 ≤ x5_1) = true := decide_eq_true c5; clear c5
      by_cases c6 : x5_1 < (l1.length : Int)
      ·rw [if_pos c6] at H; have c6b0 : decide (x5_1 < (l1.length : Int)) = true := decide_eq_true c6; clear c6; replace H := Option.bind_eq_some_iff.mp H; obtain ⟨t223, A70, H⟩ := H
       try dsimp only at H
       have A7 := zq9 A70; clear A70
       try go_wp2
       have n0_ := zq9 (zq4 HB.out)
       clear HB; have HB := n0_; clear n0_
       have p221 : 0 ≤ (x5_1 : Int) := of_decide_eq_true ‹_›
       have q221 : x5_1 < (l0.length : Int) := of_decide_eq_true ‹_›
       obtain ⟨ad221, e221, hx221_0, hx221_1⟩ := at_T101 HR0.out x5_1 p221 q221
       have hw221_1 := hx221_1; have hw221_0 := hx221_0; cases e221; replace hx221_0 := hcl HB hx221_0; replace hx221_1 := hcl HB hx221_1; replace p221 := eq_true p221; replace q221 := eq_true q221
       have p222 : 0 ≤ (x5_1 : Int) := of_decide_eq_true ‹_›
       have q222 : x5_1 < (l1.length : Int) := of_decide_eq_true ‹_›
       obtain ⟨ad222, e222, hx222_0, hx222_1⟩ := at_T101 HR1.out x5_1 p222 q222
       have hw222_1 := hx222_1; have hw222_0 := hx222_0; cases e222; replace hx222_0 := hcl HB hx222_0; replace hx222_1 := hcl HB hx222_1; replace p222 := eq_true p222; replace q222 := eq_true q222
       refine start_ (n := 10) (S := fun w' => w'.cell? (ad221.add ((x5_1).toNat * 2)) = some (.string ((rd_T101 l0 x5_1).f0)) ∧ w'.cell? ⟨(ad221.add ((x5_1).toNat * 2)).block, (ad221.add ((x5_1).toNat * 2)).off + 1, none⟩ = some (.string ((rd_T101 l0 x5_1).f1)) ∧ w'.cell? (ad222.add ((x5_1).toNat * 2)) = some (.string ((rd_T101 l1 x5_1).f0)) ∧ w'.cell? ⟨(ad222.add ((x5_1).toNat * 2)).block, (ad222.add ((x5_1).toNat * 2)).off + 1, none⟩ = some (.string ((rd_T101 l1 x5_1).f1))) (ds := []) #[false, false, false, false, false, false, false, false, false, false] (by kernel_rfl) rfl rfl ⟨(hcm HB hw221_0), (hcm HB hw221_1), (hcm HB hw222_0), (hcm HB hw222_1)⟩ (fun hHeld => ?_); refine with_tabW laws_eqPairS.tab6 laws_eqPairS.bits6 (fun HT_ HW_ => ?_)
       generalize wr.drew = w9 at HB hx221_0 hx221_1 hx222_0 hx222_1 hHeld ⊢
       refine pa HT_ 0 17 (zb 10 1) ?_; refine pa HT_ 1 18 (zb 10 3) ?_; refine pa HT_ 2 19 (zb 10 7) ?_; refine pa HT_ 4 21 (zb 10 23) ?_; refine pa HT_ 5 22 (zb 10 55) ?_; refine pa HT_ 6 23 (zb 10 119) ?_
       refine take_ (i := 3) (N := some 20) (v := ?_) (a' := ?_) (zb 10 127) rfl rfl (take_ofW HT_.out HW_.out (by kernel_rfl)) (fun _ _ _ h => h) (Or.inl ⟨by rfl, ?_⟩) hHeld ?_ ?_
       rotate_left; ·rintro w' ⟨s0, s1, s2, s3⟩; go_simp; with_reducible rfl
       rotate_left; ·simp only [Act.put, zq0, zq1, zq2, i64_w, i32_w]; rfl
       refine take_ (i := 7) (N := some 24) (v := ?_) (a' := ?_) (zb 10 255) rfl rfl (take_ofW HT_.out HW_.out (by kernel_rfl)) (fun _ _ _ h => h) (Or.inl ⟨by rfl, ?_⟩) hHeld ?_ ?_
       rotate_left; ·rintro w' ⟨s0, s1, s2, s3⟩; go_simp; with_reducible rfl
       rotate_left; ·simp only [Act.put, zq0, zq1, zq2, i64_w, i32_w]; rfl
       refine one_ (i := 8) (N := some 25) (zb 10 511) rfl rfl (one_of HT_.out (by kernel_rfl)) (by decide) (fun K hK => ?_)
       refine gs Try.func89 #[.agg #[.string ((rd_T101 l0 x5_1).f0), .string ((rd_T101 l0 x5_1).f1)], .agg #[.string ((rd_T101 l1 x5_1).f0), .string ((rd_T101 l1 x5_1).f1)]] ?_
       with_reducible refine (laws_eqPair.calls ((rd_T101 l0 x5_1).f0) ((rd_T101 l0 x5_1).f1) ((rd_T101 l1 x5_1).f0) ((rd_T101 l1 x5_1).f1) t223 _ A7.out).mono ?_
       rintro e w10 ⟨rfl, hb⟩
       refine ⟨_, rfl, ?_⟩
       have n0_ := zq9 (zq27 (by exact bl HB) hb)
       clear HB; have HB := n0_; clear n0_
       (try clear hb)
       (try clear hb2)
       (try clear hk)
       (try clear hi)
       refine hK.out _ _ ⟨(hcm HB hw221_0), (hcm HB hw221_1), (hcm HB hw222_0), (hcm HB hw222_1)⟩ (fun hHeld => ?_)
       clear hK K
       refine norm_ (a' := ?_) ?_ ?_
       rotate_left; ·show Act.put _ (some 25) _ = _; simp only [Act.put, zq0, zq1, zq2, i64_w, i32_w]; rfl
       refine pa HT_ 9 26 (zb 10 1023) ?_
       refine done_ (done_of HT_.out (by kernel_rfl)) ?_
       by_cases c8 : t223 = true
       ·subst c8
        have H1 : (laws_eqPairS.l0 k1 l0 l1 (wrap64 (x5_1 + 1))) = some r := by rw [if_pos rfl] at H; exact H
        clear H; have H := H1; clear H1; have H' := zq9 H; clear H
        try go_wp2
        go_roundg k1
        case measure => have := HK1.out; omega
        case rel => exact ⟨(wrap64 (x5_1 + 1)), (by first | rfl | (simp; done) | (simp [*]; done)), H', ⟨by have := HK1.out; omega⟩, ⟨by exact bl HB⟩⟩
       ·replace c8 := Bool.eq_false_iff.mpr c8
        subst c8
        have H1 : (some false) = some r := by rw [if_neg (show ¬ (false = true) by decide)] at H; exact H
        clear H; have H := H1; clear H1; obtain rfl := Option.some.inj H
        try go_wp2
        go_ret
        exact fz (by exact bl HB)
      ·rw [if_neg c6] at H
       exact absurd H (by simp)
     ·rw [if_neg c5] at H
      exact absurd H (by simp)
    ·rw [if_neg c4] at H; have c4b0 : decide (x5_1 < (l0.length : Int)) = false := decide_eq_false c4; clear c4; obtain rfl := Option.some.inj H
     go_wp2
     go_ret
     exact fz (by exact bl HB)
 ·rw [if_neg c3] at H
  have c3b0 : ((l0.length : Int) == (l1.length : Int)) = false := beq_eq_false_iff_ne.mpr c3
  have c3b1 : ((l0.length : Int) != (l1.length : Int)) = true := bne_iff_ne.mpr c3
  have c3b2 : (l0.length == l1.length) = false := by first | simpa using c3 | (simp at c3 ⊢; omega)
  obtain rfl := Option.some.inj H
  go_wp2
  go_ret
  exact fz (by exact bl HB)
set_option maxHeartbeats 8000000 in
set_option maxRecDepth 100000 in
theorem laws_eqEntry.calls (k : Nat) (a0_0 : ByteArray) (a0_1 : Int) (a0_2 : Int) (a0_3 : ByteArray) (A0_4 : Option Addr) (c0_4 : Nat) (l0_4 : List ByteArray) (A0_5 : Option Addr) (c0_5 : Nat) (l0_5 : List (S99)) (A0_6 : Option Addr) (c0_6 : Nat) (l0_6 : List (S101)) (a1_0 : ByteArray) (a1_1 : Int) (a1_2 : Int) (a1_3 : ByteArray) (A1_4 : Option Addr) (c1_4 : Nat) (l1_4 : List ByteArray) (A1_5 : Option Addr) (c1_5 : Nat) (l1_5 : List (S99)) (A1_6 : Option Addr) (c1_6 : Nat) (l1_6 : List (S101)) (r : Bool) (w : World) (hr0_4 : Kd.C Kd.string w A0_4 l0_4.length l0_4) (hc0_4 : l0_4.length ≤ c0_4) (hr0_5 : Kd.C k99 w A0_5 l0_5.length l0_5) (hc0_5 : l0_5.length ≤ c0_5) (hr0_6 : Kd.C k101 w A0_6 l0_6.length l0_6) (hc0_6 : l0_6.length ≤ c0_6) (hr1_4 : Kd.C Kd.string w A1_4 l1_4.length l1_4) (hc1_4 : l1_4.length ≤ c1_4) (hr1_5 : Kd.C k99 w A1_5 l1_5.length l1_5) (hc1_5 : l1_5.length ≤ c1_5) (hr1_6 : Kd.C k101 w A1_6 l1_6.length l1_6) (hc1_6 : l1_6.length ≤ c1_6) (h : laws_eqEntry.f k a0_0 a0_1 a0_2 a0_3 l0_4 l0_5 l0_6 a1_0 a1_1 a1_2 a1_3 l1_4 l1_5 l1_6 = some r) :
  Calls Try.prog 14 #[.agg #[.string a0_0, .int .i64 a0_1, .int .i64 a0_2, .string a0_3, .slice A0_4 l0_4.length c0_4, .slice A0_5 l0_5.length c0_5, .slice A0_6 l0_6.length c0_6], .agg #[.string a1_0, .int .i64 a1_1, .int .i64 a1_2, .string a1_3, .slice A1_4 l1_4.length c1_4, .slice A1_5 l1_5.length c1_5, .slice A1_6 l1_6.length c1_6]] w fun e w' => e = .returned (.bool r) ∧ Below w.heap.size w w' := by
 have hu32 := Try.underlying32; have HR0_4 := zq9 hr0_4; have HC0_4 := zq9 hc0_4; clear hr0_4 hc0_4; have HR0_5 := zq9 hr0_5; have HC0_5 := zq9 hc0_5; clear hr0_5 hc0_5; have HR0_6 := zq9 hr0_6; have HC0_6 := zq9 hc0_6; clear hr0_6 hc0_6; have HR1_4 := zq9 hr1_4; have HC1_4 := zq9 hc1_4; clear hr1_4 hc1_4; have HR1_5 := zq9 hr1_5; have HC1_5 := zq9 hc1_5; clear hr1_5 hc1_5; have HR1_6 := zq9 hr1_6
 have HC1_6 := zq9 hc1_6; clear hr1_6 hc1_6
 have HB := zq9 (Below.refl w.heap.size w)
 have H : (if a0_0.toList = a1_0.toList then (if a0_1 = a1_1 then (if a0_2 = a1_2 then (if a0_3.toList = a1_3.toList then ((laws_eqStringS.f k l0_4 l1_4).bind fun t226 => (if t226 = true then ((laws_eqScoreS.f k l0_5 l1_5).bind fun t227 => (if t227 = true then ((laws_eqPairS.f k l0_6 l1_6).bind fun t228 => (if t228 = true then (some true) else (some false))) else (some false))) else (some false))) else (some false)) else (some false)) else (some false)) else (some false)) = some r := h
 clear h
 go_enter Try.func14, Try.ntmps14
 refine (Classical.em (a0_0.toList = a1_0.toList)).elim (fun c3 => ?p0) (fun c3 => ?n0)
 case' p0 =>
  rw [if_pos c3] at H
  have c3b0 : (a0_0.toList == a1_0.toList) = true := beq_iff_eq.mpr c3
  have c3b1 : (a0_0.toList != a1_0.toList) = false := bne_eq_false_iff_eq.mpr c3
  clear c3
  refine (Classical.em (a0_1 = a1_1)).elim (fun c4 => ?p1) (fun c4 => ?n1)
  case' p1 =>
   rw [if_pos c4] at H
   have c4b0 : (a0_1 == a1_1) = true := beq_iff_eq.mpr c4
   have c4b1 : (a0_1 != a1_1) = false := bne_eq_false_iff_eq.mpr c4
   clear c4
   refine (Classical.em (a0_2 = a1_2)).elim (fun c5 => ?p2) (fun c5 => ?n2)
   case' p2 =>
    rw [if_pos c5] at H
    have c5b0 : (a0_2 == a1_2) = true := beq_iff_eq.mpr c5
    have c5b1 : (a0_2 != a1_2) = false := bne_eq_false_iff_eq.mpr c5
    clear c5
    refine (Classical.em (a0_3.toList = a1_3.toList)).elim (fun c6 => ?p3) (fun c6 => ?n3)
    case' p3 =>
     rw [if_pos c6] at H
     have c6b0 : (a0_3.toList == a1_3.toList) = true := beq_iff_eq.mpr c6
     have c6b1 : (a0_3.toList != a1_3.toList) = false := bne_eq_false_iff_eq.mpr c6
     clear c6; replace H := Option.bind_eq_some_iff.mp H; obtain ⟨t226, A70, H⟩ := H
     try dsimp only at H
     have A7 := zq9 A70; clear A70
     refine (Classical.em (t226 = true)).elim (fun c8 => ?p4) (fun c8 => ?n4)
     case' p4 =>
      subst c8
      have H1 : ((laws_eqScoreS.f k l0_5 l1_5).bind fun t227 => (if t227 = true then ((laws_eqPairS.f k l0_6 l1_6).bind fun t228 => (if t228 = true then (some true) else (some false))) else (some false))) = some r := by rw [if_pos rfl] at H; exact H
      clear H; have H := H1; clear H1; replace H := Option.bind_eq_some_iff.mp H; obtain ⟨t227, A90, H⟩ := H
      try dsimp only at H
      have A9 := zq9 A90; clear A90
      refine (Classical.em (t227 = true)).elim (fun c10 => ?p5) (fun c10 => ?n5)
      case' p5 =>
       subst c10
       have H1 : ((laws_eqPairS.f k l0_6 l1_6).bind fun t228 => (if t228 = true then (some true) else (some false))) = some r := by rw [if_pos rfl] at H; exact H
       clear H; have H := H1; clear H1; replace H := Option.bind_eq_some_iff.mp H; obtain ⟨t228, A110, H⟩ := H
       try dsimp only at H
       have A11 := zq9 A110; clear A110
       refine (Classical.em (t228 = true)).elim (fun c12 => ?p6) (fun c12 => ?n6)
       case' p6 =>
        subst c12
        have H1 : (some true) = some r := by rw [if_pos rfl] at H; exact H
        clear H; have H := H1; clear H1; obtain rfl := Option.some.inj H
       case' n6 =>
        replace c12 := Bool.eq_false_iff.mpr c12
        subst c12
        have H1 : (some false) = some r := by rw [if_neg (show ¬ (false = true) by decide)] at H; exact H
        clear H; have H := H1; clear H1; obtain rfl := Option.some.inj H
      case' n5 =>
       replace c10 := Bool.eq_false_iff.mpr c10
       subst c10
       have H1 : (some false) = some r := by rw [if_neg (show ¬ (false = true) by decide)] at H; exact H
       clear H; have H := H1; clear H1; obtain rfl := Option.some.inj H
     case' n4 =>
      replace c8 := Bool.eq_false_iff.mpr c8
      subst c8
      have H1 : (some false) = some r := by rw [if_neg (show ¬ (false = true) by decide)] at H; exact H
      clear H; have H := H1; clear H1; obtain rfl := Option.some.inj H
    case' n3 =>
     rw [if_neg c6] at H
     have c6b0 : (a0_3.toList == a1_3.toList) = false := beq_eq_false_iff_ne.mpr c6
     have c6b1 : (a0_3.toList != a1_3.toList) = true := bne_iff_ne.mpr c6
     obtain rfl := Option.some.inj H
   case' n2 =>
    rw [if_neg c5] at H
    have c5b0 : (a0_2 == a1_2) = false := beq_eq_false_iff_ne.mpr c5
    have c5b1 : (a0_2 != a1_2) = true := bne_iff_ne.mpr c5
    obtain rfl := Option.some.inj H
  case' n1 =>
   rw [if_neg c4] at H
   have c4b0 : (a0_1 == a1_1) = false := beq_eq_false_iff_ne.mpr c4
   have c4b1 : (a0_1 != a1_1) = true := bne_iff_ne.mpr c4
   obtain rfl := Option.some.inj H
 case' n0 =>
  rw [if_neg c3] at H
  have c3b0 : (a0_0.toList == a1_0.toList) = false := beq_eq_false_iff_ne.mpr c3
  have c3b1 : (a0_0.toList != a1_0.toList) = true := bne_iff_ne.mpr c3
  obtain rfl := Option.some.inj H
 case p6 | n6 | n5 | n4 | n3 | n2 | n1 | n0 =>
  try go_wp2_with (first | ((with_reducible refine zq25 (N := 2) rfl ?_); refine bx 2 #[.string a0_0, .int .i64 a0_1, .int .i64 a0_2, .string a0_3, .slice A0_4 l0_4.length c0_4, .slice A0_5 l0_5.length c0_5, .slice A0_6 l0_6.length c0_6] 32 ?_; intro gb224 hg w13 hbox hb; have n0_ := zq9 (zq27 (by exact bl HB) hb); have n1_ := zq9 (hbox); have n2_ := zq9 ((by rw [hg]; exact (zq29 (by exact bl HB)) : w.heap.size ≤ gb224)); have n3_ := n2_; clear HB; have HB := n0_; have BK224 := n1_; have GW224 := n2_; have GE224 := n3_; clear n0_ n1_ n2_ n3_; clear hb hbox hg) | ((with_reducible refine zq25 (N := 3) rfl ?_); refine bx 3 #[.string a1_0, .int .i64 a1_1, .int .i64 a1_2, .string a1_3, .slice A1_4 l1_4.length c1_4, .slice A1_5 l1_5.length c1_5, .slice A1_6 l1_6.length c1_6] 32 ?_; intro gb225 hg w14 hbox hb; have n0_ := zq9 (zq30 (g := gb224) (o := .cells #[.string a0_0, .int .i64 a0_1, .int .i64 a0_2, .string a0_3, .slice A0_4 l0_4.length c0_4, .slice A0_5 l0_5.length c0_5, .slice A0_6 l0_6.length c0_6] 32 (0, 0)) (by exact bk BK224) hb); have n1_ := zq9 (zq27 (by exact b1 HB GE224) hb); have n2_ := zq9 (hbox); have n3_ := zq9 ((by rw [hg]; exact (zq29 (by exact b1 HB GE224)) : w.heap.size ≤ gb225)); have n4_ := n3_; have n5_ := zq9 ((by rw [hg]; exact Nat.ne_of_lt (blk_lt (g := gb224) (o := .cells #[.string a0_0, .int .i64 a0_1, .int .i64 a0_2, .string a0_3, .slice A0_4 l0_4.length c0_4, .slice A0_5 l0_5.length c0_5, .slice A0_6 l0_6.length c0_6] 32 (0, 0)) (by exact bk BK224)) : gb224 ≠ gb225)); have n6_ := zq9 ((by rw [hg]; exact Nat.ne_of_gt (blk_lt (g := gb224) (o := .cells #[.string a0_0, .int .i64 a0_1, .int .i64 a0_2, .string a0_3, .slice A0_4 l0_4.length c0_4, .slice A0_5 l0_5.length c0_5, .slice A0_6 l0_6.length c0_6] 32 (0, 0)) (by exact bk BK224)) : gb225 ≠ gb224)); clear BK224; clear HB; have BK224 := n0_; have HB := n1_; have BK225 := n2_; have GW225 := n3_; have GE225 := n4_; have NB224_225 := n5_; have NB225_224 := n6_; clear n0_ n1_ n2_ n3_ n4_ n5_ n6_; clear hb hbox hg; have hnb15 := NB224_225.out; have hnc15 := NB225_224.out; have hcz16_0 : w14.cell? ⟨gb224, 0, none⟩ = some (.string a0_0) := bc BK224 0; have hcz16_1 : w14.cell? ⟨gb224, 1, none⟩ = some (.int .i64 a0_1) := bc BK224 1; have hcz16_2 : w14.cell? ⟨gb224, 2, none⟩ = some (.int .i64 a0_2) := bc BK224 2; have hcz16_3 : w14.cell? ⟨gb224, 3, none⟩ = some (.string a0_3) := bc BK224 3; have hcz16_4 : w14.cell? ⟨gb224, 4, none⟩ = some (.slice A0_4 l0_4.length c0_4) := bc BK224 4; have hcz16_5 : w14.cell? ⟨gb224, 5, none⟩ = some (.slice A0_5 l0_5.length c0_5) := bc BK224 5; have hcz16_6 : w14.cell? ⟨gb224, 6, none⟩ = some (.slice A0_6 l0_6.length c0_6) := bc BK224 6; have hfz16_0 := zq6 BK224.out 0; have hfz16_1 := zq6 BK224.out 1; have hfz16_2 := zq6 BK224.out 2; have hfz16_3 := zq6 BK224.out 3; have hfz16_4 := zq6 BK224.out 4; have hfz16_5 := zq6 BK224.out 5; have hfz16_6 := zq6 BK224.out 6; have hcz17_0 : w14.cell? ⟨gb225, 0, none⟩ = some (.string a1_0) := bc BK225 0; have hcz17_1 : w14.cell? ⟨gb225, 1, none⟩ = some (.int .i64 a1_1) := bc BK225 1; have hcz17_2 : w14.cell? ⟨gb225, 2, none⟩ = some (.int .i64 a1_2) := bc BK225 2; have hcz17_3 : w14.cell? ⟨gb225, 3, none⟩ = some (.string a1_3) := bc BK225 3; have hcz17_4 : w14.cell? ⟨gb225, 4, none⟩ = some (.slice A1_4 l1_4.length c1_4) := bc BK225 4; have hcz17_5 : w14.cell? ⟨gb225, 5, none⟩ = some (.slice A1_5 l1_5.length c1_5) := bc BK225 5; have hcz17_6 : w14.cell? ⟨gb225, 6, none⟩ = some (.slice A1_6 l1_6.length c1_6) := bc BK225 6; have hfz17_0 := zq6 BK225.out 0; have hfz17_1 := zq6 BK225.out 1; have hfz17_2 := zq6 BK225.out 2; have hfz17_3 := zq6 BK225.out 3; have hfz17_4 := zq6 BK225.out 4; have hfz17_5 := zq6 BK225.out 5; have hfz17_6 := zq6 BK225.out 6) | ((with_reducible refine zq24 (f := 23) rfl ?_); refine gl (some 29) Try.func23 #[.slice A0_4 l0_4.length c0_4, .slice A1_4 l1_4.length c1_4] ?_; (with_reducible refine (laws_eqStringS.calls k _ _ l0_4 _ _ l1_4 _ _ ?side1 ?side2 ?side3 ?side4 A7.out).mono ?_); (case side1 => exact kc HR0_4 HB); (case side2 => exact HC0_4.out); (case side3 => exact kc HR1_4 HB); (case side4 => exact HC1_4.out); rintro e w' ⟨rfl, ⟨nd, rfl⟩⟩; refine ⟨_, rfl, ?_⟩) | ((with_reducible refine zq24 (f := 54) rfl ?_); refine gl (some 35) Try.func54 #[.slice A0_5 l0_5.length c0_5, .slice A1_5 l1_5.length c1_5] ?_; (with_reducible refine (laws_eqScoreS.calls k _ _ l0_5 _ _ l1_5 _ _ ?side1 ?side2 ?side3 ?side4 A9.out).mono ?_); (case side1 => repeat (first | exact (zq31 HR0_5.out (by exact b2 HB GE224 GE225)) | (with_reducible refine zq18 ?_ _) | (with_reducible refine zq19 ?_ _) | (with_reducible refine zq20 ?_))); (case side2 => exact HC0_5.out); (case side3 => repeat (first | exact (zq31 HR1_5.out (by exact b2 HB GE224 GE225)) | (with_reducible refine zq18 ?_ _) | (with_reducible refine zq19 ?_ _) | (with_reducible refine zq20 ?_))); (case side4 => exact HC1_5.out); rintro e w18 ⟨rfl, hb⟩; refine ⟨_, rfl, ?_⟩; have n0_ := zq9 (zq30 (g := gb224) (o := .cells #[.string a0_0, .int .i64 a0_1, .int .i64 a0_2, .string a0_3, .slice A0_4 l0_4.length c0_4, .slice A0_5 l0_5.length c0_5, .slice A0_6 l0_6.length c0_6] 32 (0, 0)) (by exact bk BK224) hb); have n1_ := zq9 (zq30 (g := gb225) (o := .cells #[.string a1_0, .int .i64 a1_1, .int .i64 a1_2, .string a1_3, .slice A1_4 l1_4.length c1_4, .slice A1_5 l1_5.length c1_5, .slice A1_6 l1_6.length c1_6] 32 (0, 0)) (by exact bk BK225) hb); have n2_ := zq9 (zq27 (by exact b2 HB GE224 GE225) hb); clear BK224; clear BK225; clear HB; have BK224 := n0_; have BK225 := n1_; have HB := n2_; clear n0_ n1_ n2_; (try clear hb); (try clear hb2); (try clear hk); (try clear hi); have hcz19_0 : w18.cell? ⟨gb224, 0, none⟩ = some (.string a0_0) := bc BK224 0; have hcz19_1 : w18.cell? ⟨gb224, 1, none⟩ = some (.int .i64 a0_1) := bc BK224 1; have hcz19_2 : w18.cell? ⟨gb224, 2, none⟩ = some (.int .i64 a0_2) := bc BK224 2; have hcz19_3 : w18.cell? ⟨gb224, 3, none⟩ = some (.string a0_3) := bc BK224 3; have hcz19_4 : w18.cell? ⟨gb224, 4, none⟩ = some (.slice A0_4 l0_4.length c0_4) := bc BK224 4; have hcz19_5 : w18.cell? ⟨gb224, 5, none⟩ = some (.slice A0_5 l0_5.length c0_5) := bc BK224 5; have hcz19_6 : w18.cell? ⟨gb224, 6, none⟩ = some (.slice A0_6 l0_6.length c0_6) := bc BK224 6; have hfz19_0 := zq6 BK224.out 0; have hfz19_1 := zq6 BK224.out 1; have hfz19_2 := zq6 BK224.out 2; have hfz19_3 := zq6 BK224.out 3; have hfz19_4 := zq6 BK224.out 4; have hfz19_5 := zq6 BK224.out 5; have hfz19_6 := zq6 BK224.out 6; have hcz20_0 : w18.cell? ⟨gb225, 0, none⟩ = some (.string a1_0) := bc BK225 0; have hcz20_1 : w18.cell? ⟨gb225, 1, none⟩ = some (.int .i64 a1_1) := bc BK225 1; have hcz20_2 : w18.cell? ⟨gb225, 2, none⟩ = some (.int .i64 a1_2) := bc BK225 2; have hcz20_3 : w18.cell? ⟨gb225, 3, none⟩ = some (.string a1_3) := bc BK225 3; have hcz20_4 : w18.cell? ⟨gb225, 4, none⟩ = some (.slice A1_4 l1_4.length c1_4) := bc BK225 4; have hcz20_5 : w18.cell? ⟨gb225, 5, none⟩ = some (.slice A1_5 l1_5.length c1_5) := bc BK225 5; have hcz20_6 : w18.cell? ⟨gb225, 6, none⟩ = some (.slice A1_6 l1_6.length c1_6) := bc BK225 6; have hfz20_0 := zq6 BK225.out 0; have hfz20_1 := zq6 BK225.out 1; have hfz20_2 := zq6 BK225.out 2; have hfz20_3 := zq6 BK225.out 3; have hfz20_4 := zq6 BK225.out 4; have hfz20_5 := zq6 BK225.out 5; have hfz20_6 := zq6 BK225.out 6) | ((with_reducible refine zq24 (f := 55) rfl ?_); refine gl (some 41) Try.func55 #[.slice A0_6 l0_6.length c0_6, .slice A1_6 l1_6.length c1_6] ?_; (with_reducible refine (laws_eqPairS.calls k _ _ l0_6 _ _ l1_6 _ _ ?side1 ?side2 ?side3 ?side4 A11.out).mono ?_); (case side1 => exact kc HR0_6 HB); (case side2 => exact HC0_6.out); (case side3 => exact kc HR1_6 HB); (case side4 => exact HC1_6.out); rintro e w21 ⟨rfl, hb⟩; refine ⟨_, rfl, ?_⟩; have n0_ := zq9 (zq30 (g := gb224) (o := .cells #[.string a0_0, .int .i64 a0_1, .int .i64 a0_2, .string a0_3, .slice A0_4 l0_4.length c0_4, .slice A0_5 l0_5.length c0_5, .slice A0_6 l0_6.length c0_6] 32 (0, 0)) (by exact bk BK224) hb); have n1_ := zq9 (zq30 (g := gb225) (o := .cells #[.string a1_0, .int .i64 a1_1, .int .i64 a1_2, .string a1_3, .slice A1_4 l1_4.length c1_4, .slice A1_5 l1_5.length c1_5, .slice A1_6 l1_6.length c1_6] 32 (0, 0)) (by exact bk BK225) hb); have n2_ := zq9 (zq27 (by exact b2 HB GE224 GE225) hb); clear BK224; clear BK225; clear HB; have BK224 := n0_; have BK225 := n1_; have HB := n2_; clear n0_ n1_ n2_; (try clear hb); (try clear hb2); (try clear hk); (try clear hi)))
  go_ret
  exact fz (by exact b2 HB GE224 GE225)
def laws_eqEntryS.T6 : Bool × List (List Nat × List Nat) := (true, [([], []), ([], []), ([0, 1], [0, 1]), ([2], [2]), ([], []), ([], []), ([4, 5], [4, 5]), ([6], [6]), ([3, 7], [3, 7]), ([8], [8])])
def laws_eqEntryS.B6 : List Nat := [0, 0, 3, 7, 0, 0, 48, 112, 255, 511]
theorem laws_eqEntryS.tab6 : rtab .any (opsOf Try.f60 6) = laws_eqEntryS.T6 := by kernel_rfl
theorem laws_eqEntryS.bits6 : waitsOk laws_eqEntryS.T6.2 laws_eqEntryS.B6 = true := by kernel_rfl
set_option maxHeartbeats 8000000 in
set_option maxRecDepth 100000 in
theorem laws_eqEntryS.calls (k : Nat) (A0 : Option Addr) (c0 : Nat) (l0 : List (S32)) (A1 : Option Addr) (c1 : Nat) (l1 : List (S32)) (r : Bool) (w : World) (hr0 : Kd.C k32 w A0 l0.length l0) (hc0 : l0.length ≤ c0) (hr1 : Kd.C k32 w A1 l1.length l1) (hc1 : l1.length ≤ c1) (h : laws_eqEntryS.f k l0 l1 = some r) :
  Calls Try.prog 60 #[.slice A0 l0.length c0, .slice A1 l1.length c1] w fun e w' => e = .returned (.bool r) ∧ Below w.heap.size w w' := by
 have hu32 := Try.underlying32; have HR0 := zq9 hr0; have HC0 := zq9 hc0; clear hr0 hc0; have HR1 := zq9 hr1; have HC1 := zq9 hc1; clear hr1 hc1
 have HB := zq9 (Below.refl w.heap.size w)
 have H : (if (l0.length : Int) = (l1.length : Int) then (laws_eqEntryS.l0 k l0 l1 0) else (some false)) = some r := h
 clear h
 go_enter Try.func60, Try.ntmps60
 by_cases c3 : (l0.length : Int) = (l1.length : Int)
 ·rw [if_pos c3] at H
  have c3b0 : ((l0.length : Int) == (l1.length : Int)) = true := beq_iff_eq.mpr c3
  have c3b1 : ((l0.length : Int) != (l1.length : Int)) = false := bne_eq_false_iff_eq.mpr c3
  have c3b2 : (l0.length == l1.length) = true := by first | simpa using c3 | (simp at c3 ⊢; omega)
  clear c3; have H' := zq9 H; clear H
  go_wp2
  go_loopg [5] k (fun kq v5 w' => ∃ (x5_1 : Int), v5 = .int .i64 x5_1 ∧ Aside0 (laws_eqEntryS.l0 kq l0 l1 x5_1 = some r) ∧ Aside0 (kq ≤ k) ∧ Aside0 (Below w.heap.size w w'))
  case atStart => exact ⟨(0), (by first | rfl | (simp; done) | (simp [*]; done)), H', ⟨Nat.le_refl _⟩, ⟨by exact bl HB⟩⟩
  case round =>
   clear H'
   try clear c1
   try clear p2
   try clear c3
   try clear c3b0
   try clear c3b1
   try clear c3b2
   obtain ⟨x5_1, rfl, HA, HK1, HB⟩ := hrel
   cases gk with
   | zero => exact absurd HA.out (by simp [laws_eqEntryS.l0])
   | succ k1 =>
    have H := HA.out; clear HA
    simp only [laws_eqEntryS.l0] at H
    by_cases c4 : x5_1 < (l0.length : Int)
    ·rw [if_pos c4] at H; have c4b0 : decide (x5_1 < (l0.length : Int)) = true := decide_eq_true c4; clear c4
     by_cases c5 : 0 ≤ x5_1
     ·rw [if_pos c5] at H; have c5b0 : decide (0 ≤ x5_1) = true := decide_eq_true c5; clear c5
      by_cases c6 : x5_1 < (l1.length : Int)
      ·rw [if_pos c6] at H; have c6b0 : decide (x5_1 < (l1.length : Int)) = true := decide_eq_true c6; clear c6; replace H := Option.bind_eq_some_iff.mp H; obtain ⟨t684, A70, H⟩ := H
       try dsimp only at H
       have A7 := zq9 A70; clear A70
       try go_wp2
       have n0_ := zq9 (zq4 HB.out)
       clear HB; have HB := n0_; clear n0_
       have p682 : 0 ≤ (x5_1 : Int) := of_decide_eq_true ‹_›
       have q682 : x5_1 < (l0.length : Int) := of_decide_eq_true ‹_›
       obtain ⟨ad682, A682_4, c682_4, A682_5, c682_5, A682_6, c682_6, e682, hx682_0, hx682_1, hx682_2, hx682_3, hx682_4, hx682_5, hx682_6, hl682_4, hi682_4, hl682_5, hi682_5, hl682_6, hi682_6⟩ := at_T32 HR0.out x5_1 p682 q682
       have hw682_6 := hx682_6; have hw682_5 := hx682_5; have hw682_4 := hx682_4; have hw682_3 := hx682_3; have hw682_2 := hx682_2; have hw682_1 := hx682_1; have hw682_0 := hx682_0; cases e682; replace hx682_0 := hcl HB hx682_0; replace hx682_1 := hcl HB hx682_1; replace hx682_2 := hcl HB hx682_2; replace hx682_3 := hcl HB hx682_3; replace hx682_4 := hcl HB hx682_4; replace hx682_5 := hcl HB hx682_5
       replace hx682_6 := hcl HB hx682_6; have HR682_4 := zq9 hi682_4; have HC682_4 := zq9 hl682_4; clear hi682_4 hl682_4; have HR682_5 := zq9 hi682_5; have HC682_5 := zq9 hl682_5; clear hi682_5 hl682_5; have HR682_6 := zq9 hi682_6; have HC682_6 := zq9 hl682_6; clear hi682_6 hl682_6; replace p682 := eq_true p682; replace q682 := eq_true q682
       have p683 : 0 ≤ (x5_1 : Int) := of_decide_eq_true ‹_›
       have q683 : x5_1 < (l1.length : Int) := of_decide_eq_true ‹_›
       obtain ⟨ad683, A683_4, c683_4, A683_5, c683_5, A683_6, c683_6, e683, hx683_0, hx683_1, hx683_2, hx683_3, hx683_4, hx683_5, hx683_6, hl683_4, hi683_4, hl683_5, hi683_5, hl683_6, hi683_6⟩ := at_T32 HR1.out x5_1 p683 q683
       have hw683_6 := hx683_6; have hw683_5 := hx683_5; have hw683_4 := hx683_4; have hw683_3 := hx683_3; have hw683_2 := hx683_2; have hw683_1 := hx683_1; have hw683_0 := hx683_0; cases e683; replace hx683_0 := hcl HB hx683_0; replace hx683_1 := hcl HB hx683_1; replace hx683_2 := hcl HB hx683_2; replace hx683_3 := hcl HB hx683_3; replace hx683_4 := hcl HB hx683_4; replace hx683_5 := hcl HB hx683_5
       replace hx683_6 := hcl HB hx683_6; have HR683_4 := zq9 hi683_4; have HC683_4 := zq9 hl683_4; clear hi683_4 hl683_4; have HR683_5 := zq9 hi683_5; have HC683_5 := zq9 hl683_5; clear hi683_5 hl683_5; have HR683_6 := zq9 hi683_6; have HC683_6 := zq9 hl683_6; clear hi683_6 hl683_6; replace p683 := eq_true p683; replace q683 := eq_true q683
       refine start_ (n := 10) (S := fun w' => w'.cell? (ad682.add ((x5_1).toNat * 7)) = some (.string ((rd_T32 l0 x5_1).f0)) ∧ w'.cell? ⟨(ad682.add ((x5_1).toNat * 7)).block, (ad682.add ((x5_1).toNat * 7)).off + 1, none⟩ = some (.int .i64 ((rd_T32 l0 x5_1).f1)) ∧ w'.cell? ⟨(ad682.add ((x5_1).toNat * 7)).block, (ad682.add ((x5_1).toNat * 7)).off + 2, none⟩ = some (.int .i64 ((rd_T32 l0 x5_1).f2)) ∧ w'.cell? ⟨(ad682.add ((x5_1).toNat * 7)).block, (ad682.add ((x5_1).toNat * 7)).off + 3, none⟩ = some (.string ((rd_T32 l0 x5_1).f3)) ∧ w'.cell? ⟨(ad682.add ((x5_1).toNat * 7)).block, (ad682.add ((x5_1).toNat * 7)).off + 4, none⟩ = some (.slice A682_4 ((rd_T32 l0 x5_1).f4).length c682_4) ∧ w'.cell? ⟨(ad682.add ((x5_1).toNat * 7)).block, (ad682.add ((x5_1).toNat * 7)).off + 5, none⟩ = some (.slice A682_5 ((rd_T32 l0 x5_1).f5).length c682_5) ∧ w'.cell? ⟨(ad682.add ((x5_1).toNat * 7)).block, (ad682.add ((x5_1).toNat * 7)).off + 6, none⟩ = some (.slice A682_6 ((rd_T32 l0 x5_1).f6).length c682_6) ∧ w'.cell? (ad683.add ((x5_1).toNat * 7)) = some (.string ((rd_T32 l1 x5_1).f0)) ∧ w'.cell? ⟨(ad683.add ((x5_1).toNat * 7)).block, (ad683.add ((x5_1).toNat * 7)).off + 1, none⟩ = some (.int .i64 ((rd_T32 l1 x5_1).f1)) ∧ w'.cell? ⟨(ad683.add ((x5_1).toNat * 7)).block, (ad683.add ((x5_1).toNat * 7)).off + 2, none⟩ = some (.int .i64 ((rd_T32 l1 x5_1).f2)) ∧ w'.cell? ⟨(ad683.add ((x5_1).toNat * 7)).block, (ad683.add ((x5_1).toNat * 7)).off + 3, none⟩ = some (.string ((rd_T32 l1 x5_1).f3)) ∧ w'.cell? ⟨(ad683.add ((x5_1).toNat * 7)).block, (ad683.add ((x5_1).toNat * 7)).off + 4, none⟩ = some (.slice A683_4 ((rd_T32 l1 x5_1).f4).length c683_4) ∧ w'.cell? ⟨(ad683.add ((x5_1).toNat * 7)).block, (ad683.add ((x5_1).toNat * 7)).off + 5, none⟩ = some (.slice A683_5 ((rd_T32 l1 x5_1).f5).length c683_5) ∧ w'.cell? ⟨(ad683.add ((x5_1).toNat * 7)).block, (ad683.add ((x5_1).toNat * 7)).off + 6, none⟩ = some (.slice A683_6 ((rd_T32 l1 x5_1).f6).length c683_6)) (ds := []) #[false, false, false, false, false, false, false, false, false, false] (by kernel_rfl) rfl rfl ⟨(hcm HB hw682_0), (hcm HB hw682_1), (hcm HB hw682_2), (hcm HB hw682_3), (hcm HB hw682_4), (hcm HB hw682_5), (hcm HB hw682_6), (hcm HB hw683_0), (hcm HB hw683_1), (hcm HB hw683_2), (hcm HB hw683_3), (hcm HB hw683_4), (hcm HB hw683_5), (hcm HB hw683_6)⟩ (fun hHeld => ?_); refine with_tabW laws_eqEntryS.tab6 laws_eqEntryS.bits6 (fun HT_ HW_ => ?_)
       generalize wr.drew = w9 at HB HR682_4 HR682_5 HR682_6 HR683_4 HR683_5 HR683_6 hx682_0 hx682_1 hx682_2 hx682_3 hx682_4 hx682_5 hx682_6 hx683_0 hx683_1 hx683_2 hx683_3 hx683_4 hx683_5 hx683_6 hHeld ⊢
       refine pa HT_ 0 17 (zb 10 1) ?_; refine pa HT_ 1 18 (zb 10 3) ?_; refine pa HT_ 2 19 (zb 10 7) ?_; refine pa HT_ 4 21 (zb 10 23) ?_; refine pa HT_ 5 22 (zb 10 55) ?_; refine pa HT_ 6 23 (zb 10 119) ?_
       refine take_ (i := 3) (N := some 20) (v := ?_) (a' := ?_) (zb 10 127) rfl rfl (take_ofW HT_.out HW_.out (by kernel_rfl)) (fun _ _ _ h => h) (Or.inl ⟨by rfl, ?_⟩) hHeld ?_ ?_
       rotate_left; ·rintro w' ⟨s0, s1, s2, s3, s4, s5, s6, s7, s8, s9, s10, s11, s12, s13⟩; go_simp; with_reducible rfl
       rotate_left; ·simp only [Act.put, zq0, zq1, zq2, i64_w, i32_w]; rfl
       refine take_ (i := 7) (N := some 24) (v := ?_) (a' := ?_) (zb 10 255) rfl rfl (take_ofW HT_.out HW_.out (by kernel_rfl)) (fun _ _ _ h => h) (Or.inl ⟨by rfl, ?_⟩) hHeld ?_ ?_
       rotate_left; ·rintro w' ⟨s0, s1, s2, s3, s4, s5, s6, s7, s8, s9, s10, s11, s12, s13⟩; go_simp; with_reducible rfl
       rotate_left; ·simp only [Act.put, zq0, zq1, zq2, i64_w, i32_w]; rfl
       refine one_ (i := 8) (N := some 25) (zb 10 511) rfl rfl (one_of HT_.out (by kernel_rfl)) (by decide) (fun K hK => ?_)
       refine gs Try.func14 #[.agg #[.string ((rd_T32 l0 x5_1).f0), .int .i64 ((rd_T32 l0 x5_1).f1), .int .i64 ((rd_T32 l0 x5_1).f2), .string ((rd_T32 l0 x5_1).f3), .slice A682_4 ((rd_T32 l0 x5_1).f4).length c682_4, .slice A682_5 ((rd_T32 l0 x5_1).f5).length c682_5, .slice A682_6 ((rd_T32 l0 x5_1).f6).length c682_6], .agg #[.string ((rd_T32 l1 x5_1).f0), .int .i64 ((rd_T32 l1 x5_1).f1), .int .i64 ((rd_T32 l1 x5_1).f2), .string ((rd_T32 l1 x5_1).f3), .slice A683_4 ((rd_T32 l1 x5_1).f4).length c683_4, .slice A683_5 ((rd_T32 l1 x5_1).f5).length c683_5, .slice A683_6 ((rd_T32 l1 x5_1).f6).length c683_6]] ?_
       with_reducible refine (laws_eqEntry.calls k1 ((rd_T32 l0 x5_1).f0) ((rd_T32 l0 x5_1).f1) ((rd_T32 l0 x5_1).f2) ((rd_T32 l0 x5_1).f3) _ _ ((rd_T32 l0 x5_1).f4) _ _ ((rd_T32 l0 x5_1).f5) _ _ ((rd_T32 l0 x5_1).f6) ((rd_T32 l1 x5_1).f0) ((rd_T32 l1 x5_1).f1) ((rd_T32 l1 x5_1).f2) ((rd_T32 l1 x5_1).f3) _ _ ((rd_T32 l1 x5_1).f4) _ _ ((rd_T32 l1 x5_1).f5) _ _ ((rd_T32 l1 x5_1).f6) t684 _ ?side1 ?side2 ?side3 ?side4 ?side5 ?side6 ?side7 ?side8 ?side9 ?side10 ?side11 ?side12 A7.out).mono ?_
       (case side1 => exact kc HR682_4 HB)
       (case side2 => exact HC682_4.out)
       (case side3 => exact kc HR682_5 HB)
       (case side4 => exact HC682_5.out)
       (case side5 => exact kc HR682_6 HB)
       (case side6 => exact HC682_6.out)
       (case side7 => exact kc HR683_4 HB)
       (case side8 => exact HC683_4.out)
       (case side9 => exact kc HR683_5 HB)
       (case side10 => exact HC683_5.out)
       (case side11 => exact kc HR683_6 HB)
       (case side12 => exact HC683_6.out)
       rintro e w10 ⟨rfl, hb⟩
       refine ⟨_, rfl, ?_⟩
       have n0_ := zq9 (zq27 (by exact bl HB) hb)
       clear HB; have HB := n0_; clear n0_
       (try clear hb)
       (try clear hb2)
       (try clear hk)
       (try clear hi)
       refine hK.out _ _ ⟨(hcm HB hw682_0), (hcm HB hw682_1), (hcm HB hw682_2), (hcm HB hw682_3), (hcm HB hw682_4), (hcm HB hw682_5), (hcm HB hw682_6), (hcm HB hw683_0), (hcm HB hw683_1), (hcm HB hw683_2), (hcm HB hw683_3), (hcm HB hw683_4), (hcm HB hw683_5), (hcm HB hw683_6)⟩ (fun hHeld => ?_)
       clear hK K
       refine norm_ (a' := ?_) ?_ ?_
       rotate_left; ·show Act.put _ (some 25) _ = _; simp only [Act.put, zq0, zq1, zq2, i64_w, i32_w]; rfl
       refine pa HT_ 9 26 (zb 10 1023) ?_
       refine done_ (done_of HT_.out (by kernel_rfl)) ?_
       by_cases c8 : t684 = true
       ·subst c8
        have H1 : (laws_eqEntryS.l0 k1 l0 l1 (wrap64 (x5_1 + 1))) = some r := by rw [if_pos rfl] at H; exact H
        clear H; have H := H1; clear H1; have H' := zq9 H; clear H
        try go_wp2
        go_roundg k1
        case measure => have := HK1.out; omega
        case rel => exact ⟨(wrap64 (x5_1 + 1)), (by first | rfl | (simp; done) | (simp [*]; done)), H', ⟨by have := HK1.out; omega⟩, ⟨by exact bl HB⟩⟩
       ·replace c8 := Bool.eq_false_iff.mpr c8
        subst c8
        have H1 : (some false) = some r := by rw [if_neg (show ¬ (false = true) by decide)] at H; exact H
        clear H; have H := H1; clear H1; obtain rfl := Option.some.inj H
        try go_wp2
        go_ret
        exact fz (by exact bl HB)
      ·rw [if_neg c6] at H
       exact absurd H (by simp)
     ·rw [if_neg c5] at H
      exact absurd H (by simp)
    ·rw [if_neg c4] at H; have c4b0 : decide (x5_1 < (l0.length : Int)) = false := decide_eq_false c4; clear c4; obtain rfl := Option.some.inj H
     go_wp2
     go_ret
     exact fz (by exact bl HB)
 ·rw [if_neg c3] at H
  have c3b0 : ((l0.length : Int) == (l1.length : Int)) = false := beq_eq_false_iff_ne.mpr c3
  have c3b1 : ((l0.length : Int) != (l1.length : Int)) = true := bne_iff_ne.mpr c3
  have c3b2 : (l0.length == l1.length) = false := by first | simpa using c3 | (simp at c3 ⊢; omega)
  obtain rfl := Option.some.inj H
  go_wp2
  go_ret
  exact fz (by exact bl HB)
set_option maxHeartbeats 8000000 in
set_option maxRecDepth 100000 in
theorem laws_eqBase.calls (k : Nat) (a0_0 : Int) (A0_1 : Option Addr) (c0_1 : Nat) (l0_1 : List (S32)) (a1_0 : Int) (A1_1 : Option Addr) (c1_1 : Nat) (l1_1 : List (S32)) (r : Bool) (w : World) (hr0_1 : Kd.C k32 w A0_1 l0_1.length l0_1) (hc0_1 : l0_1.length ≤ c0_1) (hr1_1 : Kd.C k32 w A1_1 l1_1.length l1_1) (hc1_1 : l1_1.length ≤ c1_1) (h : laws_eqBase.f k a0_0 l0_1 a1_0 l1_1 = some r) :
    Calls Try.prog 20 #[.agg #[.int .i64 a0_0, .slice A0_1 l0_1.length c0_1], .agg #[.int .i64 a1_0, .slice A1_1 l1_1.length c1_1]] w fun e w' => e = .returned (.bool r) ∧ Below w.heap.size w w' := by
  have hu46 := Try.underlying46; have HR0_1 := zq9 hr0_1; have HC0_1 := zq9 hc0_1; clear hr0_1 hc0_1; have HR1_1 := zq9 hr1_1; have HC1_1 := zq9 hc1_1; clear hr1_1 hc1_1
  have HB := zq9 (Below.refl w.heap.size w)
  have H : (if a0_0 = a1_0 then ((laws_eqEntryS.f k l0_1 l1_1).bind fun t687 => (if t687 = true then (some true) else (some false))) else (some false)) = some r := h
  clear h
  go_enter Try.func20, Try.ntmps20
  refine (Classical.em (a0_0 = a1_0)).elim (fun c3 => ?p0) (fun c3 => ?n0)
  case' p0 =>
    rw [if_pos c3] at H
    have c3b0 : (a0_0 == a1_0) = true := beq_iff_eq.mpr c3
    have c3b1 : (a0_0 != a1_0) = false := bne_eq_false_iff_eq.mpr c3
    clear c3; replace H := Option.bind_eq_some_iff.mp H; obtain ⟨t687, A40, H⟩ := H
    try dsimp only at H
    have A4 := zq9 A40; clear A40
    refine (Classical.em (t687 = true)).elim (fun c5 => ?p1) (fun c5 => ?n1)
    case' p1 =>
      subst c5
      have H1 : (some true) = some r := by rw [if_pos rfl] at H; exact H
      clear H; have H := H1; clear H1; obtain rfl := Option.some.inj H
    case' n1 =>
      replace c5 := Bool.eq_false_iff.mpr c5
      subst c5
      have H1 : (some false) = some r := by rw [if_neg (show ¬ (false = true) by decide)] at H; exact H
      clear H; have H := H1; clear H1; obtain rfl := Option.some.inj H
  case' n0 =>
    rw [if_neg c3] at H
    have c3b0 : (a0_0 == a1_0) = false := beq_eq_false_iff_ne.mpr c3
    have c3b1 : (a0_0 != a1_0) = true := bne_iff_ne.mpr c3
    obtain rfl := Option.some.inj H
  case p1 | n1 | n0 =>
    try go_wp2_with (first | ((with_reducible refine zq25 (N := 2) rfl ?_); refine bx 2 #[.int .i64 a0_0, .slice A0_1 l0_1.length c0_1] 46 ?_; intro gb685 hg w6 hbox hb; have n0_ := zq9 (zq27 (by exact bl HB) hb); have n1_ := zq9 (hbox); have n2_ := zq9 ((by rw [hg]; exact (zq29 (by exact bl HB)) : w.heap.size ≤ gb685)); have n3_ := n2_; clear HB; have HB := n0_; have BK685 := n1_; have GW685 := n2_; have GE685 := n3_; clear n0_ n1_ n2_ n3_; clear hb hbox hg) | ((with_reducible refine zq25 (N := 3) rfl ?_); refine bx 3 #[.int .i64 a1_0, .slice A1_1 l1_1.length c1_1] 46 ?_; intro gb686 hg w7 hbox hb; have n0_ := zq9 (zq30 (g := gb685) (o := .cells #[.int .i64 a0_0, .slice A0_1 l0_1.length c0_1] 46 (0, 0)) (by exact bk BK685) hb); have n1_ := zq9 (zq27 (by exact b1 HB GE685) hb); have n2_ := zq9 (hbox); have n3_ := zq9 ((by rw [hg]; exact (zq29 (by exact b1 HB GE685)) : w.heap.size ≤ gb686)); have n4_ := n3_; have n5_ := zq9 ((by rw [hg]; exact Nat.ne_of_lt (blk_lt (g := gb685) (o := .cells #[.int .i64 a0_0, .slice A0_1 l0_1.length c0_1] 46 (0, 0)) (by exact bk BK685)) : gb685 ≠ gb686)); have n6_ := zq9 ((by rw [hg]; exact Nat.ne_of_gt (blk_lt (g := gb685) (o := .cells #[.int .i64 a0_0, .slice A0_1 l0_1.length c0_1] 46 (0, 0)) (by exact bk BK685)) : gb686 ≠ gb685)); clear BK685; clear HB; have BK685 := n0_; have HB := n1_; have BK686 := n2_; have GW686 := n3_; have GE686 := n4_; have NB685_686 := n5_; have NB686_685 := n6_; clear n0_ n1_ n2_ n3_ n4_ n5_ n6_; clear hb hbox hg; have hnb8 := NB685_686.out; have hnc8 := NB686_685.out; have hcz9_0 : w7.cell? ⟨gb685, 0, none⟩ = some (.int .i64 a0_0) := bc BK685 0; have hcz9_1 : w7.cell? ⟨gb685, 1, none⟩ = some (.slice A0_1 l0_1.length c0_1) := bc BK685 1; have hfz9_0 := zq6 BK685.out 0; have hfz9_1 := zq6 BK685.out 1; have hcz10_0 : w7.cell? ⟨gb686, 0, none⟩ = some (.int .i64 a1_0) := bc BK686 0; have hcz10_1 : w7.cell? ⟨gb686, 1, none⟩ = some (.slice A1_1 l1_1.length c1_1) := bc BK686 1; have hfz10_0 := zq6 BK686.out 0; have hfz10_1 := zq6 BK686.out 1) | ((with_reducible refine zq24 (f := 60) rfl ?_); refine gl (some 14) Try.func60 #[.slice A0_1 l0_1.length c0_1, .slice A1_1 l1_1.length c1_1] ?_; (with_reducible refine (laws_eqEntryS.calls k _ _ l0_1 _ _ l1_1 _ _ ?side1 ?side2 ?side3 ?side4 A4.out).mono ?_); (case side1 => exact kc HR0_1 HB); (case side2 => exact HC0_1.out); (case side3 => exact kc HR1_1 HB); (case side4 => exact HC1_1.out); rintro e w11 ⟨rfl, hb⟩; refine ⟨_, rfl, ?_⟩; have n0_ := zq9 (zq30 (g := gb685) (o := .cells #[.int .i64 a0_0, .slice A0_1 l0_1.length c0_1] 46 (0, 0)) (by exact bk BK685) hb); have n1_ := zq9 (zq30 (g := gb686) (o := .cells #[.int .i64 a1_0, .slice A1_1 l1_1.length c1_1] 46 (0, 0)) (by exact bk BK686) hb); have n2_ := zq9 (zq27 (by exact b2 HB GE685 GE686) hb); clear BK685; clear BK686; clear HB; have BK685 := n0_; have BK686 := n1_; have HB := n2_; clear n0_ n1_ n2_; (try clear hb); (try clear hb2); (try clear hk); (try clear hi)))
    go_ret
    exact fz (by exact b2 HB GE685 GE686)
set_option maxHeartbeats 8000000 in
set_option maxRecDepth 100000 in
theorem laws_markText.calls (k : Nat) (a0 : Int) (r : ByteArray) (w : World) (h : laws_markText.f k a0 = some r) :
    Calls Try.prog 64 #[.int .i64 a0] w fun e w' => e = .returned (.string r) ∧ Below w.heap.size w w' := by
  have HB := zq9 (Below.refl w.heap.size w)
  have H : (if a0 ≤ 0 then (some (⟨#[109, 48]⟩ : ByteArray)) else (laws_markText.l0 k a0 (⟨#[]⟩ : ByteArray))) = some r := h
  clear h
  go_enter Try.func64, Try.ntmps64
  by_cases c2 : a0 ≤ 0
  · rw [if_pos c2] at H; have c2b0 : decide (a0 ≤ 0) = true := decide_eq_true c2; clear c2; obtain rfl := Option.some.inj H
    go_wp2
    go_ret
    exact fz (by exact bl HB)
  · rw [if_neg c2] at H; have c2b0 : decide (a0 ≤ 0) = false := decide_eq_false c2; clear c2; have H' := zq9 H; clear H
    go_wp2
    go_loopg [0, 3] k (fun kq v0 v3 w' => ∃ (x0_1 : Int) (x3_1 : ByteArray), v0 = .int .i64 x0_1 ∧ v3 = .string x3_1 ∧ Aside0 (laws_markText.l0 kq x0_1 x3_1 = some r) ∧ Aside0 (kq ≤ k) ∧ Aside0 (Below w.heap.size w w'))
    case atStart => exact ⟨(a0), ((⟨#[]⟩ : ByteArray)), (by first | rfl | (simp; done) | (simp [*]; done)), (by first | rfl | (simp; done) | (simp [*]; done)), H', ⟨Nat.le_refl _⟩, ⟨by exact bl HB⟩⟩
    case round =>
      clear H'
      try clear c2
      try clear c2b0
      try clear p2
      obtain ⟨x0_1, x3_1, rfl, rfl, HA, HK1, HB⟩ := hrel
      cases gk with
      | zero => exact absurd HA.out (by simp [laws_markText.l0])
      | succ k1 =>
        have H := HA.out; clear HA
        simp only [laws_markText.l0] at H
        by_cases c3 : x0_1 > 0
        · rw [if_pos c3] at H; have c3b0 : decide (0 < x0_1) = true := decide_eq_true c3; clear c3
          obtain ⟨y749, hy749⟩ : ∃ y_ : List Int, y_ = (([(wrap64 (48 + (Int.tmod x0_1 10))) % 256] : List Int)) := ⟨_, rfl⟩
          replace H : (if (strOfNums y749).size + x3_1.size ≤ 9223372036854775807 then (laws_markText.l0 k1 (wrap64 (Int.tdiv x0_1 10)) ((strOfNums y749) ++ x3_1)) else (none)) = some r := by first | (rw [hy749]; with_reducible exact H) | (have H2_ := (Option.bind_some _ _).symm.trans H; rw [hy749]; with_reducible exact H2_) | (have H2_ := (Option.bind_some _ _).symm.trans H; with_reducible exact H2_) | with_reducible exact H | (rw [hy749]; exact H) | exact H
          have Ny749 := zq9 hy749; clear hy749
          by_cases c4 : (strOfNums y749).size + x3_1.size ≤ 9223372036854775807
          · rw [if_pos c4] at H
            have c4b0 := eq_true c4
            have c4b1 : decide ((strOfNums y749).size + x3_1.size ≤ 9223372036854775807) = true := decide_eq_true c4
            try have c4b2 : (9223372036854775807 < (strOfNums y749).size + x3_1.size) = False := eq_false (Nat.not_lt.2 c4)
            have H' := zq9 H; clear H
            go_wp2_with (first | ((with_reducible refine zq25 (N := 12) rfl ?_); refine Kd.R_lit (Kd.int .u8) _ 5 ?hg (N := 12) ?hd (xs := ([(wrap64 (48 + (Int.tmod x0_1 10))) % 256] : List Int)) (inner := [.int .u8 ((wrap64 (48 + (Int.tmod x0_1 10))) % 256)]) (ok := fun _ => True) (okp := fun _ => True) ?hr ?hp (fun _ hk => hk) trivial (Below.refl _ _) (Nat.le_refl _) (by simp) ?_; (case hd => rfl); (case hg => rfl); (case hr => first | (go_simp; done) | (go_simp; rfl)); (case hp => exact (Reps.one (show Kd.M (Kd.int .u8) _ _ _ ((wrap64 (48 + (Int.tmod x0_1 10))) % 256) [.int .u8 ((wrap64 (48 + (Int.tmod x0_1 10))) % 256)] from rfl) (Reps.none _ _))); intro v750 w5 ho6 hb hg_ hnew_; clear hg_ hnew_; (first | rw [← Ny749.out] at ho6 | (simp only [Int.reduceToNat] at ho6; rw [← Ny749.out] at ho6)); have n0_ := zq9 (Kd.R_lower ho6 (zq29 (by exact bl HB))); have n1_ := zq9 (zq27 (by exact bl HB) hb); clear HB; have HO751 := n0_; have HB := n1_; clear n0_ n1_; clear hb ho6; have hcv7 := own_string (P := Try.prog) Try.underlying36 Try.underlying5 Try.underlying9 (Kd.own_of_R HO751.out)))
            go_roundg k1
            case measure => have := HK1.out; omega
            case rel => exact ⟨(wrap64 (Int.tdiv x0_1 10)), ((strOfNums y749) ++ x3_1), (by first | rfl | (simp; done) | (simp [*]; done)), (by first | rfl | (simp; done) | (simp [*]; done)), H', ⟨by have := HK1.out; omega⟩, ⟨by exact bl HB⟩⟩
          · rw [if_neg c4] at H
            exact absurd H (by simp)
        · rw [if_neg c3] at H; have c3b0 : decide (0 < x0_1) = false := decide_eq_false c3; clear c3
          by_cases c8 : 1 + x3_1.size ≤ 9223372036854775807
          · rw [if_pos c8] at H
            have c8b0 := eq_true c8
            have c8b1 : decide (1 + x3_1.size ≤ 9223372036854775807) = true := decide_eq_true c8
            try have c8b2 : (9223372036854775807 < 1 + x3_1.size) = False := eq_false (Nat.not_lt.2 c8)
            obtain rfl := Option.some.inj H
            go_wp2
            go_ret
            exact fz (by exact bl HB)
          · rw [if_neg c8] at H
            exact absurd H (by simp)
set_option maxHeartbeats 8000000 in
set_option maxRecDepth 100000 in
theorem laws_markStringS.calls (k : Nat) (P0_ : Nat → Prop) (u9000_ : Value) (l0 : List ByteArray) (a1 : Int) (r1 : Int) (r2 : List ByteArray) (w0 w : World) (hB : Below w0.heap.size w0 w) (ho0 : Kd.R Kd.string 9 w w0.heap.size P0_ u9000_ l0) (h : laws_markStringS.f k l0 a1 = some (r1, r2)) :
    Calls Try.prog 25 #[u9000_, .int .i64 a1] w fun e w' => e = .returned (.int .i64 r1) ∧ Kd.R Kd.string 9 w' w0.heap.size (fun k_ => (P0_ k_ ∨ w.heap.size ≤ k_)) u9000_ r2 ∧ Below w0.heap.size w0 w' ∧ Kept w w' (fun k_ => P0_ k_) := by
  have HO0 := zq9 (show Kd.R Kd.string 9 w w0.heap.size (fun k_ => (P0_ k_ ∨ w.heap.size ≤ k_)) u9000_ l0 from Kd.R_mono ho0 (fun k_ hk => (.inl hk)))
  have HK := zq9 (Kept.refl w (fun k_ => P0_ k_))
  have HW0 := zq9 hB.size; have HB := zq9 hB; clear hB
  have H : (laws_markStringS.l0 k l0 a1 0) = some (r1, r2) := h
  clear h; have H' := zq9 H; clear H
  go_enter Try.func25, Try.ntmps25
  go_wp2
  go_loopg [1, 5] k (fun kq v1 v5 w' => ∃ (x0_1 : List ByteArray) (x1_1 : Int) (x5_1 : Int), v1 = .int .i64 x1_1 ∧ v5 = .int .i64 x5_1 ∧ Aside0 (laws_markStringS.l0 kq x0_1 x1_1 x5_1 = some (r1, r2)) ∧ Aside0 (kq ≤ k) ∧ Aside0 (Kd.R Kd.string 9 w' w0.heap.size (fun k_ => (P0_ k_ ∨ w.heap.size ≤ k_)) u9000_ x0_1) ∧ Aside0 (Kept w w' (fun k_ => P0_ k_)) ∧ Aside0 (Below w0.heap.size w0 w'))
  case atStart => exact ⟨(l0), (a1), (0), (by first | rfl | (simp; done) | (simp [*]; done)), (by first | rfl | (simp; done) | (simp [*]; done)), H', ⟨Nat.le_refl _⟩, ⟨by (with_reducible repeat (first | apply zq10 | apply zq11 | apply zq12)); exact HO0.out⟩, ⟨by repeat (first | (with_reducible first | exact HK.out | apply Kept.alloc | apply Kept.drewN | apply Kept.drew) | exact HK.out)⟩, ⟨by exact bl HB⟩⟩
  case round =>
    clear H'
    try clear c2
    try clear p2
    obtain ⟨x0_1, x1_1, x5_1, rfl, rfl, HA, HK1, HO_0, HK, HB⟩ := hrel
    cases gk with
    | zero => exact absurd HA.out (by simp [laws_markStringS.l0])
    | succ k1 =>
      have H := HA.out; clear HA
      simp only [laws_markStringS.l0] at H
      obtain ⟨Ao7, co7, eo7⟩ := Kd.R_slice HO_0.out
      subst eo7
      by_cases c3 : x5_1 < (x0_1.length : Int)
      · rw [if_pos c3] at H; have c3b0 : decide (x5_1 < (x0_1.length : Int)) = true := decide_eq_true c3; clear c3; replace H := Option.bind_eq_some_iff.mp H; obtain ⟨t752, A40, H⟩ := H
        try dsimp only at H
        have A4 := zq9 A40; clear A40
        by_cases c5 : 0 ≤ x5_1
        · rw [if_pos c5] at H; have c5b0 : decide (0 ≤ x5_1) = true := decide_eq_true c5; clear c5
          obtain ⟨y753, hy753⟩ : ∃ y_ : List ByteArray, y_ = (x0_1.set (x5_1 : Int).toNat t752) := ⟨_, rfl⟩
          replace H : (laws_markStringS.l0 k1 y753 (wrap64 (x1_1 + 1)) (wrap64 (x5_1 + 1))) = some (r1, r2) := by first | (rw [hy753]; with_reducible exact H) | (have H2_ := (Option.bind_some _ _).symm.trans H; rw [hy753]; with_reducible exact H2_) | (have H2_ := (Option.bind_some _ _).symm.trans H; with_reducible exact H2_) | with_reducible exact H | (rw [hy753]; exact H) | exact H
          have Ny753 := zq9 hy753; clear hy753; have H' := zq9 H; clear H
          go_wp2_with (first | ((with_reducible refine zq24 (f := 64) rfl ?_); refine gl (some 15) Try.func64 #[.int .i64 x1_1] ?_; (with_reducible refine (laws_markText.calls k1 x1_1 t752 _ A4.out).mono ?_); rintro e w8 ⟨rfl, hb⟩; refine ⟨_, rfl, ?_⟩; have n0_ := zq9 (Kd.R_below (by exact rz HO_0) hb); have n1_ := zq9 (Kept.below (S := (fun k_ => P0_ k_)) (by repeat (first | (with_reducible first | exact HK.out | apply Kept.alloc | apply Kept.drewN | apply Kept.drew) | exact HK.out)) hb); have n2_ := zq9 (zq27 (by exact bl HB) hb); clear HO_0; clear HK; clear HB; have HO_0 := n0_; have HK := n1_; have HB := n2_; clear n0_ n1_ n2_; (try clear hb); (try clear hb2); (try clear hk); (try clear hi); have p6 : 0 ≤ (x5_1 : Int) := of_decide_eq_true ‹_›; have q6 : (x5_1 : Int) < ((x0_1.length : Int) : Int) := of_decide_eq_true ‹_›; obtain ⟨go6, co6, eo6, gb6, gl6, cl6, HG6⟩ := Kd.R_form HO_0.out (by omega); (first | cases eo6 | (injection eo6 with ea_ en_ ec_; (first | subst ea_ | (injection ea_ with ea_; subst ea_)); subst ec_; clear en_)); have GB6 := zq9 gb6; have GG6 := zq9 HG6; clear gb6 gl6 HG6; have HMgo6 := zq9 (show (P0_ go6 ∨ w.heap.size ≤ go6) from (HO_0.out.1 _ rfl)); obtain ⟨hx6_0, hf6_0⟩ := Kd.R_celln (⟨#[]⟩ : ByteArray) HO_0.out (x5_1 : Int) p6 q6; replace p6 := eq_true p6; replace q6 := eq_true q6; obtain ⟨hy9_, hz9_⟩ := Kd.R_celln (⟨#[]⟩ : ByteArray) HO_0.out (x5_1 : Int) (of_decide_eq_true ‹_›) (of_decide_eq_true ‹_›); have HP9 := Kd.R_putg HO_0.out (x5_1 : Int) t752) | ((with_reducible refine zq26 (t := 9) (p := 16) rfl ?_); refine store_event (t := 9) (p := 16) (v := ?vo_w10) (w1 := (w8.setCell ⟨go6, (x5_1 : Int).toNat, none⟩ (.string t752))) ?hg ?ho ?hn ?hr ?_; (case ho => rfl); (case hg => rfl); (case hn => rfl); (case hr => first | (go_simp; done) | (go_simp; rfl)); intro w10 hw; have hg : w8.grownBy w10 (some go6) := (by rw [hw]; exact HP9.2); have hp_ : Kd.R Kd.string 9 w10 w0.heap.size (fun k_ => (P0_ k_ ∨ w.heap.size ≤ k_)) (.slice (some ⟨go6, 0, none⟩) x0_1.length co7) y753 := (by rw [hw, Ny753.out]; exact HP9.1); clear HP9; have n0_ := zq9 (hp_); have n1_ := zq9 ((by rw [hw]; exact zq28 (HB.out) GB6.out : Below w0.heap.size w0 w10)); have n2_ := zq9 (Kept.of_grown (S := (fun k_ => P0_ k_)) hg (by repeat (first | (with_reducible first | exact HK.out | apply Kept.alloc | apply Kept.drewN | apply Kept.drew) | exact HK.out)) (fun k_ e_ => (HO_0.out.1 k_ e_))); clear HO_0; clear HB; clear HK; have HO_0 := n0_; have HB := n1_; have HK := n2_; clear n0_ n1_ n2_; clear hg hw hp_))
          go_roundg k1
          case measure => have := HK1.out; omega
          case rel => exact ⟨(y753), (wrap64 (x1_1 + 1)), (wrap64 (x5_1 + 1)), (by first | rfl | (simp; done) | (simp [*]; done)), (by first | rfl | (simp; done) | (simp [*]; done)), H', ⟨by have := HK1.out; omega⟩, ⟨by (with_reducible repeat (first | apply zq10 | apply zq11 | apply zq12)); exact HO_0.out⟩, ⟨by repeat (first | (with_reducible first | exact HK.out | apply Kept.alloc | apply Kept.drewN | apply Kept.drew) | exact HK.out)⟩, ⟨by exact bl HB⟩⟩
        · rw [if_neg c5] at H
          exact absurd H (by simp)
      · rw [if_neg c3] at H; have c3b0 : decide (x5_1 < (x0_1.length : Int)) = false := decide_eq_false c3; clear c3
        simp only [Option.some.injEq, Prod.mk.injEq] at H
        obtain ⟨rfl, rfl⟩ := H
        go_wp2
        go_ret
        exact ⟨by first | rfl | (simp [errW_none, errW_some] <;> rfl) | (simp [*, errW_none, errW_some] <;> rfl), by (with_reducible repeat (first | apply zq10 | apply zq11 | apply zq12)); exact HO_0.out, by exact bl HB, by repeat (first | (with_reducible first | exact HK.out | apply Kept.alloc | apply Kept.drewN | apply Kept.drew) | exact HK.out)⟩
set_option maxHeartbeats 8000000 in
set_option maxRecDepth 100000 in
theorem laws_markScoreS.calls (k : Nat) (P0_ : Nat → Prop) (u9000_ : Value) (l0 : List (S99)) (a1 : Int) (r1 : Int) (r2 : List (S99)) (w0 w : World) (hB : Below w0.heap.size w0 w) (ho0 : Kd.R k99 99 w w0.heap.size P0_ u9000_ l0) (h : laws_markScoreS.f k l0 a1 = some (r1, r2)) :
    Calls Try.prog 69 #[u9000_, .int .i64 a1] w fun e w' => e = .returned (.int .i64 r1) ∧ Kd.R k99 99 w' w0.heap.size (fun k_ => (P0_ k_ ∨ w.heap.size ≤ k_)) u9000_ r2 ∧ Below w0.heap.size w0 w' ∧ Kept w w' (fun k_ => P0_ k_) := by
  have HO0 := zq9 (show Kd.R k99 99 w w0.heap.size (fun k_ => (P0_ k_ ∨ w.heap.size ≤ k_)) u9000_ l0 from Kd.R_mono ho0 (fun k_ hk => (.inl hk)))
  have HK := zq9 (Kept.refl w (fun k_ => P0_ k_))
  have HW0 := zq9 hB.size; have HB := zq9 hB; clear hB
  have H : (laws_markScoreS.l0 k l0 a1 0) = some (r1, r2) := h
  clear h; have H' := zq9 H; clear H
  go_enter Try.func69, Try.ntmps69
  go_wp2
  go_loopg [1, 5] k (fun kq v1 v5 w' => ∃ (x0_1 : List (S99)) (x1_1 : Int) (x5_1 : Int), v1 = .int .i64 x1_1 ∧ v5 = .int .i64 x5_1 ∧ Aside0 (laws_markScoreS.l0 kq x0_1 x1_1 x5_1 = some (r1, r2)) ∧ Aside0 (kq ≤ k) ∧ Aside0 (Kd.R k99 99 w' w0.heap.size (fun k_ => (P0_ k_ ∨ w.heap.size ≤ k_)) u9000_ x0_1) ∧ Aside0 (Kept w w' (fun k_ => P0_ k_)) ∧ Aside0 (Below w0.heap.size w0 w'))
  case atStart => exact ⟨(l0), (a1), (0), (by first | rfl | (simp; done) | (simp [*]; done)), (by first | rfl | (simp; done) | (simp [*]; done)), H', ⟨Nat.le_refl _⟩, ⟨by (with_reducible repeat (first | apply zq10 | apply zq11 | apply zq12)); exact HO0.out⟩, ⟨by repeat (first | (with_reducible first | exact HK.out | apply Kept.alloc | apply Kept.drewN | apply Kept.drew) | exact HK.out)⟩, ⟨by exact bl HB⟩⟩
  case round =>
    clear H'
    try clear p2
    obtain ⟨x0_1, x1_1, x5_1, rfl, rfl, HA, HK1, HO_0, HK, HB⟩ := hrel
    cases gk with
    | zero => exact absurd HA.out (by simp [laws_markScoreS.l0])
    | succ k1 =>
      have H := HA.out; clear HA
      simp only [laws_markScoreS.l0] at H
      obtain ⟨Ao8, co8, eo8⟩ := Kd.R_slice HO_0.out
      subst eo8
      by_cases c3 : x5_1 < (x0_1.length : Int)
      · rw [if_pos c3] at H; have c3b0 : decide (x5_1 < (x0_1.length : Int)) = true := decide_eq_true c3; clear c3; replace H := Option.bind_eq_some_iff.mp H; obtain ⟨t754, A40, H⟩ := H
        try dsimp only at H
        have A4 := zq9 A40; clear A40
        by_cases c5 : 0 ≤ x5_1
        · rw [if_pos c5] at H; have c5b0 : decide (0 ≤ x5_1) = true := decide_eq_true c5; clear c5
          obtain ⟨y755, hy755⟩ : ∃ y_ : List (S99), y_ = (x0_1.set (x5_1 : Int).toNat (⟨t754, (rd_T99 x0_1 x5_1).f1⟩ : S99)) := ⟨_, rfl⟩
          replace H : (laws_markScoreS.l0 k1 (y755.set (x5_1 : Int).toNat (⟨(rd_T99 y755 x5_1).f0, wrap64 (x1_1 + 1)⟩ : S99)) (wrap64 ((wrap64 (x1_1 + 1)) + 1)) (wrap64 (x5_1 + 1))) = some (r1, r2) := by first | (rw [hy755]; with_reducible exact H) | (have H2_ := (Option.bind_some _ _).symm.trans H; rw [hy755]; with_reducible exact H2_) | (have H2_ := (Option.bind_some _ _).symm.trans H; with_reducible exact H2_) | with_reducible exact H | (rw [hy755]; exact H) | exact H
          have Ny755 := zq9 hy755; clear hy755
          obtain ⟨y756, hy756⟩ : ∃ y_ : List (S99), y_ = (y755.set (x5_1 : Int).toNat (⟨(rd_T99 y755 x5_1).f0, wrap64 (x1_1 + 1)⟩ : S99)) := ⟨_, rfl⟩
          replace H : (laws_markScoreS.l0 k1 y756 (wrap64 ((wrap64 (x1_1 + 1)) + 1)) (wrap64 (x5_1 + 1))) = some (r1, r2) := by first | (rw [hy756]; with_reducible exact H) | (have H2_ := (Option.bind_some _ _).symm.trans H; rw [hy756]; with_reducible exact H2_) | (have H2_ := (Option.bind_some _ _).symm.trans H; with_reducible exact H2_) | with_reducible exact H | (rw [hy756]; exact H) | exact H
          have Ny756 := zq9 hy756; clear hy756; have H' := zq9 H; clear H
          go_wp2_with (first | ((with_reducible refine zq24 (f := 64) rfl ?_); refine gl (some 15) Try.func64 #[.int .i64 x1_1] ?_; (with_reducible refine (laws_markText.calls k1 x1_1 t754 _ A4.out).mono ?_); rintro e w9 ⟨rfl, hb⟩; refine ⟨_, rfl, ?_⟩; have n0_ := zq9 (Kd.R_below (by exact rz HO_0) hb); have n1_ := zq9 (Kept.below (S := (fun k_ => P0_ k_)) (by repeat (first | (with_reducible first | exact HK.out | apply Kept.alloc | apply Kept.drewN | apply Kept.drew) | exact HK.out)) hb); have n2_ := zq9 (zq27 (by exact bl HB) hb); clear HO_0; clear HK; clear HB; have HO_0 := n0_; have HK := n1_; have HB := n2_; clear n0_ n1_ n2_; (try clear hb); (try clear hb2); (try clear hk); (try clear hi); have p6 : 0 ≤ (x5_1 : Int) := of_decide_eq_true ‹_›; have q6 : (x5_1 : Int) < ((x0_1.length : Int) : Int) := of_decide_eq_true ‹_›; obtain ⟨go6, co6, eo6, gb6, gl6, cl6, HG6⟩ := Kd.R_form HO_0.out (by omega); (first | cases eo6 | (injection eo6 with ea_ en_ ec_; (first | subst ea_ | (injection ea_ with ea_; subst ea_)); subst ec_; clear en_)); have GB6 := zq9 gb6; have GG6 := zq9 HG6; clear gb6 gl6 HG6; have HMgo6 := zq9 (show (P0_ go6 ∨ w.heap.size ≤ go6) from (HO_0.out.1 _ rfl)); obtain ⟨ce6, hcl6, hM6, hcc6, hfr6⟩ := Kd.R_elem HO_0.out z99 (x5_1 : Int) p6 q6; obtain rfl := k99_openM hM6; have hx6_0 : w9.cell? ⟨go6, (x5_1 : Int).toNat * 2, none⟩ = some (.string ((rd_T99 x0_1 x5_1).f0)) := hcc6 0 _ rfl; have hx6_1 : w9.cell? ⟨go6, (x5_1 : Int).toNat * 2 + 1, none⟩ = some (.int .i64 ((rd_T99 x0_1 x5_1).f1)) := hcc6 1 _ rfl; have hf6_0 : w9.frozen? ⟨go6, (x5_1 : Int).toNat * 2, none⟩ = false := hfr6 0; have hf6_1 : w9.frozen? ⟨go6, (x5_1 : Int).toNat * 2 + 1, none⟩ = false := hfr6 1; clear hcl6 hcc6 hfr6 hM6; replace p6 := eq_true p6; replace q6 := eq_true q6; have HX10 := zq9 (show Kd.R k99 99 w9 w0.heap.size (fun k_ => (P0_ k_ ∨ w.heap.size ≤ k_)) (.slice (some ⟨go6, 0, none⟩) x0_1.length co8) x0_1 from (by exact rz HO_0)); obtain ⟨ce10, hcl10, hM10, hcc10, hfr10⟩ := Kd.R_elem HX10.out z99 (x5_1 : Int) (of_decide_eq_true ‹_›) (by have h_ : (x5_1 : Int) < ((x0_1.length : Int) : Int) := of_decide_eq_true ‹_›; first | exact h_ | (have e_ := (Kd.R_reads' HO_0.out).1; omega) | simpa using h_); obtain rfl := k99_openM hM10; have HP10 := Kd.R_seg HX10.out (x5_1 : Int) (of_decide_eq_true ‹_›) (by have h_ : (x5_1 : Int) < ((x0_1.length : Int) : Int) := of_decide_eq_true ‹_›; first | exact h_ | (have e_ := (Kd.R_reads' HO_0.out).1; omega) | simpa using h_) (seg := [.string t754]) (j := 0) hcl10 hcc10 (show 1 ≤ 2 from by decide) (x' := (⟨t754, (rd_T99 x0_1 x5_1).f1⟩ : S99)) (k99_mkM _ _ _ (⟨t754, (rd_T99 x0_1 x5_1).f1⟩ : S99) ) (fun _ hk => hk); have hx10_0 := hcc10 0 _ rfl; (try simp only [show (k99).sz = 2 from rfl, Nat.mul_one, Nat.add_zero] at hx10_0); have hf10_0 := hfr10 0; (try simp only [show (k99).sz = 2 from rfl, Nat.mul_one, Nat.add_zero] at hf10_0); clear hcl10 hcc10 hfr10 hM10) | ((with_reducible refine zq26 (t := 9) (p := 17) rfl ?_); refine store_event (t := 9) (p := 17) (v := ?vo_w11) (w1 := (w9.setCell ⟨go6, (x5_1 : Int).toNat * 2, none⟩ (.string t754))) ?hg ?ho ?hn ?hr ?_; (case ho => rfl); (case hg => rfl); (case hn => rfl); (case hr => first | (go_simp; done) | (go_simp; rfl)); intro w11 hw; have hg : w9.grownBy w11 (some go6) := (by rw [hw]; exact HP10.2); have hp_ : Kd.R k99 99 w11 w0.heap.size (fun k_ => (P0_ k_ ∨ w.heap.size ≤ k_)) (.slice (some ⟨go6, 0, none⟩) x0_1.length co8) y755 := (by rw [hw, Ny755.out]; exact HP10.1); clear HP10; have n0_ := zq9 (hp_); have n1_ := zq9 ((by rw [hw]; exact zq28 (HB.out) GB6.out : Below w0.heap.size w0 w11)); have n2_ := zq9 (Kept.of_grown (S := (fun k_ => P0_ k_)) hg (by repeat (first | (with_reducible first | exact HK.out | apply Kept.alloc | apply Kept.drewN | apply Kept.drew) | exact HK.out)) (fun k_ e_ => (HO_0.out.1 k_ e_))); clear HO_0; clear HB; clear HK; have HO_0 := n0_; have HB := n1_; have HK := n2_; clear n0_ n1_ n2_; clear hg hw hp_; have p7 : 0 ≤ (x5_1 : Int) := of_decide_eq_true ‹_›; have q7 : (x5_1 : Int) < ((x0_1.length : Int) : Int) := of_decide_eq_true ‹_›; obtain ⟨ce7, hcl7, hM7, hcc7, hfr7⟩ := Kd.R_elem HO_0.out z99 (x5_1 : Int) p7 q7; obtain rfl := k99_openM hM7; have hx7_0 : w11.cell? ⟨go6, (x5_1 : Int).toNat * 2, none⟩ = some (.string ((rd_T99 y755 x5_1).f0)) := hcc7 0 _ rfl; have hx7_1 : w11.cell? ⟨go6, (x5_1 : Int).toNat * 2 + 1, none⟩ = some (.int .i64 ((rd_T99 y755 x5_1).f1)) := hcc7 1 _ rfl; have hf7_0 : w11.frozen? ⟨go6, (x5_1 : Int).toNat * 2, none⟩ = false := hfr7 0; have hf7_1 : w11.frozen? ⟨go6, (x5_1 : Int).toNat * 2 + 1, none⟩ = false := hfr7 1; clear hcl7 hcc7 hfr7 hM7; replace p7 := eq_true p7; replace q7 := eq_true q7; have HX12 := zq9 (show Kd.R k99 99 w11 w0.heap.size (fun k_ => (P0_ k_ ∨ w.heap.size ≤ k_)) (.slice (some ⟨go6, 0, none⟩) x0_1.length co8) y755 from (by exact rz HO_0)); obtain ⟨ce12, hcl12, hM12, hcc12, hfr12⟩ := Kd.R_elem HX12.out z99 (x5_1 : Int) (of_decide_eq_true ‹_›) (by have h_ : (x5_1 : Int) < ((x0_1.length : Int) : Int) := of_decide_eq_true ‹_›; first | exact h_ | (have e_ := (Kd.R_reads' HO_0.out).1; omega) | simpa using h_); obtain rfl := k99_openM hM12; have HP12 := Kd.R_seg HX12.out (x5_1 : Int) (of_decide_eq_true ‹_›) (by have h_ : (x5_1 : Int) < ((x0_1.length : Int) : Int) := of_decide_eq_true ‹_›; first | exact h_ | (have e_ := (Kd.R_reads' HO_0.out).1; omega) | simpa using h_) (seg := [.int .i64 (wrap64 (x1_1 + 1))]) (j := 1) hcl12 hcc12 (show 2 ≤ 2 from by decide) (x' := (⟨(rd_T99 y755 x5_1).f0, wrap64 (x1_1 + 1)⟩ : S99)) (k99_mkM _ _ _ (⟨(rd_T99 y755 x5_1).f0, wrap64 (x1_1 + 1)⟩ : S99) ) (fun _ hk => hk); have hx12_1 := hcc12 1 _ rfl; (try simp only [show (k99).sz = 2 from rfl, Nat.mul_one, Nat.add_zero] at hx12_1); have hf12_1 := hfr12 1; (try simp only [show (k99).sz = 2 from rfl, Nat.mul_one, Nat.add_zero] at hf12_1); clear hcl12 hcc12 hfr12 hM12) | ((with_reducible refine zq26 (t := 3) (p := 24) rfl ?_); refine store_event (t := 3) (p := 24) (v := ?vo_w13) (w1 := (w11.setCell ⟨go6, (x5_1 : Int).toNat * 2 + 1, none⟩ (.int .i64 (wrap64 (x1_1 + 1))))) ?hg ?ho ?hn ?hr ?_; (case ho => rfl); (case hg => rfl); (case hn => rfl); (case hr => first | (go_simp; done) | (go_simp; rfl)); intro w13 hw; have hg : w11.grownBy w13 (some go6) := (by rw [hw]; exact HP12.2); have hp_ : Kd.R k99 99 w13 w0.heap.size (fun k_ => (P0_ k_ ∨ w.heap.size ≤ k_)) (.slice (some ⟨go6, 0, none⟩) x0_1.length co8) y756 := (by rw [hw, Ny756.out]; exact HP12.1); clear HP12; have n0_ := zq9 (hp_); have n1_ := zq9 ((by rw [hw]; exact zq28 (HB.out) GB6.out : Below w0.heap.size w0 w13)); have n2_ := zq9 (Kept.of_grown (S := (fun k_ => P0_ k_)) hg (by repeat (first | (with_reducible first | exact HK.out | apply Kept.alloc | apply Kept.drewN | apply Kept.drew) | exact HK.out)) (fun k_ e_ => (HO_0.out.1 k_ e_))); clear HO_0; clear HB; clear HK; have HO_0 := n0_; have HB := n1_; have HK := n2_; clear n0_ n1_ n2_; clear hg hw hp_))
          go_roundg k1
          case measure => have := HK1.out; omega
          case rel => exact ⟨(y756), (wrap64 ((wrap64 (x1_1 + 1)) + 1)), (wrap64 (x5_1 + 1)), (by first | rfl | (simp; done) | (simp [*]; done)), (by first | rfl | (simp; done) | (simp [*]; done)), H', ⟨by have := HK1.out; omega⟩, ⟨by (with_reducible repeat (first | apply zq10 | apply zq11 | apply zq12)); exact HO_0.out⟩, ⟨by repeat (first | (with_reducible first | exact HK.out | apply Kept.alloc | apply Kept.drewN | apply Kept.drew) | exact HK.out)⟩, ⟨by exact bl HB⟩⟩
        · rw [if_neg c5] at H
          exact absurd H (by simp)
      · rw [if_neg c3] at H; have c3b0 : decide (x5_1 < (x0_1.length : Int)) = false := decide_eq_false c3; clear c3
        simp only [Option.some.injEq, Prod.mk.injEq] at H
        obtain ⟨rfl, rfl⟩ := H
        go_wp2
        go_ret
        exact ⟨by first | rfl | (simp [errW_none, errW_some] <;> rfl) | (simp [*, errW_none, errW_some] <;> rfl), by (with_reducible repeat (first | apply zq10 | apply zq11 | apply zq12)); exact HO_0.out, by exact bl HB, by repeat (first | (with_reducible first | exact HK.out | apply Kept.alloc | apply Kept.drewN | apply Kept.drew) | exact HK.out)⟩
set_option maxHeartbeats 8000000 in
set_option maxRecDepth 100000 in
theorem laws_markPairS.calls (k : Nat) (P0_ : Nat → Prop) (u9000_ : Value) (l0 : List (S101)) (a1 : Int) (r1 : Int) (r2 : List (S101)) (w0 w : World) (hB : Below w0.heap.size w0 w) (ho0 : Kd.R k101 101 w w0.heap.size P0_ u9000_ l0) (h : laws_markPairS.f k l0 a1 = some (r1, r2)) :
    Calls Try.prog 70 #[u9000_, .int .i64 a1] w fun e w' => e = .returned (.int .i64 r1) ∧ Kd.R k101 101 w' w0.heap.size (fun k_ => (P0_ k_ ∨ w.heap.size ≤ k_)) u9000_ r2 ∧ Below w0.heap.size w0 w' ∧ Kept w w' (fun k_ => P0_ k_) := by
  have HO0 := zq9 (show Kd.R k101 101 w w0.heap.size (fun k_ => (P0_ k_ ∨ w.heap.size ≤ k_)) u9000_ l0 from Kd.R_mono ho0 (fun k_ hk => (.inl hk)))
  have HK := zq9 (Kept.refl w (fun k_ => P0_ k_))
  have HW0 := zq9 hB.size; have HB := zq9 hB; clear hB
  have H : (laws_markPairS.l0 k l0 a1 0) = some (r1, r2) := h
  clear h; have H' := zq9 H; clear H
  go_enter Try.func70, Try.ntmps70
  go_wp2
  go_loopg [1, 5] k (fun kq v1 v5 w' => ∃ (x0_1 : List (S101)) (x1_1 : Int) (x5_1 : Int), v1 = .int .i64 x1_1 ∧ v5 = .int .i64 x5_1 ∧ Aside0 (laws_markPairS.l0 kq x0_1 x1_1 x5_1 = some (r1, r2)) ∧ Aside0 (kq ≤ k) ∧ Aside0 (Kd.R k101 101 w' w0.heap.size (fun k_ => (P0_ k_ ∨ w.heap.size ≤ k_)) u9000_ x0_1) ∧ Aside0 (Kept w w' (fun k_ => P0_ k_)) ∧ Aside0 (Below w0.heap.size w0 w'))
  case atStart => exact ⟨(l0), (a1), (0), (by first | rfl | (simp; done) | (simp [*]; done)), (by first | rfl | (simp; done) | (simp [*]; done)), H', ⟨Nat.le_refl _⟩, ⟨by (with_reducible repeat (first | apply zq10 | apply zq11 | apply zq12)); exact HO0.out⟩, ⟨by repeat (first | (with_reducible first | exact HK.out | apply Kept.alloc | apply Kept.drewN | apply Kept.drew) | exact HK.out)⟩, ⟨by exact bl HB⟩⟩
  case round =>
    clear H'
    try clear p2
    obtain ⟨x0_1, x1_1, x5_1, rfl, rfl, HA, HK1, HO_0, HK, HB⟩ := hrel
    cases gk with
    | zero => exact absurd HA.out (by simp [laws_markPairS.l0])
    | succ k1 =>
      have H := HA.out; clear HA
      simp only [laws_markPairS.l0] at H
      obtain ⟨Ao9, co9, eo9⟩ := Kd.R_slice HO_0.out
      subst eo9
      by_cases c3 : x5_1 < (x0_1.length : Int)
      · rw [if_pos c3] at H; have c3b0 : decide (x5_1 < (x0_1.length : Int)) = true := decide_eq_true c3; clear c3; replace H := Option.bind_eq_some_iff.mp H; obtain ⟨t757, A40, H⟩ := H
        try dsimp only at H
        have A4 := zq9 A40; clear A40
        by_cases c5 : 0 ≤ x5_1
        · rw [if_pos c5] at H; have c5b0 : decide (0 ≤ x5_1) = true := decide_eq_true c5; clear c5
          obtain ⟨y758, hy758⟩ : ∃ y_ : List (S101), y_ = (x0_1.set (x5_1 : Int).toNat (⟨t757, (rd_T101 x0_1 x5_1).f1⟩ : S101)) := ⟨_, rfl⟩
          replace H : ((laws_markText.f k1 (wrap64 (x1_1 + 1))).bind fun t759 => (laws_markPairS.l0 k1 (y758.set (x5_1 : Int).toNat (⟨(rd_T101 y758 x5_1).f0, t759⟩ : S101)) (wrap64 ((wrap64 (x1_1 + 1)) + 1)) (wrap64 (x5_1 + 1)))) = some (r1, r2) := by first | (rw [hy758]; with_reducible exact H) | (have H2_ := (Option.bind_some _ _).symm.trans H; rw [hy758]; with_reducible exact H2_) | (have H2_ := (Option.bind_some _ _).symm.trans H; with_reducible exact H2_) | with_reducible exact H | (rw [hy758]; exact H) | exact H
          have Ny758 := zq9 hy758; clear hy758; replace H := Option.bind_eq_some_iff.mp H; obtain ⟨t759, A70, H⟩ := H
          try dsimp only at H
          have A7 := zq9 A70; clear A70
          obtain ⟨y760, hy760⟩ : ∃ y_ : List (S101), y_ = (y758.set (x5_1 : Int).toNat (⟨(rd_T101 y758 x5_1).f0, t759⟩ : S101)) := ⟨_, rfl⟩
          replace H : (laws_markPairS.l0 k1 y760 (wrap64 ((wrap64 (x1_1 + 1)) + 1)) (wrap64 (x5_1 + 1))) = some (r1, r2) := by first | (rw [hy760]; with_reducible exact H) | (have H2_ := (Option.bind_some _ _).symm.trans H; rw [hy760]; with_reducible exact H2_) | (have H2_ := (Option.bind_some _ _).symm.trans H; with_reducible exact H2_) | with_reducible exact H | (rw [hy760]; exact H) | exact H
          have Ny760 := zq9 hy760; clear hy760; have H' := zq9 H; clear H
          go_wp2_with (first | ((with_reducible refine zq24 (f := 64) rfl ?_); refine gl (some 15) Try.func64 #[.int .i64 x1_1] ?_; (with_reducible refine (laws_markText.calls k1 x1_1 t757 _ A4.out).mono ?_); rintro e w10 ⟨rfl, hb⟩; refine ⟨_, rfl, ?_⟩; have n0_ := zq9 (Kd.R_below (by exact rz HO_0) hb); have n1_ := zq9 (Kept.below (S := (fun k_ => P0_ k_)) (by repeat (first | (with_reducible first | exact HK.out | apply Kept.alloc | apply Kept.drewN | apply Kept.drew) | exact HK.out)) hb); have n2_ := zq9 (zq27 (by exact bl HB) hb); clear HO_0; clear HK; clear HB; have HO_0 := n0_; have HK := n1_; have HB := n2_; clear n0_ n1_ n2_; (try clear hb); (try clear hb2); (try clear hk); (try clear hi); have p6 : 0 ≤ (x5_1 : Int) := of_decide_eq_true ‹_›; have q6 : (x5_1 : Int) < ((x0_1.length : Int) : Int) := of_decide_eq_true ‹_›; obtain ⟨go6, co6, eo6, gb6, gl6, cl6, HG6⟩ := Kd.R_form HO_0.out (by omega); (first | cases eo6 | (injection eo6 with ea_ en_ ec_; (first | subst ea_ | (injection ea_ with ea_; subst ea_)); subst ec_; clear en_)); have GB6 := zq9 gb6; have GG6 := zq9 HG6; clear gb6 gl6 HG6; have HMgo6 := zq9 (show (P0_ go6 ∨ w.heap.size ≤ go6) from (HO_0.out.1 _ rfl)); obtain ⟨ce6, hcl6, hM6, hcc6, hfr6⟩ := Kd.R_elem HO_0.out z101 (x5_1 : Int) p6 q6; obtain rfl := k101_openM hM6; have hx6_0 : w10.cell? ⟨go6, (x5_1 : Int).toNat * 2, none⟩ = some (.string ((rd_T101 x0_1 x5_1).f0)) := hcc6 0 _ rfl; have hx6_1 : w10.cell? ⟨go6, (x5_1 : Int).toNat * 2 + 1, none⟩ = some (.string ((rd_T101 x0_1 x5_1).f1)) := hcc6 1 _ rfl; have hf6_0 : w10.frozen? ⟨go6, (x5_1 : Int).toNat * 2, none⟩ = false := hfr6 0; have hf6_1 : w10.frozen? ⟨go6, (x5_1 : Int).toNat * 2 + 1, none⟩ = false := hfr6 1; clear hcl6 hcc6 hfr6 hM6; replace p6 := eq_true p6; replace q6 := eq_true q6; have HX11 := zq9 (show Kd.R k101 101 w10 w0.heap.size (fun k_ => (P0_ k_ ∨ w.heap.size ≤ k_)) (.slice (some ⟨go6, 0, none⟩) x0_1.length co9) x0_1 from (by exact rz HO_0)); obtain ⟨ce11, hcl11, hM11, hcc11, hfr11⟩ := Kd.R_elem HX11.out z101 (x5_1 : Int) (of_decide_eq_true ‹_›) (by have h_ : (x5_1 : Int) < ((x0_1.length : Int) : Int) := of_decide_eq_true ‹_›; first | exact h_ | (have e_ := (Kd.R_reads' HO_0.out).1; omega) | simpa using h_); obtain rfl := k101_openM hM11; have HP11 := Kd.R_seg HX11.out (x5_1 : Int) (of_decide_eq_true ‹_›) (by have h_ : (x5_1 : Int) < ((x0_1.length : Int) : Int) := of_decide_eq_true ‹_›; first | exact h_ | (have e_ := (Kd.R_reads' HO_0.out).1; omega) | simpa using h_) (seg := [.string t757]) (j := 0) hcl11 hcc11 (show 1 ≤ 2 from by decide) (x' := (⟨t757, (rd_T101 x0_1 x5_1).f1⟩ : S101)) (k101_mkM _ _ _ (⟨t757, (rd_T101 x0_1 x5_1).f1⟩ : S101) ) (fun _ hk => hk); have hx11_0 := hcc11 0 _ rfl; (try simp only [show (k101).sz = 2 from rfl, Nat.mul_one, Nat.add_zero] at hx11_0); have hf11_0 := hfr11 0; (try simp only [show (k101).sz = 2 from rfl, Nat.mul_one, Nat.add_zero] at hf11_0); clear hcl11 hcc11 hfr11 hM11) | ((with_reducible refine zq26 (t := 9) (p := 17) rfl ?_); refine store_event (t := 9) (p := 17) (v := ?vo_w12) (w1 := (w10.setCell ⟨go6, (x5_1 : Int).toNat * 2, none⟩ (.string t757))) ?hg ?ho ?hn ?hr ?_; (case ho => rfl); (case hg => rfl); (case hn => rfl); (case hr => first | (go_simp; done) | (go_simp; rfl)); intro w12 hw; have hg : w10.grownBy w12 (some go6) := (by rw [hw]; exact HP11.2); have hp_ : Kd.R k101 101 w12 w0.heap.size (fun k_ => (P0_ k_ ∨ w.heap.size ≤ k_)) (.slice (some ⟨go6, 0, none⟩) x0_1.length co9) y758 := (by rw [hw, Ny758.out]; exact HP11.1); clear HP11; have n0_ := zq9 (hp_); have n1_ := zq9 ((by rw [hw]; exact zq28 (HB.out) GB6.out : Below w0.heap.size w0 w12)); have n2_ := zq9 (Kept.of_grown (S := (fun k_ => P0_ k_)) hg (by repeat (first | (with_reducible first | exact HK.out | apply Kept.alloc | apply Kept.drewN | apply Kept.drew) | exact HK.out)) (fun k_ e_ => (HO_0.out.1 k_ e_))); clear HO_0; clear HB; clear HK; have HO_0 := n0_; have HB := n1_; have HK := n2_; clear n0_ n1_ n2_; clear hg hw hp_) | ((with_reducible refine zq24 (f := 64) rfl ?_); refine gl (some 23) Try.func64 #[.int .i64 (wrap64 (x1_1 + 1))] ?_; (with_reducible refine (laws_markText.calls k1 (wrap64 (x1_1 + 1)) t759 _ A7.out).mono ?_); rintro e w13 ⟨rfl, hb⟩; refine ⟨_, rfl, ?_⟩; have n0_ := zq9 (Kd.R_below (by exact rz HO_0) hb); have n1_ := zq9 (Kept.below (S := (fun k_ => P0_ k_)) (by repeat (first | (with_reducible first | exact HK.out | apply Kept.alloc | apply Kept.drewN | apply Kept.drew) | exact HK.out)) hb); have n2_ := zq9 (zq27 (by exact bl HB) hb); clear HO_0; clear HK; clear HB; have HO_0 := n0_; have HK := n1_; have HB := n2_; clear n0_ n1_ n2_; (try clear hb); (try clear hb2); (try clear hk); (try clear hi); have p8 : 0 ≤ (x5_1 : Int) := of_decide_eq_true ‹_›; have q8 : (x5_1 : Int) < ((x0_1.length : Int) : Int) := of_decide_eq_true ‹_›; obtain ⟨ce8, hcl8, hM8, hcc8, hfr8⟩ := Kd.R_elem HO_0.out z101 (x5_1 : Int) p8 q8; obtain rfl := k101_openM hM8; have hx8_0 : w13.cell? ⟨go6, (x5_1 : Int).toNat * 2, none⟩ = some (.string ((rd_T101 y758 x5_1).f0)) := hcc8 0 _ rfl; have hx8_1 : w13.cell? ⟨go6, (x5_1 : Int).toNat * 2 + 1, none⟩ = some (.string ((rd_T101 y758 x5_1).f1)) := hcc8 1 _ rfl; have hf8_0 : w13.frozen? ⟨go6, (x5_1 : Int).toNat * 2, none⟩ = false := hfr8 0; have hf8_1 : w13.frozen? ⟨go6, (x5_1 : Int).toNat * 2 + 1, none⟩ = false := hfr8 1; clear hcl8 hcc8 hfr8 hM8; replace p8 := eq_true p8; replace q8 := eq_true q8; have HX14 := zq9 (show Kd.R k101 101 w13 w0.heap.size (fun k_ => (P0_ k_ ∨ w.heap.size ≤ k_)) (.slice (some ⟨go6, 0, none⟩) x0_1.length co9) y758 from (by exact rz HO_0)); obtain ⟨ce14, hcl14, hM14, hcc14, hfr14⟩ := Kd.R_elem HX14.out z101 (x5_1 : Int) (of_decide_eq_true ‹_›) (by have h_ : (x5_1 : Int) < ((x0_1.length : Int) : Int) := of_decide_eq_true ‹_›; first | exact h_ | (have e_ := (Kd.R_reads' HO_0.out).1; omega) | simpa using h_); obtain rfl := k101_openM hM14; have HP14 := Kd.R_seg HX14.out (x5_1 : Int) (of_decide_eq_true ‹_›) (by have h_ : (x5_1 : Int) < ((x0_1.length : Int) : Int) := of_decide_eq_true ‹_›; first | exact h_ | (have e_ := (Kd.R_reads' HO_0.out).1; omega) | simpa using h_) (seg := [.string t759]) (j := 1) hcl14 hcc14 (show 2 ≤ 2 from by decide) (x' := (⟨(rd_T101 y758 x5_1).f0, t759⟩ : S101)) (k101_mkM _ _ _ (⟨(rd_T101 y758 x5_1).f0, t759⟩ : S101) ) (fun _ hk => hk); have hx14_1 := hcc14 1 _ rfl; (try simp only [show (k101).sz = 2 from rfl, Nat.mul_one, Nat.add_zero] at hx14_1); have hf14_1 := hfr14 1; (try simp only [show (k101).sz = 2 from rfl, Nat.mul_one, Nat.add_zero] at hf14_1); clear hcl14 hcc14 hfr14 hM14) | ((with_reducible refine zq26 (t := 9) (p := 25) rfl ?_); refine store_event (t := 9) (p := 25) (v := ?vo_w15) (w1 := (w13.setCell ⟨go6, (x5_1 : Int).toNat * 2 + 1, none⟩ (.string t759))) ?hg ?ho ?hn ?hr ?_; (case ho => rfl); (case hg => rfl); (case hn => rfl); (case hr => first | (go_simp; done) | (go_simp; rfl)); intro w15 hw; have hg : w13.grownBy w15 (some go6) := (by rw [hw]; exact HP14.2); have hp_ : Kd.R k101 101 w15 w0.heap.size (fun k_ => (P0_ k_ ∨ w.heap.size ≤ k_)) (.slice (some ⟨go6, 0, none⟩) x0_1.length co9) y760 := (by rw [hw, Ny760.out]; exact HP14.1); clear HP14; have n0_ := zq9 (hp_); have n1_ := zq9 ((by rw [hw]; exact zq28 (HB.out) GB6.out : Below w0.heap.size w0 w15)); have n2_ := zq9 (Kept.of_grown (S := (fun k_ => P0_ k_)) hg (by repeat (first | (with_reducible first | exact HK.out | apply Kept.alloc | apply Kept.drewN | apply Kept.drew) | exact HK.out)) (fun k_ e_ => (HO_0.out.1 k_ e_))); clear HO_0; clear HB; clear HK; have HO_0 := n0_; have HB := n1_; have HK := n2_; clear n0_ n1_ n2_; clear hg hw hp_))
          go_roundg k1
          case measure => have := HK1.out; omega
          case rel => exact ⟨(y760), (wrap64 ((wrap64 (x1_1 + 1)) + 1)), (wrap64 (x5_1 + 1)), (by first | rfl | (simp; done) | (simp [*]; done)), (by first | rfl | (simp; done) | (simp [*]; done)), H', ⟨by have := HK1.out; omega⟩, ⟨by (with_reducible repeat (first | apply zq10 | apply zq11 | apply zq12)); exact HO_0.out⟩, ⟨by repeat (first | (with_reducible first | exact HK.out | apply Kept.alloc | apply Kept.drewN | apply Kept.drew) | exact HK.out)⟩, ⟨by exact bl HB⟩⟩
        · rw [if_neg c5] at H
          exact absurd H (by simp)
      · rw [if_neg c3] at H; have c3b0 : decide (x5_1 < (x0_1.length : Int)) = false := decide_eq_false c3; clear c3
        simp only [Option.some.injEq, Prod.mk.injEq] at H
        obtain ⟨rfl, rfl⟩ := H
        go_wp2
        go_ret
        exact ⟨by first | rfl | (simp [errW_none, errW_some] <;> rfl) | (simp [*, errW_none, errW_some] <;> rfl), by (with_reducible repeat (first | apply zq10 | apply zq11 | apply zq12)); exact HO_0.out, by exact bl HB, by repeat (first | (with_reducible first | exact HK.out | apply Kept.alloc | apply Kept.drewN | apply Kept.drew) | exact HK.out)⟩
set_option maxHeartbeats 8000000 in
theorem laws_markEntryS.calls_lend {W : World} {b : Nat} {ok : Nat → Prop} {g n cap : Nat} {xs : List S32} (h : Kd.S k32 32 W b ok (.slice (some ⟨g, 0, none⟩) n cap) xs) (i : Int) (h0 : 0 ≤ i) (h1 : i < n) :
    ∃ oki v4 v5 v6, laws_markEntryS.L W b ok oki g n cap xs i (rd_T32 xs i) v4 v5 v6 := by
  obtain ⟨oki, c, hcl, hM, hcc, hoki, hH⟩ := Kd.S_lend h z32 i h0 h1
  obtain ⟨v4, v5, v6, rfl, g4, g5, g6⟩ := k32_openM hM
  exact ⟨oki, v4, v5, v6, hH, g4, g5, g6, hoki⟩
section
variable {W W' : World} {b : Nat} {ok oki : Nat → Prop} {g n cap : Nat} {xs : List S32} {i : Int} {x : S32} {v4 v5 v6 : Value}
theorem laws_markEntryS.calls_back (h : laws_markEntryS.L W b ok oki g n cap xs i x v4 v5 v6) : Kd.S k32 32 W b ok (.slice (some ⟨g, 0, none⟩) n cap) (xs.set i.toNat x) :=
  Kd.H_back h.1 (k32_mkM W b oki x h.2.1 h.2.2.1 h.2.2.2.1) (fun _ hk => hk)
theorem laws_markEntryS.calls_below (h : laws_markEntryS.L W b ok oki g n cap xs i x v4 v5 v6) (hb : Below W.heap.size W W') : laws_markEntryS.L W' b ok oki g n cap xs i x v4 v5 v6 :=
  ⟨Kd.H_below h.1 hb, Kd.R_below h.2.1 hb, Kd.R_below h.2.2.1 hb, Kd.R_below h.2.2.2.1 hb, h.2.2.2.2⟩
theorem laws_markEntryS.calls_at (h : laws_markEntryS.L W b ok oki g n cap xs i x v4 v5 v6) (h0 : 0 ≤ i) (h1 : i < n) :
    (∀ j u, [.string x.f0, .int .i64 x.f1, .int .i64 x.f2, .string x.f3, v4, v5, v6][j]? = some u → W.cell? ⟨g, i.toNat * 7 + j, none⟩ = some u) ∧ ∀ j, W.frozen? ⟨g, i.toNat * 7 + j, none⟩ = false := Kd.H_at h.1 h0 h1
theorem laws_markEntryS.calls_set (h : laws_markEntryS.L W b ok oki g n cap xs i x v4 v5 v6) (h0 : 0 ≤ i) (h1 : i < n) (j : Nat) (u : Value) (x' : S32) (hj : j + 1 ≤ 7) (hu : u.oneCell' = true)
    (hc : ([.string x.f0, .int .i64 x.f1, .int .i64 x.f2, .string x.f3, v4, v5, v6] : List Value).take j ++ [u] ++ ([.string x.f0, .int .i64 x.f1, .int .i64 x.f2, .string x.f3, v4, v5, v6] : List Value).drop (j + 1) = [.string x'.f0, .int .i64 x'.f1, .int .i64 x'.f2, .string x'.f3, v4, v5, v6])
    (e4 : x'.f4 = x.f4) (e5 : x'.f5 = x.f5) (e6 : x'.f6 = x.f6) :
    laws_markEntryS.L (W.setCells g (i.toNat * 7 + j) [u]) b ok oki g n cap xs i x' v4 v5 v6 ∧ W.grownBy (W.setCells g (i.toNat * 7 + j) [u]) (some g) := by
  obtain ⟨hH, h4, h5, h6, hok⟩ := h
  obtain ⟨a, hg⟩ := Kd.H_seg hH h0 h1 (seg := [u]) (j := j) hj (fun q hq => by rw [List.mem_singleton.1 hq]; exact hu)
  have hne : ∀ k, oki k → some k ≠ some g := fun k hk he => (hok k hk).2 (by injection he)
  refine ⟨⟨?_, ?_, ?_, ?_, hok⟩, hg⟩
  · have a' : Kd.H k32 32 (W.setCells g (i.toNat * 7 + j) [u]) b ok (.slice (some ⟨g, 0, none⟩) n cap) xs i oki (([.string x.f0, .int .i64 x.f1, .int .i64 x.f2, .string x.f3, v4, v5, v6] : List Value).take j ++ [u] ++ ([.string x.f0, .int .i64 x.f1, .int .i64 x.f2, .string x.f3, v4, v5, v6] : List Value).drop (j + 1)) := a
    rw [hc] at a'
    exact a'
  · rw [e4]; exact Kd.R_grown h4 hg hne
  · rw [e5]; exact Kd.R_grown h5 hg hne
  · rw [e6]; exact Kd.R_grown h6 hg hne
theorem laws_markEntryS.calls_apart {α β : Type} {d : Kd α} {d' : Kd β} {e e' : Nat} {u v : Value} {ys : List α} {zs : List β} {r : Nat → Prop} (h : d.R e W b oki u ys) (hE : d.E = []) (h' : d'.R e' W b r v zs) (hne : e ≠ e') (hk : Kept W W' (fun k => some k = v.ownBlock)) : d.R e W' b oki u ys :=
  Kd.R_mono (Kd.R_kept (Kd.R_tight hE h) hk (fun k hk1 hk2 => by
    obtain ⟨c1, hc1⟩ := Kd.R_typed h k hk1.symm
    obtain ⟨c2, hc2⟩ := Kd.R_typed h' k hk2.symm
    rw [hc1] at hc2
    injection hc2 with hc2
    injection hc2 with _ hc2
    exact hne hc2)) (fun k hk1 => h.1 k hk1.symm)
theorem laws_markEntryS.calls_row4 {r : List ByteArray} {x' : S32} (h : laws_markEntryS.L W b ok oki g n cap xs i x v4 v5 v6) (hk : Kept W W' (fun k => some k = v4.ownBlock)) (hr : Kd.string.R 9 W' b (fun k => some k = v4.ownBlock ∨ W.heap.size ≤ k) v4 r) (hx : x' = ⟨x.f0, x.f1, x.f2, x.f3, r, x.f5, x.f6⟩) : laws_markEntryS.L W' b ok oki g n cap xs i x' v4 v5 v6 := by
  subst hx
  obtain ⟨hH, h4, h5, h6, hok⟩ := h
  exact ⟨Kd.H_kept hH hk (fun k _ hn hs => hn (h4.1 k hs.symm)), Kd.R_reok rfl hr h4.1, laws_markEntryS.calls_apart h5 rfl h4 (by decide) hk, laws_markEntryS.calls_apart h6 rfl h4 (by decide) hk, hok⟩
theorem laws_markEntryS.calls_row5 {r : List S99} {x' : S32} (h : laws_markEntryS.L W b ok oki g n cap xs i x v4 v5 v6) (hk : Kept W W' (fun k => some k = v5.ownBlock)) (hr : k99.R 99 W' b (fun k => some k = v5.ownBlock ∨ W.heap.size ≤ k) v5 r) (hx : x' = ⟨x.f0, x.f1, x.f2, x.f3, x.f4, r, x.f6⟩) : laws_markEntryS.L W' b ok oki g n cap xs i x' v4 v5 v6 := by
  subst hx
  obtain ⟨hH, h4, h5, h6, hok⟩ := h
  exact ⟨Kd.H_kept hH hk (fun k _ hn hs => hn (h5.1 k hs.symm)), laws_markEntryS.calls_apart h4 rfl h5 (by decide) hk, Kd.R_reok rfl hr h5.1, laws_markEntryS.calls_apart h6 rfl h5 (by decide) hk, hok⟩
theorem laws_markEntryS.calls_row6 {r : List S101} {x' : S32} (h : laws_markEntryS.L W b ok oki g n cap xs i x v4 v5 v6) (hk : Kept W W' (fun k => some k = v6.ownBlock)) (hr : k101.R 101 W' b (fun k => some k = v6.ownBlock ∨ W.heap.size ≤ k) v6 r) (hx : x' = ⟨x.f0, x.f1, x.f2, x.f3, x.f4, x.f5, r⟩) : laws_markEntryS.L W' b ok oki g n cap xs i x' v4 v5 v6 := by
  subst hx
  obtain ⟨hH, h4, h5, h6, hok⟩ := h
  exact ⟨Kd.H_kept hH hk (fun k _ hn hs => hn (h6.1 k hs.symm)), laws_markEntryS.calls_apart h4 rfl h6 (by decide) hk, laws_markEntryS.calls_apart h5 rfl h6 (by decide) hk, Kd.R_reok rfl hr h6.1, hok⟩
theorem laws_markEntryS.calls_own (h : laws_markEntryS.L W b ok oki g n cap xs i x v4 v5 v6) : Kd.string.R 9 W b oki v4 x.f4 ∧ k99.R 99 W b oki v5 x.f5 ∧ k101.R 101 W b oki v6 x.f6 ∧ (∀ k, v4.ownBlock = some k → oki k) ∧ (∀ k, v5.ownBlock = some k → oki k) ∧ (∀ k, v6.ownBlock = some k → oki k) ∧ ∀ k, oki k → ok k ∧ k ≠ g :=
  ⟨h.2.1, h.2.2.1, h.2.2.2.1, h.2.1.1, h.2.2.1.1, h.2.2.2.1.1, h.2.2.2.2⟩
theorem laws_markEntryS.calls_keep {P : Nat → Prop} {w : World} {v : Value} (hk : Kept w W P) (hv : ∀ k, v.ownBlock = some k → oki k) (hok : ∀ k, oki k → P k ∧ k ≠ g) (h : Kept W W' (fun k => some k = v.ownBlock)) : Kept w W' P :=
  hk.then_ h (fun k hk2 => Or.inl (hok k (hv k hk2.symm)).1)
end
set_option maxHeartbeats 8000000 in
set_option maxRecDepth 100000 in
theorem laws_markEntryS.calls (k : Nat) (P0_ : Nat → Prop) (u9000_ : Value) (l0 : List (S32)) (a1 : Int) (r1 : Int) (r2 : List (S32)) (w0 w : World) (hB : Below w0.heap.size w0 w) (ho0 : Kd.S k32 32 w w0.heap.size P0_ u9000_ l0) (h : laws_markEntryS.f k l0 a1 = some (r1, r2)) :
    Calls Try.prog 63 #[u9000_, .int .i64 a1] w fun e w' => e = .returned (.int .i64 r1) ∧ Kd.S k32 32 w' w0.heap.size P0_ u9000_ r2 ∧ Below w0.heap.size w0 w' ∧ Kept w w' (fun k_ => P0_ k_) := by
  have HO0 := zq9 ho0
  have HK := zq9 (Kept.refl w (fun k_ => P0_ k_))
  have HB := zq9 hB; clear hB
  have H' := zq9 (show laws_markEntryS.l0 k l0 a1 0 = some (r1, r2) from h)
  clear h ho0
  go_enter Try.func63, Try.ntmps63
  go_wp2
  go_loopg [1, 5] k (fun kq v1 v5 w' => ∃ (x0_1 : List (S32)) (x1_1 : Int) (x5_1 : Int), v1 = .int .i64 x1_1 ∧ v5 = .int .i64 x5_1 ∧ Aside0 (laws_markEntryS.l0 kq x0_1 x1_1 x5_1 = some (r1, r2)) ∧ Aside0 (kq ≤ k) ∧ Aside0 (Kd.S k32 32 w' w0.heap.size P0_ u9000_ x0_1) ∧ Aside0 (Kept w w' (fun k_ => P0_ k_)) ∧ Aside0 (Below w0.heap.size w0 w'))
  case atStart => exact ⟨(l0), (a1), (0), rfl, rfl, H', ⟨Nat.le_refl _⟩, HO0, HK, HB⟩
  case round =>
    clear H' HO0 HK HB
    obtain ⟨x0_1, x1_1, x5_1, rfl, rfl, HA, HK1, HO_0, HK, HB⟩ := hrel
    cases gk with
    | zero => exact absurd HA.out (by simp [laws_markEntryS.l0])
    | succ k1 =>
      have H := HA.out; clear HA
      simp only [laws_markEntryS.l0] at H
      by_cases c3 : x5_1 < (x0_1.length : Int)
      · rw [if_pos c3] at H; have c3b0 : decide (x5_1 < (x0_1.length : Int)) = true := decide_eq_true c3
        by_cases c5 : 0 ≤ x5_1
        · rw [if_pos c5] at H; have c5b0 : decide (0 ≤ x5_1) = true := decide_eq_true c5
          obtain ⟨t0, A0, H⟩ := Option.bind_eq_some_iff.mp H
          obtain ⟨t1, A1, H⟩ := Option.bind_eq_some_iff.mp H
          obtain ⟨⟨a4, l4⟩, A4, H⟩ := Option.bind_eq_some_iff.mp H
          obtain ⟨⟨a5, l5⟩, A5, H⟩ := Option.bind_eq_some_iff.mp H
          obtain ⟨⟨a6, l6⟩, A6, H⟩ := Option.bind_eq_some_iff.mp H
          replace A0 := zq9 A0
          replace A1 := zq9 A1
          replace A4 := zq9 A4
          replace A5 := zq9 A5
          replace A6 := zq9 A6
          have H' := zq9 (show laws_markEntryS.l0 k1 (x0_1.set x5_1.toNat ⟨t0, wrap64 (x1_1 + 1), wrap64 ((wrap64 (x1_1 + 1)) + 1), t1, l4, l5, l6⟩) a6 (wrap64 (x5_1 + 1)) = some (r1, r2) from H)
          clear H
          obtain ⟨g, cap, rfl, hgb, _, _, _⟩ := Kd.S_form HO_0.out (by omega)
          have GB := zq9 hgb
          obtain ⟨oki, v4, v5, v6, hL⟩ := laws_markEntryS.calls_lend HO_0.out x5_1 c5 c3
          have hgs : P0_ g := (Kd.S_R HO_0.out).1 g (by simp [Value.ownBlock])
          have HGS := zq9 hgs; have HL := zq9 hL
          obtain ⟨C4, n4, e4⟩ := Kd.R_slice hL.2.1
          obtain ⟨C5, n5, e5⟩ := Kd.R_slice hL.2.2.1
          obtain ⟨C6, n6, e6⟩ := Kd.R_slice hL.2.2.2.1
          have E4 := zq9 e4; have E5 := zq9 e5; have E6 := zq9 e6; clear hL hgb e4 e5 e6 HO_0 hgs; have HC3 := zq9 c3; have HC5 := zq9 c5
          have p6 := eq_true c5
          have q6 := eq_true c3
          clear c3 c5
          go_wp2_with (first
            | ((with_reducible refine zq24 (f := 64) rfl ?_); refine gl (some 15) Try.func64 #[.int .i64 x1_1] ?_; (with_reducible refine (laws_markText.calls k1 x1_1 t0 _ A0.out).mono ?_); rintro e w10 ⟨rfl, hb⟩; refine ⟨_, rfl, ?_⟩; have n0_ := zq9 (laws_markEntryS.calls_below HL.out hb); have n1_ := zq9 (HK.out.below hb); have n2_ := zq9 (zq27 HB.out hb); clear HL HK HB hb; have HL := n0_; have HK := n1_; have HB := n2_; clear n0_ n1_ n2_; have hx : w10.cell? ⟨g, x5_1.toNat * 7, none⟩ = some _ := (laws_markEntryS.calls_at HL.out HC5.out HC3.out).1 0 _ rfl; have hf : w10.frozen? ⟨g, x5_1.toNat * 7, none⟩ = false := (laws_markEntryS.calls_at HL.out HC5.out HC3.out).2 0)
            | ((with_reducible refine zq26 (t := 9) (p := 17) rfl ?_); refine store_event (t := 9) (p := 17) (v := ?vo_w12) (w1 := (w10.setCell ⟨g, x5_1.toNat * 7, none⟩ (.string t0))) ?hg ?ho ?hn ?hr ?_; (case ho => rfl); (case hg => rfl); (case hn => rfl); (case hr => first | (go_simp; done) | (go_simp; rfl)); intro w12 hw; obtain ⟨n0, hgr⟩ := laws_markEntryS.calls_set HL.out HC5.out HC3.out 0 (.string t0) ⟨t0, (rd_T32 x0_1 x5_1).f1, (rd_T32 x0_1 x5_1).f2, (rd_T32 x0_1 x5_1).f3, (rd_T32 x0_1 x5_1).f4, (rd_T32 x0_1 x5_1).f5, (rd_T32 x0_1 x5_1).f6⟩ (by decide) rfl rfl rfl rfl rfl; have n0_ := zq9 (show laws_markEntryS.L w12 _ _ _ _ _ _ _ _ _ _ _ _ from (by rw [hw]; exact n0)); have n1_ := zq9 (Kept.of_grown (show World.grownBy w10 w12 (some g) from (by rw [hw]; exact hgr)) HK.out (fun k_ e_ => by injection e_ with e_; subst e_; exact .inl HGS.out)); have n2_ := zq9 (show Below w0.heap.size w0 w12 from (by rw [hw]; exact zq28 HB.out GB.out)); clear n0 hgr hw HL HK HB hx hf; have HL := n0_; have HK := n1_; have HB := n2_; clear n0_ n1_ n2_; have hx : w12.cell? ⟨g, x5_1.toNat * 7 + 1, none⟩ = some _ := (laws_markEntryS.calls_at HL.out HC5.out HC3.out).1 1 _ rfl; have hf : w12.frozen? ⟨g, x5_1.toNat * 7 + 1, none⟩ = false := (laws_markEntryS.calls_at HL.out HC5.out HC3.out).2 1)
            | ((with_reducible refine zq26 (t := 3) (p := 24) rfl ?_); refine store_event (t := 3) (p := 24) (v := ?vo_w13) (w1 := (w12.setCell ⟨g, x5_1.toNat * 7 + 1, none⟩ (.int .i64 (wrap64 (x1_1 + 1))))) ?hg ?ho ?hn ?hr ?_; (case ho => rfl); (case hg => rfl); (case hn => rfl); (case hr => first | (go_simp; done) | (go_simp; rfl)); intro w13 hw; obtain ⟨n0, hgr⟩ := laws_markEntryS.calls_set HL.out HC5.out HC3.out 1 (.int .i64 (wrap64 (x1_1 + 1))) ⟨t0, wrap64 (x1_1 + 1), (rd_T32 x0_1 x5_1).f2, (rd_T32 x0_1 x5_1).f3, (rd_T32 x0_1 x5_1).f4, (rd_T32 x0_1 x5_1).f5, (rd_T32 x0_1 x5_1).f6⟩ (by decide) rfl rfl rfl rfl rfl; have n0_ := zq9 (show laws_markEntryS.L w13 _ _ _ _ _ _ _ _ _ _ _ _ from (by rw [hw]; exact n0)); have n1_ := zq9 (Kept.of_grown (show World.grownBy w12 w13 (some g) from (by rw [hw]; exact hgr)) HK.out (fun k_ e_ => by injection e_ with e_; subst e_; exact .inl HGS.out)); have n2_ := zq9 (show Below w0.heap.size w0 w13 from (by rw [hw]; exact zq28 HB.out GB.out)); clear n0 hgr hw HL HK HB hx hf; have HL := n0_; have HK := n1_; have HB := n2_; clear n0_ n1_ n2_; have hx : w13.cell? ⟨g, x5_1.toNat * 7 + 2, none⟩ = some _ := (laws_markEntryS.calls_at HL.out HC5.out HC3.out).1 2 _ rfl; have hf : w13.frozen? ⟨g, x5_1.toNat * 7 + 2, none⟩ = false := (laws_markEntryS.calls_at HL.out HC5.out HC3.out).2 2)
            | ((with_reducible refine zq26 (t := 3) (p := 31) rfl ?_); refine store_event (t := 3) (p := 31) (v := ?vo_w14) (w1 := (w13.setCell ⟨g, x5_1.toNat * 7 + 2, none⟩ (.int .i64 (wrap64 ((wrap64 (x1_1 + 1)) + 1))))) ?hg ?ho ?hn ?hr ?_; (case ho => rfl); (case hg => rfl); (case hn => rfl); (case hr => first | (go_simp; done) | (go_simp; rfl)); intro w14 hw; obtain ⟨n0, hgr⟩ := laws_markEntryS.calls_set HL.out HC5.out HC3.out 2 (.int .i64 (wrap64 ((wrap64 (x1_1 + 1)) + 1))) ⟨t0, wrap64 (x1_1 + 1), wrap64 ((wrap64 (x1_1 + 1)) + 1), (rd_T32 x0_1 x5_1).f3, (rd_T32 x0_1 x5_1).f4, (rd_T32 x0_1 x5_1).f5, (rd_T32 x0_1 x5_1).f6⟩ (by decide) rfl rfl rfl rfl rfl; have n0_ := zq9 (show laws_markEntryS.L w14 _ _ _ _ _ _ _ _ _ _ _ _ from (by rw [hw]; exact n0)); have n1_ := zq9 (Kept.of_grown (show World.grownBy w13 w14 (some g) from (by rw [hw]; exact hgr)) HK.out (fun k_ e_ => by injection e_ with e_; subst e_; exact .inl HGS.out)); have n2_ := zq9 (show Below w0.heap.size w0 w14 from (by rw [hw]; exact zq28 HB.out GB.out)); clear n0 hgr hw HL HK HB hx hf; have HL := n0_; have HK := n1_; have HB := n2_; clear n0_ n1_ n2_)
            | ((with_reducible refine zq24 (f := 64) rfl ?_); refine gl (some 37) Try.func64 #[.int .i64 (wrap64 ((wrap64 ((wrap64 (x1_1 + 1)) + 1)) + 1))] ?_; (with_reducible refine (laws_markText.calls k1 (wrap64 ((wrap64 ((wrap64 (x1_1 + 1)) + 1)) + 1)) t1 _ A1.out).mono ?_); rintro e w15 ⟨rfl, hb⟩; refine ⟨_, rfl, ?_⟩; have n0_ := zq9 (laws_markEntryS.calls_below HL.out hb); have n1_ := zq9 (HK.out.below hb); have n2_ := zq9 (zq27 HB.out hb); clear HL HK HB hb; have HL := n0_; have HK := n1_; have HB := n2_; clear n0_ n1_ n2_; have hx : w15.cell? ⟨g, x5_1.toNat * 7 + 3, none⟩ = some _ := (laws_markEntryS.calls_at HL.out HC5.out HC3.out).1 3 _ rfl; have hf : w15.frozen? ⟨g, x5_1.toNat * 7 + 3, none⟩ = false := (laws_markEntryS.calls_at HL.out HC5.out HC3.out).2 3)
            | ((with_reducible refine zq26 (t := 9) (p := 39) rfl ?_); refine store_event (t := 9) (p := 39) (v := ?vo_w16) (w1 := (w15.setCell ⟨g, x5_1.toNat * 7 + 3, none⟩ (.string t1))) ?hg ?ho ?hn ?hr ?_; (case ho => rfl); (case hg => rfl); (case hn => rfl); (case hr => first | (go_simp; done) | (go_simp; rfl)); intro w16 hw; obtain ⟨n0, hgr⟩ := laws_markEntryS.calls_set HL.out HC5.out HC3.out 3 (.string t1) ⟨t0, wrap64 (x1_1 + 1), wrap64 ((wrap64 (x1_1 + 1)) + 1), t1, (rd_T32 x0_1 x5_1).f4, (rd_T32 x0_1 x5_1).f5, (rd_T32 x0_1 x5_1).f6⟩ (by decide) rfl rfl rfl rfl rfl; have n0_ := zq9 (show laws_markEntryS.L w16 _ _ _ _ _ _ _ _ _ _ _ _ from (by rw [hw]; exact n0)); have n1_ := zq9 (Kept.of_grown (show World.grownBy w15 w16 (some g) from (by rw [hw]; exact hgr)) HK.out (fun k_ e_ => by injection e_ with e_; subst e_; exact .inl HGS.out)); have n2_ := zq9 (show Below w0.heap.size w0 w16 from (by rw [hw]; exact zq28 HB.out GB.out)); clear n0 hgr hw HL HK HB hx hf; have HL := n0_; have HK := n1_; have HB := n2_; clear n0_ n1_ n2_; have hx : w16.cell? ⟨g, x5_1.toNat * 7 + 4, none⟩ = some v4 := (laws_markEntryS.calls_at HL.out HC5.out HC3.out).1 4 _ rfl; rw [E4.out] at hx)
            | ((with_reducible refine zq24 (f := 25) rfl ?_); refine gl (some 48) Try.func25 #[.slice C4 (rd_T32 x0_1 x5_1).f4.length n4, .int .i64 (wrap64 ((wrap64 ((wrap64 ((wrap64 (x1_1 + 1)) + 1)) + 1)) + 1))] ?_; (with_reducible refine (laws_markStringS.calls k1 (fun k => some k = (Value.slice C4 (rd_T32 x0_1 x5_1).f4.length n4).ownBlock) _ _ _ a4 l4 w0 _ HB.out (E4.out ▸ Kd.R_tight rfl (laws_markEntryS.calls_own HL.out).1) A4.out).mono ?_); rintro e w17 ⟨rfl, hr, hb, hk⟩; rw [← E4.out] at hr hk; refine ⟨_, rfl, ?_⟩; have n0_ := zq9 (laws_markEntryS.calls_row4 HL.out hk hr rfl); have n1_ := zq9 (laws_markEntryS.calls_keep HK.out (laws_markEntryS.calls_own HL.out).2.2.2.1 (laws_markEntryS.calls_own HL.out).2.2.2.2.2.2 hk); have n2_ := zq9 hb; clear hx hk hr hb HL HK HB; have HL := n0_; have HK := n1_; have HB := n2_; clear n0_ n1_ n2_; have hx : w17.cell? ⟨g, x5_1.toNat * 7 + 5, none⟩ = some v5 := (laws_markEntryS.calls_at HL.out HC5.out HC3.out).1 5 _ rfl; rw [E5.out] at hx)
            | ((with_reducible refine zq24 (f := 69) rfl ?_); refine gl (some 55) Try.func69 #[.slice C5 (rd_T32 x0_1 x5_1).f5.length n5, .int .i64 a4] ?_; (with_reducible refine (laws_markScoreS.calls k1 (fun k => some k = (Value.slice C5 (rd_T32 x0_1 x5_1).f5.length n5).ownBlock) _ _ _ a5 l5 w0 _ HB.out (E5.out ▸ Kd.R_tight rfl (laws_markEntryS.calls_own HL.out).2.1) A5.out).mono ?_); rintro e w18 ⟨rfl, hr, hb, hk⟩; rw [← E5.out] at hr hk; refine ⟨_, rfl, ?_⟩; have n0_ := zq9 (laws_markEntryS.calls_row5 HL.out hk hr rfl); have n1_ := zq9 (laws_markEntryS.calls_keep HK.out (laws_markEntryS.calls_own HL.out).2.2.2.2.1 (laws_markEntryS.calls_own HL.out).2.2.2.2.2.2 hk); have n2_ := zq9 hb; clear hx hk hr hb HL HK HB; have HL := n0_; have HK := n1_; have HB := n2_; clear n0_ n1_ n2_; have hx : w18.cell? ⟨g, x5_1.toNat * 7 + 6, none⟩ = some v6 := (laws_markEntryS.calls_at HL.out HC5.out HC3.out).1 6 _ rfl; rw [E6.out] at hx)
            | ((with_reducible refine zq24 (f := 70) rfl ?_); refine gl (some 62) Try.func70 #[.slice C6 (rd_T32 x0_1 x5_1).f6.length n6, .int .i64 a5] ?_; (with_reducible refine (laws_markPairS.calls k1 (fun k => some k = (Value.slice C6 (rd_T32 x0_1 x5_1).f6.length n6).ownBlock) _ _ _ a6 l6 w0 _ HB.out (E6.out ▸ Kd.R_tight rfl (laws_markEntryS.calls_own HL.out).2.2.1) A6.out).mono ?_); rintro e w19 ⟨rfl, hr, hb, hk⟩; rw [← E6.out] at hr hk; refine ⟨_, rfl, ?_⟩; have n0_ := zq9 (laws_markEntryS.calls_row6 HL.out hk hr rfl); have n1_ := zq9 (laws_markEntryS.calls_keep HK.out (laws_markEntryS.calls_own HL.out).2.2.2.2.2.1 (laws_markEntryS.calls_own HL.out).2.2.2.2.2.2 hk); have n2_ := zq9 hb; clear hx hk hr hb HL HK HB; have HL := n0_; have HK := n1_; have HB := n2_; clear n0_ n1_ n2_))
          go_roundg k1
          case measure => have := HK1.out; omega
          case rel => exact ⟨_, a6, (wrap64 (x5_1 + 1)), rfl, rfl, H', ⟨by have := HK1.out; omega⟩, ⟨laws_markEntryS.calls_back HL.out⟩, HK, HB⟩
        · rw [if_neg c5] at H
          exact absurd H (by simp)
      · rw [if_neg c3] at H; have c3b0 : decide (x5_1 < (x0_1.length : Int)) = false := decide_eq_false c3; clear c3
        simp only [Option.some.injEq, Prod.mk.injEq] at H
        obtain ⟨rfl, rfl⟩ := H
        obtain ⟨Ao16, co16, eo16⟩ := Kd.S_slice HO_0.out
        subst eo16
        go_wp2
        go_ret
        exact ⟨rfl, HO_0.out, HB.out, HK.out⟩
set_option maxHeartbeats 8000000 in
set_option maxRecDepth 100000 in
theorem laws_markBase.calls (k : Nat) (a0_0 : Int) (P0_1_ : Nat → Prop) (u9000_ : Value) (l0_1 : List (S32)) (a1 : Int) (r1 : Int) (r2 : List (S32)) (w0 w : World) (hB : Below w0.heap.size w0 w) (ho0_1 : Kd.S k32 32 w w0.heap.size P0_1_ u9000_ l0_1) (h : laws_markBase.f k a0_0 l0_1 a1 = some (r1, r2)) :
    Calls Try.prog 24 #[.agg #[.int .i64 a0_0, u9000_], .int .i64 a1] w fun e w' => e = .returned (.int .i64 r1) ∧ Kd.S k32 32 w' w0.heap.size P0_1_ u9000_ r2 ∧ Below w0.heap.size w0 w' ∧ Kept w w' (fun k_ => P0_1_ k_) := by
  obtain ⟨A0, c0, rfl⟩ := Kd.S_slice ho0_1
  have hu := Try.underlying46
  have H := zq9 (show laws_markEntryS.f k l0_1 a1 = some (r1, r2) from h)
  have HO := zq9 ho0_1; have HB := zq9 hB; clear h hB ho0_1
  go_enter Try.func24, Try.ntmps24
  go_wp2_with (first
    | ((with_reducible refine zq25 (N := 2) rfl ?_); refine bx 2 #[.int .i64 a0_0, .slice A0 l0_1.length c0] 46 ?_; intro g hg w5 hbox hb; have HX := zq9 hb; have HG := zq9 hg; have hc1 : w5.cell? ⟨g, 1, none⟩ = some (.slice A0 l0_1.length c0) := bc ⟨hbox⟩ 1; clear hbox hb hg)
    | ((with_reducible refine zq24 (f := 63) rfl ?_); refine gl (some 8) Try.func63 #[.slice A0 l0_1.length c0, .int .i64 a1] ?_; (with_reducible refine (laws_markEntryS.calls k P0_1_ _ l0_1 a1 r1 r2 w0 _ (zq27 HB.out HX.out) (Kd.S_below HO.out HX.out) H.out).mono ?_); rintro e w' ⟨rfl, hr, hb, hk⟩; refine ⟨_, rfl, ?_⟩; have n0_ := zq9 hr; have n1_ := zq9 hb; have n2_ := zq9 (Kept.then_ (Kept.of_below HX.out (fun k_ => P0_1_ k_)) hk (fun _ h_ => .inl h_)); clear hr hb hk))
  go_ret
  exact ⟨rfl, n0_.out, n1_.out, n2_.out⟩
set_option maxHeartbeats 8000000 in
set_option maxRecDepth 100000 in
theorem laws_heldStringS.calls (k : Nat) (A0 : Option Addr) (c0 : Nat) (l0 : List ByteArray) (a1 : Int) (r : Int) (w : World) (hr0 : Kd.C Kd.string w A0 l0.length l0) (hc0 : l0.length ≤ c0) (h : laws_heldStringS.f k l0 a1 = some r) :
  Calls Try.prog 26 #[.slice A0 l0.length c0, .int .i64 a1] w fun e w' => e = .returned (.int .i64 r) ∧ Below w.heap.size w w' := by
 have HR0 := zq9 hr0; have HC0 := zq9 hc0; clear hr0 hc0
 have HB := zq9 (Below.refl w.heap.size w)
 have H : (laws_heldStringS.l0 k l0 a1 0) = some r := h
 clear h; have H' := zq9 H; clear H
 go_enter Try.func26, Try.ntmps26
 go_wp2
 go_loopg [1, 5] k (fun kq v1 v5 w' => ∃ (x1_1 : Int) (x5_1 : Int), v1 = .int .i64 x1_1 ∧ v5 = .int .i64 x5_1 ∧ Aside0 (laws_heldStringS.l0 kq l0 x1_1 x5_1 = some r) ∧ Aside0 (kq ≤ k) ∧ Aside0 (Below w.heap.size w w'))
 case atStart => exact ⟨(a1), (0), (by first | rfl | (simp; done) | (simp [*]; done)), (by first | rfl | (simp; done) | (simp [*]; done)), H', ⟨Nat.le_refl _⟩, ⟨by exact bl HB⟩⟩
 case round =>
  clear H'
  try clear c2
  try clear p2
  obtain ⟨x1_1, x5_1, rfl, rfl, HA, HK1, HB⟩ := hrel
  cases gk with
  | zero => exact absurd HA.out (by simp [laws_heldStringS.l0])
  | succ k1 =>
   have H := HA.out; clear HA
   simp only [laws_heldStringS.l0] at H
   by_cases c3 : x5_1 < (l0.length : Int)
   ·rw [if_pos c3] at H; have c3b0 : decide (x5_1 < (l0.length : Int)) = true := decide_eq_true c3; clear c3
    by_cases c4 : 0 ≤ x5_1
    ·rw [if_pos c4] at H; have c4b0 : decide (0 ≤ x5_1) = true := decide_eq_true c4; clear c4; replace H := Option.bind_eq_some_iff.mp H; obtain ⟨t762, A50, H⟩ := H
     try dsimp only at H
     have A5 := zq9 A50; clear A50
     by_cases c6 : (rdOf ByteArray.empty l0 x5_1).toList = t762.toList
     ·rw [if_pos c6] at H
      have c6b0 : ((rdOf ByteArray.empty l0 x5_1).toList == t762.toList) = true := beq_iff_eq.mpr c6
      have c6b1 : ((rdOf ByteArray.empty l0 x5_1).toList != t762.toList) = false := bne_eq_false_iff_eq.mpr c6
      clear c6; have H' := zq9 H; clear H
      try go_wp2
      have n0_ := zq9 (zq4 HB.out)
      clear HB; have HB := n0_; clear n0_
      have p761 : 0 ≤ (x5_1 : Int) := of_decide_eq_true ‹_›
      have q761 : x5_1 < (l0.length : Int) := of_decide_eq_true ‹_›
      obtain ⟨ad761, e761, hx761_0⟩ := Kd.at_string HR0.out x5_1 p761 q761
      have hw761_0 := hx761_0; cases e761; replace hx761_0 := hcl HB hx761_0; replace p761 := eq_true p761; replace q761 := eq_true q761
      refine start_ (n := 7) (S := fun w' => w'.cell? (ad761.add (x5_1).toNat) = some (.string (rdOf ByteArray.empty l0 x5_1))) (ds := []) #[false, false, false, false, false, false, false] (by kernel_rfl) rfl rfl ((hcm HB hw761_0)) (fun hHeld => ?_)
      generalize wr.drew = w7 at HB hx761_0 hHeld ⊢
      refine pure_ (i := 0) (N := some 12) (v := ?_) (a' := ?_) (zb 7 1) rfl rfl (by kernel_rfl) (fun _ _ _ h => h) (Or.inl ⟨by rfl, ?_⟩) ?_ ?_
      rotate_left; ·intro w'; go_simp; with_reducible rfl
      rotate_left; ·simp only [Act.put, zq0, zq1, zq2, i64_w, i32_w]; rfl
      refine pure_ (i := 1) (N := some 13) (v := ?_) (a' := ?_) (zb 7 3) rfl rfl (by kernel_rfl) (fun _ _ _ h => h) (Or.inl ⟨by rfl, ?_⟩) ?_ ?_
      rotate_left; ·intro w'; go_simp; with_reducible rfl
      rotate_left; ·simp only [Act.put, zq0, zq1, zq2, i64_w, i32_w]; rfl
      refine pure_ (i := 2) (N := some 14) (v := ?_) (a' := ?_) (zb 7 7) rfl rfl (by kernel_rfl) (fun _ _ _ h => h) (Or.inl ⟨by rfl, ?_⟩) ?_ ?_
      rotate_left; ·intro w'; go_simp; with_reducible rfl
      rotate_left; ·simp only [Act.put, zq0, zq1, zq2, i64_w, i32_w]; rfl
      refine pure_ (i := 4) (N := some 16) (v := ?_) (a' := ?_) (zb 7 23) rfl rfl (by kernel_rfl) (fun _ _ _ h => h) (Or.inl ⟨by rfl, ?_⟩) ?_ ?_
      rotate_left; ·intro w'; go_simp; with_reducible rfl
      rotate_left; ·simp only [Act.put, zq0, zq1, zq2, i64_w, i32_w]; rfl
      refine take_ (i := 3) (N := some 15) (v := ?_) (a' := ?_) (zb 7 31) rfl rfl (by kernel_rfl) (fun _ _ _ h => h) (Or.inl ⟨by rfl, ?_⟩) hHeld ?_ ?_
      rotate_left; ·intro w' s0; go_simp; with_reducible rfl
      rotate_left; ·simp only [Act.put, zq0, zq1, zq2, i64_w, i32_w]; rfl
      refine one_ (i := 5) (N := some 17) (zb 7 63) rfl rfl (by kernel_rfl) (by decide) (fun K hK => ?_)
      refine gs Try.func64 #[.int .i64 x1_1] ?_
      with_reducible refine (laws_markText.calls k1 x1_1 t762 _ A5.out).mono ?_
      rintro e w8 ⟨rfl, hb⟩
      refine ⟨_, rfl, ?_⟩
      have n0_ := zq9 (zq27 (by exact bl HB) hb)
      clear HB; have HB := n0_; clear n0_
      (try clear hb)
      (try clear hb2)
      (try clear hk)
      (try clear hi)
      refine hK.out _ _ ((hcm HB hw761_0)) (fun hHeld => ?_)
      clear hK K
      refine norm_ (a' := ?_) ?_ ?_
      rotate_left; ·show Act.put _ (some 17) _ = _; simp only [Act.put, zq0, zq1, zq2, i64_w, i32_w]; rfl
      refine pure_ (i := 6) (N := some 18) (v := ?_) (a' := ?_) (zb 7 127) rfl rfl (by kernel_rfl) (fun _ _ _ h => h) (Or.inl ⟨by rfl, ?_⟩) ?_ ?_
      rotate_left; ·intro w'; go_simp; with_reducible rfl
      rotate_left; ·simp only [Act.put, zq0, zq1, zq2, i64_w, i32_w]; rfl
      refine done_ (by kernel_rfl) ?_
      try go_wp2
      go_roundg k1
      case measure => have := HK1.out; omega
      case rel => exact ⟨(wrap64 (x1_1 + 1)), (wrap64 (x5_1 + 1)), (by first | rfl | (simp; done) | (simp [*]; done)), (by first | rfl | (simp; done) | (simp [*]; done)), H', ⟨by have := HK1.out; omega⟩, ⟨by exact bl HB⟩⟩
     ·rw [if_neg c6] at H
      have c6b0 : ((rdOf ByteArray.empty l0 x5_1).toList == t762.toList) = false := beq_eq_false_iff_ne.mpr c6
      have c6b1 : ((rdOf ByteArray.empty l0 x5_1).toList != t762.toList) = true := bne_iff_ne.mpr c6
      obtain rfl := Option.some.inj H
      try go_wp2
      have n0_ := zq9 (zq4 HB.out)
      clear HB; have HB := n0_; clear n0_
      have p761 : 0 ≤ (x5_1 : Int) := of_decide_eq_true ‹_›
      have q761 : x5_1 < (l0.length : Int) := of_decide_eq_true ‹_›
      obtain ⟨ad761, e761, hx761_0⟩ := Kd.at_string HR0.out x5_1 p761 q761
      have hw761_0 := hx761_0; cases e761; replace hx761_0 := hcl HB hx761_0; replace p761 := eq_true p761; replace q761 := eq_true q761
      refine start_ (n := 7) (S := fun w' => w'.cell? (ad761.add (x5_1).toNat) = some (.string (rdOf ByteArray.empty l0 x5_1))) (ds := []) #[false, false, false, false, false, false, false] (by kernel_rfl) rfl rfl ((hcm HB hw761_0)) (fun hHeld => ?_)
      generalize wr.drew = w9 at HB hx761_0 hHeld ⊢
      refine pure_ (i := 0) (N := some 12) (v := ?_) (a' := ?_) (zb 7 1) rfl rfl (by kernel_rfl) (fun _ _ _ h => h) (Or.inl ⟨by rfl, ?_⟩) ?_ ?_
      rotate_left; ·intro w'; go_simp; with_reducible rfl
      rotate_left; ·simp only [Act.put, zq0, zq1, zq2, i64_w, i32_w]; rfl
      refine pure_ (i := 1) (N := some 13) (v := ?_) (a' := ?_) (zb 7 3) rfl rfl (by kernel_rfl) (fun _ _ _ h => h) (Or.inl ⟨by rfl, ?_⟩) ?_ ?_
      rotate_left; ·intro w'; go_simp; with_reducible rfl
      rotate_left; ·simp only [Act.put, zq0, zq1, zq2, i64_w, i32_w]; rfl
      refine pure_ (i := 2) (N := some 14) (v := ?_) (a' := ?_) (zb 7 7) rfl rfl (by kernel_rfl) (fun _ _ _ h => h) (Or.inl ⟨by rfl, ?_⟩) ?_ ?_
      rotate_left; ·intro w'; go_simp; with_reducible rfl
      rotate_left; ·simp only [Act.put, zq0, zq1, zq2, i64_w, i32_w]; rfl
      refine pure_ (i := 4) (N := some 16) (v := ?_) (a' := ?_) (zb 7 23) rfl rfl (by kernel_rfl) (fun _ _ _ h => h) (Or.inl ⟨by rfl, ?_⟩) ?_ ?_
      rotate_left; ·intro w'; go_simp; with_reducible rfl
      rotate_left; ·simp only [Act.put, zq0, zq1, zq2, i64_w, i32_w]; rfl
      refine take_ (i := 3) (N := some 15) (v := ?_) (a' := ?_) (zb 7 31) rfl rfl (by kernel_rfl) (fun _ _ _ h => h) (Or.inl ⟨by rfl, ?_⟩) hHeld ?_ ?_
      rotate_left; ·intro w' s0; go_simp; with_reducible rfl
      rotate_left; ·simp only [Act.put, zq0, zq1, zq2, i64_w, i32_w]; rfl
      refine one_ (i := 5) (N := some 17) (zb 7 63) rfl rfl (by kernel_rfl) (by decide) (fun K hK => ?_)
      refine gs Try.func64 #[.int .i64 x1_1] ?_
      with_reducible refine (laws_markText.calls k1 x1_1 t762 _ A5.out).mono ?_
      rintro e w10 ⟨rfl, hb⟩
      refine ⟨_, rfl, ?_⟩
      have n0_ := zq9 (zq27 (by exact bl HB) hb)
      clear HB; have HB := n0_; clear n0_
      (try clear hb)
      (try clear hb2)
      (try clear hk)
      (try clear hi)
      refine hK.out _ _ ((hcm HB hw761_0)) (fun hHeld => ?_)
      clear hK K
      refine norm_ (a' := ?_) ?_ ?_
      rotate_left; ·show Act.put _ (some 17) _ = _; simp only [Act.put, zq0, zq1, zq2, i64_w, i32_w]; rfl
      refine pure_ (i := 6) (N := some 18) (v := ?_) (a' := ?_) (zb 7 127) rfl rfl (by kernel_rfl) (fun _ _ _ h => h) (Or.inl ⟨by rfl, ?_⟩) ?_ ?_
      rotate_left; ·intro w'; go_simp; with_reducible rfl
      rotate_left; ·simp only [Act.put, zq0, zq1, zq2, i64_w, i32_w]; rfl
      refine done_ (by kernel_rfl) ?_
      try go_wp2
      go_ret
      exact fz (by exact bl HB)
    ·rw [if_neg c4] at H
     exact absurd H (by simp)
   ·rw [if_neg c3] at H; have c3b0 : decide (x5_1 < (l0.length : Int)) = false := decide_eq_false c3; clear c3; obtain rfl := Option.some.inj H
    go_wp2
    go_ret
    exact fz (by exact bl HB)
def laws_heldScoreS.T4 : Bool × List (List Nat × List Nat) := (true, [([], []), ([], []), ([0, 1], [0, 1]), ([2], [2]), ([3], [3]), ([], []), ([5], [5]), ([4, 6], [4, 6])])
def laws_heldScoreS.B4 : List Nat := [0, 0, 3, 7, 15, 0, 32, 127]
theorem laws_heldScoreS.tab4 : rtab .any (opsOf Try.f71 4) = laws_heldScoreS.T4 := by kernel_rfl
theorem laws_heldScoreS.bits4 : waitsOk laws_heldScoreS.T4.2 laws_heldScoreS.B4 = true := by kernel_rfl
set_option maxHeartbeats 8000000 in
set_option maxRecDepth 100000 in
theorem laws_heldScoreS.calls (k : Nat) (A0 : Option Addr) (c0 : Nat) (l0 : List (S99)) (a1 : Int) (r : Int) (w : World) (hr0 : Kd.C k99 w A0 l0.length l0) (hc0 : l0.length ≤ c0) (h : laws_heldScoreS.f k l0 a1 = some r) :
  Calls Try.prog 71 #[.slice A0 l0.length c0, .int .i64 a1] w fun e w' => e = .returned (.int .i64 r) ∧ Below w.heap.size w w' := by
 have HR0 := zq9 hr0; have HC0 := zq9 hc0; clear hr0 hc0
 have HB := zq9 (Below.refl w.heap.size w)
 have H : (laws_heldScoreS.l0 k l0 a1 0) = some r := h
 clear h; have H' := zq9 H; clear H
 go_enter Try.func71, Try.ntmps71
 go_wp2
 go_loopg [1, 5] k (fun kq v1 v5 w' => ∃ (x1_1 : Int) (x5_1 : Int), v1 = .int .i64 x1_1 ∧ v5 = .int .i64 x5_1 ∧ Aside0 (laws_heldScoreS.l0 kq l0 x1_1 x5_1 = some r) ∧ Aside0 (kq ≤ k) ∧ Aside0 (Below w.heap.size w w'))
 case atStart => exact ⟨(a1), (0), (by first | rfl | (simp; done) | (simp [*]; done)), (by first | rfl | (simp; done) | (simp [*]; done)), H', ⟨Nat.le_refl _⟩, ⟨by exact bl HB⟩⟩
 case round =>
  clear H'
  try clear p2
  obtain ⟨x1_1, x5_1, rfl, rfl, HA, HK1, HB⟩ := hrel
  cases gk with
  | zero => exact absurd HA.out (by simp [laws_heldScoreS.l0])
  | succ k1 =>
   have H := HA.out; clear HA
   simp only [laws_heldScoreS.l0] at H
   by_cases c3 : x5_1 < (l0.length : Int)
   ·rw [if_pos c3] at H; have c3b0 : decide (x5_1 < (l0.length : Int)) = true := decide_eq_true c3; clear c3
    by_cases c4 : 0 ≤ x5_1
    ·rw [if_pos c4] at H; have c4b0 : decide (0 ≤ x5_1) = true := decide_eq_true c4; clear c4; replace H := Option.bind_eq_some_iff.mp H; obtain ⟨t880, A50, H⟩ := H
     try dsimp only at H
     have A5 := zq9 A50; clear A50
     try go_wp2
     have n0_ := zq9 (zq4 HB.out)
     clear HB; have HB := n0_; clear n0_
     have p879 : 0 ≤ (x5_1 : Int) := of_decide_eq_true ‹_›
     have q879 : x5_1 < (l0.length : Int) := of_decide_eq_true ‹_›
     obtain ⟨ad879, e879, hx879_0, hx879_1⟩ := at_T99 HR0.out x5_1 p879 q879
     have hw879_1 := hx879_1; have hw879_0 := hx879_0; cases e879; replace hx879_0 := hcl HB hx879_0; replace hx879_1 := hcl HB hx879_1; replace p879 := eq_true p879; replace q879 := eq_true q879
     refine start_ (n := 8) (S := fun w' => w'.cell? (ad879.add ((x5_1).toNat * 2)) = some (.string ((rd_T99 l0 x5_1).f0)) ∧ w'.cell? ⟨(ad879.add ((x5_1).toNat * 2)).block, (ad879.add ((x5_1).toNat * 2)).off + 1, none⟩ = some (.int .i64 ((rd_T99 l0 x5_1).f1))) (ds := []) #[false, false, false, false, false, false, false, false] (by kernel_rfl) rfl rfl ⟨(hcm HB hw879_0), (hcm HB hw879_1)⟩ (fun hHeld => ?_); refine with_tabW laws_heldScoreS.tab4 laws_heldScoreS.bits4 (fun HT_ HW_ => ?_)
     generalize wr.drew = w8 at HB hx879_0 hx879_1 hHeld ⊢
     refine pa HT_ 0 12 (zb 8 1) ?_; refine pa HT_ 1 13 (zb 8 3) ?_; refine pa HT_ 2 14 (zb 8 7) ?_; refine pa HT_ 3 15 (zb 8 15) ?_; refine pa HT_ 5 17 (zb 8 47) ?_
     refine take_ (i := 4) (N := some 16) (v := ?_) (a' := ?_) (zb 8 63) rfl rfl (take_ofW HT_.out HW_.out (by kernel_rfl)) (fun _ _ _ h => h) (Or.inl ⟨by rfl, ?_⟩) hHeld ?_ ?_
     rotate_left; ·rintro w' ⟨s0, s1⟩; go_simp; with_reducible rfl
     rotate_left; ·simp only [Act.put, zq0, zq1, zq2, i64_w, i32_w]; rfl
     refine one_ (i := 6) (N := some 18) (zb 8 127) rfl rfl (one_of HT_.out (by kernel_rfl)) (by decide) (fun K hK => ?_)
     refine gs Try.func64 #[.int .i64 x1_1] ?_
     with_reducible refine (laws_markText.calls k1 x1_1 t880 _ A5.out).mono ?_
     rintro e w9 ⟨rfl, hb⟩
     refine ⟨_, rfl, ?_⟩
     have n0_ := zq9 (zq27 (by exact bl HB) hb)
     clear HB; have HB := n0_; clear n0_
     (try clear hb)
     (try clear hb2)
     (try clear hk)
     (try clear hi)
     refine hK.out _ _ ⟨(hcm HB hw879_0), (hcm HB hw879_1)⟩ (fun hHeld => ?_)
     clear hK K
     refine norm_ (a' := ?_) ?_ ?_
     rotate_left; ·show Act.put _ (some 18) _ = _; simp only [Act.put, zq0, zq1, zq2, i64_w, i32_w]; rfl
     refine pa HT_ 7 19 (zb 8 255) ?_
     refine done_ (done_of HT_.out (by kernel_rfl)) ?_
     by_cases c6 : ((rd_T99 l0 x5_1).f0).toList = t880.toList
     ·rw [if_pos c6] at H
      have c6b0 : (((rd_T99 l0 x5_1).f0).toList == t880.toList) = true := beq_iff_eq.mpr c6
      have c6b1 : (((rd_T99 l0 x5_1).f0).toList != t880.toList) = false := bne_eq_false_iff_eq.mpr c6
      clear c6
      (try rw [c6b0]); (try rw [c6b1])
      have p881 : 0 ≤ (x5_1 : Int) := of_decide_eq_true ‹_›
      have q881 : x5_1 < (l0.length : Int) := of_decide_eq_true ‹_›
      obtain ⟨ad881, e881, hx881_0, hx881_1⟩ := at_T99 HR0.out x5_1 p881 q881
      obtain rfl : ad879 = ad881 := (by injection e881)
      replace hx881_0 := hcl HB hx881_0; replace hx881_1 := hcl HB hx881_1; replace p881 := eq_true p881; replace q881 := eq_true q881
      by_cases c7 : ((rd_T99 l0 x5_1).f1) = (wrap64 (x1_1 + 1))
      ·rw [if_pos c7] at H
       have c7b0 : (((rd_T99 l0 x5_1).f1) == (wrap64 (x1_1 + 1))) = true := beq_iff_eq.mpr c7
       have c7b1 : (((rd_T99 l0 x5_1).f1) != (wrap64 (x1_1 + 1))) = false := bne_eq_false_iff_eq.mpr c7
       clear c7; have H' := zq9 H; clear H
       (try rw [c7b0]); (try rw [c7b1])
       try go_wp2
       go_roundg k1
       case measure => have := HK1.out; omega
       case rel => exact ⟨(wrap64 ((wrap64 (x1_1 + 1)) + 1)), (wrap64 (x5_1 + 1)), (by first | rfl | (simp; done) | (simp [*]; done)), (by first | rfl | (simp; done) | (simp [*]; done)), H', ⟨by have := HK1.out; omega⟩, ⟨by exact bl HB⟩⟩
      ·rw [if_neg c7] at H
       have c7b0 : (((rd_T99 l0 x5_1).f1) == (wrap64 (x1_1 + 1))) = false := beq_eq_false_iff_ne.mpr c7
       have c7b1 : (((rd_T99 l0 x5_1).f1) != (wrap64 (x1_1 + 1))) = true := bne_iff_ne.mpr c7
       obtain rfl := Option.some.inj H
       (try rw [c7b0]); (try rw [c7b1])
       try go_wp2
       go_ret
       exact fz (by exact bl HB)
     ·rw [if_neg c6] at H
      have c6b0 : (((rd_T99 l0 x5_1).f0).toList == t880.toList) = false := beq_eq_false_iff_ne.mpr c6
      have c6b1 : (((rd_T99 l0 x5_1).f0).toList != t880.toList) = true := bne_iff_ne.mpr c6
      obtain rfl := Option.some.inj H
      (try rw [c6b0]); (try rw [c6b1])
      try go_wp2
      go_ret
      exact fz (by exact bl HB)
    ·rw [if_neg c4] at H
     exact absurd H (by simp)
   ·rw [if_neg c3] at H; have c3b0 : decide (x5_1 < (l0.length : Int)) = false := decide_eq_false c3; clear c3; obtain rfl := Option.some.inj H
    go_wp2
    go_ret
    exact fz (by exact bl HB)
def laws_heldPairS.T4 : Bool × List (List Nat × List Nat) := (true, [([], []), ([], []), ([0, 1], [0, 1]), ([2], [2]), ([3], [3]), ([], []), ([5], [5]), ([4, 6], [4, 6])])
def laws_heldPairS.B4 : List Nat := [0, 0, 3, 7, 15, 0, 32, 127]
theorem laws_heldPairS.tab4 : rtab .any (opsOf Try.f72 4) = laws_heldPairS.T4 := by kernel_rfl
theorem laws_heldPairS.bits4 : waitsOk laws_heldPairS.T4.2 laws_heldPairS.B4 = true := by kernel_rfl
def laws_heldPairS.T7 : Bool × List (List Nat × List Nat) := (true, [([], []), ([], []), ([0, 1], [0, 1]), ([2], [2]), ([3], [3]), ([], []), ([5], [5]), ([4, 6], [4, 6])])
def laws_heldPairS.B7 : List Nat := [0, 0, 3, 7, 15, 0, 32, 127]
theorem laws_heldPairS.tab7 : rtab .any (opsOf Try.f72 7) = laws_heldPairS.T7 := by kernel_rfl
theorem laws_heldPairS.bits7 : waitsOk laws_heldPairS.T7.2 laws_heldPairS.B7 = true := by kernel_rfl
set_option maxHeartbeats 8000000 in
set_option maxRecDepth 100000 in
theorem laws_heldPairS.calls (k : Nat) (A0 : Option Addr) (c0 : Nat) (l0 : List (S101)) (a1 : Int) (r : Int) (w : World) (hr0 : Kd.C k101 w A0 l0.length l0) (hc0 : l0.length ≤ c0) (h : laws_heldPairS.f k l0 a1 = some r) :
  Calls Try.prog 72 #[.slice A0 l0.length c0, .int .i64 a1] w fun e w' => e = .returned (.int .i64 r) ∧ Below w.heap.size w w' := by
 have HR0 := zq9 hr0; have HC0 := zq9 hc0; clear hr0 hc0
 have HB := zq9 (Below.refl w.heap.size w)
 have H : (laws_heldPairS.l0 k l0 a1 0) = some r := h
 clear h; have H' := zq9 H; clear H
 go_enter Try.func72, Try.ntmps72
 go_wp2
 go_loopg [1, 5] k (fun kq v1 v5 w' => ∃ (x1_1 : Int) (x5_1 : Int), v1 = .int .i64 x1_1 ∧ v5 = .int .i64 x5_1 ∧ Aside0 (laws_heldPairS.l0 kq l0 x1_1 x5_1 = some r) ∧ Aside0 (kq ≤ k) ∧ Aside0 (Below w.heap.size w w'))
 case atStart => exact ⟨(a1), (0), (by first | rfl | (simp; done) | (simp [*]; done)), (by first | rfl | (simp; done) | (simp [*]; done)), H', ⟨Nat.le_refl _⟩, ⟨by exact bl HB⟩⟩
 case round =>
  clear H'
  try clear p2
  obtain ⟨x1_1, x5_1, rfl, rfl, HA, HK1, HB⟩ := hrel
  cases gk with
  | zero => exact absurd HA.out (by simp [laws_heldPairS.l0])
  | succ k1 =>
   have H := HA.out; clear HA
   simp only [laws_heldPairS.l0] at H
   by_cases c3 : x5_1 < (l0.length : Int)
   ·rw [if_pos c3] at H; have c3b0 : decide (x5_1 < (l0.length : Int)) = true := decide_eq_true c3; clear c3
    by_cases c4 : 0 ≤ x5_1
    ·rw [if_pos c4] at H; have c4b0 : decide (0 ≤ x5_1) = true := decide_eq_true c4; clear c4; replace H := Option.bind_eq_some_iff.mp H; obtain ⟨t883, A50, H⟩ := H
     try dsimp only at H
     have A5 := zq9 A50; clear A50
     try go_wp2
     have n0_ := zq9 (zq4 HB.out)
     clear HB; have HB := n0_; clear n0_
     have p882 : 0 ≤ (x5_1 : Int) := of_decide_eq_true ‹_›
     have q882 : x5_1 < (l0.length : Int) := of_decide_eq_true ‹_›
     obtain ⟨ad882, e882, hx882_0, hx882_1⟩ := at_T101 HR0.out x5_1 p882 q882
     have hw882_1 := hx882_1; have hw882_0 := hx882_0; cases e882; replace hx882_0 := hcl HB hx882_0; replace hx882_1 := hcl HB hx882_1; replace p882 := eq_true p882; replace q882 := eq_true q882
     refine start_ (n := 8) (S := fun w' => w'.cell? (ad882.add ((x5_1).toNat * 2)) = some (.string ((rd_T101 l0 x5_1).f0)) ∧ w'.cell? ⟨(ad882.add ((x5_1).toNat * 2)).block, (ad882.add ((x5_1).toNat * 2)).off + 1, none⟩ = some (.string ((rd_T101 l0 x5_1).f1))) (ds := []) #[false, false, false, false, false, false, false, false] (by kernel_rfl) rfl rfl ⟨(hcm HB hw882_0), (hcm HB hw882_1)⟩ (fun hHeld => ?_); refine with_tabW laws_heldPairS.tab4 laws_heldPairS.bits4 (fun HT_ HW_ => ?_)
     generalize wr.drew = w9 at HB hx882_0 hx882_1 hHeld ⊢
     refine pa HT_ 0 12 (zb 8 1) ?_; refine pa HT_ 1 13 (zb 8 3) ?_; refine pa HT_ 2 14 (zb 8 7) ?_; refine pa HT_ 3 15 (zb 8 15) ?_; refine pa HT_ 5 17 (zb 8 47) ?_
     refine take_ (i := 4) (N := some 16) (v := ?_) (a' := ?_) (zb 8 63) rfl rfl (take_ofW HT_.out HW_.out (by kernel_rfl)) (fun _ _ _ h => h) (Or.inl ⟨by rfl, ?_⟩) hHeld ?_ ?_
     rotate_left; ·rintro w' ⟨s0, s1⟩; go_simp; with_reducible rfl
     rotate_left; ·simp only [Act.put, zq0, zq1, zq2, i64_w, i32_w]; rfl
     refine one_ (i := 6) (N := some 18) (zb 8 127) rfl rfl (one_of HT_.out (by kernel_rfl)) (by decide) (fun K hK => ?_)
     refine gs Try.func64 #[.int .i64 x1_1] ?_
     with_reducible refine (laws_markText.calls k1 x1_1 t883 _ A5.out).mono ?_
     rintro e w10 ⟨rfl, hb⟩
     refine ⟨_, rfl, ?_⟩
     have n0_ := zq9 (zq27 (by exact bl HB) hb)
     clear HB; have HB := n0_; clear n0_
     (try clear hb)
     (try clear hb2)
     (try clear hk)
     (try clear hi)
     refine hK.out _ _ ⟨(hcm HB hw882_0), (hcm HB hw882_1)⟩ (fun hHeld => ?_)
     clear hK K
     refine norm_ (a' := ?_) ?_ ?_
     rotate_left; ·show Act.put _ (some 18) _ = _; simp only [Act.put, zq0, zq1, zq2, i64_w, i32_w]; rfl
     refine pa HT_ 7 19 (zb 8 255) ?_
     refine done_ (done_of HT_.out (by kernel_rfl)) ?_
     by_cases c6 : ((rd_T101 l0 x5_1).f0).toList = t883.toList
     ·rw [if_pos c6] at H
      have c6b0 : (((rd_T101 l0 x5_1).f0).toList == t883.toList) = true := beq_iff_eq.mpr c6
      have c6b1 : (((rd_T101 l0 x5_1).f0).toList != t883.toList) = false := bne_eq_false_iff_eq.mpr c6
      clear c6; replace H := Option.bind_eq_some_iff.mp H; obtain ⟨t885, A70, H⟩ := H
      try dsimp only at H
      have A7 := zq9 A70; clear A70
      (try rw [c6b0]); (try rw [c6b1])
      try go_wp2
      have n0_ := zq9 (zq4 HB.out)
      clear HB; have HB := n0_; clear n0_
      have p884 : 0 ≤ (x5_1 : Int) := of_decide_eq_true ‹_›
      have q884 : x5_1 < (l0.length : Int) := of_decide_eq_true ‹_›
      obtain ⟨ad884, e884, hx884_0, hx884_1⟩ := at_T101 HR0.out x5_1 p884 q884
      have hw884_1 := hx884_1; have hw884_0 := hx884_0
      obtain rfl : ad882 = ad884 := (by injection e884)
      replace hx884_0 := hcl HB hx884_0; replace hx884_1 := hcl HB hx884_1; replace p884 := eq_true p884; replace q884 := eq_true q884
      refine start_ (n := 8) (S := fun w' => w'.cell? (ad882.add ((x5_1).toNat * 2)) = some (.string ((rd_T101 l0 x5_1).f0)) ∧ w'.cell? ⟨(ad882.add ((x5_1).toNat * 2)).block, (ad882.add ((x5_1).toNat * 2)).off + 1, none⟩ = some (.string ((rd_T101 l0 x5_1).f1))) (ds := []) #[false, false, false, false, false, false, false, false] (by kernel_rfl) rfl rfl ⟨(hcm HB hw884_0), (hcm HB hw884_1)⟩ (fun hHeld => ?_); refine with_tabW laws_heldPairS.tab7 laws_heldPairS.bits7 (fun HT_ HW_ => ?_)
      generalize w10.drew = w11 at HB hx884_0 hx884_1 hHeld ⊢
      refine pa HT_ 0 22 (zb 8 1) ?_; refine pa HT_ 1 23 (zb 8 3) ?_; refine pa HT_ 2 24 (zb 8 7) ?_; refine pa HT_ 3 25 (zb 8 15) ?_; refine pa HT_ 5 27 (zb 8 47) ?_
      refine take_ (i := 4) (N := some 26) (v := ?_) (a' := ?_) (zb 8 63) rfl rfl (take_ofW HT_.out HW_.out (by kernel_rfl)) (fun _ _ _ h => h) (Or.inl ⟨by rfl, ?_⟩) hHeld ?_ ?_
      rotate_left; ·rintro w' ⟨s0, s1⟩; go_simp; with_reducible rfl
      rotate_left; ·simp only [Act.put, zq0, zq1, zq2, i64_w, i32_w]; rfl
      refine one_ (i := 6) (N := some 28) (zb 8 127) rfl rfl (one_of HT_.out (by kernel_rfl)) (by decide) (fun K hK => ?_)
      refine gs Try.func64 #[.int .i64 (wrap64 (x1_1 + 1))] ?_
      with_reducible refine (laws_markText.calls k1 (wrap64 (x1_1 + 1)) t885 _ A7.out).mono ?_
      rintro e w12 ⟨rfl, hb⟩
      refine ⟨_, rfl, ?_⟩
      have n0_ := zq9 (zq27 (by exact bl HB) hb)
      clear HB; have HB := n0_; clear n0_
      (try clear hb)
      (try clear hb2)
      (try clear hk)
      (try clear hi)
      refine hK.out _ _ ⟨(hcm HB hw884_0), (hcm HB hw884_1)⟩ (fun hHeld => ?_)
      clear hK K
      refine norm_ (a' := ?_) ?_ ?_
      rotate_left; ·show Act.put _ (some 28) _ = _; simp only [Act.put, zq0, zq1, zq2, i64_w, i32_w]; rfl
      refine pa HT_ 7 29 (zb 8 255) ?_
      refine done_ (done_of HT_.out (by kernel_rfl)) ?_
      by_cases c8 : ((rd_T101 l0 x5_1).f1).toList = t885.toList
      ·rw [if_pos c8] at H
       have c8b0 : (((rd_T101 l0 x5_1).f1).toList == t885.toList) = true := beq_iff_eq.mpr c8
       have c8b1 : (((rd_T101 l0 x5_1).f1).toList != t885.toList) = false := bne_eq_false_iff_eq.mpr c8
       clear c8; have H' := zq9 H; clear H
       (try rw [c8b0]); (try rw [c8b1])
       try go_wp2
       go_roundg k1
       case measure => have := HK1.out; omega
       case rel => exact ⟨(wrap64 ((wrap64 (x1_1 + 1)) + 1)), (wrap64 (x5_1 + 1)), (by first | rfl | (simp; done) | (simp [*]; done)), (by first | rfl | (simp; done) | (simp [*]; done)), H', ⟨by have := HK1.out; omega⟩, ⟨by exact bl HB⟩⟩
      ·rw [if_neg c8] at H
       have c8b0 : (((rd_T101 l0 x5_1).f1).toList == t885.toList) = false := beq_eq_false_iff_ne.mpr c8
       have c8b1 : (((rd_T101 l0 x5_1).f1).toList != t885.toList) = true := bne_iff_ne.mpr c8
       obtain rfl := Option.some.inj H
       (try rw [c8b0]); (try rw [c8b1])
       try go_wp2
       go_ret
       exact fz (by exact bl HB)
     ·rw [if_neg c6] at H
      have c6b0 : (((rd_T101 l0 x5_1).f0).toList == t883.toList) = false := beq_eq_false_iff_ne.mpr c6
      have c6b1 : (((rd_T101 l0 x5_1).f0).toList != t883.toList) = true := bne_iff_ne.mpr c6
      obtain rfl := Option.some.inj H
      (try rw [c6b0]); (try rw [c6b1])
      try go_wp2
      go_ret
      exact fz (by exact bl HB)
    ·rw [if_neg c4] at H
     exact absurd H (by simp)
   ·rw [if_neg c3] at H; have c3b0 : decide (x5_1 < (l0.length : Int)) = false := decide_eq_false c3; clear c3; obtain rfl := Option.some.inj H
    go_wp2
    go_ret
    exact fz (by exact bl HB)
def laws_heldEntryS.T4 : Bool × List (List Nat × List Nat) := (true, [([], []), ([], []), ([0, 1], [0, 1]), ([2], [2]), ([3], [3]), ([], []), ([5], [5]), ([4, 6], [4, 6])])
def laws_heldEntryS.B4 : List Nat := [0, 0, 3, 7, 15, 0, 32, 127]
theorem laws_heldEntryS.tab4 : rtab .any (opsOf Try.f76 4) = laws_heldEntryS.T4 := by kernel_rfl
theorem laws_heldEntryS.bits4 : waitsOk laws_heldEntryS.T4.2 laws_heldEntryS.B4 = true := by kernel_rfl
def laws_heldEntryS.T13 : Bool × List (List Nat × List Nat) := (true, [([], []), ([], []), ([0, 1], [0, 1]), ([2], [2]), ([3], [3]), ([], []), ([5], [5]), ([4, 6], [4, 6])])
def laws_heldEntryS.B13 : List Nat := [0, 0, 3, 7, 15, 0, 32, 127]
theorem laws_heldEntryS.tab13 : rtab .any (opsOf Try.f76 13) = laws_heldEntryS.T13 := by kernel_rfl
theorem laws_heldEntryS.bits13 : waitsOk laws_heldEntryS.T13.2 laws_heldEntryS.B13 = true := by kernel_rfl
set_option maxHeartbeats 8000000 in
set_option maxRecDepth 100000 in
theorem laws_heldEntryS.calls (k : Nat) (A0 : Option Addr) (c0 : Nat) (l0 : List (S32)) (a1 : Int) (r : Int) (w : World) (hr0 : Kd.C k32 w A0 l0.length l0) (hc0 : l0.length ≤ c0) (h : laws_heldEntryS.f k l0 a1 = some r) :
  Calls Try.prog 76 #[.slice A0 l0.length c0, .int .i64 a1] w fun e w' => e = .returned (.int .i64 r) ∧ Below w.heap.size w w' := by
 have HR0 := zq9 hr0; have HC0 := zq9 hc0; clear hr0 hc0
 have HB := zq9 (Below.refl w.heap.size w)
 have H : (laws_heldEntryS.l0 k l0 a1 0) = some r := h
 clear h; have H' := zq9 H; clear H
 go_enter Try.func76, Try.ntmps76
 go_wp2
 go_loopg [1, 5] k (fun kq v1 v5 w' => ∃ (x1_1 : Int) (x5_1 : Int), v1 = .int .i64 x1_1 ∧ v5 = .int .i64 x5_1 ∧ Aside0 (laws_heldEntryS.l0 kq l0 x1_1 x5_1 = some r) ∧ Aside0 (kq ≤ k) ∧ Aside0 (Below w.heap.size w w'))
 case atStart => exact ⟨(a1), (0), (by first | rfl | (simp; done) | (simp [*]; done)), (by first | rfl | (simp; done) | (simp [*]; done)), H', ⟨Nat.le_refl _⟩, ⟨by exact bl HB⟩⟩
 case round =>
  clear H'
  try clear p2
  obtain ⟨x1_1, x5_1, rfl, rfl, HA, HK1, HB⟩ := hrel
  cases gk with
  | zero => exact absurd HA.out (by simp [laws_heldEntryS.l0])
  | succ k1 =>
   have H := HA.out; clear HA
   simp only [laws_heldEntryS.l0] at H
   refine (Classical.em (x5_1 < (l0.length : Int))).elim (fun c3 => ?p0) (fun c3 => ?n0)
   case' p0 =>
    rw [if_pos c3] at H; have c3b0 : decide (x5_1 < (l0.length : Int)) = true := decide_eq_true c3; clear c3
    refine (Classical.em (0 ≤ x5_1)).elim (fun c4 => ?p1) (fun c4 => ?n1)
    case' p1 =>
     rw [if_pos c4] at H; have c4b0 : decide (0 ≤ x5_1) = true := decide_eq_true c4; clear c4; replace H := Option.bind_eq_some_iff.mp H; obtain ⟨t1019, A50, H⟩ := H
     try dsimp only at H
     have A5 := zq9 A50; clear A50
     try go_wp2
     have n0_ := zq9 (zq4 HB.out)
     clear HB; have HB := n0_; clear n0_
     have p1018 : 0 ≤ (x5_1 : Int) := of_decide_eq_true ‹_›
     have q1018 : x5_1 < (l0.length : Int) := of_decide_eq_true ‹_›
     obtain ⟨ad1018, A1018_4, c1018_4, A1018_5, c1018_5, A1018_6, c1018_6, e1018, hx1018_0, hx1018_1, hx1018_2, hx1018_3, hx1018_4, hx1018_5, hx1018_6, hl1018_4, hi1018_4, hl1018_5, hi1018_5, hl1018_6, hi1018_6⟩ := at_T32 HR0.out x5_1 p1018 q1018
     have hw1018_6 := hx1018_6; have hw1018_5 := hx1018_5; have hw1018_4 := hx1018_4; have hw1018_3 := hx1018_3; have hw1018_2 := hx1018_2; have hw1018_1 := hx1018_1; have hw1018_0 := hx1018_0; cases e1018; have hv1018_4 := hx1018_4; have hv1018_5 := hx1018_5; have hv1018_6 := hx1018_6; replace hx1018_0 := hcl HB hx1018_0; replace hx1018_1 := hcl HB hx1018_1; replace hx1018_2 := hcl HB hx1018_2; replace hx1018_3 := hcl HB hx1018_3
     replace hx1018_4 := hcl HB hx1018_4; replace hx1018_5 := hcl HB hx1018_5; replace hx1018_6 := hcl HB hx1018_6; have HR1018_4 := zq9 hi1018_4; have HC1018_4 := zq9 hl1018_4; clear hi1018_4 hl1018_4; have HR1018_5 := zq9 hi1018_5; have HC1018_5 := zq9 hl1018_5; clear hi1018_5 hl1018_5; have HR1018_6 := zq9 hi1018_6; have HC1018_6 := zq9 hl1018_6; clear hi1018_6 hl1018_6; replace p1018 := eq_true p1018
     replace q1018 := eq_true q1018
     refine start_ (n := 8) (S := fun w' => w'.cell? (ad1018.add ((x5_1).toNat * 7)) = some (.string ((rd_T32 l0 x5_1).f0)) ∧ w'.cell? ⟨(ad1018.add ((x5_1).toNat * 7)).block, (ad1018.add ((x5_1).toNat * 7)).off + 1, none⟩ = some (.int .i64 ((rd_T32 l0 x5_1).f1)) ∧ w'.cell? ⟨(ad1018.add ((x5_1).toNat * 7)).block, (ad1018.add ((x5_1).toNat * 7)).off + 2, none⟩ = some (.int .i64 ((rd_T32 l0 x5_1).f2)) ∧ w'.cell? ⟨(ad1018.add ((x5_1).toNat * 7)).block, (ad1018.add ((x5_1).toNat * 7)).off + 3, none⟩ = some (.string ((rd_T32 l0 x5_1).f3)) ∧ w'.cell? ⟨(ad1018.add ((x5_1).toNat * 7)).block, (ad1018.add ((x5_1).toNat * 7)).off + 4, none⟩ = some (.slice A1018_4 ((rd_T32 l0 x5_1).f4).length c1018_4) ∧ w'.cell? ⟨(ad1018.add ((x5_1).toNat * 7)).block, (ad1018.add ((x5_1).toNat * 7)).off + 5, none⟩ = some (.slice A1018_5 ((rd_T32 l0 x5_1).f5).length c1018_5) ∧ w'.cell? ⟨(ad1018.add ((x5_1).toNat * 7)).block, (ad1018.add ((x5_1).toNat * 7)).off + 6, none⟩ = some (.slice A1018_6 ((rd_T32 l0 x5_1).f6).length c1018_6)) (ds := []) #[false, false, false, false, false, false, false, false] (by kernel_rfl) rfl rfl ⟨(hcm HB hw1018_0), (hcm HB hw1018_1), (hcm HB hw1018_2), (hcm HB hw1018_3), (hcm HB hw1018_4), (hcm HB hw1018_5), (hcm HB hw1018_6)⟩ (fun hHeld => ?_); refine with_tabW laws_heldEntryS.tab4 laws_heldEntryS.bits4 (fun HT_ HW_ => ?_)
     generalize wr.drew = w13 at HB HR1018_4 HR1018_5 HR1018_6 hx1018_0 hx1018_1 hx1018_2 hx1018_3 hx1018_4 hx1018_5 hx1018_6 hHeld ⊢
     refine pa HT_ 0 12 (zb 8 1) ?_; refine pa HT_ 1 13 (zb 8 3) ?_; refine pa HT_ 2 14 (zb 8 7) ?_; refine pa HT_ 3 15 (zb 8 15) ?_; refine pa HT_ 5 17 (zb 8 47) ?_
     refine take_ (i := 4) (N := some 16) (v := ?_) (a' := ?_) (zb 8 63) rfl rfl (take_ofW HT_.out HW_.out (by kernel_rfl)) (fun _ _ _ h => h) (Or.inl ⟨by rfl, ?_⟩) hHeld ?_ ?_
     rotate_left; ·rintro w' ⟨s0, s1, s2, s3, s4, s5, s6⟩; go_simp; with_reducible rfl
     rotate_left; ·simp only [Act.put, zq0, zq1, zq2, i64_w, i32_w]; rfl
     refine one_ (i := 6) (N := some 18) (zb 8 127) rfl rfl (one_of HT_.out (by kernel_rfl)) (by decide) (fun K hK => ?_)
     refine gs Try.func64 #[.int .i64 x1_1] ?_
     with_reducible refine (laws_markText.calls k1 x1_1 t1019 _ A5.out).mono ?_
     rintro e w14 ⟨rfl, hb⟩
     refine ⟨_, rfl, ?_⟩
     have n0_ := zq9 (zq27 (by exact bl HB) hb)
     clear HB; have HB := n0_; clear n0_
     (try clear hb)
     (try clear hb2)
     (try clear hk)
     (try clear hi)
     refine hK.out _ _ ⟨(hcm HB hw1018_0), (hcm HB hw1018_1), (hcm HB hw1018_2), (hcm HB hw1018_3), (hcm HB hw1018_4), (hcm HB hw1018_5), (hcm HB hw1018_6)⟩ (fun hHeld => ?_)
     clear hK K
     refine norm_ (a' := ?_) ?_ ?_
     rotate_left; ·show Act.put _ (some 18) _ = _; simp only [Act.put, zq0, zq1, zq2, i64_w, i32_w]; rfl
     refine pa HT_ 7 19 (zb 8 255) ?_
     refine done_ (done_of HT_.out (by kernel_rfl)) ?_
     refine (Classical.em (((rd_T32 l0 x5_1).f0).toList = t1019.toList)).elim (fun c6 => ?p2) (fun c6 => ?n2)
     case' p2 =>
      rw [if_pos c6] at H
      have c6b0 : (((rd_T32 l0 x5_1).f0).toList == t1019.toList) = true := beq_iff_eq.mpr c6
      have c6b1 : (((rd_T32 l0 x5_1).f0).toList != t1019.toList) = false := bne_eq_false_iff_eq.mpr c6
      clear c6
      (try rw [c6b0]); (try rw [c6b1])
      have p1020 : 0 ≤ (x5_1 : Int) := of_decide_eq_true ‹_›
      have q1020 : x5_1 < (l0.length : Int) := of_decide_eq_true ‹_›
      obtain ⟨ad1020, A1020_4, c1020_4, A1020_5, c1020_5, A1020_6, c1020_6, e1020, hx1020_0, hx1020_1, hx1020_2, hx1020_3, hx1020_4, hx1020_5, hx1020_6, hl1020_4, hi1020_4, hl1020_5, hi1020_5, hl1020_6, hi1020_6⟩ := at_T32 HR0.out x5_1 p1020 q1020
      obtain rfl : ad1018 = ad1020 := (by injection e1020)
      have ea_ := Option.some.inj (hx1020_4.symm.trans hv1018_4); injection ea_ with ea_ en_ ec_; subst ea_; subst ec_; clear en_
      have ea_ := Option.some.inj (hx1020_5.symm.trans hv1018_5); injection ea_ with ea_ en_ ec_; subst ea_; subst ec_; clear en_
      have ea_ := Option.some.inj (hx1020_6.symm.trans hv1018_6); injection ea_ with ea_ en_ ec_; subst ea_; subst ec_; clear en_
      have hv1020_4 := hx1020_4; have hv1020_5 := hx1020_5; have hv1020_6 := hx1020_6; replace hx1020_0 := hcl HB hx1020_0; replace hx1020_1 := hcl HB hx1020_1; replace hx1020_2 := hcl HB hx1020_2; replace hx1020_3 := hcl HB hx1020_3; replace hx1020_4 := hcl HB hx1020_4; replace hx1020_5 := hcl HB hx1020_5; replace hx1020_6 := hcl HB hx1020_6; have HR1020_4 := zq9 hi1020_4; have HC1020_4 := zq9 hl1020_4
      clear hi1020_4 hl1020_4; have HR1020_5 := zq9 hi1020_5; have HC1020_5 := zq9 hl1020_5; clear hi1020_5 hl1020_5; have HR1020_6 := zq9 hi1020_6; have HC1020_6 := zq9 hl1020_6; clear hi1020_6 hl1020_6; replace p1020 := eq_true p1020; replace q1020 := eq_true q1020
      refine (Classical.em (((rd_T32 l0 x5_1).f1) = (wrap64 (x1_1 + 1)))).elim (fun c7 => ?p3) (fun c7 => ?n3)
      case' p3 =>
       rw [if_pos c7] at H
       have c7b0 : (((rd_T32 l0 x5_1).f1) == (wrap64 (x1_1 + 1))) = true := beq_iff_eq.mpr c7
       have c7b1 : (((rd_T32 l0 x5_1).f1) != (wrap64 (x1_1 + 1))) = false := bne_eq_false_iff_eq.mpr c7
       clear c7
       (try rw [c7b0]); (try rw [c7b1])
       have p1021 : 0 ≤ (x5_1 : Int) := of_decide_eq_true ‹_›
       have q1021 : x5_1 < (l0.length : Int) := of_decide_eq_true ‹_›
       obtain ⟨ad1021, A1021_4, c1021_4, A1021_5, c1021_5, A1021_6, c1021_6, e1021, hx1021_0, hx1021_1, hx1021_2, hx1021_3, hx1021_4, hx1021_5, hx1021_6, hl1021_4, hi1021_4, hl1021_5, hi1021_5, hl1021_6, hi1021_6⟩ := at_T32 HR0.out x5_1 p1021 q1021
       obtain rfl : ad1018 = ad1021 := (by injection e1021)
       have hv1021_4 := hx1021_4; have hv1021_5 := hx1021_5; have hv1021_6 := hx1021_6; replace hx1021_0 := hcl HB hx1021_0; replace hx1021_1 := hcl HB hx1021_1; replace hx1021_2 := hcl HB hx1021_2; replace hx1021_3 := hcl HB hx1021_3; replace hx1021_4 := hcl HB hx1021_4; replace hx1021_5 := hcl HB hx1021_5; replace hx1021_6 := hcl HB hx1021_6; have HR1021_4 := zq9 hi1021_4; have HC1021_4 := zq9 hl1021_4
       clear hi1021_4 hl1021_4; have HR1021_5 := zq9 hi1021_5; have HC1021_5 := zq9 hl1021_5; clear hi1021_5 hl1021_5; have HR1021_6 := zq9 hi1021_6; have HC1021_6 := zq9 hl1021_6; clear hi1021_6 hl1021_6; replace p1021 := eq_true p1021; replace q1021 := eq_true q1021
       have ea_ := Option.some.inj (hx1020_4.symm.trans hx1021_4)
       injection ea_ with ea_ en_ ec_
       subst ea_; subst ec_; clear en_
       have ea_ := Option.some.inj (hx1020_5.symm.trans hx1021_5)
       injection ea_ with ea_ en_ ec_
       subst ea_; subst ec_; clear en_
       have ea_ := Option.some.inj (hx1020_6.symm.trans hx1021_6)
       injection ea_ with ea_ en_ ec_
       subst ea_; subst ec_; clear en_
       refine (Classical.em (((rd_T32 l0 x5_1).f2) = (wrap64 ((wrap64 (x1_1 + 1)) + 1)))).elim (fun c8 => ?p4) (fun c8 => ?n4)
       case' p4 =>
        rw [if_pos c8] at H
        have c8b0 : (((rd_T32 l0 x5_1).f2) == (wrap64 ((wrap64 (x1_1 + 1)) + 1))) = true := beq_iff_eq.mpr c8
        have c8b1 : (((rd_T32 l0 x5_1).f2) != (wrap64 ((wrap64 (x1_1 + 1)) + 1))) = false := bne_eq_false_iff_eq.mpr c8
        clear c8; replace H := Option.bind_eq_some_iff.mp H; obtain ⟨t1023, A90, H⟩ := H
        try dsimp only at H
        have A9 := zq9 A90; clear A90
        (try rw [c8b0]); (try rw [c8b1])
        try go_wp2
        have n0_ := zq9 (zq4 HB.out)
        clear HB; have HB := n0_; clear n0_
        have p1022 : 0 ≤ (x5_1 : Int) := of_decide_eq_true ‹_›
        have q1022 : x5_1 < (l0.length : Int) := of_decide_eq_true ‹_›
        obtain ⟨ad1022, A1022_4, c1022_4, A1022_5, c1022_5, A1022_6, c1022_6, e1022, hx1022_0, hx1022_1, hx1022_2, hx1022_3, hx1022_4, hx1022_5, hx1022_6, hl1022_4, hi1022_4, hl1022_5, hi1022_5, hl1022_6, hi1022_6⟩ := at_T32 HR0.out x5_1 p1022 q1022
        have hw1022_6 := hx1022_6; have hw1022_5 := hx1022_5; have hw1022_4 := hx1022_4; have hw1022_3 := hx1022_3; have hw1022_2 := hx1022_2; have hw1022_1 := hx1022_1; have hw1022_0 := hx1022_0
        obtain rfl : ad1018 = ad1022 := (by injection e1022)
        have ea_ := Option.some.inj (hx1022_4.symm.trans hv1020_4); injection ea_ with ea_ en_ ec_; subst ea_; subst ec_; clear en_
        have ea_ := Option.some.inj (hx1022_5.symm.trans hv1020_5); injection ea_ with ea_ en_ ec_; subst ea_; subst ec_; clear en_
        have ea_ := Option.some.inj (hx1022_6.symm.trans hv1020_6); injection ea_ with ea_ en_ ec_; subst ea_; subst ec_; clear en_
        have hv1022_4 := hx1022_4; have hv1022_5 := hx1022_5; have hv1022_6 := hx1022_6; replace hx1022_0 := hcl HB hx1022_0; replace hx1022_1 := hcl HB hx1022_1; replace hx1022_2 := hcl HB hx1022_2; replace hx1022_3 := hcl HB hx1022_3; replace hx1022_4 := hcl HB hx1022_4; replace hx1022_5 := hcl HB hx1022_5; replace hx1022_6 := hcl HB hx1022_6; have HR1022_4 := zq9 hi1022_4; have HC1022_4 := zq9 hl1022_4
        clear hi1022_4 hl1022_4; have HR1022_5 := zq9 hi1022_5; have HC1022_5 := zq9 hl1022_5; clear hi1022_5 hl1022_5; have HR1022_6 := zq9 hi1022_6; have HC1022_6 := zq9 hl1022_6; clear hi1022_6 hl1022_6; replace p1022 := eq_true p1022; replace q1022 := eq_true q1022
        refine start_ (n := 8) (S := fun w' => w'.cell? (ad1018.add ((x5_1).toNat * 7)) = some (.string ((rd_T32 l0 x5_1).f0)) ∧ w'.cell? ⟨(ad1018.add ((x5_1).toNat * 7)).block, (ad1018.add ((x5_1).toNat * 7)).off + 1, none⟩ = some (.int .i64 ((rd_T32 l0 x5_1).f1)) ∧ w'.cell? ⟨(ad1018.add ((x5_1).toNat * 7)).block, (ad1018.add ((x5_1).toNat * 7)).off + 2, none⟩ = some (.int .i64 ((rd_T32 l0 x5_1).f2)) ∧ w'.cell? ⟨(ad1018.add ((x5_1).toNat * 7)).block, (ad1018.add ((x5_1).toNat * 7)).off + 3, none⟩ = some (.string ((rd_T32 l0 x5_1).f3)) ∧ w'.cell? ⟨(ad1018.add ((x5_1).toNat * 7)).block, (ad1018.add ((x5_1).toNat * 7)).off + 4, none⟩ = some (.slice A1022_4 ((rd_T32 l0 x5_1).f4).length c1022_4) ∧ w'.cell? ⟨(ad1018.add ((x5_1).toNat * 7)).block, (ad1018.add ((x5_1).toNat * 7)).off + 5, none⟩ = some (.slice A1022_5 ((rd_T32 l0 x5_1).f5).length c1022_5) ∧ w'.cell? ⟨(ad1018.add ((x5_1).toNat * 7)).block, (ad1018.add ((x5_1).toNat * 7)).off + 6, none⟩ = some (.slice A1022_6 ((rd_T32 l0 x5_1).f6).length c1022_6)) (ds := []) #[false, false, false, false, false, false, false, false] (by kernel_rfl) rfl rfl ⟨(hcm HB hw1022_0), (hcm HB hw1022_1), (hcm HB hw1022_2), (hcm HB hw1022_3), (hcm HB hw1022_4), (hcm HB hw1022_5), (hcm HB hw1022_6)⟩ (fun hHeld => ?_); refine with_tabW laws_heldEntryS.tab13 laws_heldEntryS.bits13 (fun HT_ HW_ => ?_)
        generalize w14.drew = w15 at HB HR1022_4 HR1022_5 HR1022_6 hx1022_0 hx1022_1 hx1022_2 hx1022_3 hx1022_4 hx1022_5 hx1022_6 hHeld ⊢
        refine pa HT_ 0 40 (zb 8 1) ?_; refine pa HT_ 1 41 (zb 8 3) ?_; refine pa HT_ 2 42 (zb 8 7) ?_; refine pa HT_ 3 43 (zb 8 15) ?_; refine pa HT_ 5 45 (zb 8 47) ?_
        refine take_ (i := 4) (N := some 44) (v := ?_) (a' := ?_) (zb 8 63) rfl rfl (take_ofW HT_.out HW_.out (by kernel_rfl)) (fun _ _ _ h => h) (Or.inl ⟨by rfl, ?_⟩) hHeld ?_ ?_
        rotate_left; ·rintro w' ⟨s0, s1, s2, s3, s4, s5, s6⟩; go_simp; with_reducible rfl
        rotate_left; ·simp only [Act.put, zq0, zq1, zq2, i64_w, i32_w]; rfl
        refine one_ (i := 6) (N := some 46) (zb 8 127) rfl rfl (one_of HT_.out (by kernel_rfl)) (by decide) (fun K hK => ?_)
        refine gs Try.func64 #[.int .i64 (wrap64 ((wrap64 ((wrap64 (x1_1 + 1)) + 1)) + 1))] ?_
        with_reducible refine (laws_markText.calls k1 (wrap64 ((wrap64 ((wrap64 (x1_1 + 1)) + 1)) + 1)) t1023 _ A9.out).mono ?_
        rintro e w16 ⟨rfl, hb⟩
        refine ⟨_, rfl, ?_⟩
        have n0_ := zq9 (zq27 (by exact bl HB) hb)
        clear HB; have HB := n0_; clear n0_
        (try clear hb)
        (try clear hb2)
        (try clear hk)
        (try clear hi)
        refine hK.out _ _ ⟨(hcm HB hw1022_0), (hcm HB hw1022_1), (hcm HB hw1022_2), (hcm HB hw1022_3), (hcm HB hw1022_4), (hcm HB hw1022_5), (hcm HB hw1022_6)⟩ (fun hHeld => ?_)
        clear hK K
        refine norm_ (a' := ?_) ?_ ?_
        rotate_left; ·show Act.put _ (some 46) _ = _; simp only [Act.put, zq0, zq1, zq2, i64_w, i32_w]; rfl
        refine pa HT_ 7 47 (zb 8 255) ?_
        refine done_ (done_of HT_.out (by kernel_rfl)) ?_
        refine (Classical.em (((rd_T32 l0 x5_1).f3).toList = t1023.toList)).elim (fun c10 => ?p5) (fun c10 => ?n5)
        case' p5 =>
         rw [if_pos c10] at H
         have c10b0 : (((rd_T32 l0 x5_1).f3).toList == t1023.toList) = true := beq_iff_eq.mpr c10
         have c10b1 : (((rd_T32 l0 x5_1).f3).toList != t1023.toList) = false := bne_eq_false_iff_eq.mpr c10
         clear c10; replace H := Option.bind_eq_some_iff.mp H; obtain ⟨t1025, A110, H⟩ := H
         try dsimp only at H
         have A11 := zq9 A110; clear A110
         (try rw [c10b0]); (try rw [c10b1])
         have p1024 : 0 ≤ (x5_1 : Int) := of_decide_eq_true ‹_›
         have q1024 : x5_1 < (l0.length : Int) := of_decide_eq_true ‹_›
         obtain ⟨ad1024, A1024_4, c1024_4, A1024_5, c1024_5, A1024_6, c1024_6, e1024, hx1024_0, hx1024_1, hx1024_2, hx1024_3, hx1024_4, hx1024_5, hx1024_6, hl1024_4, hi1024_4, hl1024_5, hi1024_5, hl1024_6, hi1024_6⟩ := at_T32 HR0.out x5_1 p1024 q1024
         obtain rfl : ad1018 = ad1024 := (by injection e1024)
         have ea_ := Option.some.inj (hx1024_4.symm.trans hv1022_4); injection ea_ with ea_ en_ ec_; subst ea_; subst ec_; clear en_
         have ea_ := Option.some.inj (hx1024_5.symm.trans hv1022_5); injection ea_ with ea_ en_ ec_; subst ea_; subst ec_; clear en_
         have ea_ := Option.some.inj (hx1024_6.symm.trans hv1022_6); injection ea_ with ea_ en_ ec_; subst ea_; subst ec_; clear en_
         have hv1024_4 := hx1024_4; have hv1024_5 := hx1024_5; have hv1024_6 := hx1024_6; replace hx1024_0 := hcl HB hx1024_0; replace hx1024_1 := hcl HB hx1024_1; replace hx1024_2 := hcl HB hx1024_2; replace hx1024_3 := hcl HB hx1024_3; replace hx1024_4 := hcl HB hx1024_4; replace hx1024_5 := hcl HB hx1024_5; replace hx1024_6 := hcl HB hx1024_6; have HR1024_4 := zq9 hi1024_4; have HC1024_4 := zq9 hl1024_4
         clear hi1024_4 hl1024_4; have HR1024_5 := zq9 hi1024_5; have HC1024_5 := zq9 hl1024_5; clear hi1024_5 hl1024_5; have HR1024_6 := zq9 hi1024_6; have HC1024_6 := zq9 hl1024_6; clear hi1024_6 hl1024_6; replace p1024 := eq_true p1024; replace q1024 := eq_true q1024
         refine (Classical.em (t1025 < 0)).elim (fun c12 => ?p6) (fun c12 => ?n6)
         case' p6 =>
          rw [if_pos c12] at H; have c12b0 : decide (t1025 < 0) = true := decide_eq_true c12; clear c12; obtain rfl := Option.some.inj H
          (try rw [c12b0])
         case' n6 =>
          rw [if_neg c12] at H; have c12b0 : decide (t1025 < 0) = false := decide_eq_false c12; clear c12; replace H := Option.bind_eq_some_iff.mp H; obtain ⟨t1027, A180, H⟩ := H
          try dsimp only at H
          have A18 := zq9 A180; clear A180
          (try rw [c12b0])
          refine (Classical.em (t1027 < 0)).elim (fun c19 => ?p7) (fun c19 => ?n7)
          case' p7 =>
           rw [if_pos c19] at H; have c19b0 : decide (t1027 < 0) = true := decide_eq_true c19; clear c19; obtain rfl := Option.some.inj H
           (try rw [c19b0])
          case' n7 =>
           rw [if_neg c19] at H; have c19b0 : decide (t1027 < 0) = false := decide_eq_false c19; clear c19; replace H := Option.bind_eq_some_iff.mp H; obtain ⟨t1029, A260, H⟩ := H
           try dsimp only at H
           have A26 := zq9 A260; clear A260
           (try rw [c19b0])
           refine (Classical.em (t1029 < 0)).elim (fun c27 => ?p8) (fun c27 => ?n8)
           case' p8 =>
            rw [if_pos c27] at H; have c27b0 : decide (t1029 < 0) = true := decide_eq_true c27; clear c27; obtain rfl := Option.some.inj H
            (try rw [c27b0])
           case n8 =>
            rw [if_neg c27] at H; have c27b0 : decide (t1029 < 0) = false := decide_eq_false c27; clear c27; have H' := zq9 H; clear H
            (try rw [c27b0])
            try go_wp2_with (first | ((with_reducible refine zq24 (f := 26) rfl ?_); refine gl (some 56) Try.func26 #[.slice A1024_4 ((rd_T32 l0 x5_1).f4).length c1024_4, .int .i64 (wrap64 ((wrap64 ((wrap64 ((wrap64 (x1_1 + 1)) + 1)) + 1)) + 1))] ?_; (with_reducible refine (laws_heldStringS.calls k1 _ _ ((rd_T32 l0 x5_1).f4) (wrap64 ((wrap64 ((wrap64 ((wrap64 (x1_1 + 1)) + 1)) + 1)) + 1)) t1025 _ ?side1 ?side2 A11.out).mono ?_); (case side1 => exact kc HR1024_4 HB); (case side2 => exact HC1024_4.out); rintro e w17 ⟨rfl, hb⟩; refine ⟨_, rfl, ?_⟩; have n0_ := zq9 (zq27 (by exact bl HB) hb); clear HB; have HB := n0_; clear n0_; (try clear hb); (try clear hb2); (try clear hk); (try clear hi); have p1026 : 0 ≤ (x5_1 : Int) := of_decide_eq_true ‹_›; have q1026 : x5_1 < (l0.length : Int) := of_decide_eq_true ‹_›; obtain ⟨ad1026, A1026_4, c1026_4, A1026_5, c1026_5, A1026_6, c1026_6, e1026, hx1026_0, hx1026_1, hx1026_2, hx1026_3, hx1026_4, hx1026_5, hx1026_6, hl1026_4, hi1026_4, hl1026_5, hi1026_5, hl1026_6, hi1026_6⟩ := at_T32 HR0.out x5_1 p1026 q1026; obtain rfl : ad1018 = ad1026 := (by injection e1026); replace hx1026_0 := hcl HB hx1026_0; replace hx1026_1 := hcl HB hx1026_1; replace hx1026_2 := hcl HB hx1026_2; replace hx1026_3 := hcl HB hx1026_3; replace hx1026_4 := hcl HB hx1026_4; replace hx1026_5 := hcl HB hx1026_5; replace hx1026_6 := hcl HB hx1026_6; have HR1026_4 := zq9 hi1026_4; have HC1026_4 := zq9 hl1026_4; clear hi1026_4 hl1026_4; have HR1026_5 := zq9 hi1026_5; have HC1026_5 := zq9 hl1026_5; clear hi1026_5 hl1026_5; have HR1026_6 := zq9 hi1026_6; have HC1026_6 := zq9 hl1026_6; clear hi1026_6 hl1026_6; replace p1026 := eq_true p1026; replace q1026 := eq_true q1026) | ((with_reducible refine zq24 (f := 71) rfl ?_); refine gl (some 65) Try.func71 #[.slice A1026_5 ((rd_T32 l0 x5_1).f5).length c1026_5, .int .i64 t1025] ?_; (with_reducible refine (laws_heldScoreS.calls k1 _ _ ((rd_T32 l0 x5_1).f5) t1025 t1027 _ ?side1 ?side2 A18.out).mono ?_); (case side1 => exact kc HR1026_5 HB); (case side2 => exact HC1026_5.out); rintro e w25 ⟨rfl, hb⟩; refine ⟨_, rfl, ?_⟩; have n0_ := zq9 (zq27 (by exact bl HB) hb); clear HB; have HB := n0_; clear n0_; (try clear hb); (try clear hb2); (try clear hk); (try clear hi); have p1028 : 0 ≤ (x5_1 : Int) := of_decide_eq_true ‹_›; have q1028 : x5_1 < (l0.length : Int) := of_decide_eq_true ‹_›; obtain ⟨ad1028, A1028_4, c1028_4, A1028_5, c1028_5, A1028_6, c1028_6, e1028, hx1028_0, hx1028_1, hx1028_2, hx1028_3, hx1028_4, hx1028_5, hx1028_6, hl1028_4, hi1028_4, hl1028_5, hi1028_5, hl1028_6, hi1028_6⟩ := at_T32 HR0.out x5_1 p1028 q1028; obtain rfl : ad1018 = ad1028 := (by injection e1028); replace hx1028_0 := hcl HB hx1028_0; replace hx1028_1 := hcl HB hx1028_1; replace hx1028_2 := hcl HB hx1028_2; replace hx1028_3 := hcl HB hx1028_3; replace hx1028_4 := hcl HB hx1028_4; replace hx1028_5 := hcl HB hx1028_5; replace hx1028_6 := hcl HB hx1028_6; have HR1028_4 := zq9 hi1028_4; have HC1028_4 := zq9 hl1028_4; clear hi1028_4 hl1028_4; have HR1028_5 := zq9 hi1028_5; have HC1028_5 := zq9 hl1028_5; clear hi1028_5 hl1028_5; have HR1028_6 := zq9 hi1028_6; have HC1028_6 := zq9 hl1028_6; clear hi1028_6 hl1028_6; replace p1028 := eq_true p1028; replace q1028 := eq_true q1028) | ((with_reducible refine zq24 (f := 72) rfl ?_); refine gl (some 74) Try.func72 #[.slice A1028_6 ((rd_T32 l0 x5_1).f6).length c1028_6, .int .i64 t1027] ?_; (with_reducible refine (laws_heldPairS.calls k1 _ _ ((rd_T32 l0 x5_1).f6) t1027 t1029 _ ?side1 ?side2 A26.out).mono ?_); (case side1 => exact kc HR1028_6 HB); (case side2 => exact HC1028_6.out); rintro e w34 ⟨rfl, hb⟩; refine ⟨_, rfl, ?_⟩; have n0_ := zq9 (zq27 (by exact bl HB) hb); clear HB; have HB := n0_; clear n0_; (try clear hb); (try clear hb2); (try clear hk); (try clear hi)))
            go_roundg k1
            case measure => have := HK1.out; omega
            case rel => exact ⟨(t1029), (wrap64 (x5_1 + 1)), (by first | rfl | (simp; done) | (simp [*]; done)), (by first | rfl | (simp; done) | (simp [*]; done)), H', ⟨by have := HK1.out; omega⟩, ⟨by exact bl HB⟩⟩
        case n5 =>
         rw [if_neg c10] at H
         have c10b0 : (((rd_T32 l0 x5_1).f3).toList == t1023.toList) = false := beq_eq_false_iff_ne.mpr c10
         have c10b1 : (((rd_T32 l0 x5_1).f3).toList != t1023.toList) = true := bne_iff_ne.mpr c10
         obtain rfl := Option.some.inj H
         (try rw [c10b0]); (try rw [c10b1])
         try go_wp2
         go_ret
         exact fz (by exact bl HB)
       case n4 =>
        rw [if_neg c8] at H
        have c8b0 : (((rd_T32 l0 x5_1).f2) == (wrap64 ((wrap64 (x1_1 + 1)) + 1))) = false := beq_eq_false_iff_ne.mpr c8
        have c8b1 : (((rd_T32 l0 x5_1).f2) != (wrap64 ((wrap64 (x1_1 + 1)) + 1))) = true := bne_iff_ne.mpr c8
        obtain rfl := Option.some.inj H
        (try rw [c8b0]); (try rw [c8b1])
        try go_wp2
        go_ret
        exact fz (by exact bl HB)
      case n3 =>
       rw [if_neg c7] at H
       have c7b0 : (((rd_T32 l0 x5_1).f1) == (wrap64 (x1_1 + 1))) = false := beq_eq_false_iff_ne.mpr c7
       have c7b1 : (((rd_T32 l0 x5_1).f1) != (wrap64 (x1_1 + 1))) = true := bne_iff_ne.mpr c7
       obtain rfl := Option.some.inj H
       (try rw [c7b0]); (try rw [c7b1])
       try go_wp2
       go_ret
       exact fz (by exact bl HB)
     case n2 =>
      rw [if_neg c6] at H
      have c6b0 : (((rd_T32 l0 x5_1).f0).toList == t1019.toList) = false := beq_eq_false_iff_ne.mpr c6
      have c6b1 : (((rd_T32 l0 x5_1).f0).toList != t1019.toList) = true := bne_iff_ne.mpr c6
      obtain rfl := Option.some.inj H
      (try rw [c6b0]); (try rw [c6b1])
      try go_wp2
      go_ret
      exact fz (by exact bl HB)
    case n1 =>
     rw [if_neg c4] at H
     exact absurd H (by simp)
   case n0 =>
    rw [if_neg c3] at H; have c3b0 : decide (x5_1 < (l0.length : Int)) = false := decide_eq_false c3; clear c3; obtain rfl := Option.some.inj H
    go_wp2
    go_ret
    exact fz (by exact bl HB)
   case p6 | p7 | n7 =>
    try go_wp2_with (first | ((with_reducible refine zq24 (f := 26) rfl ?_); refine gl (some 56) Try.func26 #[.slice A1024_4 ((rd_T32 l0 x5_1).f4).length c1024_4, .int .i64 (wrap64 ((wrap64 ((wrap64 ((wrap64 (x1_1 + 1)) + 1)) + 1)) + 1))] ?_; (with_reducible refine (laws_heldStringS.calls k1 _ _ ((rd_T32 l0 x5_1).f4) (wrap64 ((wrap64 ((wrap64 ((wrap64 (x1_1 + 1)) + 1)) + 1)) + 1)) t1025 _ ?side1 ?side2 A11.out).mono ?_); (case side1 => exact kc HR1024_4 HB); (case side2 => exact HC1024_4.out); rintro e w17 ⟨rfl, hb⟩; refine ⟨_, rfl, ?_⟩; have n0_ := zq9 (zq27 (by exact bl HB) hb); clear HB; have HB := n0_; clear n0_; (try clear hb); (try clear hb2); (try clear hk); (try clear hi); have p1026 : 0 ≤ (x5_1 : Int) := of_decide_eq_true ‹_›; have q1026 : x5_1 < (l0.length : Int) := of_decide_eq_true ‹_›; obtain ⟨ad1026, A1026_4, c1026_4, A1026_5, c1026_5, A1026_6, c1026_6, e1026, hx1026_0, hx1026_1, hx1026_2, hx1026_3, hx1026_4, hx1026_5, hx1026_6, hl1026_4, hi1026_4, hl1026_5, hi1026_5, hl1026_6, hi1026_6⟩ := at_T32 HR0.out x5_1 p1026 q1026; obtain rfl : ad1018 = ad1026 := (by injection e1026); replace hx1026_0 := hcl HB hx1026_0; replace hx1026_1 := hcl HB hx1026_1; replace hx1026_2 := hcl HB hx1026_2; replace hx1026_3 := hcl HB hx1026_3; replace hx1026_4 := hcl HB hx1026_4; replace hx1026_5 := hcl HB hx1026_5; replace hx1026_6 := hcl HB hx1026_6; have HR1026_4 := zq9 hi1026_4; have HC1026_4 := zq9 hl1026_4; clear hi1026_4 hl1026_4; have HR1026_5 := zq9 hi1026_5; have HC1026_5 := zq9 hl1026_5; clear hi1026_5 hl1026_5; have HR1026_6 := zq9 hi1026_6; have HC1026_6 := zq9 hl1026_6; clear hi1026_6 hl1026_6; replace p1026 := eq_true p1026; replace q1026 := eq_true q1026) | ((with_reducible refine zq24 (f := 71) rfl ?_); refine gl (some 65) Try.func71 #[.slice A1026_5 ((rd_T32 l0 x5_1).f5).length c1026_5, .int .i64 t1025] ?_; (with_reducible refine (laws_heldScoreS.calls k1 _ _ ((rd_T32 l0 x5_1).f5) t1025 t1027 _ ?side1 ?side2 A18.out).mono ?_); (case side1 => exact kc HR1026_5 HB); (case side2 => exact HC1026_5.out); rintro e w25 ⟨rfl, hb⟩; refine ⟨_, rfl, ?_⟩; have n0_ := zq9 (zq27 (by exact bl HB) hb); clear HB; have HB := n0_; clear n0_; (try clear hb); (try clear hb2); (try clear hk); (try clear hi); have p1028 : 0 ≤ (x5_1 : Int) := of_decide_eq_true ‹_›; have q1028 : x5_1 < (l0.length : Int) := of_decide_eq_true ‹_›; obtain ⟨ad1028, A1028_4, c1028_4, A1028_5, c1028_5, A1028_6, c1028_6, e1028, hx1028_0, hx1028_1, hx1028_2, hx1028_3, hx1028_4, hx1028_5, hx1028_6, hl1028_4, hi1028_4, hl1028_5, hi1028_5, hl1028_6, hi1028_6⟩ := at_T32 HR0.out x5_1 p1028 q1028; obtain rfl : ad1018 = ad1028 := (by injection e1028); replace hx1028_0 := hcl HB hx1028_0; replace hx1028_1 := hcl HB hx1028_1; replace hx1028_2 := hcl HB hx1028_2; replace hx1028_3 := hcl HB hx1028_3; replace hx1028_4 := hcl HB hx1028_4; replace hx1028_5 := hcl HB hx1028_5; replace hx1028_6 := hcl HB hx1028_6; have HR1028_4 := zq9 hi1028_4; have HC1028_4 := zq9 hl1028_4; clear hi1028_4 hl1028_4; have HR1028_5 := zq9 hi1028_5; have HC1028_5 := zq9 hl1028_5; clear hi1028_5 hl1028_5; have HR1028_6 := zq9 hi1028_6; have HC1028_6 := zq9 hl1028_6; clear hi1028_6 hl1028_6; replace p1028 := eq_true p1028; replace q1028 := eq_true q1028) | ((with_reducible refine zq24 (f := 72) rfl ?_); refine gl (some 74) Try.func72 #[.slice A1028_6 ((rd_T32 l0 x5_1).f6).length c1028_6, .int .i64 t1027] ?_; (with_reducible refine (laws_heldPairS.calls k1 _ _ ((rd_T32 l0 x5_1).f6) t1027 t1029 _ ?side1 ?side2 A26.out).mono ?_); (case side1 => exact kc HR1028_6 HB); (case side2 => exact HC1028_6.out); rintro e w34 ⟨rfl, hb⟩; refine ⟨_, rfl, ?_⟩; have n0_ := zq9 (zq27 (by exact bl HB) hb); clear HB; have HB := n0_; clear n0_; (try clear hb); (try clear hb2); (try clear hk); (try clear hi)))
    go_ret
    exact fz (by exact bl HB)
set_option maxHeartbeats 8000000 in
set_option maxRecDepth 100000 in
theorem laws_heldBase.calls (k : Nat) (a0_0 : Int) (A0_1 : Option Addr) (c0_1 : Nat) (l0_1 : List (S32)) (a1 : Int) (r : Int) (w : World) (hr0_1 : Kd.C k32 w A0_1 l0_1.length l0_1) (hc0_1 : l0_1.length ≤ c0_1) (h : laws_heldBase.f k a0_0 l0_1 a1 = some r) :
    Calls Try.prog 33 #[.agg #[.int .i64 a0_0, .slice A0_1 l0_1.length c0_1], .int .i64 a1] w fun e w' => e = .returned (.int .i64 r) ∧ Below w.heap.size w w' := by
  have hu46 := Try.underlying46; have HR0_1 := zq9 hr0_1; have HC0_1 := zq9 hc0_1; clear hr0_1 hc0_1
  have HB := zq9 (Below.refl w.heap.size w)
  have H : ((laws_heldEntryS.f k l0_1 a1).bind fun t1031 => (if t1031 < 0 then (some (-1)) else (some t1031))) = some r := h
  clear h; replace H := Option.bind_eq_some_iff.mp H; obtain ⟨t1031, A30, H⟩ := H
  try dsimp only at H
  have A3 := zq9 A30; clear A30
  go_enter Try.func33, Try.ntmps33
  refine (Classical.em (t1031 < 0)).elim (fun c4 => ?p0) (fun c4 => ?n0)
  case' p0 =>
    rw [if_pos c4] at H; have c4b0 : decide (t1031 < 0) = true := decide_eq_true c4; clear c4; obtain rfl := Option.some.inj H
  case' n0 =>
    rw [if_neg c4] at H; have c4b0 : decide (t1031 < 0) = false := decide_eq_false c4; clear c4; obtain rfl := Option.some.inj H
  case p0 | n0 =>
    try go_wp2_with (first | ((with_reducible refine zq25 (N := 2) rfl ?_); refine bx 2 #[.int .i64 a0_0, .slice A0_1 l0_1.length c0_1] 46 ?_; intro gb1030 hg w5 hbox hb; have n0_ := zq9 (zq27 (by exact bl HB) hb); have n1_ := zq9 (hbox); have n2_ := zq9 ((by rw [hg]; exact (zq29 (by exact bl HB)) : w.heap.size ≤ gb1030)); have n3_ := n2_; clear HB; have HB := n0_; have BK1030 := n1_; have GW1030 := n2_; have GE1030 := n3_; clear n0_ n1_ n2_ n3_; clear hb hbox hg; have hcz6_0 : w5.cell? ⟨gb1030, 0, none⟩ = some (.int .i64 a0_0) := bc BK1030 0; have hcz6_1 : w5.cell? ⟨gb1030, 1, none⟩ = some (.slice A0_1 l0_1.length c0_1) := bc BK1030 1; have hfz6_0 := zq6 BK1030.out 0; have hfz6_1 := zq6 BK1030.out 1) | ((with_reducible refine zq24 (f := 76) rfl ?_); refine gl (some 8) Try.func76 #[.slice A0_1 l0_1.length c0_1, .int .i64 a1] ?_; (with_reducible refine (laws_heldEntryS.calls k _ _ l0_1 a1 t1031 _ ?side1 ?side2 A3.out).mono ?_); (case side1 => exact kc HR0_1 HB); (case side2 => exact HC0_1.out); rintro e w7 ⟨rfl, hb⟩; refine ⟨_, rfl, ?_⟩; have n0_ := zq9 (zq30 (g := gb1030) (o := .cells #[.int .i64 a0_0, .slice A0_1 l0_1.length c0_1] 46 (0, 0)) (by exact bk BK1030) hb); have n1_ := zq9 (zq27 (by exact b1 HB GE1030) hb); clear BK1030; clear HB; have BK1030 := n0_; have HB := n1_; clear n0_ n1_; (try clear hb); (try clear hb2); (try clear hk); (try clear hi)))
    go_ret
    exact fz (by exact b1 HB GE1030)
set_option maxHeartbeats 8000000 in
set_option maxRecDepth 100000 in
theorem spec_l1In.calls (a0 : Int) (a1 : Int) (a2 : Int) (r : Bool) (w : World) (h : spec_l1In.f a0 a1 a2 = some r) :
    Calls Try.prog 40 #[.int .i64 a0, .int .i64 a1, .int .i64 a2] w fun e w' => e = .returned (.bool r) ∧ Drawn0 w w' := by
  have H : (if a0 ≥ a1 then (some (decide (a0 ≤ a2))) else (some false)) = some r := h
  clear h
  by_cases c4 : a0 ≥ a1
  · rw [if_pos c4] at H; have c4b0 : decide (a1 ≤ a0) = true := decide_eq_true c4; clear c4; obtain rfl := Option.some.inj H
    go_enter Try.func40, Try.ntmps40
    go_wp2
    go_ret
    exact ⟨by first | rfl | (simp; done) | (simp [*]; done), by repeat (first | exact Drawn0.refl _ | apply Drawn0.step)⟩
  · rw [if_neg c4] at H; have c4b0 : decide (a1 ≤ a0) = false := decide_eq_false c4; clear c4; obtain rfl := Option.some.inj H
    go_enter Try.func40, Try.ntmps40
    go_wp2
    go_ret
    exact ⟨by first | rfl | (simp; done) | (simp [*]; done), by repeat (first | exact Drawn0.refl _ | apply Drawn0.step)⟩
set_option maxHeartbeats 8000000 in
set_option maxRecDepth 100000 in
theorem spec_l4Key.calls (a0 : ByteArray) (r : Bool) (w : World) (h : spec_l4Key.f a0 = some r) :
    Calls Try.prog 39 #[.string a0] w fun e w' => e = .returned (.bool r) ∧ Drawn0 w w' := by
  have H : ((spec_l1In.f (a0.size : Int) 1 12).bind fun t112 => (some t112)) = some r := h
  clear h; replace H := Option.bind_eq_some_iff.mp H; obtain ⟨t112, A20, H⟩ := H
  try dsimp only at H
  have A2 := zq9 A20; clear A20; obtain rfl := Option.some.inj H
  go_enter Try.func39, Try.ntmps39
  go_wp2_with (first | ((with_reducible refine zq24 (f := 40) rfl ?_); refine gl (some 5) Try.func40 #[.int .i64 (a0.size : Int), .int .i64 1, .int .i64 12] ?_; (with_reducible refine (spec_l1In.calls (a0.size : Int) 1 12 t112 _ A2.out).mono ?_); rintro e w' ⟨rfl, ⟨nd, rfl⟩⟩; refine ⟨_, rfl, ?_⟩))
  go_ret
  exact ⟨by first | rfl | (simp; done) | (simp [*]; done), by repeat (first | exact Drawn0.refl _ | apply Drawn0.step)⟩
set_option maxHeartbeats 8000000 in
set_option maxRecDepth 100000 in
theorem spec_l2Texts.calls (k : Nat) (A0 : Option Addr) (c0 : Nat) (l0 : List ByteArray) (r : Bool) (w : World) (hr0 : Kd.C Kd.string w A0 l0.length l0) (hc0 : l0.length ≤ c0) (h : spec_l2Texts.f k l0 = some r) :
    Calls Try.prog 41 #[.slice A0 l0.length c0] w fun e w' => e = .returned (.bool r) ∧ Drawn0 w w' := by
  have HR0 := zq9 hr0; have HC0 := zq9 hc0; clear hr0 hc0
  have H : (spec_l2Texts.l0 k l0 0) = some r := h
  clear h; have H' := zq9 H; clear H
  go_enter Try.func41, Try.ntmps41
  go_wp2
  go_loopg [3] k (fun kq v3 w' => ∃ (x3_1 : Int), v3 = .int .i64 x3_1 ∧ Aside0 (spec_l2Texts.l0 kq l0 x3_1 = some r) ∧ Aside0 (kq ≤ k) ∧ Drawn0 w w')
  case atStart => exact ⟨(0), (by first | rfl | (simp; done) | (simp [*]; done)), H', ⟨Nat.le_refl _⟩, by repeat (first | exact Drawn0.refl _ | apply Drawn0.step)⟩
  case round =>
    clear H'
    obtain ⟨x3_1, rfl, HA, HK1, ⟨m1, rfl⟩⟩ := hrel
    cases gk with
    | zero => exact absurd HA.out (by simp [spec_l2Texts.l0])
    | succ k1 =>
      have H := HA.out; clear HA
      simp only [spec_l2Texts.l0] at H
      by_cases c2 : x3_1 < (l0.length : Int)
      · rw [if_pos c2] at H; have c2b0 : decide (x3_1 < (l0.length : Int)) = true := decide_eq_true c2; clear c2
        by_cases c3 : 0 ≤ x3_1
        · rw [if_pos c3] at H; have c3b0 : decide (0 ≤ x3_1) = true := decide_eq_true c3; clear c3
          by_cases c4 : ((rdOf ByteArray.empty l0 x3_1).size : Int) > 40
          · rw [if_pos c4] at H; have c4b0 : decide (40 < ((rdOf ByteArray.empty l0 x3_1).size : Int)) = true := decide_eq_true c4
            have c4b1 : decide (40 < (rdOf ByteArray.empty l0 x3_1).size) = true := decide_eq_true (by omega)
            clear c4; obtain rfl := Option.some.inj H
            have p113 : 0 ≤ (x3_1 : Int) := of_decide_eq_true ‹_›
            have q113 : x3_1 < (l0.length : Int) := of_decide_eq_true ‹_›
            obtain ⟨ad113, e113, hx113_0⟩ := Kd.at_string HR0.out x3_1 p113 q113
            cases e113; replace p113 := eq_true p113; replace q113 := eq_true q113
            go_wp2
            go_ret
            exact ⟨by first | rfl | (simp; done) | (simp [*]; done), by repeat (first | exact Drawn0.refl _ | apply Drawn0.step)⟩
          · rw [if_neg c4] at H; have c4b0 : decide (40 < ((rdOf ByteArray.empty l0 x3_1).size : Int)) = false := decide_eq_false c4
            have c4b1 : decide (40 < (rdOf ByteArray.empty l0 x3_1).size) = false := decide_eq_false (by omega)
            clear c4; have H' := zq9 H; clear H
            have p113 : 0 ≤ (x3_1 : Int) := of_decide_eq_true ‹_›
            have q113 : x3_1 < (l0.length : Int) := of_decide_eq_true ‹_›
            obtain ⟨ad113, e113, hx113_0⟩ := Kd.at_string HR0.out x3_1 p113 q113
            cases e113; replace p113 := eq_true p113; replace q113 := eq_true q113
            go_wp2
            go_roundg k1
            case measure => have := HK1.out; omega
            case rel => exact ⟨(wrap64 (x3_1 + 1)), (by first | rfl | (simp; done) | (simp [*]; done)), H', ⟨by have := HK1.out; omega⟩, by repeat (first | exact Drawn0.refl _ | apply Drawn0.step)⟩
        · rw [if_neg c3] at H
          exact absurd H (by simp)
      · rw [if_neg c2] at H; have c2b0 : decide (x3_1 < (l0.length : Int)) = false := decide_eq_false c2; clear c2; obtain rfl := Option.some.inj H
        go_wp2
        go_ret
        exact ⟨by first | rfl | (simp; done) | (simp [*]; done), by repeat (first | exact Drawn0.refl _ | apply Drawn0.step)⟩
set_option maxHeartbeats 8000000 in
set_option maxRecDepth 100000 in
theorem spec_SetOk.calls (k : Nat) (A0 : Option Addr) (c0 : Nat) (l0 : List ByteArray) (r : Bool) (w : World) (hr0 : Kd.C Kd.string w A0 l0.length l0) (hc0 : l0.length ≤ c0) (h : spec_SetOk.f k l0 = some r) :
  Calls Try.prog 42 #[.slice A0 l0.length c0] w fun e w' => e = .returned (.bool r) ∧ Drawn0 w w' := by
 have HR0 := zq9 hr0; have HC0 := zq9 hc0; clear hr0 hc0
 have H : (spec_SetOk.l0 k l0 1) = some r := h
 clear h; have H' := zq9 H; clear H
 go_enter Try.func42, Try.ntmps42
 go_wp2
 repeat (go_quiet (fail); try go_wp2)
 go_loopg [3] k (fun kq v3 w' => ∃ (x3_1 : Int), v3 = .int .i64 x3_1 ∧ Aside0 (spec_SetOk.l0 kq l0 x3_1 = some r) ∧ Aside0 (kq ≤ k) ∧ Drawn0 w w')
 case atStart => exact ⟨(1), (by first | rfl | (simp; done) | (simp [*]; done)), H', ⟨Nat.le_refl _⟩, by repeat (first | exact Drawn0.refl _ | apply Drawn0.step)⟩
 case round =>
  clear H'
  obtain ⟨x3_1, rfl, HA, HK1, ⟨m1, rfl⟩⟩ := hrel
  cases gk with
  | zero => exact absurd HA.out (by simp [spec_SetOk.l0])
  | succ k1 =>
   have H := HA.out; clear HA
   simp only [spec_SetOk.l0] at H
   by_cases c2 : x3_1 < (l0.length : Int)
   ·rw [if_pos c2] at H; have c2b0 : decide (x3_1 < (l0.length : Int)) = true := decide_eq_true c2; clear c2
    obtain ⟨ji3, hji3⟩ : ∃ j_ : Int, (wrap64 (x3_1 - 1)) = j_ := ⟨_, rfl⟩
    replace H : (if 0 ≤ (ji3) then (if (ji3) < (l0.length : Int) then (if 0 ≤ x3_1 then (if ((Op.bytesLess ((rdOf ByteArray.empty l0 (ji3)).toList) ((rdOf ByteArray.empty l0 x3_1).toList)) = true) then (spec_SetOk.l0 k1 l0 (wrap64 (x3_1 + 1))) else (some false)) else (none)) else (none)) else (none)) = some r := by first | (rw [hji3] at H; exact H) | (simp only [hji3] at H ⊢; exact H)
    have hji3w : (IntKind.i64.wrap (x3_1 - 1)) = ji3 := (i64_w _).trans hji3
    by_cases c4 : 0 ≤ (ji3)
    ·rw [if_pos c4] at H; have c4b0 : decide (0 ≤ (ji3)) = true := decide_eq_true c4; clear c4
     by_cases c5 : (ji3) < (l0.length : Int)
     ·rw [if_pos c5] at H; have c5b0 : decide ((ji3) < (l0.length : Int)) = true := decide_eq_true c5; clear c5
      by_cases c6 : 0 ≤ x3_1
      ·rw [if_pos c6] at H; have c6b0 : decide (0 ≤ x3_1) = true := decide_eq_true c6; clear c6
       have p114 : 0 ≤ ((ji3) : Int) := of_decide_eq_true ‹_›
       have q114 : (ji3) < (l0.length : Int) := of_decide_eq_true ‹_›
       obtain ⟨ad114, e114, hx114_0⟩ := Kd.at_string HR0.out (ji3) p114 q114
       cases e114; replace p114 := eq_true p114; replace q114 := eq_true q114
       have p115 : 0 ≤ (x3_1 : Int) := of_decide_eq_true ‹_›
       have q115 : x3_1 < (l0.length : Int) := of_decide_eq_true ‹_›
       obtain ⟨ad115, e115, hx115_0⟩ := Kd.at_string HR0.out x3_1 p115 q115
       obtain rfl : ad114 = ad115 := (by injection e115)
       replace p115 := eq_true p115; replace q115 := eq_true q115
       go_wp2
       by_cases c7 : ((Op.bytesLess ((rdOf ByteArray.empty l0 (ji3)).toList) ((rdOf ByteArray.empty l0 x3_1).toList)) = true)
       ·rw [if_pos c7] at H
        have c7b0 : (Op.bytesLess ((rdOf ByteArray.empty l0 (ji3)).toList) ((rdOf ByteArray.empty l0 x3_1).toList)) = true := c7
        clear c7; have H' := zq9 H; clear H
        repeat (go_quiet (fail); try go_wp2)
        go_roundg k1
        case measure => have := HK1.out; omega
        case rel => exact ⟨(wrap64 (x3_1 + 1)), (by first | rfl | (simp; done) | (simp [*]; done)), H', ⟨by have := HK1.out; omega⟩, by repeat (first | exact Drawn0.refl _ | apply Drawn0.step)⟩
       ·rw [if_neg c7] at H
        have c7b0 : (Op.bytesLess ((rdOf ByteArray.empty l0 (ji3)).toList) ((rdOf ByteArray.empty l0 x3_1).toList)) = false := by simpa using c7
        clear c7; obtain rfl := Option.some.inj H
        repeat (go_quiet (fail); try go_wp2)
        go_ret
        exact ⟨by first | rfl | (simp; done) | (simp only [← hji3] <;> (first | rfl | simp)) | (simp [*]; done), by repeat (first | exact Drawn0.refl _ | apply Drawn0.step)⟩
      ·rw [if_neg c6] at H
       exact absurd H (by simp)
     ·rw [if_neg c5] at H
      exact absurd H (by simp)
    ·rw [if_neg c4] at H
     exact absurd H (by simp)
   ·rw [if_neg c2] at H; have c2b0 : decide (x3_1 < (l0.length : Int)) = false := decide_eq_false c2; clear c2; replace H := Option.bind_eq_some_iff.mp H; obtain ⟨t116, A80, H⟩ := H
    try dsimp only at H
    have A8 := zq9 A80; clear A80; obtain rfl := Option.some.inj H
    go_wp2_with (first | (go_at_call 41; (with_reducible refine (spec_l2Texts.calls k1 _ _ l0 t116 _ ?side1 ?side2 A8.out).mono ?_); (case side1 => repeat (first | exact HR0.out | (with_reducible refine zq18 ?_ _) | (with_reducible refine zq19 ?_ _) | (with_reducible refine zq20 ?_))); (case side2 => exact HC0.out); rintro e w' ⟨rfl, ⟨nd, rfl⟩⟩; (try first | exact ⟨rfl, _, zq32 _ _ _⟩ | exact ⟨rfl, _, Eq.trans (zq32 _ _ _) (congrArg (World.drewN _) (Nat.add_assoc _ _ _))⟩)))
    repeat (go_quiet (first | (go_at_call 41; (with_reducible refine (spec_l2Texts.calls k1 _ _ l0 t116 _ ?side1 ?side2 A8.out).mono ?_); (case side1 => repeat (first | exact HR0.out | (with_reducible refine zq18 ?_ _) | (with_reducible refine zq19 ?_ _) | (with_reducible refine zq20 ?_))); (case side2 => exact HC0.out); rintro e w' ⟨rfl, ⟨nd, rfl⟩⟩; (try first | exact ⟨rfl, _, zq32 _ _ _⟩ | exact ⟨rfl, _, Eq.trans (zq32 _ _ _) (congrArg (World.drewN _) (Nat.add_assoc _ _ _))⟩))); try go_wp2_with (first | (go_at_call 41; (with_reducible refine (spec_l2Texts.calls k1 _ _ l0 t116 _ ?side1 ?side2 A8.out).mono ?_); (case side1 => repeat (first | exact HR0.out | (with_reducible refine zq18 ?_ _) | (with_reducible refine zq19 ?_ _) | (with_reducible refine zq20 ?_))); (case side2 => exact HC0.out); rintro e w' ⟨rfl, ⟨nd, rfl⟩⟩; (try first | exact ⟨rfl, _, zq32 _ _ _⟩ | exact ⟨rfl, _, Eq.trans (zq32 _ _ _) (congrArg (World.drewN _) (Nat.add_assoc _ _ _))⟩))))
    go_ret
    exact ⟨by first | rfl | (simp; done) | (simp [*]; done), by repeat (first | exact Drawn0.refl _ | apply Drawn0.step)⟩
set_option maxHeartbeats 8000000 in
set_option maxRecDepth 100000 in
theorem spec_l3Ahead.calls (a0_0 : ByteArray) (a0_1 : Int) (a1_0 : ByteArray) (a1_1 : Int) (r : Bool) (w : World) (h : spec_l3Ahead.f a0_0 a0_1 a1_0 a1_1 = some r) :
    Calls Try.prog 81 #[.agg #[.string a0_0, .int .i64 a0_1], .agg #[.string a1_0, .int .i64 a1_1]] w fun e w' => e = .returned (.bool r) ∧ Below w.heap.size w w' := by
  have hu99 := Try.underlying99
  have HB := zq9 (Below.refl w.heap.size w)
  have H : (if a0_1 < a1_1 then (some true) else (if a0_1 = a1_1 then (some (Op.bytesLess a0_0.toList a1_0.toList)) else (some false))) = some r := h
  clear h
  go_enter Try.func81, Try.ntmps81
  refine (Classical.em (a0_1 < a1_1)).elim (fun c3 => ?p0) (fun c3 => ?n0)
  case' p0 =>
    rw [if_pos c3] at H; have c3b0 : decide (a0_1 < a1_1) = true := decide_eq_true c3; clear c3; obtain rfl := Option.some.inj H
  case' n0 =>
    rw [if_neg c3] at H; have c3b0 : decide (a0_1 < a1_1) = false := decide_eq_false c3; clear c3
    refine (Classical.em (a0_1 = a1_1)).elim (fun c9 => ?p1) (fun c9 => ?n1)
    case' p1 =>
      rw [if_pos c9] at H
      have c9b0 : (a0_1 == a1_1) = true := beq_iff_eq.mpr c9
      have c9b1 : (a0_1 != a1_1) = false := bne_eq_false_iff_eq.mpr c9
      clear c9; obtain rfl := Option.some.inj H
    case' n1 =>
      rw [if_neg c9] at H
      have c9b0 : (a0_1 == a1_1) = false := beq_eq_false_iff_ne.mpr c9
      have c9b1 : (a0_1 != a1_1) = true := bne_iff_ne.mpr c9
      obtain rfl := Option.some.inj H
  case p0 | p1 | n1 =>
    try go_wp2_with (first | ((with_reducible refine zq25 (N := 2) rfl ?_); refine bx 2 #[.string a0_0, .int .i64 a0_1] 99 ?_; intro gb117 hg w4 hbox hb; have n0_ := zq9 (zq27 (by exact bl HB) hb); have n1_ := zq9 (hbox); have n2_ := zq9 ((by rw [hg]; exact (zq29 (by exact bl HB)) : w.heap.size ≤ gb117)); have n3_ := n2_; clear HB; have HB := n0_; have BK117 := n1_; have GW117 := n2_; have GE117 := n3_; clear n0_ n1_ n2_ n3_; clear hb hbox hg) | ((with_reducible refine zq25 (N := 3) rfl ?_); refine bx 3 #[.string a1_0, .int .i64 a1_1] 99 ?_; intro gb118 hg w5 hbox hb; have n0_ := zq9 (zq30 (g := gb117) (o := .cells #[.string a0_0, .int .i64 a0_1] 99 (0, 0)) (by exact bk BK117) hb); have n1_ := zq9 (zq27 (by exact b1 HB GE117) hb); have n2_ := zq9 (hbox); have n3_ := zq9 ((by rw [hg]; exact (zq29 (by exact b1 HB GE117)) : w.heap.size ≤ gb118)); have n4_ := n3_; have n5_ := zq9 ((by rw [hg]; exact Nat.ne_of_lt (blk_lt (g := gb117) (o := .cells #[.string a0_0, .int .i64 a0_1] 99 (0, 0)) (by exact bk BK117)) : gb117 ≠ gb118)); have n6_ := zq9 ((by rw [hg]; exact Nat.ne_of_gt (blk_lt (g := gb117) (o := .cells #[.string a0_0, .int .i64 a0_1] 99 (0, 0)) (by exact bk BK117)) : gb118 ≠ gb117)); clear BK117; clear HB; have BK117 := n0_; have HB := n1_; have BK118 := n2_; have GW118 := n3_; have GE118 := n4_; have NB117_118 := n5_; have NB118_117 := n6_; clear n0_ n1_ n2_ n3_ n4_ n5_ n6_; clear hb hbox hg; have hnb6 := NB117_118.out; have hnc6 := NB118_117.out; have hcz7_0 : w5.cell? ⟨gb117, 0, none⟩ = some (.string a0_0) := bc BK117 0; have hcz7_1 : w5.cell? ⟨gb117, 1, none⟩ = some (.int .i64 a0_1) := bc BK117 1; have hfz7_0 := zq6 BK117.out 0; have hfz7_1 := zq6 BK117.out 1; have hcz8_0 : w5.cell? ⟨gb118, 0, none⟩ = some (.string a1_0) := bc BK118 0; have hcz8_1 : w5.cell? ⟨gb118, 1, none⟩ = some (.int .i64 a1_1) := bc BK118 1; have hfz8_0 := zq6 BK118.out 0; have hfz8_1 := zq6 BK118.out 1))
    go_ret
    exact fz (by exact b2 HB GE117 GE118)
end Go.Proofs.Ytnkgmcgbbldkgaa.P
