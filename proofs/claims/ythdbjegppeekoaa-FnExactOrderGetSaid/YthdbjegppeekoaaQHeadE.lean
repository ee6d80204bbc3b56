import Derived.Test.YthdbjegppeekoaaQHeadF
import Derived.Test.YthdbjegppeekoaaQHeadI
/- Plain lemmas: spec's l1Head answers what impl's wire.number answers; a head further on in a text. No program in sight. -/
namespace Go.Proofs.Ythdbjegppeekoaa.Q
open Go.RowKit Go.Proofs.YthdbjegppeekoaaW.PrintWords Go.Proofs.YthdbjegppeekoaaW.PrintLast Go.Proofs.Ythdbjegppeekoaa.P

/-- What l1Head makes of what wire.number says. -/
def headO (z : ByteArray) (r : Int × Int × Bool × Bool) : Int × ByteArray × Int :=
  if r.2.2.2 = true then badS else if r.2.2.1 = true then shortS else (r.1, z.extract r.2.1.toNat z.size, 1)
theorem headO_bad {z : ByteArray} {n a : Int} {s : Bool} : headO z (n, a, s, true) = badS := rfl
theorem headO_short {z : ByteArray} {n a : Int} : headO z (n, a, true, false) = shortS := rfl
theorem headO_ok {z : ByteArray} {n a : Int} : headO z (n, a, false, false) = (n, z.extract a.toNat z.size, 1) := rfl
theorem crlfM_end {x : ByteArray} : crlfM x ((x.size : Int), false, false) = ((x.size : Int), true, false) := by
  unfold crlfM
  rw [byteM_end, byteM_done (.inl rfl)]
theorem crlfM_at {x : ByteArray} {a : Int} (h : a ≠ (x.size : Int)) : crlfM x (a, false, false) = if bt x a ≠ 13 then (a, false, true) else if a + 1 = (x.size : Int) then (a + 1, true, false) else if bt x (a + 1) ≠ 10 then (a + 1, false, true) else (a + 2, false, false) := by
  unfold crlfM
  by_cases h1 : bt x a = 13
  · rw [byteM_ok h h1, if_neg (fun z => z h1)]
    by_cases h2 : a + 1 = (x.size : Int)
    · rw [if_pos h2, h2, byteM_end]
    · rw [if_neg h2]
      by_cases h3 : bt x (a + 1) = 10
      · rw [byteM_ok h2 h3, if_neg (fun z => z h3), Int.add_assoc]
        rfl
      · rw [byteM_bad h2 h3, if_pos h3]
  · rw [byteM_bad h h1, if_pos h1, byteM_done (.inr rfl)]
/-- The end of the line behind the figures, on both sides. -/
theorem head_tail (z : ByteArray) (v lo hi e : Int) (hv : inB v lo hi = true) (h1 : e ≤ (z.size : Int)) :
    (if (e < (z.size : Int) ∧ bt z e ≠ 13) ∨ (e + 1 < (z.size : Int) ∧ bt z (e + 1) ≠ 10) then badS else if inB v lo hi = false then badS else if e + 1 ≥ (z.size : Int) then shortS else (v, z.extract (e + 2).toNat z.size, 1)) = headO z (v, crlfM z (e, false, false)) := by
  rw [hv, if_neg (show ¬ true = false by decide)]
  by_cases h : e = (z.size : Int)
  · rw [if_neg (by omega), if_pos (by omega), h, crlfM_end, headO_short]
  rw [crlfM_at h]
  by_cases h2 : bt z e = 13
  case neg => rw [if_pos (.inl ⟨by omega, h2⟩), if_pos h2, headO_bad]
  rw [if_neg (show ¬ bt z e ≠ 13 from fun t => t h2)]
  by_cases h3 : e + 1 = (z.size : Int)
  · rw [if_neg (by omega), if_pos (by omega), if_pos h3, headO_short]
  rw [if_neg h3]
  by_cases h4 : bt z (e + 1) = 10
  case neg => rw [if_pos (.inr ⟨by omega, h4⟩), if_pos h4, headO_bad]
  rw [if_neg (by omega), if_neg (by omega), if_neg (show ¬ bt z (e + 1) ≠ 10 from fun t => t h4), headO_ok]
theorem head_out (v lo hi : Int) (hv : inB v lo hi = false) {c : Prop} [Decidable c] {r : Int × ByteArray × Int} : (if c then badS else if inB v lo hi = false then badS else r) = badS := by
  rw [hv, if_pos rfl]
  split <;> rfl
/-- However many figures there are, the test behind them is reached. -/
theorem hd_all {z : ByteArray} (hz : z.size ≤ 1048576) {m lo hi : Int} {r : Int × ByteArray × Int} (h : ∀ e, 1 ≤ e → e ≤ 4 → Ev (fun k => spec_l1Head.j1 k z m lo hi e) r) : Ev (fun k => spec_l1Head.l0 k z m lo hi 1) r := by
  have go : ∀ e, 0 ≤ e → (¬ (e < (z.size : Int) ∧ e < 4 ∧ figB z e)) → Ev (fun k => spec_l1Head.j1 k z m lo hi e) r → Ev (fun k => spec_l1Head.l0 k z m lo hi e) r :=
    fun e h0 hd h => hd_halt h0 (fun a b c => hd ⟨a, b, c⟩) h
  have four : Ev (fun k => spec_l1Head.l0 k z m lo hi 4) r := go 4 (by omega) (by omega) (h 4 (by omega) (by omega))
  have step : ∀ e, 1 ≤ e → e < 4 → Ev (fun k => spec_l1Head.l0 k z m lo hi (e + 1)) r → Ev (fun k => spec_l1Head.l0 k z m lo hi e) r := by
    intro e h1 h4 hn
    by_cases hd : e < (z.size : Int) ∧ figB z e
    · exact hd_next hz (by omega) hd.1 hd.2 h4 hn
    · exact go e (by omega) (fun t => hd ⟨t.1, t.2.2⟩) (h e h1 (by omega))
  exact step 1 (by omega) (by omega) (step 2 (by omega) (by omega) (step 3 (by omega) (by omega) four))
theorem l1Head_ev (z : ByteArray) (hz : z.size ≤ 1048576) (m lo hi : Int) (hlo : 0 ≤ lo ∧ lo ≤ 1) (hhi : hi < 100) : Ev (fun k => spec_l1Head.f k z m lo hi) (headO z (headM z 0 m lo hi)) := by
  unfold spec_l1Head.f headM
  simp only [Int.zero_add]
  by_cases c0 : (0 : Int) = (z.size : Int)
  · rw [if_pos c0, headO_short]
    exact hd_halt (by omega) (by omega) (hd_empty _ _ _ _ _ (by omega))
  rw [if_neg c0]
  by_cases c1 : bt z 0 = m
  case neg =>
    rw [if_pos c1, headO_bad]
    exact hd_all hz (fun e _ _ => hd_mark _ _ _ _ _ (by omega) c1)
  rw [if_neg (fun z => z c1)]
  by_cases c2 : (1 : Int) = (z.size : Int)
  · rw [if_pos c2, headO_short]
    refine hd_halt (by omega) (by omega) (of_eq (hd_one z hz m lo hi (by omega) c1) ?_)
    rw [if_pos c2.symm]
  rw [if_neg c2]
  by_cases c3 : figB z 1
  case neg =>
    rw [if_pos c3, headO_bad]
    refine hd_halt (by omega) (fun _ _ => c3) (of_eq (hd_one z hz m lo hi (by omega) c1) ?_)
    rw [if_neg (fun t => c2 t.symm)]
  rw [if_neg (fun z => z c3)]
  refine hd_next hz (by omega) (by omega) c3 (by omega) ?_
  have b3 := c3
  unfold figB at b3
  have f1 := fig_one z (by omega) c3
  -- one figure alone
  have one : (¬ (2 < (z.size : Int) ∧ figB z 2)) → Ev (fun k => spec_l1Head.l0 k z m lo hi (1 + 1)) (if inB (bt z 1 - 48) lo hi = true then headO z (bt z 1 - 48, crlfM z (2, false, false)) else badS) := by
    intro hd
    refine hd_halt (by omega) (fun a _ c => hd ⟨a, c⟩) (of_eq (hd_mid z hz m lo hi 2 (by omega) (by omega) (by omega) c1) ?_)
    rw [show (2 : Int).toNat = 2 from rfl, f1]
    by_cases hv : inB (bt z 1 - 48) lo hi = true
    · rw [if_pos hv]
      exact head_tail z _ lo hi 2 hv (by omega)
    · rw [if_neg hv]
      exact head_out _ lo hi (Bool.eq_false_iff.2 hv)
  by_cases d2 : 2 < (z.size : Int) ∧ figB z 2
  case neg =>
    refine of_eq (one d2) ?_
    cases hv : inB (bt z 1 - 48) lo hi with
    | false => rw [if_neg (by decide), if_pos rfl, headO_bad]
    | true =>
      rw [if_pos rfl, if_neg (by decide)]
      by_cases c5 : (2 : Int) = (z.size : Int)
      · rw [if_pos c5, c5, crlfM_end]
      · rw [if_neg c5, if_pos (fun t => d2 ⟨by omega, t⟩)]
  obtain ⟨d2, c6⟩ := d2
  have b6 := c6
  unfold figB at b6
  have f2 := fig_two z (by omega) c3 c6
  refine hd_next hz (by omega) (by omega) c6 (by omega) ?_
  rw [if_neg (show ¬ (2 : Int) = (z.size : Int) by omega), if_neg (show ¬ ¬ figB z 2 from fun t => t c6)]
  -- what is worth nothing is bad whichever way it ends
  have all : ∀ r, (∀ e, 3 ≤ e → e ≤ 4 → e ≤ (z.size : Int) → Ev (fun k => spec_l1Head.j1 k z m lo hi e) r) → Ev (fun k => spec_l1Head.l0 k z m lo hi (1 + 1 + 1)) r := by
    intro r h
    by_cases d3 : 3 < (z.size : Int) ∧ figB z 3
    · exact hd_next hz (by omega) d3.1 d3.2 (by omega) (hd_halt (by omega) (by omega) (h 4 (by omega) (by omega) (by omega)))
    · exact hd_halt (by omega) (fun a _ c => d3 ⟨a, c⟩) (h 3 (by omega) (by omega) (by omega))
  have three : 3 < (z.size : Int) → Ev (fun k => spec_l1Head.j1 k z m lo hi 4) badS := by
    intro h3
    refine of_eq (hd_mid z hz m lo hi 4 (by omega) (by omega) (by omega) c1) ?_
    rw [show (4 : Int).toNat = 4 from rfl]
    refine head_out _ lo hi ?_
    rw [inB_false]
    have := fig_three z (by omega) c3
    omega
  have two : ∀ v, figM (z.extract 1 3).data.toList = v → inB v lo hi = false → Ev (fun k => spec_l1Head.l0 k z m lo hi (1 + 1 + 1)) badS := by
    intro v hf hv
    refine all _ (fun e h3 h4 he => ?_)
    by_cases e3 : e = 3
    · subst e3
      refine of_eq (hd_mid z hz m lo hi 3 (by omega) (by omega) (by omega) c1) ?_
      rw [show (3 : Int).toNat = 3 from rfl, hf]
      exact head_out _ lo hi hv
    · obtain rfl : e = 4 := by omega
      exact three (by omega)
  by_cases c7 : bt z 1 = 48
  · rw [if_pos c7] at f2
    have hb := two _ f2 (by rw [inB_false]; omega)
    refine of_eq hb ?_
    rw [if_pos c7]
    split <;> rfl
  rw [if_neg c7] at f2
  rw [if_neg c7]
  cases c8 : inB (10 * (bt z 1 - 48) + (bt z 2 - 48)) lo hi with
  | false =>
    refine of_eq (two _ f2 c8) ?_
    rw [if_pos rfl]
    split <;> rfl
  | true =>
  rw [if_neg (show ¬ true = false by decide)]
  have hv1 : inB (bt z 1 - 48) lo hi = true := by
    rw [inB_iff] at c8 ⊢
    omega
  rw [hv1, if_neg (show ¬ true = false by decide)]
  by_cases d3 : 3 < (z.size : Int) ∧ figB z 3
  · rw [if_neg (show ¬ (3 : Int) = (z.size : Int) by omega), if_neg (show ¬ ¬ figB z 3 from fun t => t d3.2), headO_bad]
    exact hd_next hz (by omega) d3.1 d3.2 (by omega) (hd_halt (by omega) (by omega) (three d3.1))
  · refine hd_halt (by omega) (fun a _ c => d3 ⟨a, c⟩) (of_eq (hd_mid z hz m lo hi 3 (by omega) (by omega) (by omega) c1) ?_)
    rw [show (3 : Int).toNat = 3 from rfl, f2, head_tail z _ lo hi 3 c8 (by omega)]
    by_cases c9 : (3 : Int) = (z.size : Int)
    · rw [if_pos c9, c9, crlfM_end]
    · rw [if_neg c9, if_pos (fun t => d3 ⟨by omega, t⟩)]
/-! A head further on. -/
theorem bt_cut (x : ByteArray) (a i : Int) (h0 : 0 ≤ a) (h1 : a ≤ (x.size : Int)) (hi : 0 ≤ i) : bt (x.extract a.toNat x.size) i = bt x (a + i) := by
  unfold bt
  have hs : (x.extract a.toNat x.size).size = x.size - a.toNat := by rw [ByteArray.size_extract]; omega
  by_cases h : i.toNat < x.size - a.toNat
  · rw [dif_pos (by rw [hs]; exact h), dif_pos (by omega)]
    have e : (a + i).toNat = a.toNat + i.toNat := by omega
    simp only [ByteArray.getElem_extract, e]
  · rw [dif_neg (by rw [hs]; exact h), dif_neg (by omega)]
theorem size_cut (x : ByteArray) (a : Int) (h0 : 0 ≤ a) (h1 : a ≤ (x.size : Int)) : ((x.extract a.toNat x.size).size : Int) = (x.size : Int) - a := by
  rw [ByteArray.size_extract]
  omega
/-- The same, further on. -/
def shiftM (a : Int) (r : Int × Bool × Bool) : Int × Bool × Bool := (r.1 + a, r.2)
theorem byteM_cut (x : ByteArray) (a b : Int) (s : Int × Bool × Bool) (h0 : 0 ≤ a) (h1 : a ≤ (x.size : Int)) (hs : 0 ≤ s.1) : shiftM a (byteM (x.extract a.toNat x.size) b s) = byteM x b (shiftM a s) := by
  obtain ⟨i, p, q⟩ := s
  dsimp only at hs
  unfold byteM shiftM
  dsimp only
  rw [size_cut x a h0 h1, bt_cut x a i h0 h1 hs, Int.add_comm a i]
  by_cases c : p = true ∨ q = true
  · rw [if_pos c, if_pos c]
  rw [if_neg c, if_neg c]
  by_cases c1 : i = (x.size : Int) - a
  · rw [if_pos c1, if_pos (by omega)]
  rw [if_neg c1, if_neg (show ¬ i + a = (x.size : Int) by omega)]
  by_cases c2 : bt x (i + a) = b
  · rw [if_pos c2, if_pos c2]
    exact Prod.ext (by dsimp only; omega) rfl
  · rw [if_neg c2, if_neg c2]
theorem byteM_ge {x : ByteArray} {b : Int} {s : Int × Bool × Bool} (h0 : 0 ≤ s.1) : 0 ≤ (byteM x b s).1 := by
  unfold byteM
  split
  · exact h0
  · split
    · exact h0
    · split
      · dsimp only
        omega
      · exact h0
theorem crlfM_cut (x : ByteArray) (a : Int) (s : Int × Bool × Bool) (h0 : 0 ≤ a) (h1 : a ≤ (x.size : Int)) (hs : 0 ≤ s.1) : shiftM a (crlfM (x.extract a.toNat x.size) s) = crlfM x (shiftM a s) := by
  unfold crlfM
  rw [byteM_cut x a 10 _ h0 h1 (byteM_ge hs), byteM_cut x a 13 s h0 h1 hs]
theorem headM_cut (x : ByteArray) (a m lo hi : Int) (h0 : 0 ≤ a) (h1 : a ≤ (x.size : Int)) : headM x a m lo hi = ((headM (x.extract a.toNat x.size) 0 m lo hi).1, shiftM a (headM (x.extract a.toNat x.size) 0 m lo hi).2) := by
  have hb := fun i (hi : (0 : Int) ≤ i) => bt_cut x a i h0 h1 hi
  have hs := size_cut x a h0 h1
  have hc := fun s (hi : (0 : Int) ≤ s.1) => crlfM_cut x a s h0 h1 hi
  generalize x.extract a.toNat x.size = z at hb hs hc
  have b0 : bt z 0 = bt x a := by rw [hb 0 (by omega)]; congr 1; omega
  have b1 : bt z 1 = bt x (a + 1) := hb 1 (by omega)
  have b2 : bt z 2 = bt x (a + 2) := hb 2 (by omega)
  have b3 : bt z 3 = bt x (a + 3) := hb 3 (by omega)
  have g1 : figB z 1 = figB x (a + 1) := by unfold figB; rw [b1]
  have g2 : figB z 2 = figB x (a + 2) := by unfold figB; rw [b2]
  have g3 : figB z 3 = figB x (a + 3) := by unfold figB; rw [b3]
  unfold headM
  simp only [Int.zero_add, b0, b1, b2, b3, g1, g2, g3, hs]
  simp only [show ((0 : Int) = (x.size : Int) - a) = (a = (x.size : Int)) from propext (by omega), show ((1 : Int) = (x.size : Int) - a) = (a + 1 = (x.size : Int)) from propext (by omega),
    show ((2 : Int) = (x.size : Int) - a) = (a + 2 = (x.size : Int)) from propext (by omega), show ((3 : Int) = (x.size : Int) - a) = (a + 3 = (x.size : Int)) from propext (by omega)]
  have s2 := hc (2, false, false) (by dsimp only; omega)
  have s3 := hc (3, false, false) (by dsimp only; omega)
  have t : ∀ i : Int, i + a = a + i := fun i => Int.add_comm i a
  unfold shiftM at s2 s3 ⊢
  dsimp only at s2 s3
  rw [t 2] at s2
  rw [t 3] at s3
  by_cases c0 : a = (x.size : Int)
  · rw [if_pos c0, if_pos c0]
    exact Prod.ext rfl (Prod.ext (by dsimp only; omega) rfl)
  rw [if_neg c0, if_neg c0]
  by_cases c1 : bt x a ≠ m
  · rw [if_pos c1, if_pos c1]
    exact Prod.ext rfl (Prod.ext (by dsimp only; omega) rfl)
  rw [if_neg c1, if_neg c1]
  by_cases c2 : a + 1 = (x.size : Int)
  · rw [if_pos c2, if_pos c2]
    exact Prod.ext rfl (Prod.ext (by dsimp only; omega) rfl)
  rw [if_neg c2, if_neg c2]
  by_cases c3 : ¬ figB x (a + 1)
  · rw [if_pos c3, if_pos c3]
    exact Prod.ext rfl (Prod.ext (by dsimp only; omega) rfl)
  rw [if_neg c3, if_neg c3]
  by_cases c4 : inB (bt x (a + 1) - 48) lo hi = false
  · rw [if_pos c4, if_pos c4]
    exact Prod.ext rfl (Prod.ext (by dsimp only; omega) rfl)
  rw [if_neg c4, if_neg c4]
  by_cases c5 : a + 2 = (x.size : Int)
  · rw [if_pos c5, if_pos c5]
    exact Prod.ext rfl (Prod.ext (by dsimp only; omega) rfl)
  rw [if_neg c5, if_neg c5]
  by_cases c6 : ¬ figB x (a + 2)
  · rw [if_pos c6, if_pos c6]
    rw [← s2]
  rw [if_neg c6, if_neg c6]
  by_cases c7 : bt x (a + 1) = 48
  · rw [if_pos c7, if_pos c7]
    exact Prod.ext rfl (Prod.ext (by dsimp only; omega) rfl)
  rw [if_neg c7, if_neg c7]
  by_cases c8 : inB (10 * (bt x (a + 1) - 48) + (bt x (a + 2) - 48)) lo hi = false
  · rw [if_pos c8, if_pos c8]
    exact Prod.ext rfl (Prod.ext (by dsimp only; omega) rfl)
  rw [if_neg c8, if_neg c8]
  by_cases c9 : a + 3 = (x.size : Int)
  · rw [if_pos c9, if_pos c9]
    exact Prod.ext rfl (Prod.ext (by dsimp only; omega) rfl)
  rw [if_neg c9, if_neg c9]
  by_cases c10 : ¬ figB x (a + 3)
  · rw [if_pos c10, if_pos c10]
    rw [← s3]
  rw [if_neg c10, if_neg c10]
  exact Prod.ext rfl (Prod.ext (by dsimp only; omega) rfl)
end Go.Proofs.Ythdbjegppeekoaa.Q
