import Derived.Test.YthdbjegppeekoaaPx1
import Derived.Test.YthdbjegppeekoaaQNum0
import Derived.Test.YthdbjegppeekoaaQDec
import Derived.Lib.IndexBytes
/- Plain lemmas: how both sides read a text as a number. -/
namespace Go.Proofs.Ythdbjegppeekoaa.Q
open Go.RowKit Go.Proofs.YthdbjegppeekoaaW.PrintWords Go.Proofs.YthdbjegppeekoaaW.PrintLast Go.Proofs.Ythdbjegppeekoaa.P

theorem data_len (s : ByteArray) : s.data.toList.length = s.size := rfl
theorem bt_at (s : ByteArray) (i : Nat) (h : i < s.size) : bt s (i : Int) = ((s.data.toList[i]'h).toNat : Int) := by
  unfold bt
  rw [dif_pos (show (i : Int).toNat < s.size from by rw [Int.toNat_natCast]; exact h)]
  rfl
theorem bt_head (s : ByteArray) (h : 0 < s.size) (c : UInt8) : bt s 0 = (c.toNat : Int) ↔ s.data.toList.head? = some c := by
  have e := bt_at s 0 h
  rw [show ((0 : Nat) : Int) = (0 : Int) from rfl] at e
  rw [e]
  have hd : s.data.toList.head? = some (s.data.toList[0]'h) := by
    rw [List.head?_eq_getElem?, List.getElem?_eq_getElem h]
  rw [hd, Option.some.injEq]
  constructor
  · intro h
    exact UInt8.toNat_inj.1 (by omega)
  · intro h
    rw [h]
/-- What figures end in. -/
def finF (l : List UInt8) (n : Int) : Int := if 1 ≤ l.length ∧ l.length ≤ 10 ∧ ¬ (1 < l.length ∧ l.head? = some 48) then n else -1
theorem fig_end (x : ByteArray) (n : Int) : Ev (fun _ => (spec_l1In.f (x.size : Int) 1 10).bind fun t => (if t = true then (if (x.size : Int) > 1 then (if 0 < (x.size : Int) then (if (bt x 0) = 48 then (some (-1)) else (some n)) else (none)) else (some n)) else (some (-1)))) (finF x.data.toList n) := by
  refine Ev.bind (l1In_ev _ _ _) ?_
  unfold finF
  rw [data_len]
  cases hi : inB (x.size : Int) 1 10 with
  | false =>
    have := inB_false.1 hi
    refine neg (by decide) (ret' ?_)
    rw [if_neg (by omega)]
  | true =>
    have := inB_iff.1 hi
    refine pos rfl (both (fun h1 => pos (by omega) (both (fun h2 => ret' ?_) (fun h2 => ret' ?_))) (fun h1 => ret' ?_))
    · rw [if_neg (fun z => z.2.2 ⟨by omega, (bt_head x (by omega) 48).1 h2⟩)]
    · rw [if_pos ⟨by omega, by omega, fun z => h2 ((bt_head x (by omega) 48).2 z.2)⟩]
    · rw [if_pos ⟨by omega, by omega, fun z => h1 (by omega)⟩]
theorem figs_small (x : ByteArray) (hx : x.size ≤ 10) (d : Nat) : ∀ (i n : Nat), i + d = x.size → n < 10 ^ i → Ev (fun k => spec_l1Figures.l0 k x (n : Int) (i : Int)) (if (x.data.toList.drop i).all isD = true then finF x.data.toList (vD n (x.data.toList.drop i) : Nat) else -1) := by
  induction d with
  | zero =>
    intro i n hi hn
    refine Ev.step (g := fun k => spec_l1Figures.l0 k _ _ _) (fun k => by rw [spec_l1Figures.l0]) (neg (by omega) ?_)
    rw [List.drop_of_length_le (by rw [data_len]; omega)]
    refine of_eq (fig_end x n) ?_
    rw [List.all_nil, if_pos rfl, vD_nil]
  | succ d ih =>
    intro i n hi hn
    have hlt : i < x.size := by omega
    have h10 : 10 ^ i ≤ 1000000000 := Nat.pow_le_pow_right (n := 10) (i := i) (j := 9) (by omega) (by omega)
    have hp : 10 ^ (i + 1) = 10 ^ i * 10 := Nat.pow_succ _ _
    have hb := bt_at x i hlt
    refine Ev.step (g := fun k => spec_l1Figures.l0 k _ _ _) (fun k => by rw [spec_l1Figures.l0]) (pos (by omega) (pos (by omega) ?_))
    rw [List.drop_eq_getElem_cons (show i < x.data.toList.length from hlt), List.all_cons]
    generalize hc : x.data.toList[i]'hlt = c at hb
    refine both (fun h1 => ?_) (fun h1 => ?_)
    · refine Ev.step (g := fun k => spec_l1Figures.j1 k _ _ _ _) (fun k => by rw [spec_l1Figures.j1]) (pos rfl (ret' ?_))
      have : isD c = false := by
        cases h : isD c with
        | false => rfl
        | true => have := isD_iff.1 h; omega
      rw [this, Bool.false_and, if_neg (by decide)]
    · refine Ev.step (g := fun k => spec_l1Figures.j1 k _ _ _ _) (fun k => by rw [spec_l1Figures.j1]) ?_
      by_cases h2 : bt x (i : Int) > 57
      · refine pos (decide_eq_true h2) (ret' ?_)
        have : isD c = false := by
          cases h : isD c with
          | false => rfl
          | true => have := isD_iff.1 h; omega
        rw [this, Bool.false_and, if_neg (by decide)]
      · refine neg (by rw [decide_eq_true_eq]; exact h2) (pos (by omega) (pos (by omega) (pos (by omega) ?_)))
        have hD : isD c = true := isD_iff.2 (by omega)
        have hn2 : n * 10 + (c.toNat - 48) < 10 ^ (i + 1) := by rw [hp]; generalize 10 ^ i = P at hn; omega
        have e1 : wrap64 ((n : Int) * 10) = (n : Int) * 10 := wrap_id (by omega) (by omega)
        have e2 : (bt x (i : Int) - 48) % 256 = ((c.toNat - 48 : Nat) : Int) := by omega
        have e3 : wrap64 ((n : Int) * 10 + ((c.toNat - 48 : Nat) : Int)) = ((n * 10 + (c.toNat - 48) : Nat) : Int) := by rw [wrap_id (by omega) (by omega)]; omega
        have e4 : wrap64 ((i : Int) + 1) = ((i + 1 : Nat) : Int) := by rw [wrap_id (by omega) (by omega)]; omega
        rw [e1, e2, e3, e4, hD, Bool.true_and]
        exact ih (i + 1) _ (by omega) hn2
theorem figs_big (x : ByteArray) (hx : 10 < x.size) (hx' : x.size ≤ 1048576) (d : Nat) : ∀ (i : Nat) (n : Int), i + d = x.size → Ev (fun k => spec_l1Figures.l0 k x n (i : Int)) (-1) := by
  induction d with
  | zero =>
    intro i n hi
    refine Ev.step (g := fun k => spec_l1Figures.l0 k _ _ _) (fun k => by rw [spec_l1Figures.l0]) (neg (by omega) ?_)
    refine of_eq (fig_end x n) ?_
    unfold finF
    rw [data_len, if_neg (by omega)]
  | succ d ih =>
    intro i n hi
    have e4 : wrap64 ((i : Int) + 1) = ((i + 1 : Nat) : Int) := by rw [wrap_id (by omega) (by omega)]; omega
    have hj : ∀ b, Ev (fun k => spec_l1Figures.j1 k x n (i : Int) b) (-1) := by
      intro b
      refine Ev.step (g := fun k => spec_l1Figures.j1 k _ _ _ _) (fun k => by rw [spec_l1Figures.j1]) ?_
      rw [e4]
      exact both (fun _ => ret _) (fun _ => both (fun _ => pos (by omega) (pos (by omega) (ih (i + 1) _ (by omega)))) (fun _ => ih (i + 1) _ (by omega)))
    refine Ev.step (g := fun k => spec_l1Figures.l0 k _ _ _) (fun k => by rw [spec_l1Figures.l0]) (pos (by omega) (pos (by omega) ?_))
    exact both (fun _ => hj _) (fun _ => hj _)
/-- The number that figures are; -1 if they are none. -/
def figM (l : List UInt8) : Int := if canon l = true then (vD 0 l : Int) else -1
theorem figures_ev (x : ByteArray) (hx : x.size ≤ 1048576) : Ev (fun k => spec_l1Figures.f k x) (figM x.data.toList) := by
  unfold spec_l1Figures.f
  by_cases h : x.size ≤ 10
  · refine of_eq (figs_small x h x.size 0 0 (by omega) (by decide)) ?_
    rw [List.drop_zero]
    unfold figM finF canon
    rw [data_len]
    by_cases ha : x.data.toList.all isD = true
    · rw [if_pos ha, ha]
      congr 1
      simp only [Bool.true_and, Bool.and_eq_true, decide_eq_true_eq, Bool.not_eq_true', Bool.and_eq_false_imp, beq_eq_false_iff_ne, not_and, ne_eq, and_assoc]
    · rw [if_neg ha]
      simp [ha]
  · refine of_eq (figs_big x (by omega) hx x.size 0 0 (by omega)) ?_
    unfold figM canon
    rw [data_len, decide_eq_false (show ¬ x.size ≤ 10 from h)]
    simp
theorem extract_tail (s : ByteArray) : (s.extract 1 s.size).data.toList = s.data.toList.tail := by
  rw [Go.Lib.extract_to_end, List.drop_one]
end Go.Proofs.Ythdbjegppeekoaa.Q
