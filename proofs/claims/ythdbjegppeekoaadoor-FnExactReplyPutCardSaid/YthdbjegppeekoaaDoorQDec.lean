import Derived.Lib.AtoiAll
import Derived.Lib.ItoaNum
/- Plain lemmas: decimals, and how a text is read as one. No program in sight. -/
namespace Go.Proofs.YthdbjegppeekoaaDoor.Q
open Go.Lib (decDigits itoa atoiAll parseUint10 parseMag)

def isD (c : UInt8) : Bool := decide (48 ≤ c.toNat) && decide (c.toNat ≤ 57)
theorem isD_iff {c : UInt8} : isD c = true ↔ 48 ≤ c.toNat ∧ c.toNat ≤ 57 := by simp [isD]
/-- What figures behind others are worth. -/
def vD : Nat → List UInt8 → Nat
  | a, [] => a
  | a, c :: r => vD (a * 10 + (c.toNat - 48)) r
theorem vD_nil (a : Nat) : vD a [] = a := rfl
theorem vD_append (l : List UInt8) (c : UInt8) : ∀ a, vD a (l ++ [c]) = vD a l * 10 + (c.toNat - 48) := by
  induction l with
  | nil => intro a; rfl
  | cons x r ih => intro a; exact ih _
theorem vD_mono (l : List UInt8) : ∀ a, a ≤ vD a l := by
  induction l with
  | nil => intro a; exact Nat.le_refl _
  | cons x r ih =>
    intro a
    have := ih (a * 10 + (x.toNat - 48))
    show a ≤ vD (a * 10 + (x.toNat - 48)) r
    omega
/-- Figures that are a number: at least one, at most ten, none of them a nought ahead of others. -/
def canon (l : List UInt8) : Bool := l.all isD && decide (1 ≤ l.length) && decide (l.length ≤ 10) && !(decide (1 < l.length) && (l.head? == some 48))
theorem head_app {l r : List UInt8} (h : l ≠ []) : (l ++ r).head? = l.head? := by
  cases l with
  | nil => exact absurd rfl h
  | cons x l => rfl
theorem digit_nat (m : Nat) (h : m < 10) : (UInt8.ofNat (48 + m)).toNat = 48 + m := by
  rw [UInt8.toNat_ofNat']
  omega
theorem dec_facts (m : Nat) : (decDigits m).all isD = true ∧ vD 0 (decDigits m) = m ∧ decDigits m ≠ [] ∧ (m ≠ 0 → (decDigits m).head? ≠ some 48) := by
  induction m using Nat.strongRecOn with
  | _ m ih =>
    by_cases h : m < 10
    · rw [Go.Lib.decDigits_one h]
      have hd := digit_nat m h
      refine ⟨?_, ?_, by simp, ?_⟩
      · simp only [List.all_cons, List.all_nil, Bool.and_true]
        exact isD_iff.2 (by omega)
      · show 0 * 10 + ((UInt8.ofNat (48 + m)).toNat - 48) = m
        omega
      · intro h0 hh
        simp only [List.head?_cons, Option.some.injEq] at hh
        rw [hh] at hd
        have : (48 : UInt8).toNat = 48 := rfl
        omega
    · have e : decDigits m = decDigits (m / 10) ++ [UInt8.ofNat (48 + m % 10)] := by rw [decDigits, dif_neg h]
      obtain ⟨i1, i2, i3, i4⟩ := ih (m / 10) (by omega)
      have hd := digit_nat (m % 10) (by omega)
      rw [e]
      refine ⟨?_, ?_, by simp, ?_⟩
      · rw [List.all_append, i1]
        simp only [List.all_cons, List.all_nil, Bool.and_true, Bool.true_and]
        exact isD_iff.2 (by omega)
      · rw [vD_append, i2]
        omega
      · intro _
        rw [head_app i3]
        exact i4 (by omega)
theorem dec_len (k : Nat) : ∀ m, m < 10 ^ (k + 1) → (decDigits m).length ≤ k + 1 := by
  induction k with
  | zero => intro m h; rw [Go.Lib.decDigits_one (by omega)]; simp
  | succ k ih =>
    intro m h
    by_cases hm : m < 10
    · rw [Go.Lib.decDigits_one hm]; simp
    · rw [decDigits, dif_neg hm, List.length_append]
      have := ih (m / 10) (by rw [Nat.pow_succ] at h; omega)
      simp only [List.length_cons, List.length_nil]
      omega
theorem dec_of (n : Nat) : ∀ l : List UInt8, l.length = n + 1 → l.all isD = true → (1 < l.length → l.head? ≠ some 48) → decDigits (vD 0 l) = l := by
  induction n with
  | zero =>
    intro l hl ha _
    match l, hl with
    | [c], _ =>
      simp only [List.all_cons, List.all_nil, Bool.and_true] at ha
      obtain ⟨h1, h2⟩ := isD_iff.1 ha
      have e : vD 0 [c] = c.toNat - 48 := by show 0 * 10 + (c.toNat - 48) = _; omega
      rw [e, Go.Lib.decDigits_one (by omega)]
      congr 1
      apply UInt8.toNat_inj.1
      rw [digit_nat _ (by omega)]
      omega
  | succ n ih =>
    intro l hl ha hh
    have hne : l ≠ [] := by intro h; rw [h] at hl; simp at hl
    obtain ⟨i, c, rfl⟩ : ∃ i c, l = i ++ [c] := ⟨l.dropLast, l.getLast hne, (List.dropLast_concat_getLast hne).symm⟩
    have hi : i.length = n + 1 := by simp at hl; omega
    have hin : i ≠ [] := by intro h; rw [h] at hi; simp at hi
    rw [List.all_append, Bool.and_eq_true] at ha
    have hc : isD c = true := by simpa using ha.2
    obtain ⟨h1, h2⟩ := isD_iff.1 hc
    have hhd : i.head? ≠ some 48 := by
      have := hh (by omega)
      rwa [head_app hin] at this
    have hI := ih i hi ha.1 (fun _ => hhd)
    have hv : vD 0 i ≠ 0 := by
      intro h0
      rw [h0, Go.Lib.decDigits_one (by omega)] at hI
      rw [← hI] at hhd
      exact hhd rfl
    rw [vD_append, decDigits, dif_neg (by omega)]
    have e1 : (vD 0 i * 10 + (c.toNat - 48)) / 10 = vD 0 i := by omega
    have e2 : (vD 0 i * 10 + (c.toNat - 48)) % 10 = c.toNat - 48 := by omega
    rw [e1, e2, hI]
    congr 2
    apply UInt8.toNat_inj.1
    rw [digit_nat _ (by omega)]
    omega
theorem canon_facts {l : List UInt8} (h : canon l = true) : decDigits (vD 0 l) = l ∧ l.all isD = true ∧ l ≠ [] ∧ l.length ≤ 10 := by
  simp only [canon, Bool.and_eq_true, decide_eq_true_eq, Bool.not_eq_true', Bool.and_eq_false_imp] at h
  obtain ⟨⟨⟨h1, h2⟩, h3⟩, h4⟩ := h
  refine ⟨dec_of (l.length - 1) l (by omega) h1 (fun hl hh => ?_), h1, fun h0 => ?_, h3⟩
  · have := h4 hl
    rw [hh] at this
    exact absurd this (by decide)
  · rw [h0] at h2
    simp at h2
theorem canon_dec (m : Nat) (h : m ≤ 1000000000) : canon (decDigits m) = true := by
  obtain ⟨h1, h2, h3, h4⟩ := dec_facts m
  have hl := dec_len 9 m (by omega)
  have hl1 : 1 ≤ (decDigits m).length := List.length_pos_iff.2 h3
  simp only [canon, Bool.and_eq_true, decide_eq_true_eq, Bool.not_eq_true', Bool.and_eq_false_imp]
  refine ⟨⟨⟨h1, hl1⟩, by omega⟩, fun hl2 => ?_⟩
  have h0 : m ≠ 0 := by
    intro h0
    rw [h0, Go.Lib.decDigits_one (by omega)] at hl2
    simp at hl2
  have := h4 h0
  cases hh : (decDigits m).head? with
  | none => rfl
  | some c =>
    rw [hh] at this
    have hc : c ≠ 48 := fun h => this (by rw [h])
    simp [hc]
theorem parse_ok (l : List UInt8) : ∀ a, l.all isD = true → vD a l < 1844674407370955162 → parseUint10 a l = .ok (vD a l) := by
  induction l with
  | nil => intro a _ _; rfl
  | cons c r ih =>
    intro a ha hv
    rw [List.all_cons, Bool.and_eq_true] at ha
    obtain ⟨h1, h2⟩ := isD_iff.1 ha.1
    have hv' : vD (a * 10 + (c.toNat - 48)) r < 1844674407370955162 := hv
    have hm := vD_mono r (a * 10 + (c.toNat - 48))
    rw [parseUint10, if_pos ⟨h1, h2⟩, if_neg (by omega), if_neg (by omega)]
    exact ih _ ha.2 hv'
/-- The reference's reading. -/
def igM (l : List UInt8) : Int × Bool :=
  if 1 < l.length ∧ l.head? = some 45 then
    (if canon l.tail = true ∧ 1 ≤ vD 0 l.tail ∧ vD 0 l.tail ≤ 1000000000 then (-(vD 0 l.tail : Int), true) else (0, false))
  else (if canon l = true ∧ vD 0 l ≤ 1000000000 then ((vD 0 l : Int), true) else (0, false))
/-- The program's reading. -/
def igI (l : List UInt8) : Int × Bool :=
  match atoiAll l with
  | .ok v => if (-1000000000 ≤ v ∧ v ≤ 1000000000) ∧ (itoa v == l) = true then (v, true) else (0, false)
  | _ => (0, false)
theorem atoi_neg (r : List UInt8) (hr : r ≠ []) (ha : r.all isD = true) (hv : vD 0 r ≤ 1000000000) : atoiAll (45 :: r) = .ok (-(vD 0 r : Int)) := by
  have hp : parseMag r = .ok (vD 0 r) := by rw [parseMag, if_neg hr]; exact parse_ok r 0 ha (by omega)
  have h45 : (45 : UInt8).toNat = 45 := rfl
  simp only [atoiAll, h45]
  rw [if_pos (by decide), hp]
  simp only
  rw [if_neg (by simp), if_neg (by omega), if_pos trivial]
theorem atoi_pos (l : List UInt8) (hl : l ≠ []) (ha : l.all isD = true) (hv : vD 0 l ≤ 1000000000) : atoiAll l = .ok (vD 0 l : Int) := by
  have hp : parseMag l = .ok (vD 0 l) := by rw [parseMag, if_neg hl]; exact parse_ok l 0 ha (by omega)
  match l, hl, ha, hv, hp with
  | c :: r, _, ha, hv, hp =>
    rw [List.all_cons, Bool.and_eq_true] at ha
    obtain ⟨h1, h2⟩ := isD_iff.1 ha.1
    simp only [atoiAll]
    rw [if_neg (by omega), hp]
    simp only
    rw [if_neg (by omega), if_neg (by omega), if_neg (by omega)]
theorem ig_cases (l : List UInt8) : igI l = (0, false) ∨ ∃ v, igI l = (v, true) ∧ (-1000000000 ≤ v ∧ v ≤ 1000000000) ∧ itoa v = l := by
  unfold igI
  split
  · split
    · rename_i v _ h
      exact .inr ⟨v, rfl, h.1, eq_of_beq h.2⟩
    · exact .inl rfl
  · exact .inl rfl
theorem ig_same (l : List UInt8) : igI l = igM l := by
  have key : ∀ v : Int, (-1000000000 ≤ v ∧ v ≤ 1000000000) → itoa v = l → igM l = (v, true) := by
    intro v hv hl
    unfold itoa at hl
    split at hl
    · rename_i hn
      obtain ⟨h1, h2, h3, h4⟩ := dec_facts v.natAbs
      have hc := canon_dec v.natAbs (by omega)
      have hlen := List.length_pos_iff.2 h3
      rw [← hl]
      unfold igM
      rw [if_pos ⟨by simp only [List.length_cons]; omega, rfl⟩, List.tail_cons, if_pos ⟨hc, by omega, by omega⟩, h2]
      congr 1
      omega
    · rename_i hn
      obtain ⟨h1, h2, h3, h4⟩ := dec_facts v.toNat
      have hc := canon_dec v.toNat (by omega)
      rw [← hl]
      unfold igM
      rw [if_neg, if_pos ⟨hc, by omega⟩, h2]
      · congr 1
        omega
      · rintro ⟨_, hh⟩
        match hd : decDigits v.toNat with
        | [] => exact h3 hd
        | c :: r =>
          rw [hd] at hh h1
          simp only [List.head?_cons, Option.some.injEq] at hh
          rw [List.all_cons, Bool.and_eq_true, hh] at h1
          exact absurd h1.1 (by decide)
  have back : ∀ v : Int, igM l = (v, true) → igI l = (v, true) := by
    intro v h
    unfold igM at h
    split at h
    · rename_i hh
      split at h
      · rename_i hc
        obtain ⟨c1, c2, c3, c4⟩ := canon_facts hc.1
        have hv : -(vD 0 l.tail : Int) = v := (Prod.mk.inj h).1
        have hl : l = 45 :: l.tail := by
          match l, hh with
          | c :: r, hh => simp only [List.head?_cons, Option.some.injEq] at hh; rw [hh.2]; rfl
        have ha := atoi_neg l.tail c3 c2 hc.2.2
        rw [← hl] at ha
        have hi : itoa (-(vD 0 l.tail : Int)) = l := by
          rw [itoa, if_pos (by omega), Int.natAbs_neg, Int.natAbs_natCast, c1]
          exact hl.symm
        unfold igI
        rw [ha]
        simp only
        rw [if_pos ⟨by omega, by rw [hi]; simp⟩, hv]
      · exact absurd (Prod.mk.inj h).2 (by decide)
    · rename_i hh
      split at h
      · rename_i hc
        obtain ⟨c1, c2, c3, c4⟩ := canon_facts hc.1
        have hv : (vD 0 l : Int) = v := (Prod.mk.inj h).1
        have ha := atoi_pos l c3 c2 hc.2
        have hi : itoa (vD 0 l : Int) = l := by
          rw [itoa, if_neg (by omega), Int.toNat_natCast, c1]
        unfold igI
        rw [ha]
        simp only
        rw [if_pos ⟨by omega, by rw [hi]; simp⟩, hv]
      · exact absurd (Prod.mk.inj h).2 (by decide)
  have no := ig_cases l
  have mo : igM l = (0, false) ∨ ∃ v, igM l = (v, true) := by
    unfold igM
    split
    · split
      · exact .inr ⟨_, rfl⟩
      · exact .inl rfl
    · split
      · exact .inr ⟨_, rfl⟩
      · exact .inl rfl
  rcases mo with hm | ⟨v, hm⟩
  · rcases no with hi | ⟨v, hi, h1, h2⟩
    · rw [hm, hi]
    · have := key v h1 h2
      rw [hm] at this
      exact absurd (Prod.mk.inj this).2 (by decide)
  · rw [hm, back v hm]

end Go.Proofs.YthdbjegppeekoaaDoor.Q
