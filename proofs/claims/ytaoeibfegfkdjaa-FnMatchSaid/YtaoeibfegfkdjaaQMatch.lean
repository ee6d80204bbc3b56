import Derived.Test.YtaoeibfegfkdjaaPx1
import Derived.Test.YtaoeibfegfkdjaaQEv
/- Plain lemmas: Match on both sides. The reference goes from the front, the program tells prefix by prefix of the pattern to which prefixes of the text it leads. -/
namespace Go.Proofs.Ytaoeibfegfkdjaa.Q
open Go.RowKit Go.Proofs.YtaoeibfegfkdjaaW.PrintWords Go.Proofs.YtaoeibfegfkdjaaW.PrintLast Go.Proofs.Ytaoeibfegfkdjaa.P

/-- What a pattern's language is. -/
def Lang : List UInt8 → List UInt8 → Prop
  | [], t => t = []
  | c :: p, t => (c = 42 ∧ ∃ u v, t = u ++ v ∧ Lang p v) ∨ (c ≠ 42 ∧ ∃ x v, t = x :: v ∧ (c = 63 ∨ c = x) ∧ Lang p v)
theorem lang_append (p q : List UInt8) : ∀ t, Lang (p ++ q) t ↔ ∃ u v, t = u ++ v ∧ Lang p u ∧ Lang q v := by
  induction p with
  | nil =>
    intro t
    exact ⟨fun h => ⟨[], t, rfl, rfl, h⟩, fun ⟨u, v, e, hu, hv⟩ => by rw [e, show u = [] from hu]; exact hv⟩
  | cons c p ih =>
    intro t
    constructor
    · rintro (⟨hc, u, v, e, h⟩ | ⟨hc, x, v, e, hx, h⟩)
      · obtain ⟨v1, v2, e2, h1, h2⟩ := (ih v).1 h
        exact ⟨u ++ v1, v2, by rw [e, e2, List.append_assoc], .inl ⟨hc, u, v1, rfl, h1⟩, h2⟩
      · obtain ⟨v1, v2, e2, h1, h2⟩ := (ih v).1 h
        exact ⟨x :: v1, v2, by rw [e, e2]; rfl, .inr ⟨hc, x, v1, rfl, hx, h1⟩, h2⟩
    · rintro ⟨u, v, e, (⟨hc, u1, u2, e1, h1⟩ | ⟨hc, x, u2, e1, hx, h1⟩), h2⟩
      · exact .inl ⟨hc, u1, u2 ++ v, by rw [e, e1, List.append_assoc], (ih _).2 ⟨u2, v, rfl, h1, h2⟩⟩
      · exact .inr ⟨hc, x, u2 ++ v, by rw [e, e1]; rfl, hx, (ih _).2 ⟨u2, v, rfl, h1, h2⟩⟩
theorem lang_star (t : List UInt8) : Lang [42] t := .inl ⟨rfl, t, [], by simp, rfl⟩
theorem lang_one {c : UInt8} (hc : c ≠ 42) (t : List UInt8) : Lang [c] t ↔ ∃ x, t = [x] ∧ (c = 63 ∨ c = x) := by
  constructor
  · rintro (⟨h, _⟩ | ⟨_, x, v, e, hx, h⟩)
    · exact absurd h hc
    · exact ⟨x, by rw [e, show v = [] from h], hx⟩
  · rintro ⟨x, e, hx⟩
    exact .inr ⟨hc, x, [], e, hx, rfl⟩
/-- A star behind a pattern: some prefix of the text is of the pattern. -/
theorem lang_snoc_star (p t : List UInt8) : Lang (p ++ [42]) t ↔ ∃ i, i ≤ t.length ∧ Lang p (t.take i) := by
  rw [lang_append]
  constructor
  · rintro ⟨u, v, e, h, _⟩
    exact ⟨u.length, by rw [e]; simp, by rw [e]; simpa using h⟩
  · rintro ⟨i, hi, h⟩
    exact ⟨t.take i, t.drop i, by simp, h, lang_star _⟩
theorem lang_snoc_one {c : UInt8} (hc : c ≠ 42) (p t : List UInt8) (x : UInt8) : Lang (p ++ [c]) (t ++ [x]) ↔ (c = 63 ∨ c = x) ∧ Lang p t := by
  rw [lang_append]
  constructor
  · rintro ⟨u, v, e, h, hv⟩
    obtain ⟨y, rfl, hy⟩ := (lang_one hc v).1 hv
    obtain ⟨rfl, e2⟩ := List.append_inj' e (by simp)
    injection e2 with e2
    exact ⟨e2 ▸ hy, h⟩
  · rintro ⟨hx, h⟩
    exact ⟨t, [x], rfl, h, (lang_one hc _).2 ⟨x, rfl, hx⟩⟩
theorem lang_snoc_one_nil {c : UInt8} (hc : c ≠ 42) (p : List UInt8) : ¬ Lang (p ++ [c]) [] := by
  rw [lang_append]
  rintro ⟨u, v, e, _, hv⟩
  obtain ⟨y, rfl, _⟩ := (lang_one hc v).1 hv
  simp at e
open Classical in
noncomputable def langB (p t : List UInt8) : Bool := decide (Lang p t)
theorem langB_iff {p t : List UInt8} : langB p t = true ↔ Lang p t := by simp [langB]
theorem langB_iff' {p t : List UInt8} : langB p t = true ↔ Lang p t := langB_iff
theorem langB_congr {p t p' t' : List UInt8} (h : Lang p t ↔ Lang p' t') : langB p t = langB p' t' := by
  rw [Bool.eq_iff_iff, langB_iff', langB_iff', h]
theorem langB_eq {p t : List UInt8} {b : Bool} (h : Lang p t ↔ b = true) : langB p t = b := by
  rw [Bool.eq_iff_iff, langB_iff, h]

theorem list_of (s : ByteArray) : s.toList.length = s.size := toList_len s
theorem toList_cons (s : ByteArray) (h : 0 < s.size) : s.toList = s[0] :: (s.extract 1 s.size).toList := by
  rw [ByteArray.toList_eq, ByteArray.toList_eq, ByteArray.data_extract]
  have h' : 0 < s.data.toList.length := h
  have : (s.data.extract 1 s.size).toList = s.data.toList.drop 1 := by
    rw [Array.toList_extract, List.extract_eq_take_drop]
    exact List.take_of_length_le (by simp)
  rw [this]
  exact (List.getElem_cons_drop (i := 0) (h := h')).symm
theorem size_tail (s : ByteArray) (h : 0 < s.size) : (s.extract 1 s.size).size = s.size - 1 := by
  have h1 := toList_len (s.extract 1 s.size)
  have h2 := toList_len s
  rw [toList_cons s h, List.length_cons] at h2
  omega
theorem toList_nil_iff (s : ByteArray) : s.toList = ([] : List UInt8) ↔ s.size = 0 := by
  rw [← toList_len]
  exact ⟨fun h => by rw [h]; rfl, fun h => List.length_eq_zero_iff.1 h⟩
theorem bt_lt (s : ByteArray) (i : Nat) (h : i < s.size) : bt s (i : Int) = (s[i].toNat : Int) := by
  simp [bt, h]
theorem u8_eq {a b : UInt8} : ((a.toNat : Int) = (b.toNat : Int)) ↔ a = b := by
  constructor
  · intro h; exact UInt8.toNat_inj.1 (by omega)
  · intro h; rw [h]
theorem u8_num {a : UInt8} {n : Nat} (hn : n < 256) : ((a.toNat : Int) = (n : Int)) ↔ a = UInt8.ofNat n := by
  constructor
  · intro h
    apply UInt8.toNat_inj.1
    rw [UInt8.toNat_ofNat']
    omega
  · intro h
    rw [h, UInt8.toNat_ofNat']
    omega
theorem spec_Match_ev (n : Nat) : ∀ (a b : ByteArray), a.size + b.size ≤ n → a.size ≤ maxLen → Ev (fun k => spec_Match.f k a b) (langB a.toList b.toList) := by
  induction n with
  | zero =>
    intro a b hn ha
    have ha0 : a.toList = [] := (toList_nil_iff a).2 (by omega)
    have hb0 : b.toList = [] := (toList_nil_iff b).2 (by omega)
    refine Ev.step (g := fun k => spec_Match.f k _ _) (fun k => by rw [spec_Match.f]) (pos ha0 (ret' ?_))
    rw [ha0, hb0]
    exact (langB_eq (by simp [Lang])).symm
  | succ n ih =>
    intro a b hn ha
    refine Ev.step (g := fun k => spec_Match.f k _ _) (fun k => by rw [spec_Match.f]) (both (fun h => ret' ?_) (fun h => ?_))
    · rw [h]
      exact (langB_eq (by simp [Lang])).symm
    · have ha0 : 0 < a.size := by have := mt (toList_nil_iff a).2 h; omega
      have hea := toList_cons a ha0
      have hsa := size_tail a ha0
      have hb42 : bt a 0 = 42 ↔ a[0] = 42 := by
        rw [show bt a 0 = (a[0].toNat : Int) from bt_lt a 0 ha0]
        exact u8_num (n := 42) (by omega)
      have hb63 : bt a 0 = 63 ↔ a[0] = 63 := by
        rw [show bt a 0 = (a[0].toNat : Int) from bt_lt a 0 ha0]
        exact u8_num (n := 63) (by omega)
      refine pos (by omega) (both (fun h42 => ?_) (fun h42 => ?_))
      · have hc := hb42.1 h42
        refine pos (by omega) (Ev.bind (ih (a.extract 1 a.size) b (by omega) (by omega)) ?_)
        refine both (fun h1 => ret' ?_) (fun h1 => ?_)
        · refine (langB_eq ?_).symm
          rw [hea]
          exact ⟨fun _ => rfl, fun _ => .inl ⟨hc, [], b.toList, rfl, langB_iff.1 h1⟩⟩
        · refine both (fun h2 => ret' ?_) (fun h2 => ?_)
          · refine (langB_eq ?_).symm
            rw [hea, h2]
            constructor
            · rintro (⟨_, u, v, e, h3⟩ | ⟨h3, _⟩)
              · exfalso
                obtain ⟨rfl, rfl⟩ := List.append_eq_nil_iff.1 e.symm
                rw [h2] at h1
                exact h1 (langB_iff.2 h3)
              · exact absurd hc h3
            · intro h3; cases h3
          · have hb0 : 0 < b.size := by have := mt (toList_nil_iff b).2 h2; omega
            have heb := toList_cons b hb0
            have hsb := size_tail b hb0
            refine pos (by omega) (Ev.bind (ih a (b.extract 1 b.size) (by omega) ha) (ret' ?_))
            refine langB_congr ?_
            rw [hea, heb]
            constructor
            · rintro (⟨_, u, v, e, h3⟩ | ⟨h3, _⟩)
              · exact .inl ⟨hc, b[0] :: u, v, by rw [e]; rfl, h3⟩
              · exact absurd hc h3
            · rintro (⟨_, u, v, e, h3⟩ | ⟨h3, _⟩)
              · cases u with
                | nil =>
                  exfalso
                  refine h1 (langB_iff.2 ?_)
                  rw [heb, e]
                  exact h3
                | cons y u =>
                  injection e with _ e
                  exact .inl ⟨hc, u, v, e, h3⟩
              · exact absurd hc h3
      · have hc : a[0] ≠ 42 := fun e => h42 (hb42.2 e)
        refine both (fun h2 => ret' ?_) (fun h2 => ?_)
        · refine (langB_eq ?_).symm
          rw [hea, h2]
          constructor
          · rintro (⟨h3, _⟩ | ⟨_, x, v, e, _⟩)
            · exact absurd h3 hc
            · cases e
          · intro h3; cases h3
        · have hb0 : 0 < b.size := by have := mt (toList_nil_iff b).2 h2; omega
          have heb := toList_cons b hb0
          have hsb := size_tail b hb0
          have tail : (a[0] = 63 ∨ a[0] = b[0]) → langB (a.extract 1 a.size).toList (b.extract 1 b.size).toList = langB a.toList b.toList := by
            intro hx
            refine langB_congr ?_
            rw [hea, heb]
            constructor
            · intro h3; exact .inr ⟨hc, b[0], _, rfl, hx, h3⟩
            · rintro (⟨h3, _⟩ | ⟨_, x, v, e, _, h3⟩)
              · exact absurd h3 hc
              · injection e with _ e; rw [e]; exact h3
          refine both (fun h63 => ?_) (fun h63 => ?_)
          · exact pos (by omega) (pos (by omega) (Ev.bind (ih _ _ (by omega) (by omega)) (ret' (tail (.inl (hb63.1 h63))))))
          · have heq : bt a 0 = bt b 0 ↔ a[0] = b[0] := by
              rw [show bt a 0 = (a[0].toNat : Int) from bt_lt a 0 ha0, show bt b 0 = (b[0].toNat : Int) from bt_lt b 0 hb0]
              exact u8_eq
            refine pos (by omega) (both (fun he => ?_) (fun he => ret' ?_))
            · exact pos (by omega) (pos (by omega) (Ev.bind (ih _ _ (by omega) (by omega)) (ret' (tail (.inr (heq.1 he))))))
            · refine (langB_eq ?_).symm
              rw [hea, heb]
              constructor
              · rintro (⟨h3, _⟩ | ⟨_, x, v, e, hx, _⟩)
                · exact absurd h3 hc
                · injection e with e _
                  rcases hx with hx | hx
                  · exact absurd (hb63.2 hx) h63
                  · exact absurd (heq.2 (hx.trans e.symm)) he
              · intro h3; cases h3

/-- The row of the program: which prefixes of the text are of a pattern. -/
noncomputable def rowL (p t : List UInt8) : List Bool := (List.range (t.length + 1)).map fun j => langB p (t.take j)
theorem rowL_length (p t : List UInt8) : (rowL p t).length = t.length + 1 := by simp [rowL]
theorem rowL_get (p t : List UInt8) (j : Nat) (h : j < (rowL p t).length) : (rowL p t)[j] = langB p (t.take j) := by simp [rowL]
theorem rdOf_rowL (p t : List UInt8) (j : Nat) (h : j ≤ t.length) : rdOf false (rowL p t) (j : Int) = langB p (t.take j) := by
  rw [rdOf_lt _ _ _ (by rw [rowL_length]; omega), rowL_get]
theorem rowL_star_zero (p t : List UInt8) : langB (p ++ [42]) (t.take 0) = langB p (t.take 0) := by
  refine langB_congr ?_
  rw [lang_snoc_star]
  constructor
  · rintro ⟨i, _, h⟩
    simpa using h
  · intro h
    exact ⟨0, by simp, by simpa using h⟩
theorem rowL_star_succ (p t : List UInt8) (j : Nat) (h : j < t.length) : langB (p ++ [42]) (t.take (j + 1)) = (langB p (t.take (j + 1)) || langB (p ++ [42]) (t.take j)) := by
  rw [Bool.eq_iff_iff, Bool.or_eq_true, langB_iff, langB_iff, langB_iff, lang_snoc_star, lang_snoc_star]
  constructor
  · rintro ⟨i, hi, h1⟩
    rw [List.length_take] at hi
    by_cases he : i = j + 1
    · refine .inl ?_
      rw [he, List.take_take, Nat.min_self] at h1
      exact h1
    · refine .inr ⟨i, by rw [List.length_take]; omega, ?_⟩
      rw [List.take_take] at h1 ⊢
      rwa [Nat.min_eq_left (by omega)] at h1 ⊢
  · rintro (h1 | ⟨i, hi, h1⟩)
    · exact ⟨j + 1, by rw [List.length_take]; omega, by rw [List.take_take, Nat.min_self]; exact h1⟩
    · rw [List.length_take] at hi
      refine ⟨i, by rw [List.length_take]; omega, ?_⟩
      rw [List.take_take] at h1 ⊢
      rwa [Nat.min_eq_left (by omega)] at h1 ⊢
theorem rowL_one_zero {c : UInt8} (hc : c ≠ 42) (p t : List UInt8) : langB (p ++ [c]) (t.take 0) = false := by
  refine langB_eq ?_
  constructor
  · intro h; exact absurd h (lang_snoc_one_nil hc p)
  · intro h; cases h
theorem rowL_one_succ {c : UInt8} (hc : c ≠ 42) (p t : List UInt8) (j : Nat) (h : j < t.length) : langB (p ++ [c]) (t.take (j + 1)) = (decide (c = 63 ∨ c = t[j]) && langB p (t.take j)) := by
  rw [List.take_succ_eq_append_getElem h, Bool.eq_iff_iff, Bool.and_eq_true, langB_iff, langB_iff, lang_snoc_one hc, decide_eq_true_eq]
/-- A row that is being filled: the first j of the new one, no further. -/
noncomputable def fillL (p t : List UInt8) (j : Nat) : List Bool := (rowL p t).take j ++ List.replicate (t.length + 1 - j) false
theorem fillL_length (p t : List UInt8) (j : Nat) (h : j ≤ t.length + 1) : (fillL p t j).length = t.length + 1 := by
  simp [fillL, rowL_length]; omega
theorem fillL_set (p t : List UInt8) (j : Nat) (h : j ≤ t.length) : (fillL p t j).set j (langB p (t.take j)) = fillL p t (j + 1) := by
  have hr := rowL_length p t
  unfold fillL
  rw [List.set_append_right _ _ (by simp; omega), show j - ((rowL p t).take j).length = 0 by simp; omega,
    show t.length + 1 - j = (t.length + 1 - (j + 1)) + 1 by omega, List.replicate_succ, List.set_cons_zero, List.take_succ_eq_append_getElem (by omega), rowL_get]
  simp
theorem fillL_keep (p t : List UInt8) (j : Nat) (h : j ≤ t.length) (hf : langB p (t.take j) = false) : fillL p t j = fillL p t (j + 1) := by
  have hr := rowL_length p t
  unfold fillL
  rw [show t.length + 1 - j = (t.length + 1 - (j + 1)) + 1 by omega, List.replicate_succ, List.take_succ_eq_append_getElem (by omega), rowL_get, hf]
  simp
theorem fillL_get (p t : List UInt8) (i j : Nat) (h : i < j) (hj : j ≤ t.length + 1) : rdOf false (fillL p t j) (i : Int) = langB p (t.take i) := by
  have hr := rowL_length p t
  rw [rdOf_lt _ _ _ (by rw [fillL_length p t j hj]; omega)]
  unfold fillL
  rw [List.getElem_append_left (by simp; omega), List.getElem_take, rowL_get]
theorem fillL_full (p t : List UInt8) : fillL p t (t.length + 1) = rowL p t := by
  have hr := rowL_length p t
  unfold fillL
  rw [List.take_of_length_le (by omega)]
  simp
theorem take_toList (s : ByteArray) (k : Nat) (h : k < s.size) : s.toList.take (k + 1) = s.toList.take k ++ [s[k]] := by
  rw [List.take_succ_eq_append_getElem (by rw [toList_len]; exact h)]
  congr 1
  simp [ByteArray.toList_eq]
  rfl
theorem getElem_toList (s : ByteArray) (k : Nat) (h : k < s.toList.length) : s.toList[k] = s[k]'(by rw [← toList_len]; exact h) := by
  simp [ByteArray.toList_eq]
  rfl
theorem impl_Match_l1 (a b : ByteArray) (ha : a.size ≤ 281474976710655) (hb : b.size ≤ 281474976710655) (i : Nat) (hi : i < a.size) (r : Bool)
    (after : Ev (fun k => impl_Match.l0 k a b (rowL (a.toList.take (i + 1)) b.toList) (a.size : Int) ((i + 1 : Nat) : Int)) r) (d : Nat) : ∀ (j : Nat), j + d = b.size + 1 →
    Ev (fun k => impl_Match.l1 k a b (rowL (a.toList.take i) b.toList) (i : Int) (fillL (a.toList.take (i + 1)) b.toList j) (a.size : Int) (i : Int) ((rowL (a.toList.take i) b.toList).length : Int) (j : Int)) r := by
  have hlb := toList_len b
  have hrow := rowL_length (a.toList.take i) b.toList
  induction d with
  | zero =>
    intro j hj
    refine Ev.step (g := fun k => impl_Match.l1 k _ _ _ _ _ _ _ _ _) (fun k => by rw [impl_Match.l1]) (neg (by omega) ?_)
    rw [show j = b.toList.length + 1 by omega, fillL_full, wrap_id (by omega) (by omega)]
    exact after
  | succ d ih =>
    intro j hj
    have hfl := fillL_length (a.toList.take (i + 1)) b.toList j (by omega)
    have ih := ih (j + 1) (by omega)
    have hb42 : bt a (i : Int) = 42 ↔ a[i] = 42 := by rw [bt_lt a i hi]; exact u8_num (n := 42) (by omega)
    have hb63 : bt a (i : Int) = 63 ↔ a[i] = 63 := by rw [bt_lt a i hi]; exact u8_num (n := 63) (by omega)
    have hw1 : wrap64 ((j : Int) + 1) = ((j + 1 : Nat) : Int) := by rw [wrap_id (by omega) (by omega)]; omega
    refine Ev.step (g := fun k => impl_Match.l1 k _ _ _ _ _ _ _ _ _) (fun k => by rw [impl_Match.l1]) (pos (by omega) (pos (by omega) (pos (by omega) ?_)))
    rw [hw1]
    have hset : ∀ v, v = langB (a.toList.take (i + 1)) (b.toList.take j) → (fillL (a.toList.take (i + 1)) b.toList j).set j v = fillL (a.toList.take (i + 1)) b.toList (j + 1) := by
      intro v hv
      rw [hv, fillL_set _ _ _ (by omega)]
    refine both (fun h42 => ?_) (fun h42 => ?_)
    · have hc : a.toList.take (i + 1) = a.toList.take i ++ [42] := by rw [take_toList a i hi, hb42.1 h42]
      refine pos (by omega) (pos (by omega) ?_)
      rw [rdOf_rowL _ _ _ (by omega)]
      by_cases hj0 : j = 0
      · have hz : langB (a.toList.take (i + 1)) (b.toList.take j) = langB (a.toList.take i) (b.toList.take j) := by rw [hc, hj0]; exact rowL_star_zero _ _
        refine both (fun h => ?_) (fun h => ?_)
        · refine pos (by omega) ?_
          rw [Int.toNat_natCast, hset true (by rw [hz, h])]
          exact ih
        · refine neg (by omega) (pos (by omega) ?_)
          rw [Int.toNat_natCast, hset false (by rw [hz]; simpa using h)]
          exact ih
      · obtain ⟨q, rfl⟩ : ∃ q, j = q + 1 := ⟨j - 1, by omega⟩
        have hs : langB (a.toList.take (i + 1)) (b.toList.take (q + 1)) = (langB (a.toList.take i) (b.toList.take (q + 1)) || langB (a.toList.take (i + 1)) (b.toList.take q)) := by rw [hc]; exact rowL_star_succ _ _ q (by omega)
        have hw : wrap64 (((q + 1 : Nat) : Int) - 1) = (q : Int) := by rw [wrap_id (by omega) (by omega)]; omega
        refine both (fun h => ?_) (fun h => ?_)
        · refine pos (by omega) ?_
          rw [Int.toNat_natCast, hset true (by rw [hs, h]; rfl)]
          exact ih
        · refine pos (by omega) (pos (by omega) (pos (by omega) (pos (by omega) ?_)))
          rw [hw, fillL_get _ _ _ _ (by omega) (by omega), Int.toNat_natCast, hset _ (by rw [hs, Bool.eq_false_iff.2 h]; rfl)]
          exact ih
    · have hn : a[i] ≠ 42 := fun e => h42 (hb42.2 e)
      have hc : a.toList.take (i + 1) = a.toList.take i ++ [a[i]] := take_toList a i hi
      by_cases hj0 : j = 0
      · refine neg (by omega) ?_
        rw [fillL_keep _ _ _ (by omega) (by rw [hc, hj0]; exact rowL_one_zero hn _ _)]
        exact ih
      · obtain ⟨q, rfl⟩ : ∃ q, j = q + 1 := ⟨j - 1, by omega⟩
        have hq : q < b.size := by omega
        have hs : langB (a.toList.take (i + 1)) (b.toList.take (q + 1)) = (decide (a[i] = 63 ∨ a[i] = b[q]) && langB (a.toList.take i) (b.toList.take q)) := by
          rw [hc, rowL_one_succ hn _ _ q (by omega), getElem_toList]
        have hw : wrap64 (((q + 1 : Nat) : Int) - 1) = (q : Int) := by rw [wrap_id (by omega) (by omega)]; omega
        have go : (a[i] = 63 ∨ a[i] = b[q]) → Ev (fun k => impl_Match.l1 k a b (rowL (a.toList.take i) b.toList) (i : Int) ((fillL (a.toList.take (i + 1)) b.toList (q + 1)).set (q + 1) (langB (a.toList.take i) (b.toList.take q))) (a.size : Int) (i : Int) ((rowL (a.toList.take i) b.toList).length : Int) ((q + 1 + 1 : Nat) : Int)) r := by
          intro hx
          rw [hset _ (by rw [hs, decide_eq_true hx]; rfl)]
          exact ih
        refine pos (by omega) (both (fun h63 => ?_) (fun h63 => ?_))
        · rw [hw]
          refine pos (by omega) (pos (by omega) (pos (by omega) (pos (by omega) ?_)))
          rw [rdOf_rowL _ _ _ (by omega), Int.toNat_natCast]
          exact go (.inl (hb63.1 h63))
        · rw [hw]
          have heq : bt a (i : Int) = bt b (q : Int) ↔ a[i] = b[q] := by rw [bt_lt a i hi, bt_lt b q hq]; exact u8_eq
          refine pos (by omega) (pos (by omega) (both (fun he => ?_) (fun he => ?_)))
          · refine pos (by omega) (pos (by omega) (pos (by omega) ?_))
            rw [rdOf_rowL _ _ _ (by omega), Int.toNat_natCast]
            exact go (.inr (heq.1 he))
          · rw [fillL_keep _ _ _ (by omega) ?_]
            · exact ih
            · rw [hs, decide_eq_false (fun h => h.elim (fun e => h63 (hb63.2 e)) (fun e => he (heq.2 e)))]; rfl
theorem impl_Match_l0 (a b : ByteArray) (ha : a.size ≤ 281474976710655) (hb : b.size ≤ 281474976710655) (d : Nat) : ∀ (i : Nat), i + d = a.size →
    Ev (fun k => impl_Match.l0 k a b (rowL (a.toList.take i) b.toList) (a.size : Int) (i : Int)) (langB a.toList b.toList) := by
  have hla := toList_len a
  have hlb := toList_len b
  have hw : wrap64 ((b.size : Int) + 1) = ((b.size + 1 : Nat) : Int) := by rw [wrap_id (by omega) (by omega)]; omega
  induction d with
  | zero =>
    intro i hi
    have hrow := rowL_length (a.toList.take i) b.toList
    refine Ev.step (g := fun k => impl_Match.l0 k _ _ _ _ _) (fun k => by rw [impl_Match.l0]) (neg (by omega) (pos (by omega) (pos (by omega) (ret' ?_))))
    rw [rdOf_rowL _ _ _ (by omega), List.take_of_length_le (by omega), List.take_of_length_le (by omega)]
  | succ d ih =>
    intro i hi
    refine Ev.step (g := fun k => impl_Match.l0 k _ _ _ _ _) (fun k => by rw [impl_Match.l0]) (pos (by omega) ?_)
    rw [hw, Int.toNat_natCast]
    refine pos (by omega) (pos (by omega) ?_)
    have := impl_Match_l1 a b ha hb i (by omega) _ (ih (i + 1) (by omega)) (b.size + 1) 0 (by omega)
    rw [show fillL (a.toList.take (i + 1)) b.toList 0 = List.replicate (b.size + 1) false by simp [fillL, hlb]] at this
    exact this
theorem impl_Match_ev (a b : ByteArray) (ha : a.size ≤ 281474976710655) (hb : b.size ≤ 281474976710655) : Ev (fun k => impl_Match.f k a b) (langB a.toList b.toList) := by
  have hlb := toList_len b
  have hw : wrap64 ((b.size : Int) + 1) = ((b.size + 1 : Nat) : Int) := by rw [wrap_id (by omega) (by omega)]; omega
  unfold impl_Match.f
  rw [hw, Int.toNat_natCast]
  refine pos (by omega) (pos (by omega) (Ev.bind (ret _) ?_))
  refine pos (by simp) ?_
  have h0 : (List.replicate (b.size + 1) false).set (Int.toNat 0) true = rowL (a.toList.take 0) b.toList := by
    apply List.ext_getElem
    · rw [rowL_length]; simp [hlb]
    · intro j h1 h2
      rw [rowL_get]
      rw [rowL_length] at h2
      by_cases hj : j = 0
      · subst hj
        simp [langB, Lang]
      · have : ¬ (b.toList.take j = []) := by
          intro e
          have h3 : min j b.toList.length = 0 := by rw [← List.length_take, e]; rfl
          omega
        rw [List.getElem_set_ne (by show ¬ (0 = j); omega), List.getElem_replicate]
        refine (langB_eq ?_).symm
        constructor
        · intro h3; exact absurd h3 this
        · intro h3; cases h3
  rw [h0]
  exact impl_Match_l0 a b ha hb a.size 0 (by omega)
end Go.Proofs.Ytaoeibfegfkdjaa.Q
