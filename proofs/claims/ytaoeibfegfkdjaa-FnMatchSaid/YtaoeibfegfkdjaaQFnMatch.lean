import Derived.Test.YtaoeibfegfkdjaaPx1
import Derived.Test.YtaoeibfegfkdjaaQMatch
import Derived.Test.YtaoeibfegfkdjaaQDraw
/- Plain law: of a drawn pattern and text, Match of the program says what the reference says; a text is as itself, and as a star; with a star ahead of both it is still so. -/
namespace Go.Proofs.Ytaoeibfegfkdjaa.Q
open Go.RowKit Go.Proofs.YtaoeibfegfkdjaaW.PrintWords Go.Proofs.YtaoeibfegfkdjaaW.PrintLast Go.Proofs.Ytaoeibfegfkdjaa.P

theorem toList_append (a b : ByteArray) : (a ++ b).toList = a.toList ++ b.toList := by
  simp [ByteArray.toList_eq]
theorem toList_lit (x : UInt8) : (⟨#[x]⟩ : ByteArray).toList = [x] := by
  simp [ByteArray.toList_eq]
theorem lang_self (t : List UInt8) : Lang t t := by
  induction t with
  | nil => rfl
  | cons c t ih =>
    by_cases h : c = 42
    · exact .inl ⟨h, [c], t, rfl, ih⟩
    · exact .inr ⟨h, c, t, rfl, .inr rfl, ih⟩
theorem lang_star_cons {p t : List UInt8} (h : Lang p t) : Lang (42 :: p) t := .inl ⟨rfl, [], t, rfl, h⟩
theorem lang_star_cons2 {p t : List UInt8} (x : UInt8) (h : Lang p t) : Lang (42 :: p) (x :: t) := .inl ⟨rfl, [x], t, rfl, h⟩
theorem lang_star_end {p t : List UInt8} (x : UInt8) (h : Lang p t) : Lang (p ++ [42]) (t ++ [x]) := (lang_append _ _ _).2 ⟨t, [x], rfl, h, lang_star _⟩
theorem lang_quest {p t : List UInt8} (x : UInt8) : Lang (63 :: p) (x :: t) ↔ Lang p t := by
  constructor
  · rintro (⟨h, _⟩ | ⟨_, y, v, e, _, h⟩)
    · exact absurd h (by decide)
    · injection e with _ e; rw [e]; exact h
  · intro h
    exact .inr ⟨by decide, x, t, rfl, .inl rfl, h⟩
theorem lang_ab {p t : List UInt8} : ¬ Lang (97 :: p) (98 :: t) := by
  rintro (⟨h, _⟩ | ⟨_, y, v, e, h, _⟩)
  · exact absurd h (by decide)
  · injection e with e _
    rw [← e] at h
    exact absurd h (by decide)
theorem DrawMatch_l0 (c : List Int) (hc : Code c) (n : Nat) : ∀ (x y : ByteArray) (p : Int), n ≤ 5 → x.size + 2 * n ≤ 10 → y.size + 2 * n ≤ 10 → 0 ≤ p → p + 2 * n ≤ 1000 →
    ∃ a b, Ev (fun k => spec_DrawMatch.l0 k x y (n : Int) c p) (a, b) ∧ a.size ≤ 10 ∧ b.size ≤ 10 := by
  induction n with
  | zero =>
    intro x y p _ hx hy _ _
    exact ⟨x, y, Ev.step (g := fun k => spec_DrawMatch.l0 k _ _ _ _ _) (fun k => by rw [spec_DrawMatch.l0]) (neg (by omega) (ret _)), by omega, by omega⟩
  | succ n ih =>
    intro x y p hn hx hy hp hp'
    obtain ⟨s, hs, hms⟩ := of_ev c hc p ([(⟨#[42]⟩ : ByteArray), (⟨#[63]⟩ : ByteArray), (⟨#[97]⟩ : ByteArray), (⟨#[98]⟩ : ByteArray)] : List ByteArray) hp (by omega) (by decide) (by decide)
    obtain ⟨t, ht, hmt⟩ := of_ev c hc (p + 1) ([(⟨#[97]⟩ : ByteArray), (⟨#[98]⟩ : ByteArray), (⟨#[97, 98]⟩ : ByteArray), (⟨#[]⟩ : ByteArray)] : List ByteArray) (by omega) (by omega) (by decide) (by decide)
    have s2 : s.size ≤ 2 := by
      simp only [List.mem_cons, List.not_mem_nil, or_false] at hms
      rcases hms with rfl | rfl | rfl | rfl <;> decide
    have t2 : t.size ≤ 2 := by
      simp only [List.mem_cons, List.not_mem_nil, or_false] at hmt
      rcases hmt with rfl | rfl | rfl | rfl <;> decide
    obtain ⟨a, b, hab, ha, hb⟩ := ih (x ++ s) (y ++ t) (p + 1 + 1) (by omega) (by rw [ByteArray.size_append]; omega) (by rw [ByteArray.size_append]; omega) (by omega) (by omega)
    refine ⟨a, b, Ev.step (g := fun k => spec_DrawMatch.l0 k _ _ _ _ _) (fun k => by rw [spec_DrawMatch.l0]) (pos (by omega) (Ev.bind hs ?_)), ha, hb⟩
    refine pos (by dsimp only; omega) (Ev.bind ht (pos (by dsimp only; omega) ?_))
    rw [show wrap64 (((n + 1 : Nat) : Int) - 1) = (n : Int) by rw [wrap_id (by omega) (by omega)]; omega]
    exact hab
theorem DrawMatch_ev (l : List Int) (hl : l.length ≤ maxLen) (hb : ∀ x ∈ l, (Lit.int .u8 x).wf = true) : ∃ a b, Ev (fun k => spec_DrawMatch.f k l) (a, b) ∧ a.size ≤ 10 ∧ b.size ≤ 10 := by
  obtain ⟨c, hc, hC⟩ := l1Open_ev l hl hb
  obtain ⟨v, hv, v0, v1⟩ := pick_ev c hC 0 6 (by omega) (by omega) (by omega) (by omega)
  obtain ⟨n, rfl⟩ := Int.eq_ofNat_of_zero_le v0
  obtain ⟨a, b, hab, ha, hb⟩ := DrawMatch_l0 c hC n (⟨#[]⟩ : ByteArray) (⟨#[]⟩ : ByteArray) (0 + 1) (by omega) (by show 0 + 2 * n ≤ 10; omega) (by show 0 + 2 * n ≤ 10; omega) (by omega) (by omega)
  unfold spec_DrawMatch.f
  exact ⟨a, b, Ev.bind hc (Ev.bind hv hab), ha, hb⟩
theorem FnMatch_pure (l : List Int) (hl : l.length ≤ maxLen) (hb : ∀ x ∈ l, (Lit.int .u8 x).wf = true) : ∃ k, laws_FnMatch.f k l = some true := by
  refine exists_of (r := true) ?_
  unfold laws_FnMatch.f
  refine both (fun _ => ret _) (fun _ => ?_)
  obtain ⟨p, s, hps, hp, hs⟩ := DrawMatch_ev l hl hb
  have m : ∀ (a b : ByteArray), a.size ≤ 20 → b.size ≤ 20 → Ev (fun k => impl_Match.f k a b) (langB a.toList b.toList) := fun a b ha hb => impl_Match_ev a b (by omega) (by omega)
  have sz1 : ∀ (x : UInt8) (a : ByteArray), ((⟨#[x]⟩ : ByteArray) ++ a).size = 1 + a.size := fun x a => by rw [ByteArray.size_append]; rfl
  have sz2 : ∀ (x : UInt8) (a : ByteArray), (a ++ (⟨#[x]⟩ : ByteArray)).size = a.size + 1 := fun x a => by rw [ByteArray.size_append]; rfl
  have h1 := m p s (by omega) (by omega)
  have h2 := spec_Match_ev _ p s (Nat.le_refl _) (by unfold maxLen; omega)
  have h3 : Ev (fun k => impl_Match.f k (⟨#[42]⟩ : ByteArray) s) true := of_eq (m _ _ (by decide) (by omega)) (by rw [toList_lit]; exact langB_iff.2 (lang_star _))
  have h4 : Ev (fun k => impl_Match.f k s s) true := of_eq (m _ _ (by omega) (by omega)) (langB_iff.2 (lang_self _))
  have h8 : Ev (fun k => impl_Match.f k ((⟨#[63]⟩ : ByteArray) ++ p) ((⟨#[120]⟩ : ByteArray) ++ s)) (langB p.toList s.toList) :=
    of_eq (m _ _ (by rw [sz1]; omega) (by rw [sz1]; omega)) (by rw [toList_append, toList_append, toList_lit, toList_lit]; exact langB_congr (lang_quest _))
  have h9 : Ev (fun k => impl_Match.f k ((⟨#[97]⟩ : ByteArray) ++ p) ((⟨#[98]⟩ : ByteArray) ++ s)) false :=
    of_eq (m _ _ (by rw [sz1]; omega) (by rw [sz1]; omega)) (by
      rw [toList_append, toList_append, toList_lit, toList_lit]
      exact langB_eq ⟨fun h => absurd h lang_ab, fun h => by cases h⟩)
  refine Ev.bind hps (Ev.bind h1 (Ev.bind h2 (neg (by simp) (Ev.bind h3 (pos rfl (Ev.bind h4 ?_))))))
  refine Ev.step (g := fun k => laws_FnMatch.j0 k _ _ _ _) (fun k => by rw [laws_FnMatch.j0]) (neg (by decide) ?_)
  cases hb : langB p.toList s.toList with
  | true =>
    have hL := langB_iff.1 hb
    have h5 : Ev (fun k => impl_Match.f k ((⟨#[42]⟩ : ByteArray) ++ p) s) true :=
      of_eq (m _ _ (by rw [sz1]; omega) (by omega)) (by rw [toList_append, toList_lit]; exact langB_iff.2 (lang_star_cons hL))
    have h6 : Ev (fun k => impl_Match.f k ((⟨#[42]⟩ : ByteArray) ++ p) ((⟨#[120]⟩ : ByteArray) ++ s)) true :=
      of_eq (m _ _ (by rw [sz1]; omega) (by rw [sz1]; omega)) (by rw [toList_append, toList_append, toList_lit, toList_lit]; exact langB_iff.2 (lang_star_cons2 _ hL))
    have h7 : Ev (fun k => impl_Match.f k (p ++ (⟨#[42]⟩ : ByteArray)) (s ++ (⟨#[120]⟩ : ByteArray))) true :=
      of_eq (m _ _ (by rw [sz2]; omega) (by rw [sz2]; omega)) (by rw [toList_append, toList_append, toList_lit, toList_lit]; exact langB_iff.2 (lang_star_end _ hL))
    rw [hb] at h8
    repeat' first
      | exact ret _
      | exact ret' rfl
      | dsimp only
      | refine Ev.bind (h5) ?_
      | refine Ev.bind (h6) ?_
      | refine Ev.bind (h7) ?_
      | refine Ev.bind (h8) ?_
      | refine Ev.bind (h9) ?_
      | refine pos rfl ?_
      | refine neg (by decide) ?_
      | refine pos (by omega) ?_
      | refine neg (by omega) ?_
      | refine neg (by simp) ?_
  | false =>
    rw [hb] at h8
    repeat' first
      | exact ret _
      | exact ret' rfl
      | dsimp only
      | refine Ev.bind (h8) ?_
      | refine Ev.bind (h9) ?_
      | refine pos rfl ?_
      | refine neg (by decide) ?_
      | refine pos (by omega) ?_
      | refine neg (by omega) ?_
      | refine neg (by simp) ?_
end Go.Proofs.Ytaoeibfegfkdjaa.Q
