import Derived.Test.YthdbjegppeekoaaDoorPx0
import Derived.ProofKit
import Derived.SizedLaws
/- Plain lemmas: what reads as data (the form's reader) reads as the print's kinds: whole numbers, bools, texts, slices, structs. -/
namespace Go.Proofs.YthdbjegppeekoaaDoor.Q
open Go.RowKit Go.Proofs.YthdbjegppeekoaaDoorW.PrintWords Go.Proofs.YthdbjegppeekoaaDoorW.PrintLast

/-- What the form's reader takes at type t, in world W, is an element of the kind d within the bounds ok. -/
def Opens {α H : Type} (enc : TypeId × Value → H) (P : Program) (W : World) (t : TypeId) (d : Kd α) (ok : α → Prop) : Prop :=
  ∀ (fuel : Nat) (cs : List Value) (y : DataW H × List MemPlace), DataW.trod enc P W 0 (fun _ => true) true fuel t cs = some y → ∃ x : α, d.K W x cs ∧ ok x
section
variable {α β H : Type} {enc : TypeId × Value → H} {P : Program} {W : World} {t e : TypeId}
theorem Opens.int {k : IntKind} (ht : P.underlying t = some (.int k)) : Opens enc P W t (Kd.int k) (fun x => (Lit.int k x).wf = true) := by
  intro fuel cs y h
  obtain ⟨n, rfl, _, hn⟩ := DataW.trod_int ht h
  exact ⟨n, rfl, hn⟩
theorem Opens.string (ht : P.underlying t = some .string) : Opens enc P W t Kd.string (fun x => x.size ≤ maxLen) := by
  intro fuel cs y h
  obtain ⟨s, rfl, _, hs⟩ := DataW.trod_string ht h
  exact ⟨s, rfl, hs⟩
theorem cells_len {b : Nat} {a : Addr} {n : Nat} {cs : List Value} (h : W.cells? b a n = some cs) : cs.length = n := by
  unfold World.cells? at h
  split at h
  · simpa using mapM_some_length h
  · cases h
theorem cells_get {b : Nat} {a : Addr} {n : Nat} {cs : List Value} (h : W.cells? b a n = some cs) (i : Nat) (u : Value) (hu : cs[i]? = some u) : W.cell? (a.add i) = some u := by
  have hl := cells_len h
  have hi : i < n := by rw [← hl]; exact (List.getElem?_eq_some_iff.1 hu).1
  unfold World.cells? at h
  split at h
  · rw [← hu]; exact mapM_some_get h i i (by simp [hi])
  · cases h
theorem each_of {γ : Type} {Q : Nat → γ → Prop} (n : Nat) (h : ∀ i, i < n → ∃ x, Q i x) : ∃ l : List γ, l.length = n ∧ ∀ i x, l[i]? = some x → Q i x := by
  induction n with
  | zero => exact ⟨[], rfl, fun i x hx => by simp at hx⟩
  | succ n ih =>
    obtain ⟨l, hl, hq⟩ := ih (fun i hi => h i (by omega))
    obtain ⟨x, hx⟩ := h n (by omega)
    refine ⟨l ++ [x], by simp [hl], fun i y hy => ?_⟩
    rcases Nat.lt_or_ge i l.length with hi | hi
    · rw [List.getElem?_append_left hi] at hy
      exact hq i y hy
    · rw [List.getElem?_append_right hi] at hy
      have : i - l.length = 0 := by
        have := (List.getElem?_eq_some_iff.1 hy).1
        simp at this
        omega
      rw [this] at hy
      injection hy with hy
      obtain rfl : i = n := by omega
      exact hy ▸ hx
theorem Opens.slice {d : Kd α} {ok : α → Prop} (ht : P.underlying t = some (.slice e)) (hc : P.cellsOf e = d.sz) (h : Opens enc P W e d ok) :
    Opens enc P W t (Kd.slice e d) (fun xs => xs.length ≤ maxLen ∧ ∀ x ∈ xs, ok x) := by
  intro fuel cs y hy
  rcases DataW.trod_slice ht hy with ⟨rfl, _⟩ | ⟨a, len, cap, elems, rest, n, _, rfl, _, hb, hl, hm, hlen, hel, _, _⟩
  · exact ⟨[], ⟨none, 0, rfl, Nat.le_refl _, rfl, by simp, fun h => by simp at h⟩, by simp, by simp⟩
  · have each : ∀ i, i < len → ∃ x : α, (∃ c, c.length = d.sz ∧ d.K W x c ∧ ∀ j u, c[j]? = some u → W.cell? (a.add (i * d.sz + j)) = some u) ∧ ok x := by
      intro i hi
      have h1 := hel i hi
      rw [List.getElem?_eq_getElem (by omega)] at h1
      obtain ⟨c, h2, h3⟩ := Option.bind_eq_some_iff.1 h1
      obtain ⟨x, hK, hx⟩ := h _ _ _ h3
      rw [hc] at h2
      refine ⟨x, ⟨c, d.K_len hK, hK, fun j u hu => ?_⟩, hx⟩
      have h4 := cells_get h2 j u hu
      rwa [add_add] at h4
    obtain ⟨l, hll, hq⟩ := each_of len each
    subst hll
    refine ⟨l, ⟨some a, cap, rfl, hl, rfl, ?_, fun _ => ⟨a, rfl, fun j p hp => (hq j p hp).1⟩⟩, by omega, fun x hx => ?_⟩
    · unfold maxLen at hm; omega
    · obtain ⟨i, hi, rfl⟩ := List.getElem_of_mem hx
      exact (hq i _ (List.getElem?_eq_getElem hi)).2
theorem Opens.iso {d : Kd α} {ok : α → Prop} (f : β → α) (g : α → β) (hfg : ∀ a, f (g a) = a) (h : Opens enc P W t d ok) : Opens enc P W t (Kd.iso d f) (fun x => ok (f x)) := by
  intro fuel cs y hy
  obtain ⟨x, hK, hx⟩ := h _ _ _ hy
  exact ⟨g x, by show d.K W (f (g x)) cs; rw [hfg]; exact hK, by show ok (f (g x)); rw [hfg]; exact hx⟩
theorem Opens.imp {d : Kd α} {ok ok' : α → Prop} (h : Opens enc P W t d ok) (hi : ∀ x, ok x → ok' x) : Opens enc P W t d ok' := fun fuel cs y hy => by
  obtain ⟨x, hK, hx⟩ := h _ _ _ hy
  exact ⟨x, hK, hi x hx⟩
/-- The fields from offset o on, in line. -/
def OpensF {α H : Type} (enc : TypeId × Value → H) (P : Program) (W : World) (fs : List Field) (o : Nat) (d : Kd α) (ok : α → Prop) : Prop :=
  ∀ (n : Nat) (cs : List Value) (xs : List (DataW H × List MemPlace)), cs.length = o + d.sz → xs.length = fs.length →
    (∀ (i : Nat) (f : Field), fs[i]? = some f → DataW.trod enc P W 0 (fun _ => true) true n f.type ((cs.drop f.offset).take (P.cellsOf f.type)) = xs[i]?) → ∃ x : α, d.K W x (cs.drop o) ∧ ok x
theorem OpensF.one {d : Kd α} {ok : α → Prop} {f : Field} {o : Nat} (ho : f.offset = o) (hc : P.cellsOf f.type = d.sz) (h : Opens enc P W f.type d ok) : OpensF enc P W [f] o d ok := by
  intro n cs xs hl hx hf
  match xs, hx with
  | [x0], _ =>
    have h0 := hf 0 f rfl
    rw [ho, hc, List.take_of_length_le (by rw [List.length_drop]; omega)] at h0
    exact h n _ x0 (by simpa using h0)
theorem OpensF.cons {d : Kd α} {ok : α → Prop} {d' : Kd β} {ok' : β → Prop} {f : Field} {fs : List Field} {o : Nat} (ho : f.offset = o) (hc : P.cellsOf f.type = d.sz) (h : Opens enc P W f.type d ok)
    (hs : OpensF enc P W fs (o + d.sz) d' ok') : OpensF enc P W (f :: fs) o (Kd.pair d d') (fun x => ok x.1 ∧ ok' x.2) := by
  intro n cs xs hl hx hf
  have hsz : (Kd.pair d d').sz = d.sz + d'.sz := rfl
  match xs, hx with
  | x0 :: xs', hx =>
    have h0 := hf 0 f rfl
    rw [ho, hc] at h0
    obtain ⟨a, ha, oka⟩ := h n _ x0 (by simpa using h0)
    obtain ⟨b, hb, okb⟩ := hs n cs xs' (by omega) (by simpa using hx) (fun i g hg => by simpa using hf (i + 1) g (by simpa using hg))
    refine ⟨(a, b), ⟨(cs.drop o).take d.sz, cs.drop (o + d.sz), ?_, ha, hb⟩, oka, okb⟩
    rw [← List.drop_drop, List.take_append_drop]
theorem Opens.struct {d : Kd α} {ok : α → Prop} {fs : Array Field} (ht : P.underlying t = some (.struct fs)) (hc : P.cellsOf t = d.sz) (h : OpensF enc P W fs.toList 0 d ok) : Opens enc P W t d ok := by
  intro fuel cs y hy
  obtain ⟨xs, n, _, _, hl, hx, hf⟩ := DataW.trod_struct ht hy
  have := h n cs xs (by omega) (by simpa using hx) (fun i f hf' => hf i f (by simpa using hf'))
  simpa using this
end
end Go.Proofs.YthdbjegppeekoaaDoor.Q
