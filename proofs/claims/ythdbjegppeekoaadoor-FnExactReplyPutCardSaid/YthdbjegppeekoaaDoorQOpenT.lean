import Derived.Test.YthdbjegppeekoaaDoorQOpen
import Derived.Test.YthdbjegppeekoaaDoorQTree
/- Plain lemmas: what reads as a tree of replies (the form's reader) is a tree of the print's kind. -/
namespace Go.Proofs.YthdbjegppeekoaaDoor.Q
open Go.RowKit Go.Proofs.YthdbjegppeekoaaDoorW.PrintWords Go.Proofs.YthdbjegppeekoaaDoorW.PrintLast Go.Proofs.YthdbjegppeekoaaDoor.P

/-- As Opens, for readings of at most so much fuel. -/
def OpensB {α H : Type} (B : Nat) (enc : TypeId × Value → H) (P : Program) (W : World) (t : TypeId) (d : Kd α) (ok : α → Prop) : Prop :=
  ∀ (fuel : Nat), fuel ≤ B → ∀ (cs : List Value) (y : DataW H × List MemPlace), DataW.trod enc P W 0 (fun _ => true) true fuel t cs = some y → ∃ x : α, d.K W x cs ∧ ok x
section
variable {α H : Type} {enc : TypeId × Value → H} {P : Program} {W : World} {t e : TypeId}
theorem OpensB.slice {B : Nat} {d : Kd α} {ok : α → Prop} (ht : P.underlying t = some (.slice e)) (hc : P.cellsOf e = d.sz) (h : OpensB B enc P W e d ok) :
    OpensB B enc P W t (Kd.slice e d) (fun xs => xs.length ≤ maxLen ∧ ∀ x ∈ xs, ok x) := by
  intro fuel hB cs y hy
  rcases DataW.trod_slice ht hy with ⟨rfl, _⟩ | ⟨a, len, cap, elems, rest, n, hfuel, rfl, _, hb, hl, hm, hlen, hel, _, _⟩
  · exact ⟨[], ⟨none, 0, rfl, Nat.le_refl _, rfl, by simp, fun h => by simp at h⟩, by simp, by simp⟩
  · have each : ∀ i, i < len → ∃ x : α, (∃ c, c.length = d.sz ∧ d.K W x c ∧ ∀ j u, c[j]? = some u → W.cell? (a.add (i * d.sz + j)) = some u) ∧ ok x := by
      intro i hi
      have h1 := hel i hi
      rw [List.getElem?_eq_getElem (by omega)] at h1
      obtain ⟨c, h2, h3⟩ := Option.bind_eq_some_iff.1 h1
      obtain ⟨x, hK, hx⟩ := h n (by omega) _ _ h3
      rw [hc] at h2
      refine ⟨x, ⟨c, d.K_len hK, hK, fun j u hu => ?_⟩, hx⟩
      have h4 := cells_get h2 j u hu
      rwa [add_add] at h4
    obtain ⟨l, hll, hq⟩ := each_of len each
    subst hll
    refine ⟨l, ⟨some a, cap, rfl, hl, rfl, ?_, fun _ => ⟨a, rfl, fun j p hp => (hq j p hp).1⟩⟩, by omega, fun x hx => ?_⟩
    · unfold maxLen at hm; omega
    · obtain ⟨i, hi, rfl⟩ := List.getElem_of_mem hx
      exact (hq i _ (List.getElem?_eq_getElem hi)).2
end
theorem opensB_tree {H : Type} (enc : TypeId × Value → H) (W : World) (B : Nat) : OpensB B enc Tryd.prog W 25 k25 OkT := by
  induction B with
  | zero =>
    intro fuel hB cs y hy
    obtain rfl : fuel = 0 := by omega
    exact absurd hy (by simp [DataW.trod])
  | succ B ih =>
    intro fuel hB cs y hy
    obtain ⟨xs, n, hfuel, _, hl, hx, hf⟩ := DataW.trod_struct Tryd.underlying25 hy
    have hl' : cs.length = 5 := hl.trans (by kernel_rfl)
    have hx' : xs.length = 5 := hx
    match cs, hl', xs, hx' with
    | [c0, c1, c2, c3, c4], _, [x0, x1, x2, x3, x4], _ =>
      have h0 := hf 0 _ rfl
      have h1 := hf 1 _ rfl
      have h2 := hf 2 _ rfl
      have h3 := hf 3 _ rfl
      have h4 := hf 4 _ rfl
      simp only [List.getElem?_cons_zero, List.getElem?_cons_succ] at h0 h1 h2 h3 h4
      obtain ⟨a, ha, ka⟩ := (Opens.int Tryd.underlying3 : Opens enc Tryd.prog W 3 _ _) n _ _ h0
      obtain ⟨b, hb, kb⟩ := (Opens.int Tryd.underlying3 : Opens enc Tryd.prog W 3 _ _) n _ _ h1
      obtain ⟨t, ht, kt⟩ := (Opens.string Tryd.underlying9 : Opens enc Tryd.prog W 9 _ _) n _ _ h2
      obtain ⟨l, ⟨A3, q3, g3, l3, r3⟩, kl⟩ := (Opens.slice Tryd.underlying22 (by kernel_rfl) (Opens.string Tryd.underlying9) : Opens enc Tryd.prog W 22 _ _) n _ _ h3
      obtain ⟨m, ⟨A4, q4, g4, l4, r4⟩, km⟩ := (OpensB.slice Tryd.underlying23 (by kernel_rfl) ih : OpensB B enc Tryd.prog W 23 _ _) n (by omega) _ _ h4
      have ea : c0 = .int .i64 a := by injection ha
      have eb : c1 = .int .i64 b := by injection hb
      have et : c2 = .string t := by injection ht
      have e3' : c3 = .slice A3 l.length q3 := by injection g3
      have e4' : c4 = .slice A4 m.length q4 := by injection g4
      subst ea eb et e3' e4'
      refine ⟨⟨a, b, t, l, m⟩, k25_mk W ⟨a, b, t, l, m⟩ l3 r3 l4 r4, ?_⟩
      rw [OkT]
      exact ⟨ka, kb, kt, kl, km.1, (okTs_iff m).2 km.2⟩
theorem opens_tree {H : Type} (enc : TypeId × Value → H) (W : World) : Opens enc Tryd.prog W 25 k25 OkT := fun fuel cs y h => opensB_tree enc W fuel fuel (Nat.le_refl _) cs y h
end Go.Proofs.YthdbjegppeekoaaDoor.Q
