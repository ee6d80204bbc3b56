import Derived.Test.YthdbjegppeekoaaDoorPx0
/- Plain lemmas: events with enough rounds, wraps, lists of texts. No program in sight. -/
namespace Go.Proofs.YthdbjegppeekoaaDoor.Q
open Go.RowKit Go.Proofs.YthdbjegppeekoaaDoorW.PrintWords Go.Proofs.YthdbjegppeekoaaDoorW.PrintLast

theorem pos {α : Type} {c : Prop} [Decidable c] {t e : Nat → Option α} {r : α} (h : c) (x : Ev t r) : Ev (fun k => if c then t k else e k) r := by
  obtain ⟨K, hK⟩ := x
  exact ⟨K, fun k hk => (if_pos h).trans (hK k hk)⟩
theorem neg {α : Type} {c : Prop} [Decidable c] {t e : Nat → Option α} {r : α} (h : ¬ c) (x : Ev e r) : Ev (fun k => if c then t k else e k) r := by
  obtain ⟨K, hK⟩ := x
  exact ⟨K, fun k hk => (if_neg h).trans (hK k hk)⟩
theorem both {α : Type} {c : Prop} [Decidable c] {t e : Nat → Option α} {r : α} (x : c → Ev t r) (y : ¬ c → Ev e r) : Ev (fun k => if c then t k else e k) r := by
  by_cases h : c
  · exact pos h (x h)
  · exact neg h (y h)
theorem ret {α : Type} (r : α) : Ev (fun _ => some r) r := Ev.now r
theorem ret' {α : Type} {r q : α} (h : r = q) : Ev (fun _ => some r) q := h ▸ Ev.now r
theorem val {α : Type} {g : Option α} {r : α} (h : g = some r) : Ev (fun _ => g) r := ⟨0, fun _ _ => h⟩
theorem of_eq {α : Type} {g : Nat → Option α} {r q : α} (h : Ev g r) (e : r = q) : Ev g q := e ▸ h
theorem Ev.unique {α : Type} {g : Nat → Option α} {r q : α} (h : Ev g r) (h' : Ev g q) : r = q := by
  obtain ⟨K, hK⟩ := h
  obtain ⟨K', hK'⟩ := h'
  have a := hK (max K K') (Nat.le_max_left _ _)
  have b := hK' (max K K') (Nat.le_max_right _ _)
  rw [a] at b
  exact Option.some.inj b
theorem exists_of {α : Type} {g : Nat → Option α} {r : α} (h : Ev g r) : ∃ k, g k = some r := by
  obtain ⟨K, hK⟩ := h
  exact ⟨K, hK K (Nat.le_refl _)⟩

theorem wrap_id {x : Int} (h1 : -9223372036854775808 ≤ x) (h2 : x ≤ 9223372036854775807) : wrap64 x = x := by
  unfold wrap64
  omega
theorem wf64 {a : Int} (h : (Lit.int .i64 a).wf = true) : -9223372036854775808 ≤ a ∧ a ≤ 9223372036854775807 := by
  simp only [Lit.wf, Bool.and_eq_true, decide_eq_true_eq] at h
  exact h
theorem rdOf_lt {α : Type} (d : α) (l : List α) (i : Nat) (h : i < l.length) : rdOf d l (i : Int) = l[i] := by
  simp [rdOf, List.getD_eq_getElem?_getD, h]
theorem toList_inj {a b : ByteArray} (h : a.toList = b.toList) : a = b := by
  rw [ByteArray.toList_eq, ByteArray.toList_eq] at h
  cases a with
  | mk x => cases b with
    | mk y =>
      congr
      exact Array.toList_inj.1 h
theorem toList_len (a : ByteArray) : a.toList.length = a.size := by
  rw [ByteArray.toList_eq]
  rfl
end Go.Proofs.YthdbjegppeekoaaDoor.Q
