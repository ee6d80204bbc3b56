import Derived.Test.YthdbjegppeekoaaDoorWMore
import Derived.Lib.SliceRun
import Derived.Deep.RegionLaw
import Derived.Laws.IdiomCopy
/- A row of the call's own, behind 'clear' of what stood behind it. Over any program. -/
namespace Go.Proofs.YthdbjegppeekoaaDoor.X
open Go.RowKit Go.Proofs.YthdbjegppeekoaaDoorW.PrintWords Go.Proofs.YthdbjegppeekoaaDoorW.PrintLast

theorem clear_tail {α : Type} (d : Kd α) {P : Program} {W : World} {base : Nat} {t e : TypeId} {z : Value} (ht : P.underlying t = some (.slice e)) (hv : ∀ w, (zeroValue e).run P w = .ok z w) (hzs : z.cells.size = d.sz) (hpos : 0 < d.sz) (h1 : ∀ u ∈ z.cells.toList, u.oneCell' = true)
    {g n m c c2 : Nat} {xs : List α} {ok : Nat → Prop} (HO : d.R e W base ok (.slice (some ⟨g, 0, none⟩) n c) xs) (hm : 0 < m) (hc : n + m ≤ c) (ty : TypeId) :
    ∃ w1, (Builtin.clear_ #[t] ty #[.slice (some ⟨g, n * d.sz, none⟩) m c2]).run P W = .ok (.tuple #[]) w1 ∧ d.R e w1 base ok (.slice (some ⟨g, 0, none⟩) n c) xs ∧ W.grownBy w1 (some g) := by
  obtain ⟨hn, hnc, _⟩ := Kd.R_reads' HO
  obtain ⟨hok, inner, hown, hr⟩ := HO
  rcases hown.2 with ⟨hv', _⟩ | ⟨g', cap', cur, hv', hb, hh, hle, hcm, hcs, htake⟩
  · cases hv'
  injection hv' with ha _ hc'
  injection ha with ha
  injection ha with hg
  subst hg; subst hc'
  obtain ⟨zs, hzs'⟩ : ∃ zs, zs = (Builtin.zeroCells z.cells m).toList := ⟨_, rfl⟩
  have hzl : zs.length = m * d.sz := by rw [hzs', Array.length_toList]; simp [Builtin.zeroCells, hzs]
  have hz1 : ∀ u ∈ zs, u.oneCell' = true := by
    intro u hu
    rw [hzs'] at hu
    simp only [Builtin.zeroCells, Array.toList_map, List.mem_map] at hu
    obtain ⟨j, _, rfl⟩ := hu
    have hj : j % z.cells.size < z.cells.size := Nat.mod_lt _ (by omega)
    rw [getElem!_pos z.cells _ hj]
    exact h1 _ (by rw [Array.mem_toList_iff]; exact Array.getElem_mem hj)
  have hmul : (n + m) * d.sz ≤ c * d.sz := Nat.mul_le_mul_right _ hc
  have hadd : (n + m) * d.sz = n * d.sz + m * d.sz := Nat.add_mul _ _ _
  have hst := run_storeCells_cells (P := P) g (n * d.sz) zs 0 W (fun j hj => by rw [cell_of_row W g _ cur e (0, 0) hh]; simp; omega) (fun j _ => blk_frozen hh _) hz1
  rw [Nat.add_zero] at hst
  obtain ⟨cur', h3, h4, h5⟩ := setCells_row zs (n * d.sz) W cur hh (by omega)
  obtain ⟨s1, s2, s3, s4⟩ := setCells_same g zs (n * d.sz) W
  have hfar : ∀ k', k' ≠ g → (W.setCells g (n * d.sz) zs).heap[k']? = W.heap[k']? := fun k' hk' => setCells_far zs _ k' hk'
  have hrun : (Builtin.clear_ #[t] ty #[.slice (some ⟨g, n * d.sz, none⟩) m c2]).run P W = .ok (.tuple #[]) (W.setCells g (n * d.sz) zs) := by
    obtain ⟨q, rfl⟩ : ∃ q, m = q + 1 := ⟨m - 1, by omega⟩
    simp [Builtin.clear_, run_underlying ht, hv, ← hzs', hst]
  refine ⟨_, hrun, ⟨hok, inner, ⟨hown.1, .inr ⟨g, c, cur', by rw [← hn], hb, h3, by omega, hcm, by rw [h4, hcs], ?_⟩⟩, ?_⟩, ⟨s1, s2, s3, by rw [s4]; exact Nat.le_refl _, fun k' _ hk' => hfar k' (fun he => hk' (by rw [he]))⟩⟩
  · rw [← hn] at htake ⊢
    rw [h5, List.append_assoc, List.take_append_of_le_length (by rw [List.length_take, Array.length_toList]; omega), List.take_take, Nat.min_self, htake]
  · have hgo : some g = (Value.slice (some ⟨g, 0, none⟩) n c).ownBlock := by simp [Value.ownBlock]
    exact hr.imp_ (fun p q hp => d.M_move (fun k' hk' => hfar k' (fun he => hk'.2 (by rw [he, hgo]))) hp)
theorem bl_self (a : List UInt8) : Op.bytesLess a a = false := by
  induction a with
  | nil => rfl
  | cons x r ih => simp [Op.bytesLess, ih]
theorem bl_same (a : List UInt8) : ∀ (b : List UInt8), Op.bytesLess a b = false → Op.bytesLess b a = false → a = b := by
  induction a with
  | nil =>
    intro b h _
    cases b with
    | nil => rfl
    | cons y b => simp [Op.bytesLess] at h
  | cons x a ih =>
    intro b h h'
    cases b with
    | nil => simp [Op.bytesLess] at h'
    | cons y b =>
      simp only [Op.bytesLess, Bool.or_eq_false_iff, Bool.and_eq_false_iff, decide_eq_false_iff_not, beq_eq_false_iff_ne] at h h'
      obtain rfl : x = y := UInt8.le_antisymm (UInt8.not_lt.1 h'.1) (UInt8.not_lt.1 h.1)
      rw [ih b (by simpa using h.2) (by simpa using h'.2)]
/-- One is less the other way round: they are not the same. -/
theorem bl_ne {a b : ByteArray} (h : Op.bytesLess b.toList a.toList = true) : (a.toList == b.toList) = false := by
  rw [beq_eq_false_iff_ne]
  intro e
  rw [e, bl_self] at h
  cases h
/-- None is less: they are the same. -/
theorem bl_eq {a b : ByteArray} (h : Op.bytesLess a.toList b.toList = false) (h' : Op.bytesLess b.toList a.toList = false) : (a.toList == b.toList) = true := by
  rw [bl_same _ _ h h']
  exact beq_self_eq_true _
end Go.Proofs.YthdbjegppeekoaaDoor.X
