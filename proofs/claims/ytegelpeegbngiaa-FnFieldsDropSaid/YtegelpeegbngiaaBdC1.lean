import Derived.Test.YtegelpeegbngiaaWMore
import Derived.Lib.SliceRun
import Derived.Deep.RegionLaw
import Derived.Laws.IdiomCopy
import Derived.Test.YtegelpeegbngiaaWKept
import Derived.Sort.Row
import Derived.Sort.Grow
import Derived.Lib.OwnBridge
import Derived.Shelf.SlSortCmp.WholeK
import Derived.Shelf.Sort.Plain
import Derived.Shelf.Slices.CompactS
import Derived.Shelf.Slices.Cells
import Derived.Shelf.Slices.In.SortNone
import Derived.Test.YtegelpeegbngiaaProg
import Derived.Below
import Derived.Deep.Draws
import Derived.Deep.AppendLies
import Derived.Maps.AppendAt
import Derived.OwnWalk
import Derived.Laws.BytesArg
import Derived.Laws.MakeOwn
import Derived.Laws.OwnMore
import Derived.Deep.OwnRows
import Derived.Tactics
import Derived.Lib.ConvBytes
import Derived.Laws.Slices
import Derived.WalkKit
import Derived.KernelRfl
import Derived.RowKit3
import Derived.Deep.LoopGhost
import Derived.Deep.QuietTactic
import Derived.BigQuiet
import Derived.WideLaws
import Derived.Deep.DeepCutAuto
import Derived.Deep.CutBlock
import Derived.Deep.RegionHeld3
import Derived.Laws.Rows
import Derived.Lib.AppendStr
import Derived.ArgAppend
import Derived.OrdersHeld
import Derived.Laws.BitsLemmas
import Derived.RowKit
import Derived.WalkLawsBesides
import Derived.Test.YtegelpeegbngiaaWWords
import Derived.Test.YtegelpeegbngiaaWLast
import Derived.Test.YtegelpeegbngiaaWTab
import Derived.Test.YtegelpeegbngiaaWFour
import Derived.Test.YtegelpeegbngiaaWQPut
import Derived.Test.YtegelpeegbngiaaWApart
import Derived.Test.YtegelpeegbngiaaWArr
import Derived.Test.YtegelpeegbngiaaWZeros
import Derived.Test.YtegelpeegbngiaaWFoot
import Derived.Test.YtegelpeegbngiaaWShare
import Derived.Test.YtegelpeegbngiaaWN
import Derived.Test.YtegelpeegbngiaaWFootNe
import Derived.Test.YtegelpeegbngiaaWAt
import Derived.Test.YtegelpeegbngiaaWEqStruct
import Derived.Test.YtegelpeegbngiaaWRepsOne
import Derived.Test.YtegelpeegbngiaaWInv
import Derived.Test.YtegelpeegbngiaaWInvWords
import Derived.Test.YtegelpeegbngiaaWGuard
import Derived.Test.YtegelpeegbngiaaWNEv
/- Texts of this claim, one behind the other: printed functions and their walks, plain lemmas. -/
/- A row of the call's own, behind 'clear' of what stood behind it. Over any program. -/
namespace Go.Proofs.Ytegelpeegbngiaa.X
open Go.RowKit Go.Proofs.YtegelpeegbngiaaW.PrintWords Go.Proofs.YtegelpeegbngiaaW.PrintLast

theorem clear_tail {α : Type} (d : Kd α) {P : Program} {W : World} {base : Nat} {t e : TypeId} {z : Value} (ht : P.underlying t = some (.slice e)) (hv : ∀ w, (zeroValue e).run P w = .ok z w) (hzs : z.cells.size = d.sz) (hpos : 0 < d.sz) (h1 : ∀ u ∈ z.cells.toList, u.oneCell' = true)
    {g n m c c2 : Nat} {xs : List α} {ok : Nat → Prop} (HO : d.R e W base ok (.slice (some ⟨g, 0, none⟩) n c) xs) (hm : 0 < m) (hc : n + m ≤ c) (ty : TypeId) :
    ∃ w1, (Builtin.clear_ #[t] ty #[.slice (some ⟨g, n * d.sz, none⟩) m c2]).run P W = .ok (.tuple #[]) w1 ∧ d.R e w1 base ok (.slice (some ⟨g, 0, none⟩) n c) xs ∧ W.grownBy w1 (some g) := by
  obtain ⟨hn, hnc, _⟩ := Kd.R_reads' HO
  obtain ⟨hok, inner, hown, hr⟩ := HO
  rcases hown.2 with ⟨hv', _⟩ | ⟨g', cap', cur, hv', hb, hh, hle, hcm, hcs, htake⟩
  · cases hv'
  injection hv' with ha _ hc'
  injection ha with ha
  injection ha with hg
  subst hg; subst hc'
  obtain ⟨zs, hzs'⟩ : ∃ zs, zs = (Builtin.zeroCells z.cells m).toList := ⟨_, rfl⟩
  have hzl : zs.length = m * d.sz := by rw [hzs', Array.length_toList]; simp [Builtin.zeroCells, hzs]
  have hz1 : ∀ u ∈ zs, u.oneCell' = true := by
    intro u hu
    rw [hzs'] at hu
    simp only [Builtin.zeroCells, Array.toList_map, List.mem_map] at hu
    obtain ⟨j, _, rfl⟩ := hu
    have hj : j % z.cells.size < z.cells.size := Nat.mod_lt _ (by omega)
    rw [getElem!_pos z.cells _ hj]
    exact h1 _ (by rw [Array.mem_toList_iff]; exact Array.getElem_mem hj)
  have hmul : (n + m) * d.sz ≤ c * d.sz := Nat.mul_le_mul_right _ hc
  have hadd : (n + m) * d.sz = n * d.sz + m * d.sz := Nat.add_mul _ _ _
  have hst := run_storeCells_cells (P := P) g (n * d.sz) zs 0 W (fun j hj => by rw [cell_of_row W g _ cur e (0, 0) hh]; simp; omega) (fun j _ => blk_frozen hh _) hz1
  rw [Nat.add_zero] at hst
  obtain ⟨cur', h3, h4, h5⟩ := setCells_row zs (n * d.sz) W cur hh (by omega)
  obtain ⟨s1, s2, s3, s4⟩ := setCells_same g zs (n * d.sz) W
  have hfar : ∀ k', k' ≠ g → (W.setCells g (n * d.sz) zs).heap[k']? = W.heap[k']? := fun k' hk' => setCells_far zs _ k' hk'
  have hrun : (Builtin.clear_ #[t] ty #[.slice (some ⟨g, n * d.sz, none⟩) m c2]).run P W = .ok (.tuple #[]) (W.setCells g (n * d.sz) zs) := by
    obtain ⟨q, rfl⟩ : ∃ q, m = q + 1 := ⟨m - 1, by omega⟩
    simp [Builtin.clear_, run_underlying ht, hv, ← hzs', hst]
  refine ⟨_, hrun, ⟨hok, inner, ⟨hown.1, .inr ⟨g, c, cur', by rw [← hn], hb, h3, by omega, hcm, by rw [h4, hcs], ?_⟩⟩, ?_⟩, ⟨s1, s2, s3, by rw [s4]; exact Nat.le_refl _, fun k' _ hk' => hfar k' (fun he => hk' (by rw [he]))⟩⟩
  · rw [← hn] at htake ⊢
    rw [h5, List.append_assoc, List.take_append_of_le_length (by rw [List.length_take, Array.length_toList]; omega), List.take_take, Nat.min_self, htake]
  · have hgo : some g = (Value.slice (some ⟨g, 0, none⟩) n c).ownBlock := by simp [Value.ownBlock]
    exact hr.imp_ (fun p q hp => d.M_move (fun k' hk' => hfar k' (fun he => hk'.2 (by rw [he, hgo]))) hp)
theorem bl_self (a : List UInt8) : Op.bytesLess a a = false := by
  induction a with
  | nil => rfl
  | cons x r ih => simp [Op.bytesLess, ih]
theorem bl_same (a : List UInt8) : ∀ (b : List UInt8), Op.bytesLess a b = false → Op.bytesLess b a = false → a = b := by
  induction a with
  | nil =>
    intro b h _
    cases b with
    | nil => rfl
    | cons y b => simp [Op.bytesLess] at h
  | cons x a ih =>
    intro b h h'
    cases b with
    | nil => simp [Op.bytesLess] at h'
    | cons y b =>
      simp only [Op.bytesLess, Bool.or_eq_false_iff, Bool.and_eq_false_iff, decide_eq_false_iff_not, beq_eq_false_iff_ne] at h h'
      obtain rfl : x = y := UInt8.le_antisymm (UInt8.not_lt.1 h'.1) (UInt8.not_lt.1 h.1)
      rw [ih b (by simpa using h.2) (by simpa using h'.2)]
/-- One is less the other way round: they are not the same. -/
theorem bl_ne {a b : ByteArray} (h : Op.bytesLess b.toList a.toList = true) : (a.toList == b.toList) = false := by
  rw [beq_eq_false_iff_ne]
  intro e
  rw [e, bl_self] at h
  cases h
/-- None is less: they are the same. -/
theorem bl_eq {a b : ByteArray} (h : Op.bytesLess a.toList b.toList = false) (h' : Op.bytesLess b.toList a.toList = false) : (a.toList == b.toList) = true := by
  rw [bl_same _ _ h h']
  exact beq_self_eq_true _
end Go.Proofs.Ytegelpeegbngiaa.X
/- Worlds behind the library's sort: more memory, one row written. Over any program. -/
namespace Go.Proofs.Ytegelpeegbngiaa.X
open Go.RowKit Go.Proofs.YtegelpeegbngiaaW.PrintWords Go.Proofs.YtegelpeegbngiaaW.PrintLast

theorem grow_below (W : World) (os : Array Obj) : Below W.heap.size W (Go.Sort.grow W os) :=
  ⟨rfl, rfl, rfl, by simp [Go.Sort.grow], fun k hk => by simp [Go.Sort.grow, Array.getElem?_append_left hk]⟩
theorem kept_put0 {α : Type} [Inhabited α] {enc : α → Value} {w : World} {n g : Nat} {d : Array α} (P : Nat → Prop) (hP : P g) : Kept w (Go.Sort.putRow enc (Go.Sort.ahead w n) g 0 d) (fun k => P k) :=
  ⟨by simp [Go.Sort.putRow, Go.Sort.mapBlock, Go.Sort.ahead], fun i _ hn => by
    have : g ≠ i := fun e => hn (e ▸ hP)
    simp [Go.Sort.putRow, Go.Sort.mapBlock, Go.Sort.ahead, Array.getElem?_modify, this]⟩
theorem kept_put {α : Type} [Inhabited α] {enc : α → Value} {w : World} {n g : Nat} {d : Array α} {os : Array Obj} (P : Nat → Prop) (hP : P g) : Kept w (Go.Sort.grow (Go.Sort.putRow enc (Go.Sort.ahead w n) g 0 d) os) (fun k => P k) :=
  (kept_put0 (enc := enc) (d := d) P hP).below (grow_below _ os)
end Go.Proofs.Ytegelpeegbngiaa.X
/- Rows of structs and the library's sort: their cells, in line, as the sort's words on cells have them. Over any program. -/
namespace Go.Proofs.Ytegelpeegbngiaa.X
open Go.RowKit Go.Sort Go.Proofs.YtegelpeegbngiaaW.PrintWords Go.Proofs.YtegelpeegbngiaaW.PrintLast

theorem holds_flat {w : World} {base : Nat} {e : TypeId} {sz : Nat} {v : Value} {n : Nat} {inner : List Value} (h : w.ownsRow base e sz v n inner) (hv : v ≠ .slice none 0 0) :
    ∃ g cap, v = .slice (some ⟨g, 0, none⟩) n cap ∧ base ≤ g ∧ g < w.heap.size ∧ n ≤ cap ∧ cap ≤ maxLen ∧ inner.length = n * sz ∧ Holds id w g 0 inner.toArray := by
  have hl : inner.length = n * sz := h.1
  rcases h.2 with ⟨e0, _⟩ | ⟨g, cap, cur, rfl, hb, hg, hn, hm, hs, ht⟩
  · exact absurd e0 hv
  · have hlt : g < w.heap.size := by
      rcases Nat.lt_or_ge g w.heap.size with h' | h'
      · exact h'
      · rw [Array.getElem?_eq_none h'] at hg; cases hg
    refine ⟨g, cap, rfl, hb, hlt, hn, hm, hl, fun j hj => ?_⟩
    have hj' : j < inner.length := by simpa using hj
    refine ⟨?_, by simp [World.frozen?, hg]⟩
    have e1 : (cur.toList.take (n * sz))[j]? = inner[j]? := by rw [ht]
    rw [List.getElem?_take, if_pos (by omega), Array.getElem?_toList, List.getElem?_eq_getElem hj'] at e1
    simp only [World.cell?, hg, Nat.zero_add]
    simp only [Option.isSome_none, Bool.false_eq_true, if_false]
    rw [e1]
    simp [getElem!_pos, hj']
theorem owns_flat {w : World} {base : Nat} {e : TypeId} {g n cap q sz : Nat} {inner ys : List Value} (h : w.ownsRow base e sz (.slice (some ⟨g, 0, none⟩) n cap) n inner) (hy : ys.length = n * sz) :
    (putRow id (Sort.ahead w q) g 0 ys.toArray).ownsRow base e sz (.slice (some ⟨g, 0, none⟩) n cap) n ys := by
  rcases h.2 with ⟨e0, _⟩ | ⟨g', cap', cur, e0, hb, hg, hn, hm, hs, ht⟩
  · cases e0
  · injection e0 with e1 _ e3
    injection e1 with e1
    injection e1 with e1
    subst e1; subst e3
    have hle : n * sz ≤ cap * sz := Nat.mul_le_mul_right _ hn
    refine ⟨hy, .inr ⟨g, cap, putCells id 0 ys.toArray cur, rfl, hb, ?_, hn, hm, by simpa [putCells] using hs, ?_⟩⟩
    · simp [putRow, mapBlock, Sort.ahead, Array.getElem?_modify, hg, onCells]
    · apply List.ext_getElem?
      intro j
      rw [List.getElem?_take, Array.getElem?_toList]
      by_cases hj : j < n * sz
      · have hjc : j < cur.size := by omega
        simp only [if_pos hj, putCells, Array.getElem?_mapIdx, Array.getElem?_eq_getElem hjc, Option.map_some]
        rw [if_pos (by simp; omega), List.getElem?_eq_getElem (by omega)]
        simp [getElem!_pos, show j < ys.length by omega]
      · rw [if_neg hj, List.getElem?_eq_none (by omega)]
end Go.Proofs.Ytegelpeegbngiaa.X
/- Rows of structs and the library's sort by a comparator: the row of one's own behind the sort. Over any program. -/
namespace Go.Proofs.Ytegelpeegbngiaa.X
open Go.RowKit Go.Sort Go.Proofs.YtegelpeegbngiaaW.PrintWords Go.Proofs.YtegelpeegbngiaaW.PrintLast

section
variable {α : Type} [Inhabited α] {enc : α → List Value} {k : Nat} {R : α → List Value → Prop}
theorem flat_of_reps (hk : ∀ x, (enc x).length = k) (hpos : 0 < k) (hM : ∀ x cs, R x cs → cs = enc x) {xs : List α} {inner : List Value} (h : Reps R k xs inner) : inner.toArray = flatK enc k xs.toArray := by
  refine ext_get! (by simp [h.1]) fun t ht => ?_
  have ht' : t < xs.length * k := by simpa [h.1] using ht
  rw [get_flatK _ _ _ t (by simpa using ht')]
  have hj : t / k < xs.length := Nat.div_lt_of_lt_mul (by rw [Nat.mul_comm]; exact ht')
  have h2 := hM _ _ (h.2 (t / k) _ (List.getElem?_eq_getElem hj))
  have hm : t % k < k := Nat.mod_lt _ hpos
  have e1 : inner[t]? = (enc xs[t / k])[t % k]? := by
    rw [← h2, List.getElem?_take, if_pos hm, List.getElem?_drop, Nat.div_add_mod']
  have e2 : xs.toArray[t / k]! = xs[t / k] := by simp [hj]
  have hlt : t % k < (enc xs[t / k]).length := by rw [hk]; exact hm
  have hlt' : t < inner.length := by rw [h.1]; exact ht'
  rw [e2]
  rw [List.getElem?_eq_getElem hlt', List.getElem?_eq_getElem hlt] at e1
  injection e1 with e1
  simp [hlt', e1, hlt]
theorem reps_of_flat (hk : ∀ x, (enc x).length = k) (hR : ∀ x, R x (enc x)) (xs : List α) : Reps R k xs (flatK enc k xs.toArray).toList := by
  refine ⟨by simp, fun j p hp => ?_⟩
  obtain ⟨hj, hp⟩ := List.getElem?_eq_some_iff.1 hp
  have e : (((flatK enc k xs.toArray).toList.drop (j * k)).take k) = enc p := by
    apply List.ext_getElem?
    intro t
    rw [List.getElem?_take]
    split
    · rename_i ht
      have hle : j * k + k ≤ xs.length * k := by rw [← Nat.succ_mul]; exact Nat.mul_le_mul_right _ hj
      have hs : j * k + t < (flatK enc k xs.toArray).size := by simp; omega
      have hg := get_flatK enc k xs.toArray (j * k + t) (by simp; omega)
      rw [getElem!_pos (flatK enc k xs.toArray) (j * k + t) hs] at hg
      have hd : (j * k + t) / k = j := by rw [Nat.mul_comm, Nat.mul_add_div (by omega), Nat.div_eq_of_lt ht, Nat.add_zero]
      have hmo : (j * k + t) % k = t := by rw [Nat.mul_comm, Nat.mul_add_mod, Nat.mod_eq_of_lt ht]
      have e2 : xs.toArray[j]! = p := by simp [hj, hp]
      have hlt : t < (enc p).length := by rw [hk]; exact ht
      rw [hd, hmo, e2, getElem!_pos (enc p) t hlt] at hg
      rw [List.getElem?_drop, Array.getElem?_toList, Array.getElem?_eq_getElem hs, hg, List.getElem?_eq_getElem hlt]
    · rw [List.getElem?_eq_none (by rw [hk]; omega)]
  rw [e]
  exact hR p
end
theorem sort_row {α : Type} [Inhabited α] {d : Kd α} {enc : α → List Value} (hk : ∀ x, (enc x).length = d.sz) (hpos : 0 < d.sz) (hM : ∀ w base ok x cs, d.M w base ok x cs ↔ cs = enc x)
    {w : World} {base : Nat} {e : TypeId} {ok : Nat → Prop} {v : Value} {xs : List α} (HO : Kd.R d e w base ok v xs) (hv : v ≠ .slice none 0 0) :
    ∃ g cap, v = .slice (some ⟨g, 0, none⟩) xs.length cap ∧ base ≤ g ∧ g < w.heap.size ∧ ok g ∧ HoldsK enc d.sz w g 0 xs.toArray ∧
      ∀ (q : Nat) (ys : List α), ys.length = xs.length → Kd.R d e (putRowK enc d.sz (Sort.ahead w q) g 0 ys.toArray) base ok v ys := by
  obtain ⟨hok, inner, hown, hr⟩ := HO
  obtain ⟨g, cap, rfl, hb, hlt, hn, hm, hl, hH⟩ := holds_flat hown hv
  have hfl := flat_of_reps hk hpos (fun x cs h => (hM _ _ _ x cs).1 h) hr
  refine ⟨g, cap, rfl, hb, hlt, hok g (by simp [Value.ownBlock]), by unfold HoldsK; rw [← hfl]; exact hH, fun q ys hy => ⟨hok, (flatK enc d.sz ys.toArray).toList, ?_, reps_of_flat hk (fun x => (hM _ _ _ x _).2 rfl) ys⟩⟩
  have := owns_flat (q := q) (ys := (flatK enc d.sz ys.toArray).toList) hown (by simp [hy])
  rw [hy]
  simpa [putRowK] using this
theorem sorted_eq {α : Type} [Inhabited α] {lt : α → α → Bool} (hO : SWO lt) {l : List α} {d' : Array α} (hp : PermIn 0 l.toArray.size l.toArray d') (hs : SortedIn lt 0 l.toArray.size d') (hT : ∀ x ∈ l, ∀ y ∈ l, lt x y = false → lt y x = false → x = y) :
    d'.toList = l.mergeSort fun x y => !lt y x := by
  obtain ⟨h1, _, h3⟩ := hp
  have hpm : d'.toList.Perm l := by
    have e1 : d'.extract 0 l.toArray.size = d' := by rw [← h1]; simp
    have e2 : l.toArray.extract 0 l.toArray.size = l.toArray := by simp
    rw [e1, e2] at h3
    simpa using h3
  have hpw : d'.toList.Pairwise fun x y => (!lt y x) = true := by
    rw [List.pairwise_iff_getElem]
    intro i j hi hj hij
    have hj' : j < d'.size := by simpa using hj
    have := hs i j (Nat.zero_le _) hij (by rw [← h1]; exact hj')
    rw [getElem!_pos d' j hj', getElem!_pos d' i (by omega)] at this
    simp [this]
  have htr : ∀ a b c : α, (!lt b a) = true → (!lt c b) = true → (!lt c a) = true := fun a b c h h' => by
    simp only [Bool.not_eq_true'] at h h' ⊢
    exact hO.ntrans c b a h' h
  have hto : ∀ a b : α, ((!lt b a) || (!lt a b)) = true := fun a b => by
    cases h : lt b a with
    | false => rfl
    | true =>
      cases h' : lt a b with
      | false => rfl
      | true => have := hO.trans _ _ _ h h'; rw [hO.irrefl] at this; cases this
  refine List.Perm.eq_of_pairwise (le := fun x y => (!lt y x) = true) (fun a b ha hb h h' => ?_) hpw (List.pairwise_mergeSort htr hto l) (hpm.trans (List.mergeSort_perm l _).symm)
  simp only [Bool.not_eq_true'] at h h'
  exact hT a (hpm.mem_iff.1 ha) b ((List.mergeSort_perm l _).mem_iff.1 hb) h' h
/-! ### The bytewise order -/
theorem bl_trans (a : List UInt8) : ∀ (b c : List UInt8), Op.bytesLess a b = true → Op.bytesLess b c = true → Op.bytesLess a c = true := by
  induction a with
  | nil =>
    intro b c h1 h2
    cases c with
    | nil => cases b <;> simp [Op.bytesLess] at h2
    | cons z c => rfl
  | cons x a ih =>
    intro b c h1 h2
    cases b with
    | nil => simp [Op.bytesLess] at h1
    | cons y b =>
      cases c with
      | nil => simp [Op.bytesLess] at h2
      | cons z c =>
        simp only [Op.bytesLess, Bool.or_eq_true, Bool.and_eq_true, decide_eq_true_eq, beq_iff_eq] at h1 h2 ⊢
        rcases h1 with h1 | ⟨rfl, h1⟩
        · rcases h2 with h2 | ⟨rfl, h2⟩
          · exact .inl (UInt8.lt_trans h1 h2)
          · exact .inl h1
        · rcases h2 with h2 | ⟨rfl, h2⟩
          · exact .inl h2
          · exact .inr ⟨rfl, ih b c h1 h2⟩
theorem bl_asymm {a b : List UInt8} (h : Op.bytesLess a b = true) : Op.bytesLess b a = false := by
  cases h' : Op.bytesLess b a with
  | false => rfl
  | true => have := bl_trans _ _ _ h h'; rw [bl_self] at this; cases this
theorem bl_ntrans (a b c : List UInt8) (h : Op.bytesLess a b = false) (h' : Op.bytesLess b c = false) : Op.bytesLess a c = false := by
  cases q : Op.bytesLess a c with
  | false => rfl
  | true =>
    cases r : Op.bytesLess b a with
    | true => have := bl_trans _ _ _ r q; rw [h'] at this; cases this
    | false => rw [bl_same _ _ h r, h'] at q; cases q
theorem swo_bl {α : Type} (f : α → ByteArray) : SWO (fun x y => Op.bytesLess (f x).toList (f y).toList) :=
  ⟨fun _ => bl_self _, fun _ _ _ h h' => bl_trans _ _ _ h h', fun _ _ _ h h' => bl_ntrans _ _ _ h h'⟩
theorem swo_num {α : Type} (n : α → Int) (f : α → ByteArray) : SWO (fun x y => decide (n x < n y) || (decide (n x = n y) && Op.bytesLess (f x).toList (f y).toList)) := by
  refine ⟨fun x => by simp [bl_self], fun x y z h h' => ?_, fun x y z h h' => ?_⟩
  · simp only [Bool.or_eq_true, Bool.and_eq_true, decide_eq_true_eq] at h h' ⊢
    rcases h with h | ⟨h, g⟩ <;> rcases h' with h' | ⟨h', g'⟩
    · left; omega
    · left; omega
    · left; omega
    · right; exact ⟨by omega, bl_trans _ _ _ g g'⟩
  · simp only [Bool.or_eq_false_iff, decide_eq_false_iff_not] at h h' ⊢
    refine ⟨by omega, ?_⟩
    by_cases e : n x = n z
    · have e1 : n x = n y := by omega
      have e2 : n y = n z := by omega
      have a := h.2
      have b := h'.2
      rw [decide_eq_true e1, Bool.true_and] at a
      rw [decide_eq_true e2, Bool.true_and] at b
      rw [bl_ntrans _ _ _ a b, Bool.and_false]
    · rw [decide_eq_false e, Bool.false_and]
theorem bytes_inj {a b : ByteArray} (h : a.toList = b.toList) : a = b := by
  rw [ByteArray.toList_eq, ByteArray.toList_eq] at h
  cases a with
  | mk x => cases b with
    | mk y =>
      congr
      exact Array.toList_inj.1 h
end Go.Proofs.Ytegelpeegbngiaa.X
/- Contracts of the library's functions, off the kit's shelf, laid at this program by the kit's own two commands: no walk. -/
namespace Go.Proofs
open Go.Shelf
def Try.lays190_ren : Go.Shelf.Ren := ⟨fun | 190 => 71 | 125 => 77 | 258 => 85 | 128 => 94 | 129 => 95 | 302 => 97 | 303 => 98 | 304 => 99 | 305 => 100 | 306 => 101 | 307 => 102 | 308 => 103 | 309 => 104 | 310 => 105 | 333 => 111 | 329 => 107 | 330 => 108 | 334 => 112 | 335 => 113 | 336 => 78 | 344 => 115 | n => n, fun | 31 => 22 | 9 => 9 | 3 => 3 | 46 => 83 | 0 => 0 | 51 => 98 | 53 => 100 | 4 => 4 | 183 => 92 | 182 => 91 | 131 => 60 | 5 => 5 | 218 => 108 | 222 => 112 | 228 => 116 | 229 => 117 | n => n, fun | n => n⟩
theorem Try.lays190 : Go.Proofs.Lays.n190 Try.prog Try.lays190_ren := {
  mixed := by kernel_rfl
  f125 := Try.func77.trans (congrArg some (by kernel_rfl))
  f128 := Try.func94.trans (congrArg some (by kernel_rfl))
  f129 := Try.func95.trans (congrArg some (by kernel_rfl))
  f190 := Try.func71.trans (congrArg some (by kernel_rfl))
  f258 := Try.func85.trans (congrArg some (by kernel_rfl))
  f302 := Try.func97.trans (congrArg some (by kernel_rfl))
  f303 := Try.func98.trans (congrArg some (by kernel_rfl))
  f304 := Try.func99.trans (congrArg some (by kernel_rfl))
  f305 := Try.func100.trans (congrArg some (by kernel_rfl))
  f306 := Try.func101.trans (congrArg some (by kernel_rfl))
  f307 := Try.func102.trans (congrArg some (by kernel_rfl))
  f308 := Try.func103.trans (congrArg some (by kernel_rfl))
  f309 := Try.func104.trans (congrArg some (by kernel_rfl))
  f310 := Try.func105.trans (congrArg some (by kernel_rfl))
  f329 := Try.func107.trans (congrArg some (by kernel_rfl))
  f330 := Try.func108.trans (congrArg some (by kernel_rfl))
  f333 := Try.func111.trans (congrArg some (by kernel_rfl))
  f334 := Try.func112.trans (congrArg some (by kernel_rfl))
  f335 := Try.func113.trans (congrArg some (by kernel_rfl))
  f336 := Try.func78.trans (congrArg some (by kernel_rfl))
  f344 := Try.func115.trans (congrArg some (by kernel_rfl))
  t0 := Try.underlying0
  a0 := Try.isAgg0
  z0 := Try.sizeOf0
  v0 := Try.zeroValue0
  t3 := Try.underlying3
  a3 := Try.isAgg3
  z3 := Try.sizeOf3
  v3 := Try.zeroValue3
  t4 := Try.underlying4
  a4 := Try.isAgg4
  z4 := Try.sizeOf4
  v4 := Try.zeroValue4
  t5 := Try.underlying5
  a5 := Try.isAgg5
  z5 := Try.sizeOf5
  v5 := Try.zeroValue5
  t9 := Try.underlying9
  a9 := Try.isAgg9
  z9 := Try.sizeOf9
  v9 := Try.zeroValue9
  t31 := Try.underlying22
  a31 := Try.isAgg22
  z31 := Try.sizeOf22
  v31 := Try.zeroValue22
  t46 := Try.underlying83
  a46 := Try.isAgg83
  z46 := Try.sizeOf83
  v46 := Try.zeroValue83
  t51 := Try.underlying98
  a51 := Try.isAgg98
  z51 := Try.sizeOf98
  v51 := Try.zeroValue98
  t53 := Try.underlying100
  a53 := Try.isAgg100
  z53 := Try.sizeOf100
  v53 := Try.zeroValue100
  t131 := Try.underlying60
  a131 := Try.isAgg60
  z131 := Try.sizeOf60
  v131 := Try.zeroValue60
  t182 := Try.underlying91
  a182 := Try.isAgg91
  z182 := Try.sizeOf91
  v182 := Try.zeroValue91
  t183 := Try.underlying92
  a183 := Try.isAgg92
  z183 := Try.sizeOf92
  v183 := Try.zeroValue92
  t218 := Try.underlying108
  a218 := Try.isAgg108
  z218 := Try.sizeOf108
  v218 := Try.zeroValue108
  t222 := Try.underlying112
  a222 := Try.isAgg112
  z222 := Try.sizeOf112
  v222 := Try.zeroValue112
  t228 := Try.underlying116
  a228 := Try.isAgg116
  z228 := Try.sizeOf116
  v228 := Try.zeroValue116
  t229 := Try.underlying117
  a229 := Try.isAgg117
  z229 := Try.sizeOf117
  v229 := Try.zeroValue117 }
open Go.Sort Go.RowKit in
theorem Try.slices_Sort_string (blk off cap : Nat) (ss : List (List UInt8)) (w : World) (hH : Holds encStr w blk off ss.toArray) (hblk : blk < w.heap.size) (hsz : ss.length < 4611686018427387904) :
    Calls Try.prog 71 #[.slice (some ⟨blk, off, none⟩) ss.length cap] w fun e w' =>
      e = .returned (.tuple #[]) ∧ ∃ n os, w' = grow (putRow encStr (Sort.ahead w n) blk off (ss.mergeSort fun x y => decide (x ≤ y)).toArray) os := Any.slices_Sort_string Try.lays190 blk off cap ss w hH hblk hsz
def Try.lays194_ren : Go.Shelf.Ren := ⟨fun | 194 => 72 | n => n, fun | 31 => 22 | 9 => 9 | 3 => 3 | 4 => 4 | 0 => 0 | n => n, fun | n => n⟩
theorem Try.lays194 : Go.Proofs.Lays.n194 Try.prog Try.lays194_ren := {
  mixed := by kernel_rfl
  f194 := Try.func72.trans (congrArg some (by kernel_rfl))
  t0 := Try.underlying0
  a0 := Try.isAgg0
  z0 := Try.sizeOf0
  v0 := Try.zeroValue0
  t3 := Try.underlying3
  a3 := Try.isAgg3
  z3 := Try.sizeOf3
  v3 := Try.zeroValue3
  t4 := Try.underlying4
  a4 := Try.isAgg4
  z4 := Try.sizeOf4
  v4 := Try.zeroValue4
  t9 := Try.underlying9
  a9 := Try.isAgg9
  z9 := Try.sizeOf9
  v9 := Try.zeroValue9
  t31 := Try.underlying22
  a31 := Try.isAgg22
  z31 := Try.sizeOf22
  v31 := Try.zeroValue22 }
open Go.RowKit Go.Lib Go.Sort in
theorem Try.slices_Compact_string_arr (blk off cap : Nat) (d : Array (List UInt8)) (w : World) (hH : Holds encStr w blk off d) (hsz : d.size ≤ 9223372036854775807) (hcap : d.size ≤ cap) :
    Calls Try.prog 72 #[.slice (some ⟨blk, off, none⟩) d.size cap] w fun e w' => e = .returned (.slice (some ⟨blk, off, none⟩) (compactUpTo d d.size).length cap) ∧ ∃ q, w' = putRow encStr (Sort.ahead w q) blk off (compactUpTo d d.size ++ List.replicate (d.size - (compactUpTo d d.size).length) []).toArray := Any.slices_Compact_string_arr Try.lays194 blk off cap d w hH hsz hcap
open Go.RowKit Go.Lib Go.Sort in
theorem Try.slices_Compact_string (blk off cap : Nat) (zs : List (List UInt8)) (w : World) (hH : Holds encStr w blk off zs.toArray) (hsz : zs.length ≤ 9223372036854775807) (hcap : zs.length ≤ cap) :
    Calls Try.prog 72 #[.slice (some ⟨blk, off, none⟩) zs.length cap] w fun e w' => e = .returned (.slice (some ⟨blk, off, none⟩) (Lib.compact zs).length cap) ∧ ∃ q, w' = putRow encStr (Sort.ahead w q) blk off (Lib.compact zs ++ List.replicate (zs.length - (Lib.compact zs).length) []).toArray := Any.slices_Compact_string Try.lays194 blk off cap zs w hH hsz hcap
open Go.RowKit Go.Lib Go.Sort in
theorem Try.slices_Compact_string_empty (a : Option Addr) (cap : Nat) (w : World) :
    Calls Try.prog 72 #[.slice a 0 cap] w fun e w' => e = .returned (.slice a 0 cap) ∧ w' = w := Any.slices_Compact_string_empty Try.lays194 a cap w
open Go.RowKit Go.Lib Go.Sort in
theorem Try.slices_Compact_string_cells (b off n c : Nat) (Sx : Nat → ByteArray) (w : World) (hbig : n ≤ 9223372036854775807) (hcap : n ≤ c) (hc : ∀ i, i < n → w.cell? ⟨b, off + i, none⟩ = some (.string (Sx i))) (hf : ∀ j, j < n → w.frozen? ⟨b, off + j, none⟩ = false) :
    Calls Try.prog 72 #[.slice (some ⟨b, off, none⟩) n c] w fun e w' => e = .returned (.slice (some ⟨b, off, none⟩) (Lib.compact (Lib.strsOf Sx n)).length c) ∧ ∃ q, w' = (w.drewN q).setCells b off ((Lib.compact (Lib.strsOf Sx n) ++ List.replicate (n - (Lib.compact (Lib.strsOf Sx n)).length) []).map encStr) := Any.slices_Compact_string_cells Try.lays194 b off n c Sx w hbig hcap hc hf
open Go.RowKit Go.Sort in
theorem Try.slices_Sort_string_none (p : Option Addr) (cap : Nat) (w : World) :
    Calls Try.prog 71 #[.slice p 0 cap] w fun e w' => e = .returned (.tuple #[]) ∧ w' = w := Any.slices_Sort_string_none Try.lays190 p cap w
end Go.Proofs
/- slices.SortFunc, off the kit's shelf, laid at this program by the kit's own command: no walk. -/
namespace Go.Proofs
open Go.Shelf
def Try.laysSort_ren : Go.Shelf.Ren := ⟨fun | 6 => 57 | 15 => 77 | 14 => 76 | 28 => 94 | 29 => 95 | 20 => 86 | 21 => 87 | 22 => 88 | 23 => 89 | 24 => 90 | 25 => 91 | 26 => 92 | 27 => 93 | 46 => 106 | 47 => 107 | 48 => 108 | 49 => 109 | 50 => 110 | 57 => 114 | n => n, fun | 22 => 34 | 24 => 38 | 25 => 66 | 3 => 3 | 39 => 83 | 0 => 0 | 53 => 98 | 55 => 100 | 4 => 4 | 46 => 92 | 45 => 91 | 50 => 60 | 5 => 5 | 9 => 9 | 66 => 108 | 70 => 112 | 76 => 116 | 77 => 117 | n => n, fun | n => n⟩
theorem Try.laysSort : Go.Proofs.SlLaysF0.n6 Try.prog Try.laysSort_ren := {
  mixed := by kernel_rfl
  f6 := ⟨Try.f57.name, by decide, Try.func57.trans (congrArg some (by kernel_rfl))⟩
  f14 := ⟨Try.f76.name, by decide, Try.func76.trans (congrArg some (by kernel_rfl))⟩
  f15 := Try.func77.trans (congrArg some (by kernel_rfl))
  f20 := ⟨Try.f86.name, by decide, Try.func86.trans (congrArg some (by kernel_rfl))⟩
  f21 := ⟨Try.f87.name, by decide, Try.func87.trans (congrArg some (by kernel_rfl))⟩
  f22 := ⟨Try.f88.name, by decide, Try.func88.trans (congrArg some (by kernel_rfl))⟩
  f23 := ⟨Try.f89.name, by decide, Try.func89.trans (congrArg some (by kernel_rfl))⟩
  f24 := ⟨Try.f90.name, by decide, Try.func90.trans (congrArg some (by kernel_rfl))⟩
  f25 := ⟨Try.f91.name, by decide, Try.func91.trans (congrArg some (by kernel_rfl))⟩
  f26 := ⟨Try.f92.name, by decide, Try.func92.trans (congrArg some (by kernel_rfl))⟩
  f27 := ⟨Try.f93.name, by decide, Try.func93.trans (congrArg some (by kernel_rfl))⟩
  f28 := Try.func94.trans (congrArg some (by kernel_rfl))
  f29 := Try.func95.trans (congrArg some (by kernel_rfl))
  f46 := ⟨Try.f106.name, by decide, Try.func106.trans (congrArg some (by kernel_rfl))⟩
  f47 := Try.func107.trans (congrArg some (by kernel_rfl))
  f48 := Try.func108.trans (congrArg some (by kernel_rfl))
  f49 := ⟨Try.f109.name, by decide, Try.func109.trans (congrArg some (by kernel_rfl))⟩
  f50 := ⟨Try.f110.name, by decide, Try.func110.trans (congrArg some (by kernel_rfl))⟩
  f57 := ⟨Try.f114.name, by decide, Try.func114.trans (congrArg some (by kernel_rfl))⟩
  t0 := Try.underlying0
  a0 := Try.isAgg0
  z0 := Try.sizeOf0
  v0 := Try.zeroValue0
  t3 := Try.underlying3
  a3 := Try.isAgg3
  z3 := Try.sizeOf3
  v3 := Try.zeroValue3
  t4 := Try.underlying4
  a4 := Try.isAgg4
  z4 := Try.sizeOf4
  v4 := Try.zeroValue4
  t5 := Try.underlying5
  a5 := Try.isAgg5
  z5 := Try.sizeOf5
  v5 := Try.zeroValue5
  t9 := Try.underlying9
  a9 := Try.isAgg9
  z9 := Try.sizeOf9
  v9 := Try.zeroValue9
  t22 := Try.underlying34
  a22 := Try.isAgg34
  z22 := Try.sizeOf34
  v22 := Try.zeroValue34
  t25 := Try.underlying66
  a25 := Try.isAgg66
  z25 := Try.sizeOf66
  v25 := Try.zeroValue66
  t39 := Try.underlying83
  a39 := Try.isAgg83
  z39 := Try.sizeOf83
  v39 := Try.zeroValue83
  t45 := Try.underlying91
  a45 := Try.isAgg91
  z45 := Try.sizeOf91
  v45 := Try.zeroValue91
  t46 := Try.underlying92
  a46 := Try.isAgg92
  z46 := Try.sizeOf92
  v46 := Try.zeroValue92
  t50 := Try.underlying60
  a50 := Try.isAgg60
  z50 := Try.sizeOf60
  v50 := Try.zeroValue60
  t53 := Try.underlying98
  a53 := Try.isAgg98
  z53 := Try.sizeOf98
  v53 := Try.zeroValue98
  t55 := Try.underlying100
  a55 := Try.isAgg100
  z55 := Try.sizeOf100
  v55 := Try.zeroValue100
  t66 := Try.underlying108
  a66 := Try.isAgg108
  z66 := Try.sizeOf108
  v66 := Try.zeroValue108
  t70 := Try.underlying112
  a70 := Try.isAgg112
  z70 := Try.sizeOf112
  v70 := Try.zeroValue112
  t76 := Try.underlying116
  a76 := Try.isAgg116
  z76 := Try.sizeOf116
  v76 := Try.zeroValue116
  t77 := Try.underlying117
  a77 := Try.isAgg117
  z77 := Try.sizeOf117
  v77 := Try.zeroValue117 }
end Go.Proofs
-- Written by wip/px.py of this session, over the kit's print.py. Not trusted: Lean checks it.
namespace Go.Proofs.Ytegelpeegbngiaa.P
open Go.RowKit Go.Proofs.YtegelpeegbngiaaW.PrintWords Go.Proofs.YtegelpeegbngiaaW.PrintLast Go.Proofs.YtegelpeegbngiaaW.PrintMore
attribute [local go_sem] max2_int min2_int max_two min_two max_three min_three max_four min_four   -- for this text's walks alone
set_option linter.unusedVariables false
set_option linter.unusedSimpArgs false



def errW : Option Int → Value
  | none => .nilIface
  | some c => .iface 0 (.int .i64 c)
theorem errW_none : errW none = .nilIface := rfl
theorem errW_some (c : Int) : errW (some c) = .iface 0 (.int .i64 c) := rfl

theorem info5 : (Try.prog.info? 5).map (fun i => (i.zero, i.size, i.bytes)) = some (some (.int .u8 0), 1, 1) := by kernel_rfl
theorem info9 : (Try.prog.info? 9).map (fun i => (i.zero, i.size, i.bytes)) = some (some (.string ⟨#[]⟩), 1, 16) := by kernel_rfl
theorem info38 : (Try.prog.info? 38).map (fun i => (i.zero, i.size, i.bytes)) = some (some (.agg #[(.string ⟨#[]⟩), (.string ⟨#[]⟩)]), 2, 32) := by kernel_rfl
-- the values' own types
/-! #### struct type 31 -/
structure S31 where
  f0 : ByteArray
  f1 : ByteArray
def z31 : S31 := ⟨(⟨#[]⟩ : ByteArray), (⟨#[]⟩ : ByteArray)⟩
def k31 : Kd S31 := Kd.iso (Kd.pair Kd.string Kd.string) (fun x : S31 => (x.f0, x.f1))
theorem k31_open {w : World} {x : S31} {cs : List Value} (h : k31.K w x cs) : cs = [.string x.f0, .string x.f1] := by
  obtain ⟨_, _, rfl, rfl, rfl⟩ := h
  exact rfl
theorem k31_openM {w : World} {base : Nat} {ok : Nat → Prop} {x : S31} {cs : List Value} (h : k31.M w base ok x cs) : cs = [.string x.f0, .string x.f1] := by
  obtain ⟨_, _, rfl, rfl, rfl⟩ := h
  exact rfl
theorem k31_mk (w : World) (x : S31)  : k31.K w x [.string x.f0, .string x.f1] := ⟨[.string x.f0], [.string x.f1], rfl, rfl, rfl⟩
theorem k31_mkM (w : World) (base : Nat) (ok : Nat → Prop) (x : S31)  : k31.M w base ok x [.string x.f0, .string x.f1] := ⟨[.string x.f0], [.string x.f1], rfl, rfl, rfl⟩
theorem k31_mkF (W : World) (ok : Nat → Prop) (x : S31) : Kd.FK k31 W ok x [.string x.f0, .string x.f1] := fun W2 _ => k31_mk W2 x
def rd_T31 (xs : List S31) (i : Int) : S31 := xs.getD i.toNat z31
theorem at_T31 {w : World} {A : Option Addr} {n : Nat} {xs : List S31} (h : Kd.C k31 w A n xs) (i : Int) (h0 : 0 ≤ i) (h1 : i < n) : ∃ ad , A = some ad ∧ w.cell? (ad.add (i.toNat * 2)) = some (.string (rd_T31 xs i).f0) ∧ w.cell? ⟨(ad.add (i.toNat * 2)).block, (ad.add (i.toNat * 2)).off + 1, none⟩ = some (.string (rd_T31 xs i).f1) := by
  obtain ⟨ad, c, e, _, hK, hc0⟩ := Kd.C_get h z31 i h0 h1
  have hc : ∀ j u, c[j]? = some u → w.cell? (ad.add (i.toNat * 2 + j)) = some u := hc0
  obtain rfl := k31_open hK
  exact ⟨ad, e, hc 0 _ rfl, by rw [← add_field _ _ 1 (by omega)]; exact hc 1 _ rfl⟩

/-! #### struct type 38 -/
structure S38 where
  f0 : ByteArray
  f1 : ByteArray
def z38 : S38 := ⟨(⟨#[]⟩ : ByteArray), (⟨#[]⟩ : ByteArray)⟩
def k38 : Kd S38 := Kd.iso (Kd.pair Kd.string Kd.string) (fun x : S38 => (x.f0, x.f1))
theorem k38_open {w : World} {x : S38} {cs : List Value} (h : k38.K w x cs) : cs = [.string x.f0, .string x.f1] := by
  obtain ⟨_, _, rfl, rfl, rfl⟩ := h
  exact rfl
theorem k38_openM {w : World} {base : Nat} {ok : Nat → Prop} {x : S38} {cs : List Value} (h : k38.M w base ok x cs) : cs = [.string x.f0, .string x.f1] := by
  obtain ⟨_, _, rfl, rfl, rfl⟩ := h
  exact rfl
theorem k38_mk (w : World) (x : S38)  : k38.K w x [.string x.f0, .string x.f1] := ⟨[.string x.f0], [.string x.f1], rfl, rfl, rfl⟩
theorem k38_mkM (w : World) (base : Nat) (ok : Nat → Prop) (x : S38)  : k38.M w base ok x [.string x.f0, .string x.f1] := ⟨[.string x.f0], [.string x.f1], rfl, rfl, rfl⟩
theorem k38_mkF (W : World) (ok : Nat → Prop) (x : S38) : Kd.FK k38 W ok x [.string x.f0, .string x.f1] := fun W2 _ => k38_mk W2 x
def rd_T38 (xs : List S38) (i : Int) : S38 := xs.getD i.toNat z38
theorem at_T38 {w : World} {A : Option Addr} {n : Nat} {xs : List S38} (h : Kd.C k38 w A n xs) (i : Int) (h0 : 0 ≤ i) (h1 : i < n) : ∃ ad , A = some ad ∧ w.cell? (ad.add (i.toNat * 2)) = some (.string (rd_T38 xs i).f0) ∧ w.cell? ⟨(ad.add (i.toNat * 2)).block, (ad.add (i.toNat * 2)).off + 1, none⟩ = some (.string (rd_T38 xs i).f1) := by
  obtain ⟨ad, c, e, _, hK, hc0⟩ := Kd.C_get h z38 i h0 h1
  have hc : ∀ j u, c[j]? = some u → w.cell? (ad.add (i.toNat * 2 + j)) = some u := hc0
  obtain rfl := k38_open hK
  exact ⟨ad, e, hc 0 _ rfl, by rw [← add_field _ _ 1 (by omega)]; exact hc 1 _ rfl⟩

end Go.Proofs.Ytegelpeegbngiaa.P
-- Written by wip/px.py of this session, over the kit's print.py. Not trusted: Lean checks it.
namespace Go.Proofs.Ytegelpeegbngiaa.P
open Go.RowKit Go.Proofs.YtegelpeegbngiaaW.PrintWords Go.Proofs.YtegelpeegbngiaaW.PrintLast Go.Proofs.YtegelpeegbngiaaW.PrintMore
attribute [local go_sem] max2_int min2_int max_two min_two max_three min_three max_four min_four   -- for this text's walks alone
set_option linter.unusedVariables false
set_option linter.unusedSimpArgs false

theorem eqA38 (d : Nat) (w : World) (x0 y0 : ByteArray) (x1 y1 : ByteArray) :
    (Op.equalIn (d + 2) 38 (.agg #[.string x0, .string x1]) (.agg #[.string y0, .string y1])).run Try.prog w = .ok (x0.toList == y0.toList && (x1.toList == y1.toList)) w := by
  refine eqA_of Try.underlying38 (by kernel_rfl) ?_
  refine eqf_cons (by rfl) (by go_simp; rfl) (by go_simp; rfl) (by go_simp) ?_
  exact eqf_last (by rfl) (by go_simp; rfl) (by go_simp; rfl) (by go_simp)
end Go.Proofs.Ytegelpeegbngiaa.P
-- Written by wip/px.py of this session, over the kit's print.py. Not trusted: Lean checks it.
namespace Go.Proofs.Ytegelpeegbngiaa.P
open Go.RowKit Go.Proofs.YtegelpeegbngiaaW.PrintWords Go.Proofs.YtegelpeegbngiaaW.PrintLast Go.Proofs.YtegelpeegbngiaaW.PrintMore
attribute [local go_sem] max2_int min2_int max_two min_two max_three min_three max_four min_four   -- for this text's walks alone
set_option linter.unusedVariables false
set_option linter.unusedSimpArgs false

attribute [local go_sem high] eqA38
/-! ### laws_szStringS: function 10 -/
def laws_szStringS.l0 : Nat → List ByteArray → Int → Int → Option (Int)
  | 0, _, _, _ => none
  | k + 1, x0, x1, x5 => if x5 < (x0.length : Int) then (if 0 ≤ x5 then (if (wrap64 (x1 - ((rdOf ByteArray.empty x0 x5).size : Int))) < 0 then (some (-1)) else (laws_szStringS.l0 k x0 (wrap64 (x1 - ((rdOf ByteArray.empty x0 x5).size : Int))) (wrap64 (x5 + 1)))) else (none)) else (some x1)
def laws_szStringS.f (k : Nat) (l0 : List ByteArray) (a1 : Int) : Option (Int) := if (wrap64 (a1 - (l0.length : Int))) < 0 then (some (-1)) else (laws_szStringS.l0 k l0 (wrap64 (a1 - (l0.length : Int))) 0)
theorem laws_szStringS.mono_l : ∀ k, (∀ y0 y1 y2, LeO (laws_szStringS.l0 k y0 y1 y2) (laws_szStringS.l0 (k + 1) y0 y1 y2))
  | 0 => fun _ _ _ r h => by simp [laws_szStringS.l0] at h
  | k + 1 => by
    have ih0 := laws_szStringS.mono_l k
    · intro y0 y1 y2
      unfold laws_szStringS.l0
      repeat' first
      | (with_reducible exact ih0 _ _ _)
      | (with_reducible exact LeO.refl _)
      | (with_reducible exact LeO.none _)
      | (with_reducible refine LeO.ite ?_ ?_)
      | (with_reducible refine LeO.bind ?_ (fun _ => ?_))
      | exact ih0 _ _ _
      | exact LeO.none _
      | refine LeO.ite ?_ ?_
      | refine LeO.bind ?_ (fun _ => ?_)
theorem laws_szStringS.mono : ∀ a0 a1 k, LeO (laws_szStringS.f k a0 a1) (laws_szStringS.f (k + 1) a0 a1) := by
  intro a0 a1 k
  have ih0 := laws_szStringS.mono_l k
  unfold laws_szStringS.f
  repeat' first
      | (with_reducible exact ih0 _ _ _)
      | (with_reducible exact LeO.refl _)
      | (with_reducible exact LeO.none _)
      | (with_reducible refine LeO.ite ?_ ?_)
      | (with_reducible refine LeO.bind ?_ (fun _ => ?_))
      | exact ih0 _ _ _
      | exact LeO.none _
      | refine LeO.ite ?_ ?_
      | refine LeO.bind ?_ (fun _ => ?_)

/-! ### spec_l2Texts: function 51 -/
def spec_l2Texts.l0 : Nat → List ByteArray → Int → Option (Bool)
  | 0, _, _ => none
  | k + 1, x0, x3 => if x3 < (x0.length : Int) then (if 0 ≤ x3 then (if ((rdOf ByteArray.empty x0 x3).size : Int) > 40 then (some false) else (spec_l2Texts.l0 k x0 (wrap64 (x3 + 1)))) else (none)) else (some (decide ((x0.length : Int) ≤ 16)))
def spec_l2Texts.f (k : Nat) (l0 : List ByteArray) : Option (Bool) := spec_l2Texts.l0 k l0 0
theorem spec_l2Texts.mono_l : ∀ k, (∀ y0 y1, LeO (spec_l2Texts.l0 k y0 y1) (spec_l2Texts.l0 (k + 1) y0 y1))
  | 0 => fun _ _ r h => by simp [spec_l2Texts.l0] at h
  | k + 1 => by
    have ih0 := spec_l2Texts.mono_l k
    · intro y0 y1
      unfold spec_l2Texts.l0
      repeat' first
      | (with_reducible exact ih0 _ _)
      | (with_reducible exact LeO.refl _)
      | (with_reducible exact LeO.none _)
      | (with_reducible refine LeO.ite ?_ ?_)
      | (with_reducible refine LeO.bind ?_ (fun _ => ?_))
      | exact ih0 _ _
      | exact LeO.none _
      | refine LeO.ite ?_ ?_
      | refine LeO.bind ?_ (fun _ => ?_)
theorem spec_l2Texts.mono : ∀ a0 k, LeO (spec_l2Texts.f k a0) (spec_l2Texts.f (k + 1) a0) := by
  intro a0 k
  have ih0 := spec_l2Texts.mono_l k
  unfold spec_l2Texts.f
  repeat' first
      | (with_reducible exact ih0 _ _)
      | (with_reducible exact LeO.refl _)
      | (with_reducible exact LeO.none _)
      | (with_reducible refine LeO.ite ?_ ?_)
      | (with_reducible refine LeO.bind ?_ (fun _ => ?_))
      | exact ih0 _ _
      | exact LeO.none _
      | refine LeO.ite ?_ ?_
      | refine LeO.bind ?_ (fun _ => ?_)

/-! ### spec_SetOk: function 37 -/
def spec_SetOk.l0 : Nat → List ByteArray → Int → Option (Bool)
  | 0, _, _ => none
  | k + 1, x0, x3 => if x3 < (x0.length : Int) then (if 0 ≤ (wrap64 (x3 - 1)) then (if (wrap64 (x3 - 1)) < (x0.length : Int) then (if 0 ≤ x3 then (if ((Op.bytesLess ((rdOf ByteArray.empty x0 (wrap64 (x3 - 1))).toList) ((rdOf ByteArray.empty x0 x3).toList)) = true) then (spec_SetOk.l0 k x0 (wrap64 (x3 + 1))) else (some false)) else (none)) else (none)) else (none)) else ((spec_l2Texts.f k x0).bind fun t105 => (some t105))
def spec_SetOk.f (k : Nat) (l0 : List ByteArray) : Option (Bool) := spec_SetOk.l0 k l0 1
theorem spec_SetOk.mono_l : ∀ k, (∀ y0 y1, LeO (spec_SetOk.l0 k y0 y1) (spec_SetOk.l0 (k + 1) y0 y1))
  | 0 => fun _ _ r h => by simp [spec_SetOk.l0] at h
  | k + 1 => by
    have ih0 := spec_SetOk.mono_l k
    · intro y0 y1
      unfold spec_SetOk.l0
      repeat' first
      | (with_reducible exact ih0 _ _)
      | (with_reducible exact spec_l2Texts.mono _ _)
      | (with_reducible exact LeO.refl _)
      | (with_reducible exact LeO.none _)
      | (with_reducible refine LeO.ite ?_ ?_)
      | (with_reducible refine LeO.bind ?_ (fun _ => ?_))
      | exact ih0 _ _
      | exact spec_l2Texts.mono _ _
      | exact LeO.none _
      | refine LeO.ite ?_ ?_
      | refine LeO.bind ?_ (fun _ => ?_)
theorem spec_SetOk.mono : ∀ a0 k, LeO (spec_SetOk.f k a0) (spec_SetOk.f (k + 1) a0) := by
  intro a0 k
  have ih0 := spec_SetOk.mono_l k
  unfold spec_SetOk.f
  repeat' first
      | (with_reducible exact ih0 _ _)
      | (with_reducible exact spec_l2Texts.mono _ _)
      | (with_reducible exact LeO.refl _)
      | (with_reducible exact LeO.none _)
      | (with_reducible refine LeO.ite ?_ ?_)
      | (with_reducible refine LeO.bind ?_ (fun _ => ?_))
      | exact ih0 _ _
      | exact spec_l2Texts.mono _ _
      | exact LeO.none _
      | refine LeO.ite ?_ ?_
      | refine LeO.bind ?_ (fun _ => ?_)

/-! ### spec_l2Copy: function 47 -/
def spec_l2Copy.f (l0 : List ByteArray) : Option (List ByteArray) := (some (([] : List ByteArray) : List ByteArray)).bind fun y106 => (if y106.length + l0.length < 8796093022208 then (some (y106 ++ l0)) else (none))

/-! ### spec_l2Put: function 48 -/
def spec_l2Put.l0 : Nat → List ByteArray → ByteArray → Int → Option (List ByteArray)
  | 0, _, _, _ => none
  | k + 1, x0, x1, x5 => if x5 < (x0.length : Int) then (if 0 ≤ x5 then (if (Op.bytesLess ((rdOf ByteArray.empty x0 x5).toList) x1.toList) = true then (spec_l2Put.l0 k x0 x1 (wrap64 (x5 + 1))) else (if (rdOf ByteArray.empty x0 x5).toList = x1.toList then (some x0) else ((some (([] : List ByteArray) : List ByteArray)).bind fun y114 => (if x5 ≤ (x0.length : Int) then ((some (x0.take (x5 : Int).toNat : List ByteArray)).bind fun y117 => (if y114.length + y117.length < 8796093022208 then ((some (y114 ++ y117 : List ByteArray)).bind fun y122 => ((some (([x1] : List ByteArray) : List ByteArray)).bind fun y125 => (if y122.length + y125.length < 8796093022208 then ((some (y122 ++ y125 : List ByteArray)).bind fun y128 => ((some (x0.drop (x5 : Int).toNat : List ByteArray)).bind fun y131 => (if y128.length + y131.length < 8796093022208 then (some (y128 ++ y131)) else (none)))) else (none)))) else (none))) else (none))))) else (none)) else ((some (([] : List ByteArray) : List ByteArray)).bind fun y139 => (if 0 ≤ x5 then (if x5 ≤ (x0.length : Int) then ((some (x0.take (x5 : Int).toNat : List ByteArray)).bind fun y142 => (if y139.length + y142.length < 8796093022208 then ((some (y139 ++ y142 : List ByteArray)).bind fun y147 => ((some (([x1] : List ByteArray) : List ByteArray)).bind fun y150 => (if y147.length + y150.length < 8796093022208 then ((some (y147 ++ y150 : List ByteArray)).bind fun y153 => ((some (x0.drop (x5 : Int).toNat : List ByteArray)).bind fun y156 => (if y153.length + y156.length < 8796093022208 then (some (y153 ++ y156)) else (none)))) else (none)))) else (none))) else (none)) else (none)))
def spec_l2Put.f (k : Nat) (l0 : List ByteArray) (a1 : ByteArray) : Option (List ByteArray) := spec_l2Put.l0 k l0 a1 0
theorem spec_l2Put.mono_l : ∀ k, (∀ y0 y1 y2, LeO (spec_l2Put.l0 k y0 y1 y2) (spec_l2Put.l0 (k + 1) y0 y1 y2))
  | 0 => fun _ _ _ r h => by simp [spec_l2Put.l0] at h
  | k + 1 => by
    have ih0 := spec_l2Put.mono_l k
    · intro y0 y1 y2
      unfold spec_l2Put.l0
      repeat' first
      | (with_reducible exact ih0 _ _ _)
      | (with_reducible exact LeO.refl _)
      | (with_reducible exact LeO.none _)
      | (with_reducible refine LeO.ite ?_ ?_)
      | (with_reducible refine LeO.bind ?_ (fun _ => ?_))
      | exact ih0 _ _ _
      | exact LeO.none _
      | refine LeO.ite ?_ ?_
      | refine LeO.bind ?_ (fun _ => ?_)
theorem spec_l2Put.mono : ∀ a0 a1 k, LeO (spec_l2Put.f k a0 a1) (spec_l2Put.f (k + 1) a0 a1) := by
  intro a0 a1 k
  have ih0 := spec_l2Put.mono_l k
  unfold spec_l2Put.f
  repeat' first
      | (with_reducible exact ih0 _ _ _)
      | (with_reducible exact LeO.refl _)
      | (with_reducible exact LeO.none _)
      | (with_reducible refine LeO.ite ?_ ?_)
      | (with_reducible refine LeO.bind ?_ (fun _ => ?_))
      | exact ih0 _ _ _
      | exact LeO.none _
      | refine LeO.ite ?_ ?_
      | refine LeO.bind ?_ (fun _ => ?_)

/-! ### spec_SetAny: function 11 -/
mutual
def spec_SetAny.j0 : Nat → List ByteArray → List ByteArray → Bool → Option (List ByteArray)
  | 0, _, _, _ => none
  | k + 1, x0, x1, x14 => if x14 = true then (some (([] : List ByteArray))) else ((spec_l2Copy.f x0).bind fun t169 => (spec_SetAny.l0 k x1 t169 0))
def spec_SetAny.l0 : Nat → List ByteArray → List ByteArray → Int → Option (List ByteArray)
  | 0, _, _, _ => none
  | k + 1, x1, x5, x6 => if x6 < (x1.length : Int) then (if 0 ≤ x6 then ((spec_l2Put.f k x5 (rdOf ByteArray.empty x1 x6)).bind fun t173 => (spec_SetAny.l0 k x1 t173 (wrap64 (x6 + 1)))) else (none)) else (some x5)
end
def spec_SetAny.f (k : Nat) (l0 : List ByteArray) (l1 : List ByteArray) : Option (List ByteArray) := (spec_SetOk.f k l0).bind fun t164 => (if t164 = true then ((spec_SetOk.f k l1).bind fun t165 => (spec_SetAny.j0 k l0 l1 (!t165))) else (spec_SetAny.j0 k l0 l1 true))
theorem spec_SetAny.mono_l : ∀ k, (∀ y0 y1 y2, LeO (spec_SetAny.j0 k y0 y1 y2) (spec_SetAny.j0 (k + 1) y0 y1 y2)) ∧ (∀ y0 y1 y2, LeO (spec_SetAny.l0 k y0 y1 y2) (spec_SetAny.l0 (k + 1) y0 y1 y2))
  | 0 => ⟨fun _ _ _ r h => by simp [spec_SetAny.j0] at h, fun _ _ _ r h => by simp [spec_SetAny.l0] at h⟩
  | k + 1 => by
    obtain ⟨ih0, ih1⟩ := spec_SetAny.mono_l k
    refine ⟨?_, ?_⟩
    · intro y0 y1 y2
      unfold spec_SetAny.j0
      repeat' first
      | (with_reducible exact ih0 _ _ _)
      | (with_reducible exact ih1 _ _ _)
      | (with_reducible exact spec_SetOk.mono _ _)
      | (with_reducible exact spec_l2Put.mono _ _ _)
      | (with_reducible exact LeO.refl _)
      | (with_reducible exact LeO.none _)
      | (with_reducible refine LeO.ite ?_ ?_)
      | (with_reducible refine LeO.bind ?_ (fun _ => ?_))
      | exact ih0 _ _ _
      | exact ih1 _ _ _
      | exact spec_SetOk.mono _ _
      | exact spec_l2Put.mono _ _ _
      | exact LeO.none _
      | refine LeO.ite ?_ ?_
      | refine LeO.bind ?_ (fun _ => ?_)
    · intro y0 y1 y2
      unfold spec_SetAny.l0
      repeat' first
      | (with_reducible exact ih0 _ _ _)
      | (with_reducible exact ih1 _ _ _)
      | (with_reducible exact spec_SetOk.mono _ _)
      | (with_reducible exact spec_l2Put.mono _ _ _)
      | (with_reducible exact LeO.refl _)
      | (with_reducible exact LeO.none _)
      | (with_reducible refine LeO.ite ?_ ?_)
      | (with_reducible refine LeO.bind ?_ (fun _ => ?_))
      | exact ih0 _ _ _
      | exact ih1 _ _ _
      | exact spec_SetOk.mono _ _
      | exact spec_l2Put.mono _ _ _
      | exact LeO.none _
      | refine LeO.ite ?_ ?_
      | refine LeO.bind ?_ (fun _ => ?_)
theorem spec_SetAny.mono : ∀ a0 a1 k, LeO (spec_SetAny.f k a0 a1) (spec_SetAny.f (k + 1) a0 a1) := by
  intro a0 a1 k
  obtain ⟨ih0, ih1⟩ := spec_SetAny.mono_l k
  unfold spec_SetAny.f
  repeat' first
      | (with_reducible exact ih0 _ _ _)
      | (with_reducible exact ih1 _ _ _)
      | (with_reducible exact spec_SetOk.mono _ _)
      | (with_reducible exact spec_l2Put.mono _ _ _)
      | (with_reducible exact LeO.refl _)
      | (with_reducible exact LeO.none _)
      | (with_reducible refine LeO.ite ?_ ?_)
      | (with_reducible refine LeO.bind ?_ (fun _ => ?_))
      | exact ih0 _ _ _
      | exact ih1 _ _ _
      | exact spec_SetOk.mono _ _
      | exact spec_l2Put.mono _ _ _
      | exact LeO.none _
      | refine LeO.ite ?_ ?_
      | refine LeO.bind ?_ (fun _ => ?_)

/-! ### laws_toStringS: function 12 -/
def laws_toStringS.l0 : Nat → List ByteArray → List ByteArray → Int → Option (List ByteArray)
  | 0, _, _, _ => none
  | k + 1, x0, x3, x4 => if x4 < (x0.length : Int) then (if 0 ≤ x4 then (if x4 < (x3.length : Int) then (laws_toStringS.l0 k x0 (x3.set (x4 : Int).toNat (rdOf ByteArray.empty x0 x4)) (wrap64 (x4 + 1))) else (none)) else (none)) else (some x3)
def laws_toStringS.f (k : Nat) (l0 : List ByteArray) : Option (List ByteArray) := if 0 ≤ (l0.length : Int) then (if ((l0.length : Int) : Int).toNat ≤ 17592186044416 then (laws_toStringS.l0 k l0 (List.replicate ((l0.length : Int) : Int).toNat (⟨#[]⟩ : ByteArray)) 0) else (none)) else (none)
theorem laws_toStringS.mono_l : ∀ k, (∀ y0 y1 y2, LeO (laws_toStringS.l0 k y0 y1 y2) (laws_toStringS.l0 (k + 1) y0 y1 y2))
  | 0 => fun _ _ _ r h => by simp [laws_toStringS.l0] at h
  | k + 1 => by
    have ih0 := laws_toStringS.mono_l k
    · intro y0 y1 y2
      unfold laws_toStringS.l0
      repeat' first
      | (with_reducible exact ih0 _ _ _)
      | (with_reducible exact LeO.refl _)
      | (with_reducible exact LeO.none _)
      | (with_reducible refine LeO.ite ?_ ?_)
      | (with_reducible refine LeO.bind ?_ (fun _ => ?_))
      | exact ih0 _ _ _
      | exact LeO.none _
      | refine LeO.ite ?_ ?_
      | refine LeO.bind ?_ (fun _ => ?_)
theorem laws_toStringS.mono : ∀ a0 k, LeO (laws_toStringS.f k a0) (laws_toStringS.f (k + 1) a0) := by
  intro a0 k
  have ih0 := laws_toStringS.mono_l k
  unfold laws_toStringS.f
  repeat' first
      | (with_reducible exact ih0 _ _ _)
      | (with_reducible exact LeO.refl _)
      | (with_reducible exact LeO.none _)
      | (with_reducible refine LeO.ite ?_ ?_)
      | (with_reducible refine LeO.bind ?_ (fun _ => ?_))
      | exact ih0 _ _ _
      | exact LeO.none _
      | refine LeO.ite ?_ ?_
      | refine LeO.bind ?_ (fun _ => ?_)

/-! ### impl_textsOk: function 73 -/
def impl_textsOk.l0 : Nat → List ByteArray → Int → List ByteArray → Int → Int → Option (Bool)
  | 0, _, _, _, _, _ => none
  | k + 1, x0, x1, x7, x8, x9 => if x9 < x8 then (if 0 ≤ x9 then (if x9 < (x7.length : Int) then (if ((rdOf ByteArray.empty x7 x9).size : Int) > 40 then (some false) else (impl_textsOk.l0 k x0 x1 x7 x8 (wrap64 (x9 + 1)))) else (none)) else (none)) else (some (decide ((x0.length : Int) ≤ x1)))
def impl_textsOk.f (k : Nat) (l0 : List ByteArray) (a1 : Int) : Option (Bool) := impl_textsOk.l0 k l0 a1 l0 (l0.length : Int) 0
theorem impl_textsOk.mono_l : ∀ k, (∀ y0 y1 y2 y3 y4, LeO (impl_textsOk.l0 k y0 y1 y2 y3 y4) (impl_textsOk.l0 (k + 1) y0 y1 y2 y3 y4))
  | 0 => fun _ _ _ _ _ r h => by simp [impl_textsOk.l0] at h
  | k + 1 => by
    have ih0 := impl_textsOk.mono_l k
    · intro y0 y1 y2 y3 y4
      unfold impl_textsOk.l0
      repeat' first
      | (with_reducible exact ih0 _ _ _ _ _)
      | (with_reducible exact LeO.refl _)
      | (with_reducible exact LeO.none _)
      | (with_reducible refine LeO.ite ?_ ?_)
      | (with_reducible refine LeO.bind ?_ (fun _ => ?_))
      | exact ih0 _ _ _ _ _
      | exact LeO.none _
      | refine LeO.ite ?_ ?_
      | refine LeO.bind ?_ (fun _ => ?_)
theorem impl_textsOk.mono : ∀ a0 a1 k, LeO (impl_textsOk.f k a0 a1) (impl_textsOk.f (k + 1) a0 a1) := by
  intro a0 a1 k
  have ih0 := impl_textsOk.mono_l k
  unfold impl_textsOk.f
  repeat' first
      | (with_reducible exact ih0 _ _ _ _ _)
      | (with_reducible exact LeO.refl _)
      | (with_reducible exact LeO.none _)
      | (with_reducible refine LeO.ite ?_ ?_)
      | (with_reducible refine LeO.bind ?_ (fun _ => ?_))
      | exact ih0 _ _ _ _ _
      | exact LeO.none _
      | refine LeO.ite ?_ ?_
      | refine LeO.bind ?_ (fun _ => ?_)

/-! ### impl_listOk: function 52 -/
def impl_listOk.f (k : Nat) (l0 : List ByteArray) : Option (Bool) := (impl_textsOk.f k l0 16).bind fun t182 => (some t182)
theorem impl_listOk.mono : ∀ a0 k, LeO (impl_listOk.f k a0) (impl_listOk.f (k + 1) a0) := by
  intro a0 k
  unfold impl_listOk.f
  repeat' first
      | (with_reducible exact impl_textsOk.mono _ _ _)
      | (with_reducible exact LeO.refl _)
      | (with_reducible exact LeO.none _)
      | (with_reducible refine LeO.ite ?_ ?_)
      | (with_reducible refine LeO.bind ?_ (fun _ => ?_))
      | exact impl_textsOk.mono _ _ _
      | exact LeO.none _
      | refine LeO.ite ?_ ?_
      | refine LeO.bind ?_ (fun _ => ?_)

/-! ### impl_SetOk: function 36 -/
def impl_SetOk.l0 : Nat → List ByteArray → Int → Option (Bool)
  | 0, _, _ => none
  | k + 1, x0, x3 => if x3 < (x0.length : Int) then (if 0 ≤ (wrap64 (x3 - 1)) then (if (wrap64 (x3 - 1)) < (x0.length : Int) then (if 0 ≤ x3 then (if ((Op.bytesLess ((rdOf ByteArray.empty x0 (wrap64 (x3 - 1))).toList) ((rdOf ByteArray.empty x0 x3).toList)) = true) then (impl_SetOk.l0 k x0 (wrap64 (x3 + 1))) else (some false)) else (none)) else (none)) else (none)) else ((impl_listOk.f k x0).bind fun t185 => (some t185))
def impl_SetOk.f (k : Nat) (l0 : List ByteArray) : Option (Bool) := impl_SetOk.l0 k l0 1
theorem impl_SetOk.mono_l : ∀ k, (∀ y0 y1, LeO (impl_SetOk.l0 k y0 y1) (impl_SetOk.l0 (k + 1) y0 y1))
  | 0 => fun _ _ r h => by simp [impl_SetOk.l0] at h
  | k + 1 => by
    have ih0 := impl_SetOk.mono_l k
    · intro y0 y1
      unfold impl_SetOk.l0
      repeat' first
      | (with_reducible exact ih0 _ _)
      | (with_reducible exact impl_listOk.mono _ _)
      | (with_reducible exact LeO.refl _)
      | (with_reducible exact LeO.none _)
      | (with_reducible refine LeO.ite ?_ ?_)
      | (with_reducible refine LeO.bind ?_ (fun _ => ?_))
      | exact ih0 _ _
      | exact impl_listOk.mono _ _
      | exact LeO.none _
      | refine LeO.ite ?_ ?_
      | refine LeO.bind ?_ (fun _ => ?_)
theorem impl_SetOk.mono : ∀ a0 k, LeO (impl_SetOk.f k a0) (impl_SetOk.f (k + 1) a0) := by
  intro a0 k
  have ih0 := impl_SetOk.mono_l k
  unfold impl_SetOk.f
  repeat' first
      | (with_reducible exact ih0 _ _)
      | (with_reducible exact impl_listOk.mono _ _)
      | (with_reducible exact LeO.refl _)
      | (with_reducible exact LeO.none _)
      | (with_reducible refine LeO.ite ?_ ?_)
      | (with_reducible refine LeO.bind ?_ (fun _ => ?_))
      | exact ih0 _ _
      | exact impl_listOk.mono _ _
      | exact LeO.none _
      | refine LeO.ite ?_ ?_
      | refine LeO.bind ?_ (fun _ => ?_)

/-! ### impl_copied: function 53 -/
def impl_copied.f (l0 : List ByteArray) : Option (List ByteArray) := (some (([] : List ByteArray) : List ByteArray)).bind fun y186 => (if y186.length + l0.length < 8796093022208 then (some (y186 ++ l0)) else (none))

/-! ### cmp_isNaN_string: function 78 -/
def cmp_isNaN_string.f (a0 : ByteArray) : Option (Bool) := some (a0.toList != a0.toList)

/-! ### cmp_Less_string: function 103 -/
def cmp_Less_string.f (a0 : ByteArray) (a1 : ByteArray) : Option (Bool) := (cmp_isNaN_string.f a0).bind fun t192 => (if t192 = true then ((cmp_isNaN_string.f a1).bind fun t193 => (if t193 = true then (some (Op.bytesLess a0.toList a1.toList)) else (some true))) else (some (Op.bytesLess a0.toList a1.toList)))

/-! ### slices_insertionSortOrdered_string: function 97 -/
mutual
def slices_insertionSortOrdered_string.l0 : Nat → List ByteArray → Int → Int → Int → Option (List ByteArray)
  | 0, _, _, _, _ => none
  | k + 1, x0, x1, x2, x6 => if x6 < x2 then (slices_insertionSortOrdered_string.l1 k x0 x1 x2 x6 x6) else (some x0)
def slices_insertionSortOrdered_string.l1 : Nat → List ByteArray → Int → Int → Int → Int → Option (List ByteArray)
  | 0, _, _, _, _, _ => none
  | k + 1, x0, x1, x2, x6, x7 => if x7 > x1 then (if 0 ≤ x7 then (if x7 < (x0.length : Int) then (if 0 ≤ (wrap64 (x7 - 1)) then (if (wrap64 (x7 - 1)) < (x0.length : Int) then ((cmp_Less_string.f (rdOf ByteArray.empty x0 x7) (rdOf ByteArray.empty x0 (wrap64 (x7 - 1)))).bind fun t196 => (if t196 = true then (slices_insertionSortOrdered_string.l1 k ((x0.set (x7 : Int).toNat (rdOf ByteArray.empty x0 (wrap64 (x7 - 1)))).set ((wrap64 (x7 - 1)) : Int).toNat (rdOf ByteArray.empty x0 x7)) x1 x2 x6 (wrap64 (x7 - 1))) else (slices_insertionSortOrdered_string.l0 k x0 x1 x2 (wrap64 (x6 + 1))))) else (none)) else (none)) else (none)) else (none)) else (slices_insertionSortOrdered_string.l0 k x0 x1 x2 (wrap64 (x6 + 1)))
end
def slices_insertionSortOrdered_string.f (k : Nat) (l0 : List ByteArray) (a1 : Int) (a2 : Int) : Option (List ByteArray) := slices_insertionSortOrdered_string.l0 k l0 a1 a2 (wrap64 (a1 + 1))
theorem slices_insertionSortOrdered_string.mono_l : ∀ k, (∀ y0 y1 y2 y3, LeO (slices_insertionSortOrdered_string.l0 k y0 y1 y2 y3) (slices_insertionSortOrdered_string.l0 (k + 1) y0 y1 y2 y3)) ∧ (∀ y0 y1 y2 y3 y4, LeO (slices_insertionSortOrdered_string.l1 k y0 y1 y2 y3 y4) (slices_insertionSortOrdered_string.l1 (k + 1) y0 y1 y2 y3 y4))
  | 0 => ⟨fun _ _ _ _ r h => by simp [slices_insertionSortOrdered_string.l0] at h, fun _ _ _ _ _ r h => by simp [slices_insertionSortOrdered_string.l1] at h⟩
  | k + 1 => by
    obtain ⟨ih0, ih1⟩ := slices_insertionSortOrdered_string.mono_l k
    refine ⟨?_, ?_⟩
    · intro y0 y1 y2 y3
      unfold slices_insertionSortOrdered_string.l0
      repeat' first
      | (with_reducible exact ih0 _ _ _ _)
      | (with_reducible exact ih1 _ _ _ _ _)
      | (with_reducible exact LeO.refl _)
      | (with_reducible exact LeO.none _)
      | (with_reducible refine LeO.ite ?_ ?_)
      | (with_reducible refine LeO.bind ?_ (fun _ => ?_))
      | exact ih0 _ _ _ _
      | exact ih1 _ _ _ _ _
      | exact LeO.none _
      | refine LeO.ite ?_ ?_
      | refine LeO.bind ?_ (fun _ => ?_)
    · intro y0 y1 y2 y3 y4
      unfold slices_insertionSortOrdered_string.l1
      repeat' first
      | (with_reducible exact ih0 _ _ _ _)
      | (with_reducible exact ih1 _ _ _ _ _)
      | (with_reducible exact LeO.refl _)
      | (with_reducible exact LeO.none _)
      | (with_reducible refine LeO.ite ?_ ?_)
      | (with_reducible refine LeO.bind ?_ (fun _ => ?_))
      | exact ih0 _ _ _ _
      | exact ih1 _ _ _ _ _
      | exact LeO.none _
      | refine LeO.ite ?_ ?_
      | refine LeO.bind ?_ (fun _ => ?_)
theorem slices_insertionSortOrdered_string.mono : ∀ a0 a1 a2 k, LeO (slices_insertionSortOrdered_string.f k a0 a1 a2) (slices_insertionSortOrdered_string.f (k + 1) a0 a1 a2) := by
  intro a0 a1 a2 k
  obtain ⟨ih0, ih1⟩ := slices_insertionSortOrdered_string.mono_l k
  unfold slices_insertionSortOrdered_string.f
  repeat' first
      | (with_reducible exact ih0 _ _ _ _)
      | (with_reducible exact ih1 _ _ _ _ _)
      | (with_reducible exact LeO.refl _)
      | (with_reducible exact LeO.none _)
      | (with_reducible refine LeO.ite ?_ ?_)
      | (with_reducible refine LeO.bind ?_ (fun _ => ?_))
      | exact ih0 _ _ _ _
      | exact ih1 _ _ _ _ _
      | exact LeO.none _
      | refine LeO.ite ?_ ?_
      | refine LeO.bind ?_ (fun _ => ?_)

/-! ### slices_siftDownOrdered_string: function 111 -/
mutual
def slices_siftDownOrdered_string.l0 : Nat → List ByteArray → Int → Int → Int → Option (List ByteArray)
  | 0, _, _, _, _ => none
  | k + 1, x0, x2, x3, x8 => if (wrap64 ((wrap64 (2 * x8)) + 1)) ≥ x2 then (some x0) else (if (wrap64 ((wrap64 ((wrap64 (2 * x8)) + 1)) + 1)) < x2 then (if 0 ≤ (wrap64 (x3 + (wrap64 ((wrap64 (2 * x8)) + 1)))) then (if (wrap64 (x3 + (wrap64 ((wrap64 (2 * x8)) + 1)))) < (x0.length : Int) then (if 0 ≤ (wrap64 ((wrap64 (x3 + (wrap64 ((wrap64 (2 * x8)) + 1)))) + 1)) then (if (wrap64 ((wrap64 (x3 + (wrap64 ((wrap64 (2 * x8)) + 1)))) + 1)) < (x0.length : Int) then ((cmp_Less_string.f (rdOf ByteArray.empty x0 (wrap64 (x3 + (wrap64 ((wrap64 (2 * x8)) + 1))))) (rdOf ByteArray.empty x0 (wrap64 ((wrap64 (x3 + (wrap64 ((wrap64 (2 * x8)) + 1)))) + 1)))).bind fun t203 => (slices_siftDownOrdered_string.j1 k x0 x2 x3 x8 (wrap64 ((wrap64 (2 * x8)) + 1)) t203)) else (none)) else (none)) else (none)) else (none)) else (slices_siftDownOrdered_string.j1 k x0 x2 x3 x8 (wrap64 ((wrap64 (2 * x8)) + 1)) false))
def slices_siftDownOrdered_string.j1 : Nat → List ByteArray → Int → Int → Int → Int → Bool → Option (List ByteArray)
  | 0, _, _, _, _, _, _ => none
  | k + 1, x0, x2, x3, x8, x9, x36 => if x36 = true then (if 0 ≤ (wrap64 (x3 + x8)) then (if (wrap64 (x3 + x8)) < (x0.length : Int) then (if 0 ≤ (wrap64 (x3 + (wrap64 (x9 + 1)))) then (if (wrap64 (x3 + (wrap64 (x9 + 1)))) < (x0.length : Int) then ((cmp_Less_string.f (rdOf ByteArray.empty x0 (wrap64 (x3 + x8))) (rdOf ByteArray.empty x0 (wrap64 (x3 + (wrap64 (x9 + 1)))))).bind fun t206 => (if t206 = true then (slices_siftDownOrdered_string.l0 k ((x0.set ((wrap64 (x3 + x8)) : Int).toNat (rdOf ByteArray.empty x0 (wrap64 (x3 + (wrap64 (x9 + 1)))))).set ((wrap64 (x3 + (wrap64 (x9 + 1)))) : Int).toNat (rdOf ByteArray.empty x0 (wrap64 (x3 + x8)))) x2 x3 (wrap64 (x9 + 1))) else (some x0))) else (none)) else (none)) else (none)) else (none)) else (if 0 ≤ (wrap64 (x3 + x8)) then (if (wrap64 (x3 + x8)) < (x0.length : Int) then (if 0 ≤ (wrap64 (x3 + x9)) then (if (wrap64 (x3 + x9)) < (x0.length : Int) then ((cmp_Less_string.f (rdOf ByteArray.empty x0 (wrap64 (x3 + x8))) (rdOf ByteArray.empty x0 (wrap64 (x3 + x9)))).bind fun t213 => (if t213 = true then (slices_siftDownOrdered_string.l0 k ((x0.set ((wrap64 (x3 + x8)) : Int).toNat (rdOf ByteArray.empty x0 (wrap64 (x3 + x9)))).set ((wrap64 (x3 + x9)) : Int).toNat (rdOf ByteArray.empty x0 (wrap64 (x3 + x8)))) x2 x3 x9) else (some x0))) else (none)) else (none)) else (none)) else (none))
end
def slices_siftDownOrdered_string.f (k : Nat) (l0 : List ByteArray) (a1 : Int) (a2 : Int) (a3 : Int) : Option (List ByteArray) := slices_siftDownOrdered_string.l0 k l0 a2 a3 a1
theorem slices_siftDownOrdered_string.mono_l : ∀ k, (∀ y0 y1 y2 y3, LeO (slices_siftDownOrdered_string.l0 k y0 y1 y2 y3) (slices_siftDownOrdered_string.l0 (k + 1) y0 y1 y2 y3)) ∧ (∀ y0 y1 y2 y3 y4 y5, LeO (slices_siftDownOrdered_string.j1 k y0 y1 y2 y3 y4 y5) (slices_siftDownOrdered_string.j1 (k + 1) y0 y1 y2 y3 y4 y5))
  | 0 => ⟨fun _ _ _ _ r h => by simp [slices_siftDownOrdered_string.l0] at h, fun _ _ _ _ _ _ r h => by simp [slices_siftDownOrdered_string.j1] at h⟩
  | k + 1 => by
    obtain ⟨ih0, ih1⟩ := slices_siftDownOrdered_string.mono_l k
    refine ⟨?_, ?_⟩
    · intro y0 y1 y2 y3
      unfold slices_siftDownOrdered_string.l0
      repeat' first
      | (with_reducible exact ih0 _ _ _ _)
      | (with_reducible exact ih1 _ _ _ _ _ _)
      | (with_reducible exact LeO.refl _)
      | (with_reducible exact LeO.none _)
      | (with_reducible refine LeO.ite ?_ ?_)
      | (with_reducible refine LeO.bind ?_ (fun _ => ?_))
      | exact ih0 _ _ _ _
      | exact ih1 _ _ _ _ _ _
      | exact LeO.none _
      | refine LeO.ite ?_ ?_
      | refine LeO.bind ?_ (fun _ => ?_)
    · intro y0 y1 y2 y3 y4 y5
      unfold slices_siftDownOrdered_string.j1
      repeat' first
      | (with_reducible exact ih0 _ _ _ _)
      | (with_reducible exact ih1 _ _ _ _ _ _)
      | (with_reducible exact LeO.refl _)
      | (with_reducible exact LeO.none _)
      | (with_reducible refine LeO.ite ?_ ?_)
      | (with_reducible refine LeO.bind ?_ (fun _ => ?_))
      | exact ih0 _ _ _ _
      | exact ih1 _ _ _ _ _ _
      | exact LeO.none _
      | refine LeO.ite ?_ ?_
      | refine LeO.bind ?_ (fun _ => ?_)
theorem slices_siftDownOrdered_string.mono : ∀ a0 a1 a2 a3 k, LeO (slices_siftDownOrdered_string.f k a0 a1 a2 a3) (slices_siftDownOrdered_string.f (k + 1) a0 a1 a2 a3) := by
  intro a0 a1 a2 a3 k
  obtain ⟨ih0, ih1⟩ := slices_siftDownOrdered_string.mono_l k
  unfold slices_siftDownOrdered_string.f
  repeat' first
      | (with_reducible exact ih0 _ _ _ _)
      | (with_reducible exact ih1 _ _ _ _ _ _)
      | (with_reducible exact LeO.refl _)
      | (with_reducible exact LeO.none _)
      | (with_reducible refine LeO.ite ?_ ?_)
      | (with_reducible refine LeO.bind ?_ (fun _ => ?_))
      | exact ih0 _ _ _ _
      | exact ih1 _ _ _ _ _ _
      | exact LeO.none _
      | refine LeO.ite ?_ ?_
      | refine LeO.bind ?_ (fun _ => ?_)

/-! ### slices_heapSortOrdered_string: function 98 -/
mutual
def slices_heapSortOrdered_string.l0 : Nat → List ByteArray → Int → Int → Int → Int → Option (List ByteArray)
  | 0, _, _, _, _, _ => none
  | k + 1, x0, x6, x7, x8, x9 => if x9 ≥ 0 then ((slices_siftDownOrdered_string.f k x0 x9 x8 x6).bind fun t218 => (slices_heapSortOrdered_string.l0 k t218 x6 x7 x8 (wrap64 (x9 - 1)))) else (slices_heapSortOrdered_string.l1 k x0 x6 x7 (wrap64 (x8 - 1)))
def slices_heapSortOrdered_string.l1 : Nat → List ByteArray → Int → Int → Int → Option (List ByteArray)
  | 0, _, _, _, _ => none
  | k + 1, x0, x6, x7, x10 => if x10 ≥ 0 then (if 0 ≤ (wrap64 (x6 + x10)) then (if (wrap64 (x6 + x10)) < (x0.length : Int) then (if 0 ≤ x6 then (if x6 < (x0.length : Int) then ((slices_siftDownOrdered_string.f k ((x0.set (x6 : Int).toNat (rdOf ByteArray.empty x0 (wrap64 (x6 + x10)))).set ((wrap64 (x6 + x10)) : Int).toNat (rdOf ByteArray.empty x0 x6)) x7 x10 x6).bind fun t223 => (slices_heapSortOrdered_string.l1 k t223 x6 x7 (wrap64 (x10 - 1)))) else (none)) else (none)) else (none)) else (none)) else (some x0)
end
def slices_heapSortOrdered_string.f (k : Nat) (l0 : List ByteArray) (a1 : Int) (a2 : Int) : Option (List ByteArray) := slices_heapSortOrdered_string.l0 k l0 a1 0 (wrap64 (a2 - a1)) (wrap64 (Int.tdiv (wrap64 ((wrap64 (a2 - a1)) - 1)) 2))
theorem slices_heapSortOrdered_string.mono_l : ∀ k, (∀ y0 y1 y2 y3 y4, LeO (slices_heapSortOrdered_string.l0 k y0 y1 y2 y3 y4) (slices_heapSortOrdered_string.l0 (k + 1) y0 y1 y2 y3 y4)) ∧ (∀ y0 y1 y2 y3, LeO (slices_heapSortOrdered_string.l1 k y0 y1 y2 y3) (slices_heapSortOrdered_string.l1 (k + 1) y0 y1 y2 y3))
  | 0 => ⟨fun _ _ _ _ _ r h => by simp [slices_heapSortOrdered_string.l0] at h, fun _ _ _ _ r h => by simp [slices_heapSortOrdered_string.l1] at h⟩
  | k + 1 => by
    obtain ⟨ih0, ih1⟩ := slices_heapSortOrdered_string.mono_l k
    refine ⟨?_, ?_⟩
    · intro y0 y1 y2 y3 y4
      unfold slices_heapSortOrdered_string.l0
      repeat' first
      | (with_reducible exact ih0 _ _ _ _ _)
      | (with_reducible exact ih1 _ _ _ _)
      | (with_reducible exact slices_siftDownOrdered_string.mono _ _ _ _ _)
      | (with_reducible exact LeO.refl _)
      | (with_reducible exact LeO.none _)
      | (with_reducible refine LeO.ite ?_ ?_)
      | (with_reducible refine LeO.bind ?_ (fun _ => ?_))
      | exact ih0 _ _ _ _ _
      | exact ih1 _ _ _ _
      | exact slices_siftDownOrdered_string.mono _ _ _ _ _
      | exact LeO.none _
      | refine LeO.ite ?_ ?_
      | refine LeO.bind ?_ (fun _ => ?_)
    · intro y0 y1 y2 y3
      unfold slices_heapSortOrdered_string.l1
      repeat' first
      | (with_reducible exact ih0 _ _ _ _ _)
      | (with_reducible exact ih1 _ _ _ _)
      | (with_reducible exact slices_siftDownOrdered_string.mono _ _ _ _ _)
      | (with_reducible exact LeO.refl _)
      | (with_reducible exact LeO.none _)
      | (with_reducible refine LeO.ite ?_ ?_)
      | (with_reducible refine LeO.bind ?_ (fun _ => ?_))
      | exact ih0 _ _ _ _ _
      | exact ih1 _ _ _ _
      | exact slices_siftDownOrdered_string.mono _ _ _ _ _
      | exact LeO.none _
      | refine LeO.ite ?_ ?_
      | refine LeO.bind ?_ (fun _ => ?_)
theorem slices_heapSortOrdered_string.mono : ∀ a0 a1 a2 k, LeO (slices_heapSortOrdered_string.f k a0 a1 a2) (slices_heapSortOrdered_string.f (k + 1) a0 a1 a2) := by
  intro a0 a1 a2 k
  obtain ⟨ih0, ih1⟩ := slices_heapSortOrdered_string.mono_l k
  unfold slices_heapSortOrdered_string.f
  repeat' first
      | (with_reducible exact ih0 _ _ _ _ _)
      | (with_reducible exact ih1 _ _ _ _)
      | (with_reducible exact slices_siftDownOrdered_string.mono _ _ _ _ _)
      | (with_reducible exact LeO.refl _)
      | (with_reducible exact LeO.none _)
      | (with_reducible refine LeO.ite ?_ ?_)
      | (with_reducible refine LeO.bind ?_ (fun _ => ?_))
      | exact ih0 _ _ _ _ _
      | exact ih1 _ _ _ _
      | exact slices_siftDownOrdered_string.mono _ _ _ _ _
      | exact LeO.none _
      | refine LeO.ite ?_ ?_
      | refine LeO.bind ?_ (fun _ => ?_)

/-! ### slices_reverseRangeOrdered_string: function 101 -/
def slices_reverseRangeOrdered_string.l0 : Nat → List ByteArray → Int → Int → Option (List ByteArray)
  | 0, _, _, _ => none
  | k + 1, x0, x6, x7 => if x6 < x7 then (if 0 ≤ x7 then (if x7 < (x0.length : Int) then (if 0 ≤ x6 then (if x6 < (x0.length : Int) then (slices_reverseRangeOrdered_string.l0 k ((x0.set (x6 : Int).toNat (rdOf ByteArray.empty x0 x7)).set (x7 : Int).toNat (rdOf ByteArray.empty x0 x6)) (wrap64 (x6 + 1)) (wrap64 (x7 - 1))) else (none)) else (none)) else (none)) else (none)) else (some x0)
def slices_reverseRangeOrdered_string.f (k : Nat) (l0 : List ByteArray) (a1 : Int) (a2 : Int) : Option (List ByteArray) := slices_reverseRangeOrdered_string.l0 k l0 a1 (wrap64 (a2 - 1))
theorem slices_reverseRangeOrdered_string.mono_l : ∀ k, (∀ y0 y1 y2, LeO (slices_reverseRangeOrdered_string.l0 k y0 y1 y2) (slices_reverseRangeOrdered_string.l0 (k + 1) y0 y1 y2))
  | 0 => fun _ _ _ r h => by simp [slices_reverseRangeOrdered_string.l0] at h
  | k + 1 => by
    have ih0 := slices_reverseRangeOrdered_string.mono_l k
    · intro y0 y1 y2
      unfold slices_reverseRangeOrdered_string.l0
      repeat' first
      | (with_reducible exact ih0 _ _ _)
      | (with_reducible exact LeO.refl _)
      | (with_reducible exact LeO.none _)
      | (with_reducible refine LeO.ite ?_ ?_)
      | (with_reducible refine LeO.bind ?_ (fun _ => ?_))
      | exact ih0 _ _ _
      | exact LeO.none _
      | refine LeO.ite ?_ ?_
      | refine LeO.bind ?_ (fun _ => ?_)
theorem slices_reverseRangeOrdered_string.mono : ∀ a0 a1 a2 k, LeO (slices_reverseRangeOrdered_string.f k a0 a1 a2) (slices_reverseRangeOrdered_string.f (k + 1) a0 a1 a2) := by
  intro a0 a1 a2 k
  have ih0 := slices_reverseRangeOrdered_string.mono_l k
  unfold slices_reverseRangeOrdered_string.f
  repeat' first
      | (with_reducible exact ih0 _ _ _)
      | (with_reducible exact LeO.refl _)
      | (with_reducible exact LeO.none _)
      | (with_reducible refine LeO.ite ?_ ?_)
      | (with_reducible refine LeO.bind ?_ (fun _ => ?_))
      | exact ih0 _ _ _
      | exact LeO.none _
      | refine LeO.ite ?_ ?_
      | refine LeO.bind ?_ (fun _ => ?_)

/-! ### slices_partialInsertionSortOrdered_string: function 102 -/
mutual
def slices_partialInsertionSortOrdered_string.l0 : Nat → List ByteArray → Int → Int → Int → Int → Option (Bool × List ByteArray)
  | 0, _, _, _, _, _ => none
  | k + 1, x0, x1, x2, x7, x8 => if x8 < 5 then (slices_partialInsertionSortOrdered_string.l1 k x0 x1 x2 x7 x8) else (some (false, x0))
def slices_partialInsertionSortOrdered_string.j2 : Nat → List ByteArray → Int → Int → Int → Int → Option (Bool × List ByteArray)
  | 0, _, _, _, _, _ => none
  | k + 1, x0, x1, x2, x7, x8 => if x7 = x2 then (some (true, x0)) else (if (wrap64 (x2 - x1)) < 50 then (some (false, x0)) else (if 0 ≤ (wrap64 (x7 - 1)) then (if (wrap64 (x7 - 1)) < (x0.length : Int) then (if 0 ≤ x7 then (if x7 < (x0.length : Int) then ((some ((x0.set (x7 : Int).toNat (rdOf ByteArray.empty x0 (wrap64 (x7 - 1)))).set ((wrap64 (x7 - 1)) : Int).toNat (rdOf ByteArray.empty x0 x7) : List ByteArray)).bind fun y234 => (if (wrap64 (x7 - x1)) ≥ 2 then (slices_partialInsertionSortOrdered_string.l2 k y234 x1 x2 x7 x8 (wrap64 (x7 - 1))) else (slices_partialInsertionSortOrdered_string.j4 k y234 x1 x2 x7 x8))) else (none)) else (none)) else (none)) else (none)))
def slices_partialInsertionSortOrdered_string.j4 : Nat → List ByteArray → Int → Int → Int → Int → Option (Bool × List ByteArray)
  | 0, _, _, _, _, _ => none
  | k + 1, x0, x1, x2, x7, x8 => if (wrap64 (x2 - x7)) ≥ 2 then (slices_partialInsertionSortOrdered_string.l3 k x0 x1 x2 x7 x8 (wrap64 (x7 + 1))) else (slices_partialInsertionSortOrdered_string.l0 k x0 x1 x2 x7 (wrap64 (x8 + 1)))
def slices_partialInsertionSortOrdered_string.l3 : Nat → List ByteArray → Int → Int → Int → Int → Int → Option (Bool × List ByteArray)
  | 0, _, _, _, _, _, _ => none
  | k + 1, x0, x1, x2, x7, x8, x10 => if x10 < x2 then (if 0 ≤ x10 then (if x10 < (x0.length : Int) then (if 0 ≤ (wrap64 (x10 - 1)) then (if (wrap64 (x10 - 1)) < (x0.length : Int) then ((cmp_Less_string.f (rdOf ByteArray.empty x0 x10) (rdOf ByteArray.empty x0 (wrap64 (x10 - 1)))).bind fun t244 => (if t244 = true then (slices_partialInsertionSortOrdered_string.l3 k ((x0.set (x10 : Int).toNat (rdOf ByteArray.empty x0 (wrap64 (x10 - 1)))).set ((wrap64 (x10 - 1)) : Int).toNat (rdOf ByteArray.empty x0 x10)) x1 x2 x7 x8 (wrap64 (x10 + 1))) else (slices_partialInsertionSortOrdered_string.l0 k x0 x1 x2 x7 (wrap64 (x8 + 1))))) else (none)) else (none)) else (none)) else (none)) else (slices_partialInsertionSortOrdered_string.l0 k x0 x1 x2 x7 (wrap64 (x8 + 1)))
def slices_partialInsertionSortOrdered_string.l2 : Nat → List ByteArray → Int → Int → Int → Int → Int → Option (Bool × List ByteArray)
  | 0, _, _, _, _, _, _ => none
  | k + 1, x0, x1, x2, x7, x8, x9 => if x9 ≥ 1 then (if 0 ≤ x9 then (if x9 < (x0.length : Int) then (if 0 ≤ (wrap64 (x9 - 1)) then (if (wrap64 (x9 - 1)) < (x0.length : Int) then ((cmp_Less_string.f (rdOf ByteArray.empty x0 x9) (rdOf ByteArray.empty x0 (wrap64 (x9 - 1)))).bind fun t237 => (if t237 = true then (slices_partialInsertionSortOrdered_string.l2 k ((x0.set (x9 : Int).toNat (rdOf ByteArray.empty x0 (wrap64 (x9 - 1)))).set ((wrap64 (x9 - 1)) : Int).toNat (rdOf ByteArray.empty x0 x9)) x1 x2 x7 x8 (wrap64 (x9 - 1))) else (slices_partialInsertionSortOrdered_string.j4 k x0 x1 x2 x7 x8))) else (none)) else (none)) else (none)) else (none)) else (slices_partialInsertionSortOrdered_string.j4 k x0 x1 x2 x7 x8)
def slices_partialInsertionSortOrdered_string.l1 : Nat → List ByteArray → Int → Int → Int → Int → Option (Bool × List ByteArray)
  | 0, _, _, _, _, _ => none
  | k + 1, x0, x1, x2, x7, x8 => if x7 < x2 then (if 0 ≤ x7 then (if x7 < (x0.length : Int) then (if 0 ≤ (wrap64 (x7 - 1)) then (if (wrap64 (x7 - 1)) < (x0.length : Int) then ((cmp_Less_string.f (rdOf ByteArray.empty x0 x7) (rdOf ByteArray.empty x0 (wrap64 (x7 - 1)))).bind fun t230 => (if t230 = true then (slices_partialInsertionSortOrdered_string.j2 k x0 x1 x2 x7 x8) else (slices_partialInsertionSortOrdered_string.l1 k x0 x1 x2 (wrap64 (x7 + 1)) x8))) else (none)) else (none)) else (none)) else (none)) else (slices_partialInsertionSortOrdered_string.j2 k x0 x1 x2 x7 x8)
end
def slices_partialInsertionSortOrdered_string.f (k : Nat) (l0 : List ByteArray) (a1 : Int) (a2 : Int) : Option (Bool × List ByteArray) := slices_partialInsertionSortOrdered_string.l0 k l0 a1 a2 (wrap64 (a1 + 1)) 0
theorem slices_partialInsertionSortOrdered_string.mono_l : ∀ k, (∀ y0 y1 y2 y3 y4, LeO (slices_partialInsertionSortOrdered_string.l0 k y0 y1 y2 y3 y4) (slices_partialInsertionSortOrdered_string.l0 (k + 1) y0 y1 y2 y3 y4)) ∧ (∀ y0 y1 y2 y3 y4, LeO (slices_partialInsertionSortOrdered_string.j2 k y0 y1 y2 y3 y4) (slices_partialInsertionSortOrdered_string.j2 (k + 1) y0 y1 y2 y3 y4)) ∧ (∀ y0 y1 y2 y3 y4, LeO (slices_partialInsertionSortOrdered_string.j4 k y0 y1 y2 y3 y4) (slices_partialInsertionSortOrdered_string.j4 (k + 1) y0 y1 y2 y3 y4)) ∧ (∀ y0 y1 y2 y3 y4 y5, LeO (slices_partialInsertionSortOrdered_string.l3 k y0 y1 y2 y3 y4 y5) (slices_partialInsertionSortOrdered_string.l3 (k + 1) y0 y1 y2 y3 y4 y5)) ∧ (∀ y0 y1 y2 y3 y4 y5, LeO (slices_partialInsertionSortOrdered_string.l2 k y0 y1 y2 y3 y4 y5) (slices_partialInsertionSortOrdered_string.l2 (k + 1) y0 y1 y2 y3 y4 y5)) ∧ (∀ y0 y1 y2 y3 y4, LeO (slices_partialInsertionSortOrdered_string.l1 k y0 y1 y2 y3 y4) (slices_partialInsertionSortOrdered_string.l1 (k + 1) y0 y1 y2 y3 y4))
  | 0 => ⟨fun _ _ _ _ _ r h => by simp [slices_partialInsertionSortOrdered_string.l0] at h, fun _ _ _ _ _ r h => by simp [slices_partialInsertionSortOrdered_string.j2] at h, fun _ _ _ _ _ r h => by simp [slices_partialInsertionSortOrdered_string.j4] at h, fun _ _ _ _ _ _ r h => by simp [slices_partialInsertionSortOrdered_string.l3] at h, fun _ _ _ _ _ _ r h => by simp [slices_partialInsertionSortOrdered_string.l2] at h, fun _ _ _ _ _ r h => by simp [slices_partialInsertionSortOrdered_string.l1] at h⟩
  | k + 1 => by
    obtain ⟨ih0, ih1, ih2, ih3, ih4, ih5⟩ := slices_partialInsertionSortOrdered_string.mono_l k
    refine ⟨?_, ?_, ?_, ?_, ?_, ?_⟩
    · intro y0 y1 y2 y3 y4
      unfold slices_partialInsertionSortOrdered_string.l0
      repeat' first
      | (with_reducible exact ih0 _ _ _ _ _)
      | (with_reducible exact ih1 _ _ _ _ _)
      | (with_reducible exact ih2 _ _ _ _ _)
      | (with_reducible exact ih3 _ _ _ _ _ _)
      | (with_reducible exact ih4 _ _ _ _ _ _)
      | (with_reducible exact ih5 _ _ _ _ _)
      | (with_reducible exact LeO.refl _)
      | (with_reducible exact LeO.none _)
      | (with_reducible refine LeO.ite ?_ ?_)
      | (with_reducible refine LeO.bind ?_ (fun _ => ?_))
      | exact ih0 _ _ _ _ _
      | exact ih1 _ _ _ _ _
      | exact ih2 _ _ _ _ _
      | exact ih3 _ _ _ _ _ _
      | exact ih4 _ _ _ _ _ _
      | exact ih5 _ _ _ _ _
      | exact LeO.none _
      | refine LeO.ite ?_ ?_
      | refine LeO.bind ?_ (fun _ => ?_)
    · intro y0 y1 y2 y3 y4
      unfold slices_partialInsertionSortOrdered_string.j2
      repeat' first
      | (with_reducible exact ih0 _ _ _ _ _)
      | (with_reducible exact ih1 _ _ _ _ _)
      | (with_reducible exact ih2 _ _ _ _ _)
      | (with_reducible exact ih3 _ _ _ _ _ _)
      | (with_reducible exact ih4 _ _ _ _ _ _)
      | (with_reducible exact ih5 _ _ _ _ _)
      | (with_reducible exact LeO.refl _)
      | (with_reducible exact LeO.none _)
      | (with_reducible refine LeO.ite ?_ ?_)
      | (with_reducible refine LeO.bind ?_ (fun _ => ?_))
      | exact ih0 _ _ _ _ _
      | exact ih1 _ _ _ _ _
      | exact ih2 _ _ _ _ _
      | exact ih3 _ _ _ _ _ _
      | exact ih4 _ _ _ _ _ _
      | exact ih5 _ _ _ _ _
      | exact LeO.none _
      | refine LeO.ite ?_ ?_
      | refine LeO.bind ?_ (fun _ => ?_)
    · intro y0 y1 y2 y3 y4
      unfold slices_partialInsertionSortOrdered_string.j4
      repeat' first
      | (with_reducible exact ih0 _ _ _ _ _)
      | (with_reducible exact ih1 _ _ _ _ _)
      | (with_reducible exact ih2 _ _ _ _ _)
      | (with_reducible exact ih3 _ _ _ _ _ _)
      | (with_reducible exact ih4 _ _ _ _ _ _)
      | (with_reducible exact ih5 _ _ _ _ _)
      | (with_reducible exact LeO.refl _)
      | (with_reducible exact LeO.none _)
      | (with_reducible refine LeO.ite ?_ ?_)
      | (with_reducible refine LeO.bind ?_ (fun _ => ?_))
      | exact ih0 _ _ _ _ _
      | exact ih1 _ _ _ _ _
      | exact ih2 _ _ _ _ _
      | exact ih3 _ _ _ _ _ _
      | exact ih4 _ _ _ _ _ _
      | exact ih5 _ _ _ _ _
      | exact LeO.none _
      | refine LeO.ite ?_ ?_
      | refine LeO.bind ?_ (fun _ => ?_)
    · intro y0 y1 y2 y3 y4 y5
      unfold slices_partialInsertionSortOrdered_string.l3
      repeat' first
      | (with_reducible exact ih0 _ _ _ _ _)
      | (with_reducible exact ih1 _ _ _ _ _)
      | (with_reducible exact ih2 _ _ _ _ _)
      | (with_reducible exact ih3 _ _ _ _ _ _)
      | (with_reducible exact ih4 _ _ _ _ _ _)
      | (with_reducible exact ih5 _ _ _ _ _)
      | (with_reducible exact LeO.refl _)
      | (with_reducible exact LeO.none _)
      | (with_reducible refine LeO.ite ?_ ?_)
      | (with_reducible refine LeO.bind ?_ (fun _ => ?_))
      | exact ih0 _ _ _ _ _
      | exact ih1 _ _ _ _ _
      | exact ih2 _ _ _ _ _
      | exact ih3 _ _ _ _ _ _
      | exact ih4 _ _ _ _ _ _
      | exact ih5 _ _ _ _ _
      | exact LeO.none _
      | refine LeO.ite ?_ ?_
      | refine LeO.bind ?_ (fun _ => ?_)
    · intro y0 y1 y2 y3 y4 y5
      unfold slices_partialInsertionSortOrdered_string.l2
      repeat' first
      | (with_reducible exact ih0 _ _ _ _ _)
      | (with_reducible exact ih1 _ _ _ _ _)
      | (with_reducible exact ih2 _ _ _ _ _)
      | (with_reducible exact ih3 _ _ _ _ _ _)
      | (with_reducible exact ih4 _ _ _ _ _ _)
      | (with_reducible exact ih5 _ _ _ _ _)
      | (with_reducible exact LeO.refl _)
      | (with_reducible exact LeO.none _)
      | (with_reducible refine LeO.ite ?_ ?_)
      | (with_reducible refine LeO.bind ?_ (fun _ => ?_))
      | exact ih0 _ _ _ _ _
      | exact ih1 _ _ _ _ _
      | exact ih2 _ _ _ _ _
      | exact ih3 _ _ _ _ _ _
      | exact ih4 _ _ _ _ _ _
      | exact ih5 _ _ _ _ _
      | exact LeO.none _
      | refine LeO.ite ?_ ?_
      | refine LeO.bind ?_ (fun _ => ?_)
    · intro y0 y1 y2 y3 y4
      unfold slices_partialInsertionSortOrdered_string.l1
      repeat' first
      | (with_reducible exact ih0 _ _ _ _ _)
      | (with_reducible exact ih1 _ _ _ _ _)
      | (with_reducible exact ih2 _ _ _ _ _)
      | (with_reducible exact ih3 _ _ _ _ _ _)
      | (with_reducible exact ih4 _ _ _ _ _ _)
      | (with_reducible exact ih5 _ _ _ _ _)
      | (with_reducible exact LeO.refl _)
      | (with_reducible exact LeO.none _)
      | (with_reducible refine LeO.ite ?_ ?_)
      | (with_reducible refine LeO.bind ?_ (fun _ => ?_))
      | exact ih0 _ _ _ _ _
      | exact ih1 _ _ _ _ _
      | exact ih2 _ _ _ _ _
      | exact ih3 _ _ _ _ _ _
      | exact ih4 _ _ _ _ _ _
      | exact ih5 _ _ _ _ _
      | exact LeO.none _
      | refine LeO.ite ?_ ?_
      | refine LeO.bind ?_ (fun _ => ?_)
theorem slices_partialInsertionSortOrdered_string.mono : ∀ a0 a1 a2 k, LeO (slices_partialInsertionSortOrdered_string.f k a0 a1 a2) (slices_partialInsertionSortOrdered_string.f (k + 1) a0 a1 a2) := by
  intro a0 a1 a2 k
  obtain ⟨ih0, ih1, ih2, ih3, ih4, ih5⟩ := slices_partialInsertionSortOrdered_string.mono_l k
  unfold slices_partialInsertionSortOrdered_string.f
  repeat' first
      | (with_reducible exact ih0 _ _ _ _ _)
      | (with_reducible exact ih1 _ _ _ _ _)
      | (with_reducible exact ih2 _ _ _ _ _)
      | (with_reducible exact ih3 _ _ _ _ _ _)
      | (with_reducible exact ih4 _ _ _ _ _ _)
      | (with_reducible exact ih5 _ _ _ _ _)
      | (with_reducible exact LeO.refl _)
      | (with_reducible exact LeO.none _)
      | (with_reducible refine LeO.ite ?_ ?_)
      | (with_reducible refine LeO.bind ?_ (fun _ => ?_))
      | exact ih0 _ _ _ _ _
      | exact ih1 _ _ _ _ _
      | exact ih2 _ _ _ _ _
      | exact ih3 _ _ _ _ _ _
      | exact ih4 _ _ _ _ _ _
      | exact ih5 _ _ _ _ _
      | exact LeO.none _
      | refine LeO.ite ?_ ?_
      | refine LeO.bind ?_ (fun _ => ?_)

/-! ### slices_partitionEqualOrdered_string: function 104 -/
mutual
def slices_partitionEqualOrdered_string.l0 : Nat → List ByteArray → Int → Int → Int → Option (Int × List ByteArray)
  | 0, _, _, _, _ => none
  | k + 1, x0, x1, x9, x10 => slices_partitionEqualOrdered_string.l1 k x0 x1 x9 x10
def slices_partitionEqualOrdered_string.j2 : Nat → List ByteArray → Int → Int → Int → Option (Int × List ByteArray)
  | 0, _, _, _, _ => none
  | k + 1, x0, x1, x9, x10 => slices_partitionEqualOrdered_string.l2 k x0 x1 x9 x10
def slices_partitionEqualOrdered_string.l2 : Nat → List ByteArray → Int → Int → Int → Option (Int × List ByteArray)
  | 0, _, _, _, _ => none
  | k + 1, x0, x1, x9, x10 => if x9 ≤ x10 then (if 0 ≤ x1 then (if x1 < (x0.length : Int) then (if 0 ≤ x10 then (if x10 < (x0.length : Int) then ((cmp_Less_string.f (rdOf ByteArray.empty x0 x1) (rdOf ByteArray.empty x0 x10)).bind fun t258 => (if t258 = true then (slices_partitionEqualOrdered_string.l2 k x0 x1 x9 (wrap64 (x10 - 1))) else (if x9 > x10 then (some (x9, x0)) else (if 0 ≤ x9 then (if x9 < (x0.length : Int) then (slices_partitionEqualOrdered_string.l0 k ((x0.set (x9 : Int).toNat (rdOf ByteArray.empty x0 x10)).set (x10 : Int).toNat (rdOf ByteArray.empty x0 x9)) x1 (wrap64 (x9 + 1)) (wrap64 (x10 - 1))) else (none)) else (none))))) else (none)) else (none)) else (none)) else (none)) else (if x9 > x10 then (some (x9, x0)) else (if 0 ≤ x10 then (if x10 < (x0.length : Int) then (if 0 ≤ x9 then (if x9 < (x0.length : Int) then (slices_partitionEqualOrdered_string.l0 k ((x0.set (x9 : Int).toNat (rdOf ByteArray.empty x0 x10)).set (x10 : Int).toNat (rdOf ByteArray.empty x0 x9)) x1 (wrap64 (x9 + 1)) (wrap64 (x10 - 1))) else (none)) else (none)) else (none)) else (none)))
def slices_partitionEqualOrdered_string.l1 : Nat → List ByteArray → Int → Int → Int → Option (Int × List ByteArray)
  | 0, _, _, _, _ => none
  | k + 1, x0, x1, x9, x10 => if x9 ≤ x10 then (if 0 ≤ x1 then (if x1 < (x0.length : Int) then (if 0 ≤ x9 then (if x9 < (x0.length : Int) then ((cmp_Less_string.f (rdOf ByteArray.empty x0 x1) (rdOf ByteArray.empty x0 x9)).bind fun t255 => (if t255 = true then (slices_partitionEqualOrdered_string.j2 k x0 x1 x9 x10) else (slices_partitionEqualOrdered_string.l1 k x0 x1 (wrap64 (x9 + 1)) x10))) else (none)) else (none)) else (none)) else (none)) else (slices_partitionEqualOrdered_string.j2 k x0 x1 x9 x10)
end
def slices_partitionEqualOrdered_string.f (k : Nat) (l0 : List ByteArray) (a1 : Int) (a2 : Int) (a3 : Int) : Option (Int × List ByteArray) := if 0 ≤ a3 then (if a3 < (l0.length : Int) then (if 0 ≤ a1 then (if a1 < (l0.length : Int) then (slices_partitionEqualOrdered_string.l0 k ((l0.set (a1 : Int).toNat (rdOf ByteArray.empty l0 a3)).set (a3 : Int).toNat (rdOf ByteArray.empty l0 a1)) a1 (wrap64 (a1 + 1)) (wrap64 (a2 - 1))) else (none)) else (none)) else (none)) else (none)
theorem slices_partitionEqualOrdered_string.mono_l : ∀ k, (∀ y0 y1 y2 y3, LeO (slices_partitionEqualOrdered_string.l0 k y0 y1 y2 y3) (slices_partitionEqualOrdered_string.l0 (k + 1) y0 y1 y2 y3)) ∧ (∀ y0 y1 y2 y3, LeO (slices_partitionEqualOrdered_string.j2 k y0 y1 y2 y3) (slices_partitionEqualOrdered_string.j2 (k + 1) y0 y1 y2 y3)) ∧ (∀ y0 y1 y2 y3, LeO (slices_partitionEqualOrdered_string.l2 k y0 y1 y2 y3) (slices_partitionEqualOrdered_string.l2 (k + 1) y0 y1 y2 y3)) ∧ (∀ y0 y1 y2 y3, LeO (slices_partitionEqualOrdered_string.l1 k y0 y1 y2 y3) (slices_partitionEqualOrdered_string.l1 (k + 1) y0 y1 y2 y3))
  | 0 => ⟨fun _ _ _ _ r h => by simp [slices_partitionEqualOrdered_string.l0] at h, fun _ _ _ _ r h => by simp [slices_partitionEqualOrdered_string.j2] at h, fun _ _ _ _ r h => by simp [slices_partitionEqualOrdered_string.l2] at h, fun _ _ _ _ r h => by simp [slices_partitionEqualOrdered_string.l1] at h⟩
  | k + 1 => by
    obtain ⟨ih0, ih1, ih2, ih3⟩ := slices_partitionEqualOrdered_string.mono_l k
    refine ⟨?_, ?_, ?_, ?_⟩
    · intro y0 y1 y2 y3
      unfold slices_partitionEqualOrdered_string.l0
      repeat' first
      | (with_reducible exact ih0 _ _ _ _)
      | (with_reducible exact ih1 _ _ _ _)
      | (with_reducible exact ih2 _ _ _ _)
      | (with_reducible exact ih3 _ _ _ _)
      | (with_reducible exact LeO.refl _)
      | (with_reducible exact LeO.none _)
      | (with_reducible refine LeO.ite ?_ ?_)
      | (with_reducible refine LeO.bind ?_ (fun _ => ?_))
      | exact ih0 _ _ _ _
      | exact ih1 _ _ _ _
      | exact ih2 _ _ _ _
      | exact ih3 _ _ _ _
      | exact LeO.none _
      | refine LeO.ite ?_ ?_
      | refine LeO.bind ?_ (fun _ => ?_)
    · intro y0 y1 y2 y3
      unfold slices_partitionEqualOrdered_string.j2
      repeat' first
      | (with_reducible exact ih0 _ _ _ _)
      | (with_reducible exact ih1 _ _ _ _)
      | (with_reducible exact ih2 _ _ _ _)
      | (with_reducible exact ih3 _ _ _ _)
      | (with_reducible exact LeO.refl _)
      | (with_reducible exact LeO.none _)
      | (with_reducible refine LeO.ite ?_ ?_)
      | (with_reducible refine LeO.bind ?_ (fun _ => ?_))
      | exact ih0 _ _ _ _
      | exact ih1 _ _ _ _
      | exact ih2 _ _ _ _
      | exact ih3 _ _ _ _
      | exact LeO.none _
      | refine LeO.ite ?_ ?_
      | refine LeO.bind ?_ (fun _ => ?_)
    · intro y0 y1 y2 y3
      unfold slices_partitionEqualOrdered_string.l2
      repeat' first
      | (with_reducible exact ih0 _ _ _ _)
      | (with_reducible exact ih1 _ _ _ _)
      | (with_reducible exact ih2 _ _ _ _)
      | (with_reducible exact ih3 _ _ _ _)
      | (with_reducible exact LeO.refl _)
      | (with_reducible exact LeO.none _)
      | (with_reducible refine LeO.ite ?_ ?_)
      | (with_reducible refine LeO.bind ?_ (fun _ => ?_))
      | exact ih0 _ _ _ _
      | exact ih1 _ _ _ _
      | exact ih2 _ _ _ _
      | exact ih3 _ _ _ _
      | exact LeO.none _
      | refine LeO.ite ?_ ?_
      | refine LeO.bind ?_ (fun _ => ?_)
    · intro y0 y1 y2 y3
      unfold slices_partitionEqualOrdered_string.l1
      repeat' first
      | (with_reducible exact ih0 _ _ _ _)
      | (with_reducible exact ih1 _ _ _ _)
      | (with_reducible exact ih2 _ _ _ _)
      | (with_reducible exact ih3 _ _ _ _)
      | (with_reducible exact LeO.refl _)
      | (with_reducible exact LeO.none _)
      | (with_reducible refine LeO.ite ?_ ?_)
      | (with_reducible refine LeO.bind ?_ (fun _ => ?_))
      | exact ih0 _ _ _ _
      | exact ih1 _ _ _ _
      | exact ih2 _ _ _ _
      | exact ih3 _ _ _ _
      | exact LeO.none _
      | refine LeO.ite ?_ ?_
      | refine LeO.bind ?_ (fun _ => ?_)
theorem slices_partitionEqualOrdered_string.mono : ∀ a0 a1 a2 a3 k, LeO (slices_partitionEqualOrdered_string.f k a0 a1 a2 a3) (slices_partitionEqualOrdered_string.f (k + 1) a0 a1 a2 a3) := by
  intro a0 a1 a2 a3 k
  obtain ⟨ih0, ih1, ih2, ih3⟩ := slices_partitionEqualOrdered_string.mono_l k
  unfold slices_partitionEqualOrdered_string.f
  repeat' first
      | (with_reducible exact ih0 _ _ _ _)
      | (with_reducible exact ih1 _ _ _ _)
      | (with_reducible exact ih2 _ _ _ _)
      | (with_reducible exact ih3 _ _ _ _)
      | (with_reducible exact LeO.refl _)
      | (with_reducible exact LeO.none _)
      | (with_reducible refine LeO.ite ?_ ?_)
      | (with_reducible refine LeO.bind ?_ (fun _ => ?_))
      | exact ih0 _ _ _ _
      | exact ih1 _ _ _ _
      | exact ih2 _ _ _ _
      | exact ih3 _ _ _ _
      | exact LeO.none _
      | refine LeO.ite ?_ ?_
      | refine LeO.bind ?_ (fun _ => ?_)

/-! ### slices_partitionOrdered_string: function 105 -/
mutual
def slices_partitionOrdered_string.j1 : Nat → List ByteArray → Int → Int → Int → Option (Int × Bool × List ByteArray)
  | 0, _, _, _, _ => none
  | k + 1, x0, x1, x10, x11 => slices_partitionOrdered_string.l1 k x0 x1 x10 x11
def slices_partitionOrdered_string.j3 : Nat → List ByteArray → Int → Int → Int → Option (Int × Bool × List ByteArray)
  | 0, _, _, _, _ => none
  | k + 1, x0, x1, x10, x11 => if x10 > x11 then (if 0 ≤ x1 then (if x1 < (x0.length : Int) then (if 0 ≤ x11 then (if x11 < (x0.length : Int) then (some (x11, true, ((x0.set (x11 : Int).toNat (rdOf ByteArray.empty x0 x1)).set (x1 : Int).toNat (rdOf ByteArray.empty x0 x11)))) else (none)) else (none)) else (none)) else (none)) else (if 0 ≤ x11 then (if x11 < (x0.length : Int) then (if 0 ≤ x10 then (if x10 < (x0.length : Int) then (slices_partitionOrdered_string.l2 k ((x0.set (x10 : Int).toNat (rdOf ByteArray.empty x0 x11)).set (x11 : Int).toNat (rdOf ByteArray.empty x0 x10)) x1 (wrap64 (x10 + 1)) (wrap64 (x11 - 1))) else (none)) else (none)) else (none)) else (none))
def slices_partitionOrdered_string.l2 : Nat → List ByteArray → Int → Int → Int → Option (Int × Bool × List ByteArray)
  | 0, _, _, _, _ => none
  | k + 1, x0, x1, x10, x11 => slices_partitionOrdered_string.l3 k x0 x1 x10 x11
def slices_partitionOrdered_string.j6 : Nat → List ByteArray → Int → Int → Int → Option (Int × Bool × List ByteArray)
  | 0, _, _, _, _ => none
  | k + 1, x0, x1, x10, x11 => slices_partitionOrdered_string.l4 k x0 x1 x10 x11
def slices_partitionOrdered_string.l4 : Nat → List ByteArray → Int → Int → Int → Option (Int × Bool × List ByteArray)
  | 0, _, _, _, _ => none
  | k + 1, x0, x1, x10, x11 => if x10 ≤ x11 then (if 0 ≤ x11 then (if x11 < (x0.length : Int) then (if 0 ≤ x1 then (if x1 < (x0.length : Int) then ((cmp_Less_string.f (rdOf ByteArray.empty x0 x11) (rdOf ByteArray.empty x0 x1)).bind fun t290 => (if t290 = true then (if x10 > x11 then (some (x11, false, ((x0.set (x11 : Int).toNat (rdOf ByteArray.empty x0 x1)).set (x1 : Int).toNat (rdOf ByteArray.empty x0 x11)))) else (if 0 ≤ x10 then (if x10 < (x0.length : Int) then (slices_partitionOrdered_string.l2 k ((x0.set (x10 : Int).toNat (rdOf ByteArray.empty x0 x11)).set (x11 : Int).toNat (rdOf ByteArray.empty x0 x10)) x1 (wrap64 (x10 + 1)) (wrap64 (x11 - 1))) else (none)) else (none))) else (slices_partitionOrdered_string.l4 k x0 x1 x10 (wrap64 (x11 - 1))))) else (none)) else (none)) else (none)) else (none)) else (if x10 > x11 then (if 0 ≤ x1 then (if x1 < (x0.length : Int) then (if 0 ≤ x11 then (if x11 < (x0.length : Int) then (some (x11, false, ((x0.set (x11 : Int).toNat (rdOf ByteArray.empty x0 x1)).set (x1 : Int).toNat (rdOf ByteArray.empty x0 x11)))) else (none)) else (none)) else (none)) else (none)) else (if 0 ≤ x11 then (if x11 < (x0.length : Int) then (if 0 ≤ x10 then (if x10 < (x0.length : Int) then (slices_partitionOrdered_string.l2 k ((x0.set (x10 : Int).toNat (rdOf ByteArray.empty x0 x11)).set (x11 : Int).toNat (rdOf ByteArray.empty x0 x10)) x1 (wrap64 (x10 + 1)) (wrap64 (x11 - 1))) else (none)) else (none)) else (none)) else (none)))
def slices_partitionOrdered_string.l3 : Nat → List ByteArray → Int → Int → Int → Option (Int × Bool × List ByteArray)
  | 0, _, _, _, _ => none
  | k + 1, x0, x1, x10, x11 => if x10 ≤ x11 then (if 0 ≤ x10 then (if x10 < (x0.length : Int) then (if 0 ≤ x1 then (if x1 < (x0.length : Int) then ((cmp_Less_string.f (rdOf ByteArray.empty x0 x10) (rdOf ByteArray.empty x0 x1)).bind fun t287 => (if t287 = true then (slices_partitionOrdered_string.l3 k x0 x1 (wrap64 (x10 + 1)) x11) else (slices_partitionOrdered_string.j6 k x0 x1 x10 x11))) else (none)) else (none)) else (none)) else (none)) else (slices_partitionOrdered_string.j6 k x0 x1 x10 x11)
def slices_partitionOrdered_string.l1 : Nat → List ByteArray → Int → Int → Int → Option (Int × Bool × List ByteArray)
  | 0, _, _, _, _ => none
  | k + 1, x0, x1, x10, x11 => if x10 ≤ x11 then (if 0 ≤ x11 then (if x11 < (x0.length : Int) then (if 0 ≤ x1 then (if x1 < (x0.length : Int) then ((cmp_Less_string.f (rdOf ByteArray.empty x0 x11) (rdOf ByteArray.empty x0 x1)).bind fun t276 => (if t276 = true then (slices_partitionOrdered_string.j3 k x0 x1 x10 x11) else (slices_partitionOrdered_string.l1 k x0 x1 x10 (wrap64 (x11 - 1))))) else (none)) else (none)) else (none)) else (none)) else (slices_partitionOrdered_string.j3 k x0 x1 x10 x11)
def slices_partitionOrdered_string.l0 : Nat → List ByteArray → Int → Int → Int → Option (Int × Bool × List ByteArray)
  | 0, _, _, _, _ => none
  | k + 1, x0, x1, x10, x11 => if x10 ≤ x11 then (if 0 ≤ x10 then (if x10 < (x0.length : Int) then (if 0 ≤ x1 then (if x1 < (x0.length : Int) then ((cmp_Less_string.f (rdOf ByteArray.empty x0 x10) (rdOf ByteArray.empty x0 x1)).bind fun t273 => (if t273 = true then (slices_partitionOrdered_string.l0 k x0 x1 (wrap64 (x10 + 1)) x11) else (slices_partitionOrdered_string.j1 k x0 x1 x10 x11))) else (none)) else (none)) else (none)) else (none)) else (slices_partitionOrdered_string.j1 k x0 x1 x10 x11)
end
def slices_partitionOrdered_string.f (k : Nat) (l0 : List ByteArray) (a1 : Int) (a2 : Int) (a3 : Int) : Option (Int × Bool × List ByteArray) := if 0 ≤ a3 then (if a3 < (l0.length : Int) then (if 0 ≤ a1 then (if a1 < (l0.length : Int) then (slices_partitionOrdered_string.l0 k ((l0.set (a1 : Int).toNat (rdOf ByteArray.empty l0 a3)).set (a3 : Int).toNat (rdOf ByteArray.empty l0 a1)) a1 (wrap64 (a1 + 1)) (wrap64 (a2 - 1))) else (none)) else (none)) else (none)) else (none)
theorem slices_partitionOrdered_string.mono_l : ∀ k, (∀ y0 y1 y2 y3, LeO (slices_partitionOrdered_string.j1 k y0 y1 y2 y3) (slices_partitionOrdered_string.j1 (k + 1) y0 y1 y2 y3)) ∧ (∀ y0 y1 y2 y3, LeO (slices_partitionOrdered_string.j3 k y0 y1 y2 y3) (slices_partitionOrdered_string.j3 (k + 1) y0 y1 y2 y3)) ∧ (∀ y0 y1 y2 y3, LeO (slices_partitionOrdered_string.l2 k y0 y1 y2 y3) (slices_partitionOrdered_string.l2 (k + 1) y0 y1 y2 y3)) ∧ (∀ y0 y1 y2 y3, LeO (slices_partitionOrdered_string.j6 k y0 y1 y2 y3) (slices_partitionOrdered_string.j6 (k + 1) y0 y1 y2 y3)) ∧ (∀ y0 y1 y2 y3, LeO (slices_partitionOrdered_string.l4 k y0 y1 y2 y3) (slices_partitionOrdered_string.l4 (k + 1) y0 y1 y2 y3)) ∧ (∀ y0 y1 y2 y3, LeO (slices_partitionOrdered_string.l3 k y0 y1 y2 y3) (slices_partitionOrdered_string.l3 (k + 1) y0 y1 y2 y3)) ∧ (∀ y0 y1 y2 y3, LeO (slices_partitionOrdered_string.l1 k y0 y1 y2 y3) (slices_partitionOrdered_string.l1 (k + 1) y0 y1 y2 y3)) ∧ (∀ y0 y1 y2 y3, LeO (slices_partitionOrdered_string.l0 k y0 y1 y2 y3) (slices_partitionOrdered_string.l0 (k + 1) y0 y1 y2 y3))
  | 0 => ⟨fun _ _ _ _ r h => by simp [slices_partitionOrdered_string.j1] at h, fun _ _ _ _ r h => by simp [slices_partitionOrdered_string.j3] at h, fun _ _ _ _ r h => by simp [slices_partitionOrdered_string.l2] at h, fun _ _ _ _ r h => by simp [slices_partitionOrdered_string.j6] at h, fun _ _ _ _ r h => by simp [slices_partitionOrdered_string.l4] at h, fun _ _ _ _ r h => by simp [slices_partitionOrdered_string.l3] at h, fun _ _ _ _ r h => by simp [slices_partitionOrdered_string.l1] at h, fun _ _ _ _ r h => by simp [slices_partitionOrdered_string.l0] at h⟩
  | k + 1 => by
    obtain ⟨ih0, ih1, ih2, ih3, ih4, ih5, ih6, ih7⟩ := slices_partitionOrdered_string.mono_l k
    refine ⟨?_, ?_, ?_, ?_, ?_, ?_, ?_, ?_⟩
    · intro y0 y1 y2 y3
      unfold slices_partitionOrdered_string.j1
      repeat' first
      | (with_reducible exact ih0 _ _ _ _)
      | (with_reducible exact ih1 _ _ _ _)
      | (with_reducible exact ih2 _ _ _ _)
      | (with_reducible exact ih3 _ _ _ _)
      | (with_reducible exact ih4 _ _ _ _)
      | (with_reducible exact ih5 _ _ _ _)
      | (with_reducible exact ih6 _ _ _ _)
      | (with_reducible exact ih7 _ _ _ _)
      | (with_reducible exact LeO.refl _)
      | (with_reducible exact LeO.none _)
      | (with_reducible refine LeO.ite ?_ ?_)
      | (with_reducible refine LeO.bind ?_ (fun _ => ?_))
      | exact ih0 _ _ _ _
      | exact ih1 _ _ _ _
      | exact ih2 _ _ _ _
      | exact ih3 _ _ _ _
      | exact ih4 _ _ _ _
      | exact ih5 _ _ _ _
      | exact ih6 _ _ _ _
      | exact ih7 _ _ _ _
      | exact LeO.none _
      | refine LeO.ite ?_ ?_
      | refine LeO.bind ?_ (fun _ => ?_)
    · intro y0 y1 y2 y3
      unfold slices_partitionOrdered_string.j3
      repeat' first
      | (with_reducible exact ih0 _ _ _ _)
      | (with_reducible exact ih1 _ _ _ _)
      | (with_reducible exact ih2 _ _ _ _)
      | (with_reducible exact ih3 _ _ _ _)
      | (with_reducible exact ih4 _ _ _ _)
      | (with_reducible exact ih5 _ _ _ _)
      | (with_reducible exact ih6 _ _ _ _)
      | (with_reducible exact ih7 _ _ _ _)
      | (with_reducible exact LeO.refl _)
      | (with_reducible exact LeO.none _)
      | (with_reducible refine LeO.ite ?_ ?_)
      | (with_reducible refine LeO.bind ?_ (fun _ => ?_))
      | exact ih0 _ _ _ _
      | exact ih1 _ _ _ _
      | exact ih2 _ _ _ _
      | exact ih3 _ _ _ _
      | exact ih4 _ _ _ _
      | exact ih5 _ _ _ _
      | exact ih6 _ _ _ _
      | exact ih7 _ _ _ _
      | exact LeO.none _
      | refine LeO.ite ?_ ?_
      | refine LeO.bind ?_ (fun _ => ?_)
    · intro y0 y1 y2 y3
      unfold slices_partitionOrdered_string.l2
      repeat' first
      | (with_reducible exact ih0 _ _ _ _)
      | (with_reducible exact ih1 _ _ _ _)
      | (with_reducible exact ih2 _ _ _ _)
      | (with_reducible exact ih3 _ _ _ _)
      | (with_reducible exact ih4 _ _ _ _)
      | (with_reducible exact ih5 _ _ _ _)
      | (with_reducible exact ih6 _ _ _ _)
      | (with_reducible exact ih7 _ _ _ _)
      | (with_reducible exact LeO.refl _)
      | (with_reducible exact LeO.none _)
      | (with_reducible refine LeO.ite ?_ ?_)
      | (with_reducible refine LeO.bind ?_ (fun _ => ?_))
      | exact ih0 _ _ _ _
      | exact ih1 _ _ _ _
      | exact ih2 _ _ _ _
      | exact ih3 _ _ _ _
      | exact ih4 _ _ _ _
      | exact ih5 _ _ _ _
      | exact ih6 _ _ _ _
      | exact ih7 _ _ _ _
      | exact LeO.none _
      | refine LeO.ite ?_ ?_
      | refine LeO.bind ?_ (fun _ => ?_)
    · intro y0 y1 y2 y3
      unfold slices_partitionOrdered_string.j6
      repeat' first
      | (with_reducible exact ih0 _ _ _ _)
      | (with_reducible exact ih1 _ _ _ _)
      | (with_reducible exact ih2 _ _ _ _)
      | (with_reducible exact ih3 _ _ _ _)
      | (with_reducible exact ih4 _ _ _ _)
      | (with_reducible exact ih5 _ _ _ _)
      | (with_reducible exact ih6 _ _ _ _)
      | (with_reducible exact ih7 _ _ _ _)
      | (with_reducible exact LeO.refl _)
      | (with_reducible exact LeO.none _)
      | (with_reducible refine LeO.ite ?_ ?_)
      | (with_reducible refine LeO.bind ?_ (fun _ => ?_))
      | exact ih0 _ _ _ _
      | exact ih1 _ _ _ _
      | exact ih2 _ _ _ _
      | exact ih3 _ _ _ _
      | exact ih4 _ _ _ _
      | exact ih5 _ _ _ _
      | exact ih6 _ _ _ _
      | exact ih7 _ _ _ _
      | exact LeO.none _
      | refine LeO.ite ?_ ?_
      | refine LeO.bind ?_ (fun _ => ?_)
    · intro y0 y1 y2 y3
      unfold slices_partitionOrdered_string.l4
      repeat' first
      | (with_reducible exact ih0 _ _ _ _)
      | (with_reducible exact ih1 _ _ _ _)
      | (with_reducible exact ih2 _ _ _ _)
      | (with_reducible exact ih3 _ _ _ _)
      | (with_reducible exact ih4 _ _ _ _)
      | (with_reducible exact ih5 _ _ _ _)
      | (with_reducible exact ih6 _ _ _ _)
      | (with_reducible exact ih7 _ _ _ _)
      | (with_reducible exact LeO.refl _)
      | (with_reducible exact LeO.none _)
      | (with_reducible refine LeO.ite ?_ ?_)
      | (with_reducible refine LeO.bind ?_ (fun _ => ?_))
      | exact ih0 _ _ _ _
      | exact ih1 _ _ _ _
      | exact ih2 _ _ _ _
      | exact ih3 _ _ _ _
      | exact ih4 _ _ _ _
      | exact ih5 _ _ _ _
      | exact ih6 _ _ _ _
      | exact ih7 _ _ _ _
      | exact LeO.none _
      | refine LeO.ite ?_ ?_
      | refine LeO.bind ?_ (fun _ => ?_)
    · intro y0 y1 y2 y3
      unfold slices_partitionOrdered_string.l3
      repeat' first
      | (with_reducible exact ih0 _ _ _ _)
      | (with_reducible exact ih1 _ _ _ _)
      | (with_reducible exact ih2 _ _ _ _)
      | (with_reducible exact ih3 _ _ _ _)
      | (with_reducible exact ih4 _ _ _ _)
      | (with_reducible exact ih5 _ _ _ _)
      | (with_reducible exact ih6 _ _ _ _)
      | (with_reducible exact ih7 _ _ _ _)
      | (with_reducible exact LeO.refl _)
      | (with_reducible exact LeO.none _)
      | (with_reducible refine LeO.ite ?_ ?_)
      | (with_reducible refine LeO.bind ?_ (fun _ => ?_))
      | exact ih0 _ _ _ _
      | exact ih1 _ _ _ _
      | exact ih2 _ _ _ _
      | exact ih3 _ _ _ _
      | exact ih4 _ _ _ _
      | exact ih5 _ _ _ _
      | exact ih6 _ _ _ _
      | exact ih7 _ _ _ _
      | exact LeO.none _
      | refine LeO.ite ?_ ?_
      | refine LeO.bind ?_ (fun _ => ?_)
    · intro y0 y1 y2 y3
      unfold slices_partitionOrdered_string.l1
      repeat' first
      | (with_reducible exact ih0 _ _ _ _)
      | (with_reducible exact ih1 _ _ _ _)
      | (with_reducible exact ih2 _ _ _ _)
      | (with_reducible exact ih3 _ _ _ _)
      | (with_reducible exact ih4 _ _ _ _)
      | (with_reducible exact ih5 _ _ _ _)
      | (with_reducible exact ih6 _ _ _ _)
      | (with_reducible exact ih7 _ _ _ _)
      | (with_reducible exact LeO.refl _)
      | (with_reducible exact LeO.none _)
      | (with_reducible refine LeO.ite ?_ ?_)
      | (with_reducible refine LeO.bind ?_ (fun _ => ?_))
      | exact ih0 _ _ _ _
      | exact ih1 _ _ _ _
      | exact ih2 _ _ _ _
      | exact ih3 _ _ _ _
      | exact ih4 _ _ _ _
      | exact ih5 _ _ _ _
      | exact ih6 _ _ _ _
      | exact ih7 _ _ _ _
      | exact LeO.none _
      | refine LeO.ite ?_ ?_
      | refine LeO.bind ?_ (fun _ => ?_)
    · intro y0 y1 y2 y3
      unfold slices_partitionOrdered_string.l0
      repeat' first
      | (with_reducible exact ih0 _ _ _ _)
      | (with_reducible exact ih1 _ _ _ _)
      | (with_reducible exact ih2 _ _ _ _)
      | (with_reducible exact ih3 _ _ _ _)
      | (with_reducible exact ih4 _ _ _ _)
      | (with_reducible exact ih5 _ _ _ _)
      | (with_reducible exact ih6 _ _ _ _)
      | (with_reducible exact ih7 _ _ _ _)
      | (with_reducible exact LeO.refl _)
      | (with_reducible exact LeO.none _)
      | (with_reducible refine LeO.ite ?_ ?_)
      | (with_reducible refine LeO.bind ?_ (fun _ => ?_))
      | exact ih0 _ _ _ _
      | exact ih1 _ _ _ _
      | exact ih2 _ _ _ _
      | exact ih3 _ _ _ _
      | exact ih4 _ _ _ _
      | exact ih5 _ _ _ _
      | exact ih6 _ _ _ _
      | exact ih7 _ _ _ _
      | exact LeO.none _
      | refine LeO.ite ?_ ?_
      | refine LeO.bind ?_ (fun _ => ?_)
theorem slices_partitionOrdered_string.mono : ∀ a0 a1 a2 a3 k, LeO (slices_partitionOrdered_string.f k a0 a1 a2 a3) (slices_partitionOrdered_string.f (k + 1) a0 a1 a2 a3) := by
  intro a0 a1 a2 a3 k
  obtain ⟨ih0, ih1, ih2, ih3, ih4, ih5, ih6, ih7⟩ := slices_partitionOrdered_string.mono_l k
  unfold slices_partitionOrdered_string.f
  repeat' first
      | (with_reducible exact ih0 _ _ _ _)
      | (with_reducible exact ih1 _ _ _ _)
      | (with_reducible exact ih2 _ _ _ _)
      | (with_reducible exact ih3 _ _ _ _)
      | (with_reducible exact ih4 _ _ _ _)
      | (with_reducible exact ih5 _ _ _ _)
      | (with_reducible exact ih6 _ _ _ _)
      | (with_reducible exact ih7 _ _ _ _)
      | (with_reducible exact LeO.refl _)
      | (with_reducible exact LeO.none _)
      | (with_reducible refine LeO.ite ?_ ?_)
      | (with_reducible refine LeO.bind ?_ (fun _ => ?_))
      | exact ih0 _ _ _ _
      | exact ih1 _ _ _ _
      | exact ih2 _ _ _ _
      | exact ih3 _ _ _ _
      | exact ih4 _ _ _ _
      | exact ih5 _ _ _ _
      | exact ih6 _ _ _ _
      | exact ih7 _ _ _ _
      | exact LeO.none _
      | refine LeO.ite ?_ ?_
      | refine LeO.bind ?_ (fun _ => ?_)

/-! ### slices_Sort_string_string: function 71 -/
def slices_Sort_string_string.sorted (l : List ByteArray) : List ByteArray := ((l.map (·.data.toList)).mergeSort fun x y => decide (x ≤ y)).map (fun x => (⟨x.toArray⟩ : ByteArray))
def slices_Sort_string_string.f (l0 : List ByteArray) : Option (List ByteArray) := if l0.length < 4611686018427387904 then some (slices_Sort_string_string.sorted l0) else none
theorem slices_Sort_string_string.sorted_length (l : List ByteArray) : (slices_Sort_string_string.sorted l).length = l.length := by simp [slices_Sort_string_string.sorted]
theorem slices_Sort_string_string.sorted_data (l : List ByteArray) : (slices_Sort_string_string.sorted l).map (·.data.toList) = (l.map (·.data.toList)).mergeSort fun x y => decide (x ≤ y) := by
  unfold slices_Sort_string_string.sorted
  rw [List.map_map]
  exact (List.map_congr_left (fun x _ => by simp)).trans (List.map_id _)

/-! ### slices_Compact_string_string: function 72 -/
def slices_Compact_string_string.compact (l : List ByteArray) : List ByteArray := (Go.Lib.compact (l.map (·.data.toList))).map (fun x => (⟨x.toArray⟩ : ByteArray))
def slices_Compact_string_string.f (l0 : List ByteArray) : Option (List ByteArray) := some (slices_Compact_string_string.compact l0)
theorem slices_Compact_string_string.compact_length (l : List ByteArray) : (slices_Compact_string_string.compact l).length = (Go.Lib.compact (l.map (·.data.toList))).length := by simp [slices_Compact_string_string.compact]
theorem slices_Compact_string_string.compact_data (l : List ByteArray) : (slices_Compact_string_string.compact l).map (·.data.toList) = Go.Lib.compact (l.map (·.data.toList)) := by
  unfold slices_Compact_string_string.compact
  rw [List.map_map]
  exact (List.map_congr_left (fun x _ => by simp)).trans (List.map_id _)

/-! ### impl_union: function 49 -/
def impl_union.f (l0 : List ByteArray) (l1 : List ByteArray) : Option (List ByteArray) := (impl_copied.f l0).bind fun t309 => (if t309.length + l1.length < 8796093022208 then ((slices_Sort_string_string.f (t309 ++ l1)).bind fun t315 => ((slices_Compact_string_string.f t315).bind fun t316 => ((impl_copied.f t316).bind fun t319 => (some t319)))) else (none))

/-! ### impl_SetAny: function 13 -/
def impl_SetAny.f (k : Nat) (l0 : List ByteArray) (l1 : List ByteArray) : Option (List ByteArray) := (impl_SetOk.f k l0).bind fun t322 => (if t322 = true then ((impl_SetOk.f k l1).bind fun t323 => (if t323 = true then ((impl_union.f l0 l1).bind fun t324 => (some t324)) else (some (([] : List ByteArray))))) else (some (([] : List ByteArray))))
theorem impl_SetAny.mono : ∀ a0 a1 k, LeO (impl_SetAny.f k a0 a1) (impl_SetAny.f (k + 1) a0 a1) := by
  intro a0 a1 k
  unfold impl_SetAny.f
  repeat' first
      | (with_reducible exact impl_SetOk.mono _ _)
      | (with_reducible exact LeO.refl _)
      | (with_reducible exact LeO.none _)
      | (with_reducible refine LeO.ite ?_ ?_)
      | (with_reducible refine LeO.bind ?_ (fun _ => ?_))
      | exact impl_SetOk.mono _ _
      | exact LeO.none _
      | refine LeO.ite ?_ ?_
      | refine LeO.bind ?_ (fun _ => ?_)

/-! ### laws_eqStringS: function 14 -/
def laws_eqStringS.l0 : Nat → List ByteArray → List ByteArray → Int → Option (Bool)
  | 0, _, _, _ => none
  | k + 1, x0, x1, x5 => if x5 < (x0.length : Int) then (if 0 ≤ x5 then (if x5 < (x1.length : Int) then (if (rdOf ByteArray.empty x0 x5).toList = (rdOf ByteArray.empty x1 x5).toList then (laws_eqStringS.l0 k x0 x1 (wrap64 (x5 + 1))) else (some false)) else (none)) else (none)) else (some true)
def laws_eqStringS.f (k : Nat) (l0 : List ByteArray) (l1 : List ByteArray) : Option (Bool) := if (l0.length : Int) = (l1.length : Int) then (laws_eqStringS.l0 k l0 l1 0) else (some false)
theorem laws_eqStringS.mono_l : ∀ k, (∀ y0 y1 y2, LeO (laws_eqStringS.l0 k y0 y1 y2) (laws_eqStringS.l0 (k + 1) y0 y1 y2))
  | 0 => fun _ _ _ r h => by simp [laws_eqStringS.l0] at h
  | k + 1 => by
    have ih0 := laws_eqStringS.mono_l k
    · intro y0 y1 y2
      unfold laws_eqStringS.l0
      repeat' first
      | (with_reducible exact ih0 _ _ _)
      | (with_reducible exact LeO.refl _)
      | (with_reducible exact LeO.none _)
      | (with_reducible refine LeO.ite ?_ ?_)
      | (with_reducible refine LeO.bind ?_ (fun _ => ?_))
      | exact ih0 _ _ _
      | exact LeO.none _
      | refine LeO.ite ?_ ?_
      | refine LeO.bind ?_ (fun _ => ?_)
theorem laws_eqStringS.mono : ∀ a0 a1 k, LeO (laws_eqStringS.f k a0 a1) (laws_eqStringS.f (k + 1) a0 a1) := by
  intro a0 a1 k
  have ih0 := laws_eqStringS.mono_l k
  unfold laws_eqStringS.f
  repeat' first
      | (with_reducible exact ih0 _ _ _)
      | (with_reducible exact LeO.refl _)
      | (with_reducible exact LeO.none _)
      | (with_reducible refine LeO.ite ?_ ?_)
      | (with_reducible refine LeO.bind ?_ (fun _ => ?_))
      | exact ih0 _ _ _
      | exact LeO.none _
      | refine LeO.ite ?_ ?_
      | refine LeO.bind ?_ (fun _ => ?_)

/-! ### laws_markText: function 50 -/
def laws_markText.l0 : Nat → Int → ByteArray → Option (ByteArray)
  | 0, _, _ => none
  | k + 1, x0, x3 => if x0 > 0 then ((some (([(wrap64 (48 + (Int.tmod x0 10))) % 256] : List Int) : List Int)).bind fun y335 => (if (strOfNums y335).size + x3.size ≤ 9223372036854775807 then (laws_markText.l0 k (wrap64 (Int.tdiv x0 10)) ((strOfNums y335) ++ x3)) else (none))) else (if 1 + x3.size ≤ 9223372036854775807 then (some ((⟨#[109]⟩ : ByteArray) ++ x3)) else (none))
def laws_markText.f (k : Nat) (a0 : Int) : Option (ByteArray) := if a0 ≤ 0 then (some (⟨#[109, 48]⟩ : ByteArray)) else (laws_markText.l0 k a0 (⟨#[]⟩ : ByteArray))
theorem laws_markText.mono_l : ∀ k, (∀ y0 y1, LeO (laws_markText.l0 k y0 y1) (laws_markText.l0 (k + 1) y0 y1))
  | 0 => fun _ _ r h => by simp [laws_markText.l0] at h
  | k + 1 => by
    have ih0 := laws_markText.mono_l k
    · intro y0 y1
      unfold laws_markText.l0
      repeat' first
      | (with_reducible exact ih0 _ _)
      | (with_reducible exact LeO.refl _)
      | (with_reducible exact LeO.none _)
      | (with_reducible refine LeO.ite ?_ ?_)
      | (with_reducible refine LeO.bind ?_ (fun _ => ?_))
      | exact ih0 _ _
      | exact LeO.none _
      | refine LeO.ite ?_ ?_
      | refine LeO.bind ?_ (fun _ => ?_)
theorem laws_markText.mono : ∀ a0 k, LeO (laws_markText.f k a0) (laws_markText.f (k + 1) a0) := by
  intro a0 k
  have ih0 := laws_markText.mono_l k
  unfold laws_markText.f
  repeat' first
      | (with_reducible exact ih0 _ _)
      | (with_reducible exact LeO.refl _)
      | (with_reducible exact LeO.none _)
      | (with_reducible refine LeO.ite ?_ ?_)
      | (with_reducible refine LeO.bind ?_ (fun _ => ?_))
      | exact ih0 _ _
      | exact LeO.none _
      | refine LeO.ite ?_ ?_
      | refine LeO.bind ?_ (fun _ => ?_)

/-! ### laws_markStringS: function 15 -/
def laws_markStringS.l0 : Nat → List ByteArray → Int → Int → Option (Int × List ByteArray)
  | 0, _, _, _ => none
  | k + 1, x0, x1, x5 => if x5 < (x0.length : Int) then ((laws_markText.f k x1).bind fun t338 => (if 0 ≤ x5 then (laws_markStringS.l0 k (x0.set (x5 : Int).toNat t338) (wrap64 (x1 + 1)) (wrap64 (x5 + 1))) else (none))) else (some (x1, x0))
def laws_markStringS.f (k : Nat) (l0 : List ByteArray) (a1 : Int) : Option (Int × List ByteArray) := laws_markStringS.l0 k l0 a1 0
theorem laws_markStringS.mono_l : ∀ k, (∀ y0 y1 y2, LeO (laws_markStringS.l0 k y0 y1 y2) (laws_markStringS.l0 (k + 1) y0 y1 y2))
  | 0 => fun _ _ _ r h => by simp [laws_markStringS.l0] at h
  | k + 1 => by
    have ih0 := laws_markStringS.mono_l k
    · intro y0 y1 y2
      unfold laws_markStringS.l0
      repeat' first
      | (with_reducible exact ih0 _ _ _)
      | (with_reducible exact laws_markText.mono _ _)
      | (with_reducible exact LeO.refl _)
      | (with_reducible exact LeO.none _)
      | (with_reducible refine LeO.ite ?_ ?_)
      | (with_reducible refine LeO.bind ?_ (fun _ => ?_))
      | exact ih0 _ _ _
      | exact laws_markText.mono _ _
      | exact LeO.none _
      | refine LeO.ite ?_ ?_
      | refine LeO.bind ?_ (fun _ => ?_)
theorem laws_markStringS.mono : ∀ a0 a1 k, LeO (laws_markStringS.f k a0 a1) (laws_markStringS.f (k + 1) a0 a1) := by
  intro a0 a1 k
  have ih0 := laws_markStringS.mono_l k
  unfold laws_markStringS.f
  repeat' first
      | (with_reducible exact ih0 _ _ _)
      | (with_reducible exact laws_markText.mono _ _)
      | (with_reducible exact LeO.refl _)
      | (with_reducible exact LeO.none _)
      | (with_reducible refine LeO.ite ?_ ?_)
      | (with_reducible refine LeO.bind ?_ (fun _ => ?_))
      | exact ih0 _ _ _
      | exact laws_markText.mono _ _
      | exact LeO.none _
      | refine LeO.ite ?_ ?_
      | refine LeO.bind ?_ (fun _ => ?_)

/-! ### laws_heldStringS: function 16 -/
def laws_heldStringS.l0 : Nat → List ByteArray → Int → Int → Option (Int)
  | 0, _, _, _ => none
  | k + 1, x0, x1, x5 => if x5 < (x0.length : Int) then (if 0 ≤ x5 then ((laws_markText.f k x1).bind fun t341 => (if (rdOf ByteArray.empty x0 x5).toList = t341.toList then (laws_heldStringS.l0 k x0 (wrap64 (x1 + 1)) (wrap64 (x5 + 1))) else (some (-1)))) else (none)) else (some x1)
def laws_heldStringS.f (k : Nat) (l0 : List ByteArray) (a1 : Int) : Option (Int) := laws_heldStringS.l0 k l0 a1 0
theorem laws_heldStringS.mono_l : ∀ k, (∀ y0 y1 y2, LeO (laws_heldStringS.l0 k y0 y1 y2) (laws_heldStringS.l0 (k + 1) y0 y1 y2))
  | 0 => fun _ _ _ r h => by simp [laws_heldStringS.l0] at h
  | k + 1 => by
    have ih0 := laws_heldStringS.mono_l k
    · intro y0 y1 y2
      unfold laws_heldStringS.l0
      repeat' first
      | (with_reducible exact ih0 _ _ _)
      | (with_reducible exact laws_markText.mono _ _)
      | (with_reducible exact LeO.refl _)
      | (with_reducible exact LeO.none _)
      | (with_reducible refine LeO.ite ?_ ?_)
      | (with_reducible refine LeO.bind ?_ (fun _ => ?_))
      | exact ih0 _ _ _
      | exact laws_markText.mono _ _
      | exact LeO.none _
      | refine LeO.ite ?_ ?_
      | refine LeO.bind ?_ (fun _ => ?_)
theorem laws_heldStringS.mono : ∀ a0 a1 k, LeO (laws_heldStringS.f k a0 a1) (laws_heldStringS.f (k + 1) a0 a1) := by
  intro a0 a1 k
  have ih0 := laws_heldStringS.mono_l k
  unfold laws_heldStringS.f
  repeat' first
      | (with_reducible exact ih0 _ _ _)
      | (with_reducible exact laws_markText.mono _ _)
      | (with_reducible exact LeO.refl _)
      | (with_reducible exact LeO.none _)
      | (with_reducible refine LeO.ite ?_ ?_)
      | (with_reducible refine LeO.bind ?_ (fun _ => ?_))
      | exact ih0 _ _ _
      | exact laws_markText.mono _ _
      | exact LeO.none _
      | refine LeO.ite ?_ ?_
      | refine LeO.bind ?_ (fun _ => ?_)

/-! ### laws_FnExactSetAny: function 3 -/
def laws_FnExactSetAny.j0 : Nat → List ByteArray → List ByteArray → List ByteArray → List ByteArray → Bool → Option (Bool)
  | 0, _, _, _, _, _ => none
  | k + 1, x0, x1, x6, x9, x63 => if x63 = true then (some false) else ((laws_markStringS.f k x9 1).bind fun bt376 => ((laws_heldStringS.f k bt376.2 1).bind fun t378 => (if t378 < 0 then (some false) else (if t378 = bt376.1 then ((laws_toStringS.f k x0).bind fun t379 => ((laws_toStringS.f k x1).bind fun t382 => ((impl_SetAny.f k t379 t382).bind fun t385 => ((laws_eqStringS.f k t385 x6).bind fun t388 => (if t388 = true then ((laws_heldStringS.f k bt376.2 1).bind fun t389 => (if t389 < 0 then (some false) else (if t389 = bt376.1 then (some true) else (some false)))) else (some false)))))) else (some false)))))
def laws_FnExactSetAny.f (k : Nat) (l0 : List ByteArray) (l1 : List ByteArray) : Option (Bool) := (laws_szStringS.f k l0 1048576).bind fun t342 => (if t342 < 0 then (some true) else ((laws_szStringS.f k l1 t342).bind fun t343 => (if t343 < 0 then (some true) else ((laws_toStringS.f k l0).bind fun t344 => ((laws_toStringS.f k l1).bind fun t347 => ((spec_SetAny.f k t344 t347).bind fun t350 => ((laws_toStringS.f k l0).bind fun t353 => ((laws_toStringS.f k l1).bind fun t356 => ((impl_SetAny.f k t353 t356).bind fun t359 => ((laws_eqStringS.f k t359 t350).bind fun t362 => (if t362 = true then ((laws_toStringS.f k l0).bind fun t363 => ((laws_eqStringS.f k t353 t363).bind fun t366 => (if t366 = true then ((laws_toStringS.f k l1).bind fun t367 => ((laws_eqStringS.f k t356 t367).bind fun t370 => (if t370 = true then ((laws_markStringS.f k t353 1).bind fun bt371 => ((laws_markStringS.f k t356 bt371.1).bind fun bt373 => (if bt373.1 < 0 then (laws_FnExactSetAny.j0 k l0 l1 t350 t359 true) else ((laws_eqStringS.f k t359 t350).bind fun t375 => (laws_FnExactSetAny.j0 k l0 l1 t350 t359 (!t375)))))) else (some false)))) else (some false)))) else (some false))))))))))))
theorem laws_FnExactSetAny.mono_l : ∀ k, (∀ y0 y1 y2 y3 y4, LeO (laws_FnExactSetAny.j0 k y0 y1 y2 y3 y4) (laws_FnExactSetAny.j0 (k + 1) y0 y1 y2 y3 y4))
  | 0 => fun _ _ _ _ _ r h => by simp [laws_FnExactSetAny.j0] at h
  | k + 1 => by
    have ih0 := laws_FnExactSetAny.mono_l k
    · intro y0 y1 y2 y3 y4
      unfold laws_FnExactSetAny.j0
      repeat' first
      | (with_reducible exact ih0 _ _ _ _ _)
      | (with_reducible exact impl_SetAny.mono _ _ _)
      | (with_reducible exact laws_eqStringS.mono _ _ _)
      | (with_reducible exact laws_heldStringS.mono _ _ _)
      | (with_reducible exact laws_markStringS.mono _ _ _)
      | (with_reducible exact laws_szStringS.mono _ _ _)
      | (with_reducible exact laws_toStringS.mono _ _)
      | (with_reducible exact spec_SetAny.mono _ _ _)
      | (with_reducible exact LeO.refl _)
      | (with_reducible exact LeO.none _)
      | (with_reducible refine LeO.ite ?_ ?_)
      | (with_reducible refine LeO.bind ?_ (fun _ => ?_))
      | exact ih0 _ _ _ _ _
      | exact impl_SetAny.mono _ _ _
      | exact laws_eqStringS.mono _ _ _
      | exact laws_heldStringS.mono _ _ _
      | exact laws_markStringS.mono _ _ _
      | exact laws_szStringS.mono _ _ _
      | exact laws_toStringS.mono _ _
      | exact spec_SetAny.mono _ _ _
      | exact LeO.none _
      | refine LeO.ite ?_ ?_
      | refine LeO.bind ?_ (fun _ => ?_)
theorem laws_FnExactSetAny.mono : ∀ a0 a1 k, LeO (laws_FnExactSetAny.f k a0 a1) (laws_FnExactSetAny.f (k + 1) a0 a1) := by
  intro a0 a1 k
  have ih0 := laws_FnExactSetAny.mono_l k
  unfold laws_FnExactSetAny.f
  repeat' first
      | (with_reducible exact ih0 _ _ _ _ _)
      | (with_reducible exact impl_SetAny.mono _ _ _)
      | (with_reducible exact laws_eqStringS.mono _ _ _)
      | (with_reducible exact laws_heldStringS.mono _ _ _)
      | (with_reducible exact laws_markStringS.mono _ _ _)
      | (with_reducible exact laws_szStringS.mono _ _ _)
      | (with_reducible exact laws_toStringS.mono _ _)
      | (with_reducible exact spec_SetAny.mono _ _ _)
      | (with_reducible exact LeO.refl _)
      | (with_reducible exact LeO.none _)
      | (with_reducible refine LeO.ite ?_ ?_)
      | (with_reducible refine LeO.bind ?_ (fun _ => ?_))
      | exact ih0 _ _ _ _ _
      | exact impl_SetAny.mono _ _ _
      | exact laws_eqStringS.mono _ _ _
      | exact laws_heldStringS.mono _ _ _
      | exact laws_markStringS.mono _ _ _
      | exact laws_szStringS.mono _ _ _
      | exact laws_toStringS.mono _ _
      | exact spec_SetAny.mono _ _ _
      | exact LeO.none _
      | refine LeO.ite ?_ ?_
      | refine LeO.bind ?_ (fun _ => ?_)

/-! ### spec_SetAdd: function 17 -/
def spec_SetAdd.l0 : Nat → List ByteArray → List ByteArray → List ByteArray → Int → Option (List ByteArray × Int × Bool)
  | 0, _, _, _, _ => none
  | k + 1, x0, x1, x7, x8 => if x8 < (x1.length : Int) then (if 0 ≤ x8 then ((spec_l2Put.f k x7 (rdOf ByteArray.empty x1 x8)).bind fun t399 => (spec_SetAdd.l0 k x0 x1 t399 (wrap64 (x8 + 1)))) else (none)) else (if (x7.length : Int) > 16 then ((spec_l2Copy.f x0).bind fun t402 => (some (t402, 0, false))) else (some (x7, wrap64 ((x7.length : Int) - (x0.length : Int)), true)))
def spec_SetAdd.f (k : Nat) (l0 : List ByteArray) (l1 : List ByteArray) : Option (List ByteArray × Int × Bool) := (spec_SetOk.f k l0).bind fun t390 => (if t390 = true then ((spec_l2Copy.f l0).bind fun t394 => ((spec_l2Texts.f k l1).bind fun t397 => (if t397 = true then (spec_SetAdd.l0 k l0 l1 t394 0) else (some (t394, 0, false))))) else (some ((([] : List ByteArray)), 0, false)))
theorem spec_SetAdd.mono_l : ∀ k, (∀ y0 y1 y2 y3, LeO (spec_SetAdd.l0 k y0 y1 y2 y3) (spec_SetAdd.l0 (k + 1) y0 y1 y2 y3))
  | 0 => fun _ _ _ _ r h => by simp [spec_SetAdd.l0] at h
  | k + 1 => by
    have ih0 := spec_SetAdd.mono_l k
    · intro y0 y1 y2 y3
      unfold spec_SetAdd.l0
      repeat' first
      | (with_reducible exact ih0 _ _ _ _)
      | (with_reducible exact spec_SetOk.mono _ _)
      | (with_reducible exact spec_l2Put.mono _ _ _)
      | (with_reducible exact spec_l2Texts.mono _ _)
      | (with_reducible exact LeO.refl _)
      | (with_reducible exact LeO.none _)
      | (with_reducible refine LeO.ite ?_ ?_)
      | (with_reducible refine LeO.bind ?_ (fun _ => ?_))
      | exact ih0 _ _ _ _
      | exact spec_SetOk.mono _ _
      | exact spec_l2Put.mono _ _ _
      | exact spec_l2Texts.mono _ _
      | exact LeO.none _
      | refine LeO.ite ?_ ?_
      | refine LeO.bind ?_ (fun _ => ?_)
theorem spec_SetAdd.mono : ∀ a0 a1 k, LeO (spec_SetAdd.f k a0 a1) (spec_SetAdd.f (k + 1) a0 a1) := by
  intro a0 a1 k
  have ih0 := spec_SetAdd.mono_l k
  unfold spec_SetAdd.f
  repeat' first
      | (with_reducible exact ih0 _ _ _ _)
      | (with_reducible exact spec_SetOk.mono _ _)
      | (with_reducible exact spec_l2Put.mono _ _ _)
      | (with_reducible exact spec_l2Texts.mono _ _)
      | (with_reducible exact LeO.refl _)
      | (with_reducible exact LeO.none _)
      | (with_reducible refine LeO.ite ?_ ?_)
      | (with_reducible refine LeO.bind ?_ (fun _ => ?_))
      | exact ih0 _ _ _ _
      | exact spec_SetOk.mono _ _
      | exact spec_l2Put.mono _ _ _
      | exact spec_l2Texts.mono _ _
      | exact LeO.none _
      | refine LeO.ite ?_ ?_
      | refine LeO.bind ?_ (fun _ => ?_)

/-! ### impl_SetAdd: function 18 -/
def impl_SetAdd.f (k : Nat) (l0 : List ByteArray) (l1 : List ByteArray) : Option (List ByteArray × Int × Bool) := (impl_SetOk.f k l0).bind fun t405 => (if t405 = true then ((impl_union.f l0 l1).bind fun t409 => ((impl_listOk.f k l1).bind fun t412 => (if t412 = true then (if (t409.length : Int) > 16 then ((impl_copied.f l0).bind fun t413 => (some (t413, 0, false))) else (some (t409, wrap64 ((t409.length : Int) - (l0.length : Int)), true))) else ((impl_copied.f l0).bind fun t416 => (some (t416, 0, false)))))) else (some ((([] : List ByteArray)), 0, false)))
theorem impl_SetAdd.mono : ∀ a0 a1 k, LeO (impl_SetAdd.f k a0 a1) (impl_SetAdd.f (k + 1) a0 a1) := by
  intro a0 a1 k
  unfold impl_SetAdd.f
  repeat' first
      | (with_reducible exact impl_SetOk.mono _ _)
      | (with_reducible exact impl_listOk.mono _ _)
      | (with_reducible exact LeO.refl _)
      | (with_reducible exact LeO.none _)
      | (with_reducible refine LeO.ite ?_ ?_)
      | (with_reducible refine LeO.bind ?_ (fun _ => ?_))
      | exact impl_SetOk.mono _ _
      | exact impl_listOk.mono _ _
      | exact LeO.none _
      | refine LeO.ite ?_ ?_
      | refine LeO.bind ?_ (fun _ => ?_)

/-! ### laws_FnExactSetAdd: function 4 -/
mutual
def laws_FnExactSetAdd.j0 : Nat → List ByteArray → List ByteArray → List ByteArray → Int → Bool → List ByteArray → List ByteArray → List ByteArray → Int → Bool → Bool → Option (Bool)
  | 0, _, _, _, _, _, _, _, _, _, _, _ => none
  | k + 1, x0, x1, x6, x7, x8, x9, x10, x11, x12, x13, x63 => if x63 = true then (some false) else ((laws_toStringS.f k x0).bind fun t444 => ((laws_eqStringS.f k x9 t444).bind fun t447 => (if t447 = true then ((laws_toStringS.f k x1).bind fun t448 => ((laws_eqStringS.f k x10 t448).bind fun t451 => (if t451 = true then ((laws_markStringS.f k x9 1).bind fun bt452 => ((laws_markStringS.f k x10 bt452.1).bind fun bt454 => (if bt454.1 < 0 then (laws_FnExactSetAdd.j1 k x0 x1 x6 x7 x8 x11 true) else ((laws_eqStringS.f k x11 x6).bind fun t456 => (if t456 = true then (if x12 = x7 then (laws_FnExactSetAdd.j1 k x0 x1 x6 x7 x8 x11 (x13 != x8)) else (laws_FnExactSetAdd.j1 k x0 x1 x6 x7 x8 x11 true)) else (laws_FnExactSetAdd.j1 k x0 x1 x6 x7 x8 x11 true)))))) else (some false)))) else (some false))))
def laws_FnExactSetAdd.j1 : Nat → List ByteArray → List ByteArray → List ByteArray → Int → Bool → List ByteArray → Bool → Option (Bool)
  | 0, _, _, _, _, _, _, _ => none
  | k + 1, x0, x1, x6, x7, x8, x11, x97 => if x97 = true then (some false) else ((laws_markStringS.f k x11 1).bind fun bt457 => ((laws_heldStringS.f k bt457.2 1).bind fun t459 => (if t459 < 0 then (some false) else (if t459 = bt457.1 then ((laws_toStringS.f k x0).bind fun t460 => ((laws_toStringS.f k x1).bind fun t463 => ((impl_SetAdd.f k t460 t463).bind fun bt466 => ((laws_eqStringS.f k bt466.1 x6).bind fun t471 => (if t471 = true then (if bt466.2.1 = x7 then (laws_FnExactSetAdd.j2 k bt457.2 bt457.1 (bt466.2.2 != x8)) else (laws_FnExactSetAdd.j2 k bt457.2 bt457.1 true)) else (laws_FnExactSetAdd.j2 k bt457.2 bt457.1 true)))))) else (some false)))))
def laws_FnExactSetAdd.j2 : Nat → List ByteArray → Int → Bool → Option (Bool)
  | 0, _, _, _ => none
  | k + 1, x11, x15, x131 => if x131 = true then (some false) else ((laws_heldStringS.f k x11 1).bind fun t472 => (if t472 < 0 then (some false) else (if t472 = x15 then (some true) else (some false))))
end
def laws_FnExactSetAdd.f (k : Nat) (l0 : List ByteArray) (l1 : List ByteArray) : Option (Bool) := (laws_szStringS.f k l0 1048576).bind fun t419 => (if t419 < 0 then (some true) else ((laws_szStringS.f k l1 t419).bind fun t420 => (if t420 < 0 then (some true) else ((laws_toStringS.f k l0).bind fun t421 => ((laws_toStringS.f k l1).bind fun t424 => ((spec_SetAdd.f k t421 t424).bind fun bt427 => ((laws_toStringS.f k l0).bind fun t432 => ((laws_toStringS.f k l1).bind fun t435 => ((impl_SetAdd.f k t432 t435).bind fun bt438 => ((laws_eqStringS.f k bt438.1 bt427.1).bind fun t443 => (if t443 = true then (if bt438.2.1 = bt427.2.1 then (laws_FnExactSetAdd.j0 k l0 l1 bt427.1 bt427.2.1 bt427.2.2 t432 t435 bt438.1 bt438.2.1 bt438.2.2 (bt438.2.2 != bt427.2.2)) else (laws_FnExactSetAdd.j0 k l0 l1 bt427.1 bt427.2.1 bt427.2.2 t432 t435 bt438.1 bt438.2.1 bt438.2.2 true)) else (laws_FnExactSetAdd.j0 k l0 l1 bt427.1 bt427.2.1 bt427.2.2 t432 t435 bt438.1 bt438.2.1 bt438.2.2 true))))))))))))
theorem laws_FnExactSetAdd.mono_l : ∀ k, (∀ y0 y1 y2 y3 y4 y5 y6 y7 y8 y9 y10, LeO (laws_FnExactSetAdd.j0 k y0 y1 y2 y3 y4 y5 y6 y7 y8 y9 y10) (laws_FnExactSetAdd.j0 (k + 1) y0 y1 y2 y3 y4 y5 y6 y7 y8 y9 y10)) ∧ (∀ y0 y1 y2 y3 y4 y5 y6, LeO (laws_FnExactSetAdd.j1 k y0 y1 y2 y3 y4 y5 y6) (laws_FnExactSetAdd.j1 (k + 1) y0 y1 y2 y3 y4 y5 y6)) ∧ (∀ y0 y1 y2, LeO (laws_FnExactSetAdd.j2 k y0 y1 y2) (laws_FnExactSetAdd.j2 (k + 1) y0 y1 y2))
  | 0 => ⟨fun _ _ _ _ _ _ _ _ _ _ _ r h => by simp [laws_FnExactSetAdd.j0] at h, fun _ _ _ _ _ _ _ r h => by simp [laws_FnExactSetAdd.j1] at h, fun _ _ _ r h => by simp [laws_FnExactSetAdd.j2] at h⟩
  | k + 1 => by
    obtain ⟨ih0, ih1, ih2⟩ := laws_FnExactSetAdd.mono_l k
    refine ⟨?_, ?_, ?_⟩
    · intro y0 y1 y2 y3 y4 y5 y6 y7 y8 y9 y10
      unfold laws_FnExactSetAdd.j0
      repeat' first
      | (with_reducible exact ih0 _ _ _ _ _ _ _ _ _ _ _)
      | (with_reducible exact ih1 _ _ _ _ _ _ _)
      | (with_reducible exact ih2 _ _ _)
      | (with_reducible exact impl_SetAdd.mono _ _ _)
      | (with_reducible exact laws_eqStringS.mono _ _ _)
      | (with_reducible exact laws_heldStringS.mono _ _ _)
      | (with_reducible exact laws_markStringS.mono _ _ _)
      | (with_reducible exact laws_szStringS.mono _ _ _)
      | (with_reducible exact laws_toStringS.mono _ _)
      | (with_reducible exact spec_SetAdd.mono _ _ _)
      | (with_reducible exact LeO.refl _)
      | (with_reducible exact LeO.none _)
      | (with_reducible refine LeO.ite ?_ ?_)
      | (with_reducible refine LeO.bind ?_ (fun _ => ?_))
      | exact ih0 _ _ _ _ _ _ _ _ _ _ _
      | exact ih1 _ _ _ _ _ _ _
      | exact ih2 _ _ _
      | exact impl_SetAdd.mono _ _ _
      | exact laws_eqStringS.mono _ _ _
      | exact laws_heldStringS.mono _ _ _
      | exact laws_markStringS.mono _ _ _
      | exact laws_szStringS.mono _ _ _
      | exact laws_toStringS.mono _ _
      | exact spec_SetAdd.mono _ _ _
      | exact LeO.none _
      | refine LeO.ite ?_ ?_
      | refine LeO.bind ?_ (fun _ => ?_)
    · intro y0 y1 y2 y3 y4 y5 y6
      unfold laws_FnExactSetAdd.j1
      repeat' first
      | (with_reducible exact ih0 _ _ _ _ _ _ _ _ _ _ _)
      | (with_reducible exact ih1 _ _ _ _ _ _ _)
      | (with_reducible exact ih2 _ _ _)
      | (with_reducible exact impl_SetAdd.mono _ _ _)
      | (with_reducible exact laws_eqStringS.mono _ _ _)
      | (with_reducible exact laws_heldStringS.mono _ _ _)
      | (with_reducible exact laws_markStringS.mono _ _ _)
      | (with_reducible exact laws_szStringS.mono _ _ _)
      | (with_reducible exact laws_toStringS.mono _ _)
      | (with_reducible exact spec_SetAdd.mono _ _ _)
      | (with_reducible exact LeO.refl _)
      | (with_reducible exact LeO.none _)
      | (with_reducible refine LeO.ite ?_ ?_)
      | (with_reducible refine LeO.bind ?_ (fun _ => ?_))
      | exact ih0 _ _ _ _ _ _ _ _ _ _ _
      | exact ih1 _ _ _ _ _ _ _
      | exact ih2 _ _ _
      | exact impl_SetAdd.mono _ _ _
      | exact laws_eqStringS.mono _ _ _
      | exact laws_heldStringS.mono _ _ _
      | exact laws_markStringS.mono _ _ _
      | exact laws_szStringS.mono _ _ _
      | exact laws_toStringS.mono _ _
      | exact spec_SetAdd.mono _ _ _
      | exact LeO.none _
      | refine LeO.ite ?_ ?_
      | refine LeO.bind ?_ (fun _ => ?_)
    · intro y0 y1 y2
      unfold laws_FnExactSetAdd.j2
      repeat' first
      | (with_reducible exact ih0 _ _ _ _ _ _ _ _ _ _ _)
      | (with_reducible exact ih1 _ _ _ _ _ _ _)
      | (with_reducible exact ih2 _ _ _)
      | (with_reducible exact impl_SetAdd.mono _ _ _)
      | (with_reducible exact laws_eqStringS.mono _ _ _)
      | (with_reducible exact laws_heldStringS.mono _ _ _)
      | (with_reducible exact laws_markStringS.mono _ _ _)
      | (with_reducible exact laws_szStringS.mono _ _ _)
      | (with_reducible exact laws_toStringS.mono _ _)
      | (with_reducible exact spec_SetAdd.mono _ _ _)
      | (with_reducible exact LeO.refl _)
      | (with_reducible exact LeO.none _)
      | (with_reducible refine LeO.ite ?_ ?_)
      | (with_reducible refine LeO.bind ?_ (fun _ => ?_))
      | exact ih0 _ _ _ _ _ _ _ _ _ _ _
      | exact ih1 _ _ _ _ _ _ _
      | exact ih2 _ _ _
      | exact impl_SetAdd.mono _ _ _
      | exact laws_eqStringS.mono _ _ _
      | exact laws_heldStringS.mono _ _ _
      | exact laws_markStringS.mono _ _ _
      | exact laws_szStringS.mono _ _ _
      | exact laws_toStringS.mono _ _
      | exact spec_SetAdd.mono _ _ _
      | exact LeO.none _
      | refine LeO.ite ?_ ?_
      | refine LeO.bind ?_ (fun _ => ?_)
theorem laws_FnExactSetAdd.mono : ∀ a0 a1 k, LeO (laws_FnExactSetAdd.f k a0 a1) (laws_FnExactSetAdd.f (k + 1) a0 a1) := by
  intro a0 a1 k
  obtain ⟨ih0, ih1, ih2⟩ := laws_FnExactSetAdd.mono_l k
  unfold laws_FnExactSetAdd.f
  repeat' first
      | (with_reducible exact ih0 _ _ _ _ _ _ _ _ _ _ _)
      | (with_reducible exact ih1 _ _ _ _ _ _ _)
      | (with_reducible exact ih2 _ _ _)
      | (with_reducible exact impl_SetAdd.mono _ _ _)
      | (with_reducible exact laws_eqStringS.mono _ _ _)
      | (with_reducible exact laws_heldStringS.mono _ _ _)
      | (with_reducible exact laws_markStringS.mono _ _ _)
      | (with_reducible exact laws_szStringS.mono _ _ _)
      | (with_reducible exact laws_toStringS.mono _ _)
      | (with_reducible exact spec_SetAdd.mono _ _ _)
      | (with_reducible exact LeO.refl _)
      | (with_reducible exact LeO.none _)
      | (with_reducible refine LeO.ite ?_ ?_)
      | (with_reducible refine LeO.bind ?_ (fun _ => ?_))
      | exact ih0 _ _ _ _ _ _ _ _ _ _ _
      | exact ih1 _ _ _ _ _ _ _
      | exact ih2 _ _ _
      | exact impl_SetAdd.mono _ _ _
      | exact laws_eqStringS.mono _ _ _
      | exact laws_heldStringS.mono _ _ _
      | exact laws_markStringS.mono _ _ _
      | exact laws_szStringS.mono _ _ _
      | exact laws_toStringS.mono _ _
      | exact spec_SetAdd.mono _ _ _
      | exact LeO.none _
      | refine LeO.ite ?_ ?_
      | refine LeO.bind ?_ (fun _ => ?_)

/-! ### laws_szPair: function 20 -/
def laws_szPair.f (a0_0 : ByteArray) (a0_1 : ByteArray) (a1 : Int) : Option (Int) := if (wrap64 (a1 - (a0_0.size : Int))) < 0 then (some (-1)) else (if (wrap64 ((wrap64 (a1 - (a0_0.size : Int))) - (a0_1.size : Int))) < 0 then (some (-1)) else (some (wrap64 ((wrap64 (a1 - (a0_0.size : Int))) - (a0_1.size : Int)))))

/-! ### laws_szPairS: function 19 -/
def laws_szPairS.l0 : Nat → List (S31) → Int → Int → Option (Int)
  | 0, _, _, _ => none
  | k + 1, x0, x1, x5 => if x5 < (x0.length : Int) then (if 0 ≤ x5 then ((laws_szPair.f ((rd_T31 x0 x5).f0) ((rd_T31 x0 x5).f1) x1).bind fun t475 => (if t475 < 0 then (some (-1)) else (laws_szPairS.l0 k x0 t475 (wrap64 (x5 + 1))))) else (none)) else (some x1)
def laws_szPairS.f (k : Nat) (l0 : List (S31)) (a1 : Int) : Option (Int) := if (wrap64 (a1 - (l0.length : Int))) < 0 then (some (-1)) else (laws_szPairS.l0 k l0 (wrap64 (a1 - (l0.length : Int))) 0)
theorem laws_szPairS.mono_l : ∀ k, (∀ y0 y1 y2, LeO (laws_szPairS.l0 k y0 y1 y2) (laws_szPairS.l0 (k + 1) y0 y1 y2))
  | 0 => fun _ _ _ r h => by simp [laws_szPairS.l0] at h
  | k + 1 => by
    have ih0 := laws_szPairS.mono_l k
    · intro y0 y1 y2
      unfold laws_szPairS.l0
      repeat' first
      | (with_reducible exact ih0 _ _ _)
      | (with_reducible exact LeO.refl _)
      | (with_reducible exact LeO.none _)
      | (with_reducible refine LeO.ite ?_ ?_)
      | (with_reducible refine LeO.bind ?_ (fun _ => ?_))
      | exact ih0 _ _ _
      | exact LeO.none _
      | refine LeO.ite ?_ ?_
      | refine LeO.bind ?_ (fun _ => ?_)
theorem laws_szPairS.mono : ∀ a0 a1 k, LeO (laws_szPairS.f k a0 a1) (laws_szPairS.f (k + 1) a0 a1) := by
  intro a0 a1 k
  have ih0 := laws_szPairS.mono_l k
  unfold laws_szPairS.f
  repeat' first
      | (with_reducible exact ih0 _ _ _)
      | (with_reducible exact LeO.refl _)
      | (with_reducible exact LeO.none _)
      | (with_reducible refine LeO.ite ?_ ?_)
      | (with_reducible refine LeO.bind ?_ (fun _ => ?_))
      | exact ih0 _ _ _
      | exact LeO.none _
      | refine LeO.ite ?_ ?_
      | refine LeO.bind ?_ (fun _ => ?_)

/-! ### spec_FieldsOk: function 31 -/
def spec_FieldsOk.l0 : Nat → List (S38) → Int → Option (Bool)
  | 0, _, _ => none
  | k + 1, x0, x3 => if x3 < (x0.length : Int) then (if 0 ≤ x3 then (if (((rd_T38 x0 x3).f0).size : Int) > 40 then (some false) else (if (((rd_T38 x0 x3).f1).size : Int) > 40 then (some false) else (if x3 > 0 then (if 0 ≤ (wrap64 (x3 - 1)) then (if (wrap64 (x3 - 1)) < (x0.length : Int) then (if ((Op.bytesLess (((rd_T38 x0 (wrap64 (x3 - 1))).f0).toList) (((rd_T38 x0 x3).f0).toList)) = true) then (spec_FieldsOk.l0 k x0 (wrap64 (x3 + 1))) else (some false)) else (none)) else (none)) else (spec_FieldsOk.l0 k x0 (wrap64 (x3 + 1)))))) else (none)) else (some (decide ((x0.length : Int) ≤ 16)))
def spec_FieldsOk.f (k : Nat) (l0 : List (S38)) : Option (Bool) := spec_FieldsOk.l0 k l0 0
theorem spec_FieldsOk.mono_l : ∀ k, (∀ y0 y1, LeO (spec_FieldsOk.l0 k y0 y1) (spec_FieldsOk.l0 (k + 1) y0 y1))
  | 0 => fun _ _ r h => by simp [spec_FieldsOk.l0] at h
  | k + 1 => by
    have ih0 := spec_FieldsOk.mono_l k
    · intro y0 y1
      unfold spec_FieldsOk.l0
      repeat' first
      | (with_reducible exact ih0 _ _)
      | (with_reducible exact LeO.refl _)
      | (with_reducible exact LeO.none _)
      | (with_reducible refine LeO.ite ?_ ?_)
      | (with_reducible refine LeO.bind ?_ (fun _ => ?_))
      | exact ih0 _ _
      | exact LeO.none _
      | refine LeO.ite ?_ ?_
      | refine LeO.bind ?_ (fun _ => ?_)
theorem spec_FieldsOk.mono : ∀ a0 k, LeO (spec_FieldsOk.f k a0) (spec_FieldsOk.f (k + 1) a0) := by
  intro a0 k
  have ih0 := spec_FieldsOk.mono_l k
  unfold spec_FieldsOk.f
  repeat' first
      | (with_reducible exact ih0 _ _)
      | (with_reducible exact LeO.refl _)
      | (with_reducible exact LeO.none _)
      | (with_reducible refine LeO.ite ?_ ?_)
      | (with_reducible refine LeO.bind ?_ (fun _ => ?_))
      | exact ih0 _ _
      | exact LeO.none _
      | refine LeO.ite ?_ ?_
      | refine LeO.bind ?_ (fun _ => ?_)

/-! ### spec_l3At: function 54 -/
def spec_l3At.l0 : Nat → List (S38) → ByteArray → Int → Option (Int × Bool)
  | 0, _, _, _ => none
  | k + 1, x0, x1, x6 => if x6 < (x0.length : Int) then (if 0 ≤ x6 then (if (Op.bytesLess (((rd_T38 x0 x6).f0).toList) x1.toList) = true then (spec_l3At.l0 k x0 x1 (wrap64 (x6 + 1))) else (some (x6, (((rd_T38 x0 x6).f0).toList == x1.toList)))) else (none)) else (some (x6, false))
def spec_l3At.f (k : Nat) (l0 : List (S38)) (a1 : ByteArray) : Option (Int × Bool) := spec_l3At.l0 k l0 a1 0
theorem spec_l3At.mono_l : ∀ k, (∀ y0 y1 y2, LeO (spec_l3At.l0 k y0 y1 y2) (spec_l3At.l0 (k + 1) y0 y1 y2))
  | 0 => fun _ _ _ r h => by simp [spec_l3At.l0] at h
  | k + 1 => by
    have ih0 := spec_l3At.mono_l k
    · intro y0 y1 y2
      unfold spec_l3At.l0
      repeat' first
      | (with_reducible exact ih0 _ _ _)
      | (with_reducible exact LeO.refl _)
      | (with_reducible exact LeO.none _)
      | (with_reducible refine LeO.ite ?_ ?_)
      | (with_reducible refine LeO.bind ?_ (fun _ => ?_))
      | exact ih0 _ _ _
      | exact LeO.none _
      | refine LeO.ite ?_ ?_
      | refine LeO.bind ?_ (fun _ => ?_)
theorem spec_l3At.mono : ∀ a0 a1 k, LeO (spec_l3At.f k a0 a1) (spec_l3At.f (k + 1) a0 a1) := by
  intro a0 a1 k
  have ih0 := spec_l3At.mono_l k
  unfold spec_l3At.f
  repeat' first
      | (with_reducible exact ih0 _ _ _)
      | (with_reducible exact LeO.refl _)
      | (with_reducible exact LeO.none _)
      | (with_reducible refine LeO.ite ?_ ?_)
      | (with_reducible refine LeO.bind ?_ (fun _ => ?_))
      | exact ih0 _ _ _
      | exact LeO.none _
      | refine LeO.ite ?_ ?_
      | refine LeO.bind ?_ (fun _ => ?_)

/-! ### spec_FieldsPut: function 21 -/
def spec_FieldsPut.j0 : Nat → List (S38) → Bool → List (S38) → Option ((List (S38)) × Bool × Bool)
  | 0, _, _, _ => none
  | k + 1, x0, x8, x9 => (spec_FieldsOk.f k x9).bind fun t519 => (if t519 = true then (some (x9, !x8, true)) else ((some (([] : List (S38)) : List (S38))).bind fun y520 => (if y520.length + x0.length < 4398046511104 then (some ((y520 ++ x0), false, false)) else (none))))
def spec_FieldsPut.f (k : Nat) (l0 : List (S38)) (a1_0 : ByteArray) (a1_1 : ByteArray) : Option ((List (S38)) × Bool × Bool) := (spec_FieldsOk.f k l0).bind fun t483 => (if t483 = true then ((spec_l3At.f k l0 a1_0).bind fun bt487 => ((some (([] : List (S38)) : List (S38))).bind fun y489 => (if y489.length + l0.length < 4398046511104 then ((some (y489 ++ l0 : List (S38))).bind fun y492 => (if bt487.2 = true then (if 0 ≤ bt487.1 then (if bt487.1 < (y492.length : Int) then (spec_FieldsPut.j0 k l0 bt487.2 (y492.set (bt487.1 : Int).toNat (⟨a1_0, a1_1⟩ : S38))) else (none)) else (none)) else ((some (([] : List (S38)) : List (S38))).bind fun y496 => (if 0 ≤ bt487.1 then (if bt487.1 ≤ (l0.length : Int) then ((some (l0.take (bt487.1 : Int).toNat : List (S38))).bind fun y499 => (if y496.length + y499.length < 4398046511104 then ((some (y496 ++ y499 : List (S38))).bind fun y503 => ((some (([(⟨a1_0, a1_1⟩ : S38)] : List (S38)) : List (S38))).bind fun y506 => (if y503.length + y506.length < 4398046511104 then ((some (y503 ++ y506 : List (S38))).bind fun y509 => ((some (l0.drop (bt487.1 : Int).toNat : List (S38))).bind fun y512 => (if y509.length + y512.length < 4398046511104 then (spec_FieldsPut.j0 k l0 bt487.2 (y509 ++ y512)) else (none)))) else (none)))) else (none))) else (none)) else (none))))) else (none)))) else (some ((([] : List (S38))), false, false)))
theorem spec_FieldsPut.mono_l : ∀ k, (∀ y0 y1 y2, LeO (spec_FieldsPut.j0 k y0 y1 y2) (spec_FieldsPut.j0 (k + 1) y0 y1 y2))
  | 0 => fun _ _ _ r h => by simp [spec_FieldsPut.j0] at h
  | k + 1 => by
    have ih0 := spec_FieldsPut.mono_l k
    · intro y0 y1 y2
      unfold spec_FieldsPut.j0
      repeat' first
      | (with_reducible exact ih0 _ _ _)
      | (with_reducible exact spec_FieldsOk.mono _ _)
      | (with_reducible exact spec_l3At.mono _ _ _)
      | (with_reducible exact LeO.refl _)
      | (with_reducible exact LeO.none _)
      | (with_reducible refine LeO.ite ?_ ?_)
      | (with_reducible refine LeO.bind ?_ (fun _ => ?_))
      | exact ih0 _ _ _
      | exact spec_FieldsOk.mono _ _
      | exact spec_l3At.mono _ _ _
      | exact LeO.none _
      | refine LeO.ite ?_ ?_
      | refine LeO.bind ?_ (fun _ => ?_)
theorem spec_FieldsPut.mono : ∀ a0 a1 a2 k, LeO (spec_FieldsPut.f k a0 a1 a2) (spec_FieldsPut.f (k + 1) a0 a1 a2) := by
  intro a0 a1 a2 k
  have ih0 := spec_FieldsPut.mono_l k
  unfold spec_FieldsPut.f
  repeat' first
      | (with_reducible exact ih0 _ _ _)
      | (with_reducible exact spec_FieldsOk.mono _ _)
      | (with_reducible exact spec_l3At.mono _ _ _)
      | (with_reducible exact LeO.refl _)
      | (with_reducible exact LeO.none _)
      | (with_reducible refine LeO.ite ?_ ?_)
      | (with_reducible refine LeO.bind ?_ (fun _ => ?_))
      | exact ih0 _ _ _
      | exact spec_FieldsOk.mono _ _
      | exact spec_l3At.mono _ _ _
      | exact LeO.none _
      | refine LeO.ite ?_ ?_
      | refine LeO.bind ?_ (fun _ => ?_)

/-! ### laws_toPair: function 23 -/
def laws_toPair.f (a0_0 : ByteArray) (a0_1 : ByteArray) : Option (ByteArray × ByteArray) := some (a0_0, a0_1)

/-! ### laws_toPairS: function 22 -/
def laws_toPairS.l0 : Nat → List (S31) → List (S38) → Int → Option ((List (S38)))
  | 0, _, _, _ => none
  | k + 1, x0, x3, x4 => if x4 < (x0.length : Int) then (if 0 ≤ x4 then ((laws_toPair.f ((rd_T31 x0 x4).f0) ((rd_T31 x0 x4).f1)).bind fun bt533 => (if x4 < (x3.length : Int) then (laws_toPairS.l0 k x0 (x3.set (x4 : Int).toNat (⟨bt533.1, bt533.2⟩ : S38)) (wrap64 (x4 + 1))) else (none))) else (none)) else (some x3)
def laws_toPairS.f (k : Nat) (l0 : List (S31)) : Option ((List (S38))) := if 0 ≤ (l0.length : Int) then (if ((l0.length : Int) : Int).toNat ≤ 8796093022208 then (laws_toPairS.l0 k l0 (List.replicate ((l0.length : Int) : Int).toNat z38) 0) else (none)) else (none)
theorem laws_toPairS.mono_l : ∀ k, (∀ y0 y1 y2, LeO (laws_toPairS.l0 k y0 y1 y2) (laws_toPairS.l0 (k + 1) y0 y1 y2))
  | 0 => fun _ _ _ r h => by simp [laws_toPairS.l0] at h
  | k + 1 => by
    have ih0 := laws_toPairS.mono_l k
    · intro y0 y1 y2
      unfold laws_toPairS.l0
      repeat' first
      | (with_reducible exact ih0 _ _ _)
      | (with_reducible exact LeO.refl _)
      | (with_reducible exact LeO.none _)
      | (with_reducible refine LeO.ite ?_ ?_)
      | (with_reducible refine LeO.bind ?_ (fun _ => ?_))
      | exact ih0 _ _ _
      | exact LeO.none _
      | refine LeO.ite ?_ ?_
      | refine LeO.bind ?_ (fun _ => ?_)
theorem laws_toPairS.mono : ∀ a0 k, LeO (laws_toPairS.f k a0) (laws_toPairS.f (k + 1) a0) := by
  intro a0 k
  have ih0 := laws_toPairS.mono_l k
  unfold laws_toPairS.f
  repeat' first
      | (with_reducible exact ih0 _ _ _)
      | (with_reducible exact LeO.refl _)
      | (with_reducible exact LeO.none _)
      | (with_reducible refine LeO.ite ?_ ?_)
      | (with_reducible refine LeO.bind ?_ (fun _ => ?_))
      | exact ih0 _ _ _
      | exact LeO.none _
      | refine LeO.ite ?_ ?_
      | refine LeO.bind ?_ (fun _ => ?_)

/-! ### impl_FieldsOk: function 30 -/
def impl_FieldsOk.l0 : Nat → List (S38) → List (S38) → Int → Int → Option (Bool)
  | 0, _, _, _, _ => none
  | k + 1, x0, x5, x6, x7 => if x7 < x6 then (if 0 ≤ x7 then (if x7 < (x5.length : Int) then (if (((rd_T38 x5 x7).f0).size : Int) > 40 then (some false) else (if (((rd_T38 x5 x7).f1).size : Int) > 40 then (some false) else (if x7 > 0 then (if 0 ≤ (wrap64 (x7 - 1)) then (if (wrap64 (x7 - 1)) < (x0.length : Int) then (if ((Op.bytesLess (((rd_T38 x0 (wrap64 (x7 - 1))).f0).toList) (((rd_T38 x5 x7).f0).toList)) = true) then (impl_FieldsOk.l0 k x0 x5 x6 (wrap64 (x7 + 1))) else (some false)) else (none)) else (none)) else (impl_FieldsOk.l0 k x0 x5 x6 (wrap64 (x7 + 1)))))) else (none)) else (none)) else (some (decide ((x0.length : Int) ≤ 16)))
def impl_FieldsOk.f (k : Nat) (l0 : List (S38)) : Option (Bool) := impl_FieldsOk.l0 k l0 l0 (l0.length : Int) 0
theorem impl_FieldsOk.mono_l : ∀ k, (∀ y0 y1 y2 y3, LeO (impl_FieldsOk.l0 k y0 y1 y2 y3) (impl_FieldsOk.l0 (k + 1) y0 y1 y2 y3))
  | 0 => fun _ _ _ _ r h => by simp [impl_FieldsOk.l0] at h
  | k + 1 => by
    have ih0 := impl_FieldsOk.mono_l k
    · intro y0 y1 y2 y3
      unfold impl_FieldsOk.l0
      repeat' first
      | (with_reducible exact ih0 _ _ _ _)
      | (with_reducible exact LeO.refl _)
      | (with_reducible exact LeO.none _)
      | (with_reducible refine LeO.ite ?_ ?_)
      | (with_reducible refine LeO.bind ?_ (fun _ => ?_))
      | exact ih0 _ _ _ _
      | exact LeO.none _
      | refine LeO.ite ?_ ?_
      | refine LeO.bind ?_ (fun _ => ?_)
theorem impl_FieldsOk.mono : ∀ a0 k, LeO (impl_FieldsOk.f k a0) (impl_FieldsOk.f (k + 1) a0) := by
  intro a0 k
  have ih0 := impl_FieldsOk.mono_l k
  unfold impl_FieldsOk.f
  repeat' first
      | (with_reducible exact ih0 _ _ _ _)
      | (with_reducible exact LeO.refl _)
      | (with_reducible exact LeO.none _)
      | (with_reducible refine LeO.ite ?_ ?_)
      | (with_reducible refine LeO.bind ?_ (fun _ => ?_))
      | exact ih0 _ _ _ _
      | exact LeO.none _
      | refine LeO.ite ?_ ?_
      | refine LeO.bind ?_ (fun _ => ?_)

/-! ### impl_copiedPairs: function 55 -/
def impl_copiedPairs.f (l0 : List (S38)) : Option ((List (S38))) := (some (([] : List (S38)) : List (S38))).bind fun y539 => (if y539.length + l0.length < 4398046511104 then (some (y539 ++ l0)) else (none))

/-! ### impl_fieldAt: function 56 -/
/-- The first place from i on whose first text is t; -1 if there is none. -/
def impl_fieldAt.from (t : ByteArray) : List S38 → Nat → Int
  | [], _ => -1
  | x :: r, i => if x.f0.toList = t.toList then (i : Int) else impl_fieldAt.from t r (i + 1)
def impl_fieldAt.f (l0 : List S38) (a1 : ByteArray) : Option Int := some (impl_fieldAt.from a1 l0 0)

/-! ### slices_SortFunc_impl_Pair_impl_Pair: function 57 -/
def slices_SortFunc_impl_Pair_impl_Pair.lt (x y : S38) : Bool := Op.bytesLess x.f0.toList y.f0.toList
def slices_SortFunc_impl_Pair_impl_Pair.sorted (l : List S38) : List S38 := l.mergeSort fun x y => !slices_SortFunc_impl_Pair_impl_Pair.lt y x
def slices_SortFunc_impl_Pair_impl_Pair.f (l0 : List S38) : Option (List S38) := if l0 ≠ [] ∧ (l0.Pairwise fun a b => a.f0 ≠ b.f0) ∧ l0.length < 4611686018427387904 then some (slices_SortFunc_impl_Pair_impl_Pair.sorted l0) else none
theorem slices_SortFunc_impl_Pair_impl_Pair.swo : Go.Sort.SWO slices_SortFunc_impl_Pair_impl_Pair.lt := X.swo_bl S38.f0
theorem slices_SortFunc_impl_Pair_impl_Pair.lt_eq {x y : S38} (h : slices_SortFunc_impl_Pair_impl_Pair.lt x y = false) (h' : slices_SortFunc_impl_Pair_impl_Pair.lt y x = false) : x.f0 = y.f0 := by
  simp only [slices_SortFunc_impl_Pair_impl_Pair.lt, Bool.or_eq_false_iff, decide_eq_false_iff_not] at h h'
  exact X.bytes_inj (X.bl_same _ _ h h')
def slices_SortFunc_impl_Pair_impl_Pair.cf (x y : S38) : Int := if Op.bytesLess x.f0.toList y.f0.toList = true then -1 else if Op.bytesLess y.f0.toList x.f0.toList = true then 1 else 0
theorem slices_SortFunc_impl_Pair_impl_Pair.ltOf_cf : Go.Proofs.ltOf slices_SortFunc_impl_Pair_impl_Pair.cf = slices_SortFunc_impl_Pair_impl_Pair.lt := by
  funext x y
  unfold Go.Proofs.ltOf slices_SortFunc_impl_Pair_impl_Pair.cf slices_SortFunc_impl_Pair_impl_Pair.lt
  split
  · rename_i h; rw [h]; rfl
  · rename_i h
    rw [Bool.eq_false_iff.2 h]
    split <;> rfl
def slices_SortFunc_impl_Pair_impl_Pair.enc (x : S38) : List Value := [.string x.f0, .string x.f1]
theorem slices_SortFunc_impl_Pair_impl_Pair.M_iff : ∀ (w : World) (base : Nat) (ok : Nat → Prop) (x : S38) (cs : List Value), k38.M w base ok x cs ↔ cs = slices_SortFunc_impl_Pair_impl_Pair.enc x := fun w base ok x cs => by
  constructor
  · rintro ⟨c0, c1, rfl, h0, h1⟩
    rw [show c0 = _ from h0, show c1 = _ from h1]
    rfl
  · rintro rfl
    exact ⟨_, _, rfl, rfl, rfl⟩
theorem slices_SortFunc_impl_Pair_impl_Pair.uniq {l : List S38} (h : l.Pairwise fun a b => a.f0 ≠ b.f0) : ∀ x ∈ l, ∀ y ∈ l, x.f0 = y.f0 → x = y := by
  induction l with
  | nil => intro x hx; cases hx
  | cons a l ih =>
    rw [List.pairwise_cons] at h
    intro x hx y hy e
    rcases List.mem_cons.1 hx with rfl | hx1 <;> rcases List.mem_cons.1 hy with rfl | hy1
    · rfl
    · exact absurd e (h.1 y hy1)
    · exact absurd e.symm (h.1 x hx1)
    · exact ih h.2 x hx1 y hy1 e
instance : Inhabited S38 := ⟨⟨#[]⟩, ⟨#[]⟩⟩
def slices_SortFunc_impl_Pair_impl_Pair.cmpS (a0 : ByteArray) (a1 : ByteArray) : Option (Int) := (cmp_isNaN_string.f a0).bind fun t128 => ((cmp_isNaN_string.f a1).bind fun t129 => (if t128 = true then (if t129 = true then (some 0) else (some (-1))) else (if t129 = true then (some 1) else (if (Op.bytesLess a0.toList a1.toList) = true then (some (-1)) else (if (Op.bytesLess a1.toList a0.toList) = true then (some 1) else (some 0))))))
theorem slices_SortFunc_impl_Pair_impl_Pair.cmpS_eq (x y : S38) : slices_SortFunc_impl_Pair_impl_Pair.cmpS x.f0 y.f0 = some (slices_SortFunc_impl_Pair_impl_Pair.cf x y) := by
  unfold slices_SortFunc_impl_Pair_impl_Pair.cmpS slices_SortFunc_impl_Pair_impl_Pair.cf cmp_isNaN_string.f
  simp only [bne_self_eq_false, Option.bind_some, Bool.false_eq_true, ↓reduceIte]
  split
  · rfl
  · split <;> rfl

/-! ### impl_FieldsPut: function 24 -/
def impl_FieldsPut.j0 : Nat → List (S38) → List (S38) → Int → Option ((List (S38)) × Bool × Bool)
  | 0, _, _, _ => none
  | k + 1, x0, x7, x8 => (slices_SortFunc_impl_Pair_impl_Pair.f x7).bind fun t558 => ((impl_FieldsOk.f k t558).bind fun t559 => (if t559 = true then ((impl_copiedPairs.f t558).bind fun t560 => (some (t560, decide (x8 < 0), true))) else ((impl_copiedPairs.f x0).bind fun t563 => (some (t563, false, false)))))
def impl_FieldsPut.f (k : Nat) (l0 : List (S38)) (a1_0 : ByteArray) (a1_1 : ByteArray) : Option ((List (S38)) × Bool × Bool) := (impl_FieldsOk.f k l0).bind fun t546 => (if t546 = true then ((impl_copiedPairs.f l0).bind fun t550 => ((impl_fieldAt.f t550 a1_0).bind fun t553 => (if t553 ≥ 0 then (if 0 ≤ t553 then (if t553 < (t550.length : Int) then (impl_FieldsPut.j0 k l0 (t550.set (t553 : Int).toNat (⟨a1_0, a1_1⟩ : S38)) t553) else (none)) else (none)) else (if t550.length < 4398046511104 then (impl_FieldsPut.j0 k l0 (t550 ++ [(⟨a1_0, a1_1⟩ : S38)]) t553) else (none))))) else (some ((([] : List (S38))), false, false)))
theorem impl_FieldsPut.mono_l : ∀ k, (∀ y0 y1 y2, LeO (impl_FieldsPut.j0 k y0 y1 y2) (impl_FieldsPut.j0 (k + 1) y0 y1 y2))
  | 0 => fun _ _ _ r h => by simp [impl_FieldsPut.j0] at h
  | k + 1 => by
    have ih0 := impl_FieldsPut.mono_l k
    · intro y0 y1 y2
      unfold impl_FieldsPut.j0
      repeat' first
      | (with_reducible exact ih0 _ _ _)
      | (with_reducible exact impl_FieldsOk.mono _ _)
      | (with_reducible exact LeO.refl _)
      | (with_reducible exact LeO.none _)
      | (with_reducible refine LeO.ite ?_ ?_)
      | (with_reducible refine LeO.bind ?_ (fun _ => ?_))
      | exact ih0 _ _ _
      | exact impl_FieldsOk.mono _ _
      | exact LeO.none _
      | refine LeO.ite ?_ ?_
      | refine LeO.bind ?_ (fun _ => ?_)
theorem impl_FieldsPut.mono : ∀ a0 a1 a2 k, LeO (impl_FieldsPut.f k a0 a1 a2) (impl_FieldsPut.f (k + 1) a0 a1 a2) := by
  intro a0 a1 a2 k
  have ih0 := impl_FieldsPut.mono_l k
  unfold impl_FieldsPut.f
  repeat' first
      | (with_reducible exact ih0 _ _ _)
      | (with_reducible exact impl_FieldsOk.mono _ _)
      | (with_reducible exact LeO.refl _)
      | (with_reducible exact LeO.none _)
      | (with_reducible refine LeO.ite ?_ ?_)
      | (with_reducible refine LeO.bind ?_ (fun _ => ?_))
      | exact ih0 _ _ _
      | exact impl_FieldsOk.mono _ _
      | exact LeO.none _
      | refine LeO.ite ?_ ?_
      | refine LeO.bind ?_ (fun _ => ?_)

/-! ### laws_eqPair: function 60 -/
def laws_eqPair.f (a0_0 : ByteArray) (a0_1 : ByteArray) (a1_0 : ByteArray) (a1_1 : ByteArray) : Option (Bool) := if a0_0.toList = a1_0.toList then (if a0_1.toList = a1_1.toList then (some true) else (some false)) else (some false)

/-! ### laws_eqPairS: function 25 -/
def laws_eqPairS.l0 : Nat → List (S38) → List (S38) → Int → Option (Bool)
  | 0, _, _, _ => none
  | k + 1, x0, x1, x5 => if x5 < (x0.length : Int) then (if 0 ≤ x5 then (if x5 < (x1.length : Int) then ((laws_eqPair.f ((rd_T38 x0 x5).f0) ((rd_T38 x0 x5).f1) ((rd_T38 x1 x5).f0) ((rd_T38 x1 x5).f1)).bind fun t570 => (if t570 = true then (laws_eqPairS.l0 k x0 x1 (wrap64 (x5 + 1))) else (some false))) else (none)) else (none)) else (some true)
def laws_eqPairS.f (k : Nat) (l0 : List (S38)) (l1 : List (S38)) : Option (Bool) := if (l0.length : Int) = (l1.length : Int) then (laws_eqPairS.l0 k l0 l1 0) else (some false)
theorem laws_eqPairS.mono_l : ∀ k, (∀ y0 y1 y2, LeO (laws_eqPairS.l0 k y0 y1 y2) (laws_eqPairS.l0 (k + 1) y0 y1 y2))
  | 0 => fun _ _ _ r h => by simp [laws_eqPairS.l0] at h
  | k + 1 => by
    have ih0 := laws_eqPairS.mono_l k
    · intro y0 y1 y2
      unfold laws_eqPairS.l0
      repeat' first
      | (with_reducible exact ih0 _ _ _)
      | (with_reducible exact LeO.refl _)
      | (with_reducible exact LeO.none _)
      | (with_reducible refine LeO.ite ?_ ?_)
      | (with_reducible refine LeO.bind ?_ (fun _ => ?_))
      | exact ih0 _ _ _
      | exact LeO.none _
      | refine LeO.ite ?_ ?_
      | refine LeO.bind ?_ (fun _ => ?_)
theorem laws_eqPairS.mono : ∀ a0 a1 k, LeO (laws_eqPairS.f k a0 a1) (laws_eqPairS.f (k + 1) a0 a1) := by
  intro a0 a1 k
  have ih0 := laws_eqPairS.mono_l k
  unfold laws_eqPairS.f
  repeat' first
      | (with_reducible exact ih0 _ _ _)
      | (with_reducible exact LeO.refl _)
      | (with_reducible exact LeO.none _)
      | (with_reducible refine LeO.ite ?_ ?_)
      | (with_reducible refine LeO.bind ?_ (fun _ => ?_))
      | exact ih0 _ _ _
      | exact LeO.none _
      | refine LeO.ite ?_ ?_
      | refine LeO.bind ?_ (fun _ => ?_)

/-! ### laws_markPairS: function 26 -/
def laws_markPairS.l0 : Nat → List (S38) → Int → Int → Option (Int × (List (S38)))
  | 0, _, _, _ => none
  | k + 1, x0, x1, x5 => if x5 < (x0.length : Int) then ((laws_markText.f k x1).bind fun t571 => (if 0 ≤ x5 then ((some (x0.set (x5 : Int).toNat (⟨t571, (rd_T38 x0 x5).f1⟩ : S38) : List (S38))).bind fun y572 => ((laws_markText.f k (wrap64 (x1 + 1))).bind fun t573 => (laws_markPairS.l0 k (y572.set (x5 : Int).toNat (⟨(rd_T38 y572 x5).f0, t573⟩ : S38)) (wrap64 ((wrap64 (x1 + 1)) + 1)) (wrap64 (x5 + 1))))) else (none))) else (some (x1, x0))
def laws_markPairS.f (k : Nat) (l0 : List (S38)) (a1 : Int) : Option (Int × (List (S38))) := laws_markPairS.l0 k l0 a1 0
theorem laws_markPairS.mono_l : ∀ k, (∀ y0 y1 y2, LeO (laws_markPairS.l0 k y0 y1 y2) (laws_markPairS.l0 (k + 1) y0 y1 y2))
  | 0 => fun _ _ _ r h => by simp [laws_markPairS.l0] at h
  | k + 1 => by
    have ih0 := laws_markPairS.mono_l k
    · intro y0 y1 y2
      unfold laws_markPairS.l0
      repeat' first
      | (with_reducible exact ih0 _ _ _)
      | (with_reducible exact laws_markText.mono _ _)
      | (with_reducible exact LeO.refl _)
      | (with_reducible exact LeO.none _)
      | (with_reducible refine LeO.ite ?_ ?_)
      | (with_reducible refine LeO.bind ?_ (fun _ => ?_))
      | exact ih0 _ _ _
      | exact laws_markText.mono _ _
      | exact LeO.none _
      | refine LeO.ite ?_ ?_
      | refine LeO.bind ?_ (fun _ => ?_)
theorem laws_markPairS.mono : ∀ a0 a1 k, LeO (laws_markPairS.f k a0 a1) (laws_markPairS.f (k + 1) a0 a1) := by
  intro a0 a1 k
  have ih0 := laws_markPairS.mono_l k
  unfold laws_markPairS.f
  repeat' first
      | (with_reducible exact ih0 _ _ _)
      | (with_reducible exact laws_markText.mono _ _)
      | (with_reducible exact LeO.refl _)
      | (with_reducible exact LeO.none _)
      | (with_reducible refine LeO.ite ?_ ?_)
      | (with_reducible refine LeO.bind ?_ (fun _ => ?_))
      | exact ih0 _ _ _
      | exact laws_markText.mono _ _
      | exact LeO.none _
      | refine LeO.ite ?_ ?_
      | refine LeO.bind ?_ (fun _ => ?_)

/-! ### laws_heldPairS: function 27 -/
def laws_heldPairS.l0 : Nat → List (S38) → Int → Int → Option (Int)
  | 0, _, _, _ => none
  | k + 1, x0, x1, x5 => if x5 < (x0.length : Int) then (if 0 ≤ x5 then ((laws_markText.f k x1).bind fun t576 => (if ((rd_T38 x0 x5).f0).toList = t576.toList then ((laws_markText.f k (wrap64 (x1 + 1))).bind fun t578 => (if ((rd_T38 x0 x5).f1).toList = t578.toList then (laws_heldPairS.l0 k x0 (wrap64 ((wrap64 (x1 + 1)) + 1)) (wrap64 (x5 + 1))) else (some (-1)))) else (some (-1)))) else (none)) else (some x1)
def laws_heldPairS.f (k : Nat) (l0 : List (S38)) (a1 : Int) : Option (Int) := laws_heldPairS.l0 k l0 a1 0
theorem laws_heldPairS.mono_l : ∀ k, (∀ y0 y1 y2, LeO (laws_heldPairS.l0 k y0 y1 y2) (laws_heldPairS.l0 (k + 1) y0 y1 y2))
  | 0 => fun _ _ _ r h => by simp [laws_heldPairS.l0] at h
  | k + 1 => by
    have ih0 := laws_heldPairS.mono_l k
    · intro y0 y1 y2
      unfold laws_heldPairS.l0
      repeat' first
      | (with_reducible exact ih0 _ _ _)
      | (with_reducible exact laws_markText.mono _ _)
      | (with_reducible exact LeO.refl _)
      | (with_reducible exact LeO.none _)
      | (with_reducible refine LeO.ite ?_ ?_)
      | (with_reducible refine LeO.bind ?_ (fun _ => ?_))
      | exact ih0 _ _ _
      | exact laws_markText.mono _ _
      | exact LeO.none _
      | refine LeO.ite ?_ ?_
      | refine LeO.bind ?_ (fun _ => ?_)
theorem laws_heldPairS.mono : ∀ a0 a1 k, LeO (laws_heldPairS.f k a0 a1) (laws_heldPairS.f (k + 1) a0 a1) := by
  intro a0 a1 k
  have ih0 := laws_heldPairS.mono_l k
  unfold laws_heldPairS.f
  repeat' first
      | (with_reducible exact ih0 _ _ _)
      | (with_reducible exact laws_markText.mono _ _)
      | (with_reducible exact LeO.refl _)
      | (with_reducible exact LeO.none _)
      | (with_reducible refine LeO.ite ?_ ?_)
      | (with_reducible refine LeO.bind ?_ (fun _ => ?_))
      | exact ih0 _ _ _
      | exact laws_markText.mono _ _
      | exact LeO.none _
      | refine LeO.ite ?_ ?_
      | refine LeO.bind ?_ (fun _ => ?_)

/-! ### laws_FnExactFieldsPut: function 5 -/
mutual
def laws_FnExactFieldsPut.j0 : Nat → List (S31) → List (S38) → Bool → Bool → List (S38) → List (S38) → Bool → Bool → Bool → ByteArray → ByteArray → Option (Bool)
  | 0, _, _, _, _, _, _, _, _, _, _, _ => none
  | k + 1, x0, x6, x7, x8, x9, x10, x11, x12, x61, x580000, x580001 => if x61 = true then (some false) else ((laws_toPairS.f k x0).bind fun t603 => ((laws_eqPairS.f k x9 t603).bind fun t606 => (if t606 = true then ((laws_markPairS.f k x9 1).bind fun bt607 => (if bt607.1 < 0 then (laws_FnExactFieldsPut.j1 k x0 x6 x7 x8 x10 true x580000 x580001) else ((laws_eqPairS.f k x10 x6).bind fun t609 => (if t609 = true then (if (x11 != x7) = true then (laws_FnExactFieldsPut.j1 k x0 x6 x7 x8 x10 true x580000 x580001) else (laws_FnExactFieldsPut.j1 k x0 x6 x7 x8 x10 (x12 != x8) x580000 x580001)) else (laws_FnExactFieldsPut.j1 k x0 x6 x7 x8 x10 true x580000 x580001))))) else (some false))))
def laws_FnExactFieldsPut.j1 : Nat → List (S31) → List (S38) → Bool → Bool → List (S38) → Bool → ByteArray → ByteArray → Option (Bool)
  | 0, _, _, _, _, _, _, _, _ => none
  | k + 1, x0, x6, x7, x8, x10, x87, x580000, x580001 => if x87 = true then (some false) else ((laws_markPairS.f k x10 1).bind fun bt610 => ((laws_heldPairS.f k bt610.2 1).bind fun t612 => (if t612 < 0 then (some false) else (if t612 = bt610.1 then ((laws_toPairS.f k x0).bind fun t613 => ((laws_toPair.f x580000 x580001).bind fun bt616 => ((impl_FieldsPut.f k t613 bt616.1 bt616.2).bind fun bt618 => ((laws_eqPairS.f k bt618.1 x6).bind fun t623 => (if t623 = true then (if (bt618.2.1 != x7) = true then (laws_FnExactFieldsPut.j2 k bt610.2 bt610.1 true) else (laws_FnExactFieldsPut.j2 k bt610.2 bt610.1 (bt618.2.2 != x8))) else (laws_FnExactFieldsPut.j2 k bt610.2 bt610.1 true)))))) else (some false)))))
def laws_FnExactFieldsPut.j2 : Nat → List (S38) → Int → Bool → Option (Bool)
  | 0, _, _, _ => none
  | k + 1, x10, x14, x121 => if x121 = true then (some false) else ((laws_heldPairS.f k x10 1).bind fun t624 => (if t624 < 0 then (some false) else (if t624 = x14 then (some true) else (some false))))
end
def laws_FnExactFieldsPut.f (k : Nat) (l0 : List (S31)) (a1_0 : ByteArray) (a1_1 : ByteArray) : Option (Bool) := (laws_szPairS.f k l0 1048576).bind fun t580 => (if t580 < 0 then (some true) else ((laws_szPair.f a1_0 a1_1 t580).bind fun t581 => (if t581 < 0 then (some true) else ((laws_toPairS.f k l0).bind fun t582 => ((laws_toPair.f a1_0 a1_1).bind fun bt585 => ((spec_FieldsPut.f k t582 bt585.1 bt585.2).bind fun bt587 => ((laws_toPairS.f k l0).bind fun t592 => ((laws_toPair.f a1_0 a1_1).bind fun bt595 => ((impl_FieldsPut.f k t592 bt595.1 bt595.2).bind fun bt597 => ((laws_eqPairS.f k bt597.1 bt587.1).bind fun t602 => (if t602 = true then (if (bt597.2.1 != bt587.2.1) = true then (laws_FnExactFieldsPut.j0 k l0 bt587.1 bt587.2.1 bt587.2.2 t592 bt597.1 bt597.2.1 bt597.2.2 true a1_0 a1_1) else (laws_FnExactFieldsPut.j0 k l0 bt587.1 bt587.2.1 bt587.2.2 t592 bt597.1 bt597.2.1 bt597.2.2 (bt597.2.2 != bt587.2.2) a1_0 a1_1)) else (laws_FnExactFieldsPut.j0 k l0 bt587.1 bt587.2.1 bt587.2.2 t592 bt597.1 bt597.2.1 bt597.2.2 true a1_0 a1_1))))))))))))
theorem laws_FnExactFieldsPut.mono_l : ∀ k, (∀ y0 y1 y2 y3 y4 y5 y6 y7 y8 y9 y10, LeO (laws_FnExactFieldsPut.j0 k y0 y1 y2 y3 y4 y5 y6 y7 y8 y9 y10) (laws_FnExactFieldsPut.j0 (k + 1) y0 y1 y2 y3 y4 y5 y6 y7 y8 y9 y10)) ∧ (∀ y0 y1 y2 y3 y4 y5 y6 y7, LeO (laws_FnExactFieldsPut.j1 k y0 y1 y2 y3 y4 y5 y6 y7) (laws_FnExactFieldsPut.j1 (k + 1) y0 y1 y2 y3 y4 y5 y6 y7)) ∧ (∀ y0 y1 y2, LeO (laws_FnExactFieldsPut.j2 k y0 y1 y2) (laws_FnExactFieldsPut.j2 (k + 1) y0 y1 y2))
  | 0 => ⟨fun _ _ _ _ _ _ _ _ _ _ _ r h => by simp [laws_FnExactFieldsPut.j0] at h, fun _ _ _ _ _ _ _ _ r h => by simp [laws_FnExactFieldsPut.j1] at h, fun _ _ _ r h => by simp [laws_FnExactFieldsPut.j2] at h⟩
  | k + 1 => by
    obtain ⟨ih0, ih1, ih2⟩ := laws_FnExactFieldsPut.mono_l k
    refine ⟨?_, ?_, ?_⟩
    · intro y0 y1 y2 y3 y4 y5 y6 y7 y8 y9 y10
      unfold laws_FnExactFieldsPut.j0
      repeat' first
      | (with_reducible exact ih0 _ _ _ _ _ _ _ _ _ _ _)
      | (with_reducible exact ih1 _ _ _ _ _ _ _ _)
      | (with_reducible exact ih2 _ _ _)
      | (with_reducible exact impl_FieldsPut.mono _ _ _ _)
      | (with_reducible exact laws_eqPairS.mono _ _ _)
      | (with_reducible exact laws_heldPairS.mono _ _ _)
      | (with_reducible exact laws_markPairS.mono _ _ _)
      | (with_reducible exact laws_szPairS.mono _ _ _)
      | (with_reducible exact laws_toPairS.mono _ _)
      | (with_reducible exact spec_FieldsPut.mono _ _ _ _)
      | (with_reducible exact LeO.refl _)
      | (with_reducible exact LeO.none _)
      | (with_reducible refine LeO.ite ?_ ?_)
      | (with_reducible refine LeO.bind ?_ (fun _ => ?_))
      | exact ih0 _ _ _ _ _ _ _ _ _ _ _
      | exact ih1 _ _ _ _ _ _ _ _
      | exact ih2 _ _ _
      | exact impl_FieldsPut.mono _ _ _ _
      | exact laws_eqPairS.mono _ _ _
      | exact laws_heldPairS.mono _ _ _
      | exact laws_markPairS.mono _ _ _
      | exact laws_szPairS.mono _ _ _
      | exact laws_toPairS.mono _ _
      | exact spec_FieldsPut.mono _ _ _ _
      | exact LeO.none _
      | refine LeO.ite ?_ ?_
      | refine LeO.bind ?_ (fun _ => ?_)
    · intro y0 y1 y2 y3 y4 y5 y6 y7
      unfold laws_FnExactFieldsPut.j1
      repeat' first
      | (with_reducible exact ih0 _ _ _ _ _ _ _ _ _ _ _)
      | (with_reducible exact ih1 _ _ _ _ _ _ _ _)
      | (with_reducible exact ih2 _ _ _)
      | (with_reducible exact impl_FieldsPut.mono _ _ _ _)
      | (with_reducible exact laws_eqPairS.mono _ _ _)
      | (with_reducible exact laws_heldPairS.mono _ _ _)
      | (with_reducible exact laws_markPairS.mono _ _ _)
      | (with_reducible exact laws_szPairS.mono _ _ _)
      | (with_reducible exact laws_toPairS.mono _ _)
      | (with_reducible exact spec_FieldsPut.mono _ _ _ _)
      | (with_reducible exact LeO.refl _)
      | (with_reducible exact LeO.none _)
      | (with_reducible refine LeO.ite ?_ ?_)
      | (with_reducible refine LeO.bind ?_ (fun _ => ?_))
      | exact ih0 _ _ _ _ _ _ _ _ _ _ _
      | exact ih1 _ _ _ _ _ _ _ _
      | exact ih2 _ _ _
      | exact impl_FieldsPut.mono _ _ _ _
      | exact laws_eqPairS.mono _ _ _
      | exact laws_heldPairS.mono _ _ _
      | exact laws_markPairS.mono _ _ _
      | exact laws_szPairS.mono _ _ _
      | exact laws_toPairS.mono _ _
      | exact spec_FieldsPut.mono _ _ _ _
      | exact LeO.none _
      | refine LeO.ite ?_ ?_
      | refine LeO.bind ?_ (fun _ => ?_)
    · intro y0 y1 y2
      unfold laws_FnExactFieldsPut.j2
      repeat' first
      | (with_reducible exact ih0 _ _ _ _ _ _ _ _ _ _ _)
      | (with_reducible exact ih1 _ _ _ _ _ _ _ _)
      | (with_reducible exact ih2 _ _ _)
      | (with_reducible exact impl_FieldsPut.mono _ _ _ _)
      | (with_reducible exact laws_eqPairS.mono _ _ _)
      | (with_reducible exact laws_heldPairS.mono _ _ _)
      | (with_reducible exact laws_markPairS.mono _ _ _)
      | (with_reducible exact laws_szPairS.mono _ _ _)
      | (with_reducible exact laws_toPairS.mono _ _)
      | (with_reducible exact spec_FieldsPut.mono _ _ _ _)
      | (with_reducible exact LeO.refl _)
      | (with_reducible exact LeO.none _)
      | (with_reducible refine LeO.ite ?_ ?_)
      | (with_reducible refine LeO.bind ?_ (fun _ => ?_))
      | exact ih0 _ _ _ _ _ _ _ _ _ _ _
      | exact ih1 _ _ _ _ _ _ _ _
      | exact ih2 _ _ _
      | exact impl_FieldsPut.mono _ _ _ _
      | exact laws_eqPairS.mono _ _ _
      | exact laws_heldPairS.mono _ _ _
      | exact laws_markPairS.mono _ _ _
      | exact laws_szPairS.mono _ _ _
      | exact laws_toPairS.mono _ _
      | exact spec_FieldsPut.mono _ _ _ _
      | exact LeO.none _
      | refine LeO.ite ?_ ?_
      | refine LeO.bind ?_ (fun _ => ?_)
theorem laws_FnExactFieldsPut.mono : ∀ a0 a1 a2 k, LeO (laws_FnExactFieldsPut.f k a0 a1 a2) (laws_FnExactFieldsPut.f (k + 1) a0 a1 a2) := by
  intro a0 a1 a2 k
  obtain ⟨ih0, ih1, ih2⟩ := laws_FnExactFieldsPut.mono_l k
  unfold laws_FnExactFieldsPut.f
  repeat' first
      | (with_reducible exact ih0 _ _ _ _ _ _ _ _ _ _ _)
      | (with_reducible exact ih1 _ _ _ _ _ _ _ _)
      | (with_reducible exact ih2 _ _ _)
      | (with_reducible exact impl_FieldsPut.mono _ _ _ _)
      | (with_reducible exact laws_eqPairS.mono _ _ _)
      | (with_reducible exact laws_heldPairS.mono _ _ _)
      | (with_reducible exact laws_markPairS.mono _ _ _)
      | (with_reducible exact laws_szPairS.mono _ _ _)
      | (with_reducible exact laws_toPairS.mono _ _)
      | (with_reducible exact spec_FieldsPut.mono _ _ _ _)
      | (with_reducible exact LeO.refl _)
      | (with_reducible exact LeO.none _)
      | (with_reducible refine LeO.ite ?_ ?_)
      | (with_reducible refine LeO.bind ?_ (fun _ => ?_))
      | exact ih0 _ _ _ _ _ _ _ _ _ _ _
      | exact ih1 _ _ _ _ _ _ _ _
      | exact ih2 _ _ _
      | exact impl_FieldsPut.mono _ _ _ _
      | exact laws_eqPairS.mono _ _ _
      | exact laws_heldPairS.mono _ _ _
      | exact laws_markPairS.mono _ _ _
      | exact laws_szPairS.mono _ _ _
      | exact laws_toPairS.mono _ _
      | exact spec_FieldsPut.mono _ _ _ _
      | exact LeO.none _
      | refine LeO.ite ?_ ?_
      | refine LeO.bind ?_ (fun _ => ?_)

/-- A state of type 86 at block g of W; what its slices lead to came in by w0. -/
def IsS86 (w0 W : World) (g : Nat) (f0 : List Int) (f1 : Int) : Prop := ∃ A0 c0, W.heap[g]? = some (.cells #[.slice A0 f0.length c0, .int .i64 f1] 86 (0, 0)) ∧ w0.heap.size ≤ g ∧ Kd.C (Kd.int .u8) w0 A0 f0.length f0
theorem IsS86.grown {w0 W : World} {g : Nat} {f0 : List Int} {f1 : Int} {W1 : World} {row : Option Nat} (h : IsS86 w0 W g f0 f1) (hw : W.grownBy W1 row) (hne : some g ≠ row) : IsS86 w0 W1 g f0 f1 := by
  obtain ⟨A0, c0, hb, hg, hr0⟩ := h
  exact ⟨A0, c0, blk_grown hb hw hne, hg, hr0⟩
theorem IsS86.own_neN {w0 W : World} {g : Nat} {f0 : List Int} {f1 : Int} {α : Type} {d : Kd α} {e : Nat} {base : Nat} {ok : Nat → Prop} {v : Value} {xs : List α} (h : IsS86 w0 W g f0 f1) (ho : Kd.N d e W base ok v xs) (ht : e ≠ 86) : some g ≠ v.ownBlock := by
  obtain ⟨A0, c0, hb, hg, hr0⟩ := h
  exact Kd.N_ne ho hb ht
theorem IsS86.fresh {w0 W : World} {g : Nat} {f0 : List Int} {f1 : Int} (h : IsS86 w0 W g f0 f1) : ∀ k, W.heap.size ≤ k → k ≠ g := by
  obtain ⟨A0, c0, hb, hg, hr0⟩ := h
  exact Kd.freshB hb
theorem IsS86.kept {w0 W : World} {g : Nat} {f0 : List Int} {f1 : Int} {W1 : World} {S : Nat → Prop} (h : IsS86 w0 W g f0 f1) (hk : Kept W W1 S) (hne : ¬ S g) : IsS86 w0 W1 g f0 f1 := by
  obtain ⟨A0, c0, hb, hg, hr0⟩ := h
  exact ⟨A0, c0, blk_kept hb hk hne, hg, hr0⟩
theorem IsS86.below {w0 W : World} {g : Nat} {f0 : List Int} {f1 : Int} {W1 : World} (h : IsS86 w0 W g f0 f1) (hw : Below W.heap.size W W1) : IsS86 w0 W1 g f0 f1 := h.grown (grown_of_below hw none) (by simp)
theorem IsS86.alloc {w0 W : World} {g : Nat} {f0 : List Int} {f1 : Int} (h : IsS86 w0 W g f0 f1) (o : Obj) : IsS86 w0 (W.alloc o) g f0 f1 := h.below (below_alloc (Below.refl _ _) o)
theorem IsS86.drewN {w0 W : World} {g : Nat} {f0 : List Int} {f1 : Int} (h : IsS86 w0 W g f0 f1) (m : Nat) : IsS86 w0 (W.drewN m) g f0 f1 := h
theorem IsS86.drew {w0 W : World} {g : Nat} {f0 : List Int} {f1 : Int} (h : IsS86 w0 W g f0 f1) : IsS86 w0 W.drew g f0 f1 := h
theorem IsS86.at_ {w0 W : World} {g : Nat} {f0 : List Int} {f1 : Int} {w' : World} {m : Nat} (hq : W.drewN m = w') (h : IsS86 w0 W g f0 f1) : IsS86 w0 w' g f0 f1 := by subst hq; exact IsS86.drewN h m
theorem IsS86.apart {w0 W : World} {g : Nat} {f0 : List Int} {f1 : Int} {α : Type} {d : Kd α} {e : Nat} {base : Nat} {ok : Nat → Prop} {v : Value} {xs : List α} (h : IsS86 w0 W g f0 f1) (ho : d.R e W base ok v xs) (ht : ∀ q, q ∈ e :: d.E → q ≠ 86) : d.R e W base (fun k => ok k ∧ k ≠ g) v xs := by
  obtain ⟨A0, c0, hb, hg, hr0⟩ := h
  exact Kd.R_types ho hb ht
theorem IsS86.own_ne {w0 W : World} {g : Nat} {f0 : List Int} {f1 : Int} {α : Type} {d : Kd α} {e : Nat} {base : Nat} {ok : Nat → Prop} {v : Value} {xs : List α} (h : IsS86 w0 W g f0 f1) (ho : d.R e W base ok v xs) (ht : e ≠ 86) : some g ≠ v.ownBlock := by
  obtain ⟨A0, c0, hb, hg, hr0⟩ := h
  exact Kd.R_ne ho hb ht
theorem IsS86.apartQ {w0 W : World} {g : Nat} {f0 : List Int} {f1 : Int} {α : Type} {d : Kd α} {e : Nat} {base : Nat} {ok : Nat → Prop} {v : Value} {xs : List α} (h : IsS86 w0 W g f0 f1) (ho : d.Q e W base ok v xs) (ht : ∀ q, q ∈ e :: d.E → q ≠ 86) : d.Q e W base (fun k => ok k ∧ k ≠ g) v xs := by
  obtain ⟨A0, c0, hb, hg, hr0⟩ := h
  exact Kd.Q_types ho hb ht
theorem IsS86.own_neQ {w0 W : World} {g : Nat} {f0 : List Int} {f1 : Int} {α : Type} {d : Kd α} {e : Nat} {base : Nat} {ok : Nat → Prop} {v : Value} {xs : List α} (h : IsS86 w0 W g f0 f1) (ho : d.Q e W base ok v xs) (ht : e ≠ 86) : some g ≠ v.ownBlock := by
  obtain ⟨A0, c0, hb, hg, hr0⟩ := h
  exact Kd.Q_ne ho hb ht
theorem IsS86.apartS {w0 W : World} {g : Nat} {f0 : List Int} {f1 : Int} {α : Type} {d : Kd α} {e : Nat} {base : Nat} {ok : Nat → Prop} {v : Value} {xs : List α} (h : IsS86 w0 W g f0 f1) (ho : d.S e W base ok v xs) (ht : ∀ q, q ∈ e :: d.E → q ≠ 86) : d.S e W base (fun k => ok k ∧ k ≠ g) v xs := by
  obtain ⟨A0, c0, hb, hg, hr0⟩ := h
  exact Kd.S_types ho hb ht
theorem IsS86.own_neS {w0 W : World} {g : Nat} {f0 : List Int} {f1 : Int} {α : Type} {d : Kd α} {e : Nat} {base : Nat} {ok : Nat → Prop} {v : Value} {xs : List α} (h : IsS86 w0 W g f0 f1) (ho : d.S e W base ok v xs) (ht : e ≠ 86) : some g ≠ v.ownBlock := by
  obtain ⟨A0, c0, hb, hg, hr0⟩ := h
  exact Kd.S_ne ho hb ht
theorem IsS86.lt {w0 W : World} {g : Nat} {f0 : List Int} {f1 : Int} (h : IsS86 w0 W g f0 f1) : g < W.heap.size := by
  obtain ⟨A0, c0, hb, hg, hr0⟩ := h
  exact blk_lt hb
theorem IsS86.ge {w0 W : World} {g : Nat} {f0 : List Int} {f1 : Int} (h : IsS86 w0 W g f0 f1) : w0.heap.size ≤ g := by
  obtain ⟨A0, c0, hb, hg, hr0⟩ := h
  exact hg
theorem IsS86.ne_blk {w0 W : World} {g : Nat} {f0 : List Int} {f1 : Int} {a : Nat} {cs : Array Value} {t : TypeId} {fr : Nat × Nat} (h : IsS86 w0 W g f0 f1) (hb2 : W.heap[a]? = some (.cells cs t fr)) (ht : t ≠ 86) : g ≠ a := by
  obtain ⟨A0, c0, hb, hg, hr0⟩ := h
  rintro rfl
  rw [hb] at hb2
  injection hb2 with hb2
  injection hb2 with _ ht2
  exact ht ht2.symm
theorem IsS86.far {w0 W : World} {g : Nat} {f0 : List Int} {f1 : Int} {p : Addr} (h : IsS86 w0 W g f0 f1) (hne : g ≠ p.block) (u : Value) : IsS86 w0 (W.setCell p u) g f0 f1 := by
  obtain ⟨A0, c0, hb, hg, hr0⟩ := h
  exact ⟨A0, c0, blk_far hb hne u, hg, hr0⟩
theorem cellS86_0 {W : World} {g : Nat} {A0 : Option Addr} {c0 : Nat} {f0 : List Int} {f1 : Int} (h : W.heap[g]? = some (.cells #[.slice A0 f0.length c0, .int .i64 f1] 86 (0, 0))) : W.cell? ⟨g, 0, none⟩ = some (.slice A0 f0.length c0) := (blk_cell h 0).trans rfl
theorem cellS86_1 {W : World} {g : Nat} {A0 : Option Addr} {c0 : Nat} {f0 : List Int} {f1 : Int} (h : W.heap[g]? = some (.cells #[.slice A0 f0.length c0, .int .i64 f1] 86 (0, 0))) : W.cell? ⟨g, 1, none⟩ = some (.int .i64 f1) := (blk_cell h 1).trans rfl
theorem IsS86.set_1 {w0 W : World} {g : Nat} {f0 : List Int} {f1 : Int} (h : IsS86 w0 W g f0 f1) (x : Int) : IsS86 w0 (W.setCell ⟨g, 1, none⟩ (.int .i64 x)) g f0 x := by
  obtain ⟨A0, c0, hb, hg, hr0⟩ := h
  exact ⟨A0, c0, by simpa using blk_set hb 1 (.int .i64 x), hg, hr0⟩
theorem IsS86.new (w0 W : World) (A0 : Option Addr) (c0 : Nat) (f0 : List Int) (f1 : Int) (hB : Below w0.heap.size w0 W) (hr0 : Kd.C (Kd.int .u8) w0 A0 f0.length f0) : IsS86 w0 (W.alloc (.cells #[.slice A0 f0.length c0, .int .i64 f1] 86)) W.heap.size f0 f1 := ⟨A0, c0, by simpa using heap_alloc_new W _, hB.size, hr0⟩

/-! ### spec_l1Open: function 61 -/
def spec_l1Open.f (l0 : List Int) : Option (List Int × Int) := if (l0.length : Int) > 2000 then (if 2000 ≤ (l0.length : Int) then (some (l0.take 2000, 0)) else (none)) else (some (l0, 0))

/-! ### spec_l1Rd_pick: function 80 -/
def spec_l1Rd_pick.j0 : Nat → Int → Bool → List Int → Int → Option (Int × Int)
  | 0, _, _, _, _ => none
  | k + 1, x1, x24, x1000, x1001 => if x24 = true then (some (0, x1001)) else (if (wrap64 (x1001 - 1)) < (x1000.length : Int) then (if 0 ≤ (wrap64 (x1001 - 1)) then (if x1 = 0 then (none) else (some (Int.tmod (wrap64 (rd x1000 (wrap64 (x1001 - 1)))) x1, x1001))) else (none)) else (if (x1000.length : Int) = 0 then (none) else (if 0 ≤ (Int.tmod (wrap64 (x1001 - 1)) (x1000.length : Int)) then (if (Int.tmod (wrap64 (x1001 - 1)) (x1000.length : Int)) < (x1000.length : Int) then (if 0 ≤ (Int.tmod (wrap64 ((wrap64 ((wrap64 (x1001 - 1)) * 7)) + 3)) (x1000.length : Int)) then (if (Int.tmod (wrap64 ((wrap64 ((wrap64 (x1001 - 1)) * 7)) + 3)) (x1000.length : Int)) < (x1000.length : Int) then (if x1 = 0 then (none) else (some (Int.tmod (Go.bits .xor .i64 (wrap64 ((wrap64 ((wrap64 ((wrap64 ((wrap64 (rd x1000 (Int.tmod (wrap64 (x1001 - 1)) (x1000.length : Int)))) * 131)) + (wrap64 ((wrap64 (rd x1000 (Int.tmod (wrap64 ((wrap64 ((wrap64 (x1001 - 1)) * 7)) + 3)) (x1000.length : Int)))) * 1117)))) + (wrap64 ((wrap64 (x1001 - 1)) * 29)))) + (wrap64 ((wrap64 (Int.tdiv (wrap64 (x1001 - 1)) (x1000.length : Int))) * 53)))) (wrap64 (Int.tdiv (wrap64 ((wrap64 ((wrap64 ((wrap64 ((wrap64 (rd x1000 (Int.tmod (wrap64 (x1001 - 1)) (x1000.length : Int)))) * 131)) + (wrap64 ((wrap64 (rd x1000 (Int.tmod (wrap64 ((wrap64 ((wrap64 (x1001 - 1)) * 7)) + 3)) (x1000.length : Int)))) * 1117)))) + (wrap64 ((wrap64 (x1001 - 1)) * 29)))) + (wrap64 ((wrap64 (Int.tdiv (wrap64 (x1001 - 1)) (x1000.length : Int))) * 53)))) 64))) x1, x1001))) else (none)) else (none)) else (none)) else (none))))
def spec_l1Rd_pick.f (k : Nat) (s0_0 : List Int) (s0_1 : Int) (a1 : Int) : Option (Int × Int) := if a1 < 1 then (spec_l1Rd_pick.j0 k a1 true s0_0 (wrap64 (s0_1 + 1))) else (spec_l1Rd_pick.j0 k a1 ((s0_0.length : Int) == 0) s0_0 (wrap64 (s0_1 + 1)))
theorem spec_l1Rd_pick.mono_l : ∀ k, (∀ y0 y1 y2 y3, LeO (spec_l1Rd_pick.j0 k y0 y1 y2 y3) (spec_l1Rd_pick.j0 (k + 1) y0 y1 y2 y3))
  | 0 => fun _ _ _ _ r h => by simp [spec_l1Rd_pick.j0] at h
  | k + 1 => by
    have ih0 := spec_l1Rd_pick.mono_l k
    · intro y0 y1 y2 y3
      unfold spec_l1Rd_pick.j0
      repeat' first
      | (with_reducible exact ih0 _ _ _ _)
      | (with_reducible exact LeO.refl _)
      | (with_reducible exact LeO.none _)
      | (with_reducible refine LeO.ite ?_ ?_)
      | (with_reducible refine LeO.bind ?_ (fun _ => ?_))
      | exact ih0 _ _ _ _
      | exact LeO.none _
      | refine LeO.ite ?_ ?_
      | refine LeO.bind ?_ (fun _ => ?_)
theorem spec_l1Rd_pick.mono : ∀ a0 a1 a2 k, LeO (spec_l1Rd_pick.f k a0 a1 a2) (spec_l1Rd_pick.f (k + 1) a0 a1 a2) := by
  intro a0 a1 a2 k
  have ih0 := spec_l1Rd_pick.mono_l k
  unfold spec_l1Rd_pick.f
  repeat' first
      | (with_reducible exact ih0 _ _ _ _)
      | (with_reducible exact LeO.refl _)
      | (with_reducible exact LeO.none _)
      | (with_reducible refine LeO.ite ?_ ?_)
      | (with_reducible refine LeO.bind ?_ (fun _ => ?_))
      | exact ih0 _ _ _ _
      | exact LeO.none _
      | refine LeO.ite ?_ ?_
      | refine LeO.bind ?_ (fun _ => ?_)

/-! ### spec_l1Rd_of: function 63 -/
def spec_l1Rd_of.f (k : Nat) (s0_0 : List Int) (s0_1 : Int) (l1 : List ByteArray) : Option (ByteArray × Int) := (spec_l1Rd_pick.f k s0_0 s0_1 (l1.length : Int)).bind fun bt631 => (if 0 ≤ bt631.1 then (if bt631.1 < (l1.length : Int) then (some (rdOf ByteArray.empty l1 bt631.1, bt631.2)) else (none)) else (none))
theorem spec_l1Rd_of.mono : ∀ a0 a1 a2 k, LeO (spec_l1Rd_of.f k a0 a1 a2) (spec_l1Rd_of.f (k + 1) a0 a1 a2) := by
  intro a0 a1 a2 k
  unfold spec_l1Rd_of.f
  repeat' first
      | (with_reducible exact spec_l1Rd_pick.mono _ _ _ _)
      | (with_reducible exact LeO.refl _)
      | (with_reducible exact LeO.none _)
      | (with_reducible refine LeO.ite ?_ ?_)
      | (with_reducible refine LeO.bind ?_ (fun _ => ?_))
      | exact spec_l1Rd_pick.mono _ _ _ _
      | exact LeO.none _
      | refine LeO.ite ?_ ?_
      | refine LeO.bind ?_ (fun _ => ?_)

/-! ### spec_l1Many: function 65 -/
def spec_l1Many.l0 : Nat → ByteArray → Int → ByteArray → Option (ByteArray)
  | 0, _, _, _ => none
  | k + 1, x0, x1, x5 => if x1 > 0 then (if (Int.tmod x1 2) = 1 then (if x5.size + x0.size ≤ 9223372036854775807 then (if x0.size + x0.size ≤ 9223372036854775807 then (spec_l1Many.l0 k (x0 ++ x0) (wrap64 (Int.tdiv x1 2)) (x5 ++ x0)) else (none)) else (none)) else (if x0.size + x0.size ≤ 9223372036854775807 then (spec_l1Many.l0 k (x0 ++ x0) (wrap64 (Int.tdiv x1 2)) x5) else (none))) else (some x5)
def spec_l1Many.f (k : Nat) (a0 : ByteArray) (a1 : Int) : Option (ByteArray) := spec_l1Many.l0 k a0 a1 (⟨#[]⟩ : ByteArray)
theorem spec_l1Many.mono_l : ∀ k, (∀ y0 y1 y2, LeO (spec_l1Many.l0 k y0 y1 y2) (spec_l1Many.l0 (k + 1) y0 y1 y2))
  | 0 => fun _ _ _ r h => by simp [spec_l1Many.l0] at h
  | k + 1 => by
    have ih0 := spec_l1Many.mono_l k
    · intro y0 y1 y2
      unfold spec_l1Many.l0
      repeat' first
      | (with_reducible exact ih0 _ _ _)
      | (with_reducible exact LeO.refl _)
      | (with_reducible exact LeO.none _)
      | (with_reducible refine LeO.ite ?_ ?_)
      | (with_reducible refine LeO.bind ?_ (fun _ => ?_))
      | exact ih0 _ _ _
      | exact LeO.none _
      | refine LeO.ite ?_ ?_
      | refine LeO.bind ?_ (fun _ => ?_)
theorem spec_l1Many.mono : ∀ a0 a1 k, LeO (spec_l1Many.f k a0 a1) (spec_l1Many.f (k + 1) a0 a1) := by
  intro a0 a1 k
  have ih0 := spec_l1Many.mono_l k
  unfold spec_l1Many.f
  repeat' first
      | (with_reducible exact ih0 _ _ _)
      | (with_reducible exact LeO.refl _)
      | (with_reducible exact LeO.none _)
      | (with_reducible refine LeO.ite ?_ ?_)
      | (with_reducible refine LeO.bind ?_ (fun _ => ?_))
      | exact ih0 _ _ _
      | exact LeO.none _
      | refine LeO.ite ?_ ?_
      | refine LeO.bind ?_ (fun _ => ?_)

/-! ### spec_l11Text: function 64 -/
def spec_l11Text.f (k : Nat) (s0_0 : List Int) (s0_1 : Int) : Option (ByteArray × Int) := (spec_l1Many.f k (⟨#[120]⟩ : ByteArray) 40).bind fun t634 => ((spec_l1Rd_of.f k s0_0 s0_1 (([(⟨#[]⟩ : ByteArray), (⟨#[97]⟩ : ByteArray), (⟨#[98]⟩ : ByteArray), (⟨#[99]⟩ : ByteArray), (⟨#[53]⟩ : ByteArray), (⟨#[45, 51]⟩ : ByteArray), (⟨#[104, 101, 108, 108, 111]⟩ : ByteArray), (⟨#[13, 10]⟩ : ByteArray), (⟨#[255]⟩ : ByteArray), t634, (⟨#[57, 57, 57, 57, 57, 57, 57, 57, 57]⟩ : ByteArray)] : List ByteArray))).bind fun bt638 => (some (bt638.1, bt638.2)))
theorem spec_l11Text.mono : ∀ a0 a1 k, LeO (spec_l11Text.f k a0 a1) (spec_l11Text.f (k + 1) a0 a1) := by
  intro a0 a1 k
  unfold spec_l11Text.f
  repeat' first
      | (with_reducible exact spec_l1Many.mono _ _ _)
      | (with_reducible exact spec_l1Rd_of.mono _ _ _ _)
      | (with_reducible exact LeO.refl _)
      | (with_reducible exact LeO.none _)
      | (with_reducible refine LeO.ite ?_ ?_)
      | (with_reducible refine LeO.bind ?_ (fun _ => ?_))
      | exact spec_l1Many.mono _ _ _
      | exact spec_l1Rd_of.mono _ _ _ _
      | exact LeO.none _
      | refine LeO.ite ?_ ?_
      | refine LeO.bind ?_ (fun _ => ?_)

/-! ### spec_l11Fields: function 79 -/
def spec_l11Fields.l0 : Nat → List (S38) → Int → List Int → Int → Option ((List (S38)) × Int)
  | 0, _, _, _, _ => none
  | k + 1, x3, x4, x1000, x1001 => if x4 > 0 then ((spec_l11Text.f k x1000 x1001).bind fun bt645 => ((spec_l11Text.f k x1000 bt645.2).bind fun bt647 => ((spec_FieldsPut.f k x3 bt645.1 bt647.1).bind fun bt649 => (spec_l11Fields.l0 k bt649.1 (wrap64 (x4 - 1)) x1000 bt647.2)))) else (some (x3, x1001))
def spec_l11Fields.f (k : Nat) (s0_0 : List Int) (s0_1 : Int) : Option ((List (S38)) × Int) := (spec_l1Rd_pick.f k s0_0 s0_1 5).bind fun bt643 => (spec_l11Fields.l0 k (([] : List (S38))) bt643.1 s0_0 bt643.2)
theorem spec_l11Fields.mono_l : ∀ k, (∀ y0 y1 y2 y3, LeO (spec_l11Fields.l0 k y0 y1 y2 y3) (spec_l11Fields.l0 (k + 1) y0 y1 y2 y3))
  | 0 => fun _ _ _ _ r h => by simp [spec_l11Fields.l0] at h
  | k + 1 => by
    have ih0 := spec_l11Fields.mono_l k
    · intro y0 y1 y2 y3
      unfold spec_l11Fields.l0
      repeat' first
      | (with_reducible exact ih0 _ _ _ _)
      | (with_reducible exact spec_FieldsPut.mono _ _ _ _)
      | (with_reducible exact spec_l11Text.mono _ _ _)
      | (with_reducible exact spec_l1Rd_pick.mono _ _ _ _)
      | (with_reducible exact LeO.refl _)
      | (with_reducible exact LeO.none _)
      | (with_reducible refine LeO.ite ?_ ?_)
      | (with_reducible refine LeO.bind ?_ (fun _ => ?_))
      | exact ih0 _ _ _ _
      | exact spec_FieldsPut.mono _ _ _ _
      | exact spec_l11Text.mono _ _ _
      | exact spec_l1Rd_pick.mono _ _ _ _
      | exact LeO.none _
      | refine LeO.ite ?_ ?_
      | refine LeO.bind ?_ (fun _ => ?_)
theorem spec_l11Fields.mono : ∀ a0 a1 k, LeO (spec_l11Fields.f k a0 a1) (spec_l11Fields.f (k + 1) a0 a1) := by
  intro a0 a1 k
  have ih0 := spec_l11Fields.mono_l k
  unfold spec_l11Fields.f
  repeat' first
      | (with_reducible exact ih0 _ _ _ _)
      | (with_reducible exact spec_FieldsPut.mono _ _ _ _)
      | (with_reducible exact spec_l11Text.mono _ _ _)
      | (with_reducible exact spec_l1Rd_pick.mono _ _ _ _)
      | (with_reducible exact LeO.refl _)
      | (with_reducible exact LeO.none _)
      | (with_reducible refine LeO.ite ?_ ?_)
      | (with_reducible refine LeO.bind ?_ (fun _ => ?_))
      | exact ih0 _ _ _ _
      | exact spec_FieldsPut.mono _ _ _ _
      | exact spec_l11Text.mono _ _ _
      | exact spec_l1Rd_pick.mono _ _ _ _
      | exact LeO.none _
      | refine LeO.ite ?_ ?_
      | refine LeO.bind ?_ (fun _ => ?_)

/-! ### spec_l1Dec: function 81 -/
def spec_l1Dec.f : Nat → Int → Option (ByteArray)
  | 0, _ => none
  | k + 1, a0 => if a0 < (-9223372036854775807) then (some (⟨#[45, 57, 50, 50, 51, 51, 55, 50, 48, 51, 54, 56, 53, 52, 55, 55, 53, 56, 48, 56]⟩ : ByteArray)) else (if a0 < 0 then ((spec_l1Dec.f k (wrap64 (-a0))).bind fun t654 => (if 1 + t654.size ≤ 9223372036854775807 then (some ((⟨#[45]⟩ : ByteArray) ++ t654)) else (none))) else (if a0 < 10 then (some (strOfNums (([(wrap64 (48 + a0)) % 256] : List Int)))) else ((spec_l1Dec.f k (wrap64 (Int.tdiv a0 10))).bind fun t658 => ((some (([(wrap64 (48 + (Int.tmod a0 10))) % 256] : List Int) : List Int)).bind fun y659 => (if t658.size + (strOfNums y659).size ≤ 9223372036854775807 then (some (t658 ++ (strOfNums y659))) else (none))))))
theorem spec_l1Dec.mono_l : ∀ k, (∀ y0, LeO (spec_l1Dec.f k y0) (spec_l1Dec.f (k + 1) y0))
  | 0 => fun _ r h => by simp [spec_l1Dec.f] at h
  | k + 1 => by
    have ih0 := spec_l1Dec.mono_l k
    · intro y0
      unfold spec_l1Dec.f
      repeat' first
      | (with_reducible exact ih0 _)
      | (with_reducible exact LeO.refl _)
      | (with_reducible exact LeO.none _)
      | (with_reducible refine LeO.ite ?_ ?_)
      | (with_reducible refine LeO.bind ?_ (fun _ => ?_))
      | exact ih0 _
      | exact LeO.none _
      | refine LeO.ite ?_ ?_
      | refine LeO.bind ?_ (fun _ => ?_)
theorem spec_l1Dec.mono : ∀ a0 k, LeO (spec_l1Dec.f k a0) (spec_l1Dec.f (k + 1) a0) := by
  intro a0 k
  have ih0 := spec_l1Dec.mono_l k
  exact ih0 a0

/-! ### spec_l11AnyFields: function 62 -/
def spec_l11AnyFields.l0 : Nat → List (S38) → Int → List Int → Int → Option ((List (S38)) × Int)
  | 0, _, _, _, _ => none
  | k + 1, x3, x4, x1000, x1001 => if (x3.length : Int) < 16 then ((spec_l1Dec.f k x4).bind fun t673 => (if 1 + t673.size ≤ 9223372036854775807 then ((spec_FieldsPut.f k x3 ((⟨#[102]⟩ : ByteArray) ++ t673) (⟨#[]⟩ : ByteArray)).bind fun bt674 => (spec_l11AnyFields.l0 k bt674.1 (wrap64 (x4 + 1)) x1000 x1001)) else (none))) else (some (x3, x1001))
def spec_l11AnyFields.f (k : Nat) (s0_0 : List Int) (s0_1 : Int) : Option ((List (S38)) × Int) := (spec_l11Fields.f k s0_0 s0_1).bind fun bt662 => ((spec_l1Rd_pick.f k s0_0 bt662.2 12).bind fun bt666 => (if bt666.1 = 0 then ((spec_l11Text.f k s0_0 bt666.2).bind fun bt668 => (if bt662.1.length < 4398046511104 then (some ((bt662.1 ++ [(⟨bt668.1, (⟨#[]⟩ : ByteArray)⟩ : S38)]), bt668.2)) else (none))) else (if bt666.1 = 1 then (spec_l11AnyFields.l0 k bt662.1 10 s0_0 bt666.2) else (some (bt662.1, bt666.2)))))
theorem spec_l11AnyFields.mono_l : ∀ k, (∀ y0 y1 y2 y3, LeO (spec_l11AnyFields.l0 k y0 y1 y2 y3) (spec_l11AnyFields.l0 (k + 1) y0 y1 y2 y3))
  | 0 => fun _ _ _ _ r h => by simp [spec_l11AnyFields.l0] at h
  | k + 1 => by
    have ih0 := spec_l11AnyFields.mono_l k
    · intro y0 y1 y2 y3
      unfold spec_l11AnyFields.l0
      repeat' first
      | (with_reducible exact ih0 _ _ _ _)
      | (with_reducible exact spec_FieldsPut.mono _ _ _ _)
      | (with_reducible exact spec_l11Fields.mono _ _ _)
      | (with_reducible exact spec_l11Text.mono _ _ _)
      | (with_reducible exact spec_l1Dec.mono _ _)
      | (with_reducible exact spec_l1Rd_pick.mono _ _ _ _)
      | (with_reducible exact LeO.refl _)
      | (with_reducible exact LeO.none _)
      | (with_reducible refine LeO.ite ?_ ?_)
      | (with_reducible refine LeO.bind ?_ (fun _ => ?_))
      | exact ih0 _ _ _ _
      | exact spec_FieldsPut.mono _ _ _ _
      | exact spec_l11Fields.mono _ _ _
      | exact spec_l11Text.mono _ _ _
      | exact spec_l1Dec.mono _ _
      | exact spec_l1Rd_pick.mono _ _ _ _
      | exact LeO.none _
      | refine LeO.ite ?_ ?_
      | refine LeO.bind ?_ (fun _ => ?_)
theorem spec_l11AnyFields.mono : ∀ a0 a1 k, LeO (spec_l11AnyFields.f k a0 a1) (spec_l11AnyFields.f (k + 1) a0 a1) := by
  intro a0 a1 k
  have ih0 := spec_l11AnyFields.mono_l k
  unfold spec_l11AnyFields.f
  repeat' first
      | (with_reducible exact ih0 _ _ _ _)
      | (with_reducible exact spec_FieldsPut.mono _ _ _ _)
      | (with_reducible exact spec_l11Fields.mono _ _ _)
      | (with_reducible exact spec_l11Text.mono _ _ _)
      | (with_reducible exact spec_l1Dec.mono _ _)
      | (with_reducible exact spec_l1Rd_pick.mono _ _ _ _)
      | (with_reducible exact LeO.refl _)
      | (with_reducible exact LeO.none _)
      | (with_reducible refine LeO.ite ?_ ?_)
      | (with_reducible refine LeO.bind ?_ (fun _ => ?_))
      | exact ih0 _ _ _ _
      | exact spec_FieldsPut.mono _ _ _ _
      | exact spec_l11Fields.mono _ _ _
      | exact spec_l11Text.mono _ _ _
      | exact spec_l1Dec.mono _ _
      | exact spec_l1Rd_pick.mono _ _ _ _
      | exact LeO.none _
      | refine LeO.ite ?_ ?_
      | refine LeO.bind ?_ (fun _ => ?_)

/-! ### spec_DrawFieldsPut: function 28 -/
def spec_DrawFieldsPut.f (k : Nat) (l0 : List Int) : Option ((List (S38)) × ByteArray × ByteArray) := (spec_l1Open.f l0).bind fun bt680 => ((spec_l11AnyFields.f k bt680.1 bt680.2).bind fun bt683 => ((spec_l11Text.f k bt680.1 bt683.2).bind fun bt687 => ((spec_l11Text.f k bt680.1 bt687.2).bind fun bt689 => ((spec_l1Many.f k (⟨#[121]⟩ : ByteArray) 41).bind fun t691 => ((spec_l1Rd_of.f k bt680.1 bt689.2 (([bt687.1, bt689.1, t691] : List ByteArray))).bind fun bt695 => ((spec_l11Text.f k bt680.1 bt695.2).bind fun bt697 => (some (bt683.1, bt695.1, bt697.1))))))))
theorem spec_DrawFieldsPut.mono : ∀ a0 k, LeO (spec_DrawFieldsPut.f k a0) (spec_DrawFieldsPut.f (k + 1) a0) := by
  intro a0 k
  unfold spec_DrawFieldsPut.f
  repeat' first
      | (with_reducible exact spec_l11AnyFields.mono _ _ _)
      | (with_reducible exact spec_l11Text.mono _ _ _)
      | (with_reducible exact spec_l1Many.mono _ _ _)
      | (with_reducible exact spec_l1Rd_of.mono _ _ _ _)
      | (with_reducible exact LeO.refl _)
      | (with_reducible exact LeO.none _)
      | (with_reducible refine LeO.ite ?_ ?_)
      | (with_reducible refine LeO.bind ?_ (fun _ => ?_))
      | exact spec_l11AnyFields.mono _ _ _
      | exact spec_l11Text.mono _ _ _
      | exact spec_l1Many.mono _ _ _
      | exact spec_l1Rd_of.mono _ _ _ _
      | exact LeO.none _
      | refine LeO.ite ?_ ?_
      | refine LeO.bind ?_ (fun _ => ?_)

/-! ### laws_qxFields: function 29 -/
def laws_qxFields.l0 : Nat → List (S38) → List (S38) → Int → Option (Bool)
  | 0, _, _, _ => none
  | k + 1, x0, x1, x5 => if x5 < (x0.length : Int) then (if 0 ≤ x5 then (if x5 < (x1.length : Int) then (if (!((((rd_T38 x0 x5).f0).toList) == (((rd_T38 x1 x5).f0).toList)) || (!((((rd_T38 x0 x5).f1).toList) == (((rd_T38 x1 x5).f1).toList)))) = true then (some false) else (laws_qxFields.l0 k x0 x1 (wrap64 (x5 + 1)))) else (none)) else (none)) else (some true)
def laws_qxFields.f (k : Nat) (l0 : List (S38)) (l1 : List (S38)) : Option (Bool) := if (l0.length : Int) = (l1.length : Int) then (laws_qxFields.l0 k l0 l1 0) else (some false)
theorem laws_qxFields.mono_l : ∀ k, (∀ y0 y1 y2, LeO (laws_qxFields.l0 k y0 y1 y2) (laws_qxFields.l0 (k + 1) y0 y1 y2))
  | 0 => fun _ _ _ r h => by simp [laws_qxFields.l0] at h
  | k + 1 => by
    have ih0 := laws_qxFields.mono_l k
    · intro y0 y1 y2
      unfold laws_qxFields.l0
      repeat' first
      | (with_reducible exact ih0 _ _ _)
      | (with_reducible exact LeO.refl _)
      | (with_reducible exact LeO.none _)
      | (with_reducible refine LeO.ite ?_ ?_)
      | (with_reducible refine LeO.bind ?_ (fun _ => ?_))
      | exact ih0 _ _ _
      | exact LeO.none _
      | refine LeO.ite ?_ ?_
      | refine LeO.bind ?_ (fun _ => ?_)
theorem laws_qxFields.mono : ∀ a0 a1 k, LeO (laws_qxFields.f k a0 a1) (laws_qxFields.f (k + 1) a0 a1) := by
  intro a0 a1 k
  have ih0 := laws_qxFields.mono_l k
  unfold laws_qxFields.f
  repeat' first
      | (with_reducible exact ih0 _ _ _)
      | (with_reducible exact LeO.refl _)
      | (with_reducible exact LeO.none _)
      | (with_reducible refine LeO.ite ?_ ?_)
      | (with_reducible refine LeO.bind ?_ (fun _ => ?_))
      | exact ih0 _ _ _
      | exact LeO.none _
      | refine LeO.ite ?_ ?_
      | refine LeO.bind ?_ (fun _ => ?_)

/-! ### impl_FieldsGet: function 32 -/
def impl_FieldsGet.f (k : Nat) (l0 : List (S38)) (a1 : ByteArray) : Option (ByteArray × Bool) := (impl_FieldsOk.f k l0).bind fun t701 => (if t701 = true then ((impl_fieldAt.f l0 a1).bind fun t702 => (if t702 < 0 then (some ((⟨#[]⟩ : ByteArray), false)) else (if 0 ≤ t702 then (if t702 < (l0.length : Int) then (some ((rd_T38 l0 t702).f1, true)) else (none)) else (none)))) else (some ((⟨#[]⟩ : ByteArray), false)))
theorem impl_FieldsGet.mono : ∀ a0 a1 k, LeO (impl_FieldsGet.f k a0 a1) (impl_FieldsGet.f (k + 1) a0 a1) := by
  intro a0 a1 k
  unfold impl_FieldsGet.f
  repeat' first
      | (with_reducible exact impl_FieldsOk.mono _ _)
      | (with_reducible exact LeO.refl _)
      | (with_reducible exact LeO.none _)
      | (with_reducible refine LeO.ite ?_ ?_)
      | (with_reducible refine LeO.bind ?_ (fun _ => ?_))
      | exact impl_FieldsOk.mono _ _
      | exact LeO.none _
      | refine LeO.ite ?_ ?_
      | refine LeO.bind ?_ (fun _ => ?_)

/-! ### slices_Delete_impl_Pair_impl_Pair: function 66 -/
def slices_Delete_impl_Pair_impl_Pair.f (l0 : List S38) (a1 a2 : Int) : Option (List S38) := if 0 ≤ a1 ∧ a1 < l0.length ∧ a2 = a1 + 1 then some (l0.eraseIdx a1.toNat) else none
theorem slices_Delete_impl_Pair_impl_Pair.calls_zero : ∀ w, (zeroValue 38).run Try.prog w = .ok (.agg #[.string ⟨#[]⟩, .string ⟨#[]⟩]) w := fun w => by kernel_rfl
theorem slices_Delete_impl_Pair_impl_Pair.calls_size : (Try.prog.info? 38).map (·.size) = some k38.sz := by kernel_rfl

/-! ### impl_FieldsDrop: function 33 -/
def impl_FieldsDrop.f (k : Nat) (l0 : List (S38)) (a1 : ByteArray) : Option ((List (S38)) × Bool) := (impl_FieldsOk.f k l0).bind fun t704 => (if t704 = true then ((impl_copiedPairs.f l0).bind fun t708 => ((impl_fieldAt.f t708 a1).bind fun t711 => (if t711 < 0 then (some (t708, false)) else ((slices_Delete_impl_Pair_impl_Pair.f t708 t711 (wrap64 (t711 + 1))).bind fun t712 => ((impl_copiedPairs.f t712).bind fun t715 => (some (t715, true))))))) else (some ((([] : List (S38))), false)))
theorem impl_FieldsDrop.mono : ∀ a0 a1 k, LeO (impl_FieldsDrop.f k a0 a1) (impl_FieldsDrop.f (k + 1) a0 a1) := by
  intro a0 a1 k
  unfold impl_FieldsDrop.f
  repeat' first
      | (with_reducible exact impl_FieldsOk.mono _ _)
      | (with_reducible exact LeO.refl _)
      | (with_reducible exact LeO.none _)
      | (with_reducible refine LeO.ite ?_ ?_)
      | (with_reducible refine LeO.bind ?_ (fun _ => ?_))
      | exact impl_FieldsOk.mono _ _
      | exact LeO.none _
      | refine LeO.ite ?_ ?_
      | refine LeO.bind ?_ (fun _ => ?_)

/-! ### laws_FnFieldsPut: function 6 -/
def laws_FnFieldsPut.j0 : Nat → List (S38) → List (S38) → Bool → Bool → List (S38) → Bool → Bool → Bool → ByteArray → ByteArray → Option (Bool)
  | 0, _, _, _, _, _, _, _, _, _, _ => none
  | k + 1, x3, x5, x6, x7, x8, x9, x10, x65, x724000, x724001 => if x65 = true then (if (x7 == x10) = true then (if (x6 == x9) = true then ((laws_qxFields.f k x5 x8).bind fun t737 => (if t737 = true then ((impl_FieldsOk.f k x3).bind fun t738 => ((spec_FieldsOk.f k x3).bind fun t739 => (some (t738 == t739)))) else (some false))) else (some false)) else (some false)) else ((impl_FieldsGet.f k x5 x724000).bind fun bt740 => ((impl_FieldsGet.f k x3 x724000).bind fun bt742 => ((impl_FieldsDrop.f k x5 x724000).bind fun bt744 => ((impl_FieldsDrop.f k x3 x724000).bind fun bt748 => ((impl_FieldsOk.f k x5).bind fun t752 => (if t752 = true then (if bt740.2 = true then (if bt740.1.toList = x724001.toList then (if (x6 == (!bt742.2)) = true then ((laws_qxFields.f k bt744.1 bt748.1).bind fun t753 => (some t753)) else (some false)) else (some false)) else (some false)) else (some false)))))))
def laws_FnFieldsPut.f (k : Nat) (l0 : List Int) : Option (Bool) := if (l0.length : Int) > 1048576 then (some true) else ((spec_DrawFieldsPut.f k l0).bind fun bt718 => ((impl_FieldsPut.f k bt718.1 bt718.2.1 bt718.2.2).bind fun bt724 => ((spec_FieldsPut.f k bt718.1 bt718.2.1 bt718.2.2).bind fun bt729 => (if (bt724.2.2 != bt729.2.2) = true then (laws_FnFieldsPut.j0 k bt718.1 bt724.1 bt724.2.1 bt724.2.2 bt729.1 bt729.2.1 bt729.2.2 true bt718.2.1 bt718.2.2) else (if (bt724.2.1 != bt729.2.1) = true then (laws_FnFieldsPut.j0 k bt718.1 bt724.1 bt724.2.1 bt724.2.2 bt729.1 bt729.2.1 bt729.2.2 true bt718.2.1 bt718.2.2) else ((laws_qxFields.f k bt724.1 bt729.1).bind fun t734 => (if t734 = true then ((impl_FieldsOk.f k bt718.1).bind fun t735 => ((spec_FieldsOk.f k bt718.1).bind fun t736 => (if (t735 != t736) = true then (laws_FnFieldsPut.j0 k bt718.1 bt724.1 bt724.2.1 bt724.2.2 bt729.1 bt729.2.1 bt729.2.2 true bt718.2.1 bt718.2.2) else (laws_FnFieldsPut.j0 k bt718.1 bt724.1 bt724.2.1 bt724.2.2 bt729.1 bt729.2.1 bt729.2.2 (!bt724.2.2) bt718.2.1 bt718.2.2)))) else (laws_FnFieldsPut.j0 k bt718.1 bt724.1 bt724.2.1 bt724.2.2 bt729.1 bt729.2.1 bt729.2.2 true bt718.2.1 bt718.2.2))))))))
theorem laws_FnFieldsPut.mono_l : ∀ k, (∀ y0 y1 y2 y3 y4 y5 y6 y7 y8 y9, LeO (laws_FnFieldsPut.j0 k y0 y1 y2 y3 y4 y5 y6 y7 y8 y9) (laws_FnFieldsPut.j0 (k + 1) y0 y1 y2 y3 y4 y5 y6 y7 y8 y9))
  | 0 => fun _ _ _ _ _ _ _ _ _ _ r h => by simp [laws_FnFieldsPut.j0] at h
  | k + 1 => by
    have ih0 := laws_FnFieldsPut.mono_l k
    · intro y0 y1 y2 y3 y4 y5 y6 y7 y8 y9
      unfold laws_FnFieldsPut.j0
      repeat' first
      | (with_reducible exact ih0 _ _ _ _ _ _ _ _ _ _)
      | (with_reducible exact impl_FieldsDrop.mono _ _ _)
      | (with_reducible exact impl_FieldsGet.mono _ _ _)
      | (with_reducible exact impl_FieldsOk.mono _ _)
      | (with_reducible exact impl_FieldsPut.mono _ _ _ _)
      | (with_reducible exact laws_qxFields.mono _ _ _)
      | (with_reducible exact spec_DrawFieldsPut.mono _ _)
      | (with_reducible exact spec_FieldsOk.mono _ _)
      | (with_reducible exact spec_FieldsPut.mono _ _ _ _)
      | (with_reducible exact LeO.refl _)
      | (with_reducible exact LeO.none _)
      | (with_reducible refine LeO.ite ?_ ?_)
      | (with_reducible refine LeO.bind ?_ (fun _ => ?_))
      | exact ih0 _ _ _ _ _ _ _ _ _ _
      | exact impl_FieldsDrop.mono _ _ _
      | exact impl_FieldsGet.mono _ _ _
      | exact impl_FieldsOk.mono _ _
      | exact impl_FieldsPut.mono _ _ _ _
      | exact laws_qxFields.mono _ _ _
      | exact spec_DrawFieldsPut.mono _ _
      | exact spec_FieldsOk.mono _ _
      | exact spec_FieldsPut.mono _ _ _ _
      | exact LeO.none _
      | refine LeO.ite ?_ ?_
      | refine LeO.bind ?_ (fun _ => ?_)
theorem laws_FnFieldsPut.mono : ∀ a0 k, LeO (laws_FnFieldsPut.f k a0) (laws_FnFieldsPut.f (k + 1) a0) := by
  intro a0 k
  have ih0 := laws_FnFieldsPut.mono_l k
  unfold laws_FnFieldsPut.f
  repeat' first
      | (with_reducible exact ih0 _ _ _ _ _ _ _ _ _ _)
      | (with_reducible exact impl_FieldsDrop.mono _ _ _)
      | (with_reducible exact impl_FieldsGet.mono _ _ _)
      | (with_reducible exact impl_FieldsOk.mono _ _)
      | (with_reducible exact impl_FieldsPut.mono _ _ _ _)
      | (with_reducible exact laws_qxFields.mono _ _ _)
      | (with_reducible exact spec_DrawFieldsPut.mono _ _)
      | (with_reducible exact spec_FieldsOk.mono _ _)
      | (with_reducible exact spec_FieldsPut.mono _ _ _ _)
      | (with_reducible exact LeO.refl _)
      | (with_reducible exact LeO.none _)
      | (with_reducible refine LeO.ite ?_ ?_)
      | (with_reducible refine LeO.bind ?_ (fun _ => ?_))
      | exact ih0 _ _ _ _ _ _ _ _ _ _
      | exact impl_FieldsDrop.mono _ _ _
      | exact impl_FieldsGet.mono _ _ _
      | exact impl_FieldsOk.mono _ _
      | exact impl_FieldsPut.mono _ _ _ _
      | exact laws_qxFields.mono _ _ _
      | exact spec_DrawFieldsPut.mono _ _
      | exact spec_FieldsOk.mono _ _
      | exact spec_FieldsPut.mono _ _ _ _
      | exact LeO.none _
      | refine LeO.ite ?_ ?_
      | refine LeO.bind ?_ (fun _ => ?_)

/-! ### spec_l11Texts: function 83 -/
def spec_l11Texts.l0 : Nat → List ByteArray → Int → List Int → Int → Option (List ByteArray × Int)
  | 0, _, _, _, _ => none
  | k + 1, x5, x6, x1000, x1001 => if x6 > 0 then ((spec_l11Text.f k x1000 x1001).bind fun bt759 => (if x5.length < 8796093022208 then (spec_l11Texts.l0 k (x5 ++ [bt759.1]) (wrap64 (x6 - 1)) x1000 bt759.2) else (none))) else (some (x5, x1001))
def spec_l11Texts.f (k : Nat) (s0_0 : List Int) (s0_1 : Int) (a1 : Int) : Option (List ByteArray × Int) := (spec_l1Rd_pick.f k s0_0 s0_1 (wrap64 (a1 + 1))).bind fun bt757 => (spec_l11Texts.l0 k (([] : List ByteArray)) bt757.1 s0_0 bt757.2)
theorem spec_l11Texts.mono_l : ∀ k, (∀ y0 y1 y2 y3, LeO (spec_l11Texts.l0 k y0 y1 y2 y3) (spec_l11Texts.l0 (k + 1) y0 y1 y2 y3))
  | 0 => fun _ _ _ _ r h => by simp [spec_l11Texts.l0] at h
  | k + 1 => by
    have ih0 := spec_l11Texts.mono_l k
    · intro y0 y1 y2 y3
      unfold spec_l11Texts.l0
      repeat' first
      | (with_reducible exact ih0 _ _ _ _)
      | (with_reducible exact spec_l11Text.mono _ _ _)
      | (with_reducible exact spec_l1Rd_pick.mono _ _ _ _)
      | (with_reducible exact LeO.refl _)
      | (with_reducible exact LeO.none _)
      | (with_reducible refine LeO.ite ?_ ?_)
      | (with_reducible refine LeO.bind ?_ (fun _ => ?_))
      | exact ih0 _ _ _ _
      | exact spec_l11Text.mono _ _ _
      | exact spec_l1Rd_pick.mono _ _ _ _
      | exact LeO.none _
      | refine LeO.ite ?_ ?_
      | refine LeO.bind ?_ (fun _ => ?_)
theorem spec_l11Texts.mono : ∀ a0 a1 a2 k, LeO (spec_l11Texts.f k a0 a1 a2) (spec_l11Texts.f (k + 1) a0 a1 a2) := by
  intro a0 a1 a2 k
  have ih0 := spec_l11Texts.mono_l k
  unfold spec_l11Texts.f
  repeat' first
      | (with_reducible exact ih0 _ _ _ _)
      | (with_reducible exact spec_l11Text.mono _ _ _)
      | (with_reducible exact spec_l1Rd_pick.mono _ _ _ _)
      | (with_reducible exact LeO.refl _)
      | (with_reducible exact LeO.none _)
      | (with_reducible refine LeO.ite ?_ ?_)
      | (with_reducible refine LeO.bind ?_ (fun _ => ?_))
      | exact ih0 _ _ _ _
      | exact spec_l11Text.mono _ _ _
      | exact spec_l1Rd_pick.mono _ _ _ _
      | exact LeO.none _
      | refine LeO.ite ?_ ?_
      | refine LeO.bind ?_ (fun _ => ?_)

/-! ### spec_l11AnyTexts: function 68 -/
def spec_l11AnyTexts.l0 : Nat → List ByteArray → List Int → Int → Option (List ByteArray × Int)
  | 0, _, _, _ => none
  | k + 1, x3, x1000, x1001 => (spec_l1Rd_pick.f k x1000 x1001 2).bind fun bt774 => (if (x3.length : Int) < (wrap64 (16 + bt774.1)) then ((spec_l1Dec.f k (x3.length : Int)).bind fun t776 => (if 1 + t776.size ≤ 9223372036854775807 then (if x3.length < 8796093022208 then (spec_l11AnyTexts.l0 k (x3 ++ [(⟨#[110]⟩ : ByteArray) ++ t776]) x1000 bt774.2) else (none)) else (none))) else (some (x3, bt774.2)))
def spec_l11AnyTexts.f (k : Nat) (s0_0 : List Int) (s0_1 : Int) : Option (List ByteArray × Int) := (spec_l11Texts.f k s0_0 s0_1 6).bind fun bt764 => ((spec_l1Rd_pick.f k s0_0 bt764.2 16).bind fun bt768 => (if bt768.1 = 0 then ((spec_l1Many.f k (⟨#[121]⟩ : ByteArray) 41).bind fun t770 => (if bt764.1.length < 8796093022208 then (some ((bt764.1 ++ [t770]), bt768.2)) else (none))) else (if bt768.1 = 1 then (spec_l11AnyTexts.l0 k bt764.1 s0_0 bt768.2) else (some (bt764.1, bt768.2)))))
theorem spec_l11AnyTexts.mono_l : ∀ k, (∀ y0 y1 y2, LeO (spec_l11AnyTexts.l0 k y0 y1 y2) (spec_l11AnyTexts.l0 (k + 1) y0 y1 y2))
  | 0 => fun _ _ _ r h => by simp [spec_l11AnyTexts.l0] at h
  | k + 1 => by
    have ih0 := spec_l11AnyTexts.mono_l k
    · intro y0 y1 y2
      unfold spec_l11AnyTexts.l0
      repeat' first
      | (with_reducible exact ih0 _ _ _)
      | (with_reducible exact spec_l11Texts.mono _ _ _ _)
      | (with_reducible exact spec_l1Dec.mono _ _)
      | (with_reducible exact spec_l1Many.mono _ _ _)
      | (with_reducible exact spec_l1Rd_pick.mono _ _ _ _)
      | (with_reducible exact LeO.refl _)
      | (with_reducible exact LeO.none _)
      | (with_reducible refine LeO.ite ?_ ?_)
      | (with_reducible refine LeO.bind ?_ (fun _ => ?_))
      | exact ih0 _ _ _
      | exact spec_l11Texts.mono _ _ _ _
      | exact spec_l1Dec.mono _ _
      | exact spec_l1Many.mono _ _ _
      | exact spec_l1Rd_pick.mono _ _ _ _
      | exact LeO.none _
      | refine LeO.ite ?_ ?_
      | refine LeO.bind ?_ (fun _ => ?_)
theorem spec_l11AnyTexts.mono : ∀ a0 a1 k, LeO (spec_l11AnyTexts.f k a0 a1) (spec_l11AnyTexts.f (k + 1) a0 a1) := by
  intro a0 a1 k
  have ih0 := spec_l11AnyTexts.mono_l k
  unfold spec_l11AnyTexts.f
  repeat' first
      | (with_reducible exact ih0 _ _ _)
      | (with_reducible exact spec_l11Texts.mono _ _ _ _)
      | (with_reducible exact spec_l1Dec.mono _ _)
      | (with_reducible exact spec_l1Many.mono _ _ _)
      | (with_reducible exact spec_l1Rd_pick.mono _ _ _ _)
      | (with_reducible exact LeO.refl _)
      | (with_reducible exact LeO.none _)
      | (with_reducible refine LeO.ite ?_ ?_)
      | (with_reducible refine LeO.bind ?_ (fun _ => ?_))
      | exact ih0 _ _ _
      | exact spec_l11Texts.mono _ _ _ _
      | exact spec_l1Dec.mono _ _
      | exact spec_l1Many.mono _ _ _
      | exact spec_l1Rd_pick.mono _ _ _ _
      | exact LeO.none _
      | refine LeO.ite ?_ ?_
      | refine LeO.bind ?_ (fun _ => ?_)

/-! ### spec_l11Set: function 82 -/
def spec_l11Set.l0 : Nat → List ByteArray → List ByteArray → Int → List Int → Int → Option (List ByteArray × Int)
  | 0, _, _, _, _, _ => none
  | k + 1, x3, x4, x5, x1000, x1001 => if x5 < (x4.length : Int) then (if 0 ≤ x5 then (if ((rdOf ByteArray.empty x4 x5).size : Int) ≤ 40 then ((spec_l2Put.f k x3 (rdOf ByteArray.empty x4 x5)).bind fun t789 => (spec_l11Set.l0 k t789 x4 (wrap64 (x5 + 1)) x1000 x1001)) else (spec_l11Set.l0 k x3 x4 (wrap64 (x5 + 1)) x1000 x1001)) else (none)) else (some (x3, x1001))
def spec_l11Set.f (k : Nat) (s0_0 : List Int) (s0_1 : Int) : Option (List ByteArray × Int) := (spec_l11AnyTexts.f k s0_0 s0_1).bind fun bt783 => (spec_l11Set.l0 k (([] : List ByteArray)) bt783.1 0 s0_0 bt783.2)
theorem spec_l11Set.mono_l : ∀ k, (∀ y0 y1 y2 y3 y4, LeO (spec_l11Set.l0 k y0 y1 y2 y3 y4) (spec_l11Set.l0 (k + 1) y0 y1 y2 y3 y4))
  | 0 => fun _ _ _ _ _ r h => by simp [spec_l11Set.l0] at h
  | k + 1 => by
    have ih0 := spec_l11Set.mono_l k
    · intro y0 y1 y2 y3 y4
      unfold spec_l11Set.l0
      repeat' first
      | (with_reducible exact ih0 _ _ _ _ _)
      | (with_reducible exact spec_l11AnyTexts.mono _ _ _)
      | (with_reducible exact spec_l2Put.mono _ _ _)
      | (with_reducible exact LeO.refl _)
      | (with_reducible exact LeO.none _)
      | (with_reducible refine LeO.ite ?_ ?_)
      | (with_reducible refine LeO.bind ?_ (fun _ => ?_))
      | exact ih0 _ _ _ _ _
      | exact spec_l11AnyTexts.mono _ _ _
      | exact spec_l2Put.mono _ _ _
      | exact LeO.none _
      | refine LeO.ite ?_ ?_
      | refine LeO.bind ?_ (fun _ => ?_)
theorem spec_l11Set.mono : ∀ a0 a1 k, LeO (spec_l11Set.f k a0 a1) (spec_l11Set.f (k + 1) a0 a1) := by
  intro a0 a1 k
  have ih0 := spec_l11Set.mono_l k
  unfold spec_l11Set.f
  repeat' first
      | (with_reducible exact ih0 _ _ _ _ _)
      | (with_reducible exact spec_l11AnyTexts.mono _ _ _)
      | (with_reducible exact spec_l2Put.mono _ _ _)
      | (with_reducible exact LeO.refl _)
      | (with_reducible exact LeO.none _)
      | (with_reducible refine LeO.ite ?_ ?_)
      | (with_reducible refine LeO.bind ?_ (fun _ => ?_))
      | exact ih0 _ _ _ _ _
      | exact spec_l11AnyTexts.mono _ _ _
      | exact spec_l2Put.mono _ _ _
      | exact LeO.none _
      | refine LeO.ite ?_ ?_
      | refine LeO.bind ?_ (fun _ => ?_)

/-! ### spec_l11AnySet: function 67 -/
def spec_l11AnySet.f (k : Nat) (s0_0 : List Int) (s0_1 : Int) : Option (List ByteArray × Int) := (spec_l1Rd_pick.f k s0_0 s0_1 10).bind fun bt792 => (if bt792.1 = 0 then ((spec_l11AnyTexts.f k s0_0 bt792.2).bind fun bt794 => (some (bt794.1, bt794.2))) else ((spec_l11Set.f k s0_0 bt792.2).bind fun bt798 => (some (bt798.1, bt798.2))))
theorem spec_l11AnySet.mono : ∀ a0 a1 k, LeO (spec_l11AnySet.f k a0 a1) (spec_l11AnySet.f (k + 1) a0 a1) := by
  intro a0 a1 k
  unfold spec_l11AnySet.f
  repeat' first
      | (with_reducible exact spec_l11AnyTexts.mono _ _ _)
      | (with_reducible exact spec_l11Set.mono _ _ _)
      | (with_reducible exact spec_l1Rd_pick.mono _ _ _ _)
      | (with_reducible exact LeO.refl _)
      | (with_reducible exact LeO.none _)
      | (with_reducible refine LeO.ite ?_ ?_)
      | (with_reducible refine LeO.bind ?_ (fun _ => ?_))
      | exact spec_l11AnyTexts.mono _ _ _
      | exact spec_l11Set.mono _ _ _
      | exact spec_l1Rd_pick.mono _ _ _ _
      | exact LeO.none _
      | refine LeO.ite ?_ ?_
      | refine LeO.bind ?_ (fun _ => ?_)

/-! ### spec_DrawSetAdd: function 34 -/
def spec_DrawSetAdd.f (k : Nat) (l0 : List Int) : Option (List ByteArray × List ByteArray) := (spec_l1Open.f l0).bind fun bt802 => ((spec_l11AnySet.f k bt802.1 bt802.2).bind fun bt805 => ((spec_l11AnyTexts.f k bt802.1 bt805.2).bind fun bt809 => (some (bt805.1, bt809.1))))
theorem spec_DrawSetAdd.mono : ∀ a0 k, LeO (spec_DrawSetAdd.f k a0) (spec_DrawSetAdd.f (k + 1) a0) := by
  intro a0 k
  unfold spec_DrawSetAdd.f
  repeat' first
      | (with_reducible exact spec_l11AnySet.mono _ _ _)
      | (with_reducible exact spec_l11AnyTexts.mono _ _ _)
      | (with_reducible exact LeO.refl _)
      | (with_reducible exact LeO.none _)
      | (with_reducible refine LeO.ite ?_ ?_)
      | (with_reducible refine LeO.bind ?_ (fun _ => ?_))
      | exact spec_l11AnySet.mono _ _ _
      | exact spec_l11AnyTexts.mono _ _ _
      | exact LeO.none _
      | refine LeO.ite ?_ ?_
      | refine LeO.bind ?_ (fun _ => ?_)

/-! ### laws_qxTexts: function 35 -/
def laws_qxTexts.l0 : Nat → List ByteArray → List ByteArray → Int → Option (Bool)
  | 0, _, _, _ => none
  | k + 1, x0, x1, x5 => if x5 < (x0.length : Int) then (if 0 ≤ x5 then (if x5 < (x1.length : Int) then (if (rdOf ByteArray.empty x0 x5).toList = (rdOf ByteArray.empty x1 x5).toList then (laws_qxTexts.l0 k x0 x1 (wrap64 (x5 + 1))) else (some false)) else (none)) else (none)) else (some true)
def laws_qxTexts.f (k : Nat) (l0 : List ByteArray) (l1 : List ByteArray) : Option (Bool) := if (l0.length : Int) = (l1.length : Int) then (laws_qxTexts.l0 k l0 l1 0) else (some false)
theorem laws_qxTexts.mono_l : ∀ k, (∀ y0 y1 y2, LeO (laws_qxTexts.l0 k y0 y1 y2) (laws_qxTexts.l0 (k + 1) y0 y1 y2))
  | 0 => fun _ _ _ r h => by simp [laws_qxTexts.l0] at h
  | k + 1 => by
    have ih0 := laws_qxTexts.mono_l k
    · intro y0 y1 y2
      unfold laws_qxTexts.l0
      repeat' first
      | (with_reducible exact ih0 _ _ _)
      | (with_reducible exact LeO.refl _)
      | (with_reducible exact LeO.none _)
      | (with_reducible refine LeO.ite ?_ ?_)
      | (with_reducible refine LeO.bind ?_ (fun _ => ?_))
      | exact ih0 _ _ _
      | exact LeO.none _
      | refine LeO.ite ?_ ?_
      | refine LeO.bind ?_ (fun _ => ?_)
theorem laws_qxTexts.mono : ∀ a0 a1 k, LeO (laws_qxTexts.f k a0 a1) (laws_qxTexts.f (k + 1) a0 a1) := by
  intro a0 a1 k
  have ih0 := laws_qxTexts.mono_l k
  unfold laws_qxTexts.f
  repeat' first
      | (with_reducible exact ih0 _ _ _)
      | (with_reducible exact LeO.refl _)
      | (with_reducible exact LeO.none _)
      | (with_reducible refine LeO.ite ?_ ?_)
      | (with_reducible refine LeO.bind ?_ (fun _ => ?_))
      | exact ih0 _ _ _
      | exact LeO.none _
      | refine LeO.ite ?_ ?_
      | refine LeO.bind ?_ (fun _ => ?_)

/-! ### laws_qxHas: function 38 -/
def laws_qxHas.l0 : Nat → List ByteArray → ByteArray → Int → Option (Bool)
  | 0, _, _, _ => none
  | k + 1, x0, x1, x5 => if x5 < (x0.length : Int) then (if 0 ≤ x5 then (if (rdOf ByteArray.empty x0 x5).toList = x1.toList then (some true) else (laws_qxHas.l0 k x0 x1 (wrap64 (x5 + 1)))) else (none)) else (some false)
def laws_qxHas.f (k : Nat) (l0 : List ByteArray) (a1 : ByteArray) : Option (Bool) := laws_qxHas.l0 k l0 a1 0
theorem laws_qxHas.mono_l : ∀ k, (∀ y0 y1 y2, LeO (laws_qxHas.l0 k y0 y1 y2) (laws_qxHas.l0 (k + 1) y0 y1 y2))
  | 0 => fun _ _ _ r h => by simp [laws_qxHas.l0] at h
  | k + 1 => by
    have ih0 := laws_qxHas.mono_l k
    · intro y0 y1 y2
      unfold laws_qxHas.l0
      repeat' first
      | (with_reducible exact ih0 _ _ _)
      | (with_reducible exact LeO.refl _)
      | (with_reducible exact LeO.none _)
      | (with_reducible refine LeO.ite ?_ ?_)
      | (with_reducible refine LeO.bind ?_ (fun _ => ?_))
      | exact ih0 _ _ _
      | exact LeO.none _
      | refine LeO.ite ?_ ?_
      | refine LeO.bind ?_ (fun _ => ?_)
theorem laws_qxHas.mono : ∀ a0 a1 k, LeO (laws_qxHas.f k a0 a1) (laws_qxHas.f (k + 1) a0 a1) := by
  intro a0 a1 k
  have ih0 := laws_qxHas.mono_l k
  unfold laws_qxHas.f
  repeat' first
      | (with_reducible exact ih0 _ _ _)
      | (with_reducible exact LeO.refl _)
      | (with_reducible exact LeO.none _)
      | (with_reducible refine LeO.ite ?_ ?_)
      | (with_reducible refine LeO.bind ?_ (fun _ => ?_))
      | exact ih0 _ _ _
      | exact LeO.none _
      | refine LeO.ite ?_ ?_
      | refine LeO.bind ?_ (fun _ => ?_)

/-! ### laws_FnSetAdd: function 7 -/
mutual
def laws_FnSetAdd.j0 : Nat → List ByteArray → List ByteArray → List ByteArray → Int → Bool → List ByteArray → Int → Bool → Bool → Option (Bool)
  | 0, _, _, _, _, _, _, _, _, _ => none
  | k + 1, x3, x4, x5, x6, x7, x8, x9, x10, x62 => if x62 = true then (if (x7 == x10) = true then (if x6 = x9 then ((laws_qxTexts.f k x5 x8).bind fun t835 => (if t835 = true then ((impl_SetOk.f k x3).bind fun t836 => ((spec_SetOk.f k x3).bind fun t837 => (some (t836 == t837)))) else (some false))) else (some false)) else (some false)) else (laws_FnSetAdd.l0 k x3 x4 x5 x6 0)
def laws_FnSetAdd.l0 : Nat → List ByteArray → List ByteArray → List ByteArray → Int → Int → Option (Bool)
  | 0, _, _, _, _, _ => none
  | k + 1, x3, x4, x5, x6, x11 => if x11 < (x4.length : Int) then (if 0 ≤ x11 then ((laws_qxHas.f k x5 (rdOf ByteArray.empty x4 x11)).bind fun t839 => (if t839 = true then (laws_FnSetAdd.l0 k x3 x4 x5 x6 (wrap64 (x11 + 1))) else (some false))) else (none)) else (laws_FnSetAdd.l1 k x3 x4 x5 x6 0)
def laws_FnSetAdd.l1 : Nat → List ByteArray → List ByteArray → List ByteArray → Int → Int → Option (Bool)
  | 0, _, _, _, _, _ => none
  | k + 1, x3, x4, x5, x6, x12 => if x12 < (x5.length : Int) then (if 0 ≤ x12 then ((laws_qxHas.f k x3 (rdOf ByteArray.empty x5 x12)).bind fun t848 => (if t848 = true then (laws_FnSetAdd.l1 k x3 x4 x5 x6 (wrap64 (x12 + 1))) else ((laws_qxHas.f k x4 (rdOf ByteArray.empty x5 x12)).bind fun t850 => (if t850 = true then (laws_FnSetAdd.l1 k x3 x4 x5 x6 (wrap64 (x12 + 1))) else (some false))))) else (none)) else ((impl_SetAdd.f k x5 x4).bind fun bt840 => ((impl_SetOk.f k x5).bind fun t845 => (if t845 = true then (if (x5.length : Int) = (wrap64 ((x3.length : Int) + x6)) then (if bt840.2.1 = 0 then ((laws_qxTexts.f k bt840.1 x5).bind fun t846 => (some t846)) else (some false)) else (some false)) else (some false))))
end
def laws_FnSetAdd.f (k : Nat) (l0 : List Int) : Option (Bool) := if (l0.length : Int) > 1048576 then (some true) else ((spec_DrawSetAdd.f k l0).bind fun bt816 => ((impl_SetAdd.f k bt816.1 bt816.2).bind fun bt822 => ((spec_SetAdd.f k bt816.1 bt816.2).bind fun bt827 => (if (bt822.2.2 != bt827.2.2) = true then (laws_FnSetAdd.j0 k bt816.1 bt816.2 bt822.1 bt822.2.1 bt822.2.2 bt827.1 bt827.2.1 bt827.2.2 true) else (if bt822.2.1 = bt827.2.1 then ((laws_qxTexts.f k bt822.1 bt827.1).bind fun t832 => (if t832 = true then ((impl_SetOk.f k bt816.1).bind fun t833 => ((spec_SetOk.f k bt816.1).bind fun t834 => (if (t833 != t834) = true then (laws_FnSetAdd.j0 k bt816.1 bt816.2 bt822.1 bt822.2.1 bt822.2.2 bt827.1 bt827.2.1 bt827.2.2 true) else (laws_FnSetAdd.j0 k bt816.1 bt816.2 bt822.1 bt822.2.1 bt822.2.2 bt827.1 bt827.2.1 bt827.2.2 (!bt822.2.2))))) else (laws_FnSetAdd.j0 k bt816.1 bt816.2 bt822.1 bt822.2.1 bt822.2.2 bt827.1 bt827.2.1 bt827.2.2 true))) else (laws_FnSetAdd.j0 k bt816.1 bt816.2 bt822.1 bt822.2.1 bt822.2.2 bt827.1 bt827.2.1 bt827.2.2 true))))))
theorem laws_FnSetAdd.mono_l : ∀ k, (∀ y0 y1 y2 y3 y4 y5 y6 y7 y8, LeO (laws_FnSetAdd.j0 k y0 y1 y2 y3 y4 y5 y6 y7 y8) (laws_FnSetAdd.j0 (k + 1) y0 y1 y2 y3 y4 y5 y6 y7 y8)) ∧ (∀ y0 y1 y2 y3 y4, LeO (laws_FnSetAdd.l0 k y0 y1 y2 y3 y4) (laws_FnSetAdd.l0 (k + 1) y0 y1 y2 y3 y4)) ∧ (∀ y0 y1 y2 y3 y4, LeO (laws_FnSetAdd.l1 k y0 y1 y2 y3 y4) (laws_FnSetAdd.l1 (k + 1) y0 y1 y2 y3 y4))
  | 0 => ⟨fun _ _ _ _ _ _ _ _ _ r h => by simp [laws_FnSetAdd.j0] at h, fun _ _ _ _ _ r h => by simp [laws_FnSetAdd.l0] at h, fun _ _ _ _ _ r h => by simp [laws_FnSetAdd.l1] at h⟩
  | k + 1 => by
    obtain ⟨ih0, ih1, ih2⟩ := laws_FnSetAdd.mono_l k
    refine ⟨?_, ?_, ?_⟩
    · intro y0 y1 y2 y3 y4 y5 y6 y7 y8
      unfold laws_FnSetAdd.j0
      repeat' first
      | (with_reducible exact ih0 _ _ _ _ _ _ _ _ _)
      | (with_reducible exact ih1 _ _ _ _ _)
      | (with_reducible exact ih2 _ _ _ _ _)
      | (with_reducible exact impl_SetAdd.mono _ _ _)
      | (with_reducible exact impl_SetOk.mono _ _)
      | (with_reducible exact laws_qxHas.mono _ _ _)
      | (with_reducible exact laws_qxTexts.mono _ _ _)
      | (with_reducible exact spec_DrawSetAdd.mono _ _)
      | (with_reducible exact spec_SetAdd.mono _ _ _)
      | (with_reducible exact spec_SetOk.mono _ _)
      | (with_reducible exact LeO.refl _)
      | (with_reducible exact LeO.none _)
      | (with_reducible refine LeO.ite ?_ ?_)
      | (with_reducible refine LeO.bind ?_ (fun _ => ?_))
      | exact ih0 _ _ _ _ _ _ _ _ _
      | exact ih1 _ _ _ _ _
      | exact ih2 _ _ _ _ _
      | exact impl_SetAdd.mono _ _ _
      | exact impl_SetOk.mono _ _
      | exact laws_qxHas.mono _ _ _
      | exact laws_qxTexts.mono _ _ _
      | exact spec_DrawSetAdd.mono _ _
      | exact spec_SetAdd.mono _ _ _
      | exact spec_SetOk.mono _ _
      | exact LeO.none _
      | refine LeO.ite ?_ ?_
      | refine LeO.bind ?_ (fun _ => ?_)
    · intro y0 y1 y2 y3 y4
      unfold laws_FnSetAdd.l0
      repeat' first
      | (with_reducible exact ih0 _ _ _ _ _ _ _ _ _)
      | (with_reducible exact ih1 _ _ _ _ _)
      | (with_reducible exact ih2 _ _ _ _ _)
      | (with_reducible exact impl_SetAdd.mono _ _ _)
      | (with_reducible exact impl_SetOk.mono _ _)
      | (with_reducible exact laws_qxHas.mono _ _ _)
      | (with_reducible exact laws_qxTexts.mono _ _ _)
      | (with_reducible exact spec_DrawSetAdd.mono _ _)
      | (with_reducible exact spec_SetAdd.mono _ _ _)
      | (with_reducible exact spec_SetOk.mono _ _)
      | (with_reducible exact LeO.refl _)
      | (with_reducible exact LeO.none _)
      | (with_reducible refine LeO.ite ?_ ?_)
      | (with_reducible refine LeO.bind ?_ (fun _ => ?_))
      | exact ih0 _ _ _ _ _ _ _ _ _
      | exact ih1 _ _ _ _ _
      | exact ih2 _ _ _ _ _
      | exact impl_SetAdd.mono _ _ _
      | exact impl_SetOk.mono _ _
      | exact laws_qxHas.mono _ _ _
      | exact laws_qxTexts.mono _ _ _
      | exact spec_DrawSetAdd.mono _ _
      | exact spec_SetAdd.mono _ _ _
      | exact spec_SetOk.mono _ _
      | exact LeO.none _
      | refine LeO.ite ?_ ?_
      | refine LeO.bind ?_ (fun _ => ?_)
    · intro y0 y1 y2 y3 y4
      unfold laws_FnSetAdd.l1
      repeat' first
      | (with_reducible exact ih0 _ _ _ _ _ _ _ _ _)
      | (with_reducible exact ih1 _ _ _ _ _)
      | (with_reducible exact ih2 _ _ _ _ _)
      | (with_reducible exact impl_SetAdd.mono _ _ _)
      | (with_reducible exact impl_SetOk.mono _ _)
      | (with_reducible exact laws_qxHas.mono _ _ _)
      | (with_reducible exact laws_qxTexts.mono _ _ _)
      | (with_reducible exact spec_DrawSetAdd.mono _ _)
      | (with_reducible exact spec_SetAdd.mono _ _ _)
      | (with_reducible exact spec_SetOk.mono _ _)
      | (with_reducible exact LeO.refl _)
      | (with_reducible exact LeO.none _)
      | (with_reducible refine LeO.ite ?_ ?_)
      | (with_reducible refine LeO.bind ?_ (fun _ => ?_))
      | exact ih0 _ _ _ _ _ _ _ _ _
      | exact ih1 _ _ _ _ _
      | exact ih2 _ _ _ _ _
      | exact impl_SetAdd.mono _ _ _
      | exact impl_SetOk.mono _ _
      | exact laws_qxHas.mono _ _ _
      | exact laws_qxTexts.mono _ _ _
      | exact spec_DrawSetAdd.mono _ _
      | exact spec_SetAdd.mono _ _ _
      | exact spec_SetOk.mono _ _
      | exact LeO.none _
      | refine LeO.ite ?_ ?_
      | refine LeO.bind ?_ (fun _ => ?_)
theorem laws_FnSetAdd.mono : ∀ a0 k, LeO (laws_FnSetAdd.f k a0) (laws_FnSetAdd.f (k + 1) a0) := by
  intro a0 k
  obtain ⟨ih0, ih1, ih2⟩ := laws_FnSetAdd.mono_l k
  unfold laws_FnSetAdd.f
  repeat' first
      | (with_reducible exact ih0 _ _ _ _ _ _ _ _ _)
      | (with_reducible exact ih1 _ _ _ _ _)
      | (with_reducible exact ih2 _ _ _ _ _)
      | (with_reducible exact impl_SetAdd.mono _ _ _)
      | (with_reducible exact impl_SetOk.mono _ _)
      | (with_reducible exact laws_qxHas.mono _ _ _)
      | (with_reducible exact laws_qxTexts.mono _ _ _)
      | (with_reducible exact spec_DrawSetAdd.mono _ _)
      | (with_reducible exact spec_SetAdd.mono _ _ _)
      | (with_reducible exact spec_SetOk.mono _ _)
      | (with_reducible exact LeO.refl _)
      | (with_reducible exact LeO.none _)
      | (with_reducible refine LeO.ite ?_ ?_)
      | (with_reducible refine LeO.bind ?_ (fun _ => ?_))
      | exact ih0 _ _ _ _ _ _ _ _ _
      | exact ih1 _ _ _ _ _
      | exact ih2 _ _ _ _ _
      | exact impl_SetAdd.mono _ _ _
      | exact impl_SetOk.mono _ _
      | exact laws_qxHas.mono _ _ _
      | exact laws_qxTexts.mono _ _ _
      | exact spec_DrawSetAdd.mono _ _
      | exact spec_SetAdd.mono _ _ _
      | exact spec_SetOk.mono _ _
      | exact LeO.none _
      | refine LeO.ite ?_ ?_
      | refine LeO.bind ?_ (fun _ => ?_)

/-! ### spec_DrawFieldsDrop: function 39 -/
def spec_DrawFieldsDrop.f (k : Nat) (l0 : List Int) : Option ((List (S38)) × ByteArray) := (spec_l1Open.f l0).bind fun bt851 => ((spec_l11AnyFields.f k bt851.1 bt851.2).bind fun bt854 => ((spec_l11Text.f k bt851.1 bt854.2).bind fun bt858 => (some (bt854.1, bt858.1))))
theorem spec_DrawFieldsDrop.mono : ∀ a0 k, LeO (spec_DrawFieldsDrop.f k a0) (spec_DrawFieldsDrop.f (k + 1) a0) := by
  intro a0 k
  unfold spec_DrawFieldsDrop.f
  repeat' first
      | (with_reducible exact spec_l11AnyFields.mono _ _ _)
      | (with_reducible exact spec_l11Text.mono _ _ _)
      | (with_reducible exact LeO.refl _)
      | (with_reducible exact LeO.none _)
      | (with_reducible refine LeO.ite ?_ ?_)
      | (with_reducible refine LeO.bind ?_ (fun _ => ?_))
      | exact spec_l11AnyFields.mono _ _ _
      | exact spec_l11Text.mono _ _ _
      | exact LeO.none _
      | refine LeO.ite ?_ ?_
      | refine LeO.bind ?_ (fun _ => ?_)

/-! ### spec_FieldsDrop: function 40 -/
def spec_FieldsDrop.f (k : Nat) (l0 : List (S38)) (a1 : ByteArray) : Option ((List (S38)) × Bool) := (spec_FieldsOk.f k l0).bind fun t860 => (if t860 = true then ((spec_l3At.f k l0 a1).bind fun bt861 => (if bt861.2 = true then ((some (([] : List (S38)) : List (S38))).bind fun y863 => (if 0 ≤ bt861.1 then (if bt861.1 ≤ (l0.length : Int) then ((some (l0.take (bt861.1 : Int).toNat : List (S38))).bind fun y866 => (if y863.length + y866.length < 4398046511104 then ((some (y863 ++ y866 : List (S38))).bind fun y870 => (if 0 ≤ (wrap64 (bt861.1 + 1)) then (if (wrap64 (bt861.1 + 1)) ≤ (l0.length : Int) then ((some (l0.drop ((wrap64 (bt861.1 + 1)) : Int).toNat : List (S38))).bind fun y873 => (if y870.length + y873.length < 4398046511104 then (some ((y870 ++ y873), true)) else (none))) else (none)) else (none))) else (none))) else (none)) else (none))) else ((some (([] : List (S38)) : List (S38))).bind fun y880 => (if y880.length + l0.length < 4398046511104 then (some ((y880 ++ l0), false)) else (none))))) else (some ((([] : List (S38))), false)))
theorem spec_FieldsDrop.mono : ∀ a0 a1 k, LeO (spec_FieldsDrop.f k a0 a1) (spec_FieldsDrop.f (k + 1) a0 a1) := by
  intro a0 a1 k
  unfold spec_FieldsDrop.f
  repeat' first
      | (with_reducible exact spec_FieldsOk.mono _ _)
      | (with_reducible exact spec_l3At.mono _ _ _)
      | (with_reducible exact LeO.refl _)
      | (with_reducible exact LeO.none _)
      | (with_reducible refine LeO.ite ?_ ?_)
      | (with_reducible refine LeO.bind ?_ (fun _ => ?_))
      | exact spec_FieldsOk.mono _ _
      | exact spec_l3At.mono _ _ _
      | exact LeO.none _
      | refine LeO.ite ?_ ?_
      | refine LeO.bind ?_ (fun _ => ?_)

/-! ### spec_FieldsGet: function 41 -/
def spec_FieldsGet.f (k : Nat) (l0 : List (S38)) (a1 : ByteArray) : Option (ByteArray × Bool) := (spec_l3At.f k l0 a1).bind fun bt889 => ((spec_FieldsOk.f k l0).bind fun t891 => (if t891 = true then (if bt889.2 = true then (if 0 ≤ bt889.1 then (if bt889.1 < (l0.length : Int) then (some ((rd_T38 l0 bt889.1).f1, true)) else (none)) else (none)) else (some ((⟨#[]⟩ : ByteArray), false))) else (some ((⟨#[]⟩ : ByteArray), false))))
theorem spec_FieldsGet.mono : ∀ a0 a1 k, LeO (spec_FieldsGet.f k a0 a1) (spec_FieldsGet.f (k + 1) a0 a1) := by
  intro a0 a1 k
  unfold spec_FieldsGet.f
  repeat' first
      | (with_reducible exact spec_FieldsOk.mono _ _)
      | (with_reducible exact spec_l3At.mono _ _ _)
      | (with_reducible exact LeO.refl _)
      | (with_reducible exact LeO.none _)
      | (with_reducible refine LeO.ite ?_ ?_)
      | (with_reducible refine LeO.bind ?_ (fun _ => ?_))
      | exact spec_FieldsOk.mono _ _
      | exact spec_l3At.mono _ _ _
      | exact LeO.none _
      | refine LeO.ite ?_ ?_
      | refine LeO.bind ?_ (fun _ => ?_)

/-! ### laws_FnFieldsDrop: function 8 -/
def laws_FnFieldsDrop.j0 : Nat → List (S38) → ByteArray → List (S38) → Bool → List (S38) → Bool → ByteArray → Bool → ByteArray → Bool → Bool → Option (Bool)
  | 0, _, _, _, _, _, _, _, _, _, _, _ => none
  | k + 1, x3, x4, x5, x6, x7, x8, x9, x10, x11, x12, x73 => if x73 = true then (if (x6 == x8) = true then ((laws_qxFields.f k x5 x7).bind fun t911 => (if t911 = true then (if x9.toList = x11.toList then (some (x10 == x12)) else (some false)) else (some false))) else (some false)) else (if x6 = true then ((impl_FieldsGet.f k x5 x4).bind fun bt912 => ((impl_FieldsPut.f k x5 x4 x9).bind fun bt914 => (if x10 = true then (if bt912.2 = true then (some false) else (if bt914.2.1 = true then (if bt914.2.2 = true then ((laws_qxFields.f k bt914.1 x3).bind fun t919 => (some t919)) else (some false)) else (some false))) else (some false)))) else (if x10 = true then (some false) else ((laws_qxFields.f k x5 x3).bind fun t920 => (some t920))))
def laws_FnFieldsDrop.f (k : Nat) (l0 : List Int) : Option (Bool) := if (l0.length : Int) > 1048576 then (some true) else ((spec_DrawFieldsDrop.f k l0).bind fun bt893 => ((impl_FieldsDrop.f k bt893.1 bt893.2).bind fun bt897 => ((spec_FieldsDrop.f k bt893.1 bt893.2).bind fun bt901 => ((impl_FieldsGet.f k bt893.1 bt893.2).bind fun bt905 => ((spec_FieldsGet.f k bt893.1 bt893.2).bind fun bt907 => (if (bt897.2 != bt901.2) = true then (laws_FnFieldsDrop.j0 k bt893.1 bt893.2 bt897.1 bt897.2 bt901.1 bt901.2 bt905.1 bt905.2 bt907.1 bt907.2 true) else ((laws_qxFields.f k bt897.1 bt901.1).bind fun t909 => (if t909 = true then (if bt905.1.toList = bt907.1.toList then (if (bt905.2 != bt907.2) = true then (laws_FnFieldsDrop.j0 k bt893.1 bt893.2 bt897.1 bt897.2 bt901.1 bt901.2 bt905.1 bt905.2 bt907.1 bt907.2 true) else ((spec_FieldsOk.f k bt893.1).bind fun t910 => (laws_FnFieldsDrop.j0 k bt893.1 bt893.2 bt897.1 bt897.2 bt901.1 bt901.2 bt905.1 bt905.2 bt907.1 bt907.2 (!t910)))) else (laws_FnFieldsDrop.j0 k bt893.1 bt893.2 bt897.1 bt897.2 bt901.1 bt901.2 bt905.1 bt905.2 bt907.1 bt907.2 true)) else (laws_FnFieldsDrop.j0 k bt893.1 bt893.2 bt897.1 bt897.2 bt901.1 bt901.2 bt905.1 bt905.2 bt907.1 bt907.2 true)))))))))
theorem laws_FnFieldsDrop.mono_l : ∀ k, (∀ y0 y1 y2 y3 y4 y5 y6 y7 y8 y9 y10, LeO (laws_FnFieldsDrop.j0 k y0 y1 y2 y3 y4 y5 y6 y7 y8 y9 y10) (laws_FnFieldsDrop.j0 (k + 1) y0 y1 y2 y3 y4 y5 y6 y7 y8 y9 y10))
  | 0 => fun _ _ _ _ _ _ _ _ _ _ _ r h => by simp [laws_FnFieldsDrop.j0] at h
  | k + 1 => by
    have ih0 := laws_FnFieldsDrop.mono_l k
    · intro y0 y1 y2 y3 y4 y5 y6 y7 y8 y9 y10
      unfold laws_FnFieldsDrop.j0
      repeat' first
      | (with_reducible exact ih0 _ _ _ _ _ _ _ _ _ _ _)
      | (with_reducible exact impl_FieldsDrop.mono _ _ _)
      | (with_reducible exact impl_FieldsGet.mono _ _ _)
      | (with_reducible exact impl_FieldsPut.mono _ _ _ _)
      | (with_reducible exact laws_qxFields.mono _ _ _)
      | (with_reducible exact spec_DrawFieldsDrop.mono _ _)
      | (with_reducible exact spec_FieldsDrop.mono _ _ _)
      | (with_reducible exact spec_FieldsGet.mono _ _ _)
      | (with_reducible exact spec_FieldsOk.mono _ _)
      | (with_reducible exact LeO.refl _)
      | (with_reducible exact LeO.none _)
      | (with_reducible refine LeO.ite ?_ ?_)
      | (with_reducible refine LeO.bind ?_ (fun _ => ?_))
      | exact ih0 _ _ _ _ _ _ _ _ _ _ _
      | exact impl_FieldsDrop.mono _ _ _
      | exact impl_FieldsGet.mono _ _ _
      | exact impl_FieldsPut.mono _ _ _ _
      | exact laws_qxFields.mono _ _ _
      | exact spec_DrawFieldsDrop.mono _ _
      | exact spec_FieldsDrop.mono _ _ _
      | exact spec_FieldsGet.mono _ _ _
      | exact spec_FieldsOk.mono _ _
      | exact LeO.none _
      | refine LeO.ite ?_ ?_
      | refine LeO.bind ?_ (fun _ => ?_)
theorem laws_FnFieldsDrop.mono : ∀ a0 k, LeO (laws_FnFieldsDrop.f k a0) (laws_FnFieldsDrop.f (k + 1) a0) := by
  intro a0 k
  have ih0 := laws_FnFieldsDrop.mono_l k
  unfold laws_FnFieldsDrop.f
  repeat' first
      | (with_reducible exact ih0 _ _ _ _ _ _ _ _ _ _ _)
      | (with_reducible exact impl_FieldsDrop.mono _ _ _)
      | (with_reducible exact impl_FieldsGet.mono _ _ _)
      | (with_reducible exact impl_FieldsPut.mono _ _ _ _)
      | (with_reducible exact laws_qxFields.mono _ _ _)
      | (with_reducible exact spec_DrawFieldsDrop.mono _ _)
      | (with_reducible exact spec_FieldsDrop.mono _ _ _)
      | (with_reducible exact spec_FieldsGet.mono _ _ _)
      | (with_reducible exact spec_FieldsOk.mono _ _)
      | (with_reducible exact LeO.refl _)
      | (with_reducible exact LeO.none _)
      | (with_reducible refine LeO.ite ?_ ?_)
      | (with_reducible refine LeO.bind ?_ (fun _ => ?_))
      | exact ih0 _ _ _ _ _ _ _ _ _ _ _
      | exact impl_FieldsDrop.mono _ _ _
      | exact impl_FieldsGet.mono _ _ _
      | exact impl_FieldsPut.mono _ _ _ _
      | exact laws_qxFields.mono _ _ _
      | exact spec_DrawFieldsDrop.mono _ _
      | exact spec_FieldsDrop.mono _ _ _
      | exact spec_FieldsGet.mono _ _ _
      | exact spec_FieldsOk.mono _ _
      | exact LeO.none _
      | refine LeO.ite ?_ ?_
      | refine LeO.bind ?_ (fun _ => ?_)

/-! ### spec_DrawSetBoth: function 42 -/
def spec_DrawSetBoth.f (k : Nat) (l0 : List Int) : Option (List ByteArray × List ByteArray) := (spec_l1Open.f l0).bind fun bt921 => ((spec_l11AnySet.f k bt921.1 bt921.2).bind fun bt924 => ((spec_l11AnySet.f k bt921.1 bt924.2).bind fun bt928 => (some (bt924.1, bt928.1))))
theorem spec_DrawSetBoth.mono : ∀ a0 k, LeO (spec_DrawSetBoth.f k a0) (spec_DrawSetBoth.f (k + 1) a0) := by
  intro a0 k
  unfold spec_DrawSetBoth.f
  repeat' first
      | (with_reducible exact spec_l11AnySet.mono _ _ _)
      | (with_reducible exact LeO.refl _)
      | (with_reducible exact LeO.none _)
      | (with_reducible refine LeO.ite ?_ ?_)
      | (with_reducible refine LeO.bind ?_ (fun _ => ?_))
      | exact spec_l11AnySet.mono _ _ _
      | exact LeO.none _
      | refine LeO.ite ?_ ?_
      | refine LeO.bind ?_ (fun _ => ?_)

/-! ### slices_Index_string_string: function 96 -/
def slices_Index_string_string.l0 : Nat → List ByteArray → ByteArray → Int → Int → Option (Int)
  | 0, _, _, _, _ => none
  | k + 1, x0, x1, x7, x8 => if x8 < x7 then (if 0 ≤ x8 then (if x8 < (x0.length : Int) then (if x1.toList = (rdOf ByteArray.empty x0 x8).toList then (some x8) else (slices_Index_string_string.l0 k x0 x1 x7 (wrap64 (x8 + 1)))) else (none)) else (none)) else (some (-1))
def slices_Index_string_string.f (k : Nat) (l0 : List ByteArray) (a1 : ByteArray) : Option (Int) := slices_Index_string_string.l0 k l0 a1 (l0.length : Int) 0
theorem slices_Index_string_string.mono_l : ∀ k, (∀ y0 y1 y2 y3, LeO (slices_Index_string_string.l0 k y0 y1 y2 y3) (slices_Index_string_string.l0 (k + 1) y0 y1 y2 y3))
  | 0 => fun _ _ _ _ r h => by simp [slices_Index_string_string.l0] at h
  | k + 1 => by
    have ih0 := slices_Index_string_string.mono_l k
    · intro y0 y1 y2 y3
      unfold slices_Index_string_string.l0
      repeat' first
      | (with_reducible exact ih0 _ _ _ _)
      | (with_reducible exact LeO.refl _)
      | (with_reducible exact LeO.none _)
      | (with_reducible refine LeO.ite ?_ ?_)
      | (with_reducible refine LeO.bind ?_ (fun _ => ?_))
      | exact ih0 _ _ _ _
      | exact LeO.none _
      | refine LeO.ite ?_ ?_
      | refine LeO.bind ?_ (fun _ => ?_)
theorem slices_Index_string_string.mono : ∀ a0 a1 k, LeO (slices_Index_string_string.f k a0 a1) (slices_Index_string_string.f (k + 1) a0 a1) := by
  intro a0 a1 k
  have ih0 := slices_Index_string_string.mono_l k
  unfold slices_Index_string_string.f
  repeat' first
      | (with_reducible exact ih0 _ _ _ _)
      | (with_reducible exact LeO.refl _)
      | (with_reducible exact LeO.none _)
      | (with_reducible refine LeO.ite ?_ ?_)
      | (with_reducible refine LeO.bind ?_ (fun _ => ?_))
      | exact ih0 _ _ _ _
      | exact LeO.none _
      | refine LeO.ite ?_ ?_
      | refine LeO.bind ?_ (fun _ => ?_)

/-! ### slices_Contains_string_string: function 84 -/
def slices_Contains_string_string.f (k : Nat) (l0 : List ByteArray) (a1 : ByteArray) : Option (Bool) := (slices_Index_string_string.f k l0 a1).bind fun t933 => (some (decide (t933 ≥ 0)))
theorem slices_Contains_string_string.mono : ∀ a0 a1 k, LeO (slices_Contains_string_string.f k a0 a1) (slices_Contains_string_string.f (k + 1) a0 a1) := by
  intro a0 a1 k
  unfold slices_Contains_string_string.f
  repeat' first
      | (with_reducible exact slices_Index_string_string.mono _ _ _)
      | (with_reducible exact LeO.refl _)
      | (with_reducible exact LeO.none _)
      | (with_reducible refine LeO.ite ?_ ?_)
      | (with_reducible refine LeO.bind ?_ (fun _ => ?_))
      | exact slices_Index_string_string.mono _ _ _
      | exact LeO.none _
      | refine LeO.ite ?_ ?_
      | refine LeO.bind ?_ (fun _ => ?_)

/-! ### impl_chosen: function 69 -/
def impl_chosen.l0 : Nat → List ByteArray → Bool → List ByteArray → List ByteArray → Int → Int → Option (List ByteArray)
  | 0, _, _, _, _, _, _ => none
  | k + 1, x1, x2, x7, x11, x12, x13 => if x13 < x12 then (if 0 ≤ x13 then (if x13 < (x11.length : Int) then ((slices_Contains_string_string.f k x1 (rdOf ByteArray.empty x11 x13)).bind fun t938 => (if (t938 == x2) = true then (if x7.length < 8796093022208 then (impl_chosen.l0 k x1 x2 (x7 ++ [rdOf ByteArray.empty x11 x13]) x11 x12 (wrap64 (x13 + 1))) else (none)) else (impl_chosen.l0 k x1 x2 x7 x11 x12 (wrap64 (x13 + 1))))) else (none)) else (none)) else (some x7)
def impl_chosen.f (k : Nat) (l0 : List ByteArray) (l1 : List ByteArray) (a2 : Bool) : Option (List ByteArray) := impl_chosen.l0 k l1 a2 (([] : List ByteArray)) l0 (l0.length : Int) 0
theorem impl_chosen.mono_l : ∀ k, (∀ y0 y1 y2 y3 y4 y5, LeO (impl_chosen.l0 k y0 y1 y2 y3 y4 y5) (impl_chosen.l0 (k + 1) y0 y1 y2 y3 y4 y5))
  | 0 => fun _ _ _ _ _ _ r h => by simp [impl_chosen.l0] at h
  | k + 1 => by
    have ih0 := impl_chosen.mono_l k
    · intro y0 y1 y2 y3 y4 y5
      unfold impl_chosen.l0
      repeat' first
      | (with_reducible exact ih0 _ _ _ _ _ _)
      | (with_reducible exact slices_Contains_string_string.mono _ _ _)
      | (with_reducible exact LeO.refl _)
      | (with_reducible exact LeO.none _)
      | (with_reducible refine LeO.ite ?_ ?_)
      | (with_reducible refine LeO.bind ?_ (fun _ => ?_))
      | exact ih0 _ _ _ _ _ _
      | exact slices_Contains_string_string.mono _ _ _
      | exact LeO.none _
      | refine LeO.ite ?_ ?_
      | refine LeO.bind ?_ (fun _ => ?_)
theorem impl_chosen.mono : ∀ a0 a1 a2 k, LeO (impl_chosen.f k a0 a1 a2) (impl_chosen.f (k + 1) a0 a1 a2) := by
  intro a0 a1 a2 k
  have ih0 := impl_chosen.mono_l k
  unfold impl_chosen.f
  repeat' first
      | (with_reducible exact ih0 _ _ _ _ _ _)
      | (with_reducible exact slices_Contains_string_string.mono _ _ _)
      | (with_reducible exact LeO.refl _)
      | (with_reducible exact LeO.none _)
      | (with_reducible refine LeO.ite ?_ ?_)
      | (with_reducible refine LeO.bind ?_ (fun _ => ?_))
      | exact ih0 _ _ _ _ _ _
      | exact slices_Contains_string_string.mono _ _ _
      | exact LeO.none _
      | refine LeO.ite ?_ ?_
      | refine LeO.bind ?_ (fun _ => ?_)

/-! ### impl_SetBoth: function 43 -/
def impl_SetBoth.f (k : Nat) (l0 : List ByteArray) (l1 : List ByteArray) : Option (List ByteArray) := (impl_SetOk.f k l0).bind fun t942 => (if t942 = true then ((impl_SetOk.f k l1).bind fun t943 => (if t943 = true then ((impl_chosen.f k l0 l1 true).bind fun t944 => (some t944)) else (some (([] : List ByteArray))))) else (some (([] : List ByteArray))))
theorem impl_SetBoth.mono : ∀ a0 a1 k, LeO (impl_SetBoth.f k a0 a1) (impl_SetBoth.f (k + 1) a0 a1) := by
  intro a0 a1 k
  unfold impl_SetBoth.f
  repeat' first
      | (with_reducible exact impl_SetOk.mono _ _)
      | (with_reducible exact impl_chosen.mono _ _ _ _)
      | (with_reducible exact LeO.refl _)
      | (with_reducible exact LeO.none _)
      | (with_reducible refine LeO.ite ?_ ?_)
      | (with_reducible refine LeO.bind ?_ (fun _ => ?_))
      | exact impl_SetOk.mono _ _
      | exact impl_chosen.mono _ _ _ _
      | exact LeO.none _
      | refine LeO.ite ?_ ?_
      | refine LeO.bind ?_ (fun _ => ?_)

/-! ### impl_SetLess: function 44 -/
def impl_SetLess.f (k : Nat) (l0 : List ByteArray) (l1 : List ByteArray) : Option (List ByteArray) := (impl_SetOk.f k l0).bind fun t953 => (if t953 = true then ((impl_SetOk.f k l1).bind fun t954 => (if t954 = true then ((impl_chosen.f k l0 l1 false).bind fun t955 => (some t955)) else (some (([] : List ByteArray))))) else (some (([] : List ByteArray))))
theorem impl_SetLess.mono : ∀ a0 a1 k, LeO (impl_SetLess.f k a0 a1) (impl_SetLess.f (k + 1) a0 a1) := by
  intro a0 a1 k
  unfold impl_SetLess.f
  repeat' first
      | (with_reducible exact impl_SetOk.mono _ _)
      | (with_reducible exact impl_chosen.mono _ _ _ _)
      | (with_reducible exact LeO.refl _)
      | (with_reducible exact LeO.none _)
      | (with_reducible refine LeO.ite ?_ ?_)
      | (with_reducible refine LeO.bind ?_ (fun _ => ?_))
      | exact impl_SetOk.mono _ _
      | exact impl_chosen.mono _ _ _ _
      | exact LeO.none _
      | refine LeO.ite ?_ ?_
      | refine LeO.bind ?_ (fun _ => ?_)

/-! ### spec_l2Has: function 70 -/
def spec_l2Has.l0 : Nat → List ByteArray → ByteArray → Int → Option (Bool)
  | 0, _, _, _ => none
  | k + 1, x0, x1, x5 => if x5 < (x0.length : Int) then (if 0 ≤ x5 then (if (rdOf ByteArray.empty x0 x5).toList = x1.toList then (some true) else (spec_l2Has.l0 k x0 x1 (wrap64 (x5 + 1)))) else (none)) else (some false)
def spec_l2Has.f (k : Nat) (l0 : List ByteArray) (a1 : ByteArray) : Option (Bool) := spec_l2Has.l0 k l0 a1 0
theorem spec_l2Has.mono_l : ∀ k, (∀ y0 y1 y2, LeO (spec_l2Has.l0 k y0 y1 y2) (spec_l2Has.l0 (k + 1) y0 y1 y2))
  | 0 => fun _ _ _ r h => by simp [spec_l2Has.l0] at h
  | k + 1 => by
    have ih0 := spec_l2Has.mono_l k
    · intro y0 y1 y2
      unfold spec_l2Has.l0
      repeat' first
      | (with_reducible exact ih0 _ _ _)
      | (with_reducible exact LeO.refl _)
      | (with_reducible exact LeO.none _)
      | (with_reducible refine LeO.ite ?_ ?_)
      | (with_reducible refine LeO.bind ?_ (fun _ => ?_))
      | exact ih0 _ _ _
      | exact LeO.none _
      | refine LeO.ite ?_ ?_
      | refine LeO.bind ?_ (fun _ => ?_)
theorem spec_l2Has.mono : ∀ a0 a1 k, LeO (spec_l2Has.f k a0 a1) (spec_l2Has.f (k + 1) a0 a1) := by
  intro a0 a1 k
  have ih0 := spec_l2Has.mono_l k
  unfold spec_l2Has.f
  repeat' first
      | (with_reducible exact ih0 _ _ _)
      | (with_reducible exact LeO.refl _)
      | (with_reducible exact LeO.none _)
      | (with_reducible refine LeO.ite ?_ ?_)
      | (with_reducible refine LeO.bind ?_ (fun _ => ?_))
      | exact ih0 _ _ _
      | exact LeO.none _
      | refine LeO.ite ?_ ?_
      | refine LeO.bind ?_ (fun _ => ?_)

/-! ### spec_SetBoth: function 45 -/
mutual
def spec_SetBoth.l0 : Nat → List ByteArray → List ByteArray → List ByteArray → Int → Option (List ByteArray)
  | 0, _, _, _, _ => none
  | k + 1, x0, x1, x5, x6 => if x6 < (x0.length : Int) then ((spec_SetOk.f k x0).bind fun t968 => (if t968 = true then ((spec_SetOk.f k x1).bind fun t969 => (spec_SetBoth.j1 k x0 x1 x5 x6 t969)) else (spec_SetBoth.j1 k x0 x1 x5 x6 false))) else (spec_SetBoth.j1 k x0 x1 x5 x6 false)
def spec_SetBoth.j1 : Nat → List ByteArray → List ByteArray → List ByteArray → Int → Bool → Option (List ByteArray)
  | 0, _, _, _, _, _ => none
  | k + 1, x0, x1, x5, x6, x19 => if x19 = true then (if 0 ≤ x6 then (if x6 < (x0.length : Int) then ((spec_l2Has.f k x1 (rdOf ByteArray.empty x0 x6)).bind fun t971 => (if t971 = true then (if x5.length < 8796093022208 then (spec_SetBoth.l0 k x0 x1 (x5 ++ [rdOf ByteArray.empty x0 x6]) (wrap64 (x6 + 1))) else (none)) else (spec_SetBoth.l0 k x0 x1 x5 (wrap64 (x6 + 1))))) else (none)) else (none)) else (some x5)
end
def spec_SetBoth.f (k : Nat) (l0 : List ByteArray) (l1 : List ByteArray) : Option (List ByteArray) := spec_SetBoth.l0 k l0 l1 (([] : List ByteArray)) 0
theorem spec_SetBoth.mono_l : ∀ k, (∀ y0 y1 y2 y3, LeO (spec_SetBoth.l0 k y0 y1 y2 y3) (spec_SetBoth.l0 (k + 1) y0 y1 y2 y3)) ∧ (∀ y0 y1 y2 y3 y4, LeO (spec_SetBoth.j1 k y0 y1 y2 y3 y4) (spec_SetBoth.j1 (k + 1) y0 y1 y2 y3 y4))
  | 0 => ⟨fun _ _ _ _ r h => by simp [spec_SetBoth.l0] at h, fun _ _ _ _ _ r h => by simp [spec_SetBoth.j1] at h⟩
  | k + 1 => by
    obtain ⟨ih0, ih1⟩ := spec_SetBoth.mono_l k
    refine ⟨?_, ?_⟩
    · intro y0 y1 y2 y3
      unfold spec_SetBoth.l0
      repeat' first
      | (with_reducible exact ih0 _ _ _ _)
      | (with_reducible exact ih1 _ _ _ _ _)
      | (with_reducible exact spec_SetOk.mono _ _)
      | (with_reducible exact spec_l2Has.mono _ _ _)
      | (with_reducible exact LeO.refl _)
      | (with_reducible exact LeO.none _)
      | (with_reducible refine LeO.ite ?_ ?_)
      | (with_reducible refine LeO.bind ?_ (fun _ => ?_))
      | exact ih0 _ _ _ _
      | exact ih1 _ _ _ _ _
      | exact spec_SetOk.mono _ _
      | exact spec_l2Has.mono _ _ _
      | exact LeO.none _
      | refine LeO.ite ?_ ?_
      | refine LeO.bind ?_ (fun _ => ?_)
    · intro y0 y1 y2 y3 y4
      unfold spec_SetBoth.j1
      repeat' first
      | (with_reducible exact ih0 _ _ _ _)
      | (with_reducible exact ih1 _ _ _ _ _)
      | (with_reducible exact spec_SetOk.mono _ _)
      | (with_reducible exact spec_l2Has.mono _ _ _)
      | (with_reducible exact LeO.refl _)
      | (with_reducible exact LeO.none _)
      | (with_reducible refine LeO.ite ?_ ?_)
      | (with_reducible refine LeO.bind ?_ (fun _ => ?_))
      | exact ih0 _ _ _ _
      | exact ih1 _ _ _ _ _
      | exact spec_SetOk.mono _ _
      | exact spec_l2Has.mono _ _ _
      | exact LeO.none _
      | refine LeO.ite ?_ ?_
      | refine LeO.bind ?_ (fun _ => ?_)
theorem spec_SetBoth.mono : ∀ a0 a1 k, LeO (spec_SetBoth.f k a0 a1) (spec_SetBoth.f (k + 1) a0 a1) := by
  intro a0 a1 k
  obtain ⟨ih0, ih1⟩ := spec_SetBoth.mono_l k
  unfold spec_SetBoth.f
  repeat' first
      | (with_reducible exact ih0 _ _ _ _)
      | (with_reducible exact ih1 _ _ _ _ _)
      | (with_reducible exact spec_SetOk.mono _ _)
      | (with_reducible exact spec_l2Has.mono _ _ _)
      | (with_reducible exact LeO.refl _)
      | (with_reducible exact LeO.none _)
      | (with_reducible refine LeO.ite ?_ ?_)
      | (with_reducible refine LeO.bind ?_ (fun _ => ?_))
      | exact ih0 _ _ _ _
      | exact ih1 _ _ _ _ _
      | exact spec_SetOk.mono _ _
      | exact spec_l2Has.mono _ _ _
      | exact LeO.none _
      | refine LeO.ite ?_ ?_
      | refine LeO.bind ?_ (fun _ => ?_)

/-! ### spec_SetLess: function 46 -/
mutual
def spec_SetLess.l0 : Nat → List ByteArray → List ByteArray → List ByteArray → Int → Option (List ByteArray)
  | 0, _, _, _, _ => none
  | k + 1, x0, x1, x5, x6 => if x6 < (x0.length : Int) then ((spec_SetOk.f k x0).bind fun t979 => (if t979 = true then ((spec_SetOk.f k x1).bind fun t980 => (spec_SetLess.j1 k x0 x1 x5 x6 t980)) else (spec_SetLess.j1 k x0 x1 x5 x6 false))) else (spec_SetLess.j1 k x0 x1 x5 x6 false)
def spec_SetLess.j1 : Nat → List ByteArray → List ByteArray → List ByteArray → Int → Bool → Option (List ByteArray)
  | 0, _, _, _, _, _ => none
  | k + 1, x0, x1, x5, x6, x19 => if x19 = true then (if 0 ≤ x6 then (if x6 < (x0.length : Int) then ((spec_l2Has.f k x1 (rdOf ByteArray.empty x0 x6)).bind fun t982 => (if t982 = true then (spec_SetLess.l0 k x0 x1 x5 (wrap64 (x6 + 1))) else (if x5.length < 8796093022208 then (spec_SetLess.l0 k x0 x1 (x5 ++ [rdOf ByteArray.empty x0 x6]) (wrap64 (x6 + 1))) else (none)))) else (none)) else (none)) else (some x5)
end
def spec_SetLess.f (k : Nat) (l0 : List ByteArray) (l1 : List ByteArray) : Option (List ByteArray) := spec_SetLess.l0 k l0 l1 (([] : List ByteArray)) 0
theorem spec_SetLess.mono_l : ∀ k, (∀ y0 y1 y2 y3, LeO (spec_SetLess.l0 k y0 y1 y2 y3) (spec_SetLess.l0 (k + 1) y0 y1 y2 y3)) ∧ (∀ y0 y1 y2 y3 y4, LeO (spec_SetLess.j1 k y0 y1 y2 y3 y4) (spec_SetLess.j1 (k + 1) y0 y1 y2 y3 y4))
  | 0 => ⟨fun _ _ _ _ r h => by simp [spec_SetLess.l0] at h, fun _ _ _ _ _ r h => by simp [spec_SetLess.j1] at h⟩
  | k + 1 => by
    obtain ⟨ih0, ih1⟩ := spec_SetLess.mono_l k
    refine ⟨?_, ?_⟩
    · intro y0 y1 y2 y3
      unfold spec_SetLess.l0
      repeat' first
      | (with_reducible exact ih0 _ _ _ _)
      | (with_reducible exact ih1 _ _ _ _ _)
      | (with_reducible exact spec_SetOk.mono _ _)
      | (with_reducible exact spec_l2Has.mono _ _ _)
      | (with_reducible exact LeO.refl _)
      | (with_reducible exact LeO.none _)
      | (with_reducible refine LeO.ite ?_ ?_)
      | (with_reducible refine LeO.bind ?_ (fun _ => ?_))
      | exact ih0 _ _ _ _
      | exact ih1 _ _ _ _ _
      | exact spec_SetOk.mono _ _
      | exact spec_l2Has.mono _ _ _
      | exact LeO.none _
      | refine LeO.ite ?_ ?_
      | refine LeO.bind ?_ (fun _ => ?_)
    · intro y0 y1 y2 y3 y4
      unfold spec_SetLess.j1
      repeat' first
      | (with_reducible exact ih0 _ _ _ _)
      | (with_reducible exact ih1 _ _ _ _ _)
      | (with_reducible exact spec_SetOk.mono _ _)
      | (with_reducible exact spec_l2Has.mono _ _ _)
      | (with_reducible exact LeO.refl _)
      | (with_reducible exact LeO.none _)
      | (with_reducible refine LeO.ite ?_ ?_)
      | (with_reducible refine LeO.bind ?_ (fun _ => ?_))
      | exact ih0 _ _ _ _
      | exact ih1 _ _ _ _ _
      | exact spec_SetOk.mono _ _
      | exact spec_l2Has.mono _ _ _
      | exact LeO.none _
      | refine LeO.ite ?_ ?_
      | refine LeO.bind ?_ (fun _ => ?_)
theorem spec_SetLess.mono : ∀ a0 a1 k, LeO (spec_SetLess.f k a0 a1) (spec_SetLess.f (k + 1) a0 a1) := by
  intro a0 a1 k
  obtain ⟨ih0, ih1⟩ := spec_SetLess.mono_l k
  unfold spec_SetLess.f
  repeat' first
      | (with_reducible exact ih0 _ _ _ _)
      | (with_reducible exact ih1 _ _ _ _ _)
      | (with_reducible exact spec_SetOk.mono _ _)
      | (with_reducible exact spec_l2Has.mono _ _ _)
      | (with_reducible exact LeO.refl _)
      | (with_reducible exact LeO.none _)
      | (with_reducible refine LeO.ite ?_ ?_)
      | (with_reducible refine LeO.bind ?_ (fun _ => ?_))
      | exact ih0 _ _ _ _
      | exact ih1 _ _ _ _ _
      | exact spec_SetOk.mono _ _
      | exact spec_l2Has.mono _ _ _
      | exact LeO.none _
      | refine LeO.ite ?_ ?_
      | refine LeO.bind ?_ (fun _ => ?_)

/-! ### laws_FnSetBoth: function 9 -/
mutual
def laws_FnSetBoth.j0 : Nat → List ByteArray → List ByteArray → List ByteArray → List ByteArray → List ByteArray → List ByteArray → Bool → Option (Bool)
  | 0, _, _, _, _, _, _, _ => none
  | k + 1, x3, x4, x5, x6, x7, x8, x62 => if x62 = true then ((spec_SetBoth.f k x3 x4).bind fun t1019 => ((laws_qxTexts.f k x5 t1019).bind fun t1022 => (if t1022 = true then ((spec_SetAny.f k x3 x4).bind fun t1023 => ((laws_qxTexts.f k x6 t1023).bind fun t1026 => (if t1026 = true then ((spec_SetLess.f k x3 x4).bind fun t1027 => ((laws_qxTexts.f k x7 t1027).bind fun t1030 => (some t1030))) else (some false)))) else (some false)))) else (laws_FnSetBoth.l0 k x3 x4 x5 x6 x7 x8 0)
def laws_FnSetBoth.l0 : Nat → List ByteArray → List ByteArray → List ByteArray → List ByteArray → List ByteArray → List ByteArray → Int → Option (Bool)
  | 0, _, _, _, _, _, _, _ => none
  | k + 1, x3, x4, x5, x6, x7, x8, x9 => if x9 < (x6.length : Int) then (if 0 ≤ x9 then ((laws_qxHas.f k x5 (rdOf ByteArray.empty x6 x9)).bind fun t1032 => (if t1032 = true then (laws_FnSetBoth.j2 k x3 x4 x5 x6 x7 x8 x9 (0 + 1)) else (laws_FnSetBoth.j2 k x3 x4 x5 x6 x7 x8 x9 0))) else (none)) else ((impl_SetBoth.f k x4 x3).bind fun t1041 => ((laws_qxTexts.f k t1041 x5).bind fun t1044 => (if t1044 = true then ((impl_SetAny.f k x4 x3).bind fun t1045 => ((laws_qxTexts.f k t1045 x6).bind fun t1048 => (if t1048 = true then (some ((x6.length : Int) == (wrap64 ((wrap64 ((x5.length : Int) + (x7.length : Int))) + (x8.length : Int))))) else (some false)))) else (some false))))
def laws_FnSetBoth.j2 : Nat → List ByteArray → List ByteArray → List ByteArray → List ByteArray → List ByteArray → List ByteArray → Int → Int → Option (Bool)
  | 0, _, _, _, _, _, _, _, _ => none
  | k + 1, x3, x4, x5, x6, x7, x8, x9, x10 => if 0 ≤ x9 then (if x9 < (x6.length : Int) then ((laws_qxHas.f k x7 (rdOf ByteArray.empty x6 x9)).bind fun t1034 => (if t1034 = true then (laws_FnSetBoth.j3 k x3 x4 x5 x6 x7 x8 x9 (wrap64 (x10 + 1))) else (laws_FnSetBoth.j3 k x3 x4 x5 x6 x7 x8 x9 x10))) else (none)) else (none)
def laws_FnSetBoth.j3 : Nat → List ByteArray → List ByteArray → List ByteArray → List ByteArray → List ByteArray → List ByteArray → Int → Int → Option (Bool)
  | 0, _, _, _, _, _, _, _, _ => none
  | k + 1, x3, x4, x5, x6, x7, x8, x9, x10 => if 0 ≤ x9 then (if x9 < (x6.length : Int) then ((laws_qxHas.f k x8 (rdOf ByteArray.empty x6 x9)).bind fun t1036 => (if t1036 = true then (if (wrap64 (x10 + 1)) = 1 then (if x9 > 0 then (if 0 ≤ (wrap64 (x9 - 1)) then (if (wrap64 (x9 - 1)) < (x6.length : Int) then (if ((Op.bytesLess ((rdOf ByteArray.empty x6 (wrap64 (x9 - 1))).toList) ((rdOf ByteArray.empty x6 x9).toList)) = true) then (laws_FnSetBoth.l0 k x3 x4 x5 x6 x7 x8 (wrap64 (x9 + 1))) else (some false)) else (none)) else (none)) else (laws_FnSetBoth.l0 k x3 x4 x5 x6 x7 x8 (wrap64 (x9 + 1)))) else (some false)) else (if x10 = 1 then (if x9 > 0 then (if 0 ≤ (wrap64 (x9 - 1)) then (if (wrap64 (x9 - 1)) < (x6.length : Int) then (if ((Op.bytesLess ((rdOf ByteArray.empty x6 (wrap64 (x9 - 1))).toList) ((rdOf ByteArray.empty x6 x9).toList)) = true) then (laws_FnSetBoth.l0 k x3 x4 x5 x6 x7 x8 (wrap64 (x9 + 1))) else (some false)) else (none)) else (none)) else (laws_FnSetBoth.l0 k x3 x4 x5 x6 x7 x8 (wrap64 (x9 + 1)))) else (some false)))) else (none)) else (none)
end
def laws_FnSetBoth.f (k : Nat) (l0 : List Int) : Option (Bool) := if (l0.length : Int) > 1048576 then (some true) else ((spec_DrawSetBoth.f k l0).bind fun bt987 => ((impl_SetBoth.f k bt987.1 bt987.2).bind fun t993 => ((impl_SetAny.f k bt987.1 bt987.2).bind fun t996 => ((impl_SetLess.f k bt987.1 bt987.2).bind fun t999 => ((impl_SetLess.f k bt987.2 bt987.1).bind fun t1002 => ((spec_SetBoth.f k bt987.1 bt987.2).bind fun t1005 => ((laws_qxTexts.f k t993 t1005).bind fun t1008 => (if t1008 = true then ((spec_SetAny.f k bt987.1 bt987.2).bind fun t1009 => ((laws_qxTexts.f k t996 t1009).bind fun t1012 => (if t1012 = true then ((spec_SetLess.f k bt987.1 bt987.2).bind fun t1013 => ((laws_qxTexts.f k t999 t1013).bind fun t1016 => (if t1016 = true then ((spec_SetOk.f k bt987.1).bind fun t1017 => (if t1017 = true then ((spec_SetOk.f k bt987.2).bind fun t1018 => (laws_FnSetBoth.j0 k bt987.1 bt987.2 t993 t996 t999 t1002 (!t1018))) else (laws_FnSetBoth.j0 k bt987.1 bt987.2 t993 t996 t999 t1002 true))) else (laws_FnSetBoth.j0 k bt987.1 bt987.2 t993 t996 t999 t1002 true)))) else (laws_FnSetBoth.j0 k bt987.1 bt987.2 t993 t996 t999 t1002 true)))) else (laws_FnSetBoth.j0 k bt987.1 bt987.2 t993 t996 t999 t1002 true)))))))))
theorem laws_FnSetBoth.mono_l : ∀ k, (∀ y0 y1 y2 y3 y4 y5 y6, LeO (laws_FnSetBoth.j0 k y0 y1 y2 y3 y4 y5 y6) (laws_FnSetBoth.j0 (k + 1) y0 y1 y2 y3 y4 y5 y6)) ∧ (∀ y0 y1 y2 y3 y4 y5 y6, LeO (laws_FnSetBoth.l0 k y0 y1 y2 y3 y4 y5 y6) (laws_FnSetBoth.l0 (k + 1) y0 y1 y2 y3 y4 y5 y6)) ∧ (∀ y0 y1 y2 y3 y4 y5 y6 y7, LeO (laws_FnSetBoth.j2 k y0 y1 y2 y3 y4 y5 y6 y7) (laws_FnSetBoth.j2 (k + 1) y0 y1 y2 y3 y4 y5 y6 y7)) ∧ (∀ y0 y1 y2 y3 y4 y5 y6 y7, LeO (laws_FnSetBoth.j3 k y0 y1 y2 y3 y4 y5 y6 y7) (laws_FnSetBoth.j3 (k + 1) y0 y1 y2 y3 y4 y5 y6 y7))
  | 0 => ⟨fun _ _ _ _ _ _ _ r h => by simp [laws_FnSetBoth.j0] at h, fun _ _ _ _ _ _ _ r h => by simp [laws_FnSetBoth.l0] at h, fun _ _ _ _ _ _ _ _ r h => by simp [laws_FnSetBoth.j2] at h, fun _ _ _ _ _ _ _ _ r h => by simp [laws_FnSetBoth.j3] at h⟩
  | k + 1 => by
    obtain ⟨ih0, ih1, ih2, ih3⟩ := laws_FnSetBoth.mono_l k
    refine ⟨?_, ?_, ?_, ?_⟩
    · intro y0 y1 y2 y3 y4 y5 y6
      unfold laws_FnSetBoth.j0
      repeat' first
      | (with_reducible exact ih0 _ _ _ _ _ _ _)
      | (with_reducible exact ih1 _ _ _ _ _ _ _)
      | (with_reducible exact ih2 _ _ _ _ _ _ _ _)
      | (with_reducible exact ih3 _ _ _ _ _ _ _ _)
      | (with_reducible exact impl_SetAny.mono _ _ _)
      | (with_reducible exact impl_SetBoth.mono _ _ _)
      | (with_reducible exact impl_SetLess.mono _ _ _)
      | (with_reducible exact laws_qxHas.mono _ _ _)
      | (with_reducible exact laws_qxTexts.mono _ _ _)
      | (with_reducible exact spec_DrawSetBoth.mono _ _)
      | (with_reducible exact spec_SetAny.mono _ _ _)
      | (with_reducible exact spec_SetBoth.mono _ _ _)
      | (with_reducible exact spec_SetLess.mono _ _ _)
      | (with_reducible exact spec_SetOk.mono _ _)
      | (with_reducible exact LeO.refl _)
      | (with_reducible exact LeO.none _)
      | (with_reducible refine LeO.ite ?_ ?_)
      | (with_reducible refine LeO.bind ?_ (fun _ => ?_))
      | exact ih0 _ _ _ _ _ _ _
      | exact ih1 _ _ _ _ _ _ _
      | exact ih2 _ _ _ _ _ _ _ _
      | exact ih3 _ _ _ _ _ _ _ _
      | exact impl_SetAny.mono _ _ _
      | exact impl_SetBoth.mono _ _ _
      | exact impl_SetLess.mono _ _ _
      | exact laws_qxHas.mono _ _ _
      | exact laws_qxTexts.mono _ _ _
      | exact spec_DrawSetBoth.mono _ _
      | exact spec_SetAny.mono _ _ _
      | exact spec_SetBoth.mono _ _ _
      | exact spec_SetLess.mono _ _ _
      | exact spec_SetOk.mono _ _
      | exact LeO.none _
      | refine LeO.ite ?_ ?_
      | refine LeO.bind ?_ (fun _ => ?_)
    · intro y0 y1 y2 y3 y4 y5 y6
      unfold laws_FnSetBoth.l0
      repeat' first
      | (with_reducible exact ih0 _ _ _ _ _ _ _)
      | (with_reducible exact ih1 _ _ _ _ _ _ _)
      | (with_reducible exact ih2 _ _ _ _ _ _ _ _)
      | (with_reducible exact ih3 _ _ _ _ _ _ _ _)
      | (with_reducible exact impl_SetAny.mono _ _ _)
      | (with_reducible exact impl_SetBoth.mono _ _ _)
      | (with_reducible exact impl_SetLess.mono _ _ _)
      | (with_reducible exact laws_qxHas.mono _ _ _)
      | (with_reducible exact laws_qxTexts.mono _ _ _)
      | (with_reducible exact spec_DrawSetBoth.mono _ _)
      | (with_reducible exact spec_SetAny.mono _ _ _)
      | (with_reducible exact spec_SetBoth.mono _ _ _)
      | (with_reducible exact spec_SetLess.mono _ _ _)
      | (with_reducible exact spec_SetOk.mono _ _)
      | (with_reducible exact LeO.refl _)
      | (with_reducible exact LeO.none _)
      | (with_reducible refine LeO.ite ?_ ?_)
      | (with_reducible refine LeO.bind ?_ (fun _ => ?_))
      | exact ih0 _ _ _ _ _ _ _
      | exact ih1 _ _ _ _ _ _ _
      | exact ih2 _ _ _ _ _ _ _ _
      | exact ih3 _ _ _ _ _ _ _ _
      | exact impl_SetAny.mono _ _ _
      | exact impl_SetBoth.mono _ _ _
      | exact impl_SetLess.mono _ _ _
      | exact laws_qxHas.mono _ _ _
      | exact laws_qxTexts.mono _ _ _
      | exact spec_DrawSetBoth.mono _ _
      | exact spec_SetAny.mono _ _ _
      | exact spec_SetBoth.mono _ _ _
      | exact spec_SetLess.mono _ _ _
      | exact spec_SetOk.mono _ _
      | exact LeO.none _
      | refine LeO.ite ?_ ?_
      | refine LeO.bind ?_ (fun _ => ?_)
    · intro y0 y1 y2 y3 y4 y5 y6 y7
      unfold laws_FnSetBoth.j2
      repeat' first
      | (with_reducible exact ih0 _ _ _ _ _ _ _)
      | (with_reducible exact ih1 _ _ _ _ _ _ _)
      | (with_reducible exact ih2 _ _ _ _ _ _ _ _)
      | (with_reducible exact ih3 _ _ _ _ _ _ _ _)
      | (with_reducible exact impl_SetAny.mono _ _ _)
      | (with_reducible exact impl_SetBoth.mono _ _ _)
      | (with_reducible exact impl_SetLess.mono _ _ _)
      | (with_reducible exact laws_qxHas.mono _ _ _)
      | (with_reducible exact laws_qxTexts.mono _ _ _)
      | (with_reducible exact spec_DrawSetBoth.mono _ _)
      | (with_reducible exact spec_SetAny.mono _ _ _)
      | (with_reducible exact spec_SetBoth.mono _ _ _)
      | (with_reducible exact spec_SetLess.mono _ _ _)
      | (with_reducible exact spec_SetOk.mono _ _)
      | (with_reducible exact LeO.refl _)
      | (with_reducible exact LeO.none _)
      | (with_reducible refine LeO.ite ?_ ?_)
      | (with_reducible refine LeO.bind ?_ (fun _ => ?_))
      | exact ih0 _ _ _ _ _ _ _
      | exact ih1 _ _ _ _ _ _ _
      | exact ih2 _ _ _ _ _ _ _ _
      | exact ih3 _ _ _ _ _ _ _ _
      | exact impl_SetAny.mono _ _ _
      | exact impl_SetBoth.mono _ _ _
      | exact impl_SetLess.mono _ _ _
      | exact laws_qxHas.mono _ _ _
      | exact laws_qxTexts.mono _ _ _
      | exact spec_DrawSetBoth.mono _ _
      | exact spec_SetAny.mono _ _ _
      | exact spec_SetBoth.mono _ _ _
      | exact spec_SetLess.mono _ _ _
      | exact spec_SetOk.mono _ _
      | exact LeO.none _
      | refine LeO.ite ?_ ?_
      | refine LeO.bind ?_ (fun _ => ?_)
    · intro y0 y1 y2 y3 y4 y5 y6 y7
      unfold laws_FnSetBoth.j3
      repeat' first
      | (with_reducible exact ih0 _ _ _ _ _ _ _)
      | (with_reducible exact ih1 _ _ _ _ _ _ _)
      | (with_reducible exact ih2 _ _ _ _ _ _ _ _)
      | (with_reducible exact ih3 _ _ _ _ _ _ _ _)
      | (with_reducible exact impl_SetAny.mono _ _ _)
      | (with_reducible exact impl_SetBoth.mono _ _ _)
      | (with_reducible exact impl_SetLess.mono _ _ _)
      | (with_reducible exact laws_qxHas.mono _ _ _)
      | (with_reducible exact laws_qxTexts.mono _ _ _)
      | (with_reducible exact spec_DrawSetBoth.mono _ _)
      | (with_reducible exact spec_SetAny.mono _ _ _)
      | (with_reducible exact spec_SetBoth.mono _ _ _)
      | (with_reducible exact spec_SetLess.mono _ _ _)
      | (with_reducible exact spec_SetOk.mono _ _)
      | (with_reducible exact LeO.refl _)
      | (with_reducible exact LeO.none _)
      | (with_reducible refine LeO.ite ?_ ?_)
      | (with_reducible refine LeO.bind ?_ (fun _ => ?_))
      | exact ih0 _ _ _ _ _ _ _
      | exact ih1 _ _ _ _ _ _ _
      | exact ih2 _ _ _ _ _ _ _ _
      | exact ih3 _ _ _ _ _ _ _ _
      | exact impl_SetAny.mono _ _ _
      | exact impl_SetBoth.mono _ _ _
      | exact impl_SetLess.mono _ _ _
      | exact laws_qxHas.mono _ _ _
      | exact laws_qxTexts.mono _ _ _
      | exact spec_DrawSetBoth.mono _ _
      | exact spec_SetAny.mono _ _ _
      | exact spec_SetBoth.mono _ _ _
      | exact spec_SetLess.mono _ _ _
      | exact spec_SetOk.mono _ _
      | exact LeO.none _
      | refine LeO.ite ?_ ?_
      | refine LeO.bind ?_ (fun _ => ?_)
theorem laws_FnSetBoth.mono : ∀ a0 k, LeO (laws_FnSetBoth.f k a0) (laws_FnSetBoth.f (k + 1) a0) := by
  intro a0 k
  obtain ⟨ih0, ih1, ih2, ih3⟩ := laws_FnSetBoth.mono_l k
  unfold laws_FnSetBoth.f
  repeat' first
      | (with_reducible exact ih0 _ _ _ _ _ _ _)
      | (with_reducible exact ih1 _ _ _ _ _ _ _)
      | (with_reducible exact ih2 _ _ _ _ _ _ _ _)
      | (with_reducible exact ih3 _ _ _ _ _ _ _ _)
      | (with_reducible exact impl_SetAny.mono _ _ _)
      | (with_reducible exact impl_SetBoth.mono _ _ _)
      | (with_reducible exact impl_SetLess.mono _ _ _)
      | (with_reducible exact laws_qxHas.mono _ _ _)
      | (with_reducible exact laws_qxTexts.mono _ _ _)
      | (with_reducible exact spec_DrawSetBoth.mono _ _)
      | (with_reducible exact spec_SetAny.mono _ _ _)
      | (with_reducible exact spec_SetBoth.mono _ _ _)
      | (with_reducible exact spec_SetLess.mono _ _ _)
      | (with_reducible exact spec_SetOk.mono _ _)
      | (with_reducible exact LeO.refl _)
      | (with_reducible exact LeO.none _)
      | (with_reducible refine LeO.ite ?_ ?_)
      | (with_reducible refine LeO.bind ?_ (fun _ => ?_))
      | exact ih0 _ _ _ _ _ _ _
      | exact ih1 _ _ _ _ _ _ _
      | exact ih2 _ _ _ _ _ _ _ _
      | exact ih3 _ _ _ _ _ _ _ _
      | exact impl_SetAny.mono _ _ _
      | exact impl_SetBoth.mono _ _ _
      | exact impl_SetLess.mono _ _ _
      | exact laws_qxHas.mono _ _ _
      | exact laws_qxTexts.mono _ _ _
      | exact spec_DrawSetBoth.mono _ _
      | exact spec_SetAny.mono _ _ _
      | exact spec_SetBoth.mono _ _ _
      | exact spec_SetLess.mono _ _ _
      | exact spec_SetOk.mono _ _
      | exact LeO.none _
      | refine LeO.ite ?_ ?_
      | refine LeO.bind ?_ (fun _ => ?_)

end Go.Proofs.Ytegelpeegbngiaa.P
-- Written by wip/px.py of this session, over the kit's print.py. Not trusted: Lean checks it.
namespace Go.Proofs.Ytegelpeegbngiaa.P
open Go.RowKit Go.Proofs.YtegelpeegbngiaaW.PrintWords Go.Proofs.YtegelpeegbngiaaW.PrintLast Go.Proofs.YtegelpeegbngiaaW.PrintMore
attribute [local go_sem] max2_int min2_int max_two min_two max_three min_three max_four min_four   -- for this text's walks alone
set_option linter.unusedVariables false
set_option linter.unusedSimpArgs false

/-! ### spec_FieldsOk: the walk -/
set_option maxHeartbeats 8000000 in
set_option maxRecDepth 100000 in
theorem spec_FieldsOk.calls (k : Nat) (A0 : Option Addr) (c0 : Nat) (l0 : List (S38)) (r : Bool) (w : World) (hr0 : Kd.C k38 w A0 l0.length l0) (hc0 : l0.length ≤ c0) (h : spec_FieldsOk.f k l0 = some r) :
    Calls Try.prog 31 #[.slice A0 l0.length c0] w fun e w' => e = .returned (.bool r) ∧ Drawn0 w w' := by
  have HR0 := Aside0.mk hr0
  have HC0 := Aside0.mk hc0
  clear hr0 hc0
  have H : (spec_FieldsOk.l0 k l0 0) = some r := h
  clear h
  have H' := Aside0.mk H
  clear H
  go_enter Try.func31, Try.ntmps31
  go_wp2
  repeat (go_quiet (fail); try go_wp2)
  go_loopg [3] k (fun kq v3 w' => ∃ (x3_1 : Int), v3 = .int .i64 x3_1 ∧ Aside0 (spec_FieldsOk.l0 kq l0 x3_1 = some r) ∧ Aside0 (kq ≤ k) ∧ Drawn0 w w')
  case atStart => exact ⟨(0), (by first | rfl | (simp; done) | (simp [*]; done)), H', ⟨Nat.le_refl _⟩, by repeat (first | exact Drawn0.refl _ | apply Drawn0.step)⟩
  case round =>
    clear H'
    obtain ⟨x3_1, rfl, HA, HK1, ⟨m1, rfl⟩⟩ := hrel
    cases gk with
    | zero => exact absurd HA.out (by simp [spec_FieldsOk.l0])
    | succ k1 =>
      have H := HA.out
      clear HA
      simp only [spec_FieldsOk.l0] at H
      by_cases c2 : x3_1 < (l0.length : Int)
      · rw [if_pos c2] at H
        have c2b0 : decide (x3_1 < (l0.length : Int)) = true := decide_eq_true c2
        clear c2
        by_cases c3 : 0 ≤ x3_1
        · rw [if_pos c3] at H
          have c3b0 : decide (0 ≤ x3_1) = true := decide_eq_true c3
          clear c3
          by_cases c4 : (((rd_T38 l0 x3_1).f0).size : Int) > 40
          · rw [if_pos c4] at H
            have c4b0 : decide (40 < (((rd_T38 l0 x3_1).f0).size : Int)) = true := decide_eq_true c4
            have c4b1 : decide (40 < ((rd_T38 l0 x3_1).f0).size) = true := decide_eq_true (by omega)
            clear c4
            obtain rfl := Option.some.inj H
            have p476 : 0 ≤ (x3_1 : Int) := of_decide_eq_true (by first | (with_reducible assumption) | assumption)
            have q476 : x3_1 < (l0.length : Int) := of_decide_eq_true (by first | (with_reducible assumption) | assumption)
            obtain ⟨ad476, e476, hx476_0, hx476_1⟩ := at_T38 HR0.out x3_1 p476 q476
            cases e476
            replace p476 := eq_true p476
            replace q476 := eq_true q476
            go_wp2
            repeat (go_quiet (fail); try go_wp2)
            go_ret
            exact ⟨by first | rfl | (simp; done) | (simp [*]; done), by repeat (first | exact Drawn0.refl _ | apply Drawn0.step)⟩
          · rw [if_neg c4] at H
            have c4b0 : decide (40 < (((rd_T38 l0 x3_1).f0).size : Int)) = false := decide_eq_false c4
            have c4b1 : decide (40 < ((rd_T38 l0 x3_1).f0).size) = false := decide_eq_false (by omega)
            clear c4
            by_cases c5 : (((rd_T38 l0 x3_1).f1).size : Int) > 40
            · rw [if_pos c5] at H
              have c5b0 : decide (40 < (((rd_T38 l0 x3_1).f1).size : Int)) = true := decide_eq_true c5
              have c5b1 : decide (40 < ((rd_T38 l0 x3_1).f1).size) = true := decide_eq_true (by omega)
              clear c5
              obtain rfl := Option.some.inj H
              have p476 : 0 ≤ (x3_1 : Int) := of_decide_eq_true (by first | (with_reducible assumption) | assumption)
              have q476 : x3_1 < (l0.length : Int) := of_decide_eq_true (by first | (with_reducible assumption) | assumption)
              obtain ⟨ad476, e476, hx476_0, hx476_1⟩ := at_T38 HR0.out x3_1 p476 q476
              cases e476
              replace p476 := eq_true p476
              replace q476 := eq_true q476
              have p477 : 0 ≤ (x3_1 : Int) := of_decide_eq_true (by first | (with_reducible assumption) | assumption)
              have q477 : x3_1 < (l0.length : Int) := of_decide_eq_true (by first | (with_reducible assumption) | assumption)
              obtain ⟨ad477, e477, hx477_0, hx477_1⟩ := at_T38 HR0.out x3_1 p477 q477
              obtain rfl : ad476 = ad477 := (by injection e477)
              replace p477 := eq_true p477
              replace q477 := eq_true q477
              go_wp2
              repeat (go_quiet (fail); try go_wp2)
              go_ret
              exact ⟨by first | rfl | (simp; done) | (simp [*]; done), by repeat (first | exact Drawn0.refl _ | apply Drawn0.step)⟩
            · rw [if_neg c5] at H
              have c5b0 : decide (40 < (((rd_T38 l0 x3_1).f1).size : Int)) = false := decide_eq_false c5
              have c5b1 : decide (40 < ((rd_T38 l0 x3_1).f1).size) = false := decide_eq_false (by omega)
              clear c5
              by_cases c6 : x3_1 > 0
              · rw [if_pos c6] at H
                have c6b0 : decide (0 < x3_1) = true := decide_eq_true c6
                clear c6
                obtain ⟨ji7, hji7⟩ : ∃ j_ : Int, (wrap64 (x3_1 - 1)) = j_ := ⟨_, rfl⟩
                replace H : (if 0 ≤ (ji7) then (if (ji7) < (l0.length : Int) then (if ((Op.bytesLess (((rd_T38 l0 (ji7)).f0).toList) (((rd_T38 l0 x3_1).f0).toList)) = true) then (spec_FieldsOk.l0 k1 l0 (wrap64 (x3_1 + 1))) else (some false)) else (none)) else (none)) = some r := by first | (rw [hji7] at H; exact H) | (simp only [hji7] at H ⊢; exact H)
                have hji7w : (IntKind.i64.wrap (x3_1 - 1)) = ji7 := (i64_w _).trans hji7
                by_cases c8 : 0 ≤ (ji7)
                · rw [if_pos c8] at H
                  have c8b0 : decide (0 ≤ (ji7)) = true := decide_eq_true c8
                  clear c8
                  by_cases c9 : (ji7) < (l0.length : Int)
                  · rw [if_pos c9] at H
                    have c9b0 : decide ((ji7) < (l0.length : Int)) = true := decide_eq_true c9
                    clear c9
                    by_cases c10 : ((Op.bytesLess (((rd_T38 l0 (ji7)).f0).toList) (((rd_T38 l0 x3_1).f0).toList)) = true)
                    · rw [if_pos c10] at H
                      have c10b0 : (Op.bytesLess (((rd_T38 l0 (ji7)).f0).toList) (((rd_T38 l0 x3_1).f0).toList)) = true := c10
                      clear c10
                      have H' := Aside0.mk H
                      clear H
                      have p476 : 0 ≤ (x3_1 : Int) := of_decide_eq_true (by first | (with_reducible assumption) | assumption)
                      have q476 : x3_1 < (l0.length : Int) := of_decide_eq_true (by first | (with_reducible assumption) | assumption)
                      obtain ⟨ad476, e476, hx476_0, hx476_1⟩ := at_T38 HR0.out x3_1 p476 q476
                      cases e476
                      replace p476 := eq_true p476
                      replace q476 := eq_true q476
                      have p477 : 0 ≤ (x3_1 : Int) := of_decide_eq_true (by first | (with_reducible assumption) | assumption)
                      have q477 : x3_1 < (l0.length : Int) := of_decide_eq_true (by first | (with_reducible assumption) | assumption)
                      obtain ⟨ad477, e477, hx477_0, hx477_1⟩ := at_T38 HR0.out x3_1 p477 q477
                      obtain rfl : ad476 = ad477 := (by injection e477)
                      replace p477 := eq_true p477
                      replace q477 := eq_true q477
                      have p478 : 0 ≤ ((ji7) : Int) := of_decide_eq_true (by first | (with_reducible assumption) | assumption)
                      have q478 : (ji7) < (l0.length : Int) := of_decide_eq_true (by first | (with_reducible assumption) | assumption)
                      obtain ⟨ad478, e478, hx478_0, hx478_1⟩ := at_T38 HR0.out (ji7) p478 q478
                      obtain rfl : ad476 = ad478 := (by injection e478)
                      replace p478 := eq_true p478
                      replace q478 := eq_true q478
                      have p479 : 0 ≤ (x3_1 : Int) := of_decide_eq_true (by first | (with_reducible assumption) | assumption)
                      have q479 : x3_1 < (l0.length : Int) := of_decide_eq_true (by first | (with_reducible assumption) | assumption)
                      obtain ⟨ad479, e479, hx479_0, hx479_1⟩ := at_T38 HR0.out x3_1 p479 q479
                      obtain rfl : ad476 = ad479 := (by injection e479)
                      replace p479 := eq_true p479
                      replace q479 := eq_true q479
                      go_wp2
                      repeat (go_quiet (fail); try go_wp2)
                      go_roundg k1
                      case measure => have := HK1.out; omega
                      case rel => exact ⟨(wrap64 (x3_1 + 1)), (by first | rfl | (simp; done) | (simp [*]; done)), H', ⟨by have := HK1.out; omega⟩, by repeat (first | exact Drawn0.refl _ | apply Drawn0.step)⟩
                    · rw [if_neg c10] at H
                      have c10b0 : (Op.bytesLess (((rd_T38 l0 (ji7)).f0).toList) (((rd_T38 l0 x3_1).f0).toList)) = false := by simpa using c10
                      clear c10
                      obtain rfl := Option.some.inj H
                      have p476 : 0 ≤ (x3_1 : Int) := of_decide_eq_true (by first | (with_reducible assumption) | assumption)
                      have q476 : x3_1 < (l0.length : Int) := of_decide_eq_true (by first | (with_reducible assumption) | assumption)
                      obtain ⟨ad476, e476, hx476_0, hx476_1⟩ := at_T38 HR0.out x3_1 p476 q476
                      cases e476
                      replace p476 := eq_true p476
                      replace q476 := eq_true q476
                      have p477 : 0 ≤ (x3_1 : Int) := of_decide_eq_true (by first | (with_reducible assumption) | assumption)
                      have q477 : x3_1 < (l0.length : Int) := of_decide_eq_true (by first | (with_reducible assumption) | assumption)
                      obtain ⟨ad477, e477, hx477_0, hx477_1⟩ := at_T38 HR0.out x3_1 p477 q477
                      obtain rfl : ad476 = ad477 := (by injection e477)
                      replace p477 := eq_true p477
                      replace q477 := eq_true q477
                      have p478 : 0 ≤ ((ji7) : Int) := of_decide_eq_true (by first | (with_reducible assumption) | assumption)
                      have q478 : (ji7) < (l0.length : Int) := of_decide_eq_true (by first | (with_reducible assumption) | assumption)
                      obtain ⟨ad478, e478, hx478_0, hx478_1⟩ := at_T38 HR0.out (ji7) p478 q478
                      obtain rfl : ad476 = ad478 := (by injection e478)
                      replace p478 := eq_true p478
                      replace q478 := eq_true q478
                      have p479 : 0 ≤ (x3_1 : Int) := of_decide_eq_true (by first | (with_reducible assumption) | assumption)
                      have q479 : x3_1 < (l0.length : Int) := of_decide_eq_true (by first | (with_reducible assumption) | assumption)
                      obtain ⟨ad479, e479, hx479_0, hx479_1⟩ := at_T38 HR0.out x3_1 p479 q479
                      obtain rfl : ad476 = ad479 := (by injection e479)
                      replace p479 := eq_true p479
                      replace q479 := eq_true q479
                      go_wp2
                      repeat (go_quiet (fail); try go_wp2)
                      go_ret
                      exact ⟨by first | rfl | (simp; done) | (simp only [← hji7] <;> (first | rfl | simp)) | (simp [*]; done), by repeat (first | exact Drawn0.refl _ | apply Drawn0.step)⟩
                  · rw [if_neg c9] at H
                    exact absurd H (by simp)
                · rw [if_neg c8] at H
                  exact absurd H (by simp)
              · rw [if_neg c6] at H
                have c6b0 : decide (0 < x3_1) = false := decide_eq_false c6
                clear c6
                have H' := Aside0.mk H
                clear H
                have p476 : 0 ≤ (x3_1 : Int) := of_decide_eq_true (by first | (with_reducible assumption) | assumption)
                have q476 : x3_1 < (l0.length : Int) := of_decide_eq_true (by first | (with_reducible assumption) | assumption)
                obtain ⟨ad476, e476, hx476_0, hx476_1⟩ := at_T38 HR0.out x3_1 p476 q476
                cases e476
                replace p476 := eq_true p476
                replace q476 := eq_true q476
                have p477 : 0 ≤ (x3_1 : Int) := of_decide_eq_true (by first | (with_reducible assumption) | assumption)
                have q477 : x3_1 < (l0.length : Int) := of_decide_eq_true (by first | (with_reducible assumption) | assumption)
                obtain ⟨ad477, e477, hx477_0, hx477_1⟩ := at_T38 HR0.out x3_1 p477 q477
                obtain rfl : ad476 = ad477 := (by injection e477)
                replace p477 := eq_true p477
                replace q477 := eq_true q477
                go_wp2
                repeat (go_quiet (fail); try go_wp2)
                go_roundg k1
                case measure => have := HK1.out; omega
                case rel => exact ⟨(wrap64 (x3_1 + 1)), (by first | rfl | (simp; done) | (simp [*]; done)), H', ⟨by have := HK1.out; omega⟩, by repeat (first | exact Drawn0.refl _ | apply Drawn0.step)⟩
        · rw [if_neg c3] at H
          exact absurd H (by simp)
      · rw [if_neg c2] at H
        have c2b0 : decide (x3_1 < (l0.length : Int)) = false := decide_eq_false c2
        clear c2
        obtain rfl := Option.some.inj H
        go_wp2
        repeat (go_quiet (fail); try go_wp2)
        go_ret
        exact ⟨by first | rfl | (simp; done) | (simp [*]; done), by repeat (first | exact Drawn0.refl _ | apply Drawn0.step)⟩

end Go.Proofs.Ytegelpeegbngiaa.P
