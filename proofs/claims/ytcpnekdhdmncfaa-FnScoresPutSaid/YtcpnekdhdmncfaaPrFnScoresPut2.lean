import Derived.Test.YtcpnekdhdmncfaaPrFnScoresPut1
import Derived.Lib.SliceRun
import Derived.Deep.RegionLaw
import Derived.Laws.IdiomCopy
import Derived.Sort.Row
import Derived.Sort.Grow
import Derived.Lib.OwnBridge
import Derived.Shelf.SlSortCmp.WholeK
import Derived.Test.YtcpnekdhdmncfaaProg
import Derived.Below
import Derived.Deep.Draws
import Derived.Deep.AppendLies
import Derived.Maps.AppendAt
import Derived.OwnWalk
import Derived.Laws.BytesArg
import Derived.Laws.MakeOwn
import Derived.Laws.OwnMore
import Derived.Deep.OwnRows
import Derived.Tactics
import Derived.Lib.ConvBytes
import Derived.Laws.Slices
import Derived.WalkKit
import Derived.KernelRfl
import Derived.RowKit3
import Derived.Deep.LoopGhost
import Derived.Deep.QuietTactic
import Derived.BigQuiet
import Derived.WideLaws
import Derived.Deep.DeepCutAuto
import Derived.Deep.CutBlock
import Derived.Deep.RegionHeld3
import Derived.Laws.Rows
import Derived.Lib.AppendStr
import Derived.ArgAppend
import Derived.OrdersHeld
import Derived.Laws.BitsLemmas
import Derived.RowKit
import Derived.WalkLawsBesides
/- Texts of this claim, one behind the other: words on worlds and rows, printed functions and their walks, plain lemmas. -/
namespace Go.Proofs.Ytcpnekdhdmncfaa.X
open Go.RowKit Go.Proofs.YtcpnekdhdmncfaaW.PrintWords Go.Proofs.YtcpnekdhdmncfaaW.PrintLast
theorem clear_tail {α : Type} (d : Kd α) {P : Program} {W : World} {base : Nat} {t e : TypeId} {z : Value} (ht : P.underlying t = some (.slice e)) (hv : ∀ w, (zeroValue e).run P w = .ok z w) (hzs : z.cells.size = d.sz) (hpos : 0 < d.sz) (h1 : ∀ u ∈ z.cells.toList, u.oneCell' = true)
    {g n m c c2 : Nat} {xs : List α} {ok : Nat → Prop} (HO : d.R e W base ok (.slice (some ⟨g, 0, none⟩) n c) xs) (hm : 0 < m) (hc : n + m ≤ c) (ty : TypeId) :
    ∃ w1, (Builtin.clear_ #[t] ty #[.slice (some ⟨g, n * d.sz, none⟩) m c2]).run P W = .ok (.tuple #[]) w1 ∧ d.R e w1 base ok (.slice (some ⟨g, 0, none⟩) n c) xs ∧ W.grownBy w1 (some g) := by
  obtain ⟨hn, hnc, _⟩ := Kd.R_reads' HO
  obtain ⟨hok, inner, hown, hr⟩ := HO
  rcases hown.2 with ⟨hv', _⟩ | ⟨g', cap', cur, hv', hb, hh, hle, hcm, hcs, htake⟩
  · cases hv'
  injection hv' with ha _ hc'
  injection ha with ha
  injection ha with hg
  subst hg; subst hc'
  obtain ⟨zs, hzs'⟩ : ∃ zs, zs = (Builtin.zeroCells z.cells m).toList := ⟨_, rfl⟩
  have hzl : zs.length = m * d.sz := by rw [hzs', Array.length_toList]; simp [Builtin.zeroCells, hzs]
  have hz1 : ∀ u ∈ zs, u.oneCell' = true := by
    intro u hu
    rw [hzs'] at hu
    simp only [Builtin.zeroCells, Array.toList_map, List.mem_map] at hu
    obtain ⟨j, _, rfl⟩ := hu
    have hj : j % z.cells.size < z.cells.size := Nat.mod_lt _ (by omega)
    rw [getElem!_pos z.cells _ hj]
    exact h1 _ (by rw [Array.mem_toList_iff]; exact Array.getElem_mem hj)
  have hmul : (n + m) * d.sz ≤ c * d.sz := Nat.mul_le_mul_right _ hc
  have hadd : (n + m) * d.sz = n * d.sz + m * d.sz := Nat.add_mul _ _ _
  have hst := run_storeCells_cells (P := P) g (n * d.sz) zs 0 W (fun j hj => by rw [cell_of_row W g _ cur e (0, 0) hh]; simp; omega) (fun j _ => blk_frozen hh _) hz1
  rw [Nat.add_zero] at hst
  obtain ⟨cur', h3, h4, h5⟩ := setCells_row zs (n * d.sz) W cur hh (by omega)
  obtain ⟨s1, s2, s3, s4⟩ := setCells_same g zs (n * d.sz) W
  have hfar : ∀ k', k' ≠ g → (W.setCells g (n * d.sz) zs).heap[k']? = W.heap[k']? := fun k' hk' => setCells_far zs _ k' hk'
  have hrun : (Builtin.clear_ #[t] ty #[.slice (some ⟨g, n * d.sz, none⟩) m c2]).run P W = .ok (.tuple #[]) (W.setCells g (n * d.sz) zs) := by
    obtain ⟨q, rfl⟩ : ∃ q, m = q + 1 := ⟨m - 1, by omega⟩
    simp [Builtin.clear_, run_underlying ht, hv, ← hzs', hst]
  refine ⟨_, hrun, ⟨hok, inner, ⟨hown.1, .inr ⟨g, c, cur', by rw [← hn], hb, h3, by omega, hcm, by rw [h4, hcs], ?_⟩⟩, ?_⟩, ⟨s1, s2, s3, by rw [s4]; exact Nat.le_refl _, fun k' _ hk' => hfar k' (fun he => hk' (by rw [he]))⟩⟩
  · rw [← hn] at htake ⊢
    rw [h5, List.append_assoc, List.take_append_of_le_length (by rw [List.length_take, Array.length_toList]; omega), List.take_take, Nat.min_self, htake]
  · have hgo : some g = (Value.slice (some ⟨g, 0, none⟩) n c).ownBlock := by simp [Value.ownBlock]
    exact hr.imp_ (fun p q hp => d.M_move (fun k' hk' => hfar k' (fun he => hk'.2 (by rw [he, hgo]))) hp)
theorem bl_self (a : List UInt8) : Op.bytesLess a a = false := by
  induction a with
  | nil => rfl
  | cons x r ih => simp [Op.bytesLess, ih]
theorem bl_same (a : List UInt8) : ∀ (b : List UInt8), Op.bytesLess a b = false → Op.bytesLess b a = false → a = b := by
  induction a with
  | nil =>
    intro b h _
    cases b with
    | nil => rfl
    | cons y b => simp [Op.bytesLess] at h
  | cons x a ih =>
    intro b h h'
    cases b with
    | nil => simp [Op.bytesLess] at h'
    | cons y b =>
      simp only [Op.bytesLess, Bool.or_eq_false_iff, Bool.and_eq_false_iff, decide_eq_false_iff_not, beq_eq_false_iff_ne] at h h'
      obtain rfl : x = y := UInt8.le_antisymm (UInt8.not_lt.1 h'.1) (UInt8.not_lt.1 h.1)
      rw [ih b (by simpa using h.2) (by simpa using h'.2)]
theorem bl_ne {a b : ByteArray} (h : Op.bytesLess b.toList a.toList = true) : (a.toList == b.toList) = false := by
  rw [beq_eq_false_iff_ne]
  intro e
  rw [e, bl_self] at h
  cases h
theorem bl_eq {a b : ByteArray} (h : Op.bytesLess a.toList b.toList = false) (h' : Op.bytesLess b.toList a.toList = false) : (a.toList == b.toList) = true := by
  rw [bl_same _ _ h h']
  exact beq_self_eq_true _
end Go.Proofs.Ytcpnekdhdmncfaa.X
namespace Go.Proofs.Ytcpnekdhdmncfaa.X
open Go.RowKit Go.Proofs.YtcpnekdhdmncfaaW.PrintWords Go.Proofs.YtcpnekdhdmncfaaW.PrintLast
theorem grow_below (W : World) (os : Array Obj) : Below W.heap.size W (Go.Sort.grow W os) :=
  ⟨rfl, rfl, rfl, by simp [Go.Sort.grow], fun k hk => by simp [Go.Sort.grow, Array.getElem?_append_left hk]⟩
theorem kept_put0 {α : Type} [Inhabited α] {enc : α → Value} {w : World} {n g : Nat} {d : Array α} (P : Nat → Prop) (hP : P g) : Kept w (Go.Sort.putRow enc (Go.Sort.ahead w n) g 0 d) (fun k => P k) :=
  ⟨by simp [Go.Sort.putRow, Go.Sort.mapBlock, Go.Sort.ahead], fun i _ hn => by
    have : g ≠ i := fun e => hn (e ▸ hP)
    simp [Go.Sort.putRow, Go.Sort.mapBlock, Go.Sort.ahead, Array.getElem?_modify, this]⟩
theorem kept_put {α : Type} [Inhabited α] {enc : α → Value} {w : World} {n g : Nat} {d : Array α} {os : Array Obj} (P : Nat → Prop) (hP : P g) : Kept w (Go.Sort.grow (Go.Sort.putRow enc (Go.Sort.ahead w n) g 0 d) os) (fun k => P k) :=
  (kept_put0 (enc := enc) (d := d) P hP).below (grow_below _ os)
end Go.Proofs.Ytcpnekdhdmncfaa.X
namespace Go.Proofs.Ytcpnekdhdmncfaa.X
open Go.RowKit Go.Sort Go.Proofs.YtcpnekdhdmncfaaW.PrintWords Go.Proofs.YtcpnekdhdmncfaaW.PrintLast
theorem holds_flat {w : World} {base : Nat} {e : TypeId} {sz : Nat} {v : Value} {n : Nat} {inner : List Value} (h : w.ownsRow base e sz v n inner) (hv : v ≠ .slice none 0 0) :
    ∃ g cap, v = .slice (some ⟨g, 0, none⟩) n cap ∧ base ≤ g ∧ g < w.heap.size ∧ n ≤ cap ∧ cap ≤ maxLen ∧ inner.length = n * sz ∧ Holds id w g 0 inner.toArray := by
  have hl : inner.length = n * sz := h.1
  rcases h.2 with ⟨e0, _⟩ | ⟨g, cap, cur, rfl, hb, hg, hn, hm, hs, ht⟩
  · exact absurd e0 hv
  · have hlt : g < w.heap.size := by
      rcases Nat.lt_or_ge g w.heap.size with h' | h'
      · exact h'
      · rw [Array.getElem?_eq_none h'] at hg; cases hg
    refine ⟨g, cap, rfl, hb, hlt, hn, hm, hl, fun j hj => ?_⟩
    have hj' : j < inner.length := by simpa using hj
    refine ⟨?_, by simp [World.frozen?, hg]⟩
    have e1 : (cur.toList.take (n * sz))[j]? = inner[j]? := by rw [ht]
    rw [List.getElem?_take, if_pos (by omega), Array.getElem?_toList, List.getElem?_eq_getElem hj'] at e1
    simp only [World.cell?, hg, Nat.zero_add]
    simp only [Option.isSome_none, Bool.false_eq_true, if_false]
    rw [e1]
    simp [getElem!_pos, hj']
theorem owns_flat {w : World} {base : Nat} {e : TypeId} {g n cap q sz : Nat} {inner ys : List Value} (h : w.ownsRow base e sz (.slice (some ⟨g, 0, none⟩) n cap) n inner) (hy : ys.length = n * sz) :
    (putRow id (Sort.ahead w q) g 0 ys.toArray).ownsRow base e sz (.slice (some ⟨g, 0, none⟩) n cap) n ys := by
  rcases h.2 with ⟨e0, _⟩ | ⟨g', cap', cur, e0, hb, hg, hn, hm, hs, ht⟩
  · cases e0
  · injection e0 with e1 _ e3
    injection e1 with e1
    injection e1 with e1
    subst e1; subst e3
    have hle : n * sz ≤ cap * sz := Nat.mul_le_mul_right _ hn
    refine ⟨hy, .inr ⟨g, cap, putCells id 0 ys.toArray cur, rfl, hb, ?_, hn, hm, by simpa [putCells] using hs, ?_⟩⟩
    · simp [putRow, mapBlock, Sort.ahead, Array.getElem?_modify, hg, onCells]
    · apply List.ext_getElem?
      intro j
      rw [List.getElem?_take, Array.getElem?_toList]
      by_cases hj : j < n * sz
      · have hjc : j < cur.size := by omega
        simp only [if_pos hj, putCells, Array.getElem?_mapIdx, Array.getElem?_eq_getElem hjc, Option.map_some]
        rw [if_pos (by simp; omega), List.getElem?_eq_getElem (by omega)]
        simp [getElem!_pos, show j < ys.length by omega]
      · rw [if_neg hj, List.getElem?_eq_none (by omega)]
end Go.Proofs.Ytcpnekdhdmncfaa.X
namespace Go.Proofs.Ytcpnekdhdmncfaa.X
open Go.RowKit Go.Sort Go.Proofs.YtcpnekdhdmncfaaW.PrintWords Go.Proofs.YtcpnekdhdmncfaaW.PrintLast
section
variable {α : Type} [Inhabited α] {enc : α → List Value} {k : Nat} {R : α → List Value → Prop}
theorem flat_of_reps (hk : ∀ x, (enc x).length = k) (hpos : 0 < k) (hM : ∀ x cs, R x cs → cs = enc x) {xs : List α} {inner : List Value} (h : Reps R k xs inner) : inner.toArray = flatK enc k xs.toArray := by
  refine ext_get! (by simp [h.1]) fun t ht => ?_
  have ht' : t < xs.length * k := by simpa [h.1] using ht
  rw [get_flatK _ _ _ t (by simpa using ht')]
  have hj : t / k < xs.length := Nat.div_lt_of_lt_mul (by rw [Nat.mul_comm]; exact ht')
  have h2 := hM _ _ (h.2 (t / k) _ (List.getElem?_eq_getElem hj))
  have hm : t % k < k := Nat.mod_lt _ hpos
  have e1 : inner[t]? = (enc xs[t / k])[t % k]? := by
    rw [← h2, List.getElem?_take, if_pos hm, List.getElem?_drop, Nat.div_add_mod']
  have e2 : xs.toArray[t / k]! = xs[t / k] := by simp [hj]
  have hlt : t % k < (enc xs[t / k]).length := by rw [hk]; exact hm
  have hlt' : t < inner.length := by rw [h.1]; exact ht'
  rw [e2]
  rw [List.getElem?_eq_getElem hlt', List.getElem?_eq_getElem hlt] at e1
  injection e1 with e1
  simp [hlt', e1, hlt]
theorem reps_of_flat (hk : ∀ x, (enc x).length = k) (hR : ∀ x, R x (enc x)) (xs : List α) : Reps R k xs (flatK enc k xs.toArray).toList := by
  refine ⟨by simp, fun j p hp => ?_⟩
  obtain ⟨hj, hp⟩ := List.getElem?_eq_some_iff.1 hp
  have e : (((flatK enc k xs.toArray).toList.drop (j * k)).take k) = enc p := by
    apply List.ext_getElem?
    intro t
    rw [List.getElem?_take]
    split
    · rename_i ht
      have hle : j * k + k ≤ xs.length * k := by rw [← Nat.succ_mul]; exact Nat.mul_le_mul_right _ hj
      have hs : j * k + t < (flatK enc k xs.toArray).size := by simp; omega
      have hg := get_flatK enc k xs.toArray (j * k + t) (by simp; omega)
      rw [getElem!_pos (flatK enc k xs.toArray) (j * k + t) hs] at hg
      have hd : (j * k + t) / k = j := by rw [Nat.mul_comm, Nat.mul_add_div (by omega), Nat.div_eq_of_lt ht, Nat.add_zero]
      have hmo : (j * k + t) % k = t := by rw [Nat.mul_comm, Nat.mul_add_mod, Nat.mod_eq_of_lt ht]
      have e2 : xs.toArray[j]! = p := by simp [hj, hp]
      have hlt : t < (enc p).length := by rw [hk]; exact ht
      rw [hd, hmo, e2, getElem!_pos (enc p) t hlt] at hg
      rw [List.getElem?_drop, Array.getElem?_toList, Array.getElem?_eq_getElem hs, hg, List.getElem?_eq_getElem hlt]
    · rw [List.getElem?_eq_none (by rw [hk]; omega)]
  rw [e]
  exact hR p
end
theorem sort_row {α : Type} [Inhabited α] {d : Kd α} {enc : α → List Value} (hk : ∀ x, (enc x).length = d.sz) (hpos : 0 < d.sz) (hM : ∀ w base ok x cs, d.M w base ok x cs ↔ cs = enc x)
    {w : World} {base : Nat} {e : TypeId} {ok : Nat → Prop} {v : Value} {xs : List α} (HO : Kd.R d e w base ok v xs) (hv : v ≠ .slice none 0 0) :
    ∃ g cap, v = .slice (some ⟨g, 0, none⟩) xs.length cap ∧ base ≤ g ∧ g < w.heap.size ∧ ok g ∧ HoldsK enc d.sz w g 0 xs.toArray ∧
      ∀ (q : Nat) (ys : List α), ys.length = xs.length → Kd.R d e (putRowK enc d.sz (Sort.ahead w q) g 0 ys.toArray) base ok v ys := by
  obtain ⟨hok, inner, hown, hr⟩ := HO
  obtain ⟨g, cap, rfl, hb, hlt, hn, hm, hl, hH⟩ := holds_flat hown hv
  have hfl := flat_of_reps hk hpos (fun x cs h => (hM _ _ _ x cs).1 h) hr
  refine ⟨g, cap, rfl, hb, hlt, hok g (by simp [Value.ownBlock]), by unfold HoldsK; rw [← hfl]; exact hH, fun q ys hy => ⟨hok, (flatK enc d.sz ys.toArray).toList, ?_, reps_of_flat hk (fun x => (hM _ _ _ x _).2 rfl) ys⟩⟩
  have := owns_flat (q := q) (ys := (flatK enc d.sz ys.toArray).toList) hown (by simp [hy])
  rw [hy]
  simpa [putRowK] using this
theorem sorted_eq {α : Type} [Inhabited α] {lt : α → α → Bool} (hO : SWO lt) {l : List α} {d' : Array α} (hp : PermIn 0 l.toArray.size l.toArray d') (hs : SortedIn lt 0 l.toArray.size d') (hT : ∀ x ∈ l, ∀ y ∈ l, lt x y = false → lt y x = false → x = y) :
    d'.toList = l.mergeSort fun x y => !lt y x := by
  obtain ⟨h1, _, h3⟩ := hp
  have hpm : d'.toList.Perm l := by
    have e1 : d'.extract 0 l.toArray.size = d' := by rw [← h1]; simp
    have e2 : l.toArray.extract 0 l.toArray.size = l.toArray := by simp
    rw [e1, e2] at h3
    simpa using h3
  have hpw : d'.toList.Pairwise fun x y => (!lt y x) = true := by
    rw [List.pairwise_iff_getElem]
    intro i j hi hj hij
    have hj' : j < d'.size := by simpa using hj
    have := hs i j (Nat.zero_le _) hij (by rw [← h1]; exact hj')
    rw [getElem!_pos d' j hj', getElem!_pos d' i (by omega)] at this
    simp [this]
  have htr : ∀ a b c : α, (!lt b a) = true → (!lt c b) = true → (!lt c a) = true := fun a b c h h' => by
    simp only [Bool.not_eq_true'] at h h' ⊢
    exact hO.ntrans c b a h' h
  have hto : ∀ a b : α, ((!lt b a) || (!lt a b)) = true := fun a b => by
    cases h : lt b a with
    | false => rfl
    | true =>
      cases h' : lt a b with
      | false => rfl
      | true => have := hO.trans _ _ _ h h'; rw [hO.irrefl] at this; cases this
  refine List.Perm.eq_of_pairwise (le := fun x y => (!lt y x) = true) (fun a b ha hb h h' => ?_) hpw (List.pairwise_mergeSort htr hto l) (hpm.trans (List.mergeSort_perm l _).symm)
  simp only [Bool.not_eq_true'] at h h'
  exact hT a (hpm.mem_iff.1 ha) b ((List.mergeSort_perm l _).mem_iff.1 hb) h' h
theorem bl_trans (a : List UInt8) : ∀ (b c : List UInt8), Op.bytesLess a b = true → Op.bytesLess b c = true → Op.bytesLess a c = true := by
  induction a with
  | nil =>
    intro b c h1 h2
    cases c with
    | nil => cases b <;> simp [Op.bytesLess] at h2
    | cons z c => rfl
  | cons x a ih =>
    intro b c h1 h2
    cases b with
    | nil => simp [Op.bytesLess] at h1
    | cons y b =>
      cases c with
      | nil => simp [Op.bytesLess] at h2
      | cons z c =>
        simp only [Op.bytesLess, Bool.or_eq_true, Bool.and_eq_true, decide_eq_true_eq, beq_iff_eq] at h1 h2 ⊢
        rcases h1 with h1 | ⟨rfl, h1⟩
        · rcases h2 with h2 | ⟨rfl, h2⟩
          · exact .inl (UInt8.lt_trans h1 h2)
          · exact .inl h1
        · rcases h2 with h2 | ⟨rfl, h2⟩
          · exact .inl h2
          · exact .inr ⟨rfl, ih b c h1 h2⟩
theorem bl_ntrans (a b c : List UInt8) (h : Op.bytesLess a b = false) (h' : Op.bytesLess b c = false) : Op.bytesLess a c = false := by
  cases q : Op.bytesLess a c with
  | false => rfl
  | true =>
    cases r : Op.bytesLess b a with
    | true => have := bl_trans _ _ _ r q; rw [h'] at this; cases this
    | false => rw [bl_same _ _ h r, h'] at q; cases q
theorem swo_num {α : Type} (n : α → Int) (f : α → ByteArray) : SWO (fun x y => decide (n x < n y) || (decide (n x = n y) && Op.bytesLess (f x).toList (f y).toList)) := by
  refine ⟨fun x => by simp [bl_self], fun x y z h h' => ?_, fun x y z h h' => ?_⟩
  · simp only [Bool.or_eq_true, Bool.and_eq_true, decide_eq_true_eq] at h h' ⊢
    rcases h with h | ⟨h, g⟩ <;> rcases h' with h' | ⟨h', g'⟩
    · left; omega
    · left; omega
    · left; omega
    · right; exact ⟨by omega, bl_trans _ _ _ g g'⟩
  · simp only [Bool.or_eq_false_iff, decide_eq_false_iff_not] at h h' ⊢
    refine ⟨by omega, ?_⟩
    by_cases e : n x = n z
    · have e1 : n x = n y := by omega
      have e2 : n y = n z := by omega
      have a := h.2
      have b := h'.2
      rw [decide_eq_true e1, Bool.true_and] at a
      rw [decide_eq_true e2, Bool.true_and] at b
      rw [bl_ntrans _ _ _ a b, Bool.and_false]
    · rw [decide_eq_false e, Bool.false_and]
theorem bytes_inj {a b : ByteArray} (h : a.toList = b.toList) : a = b := by
  rw [ByteArray.toList_eq, ByteArray.toList_eq] at h
  cases a with
  | mk x => cases b with
    | mk y =>
      congr
      exact Array.toList_inj.1 h
end Go.Proofs.Ytcpnekdhdmncfaa.X
namespace Go.Proofs
open Go.Shelf
def Try.laysSort_ren : Go.Shelf.Ren := ⟨fun | 6 => 61 | 15 => 73 | 14 => 72 | 28 => 85 | 29 => 86 | 20 => 77 | 21 => 78 | 22 => 79 | 23 => 80 | 24 => 81 | 25 => 82 | 26 => 83 | 27 => 84 | 46 => 87 | 47 => 88 | 48 => 89 | 49 => 90 | 50 => 91 | 57 => 92 | n => n, fun | 22 => 25 | 24 => 40 | 25 => 57 | 3 => 3 | 39 => 86 | 0 => 0 | 53 => 97 | 55 => 99 | 4 => 4 | 46 => 90 | 45 => 89 | 50 => 94 | 5 => 5 | 9 => 9 | 66 => 100 | 70 => 104 | 76 => 106 | 77 => 61 | n => n, fun | n => n⟩
theorem Try.laysSort : Go.Proofs.SlLaysF0.n6 Try.prog Try.laysSort_ren := {
  mixed := by kernel_rfl
  f6 := ⟨Try.f61.name, by decide, Try.func61.trans (congrArg some (by kernel_rfl))⟩
  f14 := ⟨Try.f72.name, by decide, Try.func72.trans (congrArg some (by kernel_rfl))⟩
  f15 := Try.func73.trans (congrArg some (by kernel_rfl))
  f20 := ⟨Try.f77.name, by decide, Try.func77.trans (congrArg some (by kernel_rfl))⟩
  f21 := ⟨Try.f78.name, by decide, Try.func78.trans (congrArg some (by kernel_rfl))⟩
  f22 := ⟨Try.f79.name, by decide, Try.func79.trans (congrArg some (by kernel_rfl))⟩
  f23 := ⟨Try.f80.name, by decide, Try.func80.trans (congrArg some (by kernel_rfl))⟩
  f24 := ⟨Try.f81.name, by decide, Try.func81.trans (congrArg some (by kernel_rfl))⟩
  f25 := ⟨Try.f82.name, by decide, Try.func82.trans (congrArg some (by kernel_rfl))⟩
  f26 := ⟨Try.f83.name, by decide, Try.func83.trans (congrArg some (by kernel_rfl))⟩
  f27 := ⟨Try.f84.name, by decide, Try.func84.trans (congrArg some (by kernel_rfl))⟩
  f28 := Try.func85.trans (congrArg some (by kernel_rfl))
  f29 := Try.func86.trans (congrArg some (by kernel_rfl))
  f46 := ⟨Try.f87.name, by decide, Try.func87.trans (congrArg some (by kernel_rfl))⟩
  f47 := Try.func88.trans (congrArg some (by kernel_rfl))
  f48 := Try.func89.trans (congrArg some (by kernel_rfl))
  f49 := ⟨Try.f90.name, by decide, Try.func90.trans (congrArg some (by kernel_rfl))⟩
  f50 := ⟨Try.f91.name, by decide, Try.func91.trans (congrArg some (by kernel_rfl))⟩
  f57 := ⟨Try.f92.name, by decide, Try.func92.trans (congrArg some (by kernel_rfl))⟩
  t0 := Try.underlying0
  a0 := Try.isAgg0
  z0 := Try.sizeOf0
  v0 := Try.zeroValue0
  t3 := Try.underlying3
  a3 := Try.isAgg3
  z3 := Try.sizeOf3
  v3 := Try.zeroValue3
  t4 := Try.underlying4
  a4 := Try.isAgg4
  z4 := Try.sizeOf4
  v4 := Try.zeroValue4
  t5 := Try.underlying5
  a5 := Try.isAgg5
  z5 := Try.sizeOf5
  v5 := Try.zeroValue5
  t9 := Try.underlying9
  a9 := Try.isAgg9
  z9 := Try.sizeOf9
  v9 := Try.zeroValue9
  t22 := Try.underlying25
  a22 := Try.isAgg25
  z22 := Try.sizeOf25
  v22 := Try.zeroValue25
  t25 := Try.underlying57
  a25 := Try.isAgg57
  z25 := Try.sizeOf57
  v25 := Try.zeroValue57
  t39 := Try.underlying86
  a39 := Try.isAgg86
  z39 := Try.sizeOf86
  v39 := Try.zeroValue86
  t45 := Try.underlying89
  a45 := Try.isAgg89
  z45 := Try.sizeOf89
  v45 := Try.zeroValue89
  t46 := Try.underlying90
  a46 := Try.isAgg90
  z46 := Try.sizeOf90
  v46 := Try.zeroValue90
  t50 := Try.underlying94
  a50 := Try.isAgg94
  z50 := Try.sizeOf94
  v50 := Try.zeroValue94
  t53 := Try.underlying97
  a53 := Try.isAgg97
  z53 := Try.sizeOf97
  v53 := Try.zeroValue97
  t55 := Try.underlying99
  a55 := Try.isAgg99
  z55 := Try.sizeOf99
  v55 := Try.zeroValue99
  t66 := Try.underlying100
  a66 := Try.isAgg100
  z66 := Try.sizeOf100
  v66 := Try.zeroValue100
  t70 := Try.underlying104
  a70 := Try.isAgg104
  z70 := Try.sizeOf104
  v70 := Try.zeroValue104
  t76 := Try.underlying106
  a76 := Try.isAgg106
  z76 := Try.sizeOf106
  v76 := Try.zeroValue106
  t77 := Try.underlying61
  a77 := Try.isAgg61
  z77 := Try.sizeOf61
  v77 := Try.zeroValue61 }
end Go.Proofs
namespace Go.Proofs.Ytcpnekdhdmncfaa.X
open Go.RowKit Go.Proofs.YtcpnekdhdmncfaaW.PrintWords Go.Proofs.YtcpnekdhdmncfaaW.PrintLast
theorem grow_of {w w' : World} (hb : Below w.heap.size w w') (hd : w.drawn ≤ w'.drawn) : ∃ q os, w' = Go.Sort.grow (w.drewN q) os := by
  refine ⟨w'.drawn - w.drawn, w'.heap.extract w.heap.size w'.heap.size, ?_⟩
  obtain ⟨h1, h2, h3, h4, h5⟩ := hb
  cases w' with
  | mk heap tape drawn os output =>
    simp only [Go.Sort.grow, World.drewN] at *
    have e1 : w.drawn + (drawn - w.drawn) = drawn := by omega
    have e2 : heap = w.heap ++ heap.extract w.heap.size heap.size := by
      apply Array.ext_getElem?
      intro i
      by_cases hi : i < w.heap.size
      · rw [Array.getElem?_append_left hi]
        exact h5 i hi
      · rw [Array.getElem?_append_right (by omega), Array.getElem?_extract]
        by_cases hj : i < heap.size
        · rw [if_pos (by omega), show w.heap.size + (i - w.heap.size) = i by omega]
        · rw [if_neg (by omega), Array.getElem?_eq_none (by omega)]
    rw [e1, ← e2, h1, h2, h3]
section
variable {P : Program} {ops : Array Oper} {rest : List Oper} {o : Oper} {a : Act} {Q : Exit → Act → World → Prop} {Kc : Act → World → Prop}
theorem box_eventD {W : World} (hgd : o.guard = none) {N : Tmp} (_hd : o.dst = some N) {cs : Array Value} {t : TypeId}
    (hrun : (execOp a.eval o).run P W = .ok (.value (.pointer (some ⟨W.heap.size, 0, none⟩))) (W.alloc (.cells cs t (0, 0))))
    (h : ∀ g, g = W.heap.size → ∀ w1, w1.heap[g]? = some (.cells cs t (0, 0)) → Below W.heap.size W w1 → w1.drawn = W.drawn → wpList P ops Q rest (a.put o.dst (.pointer (some ⟨g, 0, none⟩))) w1) : wpList P ops Q (o :: rest) a W :=
  Kd.event_run hgd hrun (h _ rfl _ (blk_new W _) (below_alloc (Below.refl _ _) _) rfl)
theorem lit_stepD {W : World} (e : Nat) (hw : Region.wanted o (yielded ops a.tmps) = true) {N : Tmp} (_hd : o.dst = some N) {xs : List Int} {inner : List Value} (hi : inner = encs (Value.int .i64) xs)
    (hrun : (execOp a.eval o).run P W = .ok (.value (.slice (some ⟨W.heap.size, 0, none⟩) xs.length xs.length)) (W.alloc (.cells inner.toArray e))) (hm : xs.length ≤ 9223372036854775807)
    (h : ∀ v1 w1, Kd.R (Kd.int .i64) e w1 W.heap.size (fun _ => True) v1 xs → Below W.heap.size W w1 → w1.drawn = W.drawn → Kc (a.put o.dst v1) w1) : if Region.wanted o (yielded ops a.tmps) = true then Oper.wp P o a W Kc Q else Kc (a.put o.dst undef) W := by
  refine event_step hw hrun (h _ _ ?_ (below_alloc (Below.refl _ _) _) rfl)
  subst hi
  have h2 := World.ownsRow_lit (base := W.heap.size) (e := e) (size := 1) W (encs (Value.int .i64) xs).toArray xs.length (Nat.le_refl _) (by simpa [maxLen] using hm) (by simp [encs])
  exact Kd.R_of_own (by simpa using h2) (fun _ _ => trivial)
end
end Go.Proofs.Ytcpnekdhdmncfaa.X
namespace Go.Proofs.Ytcpnekdhdmncfaa.P
open Go.RowKit Go.Proofs.YtcpnekdhdmncfaaW.PrintWords Go.Proofs.YtcpnekdhdmncfaaW.PrintLast Go.Proofs.YtcpnekdhdmncfaaW.PrintMore
attribute [local go_sem] max2_int min2_int max_two min_two max_three min_three max_four min_four   -- for this text's walks alone
set_option linter.unusedVariables false
set_option linter.unusedSimpArgs false
def errW : Option Int → Value
  | none => .nilIface
  | some c => .iface 0 (.int .i64 c)
theorem errW_none : errW none = .nilIface := rfl
theorem errW_some (c : Int) : errW (some c) = .iface 0 (.int .i64 c) := rfl
theorem info5 : (Try.prog.info? 5).map (fun i => (i.zero, i.size, i.bytes)) = some (some (.int .u8 0), 1, 1) := by kernel_rfl
theorem info40 : (Try.prog.info? 40).map (fun i => (i.zero, i.size, i.bytes)) = some (some (.agg #[(.string ⟨#[]⟩), (.int .i64 0)]), 2, 24) := by kernel_rfl
structure S46 where
  f0 : ByteArray
  f1 : Int
def z46 : S46 := ⟨(⟨#[]⟩ : ByteArray), (0 : Int)⟩
def rd_T46 (xs : List S46) (i : Int) : S46 := xs.getD i.toNat z46
structure S40 where
  f0 : ByteArray
  f1 : Int
def z40 : S40 := ⟨(⟨#[]⟩ : ByteArray), (0 : Int)⟩
def k40 : Kd S40 := Kd.iso (Kd.pair Kd.string (Kd.int .i64)) (fun x : S40 => (x.f0, x.f1))
theorem k40_open {w : World} {x : S40} {cs : List Value} (h : k40.K w x cs) : cs = [.string x.f0, .int .i64 x.f1] := by
  obtain ⟨_, _, rfl, rfl, rfl⟩ := h
  exact rfl
theorem k40_openM {w : World} {base : Nat} {ok : Nat → Prop} {x : S40} {cs : List Value} (h : k40.M w base ok x cs) : cs = [.string x.f0, .int .i64 x.f1] := by
  obtain ⟨_, _, rfl, rfl, rfl⟩ := h
  exact rfl
theorem k40_mkM (w : World) (base : Nat) (ok : Nat → Prop) (x : S40)  : k40.M w base ok x [.string x.f0, .int .i64 x.f1] := ⟨[.string x.f0], [.int .i64 x.f1], rfl, rfl, rfl⟩
def rd_T40 (xs : List S40) (i : Int) : S40 := xs.getD i.toNat z40
theorem at_T40 {w : World} {A : Option Addr} {n : Nat} {xs : List S40} (h : Kd.C k40 w A n xs) (i : Int) (h0 : 0 ≤ i) (h1 : i < n) : ∃ ad , A = some ad ∧ w.cell? (ad.add (i.toNat * 2)) = some (.string (rd_T40 xs i).f0) ∧ w.cell? ⟨(ad.add (i.toNat * 2)).block, (ad.add (i.toNat * 2)).off + 1, none⟩ = some (.int .i64 (rd_T40 xs i).f1) := by
  obtain ⟨ad, c, e, _, hK, hc0⟩ := Kd.C_get h z40 i h0 h1
  have hc : ∀ j u, c[j]? = some u → w.cell? (ad.add (i.toNat * 2 + j)) = some u := hc0
  obtain rfl := k40_open hK
  exact ⟨ad, e, hc 0 _ rfl, by rw [← add_field _ _ 1 (by omega)]; exact hc 1 _ rfl⟩
end Go.Proofs.Ytcpnekdhdmncfaa.P
namespace Go.Proofs.Ytcpnekdhdmncfaa.P
open Go.RowKit Go.Proofs.YtcpnekdhdmncfaaW.PrintWords Go.Proofs.YtcpnekdhdmncfaaW.PrintLast Go.Proofs.YtcpnekdhdmncfaaW.PrintMore
attribute [local go_sem] max2_int min2_int max_two min_two max_three min_three max_four min_four   -- for this text's walks alone
set_option linter.unusedVariables false
set_option linter.unusedSimpArgs false
theorem eqA40 (d : Nat) (w : World) (x0 y0 : ByteArray) (x1 y1 : Int) :
    (Op.equalIn (d + 2) 40 (.agg #[.string x0, .int .i64 x1]) (.agg #[.string y0, .int .i64 y1])).run Try.prog w = .ok (x0.toList == y0.toList && (x1 == y1)) w := by
  refine eqA_of Try.underlying40 (by kernel_rfl) ?_
  refine eqf_cons (by rfl) (by go_simp; rfl) (by go_simp; rfl) (by go_simp) ?_
  exact eqf_last (by rfl) (by go_simp; rfl) (by go_simp; rfl) (by go_simp)
end Go.Proofs.Ytcpnekdhdmncfaa.P
namespace Go.Proofs.Ytcpnekdhdmncfaa.P
open Go.RowKit Go.Proofs.YtcpnekdhdmncfaaW.PrintWords Go.Proofs.YtcpnekdhdmncfaaW.PrintLast Go.Proofs.YtcpnekdhdmncfaaW.PrintMore
attribute [local go_sem] max2_int min2_int max_two min_two max_three min_three max_four min_four   -- for this text's walks alone
set_option linter.unusedVariables false
set_option linter.unusedSimpArgs false
attribute [local go_sem high] eqA40
def laws_szScore.f (a0_0 : ByteArray) (a0_1 : Int) (a1 : Int) : Option (Int) := if (wrap64 (a1 - (a0_0.size : Int))) < 0 then (some (-1)) else (some (wrap64 (a1 - (a0_0.size : Int))))
def laws_szScoreS.l0 : Nat → List (S46) → Int → Int → Option (Int)
  | 0, _, _, _ => none
  | k + 1, x0, x1, x5 => if x5 < (x0.length : Int) then (if 0 ≤ x5 then ((laws_szScore.f ((rd_T46 x0 x5).f0) ((rd_T46 x0 x5).f1) x1).bind fun t103 => (if t103 < 0 then (some (-1)) else (laws_szScoreS.l0 k x0 t103 (wrap64 (x5 + 1))))) else (none)) else (some x1)
def laws_szScoreS.f (k : Nat) (l0 : List (S46)) (a1 : Int) : Option (Int) := if (wrap64 (a1 - (l0.length : Int))) < 0 then (some (-1)) else (laws_szScoreS.l0 k l0 (wrap64 (a1 - (l0.length : Int))) 0)
theorem laws_szScoreS.mono_l : ∀ k, (∀ y0 y1 y2, LeO (laws_szScoreS.l0 k y0 y1 y2) (laws_szScoreS.l0 (k + 1) y0 y1 y2))
  | 0 => fun _ _ _ r h => by simp [laws_szScoreS.l0] at h
  | k + 1 => by
    have ih0 := laws_szScoreS.mono_l k
    · intro y0 y1 y2
      unfold laws_szScoreS.l0
      repeat' first
      | (with_reducible exact ih0 _ _ _)
      | (with_reducible exact LeO.refl _)
      | (with_reducible exact LeO.none _)
      | (with_reducible refine LeO.ite ?_ ?_)
      | (with_reducible refine LeO.bind ?_ (fun _ => ?_))
      | exact ih0 _ _ _
      | exact LeO.none _
      | refine LeO.ite ?_ ?_
      | refine LeO.bind ?_ (fun _ => ?_)
theorem laws_szScoreS.mono : ∀ a0 a1 k, LeO (laws_szScoreS.f k a0 a1) (laws_szScoreS.f (k + 1) a0 a1) := by
  intro a0 a1 k
  have ih0 := laws_szScoreS.mono_l k
  unfold laws_szScoreS.f
  repeat' first
      | (with_reducible exact ih0 _ _ _)
      | (with_reducible exact LeO.refl _)
      | (with_reducible exact LeO.none _)
      | (with_reducible refine LeO.ite ?_ ?_)
      | (with_reducible refine LeO.bind ?_ (fun _ => ?_))
      | exact ih0 _ _ _
      | exact LeO.none _
      | refine LeO.ite ?_ ?_
      | refine LeO.bind ?_ (fun _ => ?_)
def spec_l1In.f (a0 : Int) (a1 : Int) (a2 : Int) : Option (Bool) := if a0 ≥ a1 then (some (decide (a0 ≤ a2))) else (some false)
def spec_l3Ahead.f (a0_0 : ByteArray) (a0_1 : Int) (a1_0 : ByteArray) (a1_1 : Int) : Option (Bool) := if a0_1 < a1_1 then (some true) else (if a0_1 = a1_1 then (some (Op.bytesLess a0_0.toList a1_0.toList)) else (some false))
mutual
def spec_ScoresOk.l0 : Nat → List (S40) → Int → Option (Bool)
  | 0, _, _ => none
  | k + 1, x0, x3 => if x3 < (x0.length : Int) then (if 0 ≤ x3 then (if (((rd_T40 x0 x3).f0).size : Int) > 40 then (spec_ScoresOk.j1 k x0 x3 true) else ((spec_l1In.f ((rd_T40 x0 x3).f1) (-1000000000) 1000000000).bind fun t108 => (if t108 = true then (if x3 > 0 then (if 0 ≤ (wrap64 (x3 - 1)) then (if (wrap64 (x3 - 1)) < (x0.length : Int) then ((spec_l3Ahead.f ((rd_T40 x0 (wrap64 (x3 - 1))).f0) ((rd_T40 x0 (wrap64 (x3 - 1))).f1) ((rd_T40 x0 x3).f0) ((rd_T40 x0 x3).f1)).bind fun t111 => (spec_ScoresOk.j1 k x0 x3 (!t111))) else (none)) else (none)) else (spec_ScoresOk.j1 k x0 x3 false)) else (spec_ScoresOk.j1 k x0 x3 true)))) else (none)) else (some (decide ((x0.length : Int) ≤ 16)))
def spec_ScoresOk.j1 : Nat → List (S40) → Int → Bool → Option (Bool)
  | 0, _, _, _ => none
  | k + 1, x0, x3, x43 => if x43 = true then (some false) else (spec_ScoresOk.l1 k x0 x3 0)
def spec_ScoresOk.l1 : Nat → List (S40) → Int → Int → Option (Bool)
  | 0, _, _, _ => none
  | k + 1, x0, x3, x4 => if x4 < x3 then (if 0 ≤ x4 then (if x4 < (x0.length : Int) then (if 0 ≤ x3 then (if x3 < (x0.length : Int) then (if ((rd_T40 x0 x4).f0).toList = ((rd_T40 x0 x3).f0).toList then (some false) else (spec_ScoresOk.l1 k x0 x3 (wrap64 (x4 + 1)))) else (none)) else (none)) else (none)) else (none)) else (spec_ScoresOk.l0 k x0 (wrap64 (x3 + 1)))
end
def spec_ScoresOk.f (k : Nat) (l0 : List (S40)) : Option (Bool) := spec_ScoresOk.l0 k l0 0
theorem spec_ScoresOk.mono_l : ∀ k, (∀ y0 y1, LeO (spec_ScoresOk.l0 k y0 y1) (spec_ScoresOk.l0 (k + 1) y0 y1)) ∧ (∀ y0 y1 y2, LeO (spec_ScoresOk.j1 k y0 y1 y2) (spec_ScoresOk.j1 (k + 1) y0 y1 y2)) ∧ (∀ y0 y1 y2, LeO (spec_ScoresOk.l1 k y0 y1 y2) (spec_ScoresOk.l1 (k + 1) y0 y1 y2))
  | 0 => ⟨fun _ _ r h => by simp [spec_ScoresOk.l0] at h, fun _ _ _ r h => by simp [spec_ScoresOk.j1] at h, fun _ _ _ r h => by simp [spec_ScoresOk.l1] at h⟩
  | k + 1 => by
    obtain ⟨ih0, ih1, ih2⟩ := spec_ScoresOk.mono_l k
    refine ⟨?_, ?_, ?_⟩
    · intro y0 y1
      unfold spec_ScoresOk.l0
      repeat' first
      | (with_reducible exact ih0 _ _)
      | (with_reducible exact ih1 _ _ _)
      | (with_reducible exact ih2 _ _ _)
      | (with_reducible exact LeO.refl _)
      | (with_reducible exact LeO.none _)
      | (with_reducible refine LeO.ite ?_ ?_)
      | (with_reducible refine LeO.bind ?_ (fun _ => ?_))
      | exact ih0 _ _
      | exact ih1 _ _ _
      | exact ih2 _ _ _
      | exact LeO.none _
      | refine LeO.ite ?_ ?_
      | refine LeO.bind ?_ (fun _ => ?_)
    · intro y0 y1 y2
      unfold spec_ScoresOk.j1
      repeat' first
      | (with_reducible exact ih0 _ _)
      | (with_reducible exact ih1 _ _ _)
      | (with_reducible exact ih2 _ _ _)
      | (with_reducible exact LeO.refl _)
      | (with_reducible exact LeO.none _)
      | (with_reducible refine LeO.ite ?_ ?_)
      | (with_reducible refine LeO.bind ?_ (fun _ => ?_))
      | exact ih0 _ _
      | exact ih1 _ _ _
      | exact ih2 _ _ _
      | exact LeO.none _
      | refine LeO.ite ?_ ?_
      | refine LeO.bind ?_ (fun _ => ?_)
    · intro y0 y1 y2
      unfold spec_ScoresOk.l1
      repeat' first
      | (with_reducible exact ih0 _ _)
      | (with_reducible exact ih1 _ _ _)
      | (with_reducible exact ih2 _ _ _)
      | (with_reducible exact LeO.refl _)
      | (with_reducible exact LeO.none _)
      | (with_reducible refine LeO.ite ?_ ?_)
      | (with_reducible refine LeO.bind ?_ (fun _ => ?_))
      | exact ih0 _ _
      | exact ih1 _ _ _
      | exact ih2 _ _ _
      | exact LeO.none _
      | refine LeO.ite ?_ ?_
      | refine LeO.bind ?_ (fun _ => ?_)
theorem spec_ScoresOk.mono : ∀ a0 k, LeO (spec_ScoresOk.f k a0) (spec_ScoresOk.f (k + 1) a0) := by
  intro a0 k
  obtain ⟨ih0, ih1, ih2⟩ := spec_ScoresOk.mono_l k
  unfold spec_ScoresOk.f
  repeat' first
      | (with_reducible exact ih0 _ _)
      | (with_reducible exact ih1 _ _ _)
      | (with_reducible exact ih2 _ _ _)
      | (with_reducible exact LeO.refl _)
      | (with_reducible exact LeO.none _)
      | (with_reducible refine LeO.ite ?_ ?_)
      | (with_reducible refine LeO.bind ?_ (fun _ => ?_))
      | exact ih0 _ _
      | exact ih1 _ _ _
      | exact ih2 _ _ _
      | exact LeO.none _
      | refine LeO.ite ?_ ?_
      | refine LeO.bind ?_ (fun _ => ?_)
def laws_toScore.f (a0_0 : ByteArray) (a0_1 : Int) : Option (ByteArray × Int) := some (a0_0, a0_1)
def laws_toScoreS.l0 : Nat → List (S46) → List (S40) → Int → Option ((List (S40)))
  | 0, _, _, _ => none
  | k + 1, x0, x3, x4 => if x4 < (x0.length : Int) then (if 0 ≤ x4 then ((laws_toScore.f ((rd_T46 x0 x4).f0) ((rd_T46 x0 x4).f1)).bind fun bt121 => (if x4 < (x3.length : Int) then (laws_toScoreS.l0 k x0 (x3.set (x4 : Int).toNat (⟨bt121.1, bt121.2⟩ : S40)) (wrap64 (x4 + 1))) else (none))) else (none)) else (some x3)
def laws_toScoreS.f (k : Nat) (l0 : List (S46)) : Option ((List (S40))) := if 0 ≤ (l0.length : Int) then (if ((l0.length : Int) : Int).toNat ≤ 11728124029610 then (laws_toScoreS.l0 k l0 (List.replicate ((l0.length : Int) : Int).toNat z40) 0) else (none)) else (none)
theorem laws_toScoreS.mono_l : ∀ k, (∀ y0 y1 y2, LeO (laws_toScoreS.l0 k y0 y1 y2) (laws_toScoreS.l0 (k + 1) y0 y1 y2))
  | 0 => fun _ _ _ r h => by simp [laws_toScoreS.l0] at h
  | k + 1 => by
    have ih0 := laws_toScoreS.mono_l k
    · intro y0 y1 y2
      unfold laws_toScoreS.l0
      repeat' first
      | (with_reducible exact ih0 _ _ _)
      | (with_reducible exact LeO.refl _)
      | (with_reducible exact LeO.none _)
      | (with_reducible refine LeO.ite ?_ ?_)
      | (with_reducible refine LeO.bind ?_ (fun _ => ?_))
      | exact ih0 _ _ _
      | exact LeO.none _
      | refine LeO.ite ?_ ?_
      | refine LeO.bind ?_ (fun _ => ?_)
theorem laws_toScoreS.mono : ∀ a0 k, LeO (laws_toScoreS.f k a0) (laws_toScoreS.f (k + 1) a0) := by
  intro a0 k
  have ih0 := laws_toScoreS.mono_l k
  unfold laws_toScoreS.f
  repeat' first
      | (with_reducible exact ih0 _ _ _)
      | (with_reducible exact LeO.refl _)
      | (with_reducible exact LeO.none _)
      | (with_reducible refine LeO.ite ?_ ?_)
      | (with_reducible refine LeO.bind ?_ (fun _ => ?_))
      | exact ih0 _ _ _
      | exact LeO.none _
      | refine LeO.ite ?_ ?_
      | refine LeO.bind ?_ (fun _ => ?_)
def impl_within.f (a0 : Int) (a1 : Int) (a2 : Int) : Option (Bool) := if a0 ≥ a1 then (some (decide (a0 ≤ a2))) else (some false)
def impl_position.f (a0 : Int) : Option (Bool) := (impl_within.f a0 (-1000000000) 1000000000).bind fun t124 => (some t124)
def cmp_Or_int.l0 : Nat → Int → List Int → Int → Int → Option (Int)
  | 0, _, _, _, _ => none
  | k + 1, x3, x6, x7, x8 => if x8 < x7 then (if 0 ≤ x8 then (if x8 < (x6.length : Int) then (if (rd x6 x8) = x3 then (cmp_Or_int.l0 k x3 x6 x7 (wrap64 (x8 + 1))) else (some (rd x6 x8))) else (none)) else (none)) else (some x3)
def cmp_Or_int.f (k : Nat) (l0 : List Int) : Option (Int) := cmp_Or_int.l0 k 0 l0 (l0.length : Int) 0
theorem cmp_Or_int.mono_l : ∀ k, (∀ y0 y1 y2 y3, LeO (cmp_Or_int.l0 k y0 y1 y2 y3) (cmp_Or_int.l0 (k + 1) y0 y1 y2 y3))
  | 0 => fun _ _ _ _ r h => by simp [cmp_Or_int.l0] at h
  | k + 1 => by
    have ih0 := cmp_Or_int.mono_l k
    · intro y0 y1 y2 y3
      unfold cmp_Or_int.l0
      repeat' first
      | (with_reducible exact ih0 _ _ _ _)
      | (with_reducible exact LeO.refl _)
      | (with_reducible exact LeO.none _)
      | (with_reducible refine LeO.ite ?_ ?_)
      | (with_reducible refine LeO.bind ?_ (fun _ => ?_))
      | exact ih0 _ _ _ _
      | exact LeO.none _
      | refine LeO.ite ?_ ?_
      | refine LeO.bind ?_ (fun _ => ?_)
theorem cmp_Or_int.mono : ∀ a0 k, LeO (cmp_Or_int.f k a0) (cmp_Or_int.f (k + 1) a0) := by
  intro a0 k
  have ih0 := cmp_Or_int.mono_l k
  unfold cmp_Or_int.f
  repeat' first
      | (with_reducible exact ih0 _ _ _ _)
      | (with_reducible exact LeO.refl _)
      | (with_reducible exact LeO.none _)
      | (with_reducible refine LeO.ite ?_ ?_)
      | (with_reducible refine LeO.bind ?_ (fun _ => ?_))
      | exact ih0 _ _ _ _
      | exact LeO.none _
      | refine LeO.ite ?_ ?_
      | refine LeO.bind ?_ (fun _ => ?_)
def cmp_isNaN_int.f (a0 : Int) : Option (Bool) := some (a0 != a0)
def cmp_Compare_int.f (a0 : Int) (a1 : Int) : Option (Int) := (cmp_isNaN_int.f a0).bind fun t126 => ((cmp_isNaN_int.f a1).bind fun t127 => (if t126 = true then (if t127 = true then (some 0) else (some (-1))) else (if t127 = true then (some 1) else (if a0 < a1 then (some (-1)) else (if a0 > a1 then (some 1) else (some 0))))))
def cmp_isNaN_string.f (a0 : ByteArray) : Option (Bool) := some (a0.toList != a0.toList)
def cmp_Compare_string.f (a0 : ByteArray) (a1 : ByteArray) : Option (Int) := (cmp_isNaN_string.f a0).bind fun t128 => ((cmp_isNaN_string.f a1).bind fun t129 => (if t128 = true then (if t129 = true then (some 0) else (some (-1))) else (if t129 = true then (some 1) else (if (Op.bytesLess a0.toList a1.toList) = true then (some (-1)) else (if (Op.bytesLess a1.toList a0.toList) = true then (some 1) else (some 0))))))
def impl_scoreOrder.f (k : Nat) (a0_0 : ByteArray) (a0_1 : Int) (a1_0 : ByteArray) (a1_1 : Int) : Option (Int) := (cmp_Compare_int.f a0_1 a1_1).bind fun t132 => ((cmp_Compare_string.f a0_0 a1_0).bind fun t133 => ((cmp_Or_int.f k (([t132, t133] : List Int))).bind fun t137 => (some t137)))
theorem impl_scoreOrder.mono : ∀ a0 a1 a2 a3 k, LeO (impl_scoreOrder.f k a0 a1 a2 a3) (impl_scoreOrder.f (k + 1) a0 a1 a2 a3) := by
  intro a0 a1 a2 a3 k
  unfold impl_scoreOrder.f
  repeat' first
      | (with_reducible exact cmp_Or_int.mono _ _)
      | (with_reducible exact LeO.refl _)
      | (with_reducible exact LeO.none _)
      | (with_reducible refine LeO.ite ?_ ?_)
      | (with_reducible refine LeO.bind ?_ (fun _ => ?_))
      | exact cmp_Or_int.mono _ _
      | exact LeO.none _
      | refine LeO.ite ?_ ?_
      | refine LeO.bind ?_ (fun _ => ?_)
def impl_scoreAt.from (t : ByteArray) : List S40 → Nat → Int
  | [], _ => -1
  | x :: r, i => if x.f0.toList = t.toList then (i : Int) else impl_scoreAt.from t r (i + 1)
def impl_scoreAt.f (l0 : List S40) (a1 : ByteArray) : Option Int := some (impl_scoreAt.from a1 l0 0)
def impl_ScoresOk.l0 : Nat → List (S40) → List (S40) → Int → Int → Option (Bool)
  | 0, _, _, _, _ => none
  | k + 1, x0, x5, x6, x7 => if x7 < x6 then (if 0 ≤ x7 then (if x7 < (x5.length : Int) then (if (((rd_T40 x5 x7).f0).size : Int) > 40 then (some false) else ((impl_position.f ((rd_T40 x5 x7).f1)).bind fun t140 => (if t140 = true then (if x7 > 0 then (if 0 ≤ (wrap64 (x7 - 1)) then (if (wrap64 (x7 - 1)) < (x0.length : Int) then ((impl_scoreOrder.f k ((rd_T40 x0 (wrap64 (x7 - 1))).f0) ((rd_T40 x0 (wrap64 (x7 - 1))).f1) ((rd_T40 x5 x7).f0) ((rd_T40 x5 x7).f1)).bind fun t142 => (if t142 ≥ 0 then (some false) else ((impl_scoreAt.f x0 ((rd_T40 x5 x7).f0)).bind fun t143 => (if t143 = x7 then (impl_ScoresOk.l0 k x0 x5 x6 (wrap64 (x7 + 1))) else (some false))))) else (none)) else (none)) else ((impl_scoreAt.f x0 ((rd_T40 x5 x7).f0)).bind fun t144 => (if t144 = x7 then (impl_ScoresOk.l0 k x0 x5 x6 (wrap64 (x7 + 1))) else (some false)))) else (some false)))) else (none)) else (none)) else (some (decide ((x0.length : Int) ≤ 16)))
def impl_ScoresOk.f (k : Nat) (l0 : List (S40)) : Option (Bool) := impl_ScoresOk.l0 k l0 l0 (l0.length : Int) 0
theorem impl_ScoresOk.mono_l : ∀ k, (∀ y0 y1 y2 y3, LeO (impl_ScoresOk.l0 k y0 y1 y2 y3) (impl_ScoresOk.l0 (k + 1) y0 y1 y2 y3))
  | 0 => fun _ _ _ _ r h => by simp [impl_ScoresOk.l0] at h
  | k + 1 => by
    have ih0 := impl_ScoresOk.mono_l k
    · intro y0 y1 y2 y3
      unfold impl_ScoresOk.l0
      repeat' first
      | (with_reducible exact ih0 _ _ _ _)
      | (with_reducible exact impl_scoreOrder.mono _ _ _ _ _)
      | (with_reducible exact LeO.refl _)
      | (with_reducible exact LeO.none _)
      | (with_reducible refine LeO.ite ?_ ?_)
      | (with_reducible refine LeO.bind ?_ (fun _ => ?_))
      | exact ih0 _ _ _ _
      | exact impl_scoreOrder.mono _ _ _ _ _
      | exact LeO.none _
      | refine LeO.ite ?_ ?_
      | refine LeO.bind ?_ (fun _ => ?_)
theorem impl_ScoresOk.mono : ∀ a0 k, LeO (impl_ScoresOk.f k a0) (impl_ScoresOk.f (k + 1) a0) := by
  intro a0 k
  have ih0 := impl_ScoresOk.mono_l k
  unfold impl_ScoresOk.f
  repeat' first
      | (with_reducible exact ih0 _ _ _ _)
      | (with_reducible exact impl_scoreOrder.mono _ _ _ _ _)
      | (with_reducible exact LeO.refl _)
      | (with_reducible exact LeO.none _)
      | (with_reducible refine LeO.ite ?_ ?_)
      | (with_reducible refine LeO.bind ?_ (fun _ => ?_))
      | exact ih0 _ _ _ _
      | exact impl_scoreOrder.mono _ _ _ _ _
      | exact LeO.none _
      | refine LeO.ite ?_ ?_
      | refine LeO.bind ?_ (fun _ => ?_)
def laws_eqScore.f (a0_0 : ByteArray) (a0_1 : Int) (a1_0 : ByteArray) (a1_1 : Int) : Option (Bool) := if a0_0.toList = a1_0.toList then (if a0_1 = a1_1 then (some true) else (some false)) else (some false)
def laws_eqScoreS.l0 : Nat → List (S40) → List (S40) → Int → Option (Bool)
  | 0, _, _, _ => none
  | k + 1, x0, x1, x5 => if x5 < (x0.length : Int) then (if 0 ≤ x5 then (if x5 < (x1.length : Int) then ((laws_eqScore.f ((rd_T40 x0 x5).f0) ((rd_T40 x0 x5).f1) ((rd_T40 x1 x5).f0) ((rd_T40 x1 x5).f1)).bind fun t149 => (if t149 = true then (laws_eqScoreS.l0 k x0 x1 (wrap64 (x5 + 1))) else (some false))) else (none)) else (none)) else (some true)
def laws_eqScoreS.f (k : Nat) (l0 : List (S40)) (l1 : List (S40)) : Option (Bool) := if (l0.length : Int) = (l1.length : Int) then (laws_eqScoreS.l0 k l0 l1 0) else (some false)
theorem laws_eqScoreS.mono_l : ∀ k, (∀ y0 y1 y2, LeO (laws_eqScoreS.l0 k y0 y1 y2) (laws_eqScoreS.l0 (k + 1) y0 y1 y2))
  | 0 => fun _ _ _ r h => by simp [laws_eqScoreS.l0] at h
  | k + 1 => by
    have ih0 := laws_eqScoreS.mono_l k
    · intro y0 y1 y2
      unfold laws_eqScoreS.l0
      repeat' first
      | (with_reducible exact ih0 _ _ _)
      | (with_reducible exact LeO.refl _)
      | (with_reducible exact LeO.none _)
      | (with_reducible refine LeO.ite ?_ ?_)
      | (with_reducible refine LeO.bind ?_ (fun _ => ?_))
      | exact ih0 _ _ _
      | exact LeO.none _
      | refine LeO.ite ?_ ?_
      | refine LeO.bind ?_ (fun _ => ?_)
theorem laws_eqScoreS.mono : ∀ a0 a1 k, LeO (laws_eqScoreS.f k a0 a1) (laws_eqScoreS.f (k + 1) a0 a1) := by
  intro a0 a1 k
  have ih0 := laws_eqScoreS.mono_l k
  unfold laws_eqScoreS.f
  repeat' first
      | (with_reducible exact ih0 _ _ _)
      | (with_reducible exact LeO.refl _)
      | (with_reducible exact LeO.none _)
      | (with_reducible refine LeO.ite ?_ ?_)
      | (with_reducible refine LeO.bind ?_ (fun _ => ?_))
      | exact ih0 _ _ _
      | exact LeO.none _
      | refine LeO.ite ?_ ?_
      | refine LeO.bind ?_ (fun _ => ?_)
def laws_FnExactScoresOk.f (k : Nat) (l0 : List (S46)) : Option (Bool) := (laws_szScoreS.f k l0 1048576).bind fun t150 => (if t150 < 0 then (some true) else ((laws_toScoreS.f k l0).bind fun t151 => ((spec_ScoresOk.f k t151).bind fun t154 => ((laws_toScoreS.f k l0).bind fun t155 => ((impl_ScoresOk.f k t155).bind fun t158 => (if (t158 != t154) = true then (some false) else ((laws_toScoreS.f k l0).bind fun t159 => ((laws_eqScoreS.f k t155 t159).bind fun t162 => (if t162 = true then (some true) else (some false))))))))))
theorem laws_FnExactScoresOk.mono : ∀ a0 k, LeO (laws_FnExactScoresOk.f k a0) (laws_FnExactScoresOk.f (k + 1) a0) := by
  intro a0 k
  unfold laws_FnExactScoresOk.f
  repeat' first
      | (with_reducible exact impl_ScoresOk.mono _ _)
      | (with_reducible exact laws_eqScoreS.mono _ _ _)
      | (with_reducible exact laws_szScoreS.mono _ _ _)
      | (with_reducible exact laws_toScoreS.mono _ _)
      | (with_reducible exact spec_ScoresOk.mono _ _)
      | (with_reducible exact LeO.refl _)
      | (with_reducible exact LeO.none _)
      | (with_reducible refine LeO.ite ?_ ?_)
      | (with_reducible refine LeO.bind ?_ (fun _ => ?_))
      | exact impl_ScoresOk.mono _ _
      | exact laws_eqScoreS.mono _ _ _
      | exact laws_szScoreS.mono _ _ _
      | exact laws_toScoreS.mono _ _
      | exact spec_ScoresOk.mono _ _
      | exact LeO.none _
      | refine LeO.ite ?_ ?_
      | refine LeO.bind ?_ (fun _ => ?_)
mutual
def spec_ScoresRank.l0 : Nat → List (S40) → ByteArray → Int → Option (Int)
  | 0, _, _, _ => none
  | k + 1, x0, x1, x5 => if x5 < (x0.length : Int) then ((spec_ScoresOk.f k x0).bind fun t163 => (spec_ScoresRank.j1 k x0 x1 x5 t163)) else (spec_ScoresRank.j1 k x0 x1 x5 false)
def spec_ScoresRank.j1 : Nat → List (S40) → ByteArray → Int → Bool → Option (Int)
  | 0, _, _, _, _ => none
  | k + 1, x0, x1, x5, x13 => if x13 = true then (if 0 ≤ x5 then (if x5 < (x0.length : Int) then (if ((rd_T40 x0 x5).f0).toList = x1.toList then (some x5) else (spec_ScoresRank.l0 k x0 x1 (wrap64 (x5 + 1)))) else (none)) else (none)) else (some (-1))
end
def spec_ScoresRank.f (k : Nat) (l0 : List (S40)) (a1 : ByteArray) : Option (Int) := spec_ScoresRank.l0 k l0 a1 0
theorem spec_ScoresRank.mono_l : ∀ k, (∀ y0 y1 y2, LeO (spec_ScoresRank.l0 k y0 y1 y2) (spec_ScoresRank.l0 (k + 1) y0 y1 y2)) ∧ (∀ y0 y1 y2 y3, LeO (spec_ScoresRank.j1 k y0 y1 y2 y3) (spec_ScoresRank.j1 (k + 1) y0 y1 y2 y3))
  | 0 => ⟨fun _ _ _ r h => by simp [spec_ScoresRank.l0] at h, fun _ _ _ _ r h => by simp [spec_ScoresRank.j1] at h⟩
  | k + 1 => by
    obtain ⟨ih0, ih1⟩ := spec_ScoresRank.mono_l k
    refine ⟨?_, ?_⟩
    · intro y0 y1 y2
      unfold spec_ScoresRank.l0
      repeat' first
      | (with_reducible exact ih0 _ _ _)
      | (with_reducible exact ih1 _ _ _ _)
      | (with_reducible exact spec_ScoresOk.mono _ _)
      | (with_reducible exact LeO.refl _)
      | (with_reducible exact LeO.none _)
      | (with_reducible refine LeO.ite ?_ ?_)
      | (with_reducible refine LeO.bind ?_ (fun _ => ?_))
      | exact ih0 _ _ _
      | exact ih1 _ _ _ _
      | exact spec_ScoresOk.mono _ _
      | exact LeO.none _
      | refine LeO.ite ?_ ?_
      | refine LeO.bind ?_ (fun _ => ?_)
    · intro y0 y1 y2 y3
      unfold spec_ScoresRank.j1
      repeat' first
      | (with_reducible exact ih0 _ _ _)
      | (with_reducible exact ih1 _ _ _ _)
      | (with_reducible exact spec_ScoresOk.mono _ _)
      | (with_reducible exact LeO.refl _)
      | (with_reducible exact LeO.none _)
      | (with_reducible refine LeO.ite ?_ ?_)
      | (with_reducible refine LeO.bind ?_ (fun _ => ?_))
      | exact ih0 _ _ _
      | exact ih1 _ _ _ _
      | exact spec_ScoresOk.mono _ _
      | exact LeO.none _
      | refine LeO.ite ?_ ?_
      | refine LeO.bind ?_ (fun _ => ?_)
theorem spec_ScoresRank.mono : ∀ a0 a1 k, LeO (spec_ScoresRank.f k a0 a1) (spec_ScoresRank.f (k + 1) a0 a1) := by
  intro a0 a1 k
  obtain ⟨ih0, ih1⟩ := spec_ScoresRank.mono_l k
  unfold spec_ScoresRank.f
  repeat' first
      | (with_reducible exact ih0 _ _ _)
      | (with_reducible exact ih1 _ _ _ _)
      | (with_reducible exact spec_ScoresOk.mono _ _)
      | (with_reducible exact LeO.refl _)
      | (with_reducible exact LeO.none _)
      | (with_reducible refine LeO.ite ?_ ?_)
      | (with_reducible refine LeO.bind ?_ (fun _ => ?_))
      | exact ih0 _ _ _
      | exact ih1 _ _ _ _
      | exact spec_ScoresOk.mono _ _
      | exact LeO.none _
      | refine LeO.ite ?_ ?_
      | refine LeO.bind ?_ (fun _ => ?_)
def impl_ScoresRank.f (k : Nat) (l0 : List (S40)) (a1 : ByteArray) : Option (Int) := (impl_ScoresOk.f k l0).bind fun t165 => (if t165 = true then ((impl_scoreAt.f l0 a1).bind fun t166 => (some t166)) else (some (-1)))
theorem impl_ScoresRank.mono : ∀ a0 a1 k, LeO (impl_ScoresRank.f k a0 a1) (impl_ScoresRank.f (k + 1) a0 a1) := by
  intro a0 a1 k
  unfold impl_ScoresRank.f
  repeat' first
      | (with_reducible exact impl_ScoresOk.mono _ _)
      | (with_reducible exact LeO.refl _)
      | (with_reducible exact LeO.none _)
      | (with_reducible refine LeO.ite ?_ ?_)
      | (with_reducible refine LeO.bind ?_ (fun _ => ?_))
      | exact impl_ScoresOk.mono _ _
      | exact LeO.none _
      | refine LeO.ite ?_ ?_
      | refine LeO.bind ?_ (fun _ => ?_)
def laws_FnExactScoresRank.f (k : Nat) (l0 : List (S46)) (a1 : ByteArray) : Option (Bool) := if (a1.size : Int) > 1048576 then (some true) else ((laws_szScoreS.f k l0 1048576).bind fun t167 => (if t167 < 0 then (some true) else ((laws_toScoreS.f k l0).bind fun t168 => ((spec_ScoresRank.f k t168 a1).bind fun t171 => ((laws_toScoreS.f k l0).bind fun t172 => ((impl_ScoresRank.f k t172 a1).bind fun t175 => (if t175 = t171 then ((laws_toScoreS.f k l0).bind fun t176 => ((laws_eqScoreS.f k t172 t176).bind fun t179 => (if t179 = true then (some true) else (some false)))) else (some false))))))))
theorem laws_FnExactScoresRank.mono : ∀ a0 a1 k, LeO (laws_FnExactScoresRank.f k a0 a1) (laws_FnExactScoresRank.f (k + 1) a0 a1) := by
  intro a0 a1 k
  unfold laws_FnExactScoresRank.f
  repeat' first
      | (with_reducible exact impl_ScoresRank.mono _ _ _)
      | (with_reducible exact laws_eqScoreS.mono _ _ _)
      | (with_reducible exact laws_szScoreS.mono _ _ _)
      | (with_reducible exact laws_toScoreS.mono _ _)
      | (with_reducible exact spec_ScoresRank.mono _ _ _)
      | (with_reducible exact LeO.refl _)
      | (with_reducible exact LeO.none _)
      | (with_reducible refine LeO.ite ?_ ?_)
      | (with_reducible refine LeO.bind ?_ (fun _ => ?_))
      | exact impl_ScoresRank.mono _ _ _
      | exact laws_eqScoreS.mono _ _ _
      | exact laws_szScoreS.mono _ _ _
      | exact laws_toScoreS.mono _ _
      | exact spec_ScoresRank.mono _ _ _
      | exact LeO.none _
      | refine LeO.ite ?_ ?_
      | refine LeO.bind ?_ (fun _ => ?_)
mutual
def spec_ScoresBy.l0 : Nat → List (S40) → Int → Int → List (S40) → Int → Option ((List (S40)))
  | 0, _, _, _, _, _ => none
  | k + 1, x0, x1, x2, x7, x8 => if x8 < (x0.length : Int) then ((spec_ScoresOk.f k x0).bind fun t183 => (spec_ScoresBy.j1 k x0 x1 x2 x7 x8 t183)) else (spec_ScoresBy.j1 k x0 x1 x2 x7 x8 false)
def spec_ScoresBy.j1 : Nat → List (S40) → Int → Int → List (S40) → Int → Bool → Option ((List (S40)))
  | 0, _, _, _, _, _, _ => none
  | k + 1, x0, x1, x2, x7, x8, x17 => if x17 = true then (if 0 ≤ x8 then (if x8 < (x0.length : Int) then ((spec_l1In.f ((rd_T40 x0 x8).f1) x1 x2).bind fun t185 => (if t185 = true then (if x7.length < 5864062014805 then (spec_ScoresBy.l0 k x0 x1 x2 (x7 ++ [(⟨(rd_T40 x0 x8).f0, (rd_T40 x0 x8).f1⟩ : S40)]) (wrap64 (x8 + 1))) else (none)) else (spec_ScoresBy.l0 k x0 x1 x2 x7 (wrap64 (x8 + 1))))) else (none)) else (none)) else (some x7)
end
def spec_ScoresBy.f (k : Nat) (l0 : List (S40)) (a1 : Int) (a2 : Int) : Option ((List (S40))) := spec_ScoresBy.l0 k l0 a1 a2 (([] : List (S40))) 0
theorem spec_ScoresBy.mono_l : ∀ k, (∀ y0 y1 y2 y3 y4, LeO (spec_ScoresBy.l0 k y0 y1 y2 y3 y4) (spec_ScoresBy.l0 (k + 1) y0 y1 y2 y3 y4)) ∧ (∀ y0 y1 y2 y3 y4 y5, LeO (spec_ScoresBy.j1 k y0 y1 y2 y3 y4 y5) (spec_ScoresBy.j1 (k + 1) y0 y1 y2 y3 y4 y5))
  | 0 => ⟨fun _ _ _ _ _ r h => by simp [spec_ScoresBy.l0] at h, fun _ _ _ _ _ _ r h => by simp [spec_ScoresBy.j1] at h⟩
  | k + 1 => by
    obtain ⟨ih0, ih1⟩ := spec_ScoresBy.mono_l k
    refine ⟨?_, ?_⟩
    · intro y0 y1 y2 y3 y4
      unfold spec_ScoresBy.l0
      repeat' first
      | (with_reducible exact ih0 _ _ _ _ _)
      | (with_reducible exact ih1 _ _ _ _ _ _)
      | (with_reducible exact spec_ScoresOk.mono _ _)
      | (with_reducible exact LeO.refl _)
      | (with_reducible exact LeO.none _)
      | (with_reducible refine LeO.ite ?_ ?_)
      | (with_reducible refine LeO.bind ?_ (fun _ => ?_))
      | exact ih0 _ _ _ _ _
      | exact ih1 _ _ _ _ _ _
      | exact spec_ScoresOk.mono _ _
      | exact LeO.none _
      | refine LeO.ite ?_ ?_
      | refine LeO.bind ?_ (fun _ => ?_)
    · intro y0 y1 y2 y3 y4 y5
      unfold spec_ScoresBy.j1
      repeat' first
      | (with_reducible exact ih0 _ _ _ _ _)
      | (with_reducible exact ih1 _ _ _ _ _ _)
      | (with_reducible exact spec_ScoresOk.mono _ _)
      | (with_reducible exact LeO.refl _)
      | (with_reducible exact LeO.none _)
      | (with_reducible refine LeO.ite ?_ ?_)
      | (with_reducible refine LeO.bind ?_ (fun _ => ?_))
      | exact ih0 _ _ _ _ _
      | exact ih1 _ _ _ _ _ _
      | exact spec_ScoresOk.mono _ _
      | exact LeO.none _
      | refine LeO.ite ?_ ?_
      | refine LeO.bind ?_ (fun _ => ?_)
theorem spec_ScoresBy.mono : ∀ a0 a1 a2 k, LeO (spec_ScoresBy.f k a0 a1 a2) (spec_ScoresBy.f (k + 1) a0 a1 a2) := by
  intro a0 a1 a2 k
  obtain ⟨ih0, ih1⟩ := spec_ScoresBy.mono_l k
  unfold spec_ScoresBy.f
  repeat' first
      | (with_reducible exact ih0 _ _ _ _ _)
      | (with_reducible exact ih1 _ _ _ _ _ _)
      | (with_reducible exact spec_ScoresOk.mono _ _)
      | (with_reducible exact LeO.refl _)
      | (with_reducible exact LeO.none _)
      | (with_reducible refine LeO.ite ?_ ?_)
      | (with_reducible refine LeO.bind ?_ (fun _ => ?_))
      | exact ih0 _ _ _ _ _
      | exact ih1 _ _ _ _ _ _
      | exact spec_ScoresOk.mono _ _
      | exact LeO.none _
      | refine LeO.ite ?_ ?_
      | refine LeO.bind ?_ (fun _ => ?_)
def impl_ScoresBy.l0 : Nat → Int → Int → List (S40) → List (S40) → Int → Int → Option ((List (S40)))
  | 0, _, _, _, _, _, _ => none
  | k + 1, x1, x2, x7, x15, x16, x17 => if x17 < x16 then (if 0 ≤ x17 then (if x17 < (x15.length : Int) then ((impl_within.f ((rd_T40 x15 x17).f1) x1 x2).bind fun t196 => (if t196 = true then (if x7.length < 5864062014805 then (impl_ScoresBy.l0 k x1 x2 (x7 ++ [(⟨(rd_T40 x15 x17).f0, (rd_T40 x15 x17).f1⟩ : S40)]) x15 x16 (wrap64 (x17 + 1))) else (none)) else (impl_ScoresBy.l0 k x1 x2 x7 x15 x16 (wrap64 (x17 + 1))))) else (none)) else (none)) else (some x7)
def impl_ScoresBy.f (k : Nat) (l0 : List (S40)) (a1 : Int) (a2 : Int) : Option ((List (S40))) := (some (([] : List (S40)) : List (S40))).bind fun y190 => ((impl_ScoresOk.f k l0).bind fun t193 => (if t193 = true then (impl_ScoresBy.l0 k a1 a2 y190 l0 (l0.length : Int) 0) else (some y190)))
theorem impl_ScoresBy.mono_l : ∀ k, (∀ y0 y1 y2 y3 y4 y5, LeO (impl_ScoresBy.l0 k y0 y1 y2 y3 y4 y5) (impl_ScoresBy.l0 (k + 1) y0 y1 y2 y3 y4 y5))
  | 0 => fun _ _ _ _ _ _ r h => by simp [impl_ScoresBy.l0] at h
  | k + 1 => by
    have ih0 := impl_ScoresBy.mono_l k
    · intro y0 y1 y2 y3 y4 y5
      unfold impl_ScoresBy.l0
      repeat' first
      | (with_reducible exact ih0 _ _ _ _ _ _)
      | (with_reducible exact impl_ScoresOk.mono _ _)
      | (with_reducible exact LeO.refl _)
      | (with_reducible exact LeO.none _)
      | (with_reducible refine LeO.ite ?_ ?_)
      | (with_reducible refine LeO.bind ?_ (fun _ => ?_))
      | exact ih0 _ _ _ _ _ _
      | exact impl_ScoresOk.mono _ _
      | exact LeO.none _
      | refine LeO.ite ?_ ?_
      | refine LeO.bind ?_ (fun _ => ?_)
theorem impl_ScoresBy.mono : ∀ a0 a1 a2 k, LeO (impl_ScoresBy.f k a0 a1 a2) (impl_ScoresBy.f (k + 1) a0 a1 a2) := by
  intro a0 a1 a2 k
  have ih0 := impl_ScoresBy.mono_l k
  unfold impl_ScoresBy.f
  repeat' first
      | (with_reducible exact ih0 _ _ _ _ _ _)
      | (with_reducible exact impl_ScoresOk.mono _ _)
      | (with_reducible exact LeO.refl _)
      | (with_reducible exact LeO.none _)
      | (with_reducible refine LeO.ite ?_ ?_)
      | (with_reducible refine LeO.bind ?_ (fun _ => ?_))
      | exact ih0 _ _ _ _ _ _
      | exact impl_ScoresOk.mono _ _
      | exact LeO.none _
      | refine LeO.ite ?_ ?_
      | refine LeO.bind ?_ (fun _ => ?_)
def laws_markText.l0 : Nat → Int → ByteArray → Option (ByteArray)
  | 0, _, _ => none
  | k + 1, x0, x3 => if x0 > 0 then ((some (([(wrap64 (48 + (Int.tmod x0 10))) % 256] : List Int) : List Int)).bind fun y200 => (if (strOfNums y200).size + x3.size ≤ 9223372036854775807 then (laws_markText.l0 k (wrap64 (Int.tdiv x0 10)) ((strOfNums y200) ++ x3)) else (none))) else (if 1 + x3.size ≤ 9223372036854775807 then (some ((⟨#[109]⟩ : ByteArray) ++ x3)) else (none))
def laws_markText.f (k : Nat) (a0 : Int) : Option (ByteArray) := if a0 ≤ 0 then (some (⟨#[109, 48]⟩ : ByteArray)) else (laws_markText.l0 k a0 (⟨#[]⟩ : ByteArray))
theorem laws_markText.mono_l : ∀ k, (∀ y0 y1, LeO (laws_markText.l0 k y0 y1) (laws_markText.l0 (k + 1) y0 y1))
  | 0 => fun _ _ r h => by simp [laws_markText.l0] at h
  | k + 1 => by
    have ih0 := laws_markText.mono_l k
    · intro y0 y1
      unfold laws_markText.l0
      repeat' first
      | (with_reducible exact ih0 _ _)
      | (with_reducible exact LeO.refl _)
      | (with_reducible exact LeO.none _)
      | (with_reducible refine LeO.ite ?_ ?_)
      | (with_reducible refine LeO.bind ?_ (fun _ => ?_))
      | exact ih0 _ _
      | exact LeO.none _
      | refine LeO.ite ?_ ?_
      | refine LeO.bind ?_ (fun _ => ?_)
theorem laws_markText.mono : ∀ a0 k, LeO (laws_markText.f k a0) (laws_markText.f (k + 1) a0) := by
  intro a0 k
  have ih0 := laws_markText.mono_l k
  unfold laws_markText.f
  repeat' first
      | (with_reducible exact ih0 _ _)
      | (with_reducible exact LeO.refl _)
      | (with_reducible exact LeO.none _)
      | (with_reducible refine LeO.ite ?_ ?_)
      | (with_reducible refine LeO.bind ?_ (fun _ => ?_))
      | exact ih0 _ _
      | exact LeO.none _
      | refine LeO.ite ?_ ?_
      | refine LeO.bind ?_ (fun _ => ?_)
def laws_markScoreS.l0 : Nat → List (S40) → Int → Int → Option (Int × (List (S40)))
  | 0, _, _, _ => none
  | k + 1, x0, x1, x5 => if x5 < (x0.length : Int) then ((laws_markText.f k x1).bind fun t203 => (if 0 ≤ x5 then ((some (x0.set (x5 : Int).toNat (⟨t203, (rd_T40 x0 x5).f1⟩ : S40) : List (S40))).bind fun y204 => (laws_markScoreS.l0 k (y204.set (x5 : Int).toNat (⟨(rd_T40 y204 x5).f0, wrap64 (x1 + 1)⟩ : S40)) (wrap64 ((wrap64 (x1 + 1)) + 1)) (wrap64 (x5 + 1)))) else (none))) else (some (x1, x0))
def laws_markScoreS.f (k : Nat) (l0 : List (S40)) (a1 : Int) : Option (Int × (List (S40))) := laws_markScoreS.l0 k l0 a1 0
theorem laws_markScoreS.mono_l : ∀ k, (∀ y0 y1 y2, LeO (laws_markScoreS.l0 k y0 y1 y2) (laws_markScoreS.l0 (k + 1) y0 y1 y2))
  | 0 => fun _ _ _ r h => by simp [laws_markScoreS.l0] at h
  | k + 1 => by
    have ih0 := laws_markScoreS.mono_l k
    · intro y0 y1 y2
      unfold laws_markScoreS.l0
      repeat' first
      | (with_reducible exact ih0 _ _ _)
      | (with_reducible exact laws_markText.mono _ _)
      | (with_reducible exact LeO.refl _)
      | (with_reducible exact LeO.none _)
      | (with_reducible refine LeO.ite ?_ ?_)
      | (with_reducible refine LeO.bind ?_ (fun _ => ?_))
      | exact ih0 _ _ _
      | exact laws_markText.mono _ _
      | exact LeO.none _
      | refine LeO.ite ?_ ?_
      | refine LeO.bind ?_ (fun _ => ?_)
theorem laws_markScoreS.mono : ∀ a0 a1 k, LeO (laws_markScoreS.f k a0 a1) (laws_markScoreS.f (k + 1) a0 a1) := by
  intro a0 a1 k
  have ih0 := laws_markScoreS.mono_l k
  unfold laws_markScoreS.f
  repeat' first
      | (with_reducible exact ih0 _ _ _)
      | (with_reducible exact laws_markText.mono _ _)
      | (with_reducible exact LeO.refl _)
      | (with_reducible exact LeO.none _)
      | (with_reducible refine LeO.ite ?_ ?_)
      | (with_reducible refine LeO.bind ?_ (fun _ => ?_))
      | exact ih0 _ _ _
      | exact laws_markText.mono _ _
      | exact LeO.none _
      | refine LeO.ite ?_ ?_
      | refine LeO.bind ?_ (fun _ => ?_)
def laws_heldScoreS.l0 : Nat → List (S40) → Int → Int → Option (Int)
  | 0, _, _, _ => none
  | k + 1, x0, x1, x5 => if x5 < (x0.length : Int) then (if 0 ≤ x5 then ((laws_markText.f k x1).bind fun t207 => (if ((rd_T40 x0 x5).f0).toList = t207.toList then (if ((rd_T40 x0 x5).f1) = (wrap64 (x1 + 1)) then (laws_heldScoreS.l0 k x0 (wrap64 ((wrap64 (x1 + 1)) + 1)) (wrap64 (x5 + 1))) else (some (-1))) else (some (-1)))) else (none)) else (some x1)
def laws_heldScoreS.f (k : Nat) (l0 : List (S40)) (a1 : Int) : Option (Int) := laws_heldScoreS.l0 k l0 a1 0
theorem laws_heldScoreS.mono_l : ∀ k, (∀ y0 y1 y2, LeO (laws_heldScoreS.l0 k y0 y1 y2) (laws_heldScoreS.l0 (k + 1) y0 y1 y2))
  | 0 => fun _ _ _ r h => by simp [laws_heldScoreS.l0] at h
  | k + 1 => by
    have ih0 := laws_heldScoreS.mono_l k
    · intro y0 y1 y2
      unfold laws_heldScoreS.l0
      repeat' first
      | (with_reducible exact ih0 _ _ _)
      | (with_reducible exact laws_markText.mono _ _)
      | (with_reducible exact LeO.refl _)
      | (with_reducible exact LeO.none _)
      | (with_reducible refine LeO.ite ?_ ?_)
      | (with_reducible refine LeO.bind ?_ (fun _ => ?_))
      | exact ih0 _ _ _
      | exact laws_markText.mono _ _
      | exact LeO.none _
      | refine LeO.ite ?_ ?_
      | refine LeO.bind ?_ (fun _ => ?_)
theorem laws_heldScoreS.mono : ∀ a0 a1 k, LeO (laws_heldScoreS.f k a0 a1) (laws_heldScoreS.f (k + 1) a0 a1) := by
  intro a0 a1 k
  have ih0 := laws_heldScoreS.mono_l k
  unfold laws_heldScoreS.f
  repeat' first
      | (with_reducible exact ih0 _ _ _)
      | (with_reducible exact laws_markText.mono _ _)
      | (with_reducible exact LeO.refl _)
      | (with_reducible exact LeO.none _)
      | (with_reducible refine LeO.ite ?_ ?_)
      | (with_reducible refine LeO.bind ?_ (fun _ => ?_))
      | exact ih0 _ _ _
      | exact laws_markText.mono _ _
      | exact LeO.none _
      | refine LeO.ite ?_ ?_
      | refine LeO.bind ?_ (fun _ => ?_)
def laws_FnExactScoresBy.j0 : Nat → List (S46) → Int → Int → List (S40) → List (S40) → Bool → Option (Bool)
  | 0, _, _, _, _, _, _ => none
  | k + 1, x0, x1, x2, x8, x10, x50 => if x50 = true then (some false) else ((laws_markScoreS.f k x10 1).bind fun bt230 => ((laws_heldScoreS.f k bt230.2 1).bind fun t232 => (if t232 < 0 then (some false) else (if t232 = bt230.1 then ((laws_toScoreS.f k x0).bind fun t233 => ((impl_ScoresBy.f k t233 x1 x2).bind fun t236 => ((laws_eqScoreS.f k t236 x8).bind fun t239 => (if t239 = true then ((laws_heldScoreS.f k bt230.2 1).bind fun t240 => (if t240 < 0 then (some false) else (if t240 = bt230.1 then (some true) else (some false)))) else (some false))))) else (some false)))))
def laws_FnExactScoresBy.f (k : Nat) (l0 : List (S46)) (a1 : Int) (a2 : Int) : Option (Bool) := (laws_szScoreS.f k l0 1048576).bind fun t209 => (if t209 < 0 then (some true) else ((laws_toScoreS.f k l0).bind fun t210 => ((spec_ScoresBy.f k t210 a1 a2).bind fun t213 => ((laws_toScoreS.f k l0).bind fun t216 => ((impl_ScoresBy.f k t216 a1 a2).bind fun t219 => ((laws_eqScoreS.f k t219 t213).bind fun t222 => (if t222 = true then ((laws_toScoreS.f k l0).bind fun t223 => ((laws_eqScoreS.f k t216 t223).bind fun t226 => (if t226 = true then ((laws_markScoreS.f k t216 1).bind fun bt227 => (if bt227.1 < 0 then (laws_FnExactScoresBy.j0 k l0 a1 a2 t213 t219 true) else ((laws_eqScoreS.f k t219 t213).bind fun t229 => (laws_FnExactScoresBy.j0 k l0 a1 a2 t213 t219 (!t229))))) else (some false)))) else (some false))))))))
theorem laws_FnExactScoresBy.mono_l : ∀ k, (∀ y0 y1 y2 y3 y4 y5, LeO (laws_FnExactScoresBy.j0 k y0 y1 y2 y3 y4 y5) (laws_FnExactScoresBy.j0 (k + 1) y0 y1 y2 y3 y4 y5))
  | 0 => fun _ _ _ _ _ _ r h => by simp [laws_FnExactScoresBy.j0] at h
  | k + 1 => by
    have ih0 := laws_FnExactScoresBy.mono_l k
    · intro y0 y1 y2 y3 y4 y5
      unfold laws_FnExactScoresBy.j0
      repeat' first
      | (with_reducible exact ih0 _ _ _ _ _ _)
      | (with_reducible exact impl_ScoresBy.mono _ _ _ _)
      | (with_reducible exact laws_eqScoreS.mono _ _ _)
      | (with_reducible exact laws_heldScoreS.mono _ _ _)
      | (with_reducible exact laws_markScoreS.mono _ _ _)
      | (with_reducible exact laws_szScoreS.mono _ _ _)
      | (with_reducible exact laws_toScoreS.mono _ _)
      | (with_reducible exact spec_ScoresBy.mono _ _ _ _)
      | (with_reducible exact LeO.refl _)
      | (with_reducible exact LeO.none _)
      | (with_reducible refine LeO.ite ?_ ?_)
      | (with_reducible refine LeO.bind ?_ (fun _ => ?_))
      | exact ih0 _ _ _ _ _ _
      | exact impl_ScoresBy.mono _ _ _ _
      | exact laws_eqScoreS.mono _ _ _
      | exact laws_heldScoreS.mono _ _ _
      | exact laws_markScoreS.mono _ _ _
      | exact laws_szScoreS.mono _ _ _
      | exact laws_toScoreS.mono _ _
      | exact spec_ScoresBy.mono _ _ _ _
      | exact LeO.none _
      | refine LeO.ite ?_ ?_
      | refine LeO.bind ?_ (fun _ => ?_)
theorem laws_FnExactScoresBy.mono : ∀ a0 a1 a2 k, LeO (laws_FnExactScoresBy.f k a0 a1 a2) (laws_FnExactScoresBy.f (k + 1) a0 a1 a2) := by
  intro a0 a1 a2 k
  have ih0 := laws_FnExactScoresBy.mono_l k
  unfold laws_FnExactScoresBy.f
  repeat' first
      | (with_reducible exact ih0 _ _ _ _ _ _)
      | (with_reducible exact impl_ScoresBy.mono _ _ _ _)
      | (with_reducible exact laws_eqScoreS.mono _ _ _)
      | (with_reducible exact laws_heldScoreS.mono _ _ _)
      | (with_reducible exact laws_markScoreS.mono _ _ _)
      | (with_reducible exact laws_szScoreS.mono _ _ _)
      | (with_reducible exact laws_toScoreS.mono _ _)
      | (with_reducible exact spec_ScoresBy.mono _ _ _ _)
      | (with_reducible exact LeO.refl _)
      | (with_reducible exact LeO.none _)
      | (with_reducible refine LeO.ite ?_ ?_)
      | (with_reducible refine LeO.bind ?_ (fun _ => ?_))
      | exact ih0 _ _ _ _ _ _
      | exact impl_ScoresBy.mono _ _ _ _
      | exact laws_eqScoreS.mono _ _ _
      | exact laws_heldScoreS.mono _ _ _
      | exact laws_markScoreS.mono _ _ _
      | exact laws_szScoreS.mono _ _ _
      | exact laws_toScoreS.mono _ _
      | exact spec_ScoresBy.mono _ _ _ _
      | exact LeO.none _
      | refine LeO.ite ?_ ?_
      | refine LeO.bind ?_ (fun _ => ?_)
def spec_l3Without.l0 : Nat → List (S40) → ByteArray → List (S40) → Int → Option ((List (S40)))
  | 0, _, _, _, _ => none
  | k + 1, x0, x1, x5, x6 => if x6 < (x0.length : Int) then (if 0 ≤ x6 then (if ((rd_T40 x0 x6).f0).toList = x1.toList then (spec_l3Without.l0 k x0 x1 x5 (wrap64 (x6 + 1))) else (if x5.length < 5864062014805 then (spec_l3Without.l0 k x0 x1 (x5 ++ [(⟨(rd_T40 x0 x6).f0, (rd_T40 x0 x6).f1⟩ : S40)]) (wrap64 (x6 + 1))) else (none))) else (none)) else (some x5)
def spec_l3Without.f (k : Nat) (l0 : List (S40)) (a1 : ByteArray) : Option ((List (S40))) := spec_l3Without.l0 k l0 a1 (([] : List (S40))) 0
theorem spec_l3Without.mono_l : ∀ k, (∀ y0 y1 y2 y3, LeO (spec_l3Without.l0 k y0 y1 y2 y3) (spec_l3Without.l0 (k + 1) y0 y1 y2 y3))
  | 0 => fun _ _ _ _ r h => by simp [spec_l3Without.l0] at h
  | k + 1 => by
    have ih0 := spec_l3Without.mono_l k
    · intro y0 y1 y2 y3
      unfold spec_l3Without.l0
      repeat' first
      | (with_reducible exact ih0 _ _ _ _)
      | (with_reducible exact LeO.refl _)
      | (with_reducible exact LeO.none _)
      | (with_reducible refine LeO.ite ?_ ?_)
      | (with_reducible refine LeO.bind ?_ (fun _ => ?_))
      | exact ih0 _ _ _ _
      | exact LeO.none _
      | refine LeO.ite ?_ ?_
      | refine LeO.bind ?_ (fun _ => ?_)
theorem spec_l3Without.mono : ∀ a0 a1 k, LeO (spec_l3Without.f k a0 a1) (spec_l3Without.f (k + 1) a0 a1) := by
  intro a0 a1 k
  have ih0 := spec_l3Without.mono_l k
  unfold spec_l3Without.f
  repeat' first
      | (with_reducible exact ih0 _ _ _ _)
      | (with_reducible exact LeO.refl _)
      | (with_reducible exact LeO.none _)
      | (with_reducible refine LeO.ite ?_ ?_)
      | (with_reducible refine LeO.bind ?_ (fun _ => ?_))
      | exact ih0 _ _ _ _
      | exact LeO.none _
      | refine LeO.ite ?_ ?_
      | refine LeO.bind ?_ (fun _ => ?_)
def spec_ScoresDrop.f (k : Nat) (l0 : List (S40)) (a1 : ByteArray) : Option ((List (S40)) × Bool) := (spec_ScoresOk.f k l0).bind fun t249 => (if t249 = true then ((spec_l3Without.f k l0 a1).bind fun t250 => (some (t250, decide ((t250.length : Int) < (l0.length : Int))))) else (some ((([] : List (S40))), false)))
theorem spec_ScoresDrop.mono : ∀ a0 a1 k, LeO (spec_ScoresDrop.f k a0 a1) (spec_ScoresDrop.f (k + 1) a0 a1) := by
  intro a0 a1 k
  unfold spec_ScoresDrop.f
  repeat' first
      | (with_reducible exact spec_ScoresOk.mono _ _)
      | (with_reducible exact spec_l3Without.mono _ _ _)
      | (with_reducible exact LeO.refl _)
      | (with_reducible exact LeO.none _)
      | (with_reducible refine LeO.ite ?_ ?_)
      | (with_reducible refine LeO.bind ?_ (fun _ => ?_))
      | exact spec_ScoresOk.mono _ _
      | exact spec_l3Without.mono _ _ _
      | exact LeO.none _
      | refine LeO.ite ?_ ?_
      | refine LeO.bind ?_ (fun _ => ?_)
def impl_copiedScores.f (l0 : List (S40)) : Option ((List (S40))) := (some (([] : List (S40)) : List (S40))).bind fun y256 => (if y256.length + l0.length < 5864062014805 then (some (y256 ++ l0)) else (none))
def slices_Delete_impl_Score_impl_Score.f (l0 : List S40) (a1 a2 : Int) : Option (List S40) := if 0 ≤ a1 ∧ a1 < l0.length ∧ a2 = a1 + 1 then some (l0.eraseIdx a1.toNat) else none
theorem slices_Delete_impl_Score_impl_Score.calls_zero : ∀ w, (zeroValue 40).run Try.prog w = .ok (.agg #[.string ⟨#[]⟩, .int .i64 0]) w := fun w => by kernel_rfl
theorem slices_Delete_impl_Score_impl_Score.calls_size : (Try.prog.info? 40).map (·.size) = some k40.sz := by kernel_rfl
def impl_ScoresDrop.f (k : Nat) (l0 : List (S40)) (a1 : ByteArray) : Option ((List (S40)) × Bool) := (impl_ScoresOk.f k l0).bind fun t262 => (if t262 = true then ((impl_copiedScores.f l0).bind fun t266 => ((impl_scoreAt.f t266 a1).bind fun t269 => (if t269 < 0 then (some (t266, false)) else ((slices_Delete_impl_Score_impl_Score.f t266 t269 (wrap64 (t269 + 1))).bind fun t270 => ((impl_copiedScores.f t270).bind fun t273 => (some (t273, true))))))) else (some ((([] : List (S40))), false)))
theorem impl_ScoresDrop.mono : ∀ a0 a1 k, LeO (impl_ScoresDrop.f k a0 a1) (impl_ScoresDrop.f (k + 1) a0 a1) := by
  intro a0 a1 k
  unfold impl_ScoresDrop.f
  repeat' first
      | (with_reducible exact impl_ScoresOk.mono _ _)
      | (with_reducible exact LeO.refl _)
      | (with_reducible exact LeO.none _)
      | (with_reducible refine LeO.ite ?_ ?_)
      | (with_reducible refine LeO.bind ?_ (fun _ => ?_))
      | exact impl_ScoresOk.mono _ _
      | exact LeO.none _
      | refine LeO.ite ?_ ?_
      | refine LeO.bind ?_ (fun _ => ?_)
mutual
def laws_FnExactScoresDrop.j0 : Nat → List (S46) → ByteArray → List (S40) → Bool → List (S40) → List (S40) → Bool → Bool → Option (Bool)
  | 0, _, _, _, _, _, _, _, _ => none
  | k + 1, x0, x1, x6, x7, x8, x9, x10, x47 => if x47 = true then (some false) else ((laws_toScoreS.f k x0).bind fun t292 => ((laws_eqScoreS.f k x8 t292).bind fun t295 => (if t295 = true then ((laws_markScoreS.f k x8 1).bind fun bt296 => (if bt296.1 < 0 then (laws_FnExactScoresDrop.j1 k x0 x1 x6 x7 x9 true) else ((laws_eqScoreS.f k x9 x6).bind fun t298 => (if t298 = true then (laws_FnExactScoresDrop.j1 k x0 x1 x6 x7 x9 (x10 != x7)) else (laws_FnExactScoresDrop.j1 k x0 x1 x6 x7 x9 true))))) else (some false))))
def laws_FnExactScoresDrop.j1 : Nat → List (S46) → ByteArray → List (S40) → Bool → List (S40) → Bool → Option (Bool)
  | 0, _, _, _, _, _, _ => none
  | k + 1, x0, x1, x6, x7, x9, x68 => if x68 = true then (some false) else ((laws_markScoreS.f k x9 1).bind fun bt299 => ((laws_heldScoreS.f k bt299.2 1).bind fun t301 => (if t301 < 0 then (some false) else (if t301 = bt299.1 then ((laws_toScoreS.f k x0).bind fun t302 => ((impl_ScoresDrop.f k t302 x1).bind fun bt305 => ((laws_eqScoreS.f k bt305.1 x6).bind fun t309 => (if t309 = true then (laws_FnExactScoresDrop.j2 k bt299.2 bt299.1 (bt305.2 != x7)) else (laws_FnExactScoresDrop.j2 k bt299.2 bt299.1 true))))) else (some false)))))
def laws_FnExactScoresDrop.j2 : Nat → List (S40) → Int → Bool → Option (Bool)
  | 0, _, _, _ => none
  | k + 1, x9, x12, x95 => if x95 = true then (some false) else ((laws_heldScoreS.f k x9 1).bind fun t310 => (if t310 < 0 then (some false) else (if t310 = x12 then (some true) else (some false))))
end
def laws_FnExactScoresDrop.f (k : Nat) (l0 : List (S46)) (a1 : ByteArray) : Option (Bool) := if (a1.size : Int) > 1048576 then (some true) else ((laws_szScoreS.f k l0 1048576).bind fun t276 => (if t276 < 0 then (some true) else ((laws_toScoreS.f k l0).bind fun t277 => ((spec_ScoresDrop.f k t277 a1).bind fun bt280 => ((laws_toScoreS.f k l0).bind fun t284 => ((impl_ScoresDrop.f k t284 a1).bind fun bt287 => ((laws_eqScoreS.f k bt287.1 bt280.1).bind fun t291 => (if t291 = true then (laws_FnExactScoresDrop.j0 k l0 a1 bt280.1 bt280.2 t284 bt287.1 bt287.2 (bt287.2 != bt280.2)) else (laws_FnExactScoresDrop.j0 k l0 a1 bt280.1 bt280.2 t284 bt287.1 bt287.2 true)))))))))
theorem laws_FnExactScoresDrop.mono_l : ∀ k, (∀ y0 y1 y2 y3 y4 y5 y6 y7, LeO (laws_FnExactScoresDrop.j0 k y0 y1 y2 y3 y4 y5 y6 y7) (laws_FnExactScoresDrop.j0 (k + 1) y0 y1 y2 y3 y4 y5 y6 y7)) ∧ (∀ y0 y1 y2 y3 y4 y5, LeO (laws_FnExactScoresDrop.j1 k y0 y1 y2 y3 y4 y5) (laws_FnExactScoresDrop.j1 (k + 1) y0 y1 y2 y3 y4 y5)) ∧ (∀ y0 y1 y2, LeO (laws_FnExactScoresDrop.j2 k y0 y1 y2) (laws_FnExactScoresDrop.j2 (k + 1) y0 y1 y2))
  | 0 => ⟨fun _ _ _ _ _ _ _ _ r h => by simp [laws_FnExactScoresDrop.j0] at h, fun _ _ _ _ _ _ r h => by simp [laws_FnExactScoresDrop.j1] at h, fun _ _ _ r h => by simp [laws_FnExactScoresDrop.j2] at h⟩
  | k + 1 => by
    obtain ⟨ih0, ih1, ih2⟩ := laws_FnExactScoresDrop.mono_l k
    refine ⟨?_, ?_, ?_⟩
    · intro y0 y1 y2 y3 y4 y5 y6 y7
      unfold laws_FnExactScoresDrop.j0
      repeat' first
      | (with_reducible exact ih0 _ _ _ _ _ _ _ _)
      | (with_reducible exact ih1 _ _ _ _ _ _)
      | (with_reducible exact ih2 _ _ _)
      | (with_reducible exact impl_ScoresDrop.mono _ _ _)
      | (with_reducible exact laws_eqScoreS.mono _ _ _)
      | (with_reducible exact laws_heldScoreS.mono _ _ _)
      | (with_reducible exact laws_markScoreS.mono _ _ _)
      | (with_reducible exact laws_szScoreS.mono _ _ _)
      | (with_reducible exact laws_toScoreS.mono _ _)
      | (with_reducible exact spec_ScoresDrop.mono _ _ _)
      | (with_reducible exact LeO.refl _)
      | (with_reducible exact LeO.none _)
      | (with_reducible refine LeO.ite ?_ ?_)
      | (with_reducible refine LeO.bind ?_ (fun _ => ?_))
      | exact ih0 _ _ _ _ _ _ _ _
      | exact ih1 _ _ _ _ _ _
      | exact ih2 _ _ _
      | exact impl_ScoresDrop.mono _ _ _
      | exact laws_eqScoreS.mono _ _ _
      | exact laws_heldScoreS.mono _ _ _
      | exact laws_markScoreS.mono _ _ _
      | exact laws_szScoreS.mono _ _ _
      | exact laws_toScoreS.mono _ _
      | exact spec_ScoresDrop.mono _ _ _
      | exact LeO.none _
      | refine LeO.ite ?_ ?_
      | refine LeO.bind ?_ (fun _ => ?_)
    · intro y0 y1 y2 y3 y4 y5
      unfold laws_FnExactScoresDrop.j1
      repeat' first
      | (with_reducible exact ih0 _ _ _ _ _ _ _ _)
      | (with_reducible exact ih1 _ _ _ _ _ _)
      | (with_reducible exact ih2 _ _ _)
      | (with_reducible exact impl_ScoresDrop.mono _ _ _)
      | (with_reducible exact laws_eqScoreS.mono _ _ _)
      | (with_reducible exact laws_heldScoreS.mono _ _ _)
      | (with_reducible exact laws_markScoreS.mono _ _ _)
      | (with_reducible exact laws_szScoreS.mono _ _ _)
      | (with_reducible exact laws_toScoreS.mono _ _)
      | (with_reducible exact spec_ScoresDrop.mono _ _ _)
      | (with_reducible exact LeO.refl _)
      | (with_reducible exact LeO.none _)
      | (with_reducible refine LeO.ite ?_ ?_)
      | (with_reducible refine LeO.bind ?_ (fun _ => ?_))
      | exact ih0 _ _ _ _ _ _ _ _
      | exact ih1 _ _ _ _ _ _
      | exact ih2 _ _ _
      | exact impl_ScoresDrop.mono _ _ _
      | exact laws_eqScoreS.mono _ _ _
      | exact laws_heldScoreS.mono _ _ _
      | exact laws_markScoreS.mono _ _ _
      | exact laws_szScoreS.mono _ _ _
      | exact laws_toScoreS.mono _ _
      | exact spec_ScoresDrop.mono _ _ _
      | exact LeO.none _
      | refine LeO.ite ?_ ?_
      | refine LeO.bind ?_ (fun _ => ?_)
    · intro y0 y1 y2
      unfold laws_FnExactScoresDrop.j2
      repeat' first
      | (with_reducible exact ih0 _ _ _ _ _ _ _ _)
      | (with_reducible exact ih1 _ _ _ _ _ _)
      | (with_reducible exact ih2 _ _ _)
      | (with_reducible exact impl_ScoresDrop.mono _ _ _)
      | (with_reducible exact laws_eqScoreS.mono _ _ _)
      | (with_reducible exact laws_heldScoreS.mono _ _ _)
      | (with_reducible exact laws_markScoreS.mono _ _ _)
      | (with_reducible exact laws_szScoreS.mono _ _ _)
      | (with_reducible exact laws_toScoreS.mono _ _)
      | (with_reducible exact spec_ScoresDrop.mono _ _ _)
      | (with_reducible exact LeO.refl _)
      | (with_reducible exact LeO.none _)
      | (with_reducible refine LeO.ite ?_ ?_)
      | (with_reducible refine LeO.bind ?_ (fun _ => ?_))
      | exact ih0 _ _ _ _ _ _ _ _
      | exact ih1 _ _ _ _ _ _
      | exact ih2 _ _ _
      | exact impl_ScoresDrop.mono _ _ _
      | exact laws_eqScoreS.mono _ _ _
      | exact laws_heldScoreS.mono _ _ _
      | exact laws_markScoreS.mono _ _ _
      | exact laws_szScoreS.mono _ _ _
      | exact laws_toScoreS.mono _ _
      | exact spec_ScoresDrop.mono _ _ _
      | exact LeO.none _
      | refine LeO.ite ?_ ?_
      | refine LeO.bind ?_ (fun _ => ?_)
theorem laws_FnExactScoresDrop.mono : ∀ a0 a1 k, LeO (laws_FnExactScoresDrop.f k a0 a1) (laws_FnExactScoresDrop.f (k + 1) a0 a1) := by
  intro a0 a1 k
  obtain ⟨ih0, ih1, ih2⟩ := laws_FnExactScoresDrop.mono_l k
  unfold laws_FnExactScoresDrop.f
  repeat' first
      | (with_reducible exact ih0 _ _ _ _ _ _ _ _)
      | (with_reducible exact ih1 _ _ _ _ _ _)
      | (with_reducible exact ih2 _ _ _)
      | (with_reducible exact impl_ScoresDrop.mono _ _ _)
      | (with_reducible exact laws_eqScoreS.mono _ _ _)
      | (with_reducible exact laws_heldScoreS.mono _ _ _)
      | (with_reducible exact laws_markScoreS.mono _ _ _)
      | (with_reducible exact laws_szScoreS.mono _ _ _)
      | (with_reducible exact laws_toScoreS.mono _ _)
      | (with_reducible exact spec_ScoresDrop.mono _ _ _)
      | (with_reducible exact LeO.refl _)
      | (with_reducible exact LeO.none _)
      | (with_reducible refine LeO.ite ?_ ?_)
      | (with_reducible refine LeO.bind ?_ (fun _ => ?_))
      | exact ih0 _ _ _ _ _ _ _ _
      | exact ih1 _ _ _ _ _ _
      | exact ih2 _ _ _
      | exact impl_ScoresDrop.mono _ _ _
      | exact laws_eqScoreS.mono _ _ _
      | exact laws_heldScoreS.mono _ _ _
      | exact laws_markScoreS.mono _ _ _
      | exact laws_szScoreS.mono _ _ _
      | exact laws_toScoreS.mono _ _
      | exact spec_ScoresDrop.mono _ _ _
      | exact LeO.none _
      | refine LeO.ite ?_ ?_
      | refine LeO.bind ?_ (fun _ => ?_)
def spec_l2Place.f (a0 : Int) : Option (Bool) := (spec_l1In.f a0 (-1000000000) 1000000000).bind fun t311 => (some t311)
mutual
def spec_l2Ends.j0 : Nat → Int → Int → Int → Option (Int × Int)
  | 0, _, _, _ => none
  | k + 1, x0, x1, x2 => if x2 < 0 then (spec_l2Ends.j1 k x0 x1 (wrap64 (x2 + x0))) else (spec_l2Ends.j1 k x0 x1 x2)
def spec_l2Ends.j1 : Nat → Int → Int → Int → Option (Int × Int)
  | 0, _, _, _ => none
  | k + 1, x0, x1, x2 => if x1 < 0 then (spec_l2Ends.j2 k x0 0 x2) else (spec_l2Ends.j2 k x0 x1 x2)
def spec_l2Ends.j2 : Nat → Int → Int → Int → Option (Int × Int)
  | 0, _, _, _ => none
  | k + 1, x0, x1, x2 => if x2 ≥ x0 then (if x1 > (wrap64 (x0 - 1)) then (some (0, 0)) else (some (x1, wrap64 ((wrap64 (x0 - 1)) + 1)))) else (if x1 > x2 then (some (0, 0)) else (some (x1, wrap64 (x2 + 1))))
end
def spec_l2Ends.f (k : Nat) (a0 : Int) (a1 : Int) (a2 : Int) : Option (Int × Int) := if a1 < 0 then (spec_l2Ends.j0 k a0 (wrap64 (a1 + a0)) a2) else (spec_l2Ends.j0 k a0 a1 a2)
theorem spec_l2Ends.mono_l : ∀ k, (∀ y0 y1 y2, LeO (spec_l2Ends.j0 k y0 y1 y2) (spec_l2Ends.j0 (k + 1) y0 y1 y2)) ∧ (∀ y0 y1 y2, LeO (spec_l2Ends.j1 k y0 y1 y2) (spec_l2Ends.j1 (k + 1) y0 y1 y2)) ∧ (∀ y0 y1 y2, LeO (spec_l2Ends.j2 k y0 y1 y2) (spec_l2Ends.j2 (k + 1) y0 y1 y2))
  | 0 => ⟨fun _ _ _ r h => by simp [spec_l2Ends.j0] at h, fun _ _ _ r h => by simp [spec_l2Ends.j1] at h, fun _ _ _ r h => by simp [spec_l2Ends.j2] at h⟩
  | k + 1 => by
    obtain ⟨ih0, ih1, ih2⟩ := spec_l2Ends.mono_l k
    refine ⟨?_, ?_, ?_⟩
    · intro y0 y1 y2
      unfold spec_l2Ends.j0
      repeat' first
      | (with_reducible exact ih0 _ _ _)
      | (with_reducible exact ih1 _ _ _)
      | (with_reducible exact ih2 _ _ _)
      | (with_reducible exact LeO.refl _)
      | (with_reducible exact LeO.none _)
      | (with_reducible refine LeO.ite ?_ ?_)
      | (with_reducible refine LeO.bind ?_ (fun _ => ?_))
      | exact ih0 _ _ _
      | exact ih1 _ _ _
      | exact ih2 _ _ _
      | exact LeO.none _
      | refine LeO.ite ?_ ?_
      | refine LeO.bind ?_ (fun _ => ?_)
    · intro y0 y1 y2
      unfold spec_l2Ends.j1
      repeat' first
      | (with_reducible exact ih0 _ _ _)
      | (with_reducible exact ih1 _ _ _)
      | (with_reducible exact ih2 _ _ _)
      | (with_reducible exact LeO.refl _)
      | (with_reducible exact LeO.none _)
      | (with_reducible refine LeO.ite ?_ ?_)
      | (with_reducible refine LeO.bind ?_ (fun _ => ?_))
      | exact ih0 _ _ _
      | exact ih1 _ _ _
      | exact ih2 _ _ _
      | exact LeO.none _
      | refine LeO.ite ?_ ?_
      | refine LeO.bind ?_ (fun _ => ?_)
    · intro y0 y1 y2
      unfold spec_l2Ends.j2
      repeat' first
      | (with_reducible exact ih0 _ _ _)
      | (with_reducible exact ih1 _ _ _)
      | (with_reducible exact ih2 _ _ _)
      | (with_reducible exact LeO.refl _)
      | (with_reducible exact LeO.none _)
      | (with_reducible refine LeO.ite ?_ ?_)
      | (with_reducible refine LeO.bind ?_ (fun _ => ?_))
      | exact ih0 _ _ _
      | exact ih1 _ _ _
      | exact ih2 _ _ _
      | exact LeO.none _
      | refine LeO.ite ?_ ?_
      | refine LeO.bind ?_ (fun _ => ?_)
theorem spec_l2Ends.mono : ∀ a0 a1 a2 k, LeO (spec_l2Ends.f k a0 a1 a2) (spec_l2Ends.f (k + 1) a0 a1 a2) := by
  intro a0 a1 a2 k
  obtain ⟨ih0, ih1, ih2⟩ := spec_l2Ends.mono_l k
  unfold spec_l2Ends.f
  repeat' first
      | (with_reducible exact ih0 _ _ _)
      | (with_reducible exact ih1 _ _ _)
      | (with_reducible exact ih2 _ _ _)
      | (with_reducible exact LeO.refl _)
      | (with_reducible exact LeO.none _)
      | (with_reducible refine LeO.ite ?_ ?_)
      | (with_reducible refine LeO.bind ?_ (fun _ => ?_))
      | exact ih0 _ _ _
      | exact ih1 _ _ _
      | exact ih2 _ _ _
      | exact LeO.none _
      | refine LeO.ite ?_ ?_
      | refine LeO.bind ?_ (fun _ => ?_)
def spec_ScoresAt.f (k : Nat) (l0 : List (S40)) (a1 : Int) (a2 : Int) : Option ((List (S40))) := (spec_ScoresOk.f k l0).bind fun t312 => (if t312 = true then ((spec_l2Place.f a1).bind fun t313 => (if t313 = true then ((spec_l2Place.f a2).bind fun t314 => (if t314 = true then ((spec_l2Ends.f k (l0.length : Int) a1 a2).bind fun bt315 => ((some (([] : List (S40)) : List (S40))).bind fun y317 => (if 0 ≤ bt315.1 then (if bt315.1 ≤ bt315.2 then (if bt315.2 ≤ (l0.length : Int) then ((some ((l0.take (bt315.2 : Int).toNat).drop (bt315.1 : Int).toNat : List (S40))).bind fun y320 => (if y317.length + y320.length < 5864062014805 then (some (y317 ++ y320)) else (none))) else (none)) else (none)) else (none)))) else (some (([] : List (S40)))))) else (some (([] : List (S40)))))) else (some (([] : List (S40)))))
theorem spec_ScoresAt.mono : ∀ a0 a1 a2 k, LeO (spec_ScoresAt.f k a0 a1 a2) (spec_ScoresAt.f (k + 1) a0 a1 a2) := by
  intro a0 a1 a2 k
  unfold spec_ScoresAt.f
  repeat' first
      | (with_reducible exact spec_ScoresOk.mono _ _)
      | (with_reducible exact spec_l2Ends.mono _ _ _ _)
      | (with_reducible exact LeO.refl _)
      | (with_reducible exact LeO.none _)
      | (with_reducible refine LeO.ite ?_ ?_)
      | (with_reducible refine LeO.bind ?_ (fun _ => ?_))
      | exact spec_ScoresOk.mono _ _
      | exact spec_l2Ends.mono _ _ _ _
      | exact LeO.none _
      | refine LeO.ite ?_ ?_
      | refine LeO.bind ?_ (fun _ => ?_)
mutual
def impl_span.j0 : Nat → Int → Int → Int → Bool → Option (Int × Int)
  | 0, _, _, _, _ => none
  | k + 1, x0, x1, x2, x15 => if x15 = true then (some (0, 0)) else (if x1 < 0 then (impl_span.j1 k x0 (wrap64 (x1 + x0)) x2) else (impl_span.j1 k x0 x1 x2))
def impl_span.j1 : Nat → Int → Int → Int → Option (Int × Int)
  | 0, _, _, _ => none
  | k + 1, x0, x1, x2 => if x2 < 0 then (if (mx x1 0) > (mn (wrap64 (x2 + x0)) (wrap64 (x0 - 1))) then (some (0, 0)) else (some (mx x1 0, wrap64 ((mn (wrap64 (x2 + x0)) (wrap64 (x0 - 1))) + 1)))) else (if (mx x1 0) > (mn x2 (wrap64 (x0 - 1))) then (some (0, 0)) else (some (mx x1 0, wrap64 ((mn x2 (wrap64 (x0 - 1))) + 1))))
end
def impl_span.f (k : Nat) (a0 : Int) (a1 : Int) (a2 : Int) : Option (Int × Int) := (impl_position.f a1).bind fun t336 => (if t336 = true then ((impl_position.f a2).bind fun t337 => (impl_span.j0 k a0 a1 a2 (!t337))) else (impl_span.j0 k a0 a1 a2 true))
theorem impl_span.mono_l : ∀ k, (∀ y0 y1 y2 y3, LeO (impl_span.j0 k y0 y1 y2 y3) (impl_span.j0 (k + 1) y0 y1 y2 y3)) ∧ (∀ y0 y1 y2, LeO (impl_span.j1 k y0 y1 y2) (impl_span.j1 (k + 1) y0 y1 y2))
  | 0 => ⟨fun _ _ _ _ r h => by simp [impl_span.j0] at h, fun _ _ _ r h => by simp [impl_span.j1] at h⟩
  | k + 1 => by
    obtain ⟨ih0, ih1⟩ := impl_span.mono_l k
    refine ⟨?_, ?_⟩
    · intro y0 y1 y2 y3
      unfold impl_span.j0
      repeat' first
      | (with_reducible exact ih0 _ _ _ _)
      | (with_reducible exact ih1 _ _ _)
      | (with_reducible exact LeO.refl _)
      | (with_reducible exact LeO.none _)
      | (with_reducible refine LeO.ite ?_ ?_)
      | (with_reducible refine LeO.bind ?_ (fun _ => ?_))
      | exact ih0 _ _ _ _
      | exact ih1 _ _ _
      | exact LeO.none _
      | refine LeO.ite ?_ ?_
      | refine LeO.bind ?_ (fun _ => ?_)
    · intro y0 y1 y2
      unfold impl_span.j1
      repeat' first
      | (with_reducible exact ih0 _ _ _ _)
      | (with_reducible exact ih1 _ _ _)
      | (with_reducible exact LeO.refl _)
      | (with_reducible exact LeO.none _)
      | (with_reducible refine LeO.ite ?_ ?_)
      | (with_reducible refine LeO.bind ?_ (fun _ => ?_))
      | exact ih0 _ _ _ _
      | exact ih1 _ _ _
      | exact LeO.none _
      | refine LeO.ite ?_ ?_
      | refine LeO.bind ?_ (fun _ => ?_)
theorem impl_span.mono : ∀ a0 a1 a2 k, LeO (impl_span.f k a0 a1 a2) (impl_span.f (k + 1) a0 a1 a2) := by
  intro a0 a1 a2 k
  obtain ⟨ih0, ih1⟩ := impl_span.mono_l k
  unfold impl_span.f
  repeat' first
      | (with_reducible exact ih0 _ _ _ _)
      | (with_reducible exact ih1 _ _ _)
      | (with_reducible exact LeO.refl _)
      | (with_reducible exact LeO.none _)
      | (with_reducible refine LeO.ite ?_ ?_)
      | (with_reducible refine LeO.bind ?_ (fun _ => ?_))
      | exact ih0 _ _ _ _
      | exact ih1 _ _ _
      | exact LeO.none _
      | refine LeO.ite ?_ ?_
      | refine LeO.bind ?_ (fun _ => ?_)
def impl_ScoresAt.f (k : Nat) (l0 : List (S40)) (a1 : Int) (a2 : Int) : Option ((List (S40))) := (impl_ScoresOk.f k l0).bind fun t338 => (if t338 = true then ((impl_span.f k (l0.length : Int) a1 a2).bind fun bt339 => (if 0 ≤ bt339.1 then (if bt339.1 ≤ bt339.2 then (if bt339.2 ≤ (l0.length : Int) then ((impl_copiedScores.f ((l0.take (bt339.2 : Int).toNat).drop (bt339.1 : Int).toNat)).bind fun t345 => (some t345)) else (none)) else (none)) else (none))) else (some (([] : List (S40)))))
theorem impl_ScoresAt.mono : ∀ a0 a1 a2 k, LeO (impl_ScoresAt.f k a0 a1 a2) (impl_ScoresAt.f (k + 1) a0 a1 a2) := by
  intro a0 a1 a2 k
  unfold impl_ScoresAt.f
  repeat' first
      | (with_reducible exact impl_ScoresOk.mono _ _)
      | (with_reducible exact impl_span.mono _ _ _ _)
      | (with_reducible exact LeO.refl _)
      | (with_reducible exact LeO.none _)
      | (with_reducible refine LeO.ite ?_ ?_)
      | (with_reducible refine LeO.bind ?_ (fun _ => ?_))
      | exact impl_ScoresOk.mono _ _
      | exact impl_span.mono _ _ _ _
      | exact LeO.none _
      | refine LeO.ite ?_ ?_
      | refine LeO.bind ?_ (fun _ => ?_)
def laws_FnExactScoresAt.j0 : Nat → List (S46) → Int → Int → List (S40) → List (S40) → Bool → Option (Bool)
  | 0, _, _, _, _, _, _ => none
  | k + 1, x0, x1, x2, x8, x10, x50 => if x50 = true then (some false) else ((laws_markScoreS.f k x10 1).bind fun bt372 => ((laws_heldScoreS.f k bt372.2 1).bind fun t374 => (if t374 < 0 then (some false) else (if t374 = bt372.1 then ((laws_toScoreS.f k x0).bind fun t375 => ((impl_ScoresAt.f k t375 x1 x2).bind fun t378 => ((laws_eqScoreS.f k t378 x8).bind fun t381 => (if t381 = true then ((laws_heldScoreS.f k bt372.2 1).bind fun t382 => (if t382 < 0 then (some false) else (if t382 = bt372.1 then (some true) else (some false)))) else (some false))))) else (some false)))))
def laws_FnExactScoresAt.f (k : Nat) (l0 : List (S46)) (a1 : Int) (a2 : Int) : Option (Bool) := (laws_szScoreS.f k l0 1048576).bind fun t351 => (if t351 < 0 then (some true) else ((laws_toScoreS.f k l0).bind fun t352 => ((spec_ScoresAt.f k t352 a1 a2).bind fun t355 => ((laws_toScoreS.f k l0).bind fun t358 => ((impl_ScoresAt.f k t358 a1 a2).bind fun t361 => ((laws_eqScoreS.f k t361 t355).bind fun t364 => (if t364 = true then ((laws_toScoreS.f k l0).bind fun t365 => ((laws_eqScoreS.f k t358 t365).bind fun t368 => (if t368 = true then ((laws_markScoreS.f k t358 1).bind fun bt369 => (if bt369.1 < 0 then (laws_FnExactScoresAt.j0 k l0 a1 a2 t355 t361 true) else ((laws_eqScoreS.f k t361 t355).bind fun t371 => (laws_FnExactScoresAt.j0 k l0 a1 a2 t355 t361 (!t371))))) else (some false)))) else (some false))))))))
theorem laws_FnExactScoresAt.mono_l : ∀ k, (∀ y0 y1 y2 y3 y4 y5, LeO (laws_FnExactScoresAt.j0 k y0 y1 y2 y3 y4 y5) (laws_FnExactScoresAt.j0 (k + 1) y0 y1 y2 y3 y4 y5))
  | 0 => fun _ _ _ _ _ _ r h => by simp [laws_FnExactScoresAt.j0] at h
  | k + 1 => by
    have ih0 := laws_FnExactScoresAt.mono_l k
    · intro y0 y1 y2 y3 y4 y5
      unfold laws_FnExactScoresAt.j0
      repeat' first
      | (with_reducible exact ih0 _ _ _ _ _ _)
      | (with_reducible exact impl_ScoresAt.mono _ _ _ _)
      | (with_reducible exact laws_eqScoreS.mono _ _ _)
      | (with_reducible exact laws_heldScoreS.mono _ _ _)
      | (with_reducible exact laws_markScoreS.mono _ _ _)
      | (with_reducible exact laws_szScoreS.mono _ _ _)
      | (with_reducible exact laws_toScoreS.mono _ _)
      | (with_reducible exact spec_ScoresAt.mono _ _ _ _)
      | (with_reducible exact LeO.refl _)
      | (with_reducible exact LeO.none _)
      | (with_reducible refine LeO.ite ?_ ?_)
      | (with_reducible refine LeO.bind ?_ (fun _ => ?_))
      | exact ih0 _ _ _ _ _ _
      | exact impl_ScoresAt.mono _ _ _ _
      | exact laws_eqScoreS.mono _ _ _
      | exact laws_heldScoreS.mono _ _ _
      | exact laws_markScoreS.mono _ _ _
      | exact laws_szScoreS.mono _ _ _
      | exact laws_toScoreS.mono _ _
      | exact spec_ScoresAt.mono _ _ _ _
      | exact LeO.none _
      | refine LeO.ite ?_ ?_
      | refine LeO.bind ?_ (fun _ => ?_)
theorem laws_FnExactScoresAt.mono : ∀ a0 a1 a2 k, LeO (laws_FnExactScoresAt.f k a0 a1 a2) (laws_FnExactScoresAt.f (k + 1) a0 a1 a2) := by
  intro a0 a1 a2 k
  have ih0 := laws_FnExactScoresAt.mono_l k
  unfold laws_FnExactScoresAt.f
  repeat' first
      | (with_reducible exact ih0 _ _ _ _ _ _)
      | (with_reducible exact impl_ScoresAt.mono _ _ _ _)
      | (with_reducible exact laws_eqScoreS.mono _ _ _)
      | (with_reducible exact laws_heldScoreS.mono _ _ _)
      | (with_reducible exact laws_markScoreS.mono _ _ _)
      | (with_reducible exact laws_szScoreS.mono _ _ _)
      | (with_reducible exact laws_toScoreS.mono _ _)
      | (with_reducible exact spec_ScoresAt.mono _ _ _ _)
      | (with_reducible exact LeO.refl _)
      | (with_reducible exact LeO.none _)
      | (with_reducible refine LeO.ite ?_ ?_)
      | (with_reducible refine LeO.bind ?_ (fun _ => ?_))
      | exact ih0 _ _ _ _ _ _
      | exact impl_ScoresAt.mono _ _ _ _
      | exact laws_eqScoreS.mono _ _ _
      | exact laws_heldScoreS.mono _ _ _
      | exact laws_markScoreS.mono _ _ _
      | exact laws_szScoreS.mono _ _ _
      | exact laws_toScoreS.mono _ _
      | exact spec_ScoresAt.mono _ _ _ _
      | exact LeO.none _
      | refine LeO.ite ?_ ?_
      | refine LeO.bind ?_ (fun _ => ?_)
def IsS82 (w0 W : World) (g : Nat) (f0 : List Int) (f1 : Int) : Prop := ∃ A0 c0, W.heap[g]? = some (.cells #[.slice A0 f0.length c0, .int .i64 f1] 82 (0, 0)) ∧ w0.heap.size ≤ g ∧ Kd.C (Kd.int .u8) w0 A0 f0.length f0
theorem IsS82.grown {w0 W : World} {g : Nat} {f0 : List Int} {f1 : Int} {W1 : World} {row : Option Nat} (h : IsS82 w0 W g f0 f1) (hw : W.grownBy W1 row) (hne : some g ≠ row) : IsS82 w0 W1 g f0 f1 := by
  obtain ⟨A0, c0, hb, hg, hr0⟩ := h
  exact ⟨A0, c0, blk_grown hb hw hne, hg, hr0⟩
theorem IsS82.fresh {w0 W : World} {g : Nat} {f0 : List Int} {f1 : Int} (h : IsS82 w0 W g f0 f1) : ∀ k, W.heap.size ≤ k → k ≠ g := by
  obtain ⟨A0, c0, hb, hg, hr0⟩ := h
  exact Kd.freshB hb
theorem IsS82.kept {w0 W : World} {g : Nat} {f0 : List Int} {f1 : Int} {W1 : World} {S : Nat → Prop} (h : IsS82 w0 W g f0 f1) (hk : Kept W W1 S) (hne : ¬ S g) : IsS82 w0 W1 g f0 f1 := by
  obtain ⟨A0, c0, hb, hg, hr0⟩ := h
  exact ⟨A0, c0, blk_kept hb hk hne, hg, hr0⟩
theorem IsS82.below {w0 W : World} {g : Nat} {f0 : List Int} {f1 : Int} {W1 : World} (h : IsS82 w0 W g f0 f1) (hw : Below W.heap.size W W1) : IsS82 w0 W1 g f0 f1 := h.grown (grown_of_below hw none) (by simp)
theorem IsS82.alloc {w0 W : World} {g : Nat} {f0 : List Int} {f1 : Int} (h : IsS82 w0 W g f0 f1) (o : Obj) : IsS82 w0 (W.alloc o) g f0 f1 := h.below (below_alloc (Below.refl _ _) o)
theorem IsS82.drewN {w0 W : World} {g : Nat} {f0 : List Int} {f1 : Int} (h : IsS82 w0 W g f0 f1) (m : Nat) : IsS82 w0 (W.drewN m) g f0 f1 := h
theorem IsS82.drew {w0 W : World} {g : Nat} {f0 : List Int} {f1 : Int} (h : IsS82 w0 W g f0 f1) : IsS82 w0 W.drew g f0 f1 := h
theorem IsS82.at_ {w0 W : World} {g : Nat} {f0 : List Int} {f1 : Int} {w' : World} {m : Nat} (hq : W.drewN m = w') (h : IsS82 w0 W g f0 f1) : IsS82 w0 w' g f0 f1 := by subst hq; exact IsS82.drewN h m
theorem IsS82.apart {w0 W : World} {g : Nat} {f0 : List Int} {f1 : Int} {α : Type} {d : Kd α} {e : Nat} {base : Nat} {ok : Nat → Prop} {v : Value} {xs : List α} (h : IsS82 w0 W g f0 f1) (ho : d.R e W base ok v xs) (ht : ∀ q, q ∈ e :: d.E → q ≠ 82) : d.R e W base (fun k => ok k ∧ k ≠ g) v xs := by
  obtain ⟨A0, c0, hb, hg, hr0⟩ := h
  exact Kd.R_types ho hb ht
theorem IsS82.own_ne {w0 W : World} {g : Nat} {f0 : List Int} {f1 : Int} {α : Type} {d : Kd α} {e : Nat} {base : Nat} {ok : Nat → Prop} {v : Value} {xs : List α} (h : IsS82 w0 W g f0 f1) (ho : d.R e W base ok v xs) (ht : e ≠ 82) : some g ≠ v.ownBlock := by
  obtain ⟨A0, c0, hb, hg, hr0⟩ := h
  exact Kd.R_ne ho hb ht
theorem IsS82.lt {w0 W : World} {g : Nat} {f0 : List Int} {f1 : Int} (h : IsS82 w0 W g f0 f1) : g < W.heap.size := by
  obtain ⟨A0, c0, hb, hg, hr0⟩ := h
  exact blk_lt hb
theorem IsS82.ge {w0 W : World} {g : Nat} {f0 : List Int} {f1 : Int} (h : IsS82 w0 W g f0 f1) : w0.heap.size ≤ g := by
  obtain ⟨A0, c0, hb, hg, hr0⟩ := h
  exact hg
theorem IsS82.ne_blk {w0 W : World} {g : Nat} {f0 : List Int} {f1 : Int} {a : Nat} {cs : Array Value} {t : TypeId} {fr : Nat × Nat} (h : IsS82 w0 W g f0 f1) (hb2 : W.heap[a]? = some (.cells cs t fr)) (ht : t ≠ 82) : g ≠ a := by
  obtain ⟨A0, c0, hb, hg, hr0⟩ := h
  rintro rfl
  rw [hb] at hb2
  injection hb2 with hb2
  injection hb2 with _ ht2
  exact ht ht2.symm
theorem IsS82.far {w0 W : World} {g : Nat} {f0 : List Int} {f1 : Int} {p : Addr} (h : IsS82 w0 W g f0 f1) (hne : g ≠ p.block) (u : Value) : IsS82 w0 (W.setCell p u) g f0 f1 := by
  obtain ⟨A0, c0, hb, hg, hr0⟩ := h
  exact ⟨A0, c0, blk_far hb hne u, hg, hr0⟩
theorem cellS82_0 {W : World} {g : Nat} {A0 : Option Addr} {c0 : Nat} {f0 : List Int} {f1 : Int} (h : W.heap[g]? = some (.cells #[.slice A0 f0.length c0, .int .i64 f1] 82 (0, 0))) : W.cell? ⟨g, 0, none⟩ = some (.slice A0 f0.length c0) := (blk_cell h 0).trans rfl
theorem cellS82_1 {W : World} {g : Nat} {A0 : Option Addr} {c0 : Nat} {f0 : List Int} {f1 : Int} (h : W.heap[g]? = some (.cells #[.slice A0 f0.length c0, .int .i64 f1] 82 (0, 0))) : W.cell? ⟨g, 1, none⟩ = some (.int .i64 f1) := (blk_cell h 1).trans rfl
theorem IsS82.set_1 {w0 W : World} {g : Nat} {f0 : List Int} {f1 : Int} (h : IsS82 w0 W g f0 f1) (x : Int) : IsS82 w0 (W.setCell ⟨g, 1, none⟩ (.int .i64 x)) g f0 x := by
  obtain ⟨A0, c0, hb, hg, hr0⟩ := h
  exact ⟨A0, c0, by simpa using blk_set hb 1 (.int .i64 x), hg, hr0⟩
def spec_l1Open.f (l0 : List Int) : Option (List Int × Int) := if (l0.length : Int) > 2000 then (if 2000 ≤ (l0.length : Int) then (some (l0.take 2000, 0)) else (none)) else (some (l0, 0))
def spec_l1Rd_pick.j0 : Nat → Int → Bool → List Int → Int → Option (Int × Int)
  | 0, _, _, _, _ => none
  | k + 1, x1, x24, x1000, x1001 => if x24 = true then (some (0, x1001)) else (if (wrap64 (x1001 - 1)) < (x1000.length : Int) then (if 0 ≤ (wrap64 (x1001 - 1)) then (if x1 = 0 then (none) else (some (Int.tmod (wrap64 (rd x1000 (wrap64 (x1001 - 1)))) x1, x1001))) else (none)) else (if (x1000.length : Int) = 0 then (none) else (if 0 ≤ (Int.tmod (wrap64 (x1001 - 1)) (x1000.length : Int)) then (if (Int.tmod (wrap64 (x1001 - 1)) (x1000.length : Int)) < (x1000.length : Int) then (if 0 ≤ (Int.tmod (wrap64 ((wrap64 ((wrap64 (x1001 - 1)) * 7)) + 3)) (x1000.length : Int)) then (if (Int.tmod (wrap64 ((wrap64 ((wrap64 (x1001 - 1)) * 7)) + 3)) (x1000.length : Int)) < (x1000.length : Int) then (if x1 = 0 then (none) else (some (Int.tmod (Go.bits .xor .i64 (wrap64 ((wrap64 ((wrap64 ((wrap64 ((wrap64 (rd x1000 (Int.tmod (wrap64 (x1001 - 1)) (x1000.length : Int)))) * 131)) + (wrap64 ((wrap64 (rd x1000 (Int.tmod (wrap64 ((wrap64 ((wrap64 (x1001 - 1)) * 7)) + 3)) (x1000.length : Int)))) * 1117)))) + (wrap64 ((wrap64 (x1001 - 1)) * 29)))) + (wrap64 ((wrap64 (Int.tdiv (wrap64 (x1001 - 1)) (x1000.length : Int))) * 53)))) (wrap64 (Int.tdiv (wrap64 ((wrap64 ((wrap64 ((wrap64 ((wrap64 (rd x1000 (Int.tmod (wrap64 (x1001 - 1)) (x1000.length : Int)))) * 131)) + (wrap64 ((wrap64 (rd x1000 (Int.tmod (wrap64 ((wrap64 ((wrap64 (x1001 - 1)) * 7)) + 3)) (x1000.length : Int)))) * 1117)))) + (wrap64 ((wrap64 (x1001 - 1)) * 29)))) + (wrap64 ((wrap64 (Int.tdiv (wrap64 (x1001 - 1)) (x1000.length : Int))) * 53)))) 64))) x1, x1001))) else (none)) else (none)) else (none)) else (none))))
def spec_l1Rd_pick.f (k : Nat) (s0_0 : List Int) (s0_1 : Int) (a1 : Int) : Option (Int × Int) := if a1 < 1 then (spec_l1Rd_pick.j0 k a1 true s0_0 (wrap64 (s0_1 + 1))) else (spec_l1Rd_pick.j0 k a1 ((s0_0.length : Int) == 0) s0_0 (wrap64 (s0_1 + 1)))
theorem spec_l1Rd_pick.mono_l : ∀ k, (∀ y0 y1 y2 y3, LeO (spec_l1Rd_pick.j0 k y0 y1 y2 y3) (spec_l1Rd_pick.j0 (k + 1) y0 y1 y2 y3))
  | 0 => fun _ _ _ _ r h => by simp [spec_l1Rd_pick.j0] at h
  | k + 1 => by
    have ih0 := spec_l1Rd_pick.mono_l k
    · intro y0 y1 y2 y3
      unfold spec_l1Rd_pick.j0
      repeat' first
      | (with_reducible exact ih0 _ _ _ _)
      | (with_reducible exact LeO.refl _)
      | (with_reducible exact LeO.none _)
      | (with_reducible refine LeO.ite ?_ ?_)
      | (with_reducible refine LeO.bind ?_ (fun _ => ?_))
      | exact ih0 _ _ _ _
      | exact LeO.none _
      | refine LeO.ite ?_ ?_
      | refine LeO.bind ?_ (fun _ => ?_)
theorem spec_l1Rd_pick.mono : ∀ a0 a1 a2 k, LeO (spec_l1Rd_pick.f k a0 a1 a2) (spec_l1Rd_pick.f (k + 1) a0 a1 a2) := by
  intro a0 a1 a2 k
  have ih0 := spec_l1Rd_pick.mono_l k
  unfold spec_l1Rd_pick.f
  repeat' first
      | (with_reducible exact ih0 _ _ _ _)
      | (with_reducible exact LeO.refl _)
      | (with_reducible exact LeO.none _)
      | (with_reducible refine LeO.ite ?_ ?_)
      | (with_reducible refine LeO.bind ?_ (fun _ => ?_))
      | exact ih0 _ _ _ _
      | exact LeO.none _
      | refine LeO.ite ?_ ?_
      | refine LeO.bind ?_ (fun _ => ?_)
def spec_l1Rd_of.f (k : Nat) (s0_0 : List Int) (s0_1 : Int) (l1 : List ByteArray) : Option (ByteArray × Int) := (spec_l1Rd_pick.f k s0_0 s0_1 (l1.length : Int)).bind fun bt389 => (if 0 ≤ bt389.1 then (if bt389.1 < (l1.length : Int) then (some (rdOf ByteArray.empty l1 bt389.1, bt389.2)) else (none)) else (none))
theorem spec_l1Rd_of.mono : ∀ a0 a1 a2 k, LeO (spec_l1Rd_of.f k a0 a1 a2) (spec_l1Rd_of.f (k + 1) a0 a1 a2) := by
  intro a0 a1 a2 k
  unfold spec_l1Rd_of.f
  repeat' first
      | (with_reducible exact spec_l1Rd_pick.mono _ _ _ _)
      | (with_reducible exact LeO.refl _)
      | (with_reducible exact LeO.none _)
      | (with_reducible refine LeO.ite ?_ ?_)
      | (with_reducible refine LeO.bind ?_ (fun _ => ?_))
      | exact spec_l1Rd_pick.mono _ _ _ _
      | exact LeO.none _
      | refine LeO.ite ?_ ?_
      | refine LeO.bind ?_ (fun _ => ?_)
def spec_l1Many.l0 : Nat → ByteArray → Int → ByteArray → Option (ByteArray)
  | 0, _, _, _ => none
  | k + 1, x0, x1, x5 => if x1 > 0 then (if (Int.tmod x1 2) = 1 then (if x5.size + x0.size ≤ 9223372036854775807 then (if x0.size + x0.size ≤ 9223372036854775807 then (spec_l1Many.l0 k (x0 ++ x0) (wrap64 (Int.tdiv x1 2)) (x5 ++ x0)) else (none)) else (none)) else (if x0.size + x0.size ≤ 9223372036854775807 then (spec_l1Many.l0 k (x0 ++ x0) (wrap64 (Int.tdiv x1 2)) x5) else (none))) else (some x5)
def spec_l1Many.f (k : Nat) (a0 : ByteArray) (a1 : Int) : Option (ByteArray) := spec_l1Many.l0 k a0 a1 (⟨#[]⟩ : ByteArray)
theorem spec_l1Many.mono_l : ∀ k, (∀ y0 y1 y2, LeO (spec_l1Many.l0 k y0 y1 y2) (spec_l1Many.l0 (k + 1) y0 y1 y2))
  | 0 => fun _ _ _ r h => by simp [spec_l1Many.l0] at h
  | k + 1 => by
    have ih0 := spec_l1Many.mono_l k
    · intro y0 y1 y2
      unfold spec_l1Many.l0
      repeat' first
      | (with_reducible exact ih0 _ _ _)
      | (with_reducible exact LeO.refl _)
      | (with_reducible exact LeO.none _)
      | (with_reducible refine LeO.ite ?_ ?_)
      | (with_reducible refine LeO.bind ?_ (fun _ => ?_))
      | exact ih0 _ _ _
      | exact LeO.none _
      | refine LeO.ite ?_ ?_
      | refine LeO.bind ?_ (fun _ => ?_)
theorem spec_l1Many.mono : ∀ a0 a1 k, LeO (spec_l1Many.f k a0 a1) (spec_l1Many.f (k + 1) a0 a1) := by
  intro a0 a1 k
  have ih0 := spec_l1Many.mono_l k
  unfold spec_l1Many.f
  repeat' first
      | (with_reducible exact ih0 _ _ _)
      | (with_reducible exact LeO.refl _)
      | (with_reducible exact LeO.none _)
      | (with_reducible refine LeO.ite ?_ ?_)
      | (with_reducible refine LeO.bind ?_ (fun _ => ?_))
      | exact ih0 _ _ _
      | exact LeO.none _
      | refine LeO.ite ?_ ?_
      | refine LeO.bind ?_ (fun _ => ?_)
def spec_l11Text.f (k : Nat) (s0_0 : List Int) (s0_1 : Int) : Option (ByteArray × Int) := (spec_l1Many.f k (⟨#[120]⟩ : ByteArray) 40).bind fun t392 => ((spec_l1Rd_of.f k s0_0 s0_1 (([(⟨#[]⟩ : ByteArray), (⟨#[97]⟩ : ByteArray), (⟨#[98]⟩ : ByteArray), (⟨#[99]⟩ : ByteArray), (⟨#[53]⟩ : ByteArray), (⟨#[45, 51]⟩ : ByteArray), (⟨#[104, 101, 108, 108, 111]⟩ : ByteArray), (⟨#[13, 10]⟩ : ByteArray), (⟨#[255]⟩ : ByteArray), t392, (⟨#[57, 57, 57, 57, 57, 57, 57, 57, 57]⟩ : ByteArray)] : List ByteArray))).bind fun bt396 => (some (bt396.1, bt396.2)))
theorem spec_l11Text.mono : ∀ a0 a1 k, LeO (spec_l11Text.f k a0 a1) (spec_l11Text.f (k + 1) a0 a1) := by
  intro a0 a1 k
  unfold spec_l11Text.f
  repeat' first
      | (with_reducible exact spec_l1Many.mono _ _ _)
      | (with_reducible exact spec_l1Rd_of.mono _ _ _ _)
      | (with_reducible exact LeO.refl _)
      | (with_reducible exact LeO.none _)
      | (with_reducible refine LeO.ite ?_ ?_)
      | (with_reducible refine LeO.bind ?_ (fun _ => ?_))
      | exact spec_l1Many.mono _ _ _
      | exact spec_l1Rd_of.mono _ _ _ _
      | exact LeO.none _
      | refine LeO.ite ?_ ?_
      | refine LeO.bind ?_ (fun _ => ?_)
def spec_l1Rd_one.f (k : Nat) (s0_0 : List Int) (s0_1 : Int) (l1 : List Int) : Option (Int × Int) := (spec_l1Rd_pick.f k s0_0 s0_1 (l1.length : Int)).bind fun bt398 => (if 0 ≤ bt398.1 then (if bt398.1 < (l1.length : Int) then (some (rd l1 bt398.1, bt398.2)) else (none)) else (none))
theorem spec_l1Rd_one.mono : ∀ a0 a1 a2 k, LeO (spec_l1Rd_one.f k a0 a1 a2) (spec_l1Rd_one.f (k + 1) a0 a1 a2) := by
  intro a0 a1 a2 k
  unfold spec_l1Rd_one.f
  repeat' first
      | (with_reducible exact spec_l1Rd_pick.mono _ _ _ _)
      | (with_reducible exact LeO.refl _)
      | (with_reducible exact LeO.none _)
      | (with_reducible refine LeO.ite ?_ ?_)
      | (with_reducible refine LeO.bind ?_ (fun _ => ?_))
      | exact spec_l1Rd_pick.mono _ _ _ _
      | exact LeO.none _
      | refine LeO.ite ?_ ?_
      | refine LeO.bind ?_ (fun _ => ?_)
mutual
def spec_ScoresPut.j1 : Nat → List (S40) → List (S40) → Int → ByteArray → Int → Option ((List (S40)) × Bool × Bool)
  | 0, _, _, _, _, _ => none
  | k + 1, x0, x7, x8, x402000, x402001 => (some (([] : List (S40)) : List (S40))).bind fun y411 => (if 0 ≤ x8 then (if x8 ≤ (x7.length : Int) then ((some (x7.take (x8 : Int).toNat : List (S40))).bind fun y414 => (if y411.length + y414.length < 5864062014805 then ((some (y411 ++ y414 : List (S40))).bind fun y418 => ((some (([(⟨x402000, x402001⟩ : S40)] : List (S40)) : List (S40))).bind fun y421 => (if y418.length + y421.length < 5864062014805 then ((some (y418 ++ y421 : List (S40))).bind fun y424 => ((some (x7.drop (x8 : Int).toNat : List (S40))).bind fun y427 => (if y424.length + y427.length < 5864062014805 then ((some (y424 ++ y427 : List (S40))).bind fun y431 => ((spec_ScoresOk.f k y431).bind fun t434 => (if t434 = true then (some (y431, ((x7.length : Int) == (x0.length : Int)), true)) else ((some (([] : List (S40)) : List (S40))).bind fun y435 => (if y435.length + x0.length < 5864062014805 then (some ((y435 ++ x0), false, false)) else (none)))))) else (none)))) else (none)))) else (none))) else (none)) else (none))
def spec_ScoresPut.l0 : Nat → List (S40) → List (S40) → Int → ByteArray → Int → Option ((List (S40)) × Bool × Bool)
  | 0, _, _, _, _, _ => none
  | k + 1, x0, x7, x8, x402000, x402001 => if x8 < (x7.length : Int) then (if 0 ≤ x8 then ((spec_l3Ahead.f ((rd_T40 x7 x8).f0) ((rd_T40 x7 x8).f1) x402000 x402001).bind fun t410 => (if t410 = true then (spec_ScoresPut.l0 k x0 x7 (wrap64 (x8 + 1)) x402000 x402001) else (spec_ScoresPut.j1 k x0 x7 x8 x402000 x402001))) else (none)) else (spec_ScoresPut.j1 k x0 x7 x8 x402000 x402001)
end
def spec_ScoresPut.f (k : Nat) (l0 : List (S40)) (a1_0 : ByteArray) (a1_1 : Int) : Option ((List (S40)) × Bool × Bool) := (spec_ScoresOk.f k l0).bind fun t402 => (if t402 = true then ((spec_l3Without.f k l0 a1_0).bind fun t406 => (spec_ScoresPut.l0 k l0 t406 0 a1_0 a1_1)) else (some ((([] : List (S40))), false, false)))
theorem spec_ScoresPut.mono_l : ∀ k, (∀ y0 y1 y2 y3 y4, LeO (spec_ScoresPut.j1 k y0 y1 y2 y3 y4) (spec_ScoresPut.j1 (k + 1) y0 y1 y2 y3 y4)) ∧ (∀ y0 y1 y2 y3 y4, LeO (spec_ScoresPut.l0 k y0 y1 y2 y3 y4) (spec_ScoresPut.l0 (k + 1) y0 y1 y2 y3 y4))
  | 0 => ⟨fun _ _ _ _ _ r h => by simp [spec_ScoresPut.j1] at h, fun _ _ _ _ _ r h => by simp [spec_ScoresPut.l0] at h⟩
  | k + 1 => by
    obtain ⟨ih0, ih1⟩ := spec_ScoresPut.mono_l k
    refine ⟨?_, ?_⟩
    · intro y0 y1 y2 y3 y4
      unfold spec_ScoresPut.j1
      repeat' first
      | (with_reducible exact ih0 _ _ _ _ _)
      | (with_reducible exact ih1 _ _ _ _ _)
      | (with_reducible exact spec_ScoresOk.mono _ _)
      | (with_reducible exact spec_l3Without.mono _ _ _)
      | (with_reducible exact LeO.refl _)
      | (with_reducible exact LeO.none _)
      | (with_reducible refine LeO.ite ?_ ?_)
      | (with_reducible refine LeO.bind ?_ (fun _ => ?_))
      | exact ih0 _ _ _ _ _
      | exact ih1 _ _ _ _ _
      | exact spec_ScoresOk.mono _ _
      | exact spec_l3Without.mono _ _ _
      | exact LeO.none _
      | refine LeO.ite ?_ ?_
      | refine LeO.bind ?_ (fun _ => ?_)
    · intro y0 y1 y2 y3 y4
      unfold spec_ScoresPut.l0
      repeat' first
      | (with_reducible exact ih0 _ _ _ _ _)
      | (with_reducible exact ih1 _ _ _ _ _)
      | (with_reducible exact spec_ScoresOk.mono _ _)
      | (with_reducible exact spec_l3Without.mono _ _ _)
      | (with_reducible exact LeO.refl _)
      | (with_reducible exact LeO.none _)
      | (with_reducible refine LeO.ite ?_ ?_)
      | (with_reducible refine LeO.bind ?_ (fun _ => ?_))
      | exact ih0 _ _ _ _ _
      | exact ih1 _ _ _ _ _
      | exact spec_ScoresOk.mono _ _
      | exact spec_l3Without.mono _ _ _
      | exact LeO.none _
      | refine LeO.ite ?_ ?_
      | refine LeO.bind ?_ (fun _ => ?_)
theorem spec_ScoresPut.mono : ∀ a0 a1 a2 k, LeO (spec_ScoresPut.f k a0 a1 a2) (spec_ScoresPut.f (k + 1) a0 a1 a2) := by
  intro a0 a1 a2 k
  obtain ⟨ih0, ih1⟩ := spec_ScoresPut.mono_l k
  unfold spec_ScoresPut.f
  repeat' first
      | (with_reducible exact ih0 _ _ _ _ _)
      | (with_reducible exact ih1 _ _ _ _ _)
      | (with_reducible exact spec_ScoresOk.mono _ _)
      | (with_reducible exact spec_l3Without.mono _ _ _)
      | (with_reducible exact LeO.refl _)
      | (with_reducible exact LeO.none _)
      | (with_reducible refine LeO.ite ?_ ?_)
      | (with_reducible refine LeO.bind ?_ (fun _ => ?_))
      | exact ih0 _ _ _ _ _
      | exact ih1 _ _ _ _ _
      | exact spec_ScoresOk.mono _ _
      | exact spec_l3Without.mono _ _ _
      | exact LeO.none _
      | refine LeO.ite ?_ ?_
      | refine LeO.bind ?_ (fun _ => ?_)
def spec_l1Dec.f : Nat → Int → Option (ByteArray)
  | 0, _ => none
  | k + 1, a0 => if a0 < (-9223372036854775807) then (some (⟨#[45, 57, 50, 50, 51, 51, 55, 50, 48, 51, 54, 56, 53, 52, 55, 55, 53, 56, 48, 56]⟩ : ByteArray)) else (if a0 < 0 then ((spec_l1Dec.f k (wrap64 (-a0))).bind fun t441 => (if 1 + t441.size ≤ 9223372036854775807 then (some ((⟨#[45]⟩ : ByteArray) ++ t441)) else (none))) else (if a0 < 10 then (some (strOfNums (([(wrap64 (48 + a0)) % 256] : List Int)))) else ((spec_l1Dec.f k (wrap64 (Int.tdiv a0 10))).bind fun t445 => ((some (([(wrap64 (48 + (Int.tmod a0 10))) % 256] : List Int) : List Int)).bind fun y446 => (if t445.size + (strOfNums y446).size ≤ 9223372036854775807 then (some (t445 ++ (strOfNums y446))) else (none))))))
theorem spec_l1Dec.mono_l : ∀ k, (∀ y0, LeO (spec_l1Dec.f k y0) (spec_l1Dec.f (k + 1) y0))
  | 0 => fun _ r h => by simp [spec_l1Dec.f] at h
  | k + 1 => by
    have ih0 := spec_l1Dec.mono_l k
    · intro y0
      unfold spec_l1Dec.f
      repeat' first
      | (with_reducible exact ih0 _)
      | (with_reducible exact LeO.refl _)
      | (with_reducible exact LeO.none _)
      | (with_reducible refine LeO.ite ?_ ?_)
      | (with_reducible refine LeO.bind ?_ (fun _ => ?_))
      | exact ih0 _
      | exact LeO.none _
      | refine LeO.ite ?_ ?_
      | refine LeO.bind ?_ (fun _ => ?_)
theorem spec_l1Dec.mono : ∀ a0 k, LeO (spec_l1Dec.f k a0) (spec_l1Dec.f (k + 1) a0) := by
  intro a0 k
  have ih0 := spec_l1Dec.mono_l k
  exact ih0 a0
mutual
def spec_l11Scores.l0 : Nat → List (S40) → Int → List Int → Int → Option ((List (S40)) × Int)
  | 0, _, _, _, _ => none
  | k + 1, x3, x4, x1000, x1001 => if x4 > 0 then ((spec_l11Text.f k x1000 x1001).bind fun bt454 => ((spec_l1Rd_one.f k x1000 bt454.2 (([0, 1, 1, 2, (-5), 7, 1000000000] : List Int))).bind fun bt459 => ((spec_ScoresPut.f k x3 bt454.1 bt459.1).bind fun bt461 => (spec_l11Scores.l0 k bt461.1 (wrap64 (x4 - 1)) x1000 bt459.2)))) else ((spec_l1Rd_pick.f k x1000 x1001 30).bind fun bt466 => (if bt466.1 = 0 then (spec_l11Scores.l1 k x3 0 x1000 bt466.2) else (some (x3, bt466.2))))
def spec_l11Scores.l1 : Nat → List (S40) → Int → List Int → Int → Option ((List (S40)) × Int)
  | 0, _, _, _, _ => none
  | k + 1, x3, x5, x1000, x1001 => if (x3.length : Int) < 16 then ((spec_l1Dec.f k x5).bind fun t468 => (if 1 + t468.size ≤ 9223372036854775807 then ((spec_ScoresPut.f k x3 ((⟨#[110]⟩ : ByteArray) ++ t468) (Int.tmod x5 3)).bind fun bt469 => (spec_l11Scores.l1 k bt469.1 (wrap64 (x5 + 1)) x1000 x1001)) else (none))) else (some (x3, x1001))
end
def spec_l11Scores.f (k : Nat) (s0_0 : List Int) (s0_1 : Int) : Option ((List (S40)) × Int) := (spec_l1Rd_pick.f k s0_0 s0_1 7).bind fun bt452 => (spec_l11Scores.l0 k (([] : List (S40))) bt452.1 s0_0 bt452.2)
theorem spec_l11Scores.mono_l : ∀ k, (∀ y0 y1 y2 y3, LeO (spec_l11Scores.l0 k y0 y1 y2 y3) (spec_l11Scores.l0 (k + 1) y0 y1 y2 y3)) ∧ (∀ y0 y1 y2 y3, LeO (spec_l11Scores.l1 k y0 y1 y2 y3) (spec_l11Scores.l1 (k + 1) y0 y1 y2 y3))
  | 0 => ⟨fun _ _ _ _ r h => by simp [spec_l11Scores.l0] at h, fun _ _ _ _ r h => by simp [spec_l11Scores.l1] at h⟩
  | k + 1 => by
    obtain ⟨ih0, ih1⟩ := spec_l11Scores.mono_l k
    refine ⟨?_, ?_⟩
    · intro y0 y1 y2 y3
      unfold spec_l11Scores.l0
      repeat' first
      | (with_reducible exact ih0 _ _ _ _)
      | (with_reducible exact ih1 _ _ _ _)
      | (with_reducible exact spec_ScoresPut.mono _ _ _ _)
      | (with_reducible exact spec_l11Text.mono _ _ _)
      | (with_reducible exact spec_l1Dec.mono _ _)
      | (with_reducible exact spec_l1Rd_one.mono _ _ _ _)
      | (with_reducible exact spec_l1Rd_pick.mono _ _ _ _)
      | (with_reducible exact LeO.refl _)
      | (with_reducible exact LeO.none _)
      | (with_reducible refine LeO.ite ?_ ?_)
      | (with_reducible refine LeO.bind ?_ (fun _ => ?_))
      | exact ih0 _ _ _ _
      | exact ih1 _ _ _ _
      | exact spec_ScoresPut.mono _ _ _ _
      | exact spec_l11Text.mono _ _ _
      | exact spec_l1Dec.mono _ _
      | exact spec_l1Rd_one.mono _ _ _ _
      | exact spec_l1Rd_pick.mono _ _ _ _
      | exact LeO.none _
      | refine LeO.ite ?_ ?_
      | refine LeO.bind ?_ (fun _ => ?_)
    · intro y0 y1 y2 y3
      unfold spec_l11Scores.l1
      repeat' first
      | (with_reducible exact ih0 _ _ _ _)
      | (with_reducible exact ih1 _ _ _ _)
      | (with_reducible exact spec_ScoresPut.mono _ _ _ _)
      | (with_reducible exact spec_l11Text.mono _ _ _)
      | (with_reducible exact spec_l1Dec.mono _ _)
      | (with_reducible exact spec_l1Rd_one.mono _ _ _ _)
      | (with_reducible exact spec_l1Rd_pick.mono _ _ _ _)
      | (with_reducible exact LeO.refl _)
      | (with_reducible exact LeO.none _)
      | (with_reducible refine LeO.ite ?_ ?_)
      | (with_reducible refine LeO.bind ?_ (fun _ => ?_))
      | exact ih0 _ _ _ _
      | exact ih1 _ _ _ _
      | exact spec_ScoresPut.mono _ _ _ _
      | exact spec_l11Text.mono _ _ _
      | exact spec_l1Dec.mono _ _
      | exact spec_l1Rd_one.mono _ _ _ _
      | exact spec_l1Rd_pick.mono _ _ _ _
      | exact LeO.none _
      | refine LeO.ite ?_ ?_
      | refine LeO.bind ?_ (fun _ => ?_)
theorem spec_l11Scores.mono : ∀ a0 a1 k, LeO (spec_l11Scores.f k a0 a1) (spec_l11Scores.f (k + 1) a0 a1) := by
  intro a0 a1 k
  obtain ⟨ih0, ih1⟩ := spec_l11Scores.mono_l k
  unfold spec_l11Scores.f
  repeat' first
      | (with_reducible exact ih0 _ _ _ _)
      | (with_reducible exact ih1 _ _ _ _)
      | (with_reducible exact spec_ScoresPut.mono _ _ _ _)
      | (with_reducible exact spec_l11Text.mono _ _ _)
      | (with_reducible exact spec_l1Dec.mono _ _)
      | (with_reducible exact spec_l1Rd_one.mono _ _ _ _)
      | (with_reducible exact spec_l1Rd_pick.mono _ _ _ _)
      | (with_reducible exact LeO.refl _)
      | (with_reducible exact LeO.none _)
      | (with_reducible refine LeO.ite ?_ ?_)
      | (with_reducible refine LeO.bind ?_ (fun _ => ?_))
      | exact ih0 _ _ _ _
      | exact ih1 _ _ _ _
      | exact spec_ScoresPut.mono _ _ _ _
      | exact spec_l11Text.mono _ _ _
      | exact spec_l1Dec.mono _ _
      | exact spec_l1Rd_one.mono _ _ _ _
      | exact spec_l1Rd_pick.mono _ _ _ _
      | exact LeO.none _
      | refine LeO.ite ?_ ?_
      | refine LeO.bind ?_ (fun _ => ?_)
def spec_l11AnyScores.f (k : Nat) (s0_0 : List Int) (s0_1 : Int) : Option ((List (S40)) × Int) := (spec_l11Scores.f k s0_0 s0_1).bind fun bt474 => ((spec_l1Rd_pick.f k s0_0 bt474.2 10).bind fun bt478 => (if bt478.1 = 0 then ((spec_l11Text.f k s0_0 bt478.2).bind fun bt480 => ((spec_l1Rd_one.f k s0_0 bt480.2 (([0, 1000000001] : List Int))).bind fun bt485 => (if bt474.1.length < 5864062014805 then (some ((bt474.1 ++ [(⟨bt480.1, bt485.1⟩ : S40)]), bt485.2)) else (none)))) else (some (bt474.1, bt478.2))))
theorem spec_l11AnyScores.mono : ∀ a0 a1 k, LeO (spec_l11AnyScores.f k a0 a1) (spec_l11AnyScores.f (k + 1) a0 a1) := by
  intro a0 a1 k
  unfold spec_l11AnyScores.f
  repeat' first
      | (with_reducible exact spec_l11Scores.mono _ _ _)
      | (with_reducible exact spec_l11Text.mono _ _ _)
      | (with_reducible exact spec_l1Rd_one.mono _ _ _ _)
      | (with_reducible exact spec_l1Rd_pick.mono _ _ _ _)
      | (with_reducible exact LeO.refl _)
      | (with_reducible exact LeO.none _)
      | (with_reducible refine LeO.ite ?_ ?_)
      | (with_reducible refine LeO.bind ?_ (fun _ => ?_))
      | exact spec_l11Scores.mono _ _ _
      | exact spec_l11Text.mono _ _ _
      | exact spec_l1Rd_one.mono _ _ _ _
      | exact spec_l1Rd_pick.mono _ _ _ _
      | exact LeO.none _
      | refine LeO.ite ?_ ?_
      | refine LeO.bind ?_ (fun _ => ?_)
def spec_DrawScoresDrop.f (k : Nat) (l0 : List Int) : Option ((List (S40)) × ByteArray) := (spec_l1Open.f l0).bind fun bt490 => ((spec_l11AnyScores.f k bt490.1 bt490.2).bind fun bt493 => ((spec_l11Text.f k bt490.1 bt493.2).bind fun bt497 => (some (bt493.1, bt497.1))))
theorem spec_DrawScoresDrop.mono : ∀ a0 k, LeO (spec_DrawScoresDrop.f k a0) (spec_DrawScoresDrop.f (k + 1) a0) := by
  intro a0 k
  unfold spec_DrawScoresDrop.f
  repeat' first
      | (with_reducible exact spec_l11AnyScores.mono _ _ _)
      | (with_reducible exact spec_l11Text.mono _ _ _)
      | (with_reducible exact LeO.refl _)
      | (with_reducible exact LeO.none _)
      | (with_reducible refine LeO.ite ?_ ?_)
      | (with_reducible refine LeO.bind ?_ (fun _ => ?_))
      | exact spec_l11AnyScores.mono _ _ _
      | exact spec_l11Text.mono _ _ _
      | exact LeO.none _
      | refine LeO.ite ?_ ?_
      | refine LeO.bind ?_ (fun _ => ?_)
def spec_DrawScoresRank.f (k : Nat) (l0 : List Int) : Option ((List (S40)) × ByteArray) := (spec_DrawScoresDrop.f k l0).bind fun bt499 => (some (bt499.1, bt499.2))
theorem spec_DrawScoresRank.mono : ∀ a0 k, LeO (spec_DrawScoresRank.f k a0) (spec_DrawScoresRank.f (k + 1) a0) := by
  intro a0 k
  unfold spec_DrawScoresRank.f
  repeat' first
      | (with_reducible exact spec_DrawScoresDrop.mono _ _)
      | (with_reducible exact LeO.refl _)
      | (with_reducible exact LeO.none _)
      | (with_reducible refine LeO.ite ?_ ?_)
      | (with_reducible refine LeO.bind ?_ (fun _ => ?_))
      | exact spec_DrawScoresDrop.mono _ _
      | exact LeO.none _
      | refine LeO.ite ?_ ?_
      | refine LeO.bind ?_ (fun _ => ?_)
mutual
def laws_FnScoresRank.j0 : Nat → List (S40) → ByteArray → Int → Bool → Option (Bool)
  | 0, _, _, _, _ => none
  | k + 1, x3, x4, x5, x28 => if x28 = true then ((spec_ScoresRank.f k x3 x4).bind fun t509 => (some (x5 == t509))) else (laws_FnScoresRank.l0 k x3 x4 x5 0 0)
def laws_FnScoresRank.l0 : Nat → List (S40) → ByteArray → Int → Int → Int → Option (Bool)
  | 0, _, _, _, _, _ => none
  | k + 1, x3, x4, x5, x6, x7 => if x7 < (x3.length : Int) then (if 0 ≤ x7 then (if 0 ≤ x5 then (if x5 < (x3.length : Int) then (if ((rd_T40 x3 x7).f1) < ((rd_T40 x3 x5).f1) then (laws_FnScoresRank.l0 k x3 x4 x5 (wrap64 (x6 + 1)) (wrap64 (x7 + 1))) else (if ((rd_T40 x3 x7).f1) = ((rd_T40 x3 x5).f1) then (if (Op.bytesLess (((rd_T40 x3 x7).f0).toList) x4.toList) = true then (laws_FnScoresRank.l0 k x3 x4 x5 (wrap64 (x6 + 1)) (wrap64 (x7 + 1))) else (laws_FnScoresRank.l0 k x3 x4 x5 x6 (wrap64 (x7 + 1)))) else (laws_FnScoresRank.l0 k x3 x4 x5 x6 (wrap64 (x7 + 1))))) else (none)) else (none)) else (none)) else ((impl_ScoresAt.f k x3 x5 x5).bind fun t515 => (if x6 = x5 then (if 0 ≤ x5 then (if x5 < (x3.length : Int) then (if ((rd_T40 x3 x5).f0).toList = x4.toList then (if (t515.length : Int) = 1 then (if 0 < (t515.length : Int) then (some ((((rd_T40 t515 0).f0).toList) == (((rd_T40 x3 x5).f0).toList) && (((rd_T40 t515 0).f1) == ((rd_T40 x3 x5).f1)))) else (none)) else (some false)) else (some false)) else (none)) else (none)) else (some false)))
end
def laws_FnScoresRank.f (k : Nat) (l0 : List Int) : Option (Bool) := if (l0.length : Int) > 1048576 then (some true) else ((spec_DrawScoresRank.f k l0).bind fun bt503 => ((impl_ScoresRank.f k bt503.1 bt503.2).bind fun t507 => ((spec_ScoresRank.f k bt503.1 bt503.2).bind fun t508 => (if t507 = t508 then (laws_FnScoresRank.j0 k bt503.1 bt503.2 t507 (decide (t507 < 0))) else (laws_FnScoresRank.j0 k bt503.1 bt503.2 t507 true)))))
theorem laws_FnScoresRank.mono_l : ∀ k, (∀ y0 y1 y2 y3, LeO (laws_FnScoresRank.j0 k y0 y1 y2 y3) (laws_FnScoresRank.j0 (k + 1) y0 y1 y2 y3)) ∧ (∀ y0 y1 y2 y3 y4, LeO (laws_FnScoresRank.l0 k y0 y1 y2 y3 y4) (laws_FnScoresRank.l0 (k + 1) y0 y1 y2 y3 y4))
  | 0 => ⟨fun _ _ _ _ r h => by simp [laws_FnScoresRank.j0] at h, fun _ _ _ _ _ r h => by simp [laws_FnScoresRank.l0] at h⟩
  | k + 1 => by
    obtain ⟨ih0, ih1⟩ := laws_FnScoresRank.mono_l k
    refine ⟨?_, ?_⟩
    · intro y0 y1 y2 y3
      unfold laws_FnScoresRank.j0
      repeat' first
      | (with_reducible exact ih0 _ _ _ _)
      | (with_reducible exact ih1 _ _ _ _ _)
      | (with_reducible exact impl_ScoresAt.mono _ _ _ _)
      | (with_reducible exact impl_ScoresRank.mono _ _ _)
      | (with_reducible exact spec_DrawScoresRank.mono _ _)
      | (with_reducible exact spec_ScoresRank.mono _ _ _)
      | (with_reducible exact LeO.refl _)
      | (with_reducible exact LeO.none _)
      | (with_reducible refine LeO.ite ?_ ?_)
      | (with_reducible refine LeO.bind ?_ (fun _ => ?_))
      | exact ih0 _ _ _ _
      | exact ih1 _ _ _ _ _
      | exact impl_ScoresAt.mono _ _ _ _
      | exact impl_ScoresRank.mono _ _ _
      | exact spec_DrawScoresRank.mono _ _
      | exact spec_ScoresRank.mono _ _ _
      | exact LeO.none _
      | refine LeO.ite ?_ ?_
      | refine LeO.bind ?_ (fun _ => ?_)
    · intro y0 y1 y2 y3 y4
      unfold laws_FnScoresRank.l0
      repeat' first
      | (with_reducible exact ih0 _ _ _ _)
      | (with_reducible exact ih1 _ _ _ _ _)
      | (with_reducible exact impl_ScoresAt.mono _ _ _ _)
      | (with_reducible exact impl_ScoresRank.mono _ _ _)
      | (with_reducible exact spec_DrawScoresRank.mono _ _)
      | (with_reducible exact spec_ScoresRank.mono _ _ _)
      | (with_reducible exact LeO.refl _)
      | (with_reducible exact LeO.none _)
      | (with_reducible refine LeO.ite ?_ ?_)
      | (with_reducible refine LeO.bind ?_ (fun _ => ?_))
      | exact ih0 _ _ _ _
      | exact ih1 _ _ _ _ _
      | exact impl_ScoresAt.mono _ _ _ _
      | exact impl_ScoresRank.mono _ _ _
      | exact spec_DrawScoresRank.mono _ _
      | exact spec_ScoresRank.mono _ _ _
      | exact LeO.none _
      | refine LeO.ite ?_ ?_
      | refine LeO.bind ?_ (fun _ => ?_)
theorem laws_FnScoresRank.mono : ∀ a0 k, LeO (laws_FnScoresRank.f k a0) (laws_FnScoresRank.f (k + 1) a0) := by
  intro a0 k
  obtain ⟨ih0, ih1⟩ := laws_FnScoresRank.mono_l k
  unfold laws_FnScoresRank.f
  repeat' first
      | (with_reducible exact ih0 _ _ _ _)
      | (with_reducible exact ih1 _ _ _ _ _)
      | (with_reducible exact impl_ScoresAt.mono _ _ _ _)
      | (with_reducible exact impl_ScoresRank.mono _ _ _)
      | (with_reducible exact spec_DrawScoresRank.mono _ _)
      | (with_reducible exact spec_ScoresRank.mono _ _ _)
      | (with_reducible exact LeO.refl _)
      | (with_reducible exact LeO.none _)
      | (with_reducible refine LeO.ite ?_ ?_)
      | (with_reducible refine LeO.bind ?_ (fun _ => ?_))
      | exact ih0 _ _ _ _
      | exact ih1 _ _ _ _ _
      | exact impl_ScoresAt.mono _ _ _ _
      | exact impl_ScoresRank.mono _ _ _
      | exact spec_DrawScoresRank.mono _ _
      | exact spec_ScoresRank.mono _ _ _
      | exact LeO.none _
      | refine LeO.ite ?_ ?_
      | refine LeO.bind ?_ (fun _ => ?_)
def laws_qxScores.l0 : Nat → List (S40) → List (S40) → Int → Option (Bool)
  | 0, _, _, _ => none
  | k + 1, x0, x1, x5 => if x5 < (x0.length : Int) then (if 0 ≤ x5 then (if x5 < (x1.length : Int) then (if (!((((rd_T40 x0 x5).f0).toList) == (((rd_T40 x1 x5).f0).toList)) || (!(((rd_T40 x0 x5).f1) == ((rd_T40 x1 x5).f1)))) = true then (some false) else (laws_qxScores.l0 k x0 x1 (wrap64 (x5 + 1)))) else (none)) else (none)) else (some true)
def laws_qxScores.f (k : Nat) (l0 : List (S40)) (l1 : List (S40)) : Option (Bool) := if (l0.length : Int) = (l1.length : Int) then (laws_qxScores.l0 k l0 l1 0) else (some false)
theorem laws_qxScores.mono_l : ∀ k, (∀ y0 y1 y2, LeO (laws_qxScores.l0 k y0 y1 y2) (laws_qxScores.l0 (k + 1) y0 y1 y2))
  | 0 => fun _ _ _ r h => by simp [laws_qxScores.l0] at h
  | k + 1 => by
    have ih0 := laws_qxScores.mono_l k
    · intro y0 y1 y2
      unfold laws_qxScores.l0
      repeat' first
      | (with_reducible exact ih0 _ _ _)
      | (with_reducible exact LeO.refl _)
      | (with_reducible exact LeO.none _)
      | (with_reducible refine LeO.ite ?_ ?_)
      | (with_reducible refine LeO.bind ?_ (fun _ => ?_))
      | exact ih0 _ _ _
      | exact LeO.none _
      | refine LeO.ite ?_ ?_
      | refine LeO.bind ?_ (fun _ => ?_)
theorem laws_qxScores.mono : ∀ a0 a1 k, LeO (laws_qxScores.f k a0 a1) (laws_qxScores.f (k + 1) a0 a1) := by
  intro a0 a1 k
  have ih0 := laws_qxScores.mono_l k
  unfold laws_qxScores.f
  repeat' first
      | (with_reducible exact ih0 _ _ _)
      | (with_reducible exact LeO.refl _)
      | (with_reducible exact LeO.none _)
      | (with_reducible refine LeO.ite ?_ ?_)
      | (with_reducible refine LeO.bind ?_ (fun _ => ?_))
      | exact ih0 _ _ _
      | exact LeO.none _
      | refine LeO.ite ?_ ?_
      | refine LeO.bind ?_ (fun _ => ?_)
def laws_FnScoresDrop.j0 : Nat → List (S40) → ByteArray → List (S40) → Bool → List (S40) → Bool → Bool → Option (Bool)
  | 0, _, _, _, _, _, _, _ => none
  | k + 1, x3, x4, x5, x6, x7, x8, x43 => if x43 = true then (if (x6 == x8) = true then ((laws_qxScores.f k x5 x7).bind fun t537 => (some t537)) else (some false)) else ((impl_ScoresRank.f k x3 x4).bind fun t538 => (if t538 < 0 then (if x6 = true then (some false) else ((laws_qxScores.f k x5 x3).bind fun t539 => (some t539))) else (if x6 = true then ((impl_ScoresRank.f k x5 x4).bind fun t540 => (if t540 = (-1) then ((some (([] : List (S40)) : List (S40))).bind fun y541 => (if 0 ≤ t538 then (if t538 ≤ (x3.length : Int) then ((some (x3.take (t538 : Int).toNat : List (S40))).bind fun y544 => (if y541.length + y544.length < 5864062014805 then ((some (y541 ++ y544 : List (S40))).bind fun y548 => (if 0 ≤ (wrap64 (t538 + 1)) then (if (wrap64 (t538 + 1)) ≤ (x3.length : Int) then ((some (x3.drop ((wrap64 (t538 + 1)) : Int).toNat : List (S40))).bind fun y551 => (if y548.length + y551.length < 5864062014805 then ((laws_qxScores.f k x5 (y548 ++ y551)).bind fun t558 => (if t558 = true then ((impl_ScoresOk.f k x5).bind fun t559 => (some t559)) else (some false))) else (none))) else (none)) else (none))) else (none))) else (none)) else (none))) else (some false))) else (some false))))
def laws_FnScoresDrop.f (k : Nat) (l0 : List Int) : Option (Bool) := if (l0.length : Int) > 1048576 then (some true) else ((spec_DrawScoresDrop.f k l0).bind fun bt523 => ((impl_ScoresDrop.f k bt523.1 bt523.2).bind fun bt527 => ((spec_ScoresDrop.f k bt523.1 bt523.2).bind fun bt531 => (if (bt527.2 != bt531.2) = true then (laws_FnScoresDrop.j0 k bt523.1 bt523.2 bt527.1 bt527.2 bt531.1 bt531.2 true) else ((laws_qxScores.f k bt527.1 bt531.1).bind fun t535 => (if t535 = true then ((spec_ScoresOk.f k bt523.1).bind fun t536 => (laws_FnScoresDrop.j0 k bt523.1 bt523.2 bt527.1 bt527.2 bt531.1 bt531.2 (!t536))) else (laws_FnScoresDrop.j0 k bt523.1 bt523.2 bt527.1 bt527.2 bt531.1 bt531.2 true)))))))
theorem laws_FnScoresDrop.mono_l : ∀ k, (∀ y0 y1 y2 y3 y4 y5 y6, LeO (laws_FnScoresDrop.j0 k y0 y1 y2 y3 y4 y5 y6) (laws_FnScoresDrop.j0 (k + 1) y0 y1 y2 y3 y4 y5 y6))
  | 0 => fun _ _ _ _ _ _ _ r h => by simp [laws_FnScoresDrop.j0] at h
  | k + 1 => by
    have ih0 := laws_FnScoresDrop.mono_l k
    · intro y0 y1 y2 y3 y4 y5 y6
      unfold laws_FnScoresDrop.j0
      repeat' first
      | (with_reducible exact ih0 _ _ _ _ _ _ _)
      | (with_reducible exact impl_ScoresDrop.mono _ _ _)
      | (with_reducible exact impl_ScoresOk.mono _ _)
      | (with_reducible exact impl_ScoresRank.mono _ _ _)
      | (with_reducible exact laws_qxScores.mono _ _ _)
      | (with_reducible exact spec_DrawScoresDrop.mono _ _)
      | (with_reducible exact spec_ScoresDrop.mono _ _ _)
      | (with_reducible exact spec_ScoresOk.mono _ _)
      | (with_reducible exact LeO.refl _)
      | (with_reducible exact LeO.none _)
      | (with_reducible refine LeO.ite ?_ ?_)
      | (with_reducible refine LeO.bind ?_ (fun _ => ?_))
      | exact ih0 _ _ _ _ _ _ _
      | exact impl_ScoresDrop.mono _ _ _
      | exact impl_ScoresOk.mono _ _
      | exact impl_ScoresRank.mono _ _ _
      | exact laws_qxScores.mono _ _ _
      | exact spec_DrawScoresDrop.mono _ _
      | exact spec_ScoresDrop.mono _ _ _
      | exact spec_ScoresOk.mono _ _
      | exact LeO.none _
      | refine LeO.ite ?_ ?_
      | refine LeO.bind ?_ (fun _ => ?_)
theorem laws_FnScoresDrop.mono : ∀ a0 k, LeO (laws_FnScoresDrop.f k a0) (laws_FnScoresDrop.f (k + 1) a0) := by
  intro a0 k
  have ih0 := laws_FnScoresDrop.mono_l k
  unfold laws_FnScoresDrop.f
  repeat' first
      | (with_reducible exact ih0 _ _ _ _ _ _ _)
      | (with_reducible exact impl_ScoresDrop.mono _ _ _)
      | (with_reducible exact impl_ScoresOk.mono _ _)
      | (with_reducible exact impl_ScoresRank.mono _ _ _)
      | (with_reducible exact laws_qxScores.mono _ _ _)
      | (with_reducible exact spec_DrawScoresDrop.mono _ _)
      | (with_reducible exact spec_ScoresDrop.mono _ _ _)
      | (with_reducible exact spec_ScoresOk.mono _ _)
      | (with_reducible exact LeO.refl _)
      | (with_reducible exact LeO.none _)
      | (with_reducible refine LeO.ite ?_ ?_)
      | (with_reducible refine LeO.bind ?_ (fun _ => ?_))
      | exact ih0 _ _ _ _ _ _ _
      | exact impl_ScoresDrop.mono _ _ _
      | exact impl_ScoresOk.mono _ _
      | exact impl_ScoresRank.mono _ _ _
      | exact laws_qxScores.mono _ _ _
      | exact spec_DrawScoresDrop.mono _ _
      | exact spec_ScoresDrop.mono _ _ _
      | exact spec_ScoresOk.mono _ _
      | exact LeO.none _
      | refine LeO.ite ?_ ?_
      | refine LeO.bind ?_ (fun _ => ?_)
def spec_DrawScoresBy.f (k : Nat) (l0 : List Int) : Option ((List (S40)) × Int × Int) := (spec_l1Open.f l0).bind fun bt560 => ((spec_l11AnyScores.f k bt560.1 bt560.2).bind fun bt563 => ((spec_l1Rd_pick.f k bt560.1 bt563.2 6).bind fun bt567 => ((spec_l1Rd_pick.f k bt560.1 bt567.2 10).bind fun bt569 => (some (bt563.1, wrap64 (bt567.1 - 3), wrap64 (bt569.1 - 3))))))
theorem spec_DrawScoresBy.mono : ∀ a0 k, LeO (spec_DrawScoresBy.f k a0) (spec_DrawScoresBy.f (k + 1) a0) := by
  intro a0 k
  unfold spec_DrawScoresBy.f
  repeat' first
      | (with_reducible exact spec_l11AnyScores.mono _ _ _)
      | (with_reducible exact spec_l1Rd_pick.mono _ _ _ _)
      | (with_reducible exact LeO.refl _)
      | (with_reducible exact LeO.none _)
      | (with_reducible refine LeO.ite ?_ ?_)
      | (with_reducible refine LeO.bind ?_ (fun _ => ?_))
      | exact spec_l11AnyScores.mono _ _ _
      | exact spec_l1Rd_pick.mono _ _ _ _
      | exact LeO.none _
      | refine LeO.ite ?_ ?_
      | refine LeO.bind ?_ (fun _ => ?_)
mutual
def laws_FnScoresBy.j0 : Nat → List (S40) → Int → Int → List (S40) → Bool → Option (Bool)
  | 0, _, _, _, _, _ => none
  | k + 1, x3, x4, x5, x6, x34 => if x34 = true then ((spec_ScoresBy.f k x3 x4 x5).bind fun t584 => ((laws_qxScores.f k x6 t584).bind fun t587 => (some t587))) else (laws_FnScoresBy.l0 k x3 x4 x5 x6 0 (-1) 0)
def laws_FnScoresBy.l0 : Nat → List (S40) → Int → Int → List (S40) → Int → Int → Int → Option (Bool)
  | 0, _, _, _, _, _, _, _ => none
  | k + 1, x3, x4, x5, x6, x7, x8, x9 => if x9 < (x3.length : Int) then (if 0 ≤ x9 then (if ((rd_T40 x3 x9).f1) ≥ x4 then (laws_FnScoresBy.j2 k x3 x4 x5 x6 x7 x8 x9 (decide (((rd_T40 x3 x9).f1) ≤ x5))) else (laws_FnScoresBy.j2 k x3 x4 x5 x6 x7 x8 x9 false)) else (none)) else (if x7 = (x6.length : Int) then ((impl_ScoresAt.f k x3 0 (-1)).bind fun t590 => ((laws_qxScores.f k t590 x3).bind fun t593 => (laws_FnScoresBy.j3 k x3 x6 x7 x8 (!t593)))) else (laws_FnScoresBy.j3 k x3 x6 x7 x8 true))
def laws_FnScoresBy.j2 : Nat → List (S40) → Int → Int → List (S40) → Int → Int → Int → Bool → Option (Bool)
  | 0, _, _, _, _, _, _, _, _ => none
  | k + 1, x3, x4, x5, x6, x7, x8, x9, x62 => if x62 = true then (if x8 < 0 then (laws_FnScoresBy.l0 k x3 x4 x5 x6 (wrap64 (x7 + 1)) x9 (wrap64 (x9 + 1))) else (laws_FnScoresBy.l0 k x3 x4 x5 x6 (wrap64 (x7 + 1)) x8 (wrap64 (x9 + 1)))) else (laws_FnScoresBy.l0 k x3 x4 x5 x6 x7 x8 (wrap64 (x9 + 1)))
def laws_FnScoresBy.j3 : Nat → List (S40) → List (S40) → Int → Int → Bool → Option (Bool)
  | 0, _, _, _, _, _ => none
  | k + 1, x3, x6, x7, x8, x78 => if x78 = true then (some false) else (if x7 = 0 then (some true) else ((impl_ScoresAt.f k x3 x8 (wrap64 ((wrap64 (x8 + x7)) - 1))).bind fun t594 => ((laws_qxScores.f k t594 x6).bind fun t597 => (some t597))))
end
def laws_FnScoresBy.f (k : Nat) (l0 : List Int) : Option (Bool) := if (l0.length : Int) > 1048576 then (some true) else ((spec_DrawScoresBy.f k l0).bind fun bt571 => ((impl_ScoresBy.f k bt571.1 bt571.2.1 bt571.2.2).bind fun t576 => ((spec_ScoresBy.f k bt571.1 bt571.2.1 bt571.2.2).bind fun t579 => ((laws_qxScores.f k t576 t579).bind fun t582 => (if t582 = true then ((spec_ScoresOk.f k bt571.1).bind fun t583 => (laws_FnScoresBy.j0 k bt571.1 bt571.2.1 bt571.2.2 t576 (!t583))) else (laws_FnScoresBy.j0 k bt571.1 bt571.2.1 bt571.2.2 t576 true))))))
theorem laws_FnScoresBy.mono_l : ∀ k, (∀ y0 y1 y2 y3 y4, LeO (laws_FnScoresBy.j0 k y0 y1 y2 y3 y4) (laws_FnScoresBy.j0 (k + 1) y0 y1 y2 y3 y4)) ∧ (∀ y0 y1 y2 y3 y4 y5 y6, LeO (laws_FnScoresBy.l0 k y0 y1 y2 y3 y4 y5 y6) (laws_FnScoresBy.l0 (k + 1) y0 y1 y2 y3 y4 y5 y6)) ∧ (∀ y0 y1 y2 y3 y4 y5 y6 y7, LeO (laws_FnScoresBy.j2 k y0 y1 y2 y3 y4 y5 y6 y7) (laws_FnScoresBy.j2 (k + 1) y0 y1 y2 y3 y4 y5 y6 y7)) ∧ (∀ y0 y1 y2 y3 y4, LeO (laws_FnScoresBy.j3 k y0 y1 y2 y3 y4) (laws_FnScoresBy.j3 (k + 1) y0 y1 y2 y3 y4))
  | 0 => ⟨fun _ _ _ _ _ r h => by simp [laws_FnScoresBy.j0] at h, fun _ _ _ _ _ _ _ r h => by simp [laws_FnScoresBy.l0] at h, fun _ _ _ _ _ _ _ _ r h => by simp [laws_FnScoresBy.j2] at h, fun _ _ _ _ _ r h => by simp [laws_FnScoresBy.j3] at h⟩
  | k + 1 => by
    obtain ⟨ih0, ih1, ih2, ih3⟩ := laws_FnScoresBy.mono_l k
    refine ⟨?_, ?_, ?_, ?_⟩
    · intro y0 y1 y2 y3 y4
      unfold laws_FnScoresBy.j0
      repeat' first
      | (with_reducible exact ih0 _ _ _ _ _)
      | (with_reducible exact ih1 _ _ _ _ _ _ _)
      | (with_reducible exact ih2 _ _ _ _ _ _ _ _)
      | (with_reducible exact ih3 _ _ _ _ _)
      | (with_reducible exact impl_ScoresAt.mono _ _ _ _)
      | (with_reducible exact impl_ScoresBy.mono _ _ _ _)
      | (with_reducible exact laws_qxScores.mono _ _ _)
      | (with_reducible exact spec_DrawScoresBy.mono _ _)
      | (with_reducible exact spec_ScoresBy.mono _ _ _ _)
      | (with_reducible exact spec_ScoresOk.mono _ _)
      | (with_reducible exact LeO.refl _)
      | (with_reducible exact LeO.none _)
      | (with_reducible refine LeO.ite ?_ ?_)
      | (with_reducible refine LeO.bind ?_ (fun _ => ?_))
      | exact ih0 _ _ _ _ _
      | exact ih1 _ _ _ _ _ _ _
      | exact ih2 _ _ _ _ _ _ _ _
      | exact ih3 _ _ _ _ _
      | exact impl_ScoresAt.mono _ _ _ _
      | exact impl_ScoresBy.mono _ _ _ _
      | exact laws_qxScores.mono _ _ _
      | exact spec_DrawScoresBy.mono _ _
      | exact spec_ScoresBy.mono _ _ _ _
      | exact spec_ScoresOk.mono _ _
      | exact LeO.none _
      | refine LeO.ite ?_ ?_
      | refine LeO.bind ?_ (fun _ => ?_)
    · intro y0 y1 y2 y3 y4 y5 y6
      unfold laws_FnScoresBy.l0
      repeat' first
      | (with_reducible exact ih0 _ _ _ _ _)
      | (with_reducible exact ih1 _ _ _ _ _ _ _)
      | (with_reducible exact ih2 _ _ _ _ _ _ _ _)
      | (with_reducible exact ih3 _ _ _ _ _)
      | (with_reducible exact impl_ScoresAt.mono _ _ _ _)
      | (with_reducible exact impl_ScoresBy.mono _ _ _ _)
      | (with_reducible exact laws_qxScores.mono _ _ _)
      | (with_reducible exact spec_DrawScoresBy.mono _ _)
      | (with_reducible exact spec_ScoresBy.mono _ _ _ _)
      | (with_reducible exact spec_ScoresOk.mono _ _)
      | (with_reducible exact LeO.refl _)
      | (with_reducible exact LeO.none _)
      | (with_reducible refine LeO.ite ?_ ?_)
      | (with_reducible refine LeO.bind ?_ (fun _ => ?_))
      | exact ih0 _ _ _ _ _
      | exact ih1 _ _ _ _ _ _ _
      | exact ih2 _ _ _ _ _ _ _ _
      | exact ih3 _ _ _ _ _
      | exact impl_ScoresAt.mono _ _ _ _
      | exact impl_ScoresBy.mono _ _ _ _
      | exact laws_qxScores.mono _ _ _
      | exact spec_DrawScoresBy.mono _ _
      | exact spec_ScoresBy.mono _ _ _ _
      | exact spec_ScoresOk.mono _ _
      | exact LeO.none _
      | refine LeO.ite ?_ ?_
      | refine LeO.bind ?_ (fun _ => ?_)
    · intro y0 y1 y2 y3 y4 y5 y6 y7
      unfold laws_FnScoresBy.j2
      repeat' first
      | (with_reducible exact ih0 _ _ _ _ _)
      | (with_reducible exact ih1 _ _ _ _ _ _ _)
      | (with_reducible exact ih2 _ _ _ _ _ _ _ _)
      | (with_reducible exact ih3 _ _ _ _ _)
      | (with_reducible exact impl_ScoresAt.mono _ _ _ _)
      | (with_reducible exact impl_ScoresBy.mono _ _ _ _)
      | (with_reducible exact laws_qxScores.mono _ _ _)
      | (with_reducible exact spec_DrawScoresBy.mono _ _)
      | (with_reducible exact spec_ScoresBy.mono _ _ _ _)
      | (with_reducible exact spec_ScoresOk.mono _ _)
      | (with_reducible exact LeO.refl _)
      | (with_reducible exact LeO.none _)
      | (with_reducible refine LeO.ite ?_ ?_)
      | (with_reducible refine LeO.bind ?_ (fun _ => ?_))
      | exact ih0 _ _ _ _ _
      | exact ih1 _ _ _ _ _ _ _
      | exact ih2 _ _ _ _ _ _ _ _
      | exact ih3 _ _ _ _ _
      | exact impl_ScoresAt.mono _ _ _ _
      | exact impl_ScoresBy.mono _ _ _ _
      | exact laws_qxScores.mono _ _ _
      | exact spec_DrawScoresBy.mono _ _
      | exact spec_ScoresBy.mono _ _ _ _
      | exact spec_ScoresOk.mono _ _
      | exact LeO.none _
      | refine LeO.ite ?_ ?_
      | refine LeO.bind ?_ (fun _ => ?_)
    · intro y0 y1 y2 y3 y4
      unfold laws_FnScoresBy.j3
      repeat' first
      | (with_reducible exact ih0 _ _ _ _ _)
      | (with_reducible exact ih1 _ _ _ _ _ _ _)
      | (with_reducible exact ih2 _ _ _ _ _ _ _ _)
      | (with_reducible exact ih3 _ _ _ _ _)
      | (with_reducible exact impl_ScoresAt.mono _ _ _ _)
      | (with_reducible exact impl_ScoresBy.mono _ _ _ _)
      | (with_reducible exact laws_qxScores.mono _ _ _)
      | (with_reducible exact spec_DrawScoresBy.mono _ _)
      | (with_reducible exact spec_ScoresBy.mono _ _ _ _)
      | (with_reducible exact spec_ScoresOk.mono _ _)
      | (with_reducible exact LeO.refl _)
      | (with_reducible exact LeO.none _)
      | (with_reducible refine LeO.ite ?_ ?_)
      | (with_reducible refine LeO.bind ?_ (fun _ => ?_))
      | exact ih0 _ _ _ _ _
      | exact ih1 _ _ _ _ _ _ _
      | exact ih2 _ _ _ _ _ _ _ _
      | exact ih3 _ _ _ _ _
      | exact impl_ScoresAt.mono _ _ _ _
      | exact impl_ScoresBy.mono _ _ _ _
      | exact laws_qxScores.mono _ _ _
      | exact spec_DrawScoresBy.mono _ _
      | exact spec_ScoresBy.mono _ _ _ _
      | exact spec_ScoresOk.mono _ _
      | exact LeO.none _
      | refine LeO.ite ?_ ?_
      | refine LeO.bind ?_ (fun _ => ?_)
theorem laws_FnScoresBy.mono : ∀ a0 k, LeO (laws_FnScoresBy.f k a0) (laws_FnScoresBy.f (k + 1) a0) := by
  intro a0 k
  obtain ⟨ih0, ih1, ih2, ih3⟩ := laws_FnScoresBy.mono_l k
  unfold laws_FnScoresBy.f
  repeat' first
      | (with_reducible exact ih0 _ _ _ _ _)
      | (with_reducible exact ih1 _ _ _ _ _ _ _)
      | (with_reducible exact ih2 _ _ _ _ _ _ _ _)
      | (with_reducible exact ih3 _ _ _ _ _)
      | (with_reducible exact impl_ScoresAt.mono _ _ _ _)
      | (with_reducible exact impl_ScoresBy.mono _ _ _ _)
      | (with_reducible exact laws_qxScores.mono _ _ _)
      | (with_reducible exact spec_DrawScoresBy.mono _ _)
      | (with_reducible exact spec_ScoresBy.mono _ _ _ _)
      | (with_reducible exact spec_ScoresOk.mono _ _)
      | (with_reducible exact LeO.refl _)
      | (with_reducible exact LeO.none _)
      | (with_reducible refine LeO.ite ?_ ?_)
      | (with_reducible refine LeO.bind ?_ (fun _ => ?_))
      | exact ih0 _ _ _ _ _
      | exact ih1 _ _ _ _ _ _ _
      | exact ih2 _ _ _ _ _ _ _ _
      | exact ih3 _ _ _ _ _
      | exact impl_ScoresAt.mono _ _ _ _
      | exact impl_ScoresBy.mono _ _ _ _
      | exact laws_qxScores.mono _ _ _
      | exact spec_DrawScoresBy.mono _ _
      | exact spec_ScoresBy.mono _ _ _ _
      | exact spec_ScoresOk.mono _ _
      | exact LeO.none _
      | refine LeO.ite ?_ ?_
      | refine LeO.bind ?_ (fun _ => ?_)
def spec_l11Place.f (k : Nat) (s0_0 : List Int) (s0_1 : Int) : Option (Int × Int) := (spec_l1Rd_one.f k s0_0 s0_1 (([0, 1, 2, (-1), (-2), 5, (-9), 100, 1000000000, 1000000001] : List Int))).bind fun bt601 => (some (bt601.1, bt601.2))
theorem spec_l11Place.mono : ∀ a0 a1 k, LeO (spec_l11Place.f k a0 a1) (spec_l11Place.f (k + 1) a0 a1) := by
  intro a0 a1 k
  unfold spec_l11Place.f
  repeat' first
      | (with_reducible exact spec_l1Rd_one.mono _ _ _ _)
      | (with_reducible exact LeO.refl _)
      | (with_reducible exact LeO.none _)
      | (with_reducible refine LeO.ite ?_ ?_)
      | (with_reducible refine LeO.bind ?_ (fun _ => ?_))
      | exact spec_l1Rd_one.mono _ _ _ _
      | exact LeO.none _
      | refine LeO.ite ?_ ?_
      | refine LeO.bind ?_ (fun _ => ?_)
def spec_DrawScoresAt.f (k : Nat) (l0 : List Int) : Option ((List (S40)) × Int × Int) := (spec_l1Open.f l0).bind fun bt603 => ((spec_l11AnyScores.f k bt603.1 bt603.2).bind fun bt606 => ((spec_l11Place.f k bt603.1 bt606.2).bind fun bt610 => ((spec_l11Place.f k bt603.1 bt610.2).bind fun bt612 => (some (bt606.1, bt610.1, bt612.1)))))
theorem spec_DrawScoresAt.mono : ∀ a0 k, LeO (spec_DrawScoresAt.f k a0) (spec_DrawScoresAt.f (k + 1) a0) := by
  intro a0 k
  unfold spec_DrawScoresAt.f
  repeat' first
      | (with_reducible exact spec_l11AnyScores.mono _ _ _)
      | (with_reducible exact spec_l11Place.mono _ _ _)
      | (with_reducible exact LeO.refl _)
      | (with_reducible exact LeO.none _)
      | (with_reducible refine LeO.ite ?_ ?_)
      | (with_reducible refine LeO.bind ?_ (fun _ => ?_))
      | exact spec_l11AnyScores.mono _ _ _
      | exact spec_l11Place.mono _ _ _
      | exact LeO.none _
      | refine LeO.ite ?_ ?_
      | refine LeO.bind ?_ (fun _ => ?_)
def impl_textsOk.l0 : Nat → List ByteArray → Int → List ByteArray → Int → Int → Option (Bool)
  | 0, _, _, _, _, _ => none
  | k + 1, x0, x1, x7, x8, x9 => if x9 < x8 then (if 0 ≤ x9 then (if x9 < (x7.length : Int) then (if ((rdOf ByteArray.empty x7 x9).size : Int) > 40 then (some false) else (impl_textsOk.l0 k x0 x1 x7 x8 (wrap64 (x9 + 1)))) else (none)) else (none)) else (some (decide ((x0.length : Int) ≤ x1)))
def impl_textsOk.f (k : Nat) (l0 : List ByteArray) (a1 : Int) : Option (Bool) := impl_textsOk.l0 k l0 a1 l0 (l0.length : Int) 0
theorem impl_textsOk.mono_l : ∀ k, (∀ y0 y1 y2 y3 y4, LeO (impl_textsOk.l0 k y0 y1 y2 y3 y4) (impl_textsOk.l0 (k + 1) y0 y1 y2 y3 y4))
  | 0 => fun _ _ _ _ _ r h => by simp [impl_textsOk.l0] at h
  | k + 1 => by
    have ih0 := impl_textsOk.mono_l k
    · intro y0 y1 y2 y3 y4
      unfold impl_textsOk.l0
      repeat' first
      | (with_reducible exact ih0 _ _ _ _ _)
      | (with_reducible exact LeO.refl _)
      | (with_reducible exact LeO.none _)
      | (with_reducible refine LeO.ite ?_ ?_)
      | (with_reducible refine LeO.bind ?_ (fun _ => ?_))
      | exact ih0 _ _ _ _ _
      | exact LeO.none _
      | refine LeO.ite ?_ ?_
      | refine LeO.bind ?_ (fun _ => ?_)
theorem impl_textsOk.mono : ∀ a0 a1 k, LeO (impl_textsOk.f k a0 a1) (impl_textsOk.f (k + 1) a0 a1) := by
  intro a0 a1 k
  have ih0 := impl_textsOk.mono_l k
  unfold impl_textsOk.f
  repeat' first
      | (with_reducible exact ih0 _ _ _ _ _)
      | (with_reducible exact LeO.refl _)
      | (with_reducible exact LeO.none _)
      | (with_reducible refine LeO.ite ?_ ?_)
      | (with_reducible refine LeO.bind ?_ (fun _ => ?_))
      | exact ih0 _ _ _ _ _
      | exact LeO.none _
      | refine LeO.ite ?_ ?_
      | refine LeO.bind ?_ (fun _ => ?_)
def impl_listOk.f (k : Nat) (l0 : List ByteArray) : Option (Bool) := (impl_textsOk.f k l0 16).bind fun t615 => (some t615)
theorem impl_listOk.mono : ∀ a0 k, LeO (impl_listOk.f k a0) (impl_listOk.f (k + 1) a0) := by
  intro a0 k
  unfold impl_listOk.f
  repeat' first
      | (with_reducible exact impl_textsOk.mono _ _ _)
      | (with_reducible exact LeO.refl _)
      | (with_reducible exact LeO.none _)
      | (with_reducible refine LeO.ite ?_ ?_)
      | (with_reducible refine LeO.bind ?_ (fun _ => ?_))
      | exact impl_textsOk.mono _ _ _
      | exact LeO.none _
      | refine LeO.ite ?_ ?_
      | refine LeO.bind ?_ (fun _ => ?_)
def impl_copied.f (l0 : List ByteArray) : Option (List ByteArray) := (some (([] : List ByteArray) : List ByteArray)).bind fun y616 => (if y616.length + l0.length < 8796093022208 then (some (y616 ++ l0)) else (none))
def impl_ListRange.f (k : Nat) (l0 : List ByteArray) (a1 : Int) (a2 : Int) : Option (List ByteArray) := (impl_listOk.f k l0).bind fun t622 => (if t622 = true then ((impl_span.f k (l0.length : Int) a1 a2).bind fun bt623 => (if 0 ≤ bt623.1 then (if bt623.1 ≤ bt623.2 then (if bt623.2 ≤ (l0.length : Int) then ((impl_copied.f ((l0.take (bt623.2 : Int).toNat).drop (bt623.1 : Int).toNat)).bind fun t626 => (some t626)) else (none)) else (none)) else (none))) else (some (([] : List ByteArray))))
theorem impl_ListRange.mono : ∀ a0 a1 a2 k, LeO (impl_ListRange.f k a0 a1 a2) (impl_ListRange.f (k + 1) a0 a1 a2) := by
  intro a0 a1 a2 k
  unfold impl_ListRange.f
  repeat' first
      | (with_reducible exact impl_listOk.mono _ _)
      | (with_reducible exact impl_span.mono _ _ _ _)
      | (with_reducible exact LeO.refl _)
      | (with_reducible exact LeO.none _)
      | (with_reducible refine LeO.ite ?_ ?_)
      | (with_reducible refine LeO.bind ?_ (fun _ => ?_))
      | exact impl_listOk.mono _ _
      | exact impl_span.mono _ _ _ _
      | exact LeO.none _
      | refine LeO.ite ?_ ?_
      | refine LeO.bind ?_ (fun _ => ?_)
mutual
def laws_FnScoresAt.j0 : Nat → List (S40) → Int → Int → List (S40) → Bool → Option (Bool)
  | 0, _, _, _, _, _ => none
  | k + 1, x3, x4, x5, x6, x35 => if x35 = true then ((spec_ScoresAt.f k x3 x4 x5).bind fun t645 => ((laws_qxScores.f k x6 t645).bind fun t648 => (some t648))) else (laws_FnScoresAt.l0 k x3 x4 x5 x6 (([] : List ByteArray)) 0)
def laws_FnScoresAt.l0 : Nat → List (S40) → Int → Int → List (S40) → List ByteArray → Int → Option (Bool)
  | 0, _, _, _, _, _, _ => none
  | k + 1, x3, x4, x5, x6, x7, x8 => if x8 < (x3.length : Int) then (if 0 ≤ x8 then (if x7.length < 8796093022208 then (laws_FnScoresAt.l0 k x3 x4 x5 x6 (x7 ++ [(rd_T40 x3 x8).f0]) (wrap64 (x8 + 1))) else (none)) else (none)) else ((impl_ListRange.f k x7 x4 x5).bind fun t656 => (if (t656.length : Int) = (x6.length : Int) then (laws_FnScoresAt.l1 k x6 t656 0) else (some false)))
def laws_FnScoresAt.l1 : Nat → List (S40) → List ByteArray → Int → Option (Bool)
  | 0, _, _, _ => none
  | k + 1, x6, x9, x10 => if x10 < (x6.length : Int) then (if 0 ≤ x10 then (if x10 < (x9.length : Int) then (if ((rd_T40 x6 x10).f0).toList = (rdOf ByteArray.empty x9 x10).toList then (laws_FnScoresAt.l1 k x6 x9 (wrap64 (x10 + 1))) else (some false)) else (none)) else (none)) else (some true)
end
def laws_FnScoresAt.f (k : Nat) (l0 : List Int) : Option (Bool) := if (l0.length : Int) > 1048576 then (some true) else ((spec_DrawScoresAt.f k l0).bind fun bt632 => ((impl_ScoresAt.f k bt632.1 bt632.2.1 bt632.2.2).bind fun t637 => ((spec_ScoresAt.f k bt632.1 bt632.2.1 bt632.2.2).bind fun t640 => ((laws_qxScores.f k t637 t640).bind fun t643 => (if t643 = true then ((spec_ScoresOk.f k bt632.1).bind fun t644 => (laws_FnScoresAt.j0 k bt632.1 bt632.2.1 bt632.2.2 t637 (!t644))) else (laws_FnScoresAt.j0 k bt632.1 bt632.2.1 bt632.2.2 t637 true))))))
theorem laws_FnScoresAt.mono_l : ∀ k, (∀ y0 y1 y2 y3 y4, LeO (laws_FnScoresAt.j0 k y0 y1 y2 y3 y4) (laws_FnScoresAt.j0 (k + 1) y0 y1 y2 y3 y4)) ∧ (∀ y0 y1 y2 y3 y4 y5, LeO (laws_FnScoresAt.l0 k y0 y1 y2 y3 y4 y5) (laws_FnScoresAt.l0 (k + 1) y0 y1 y2 y3 y4 y5)) ∧ (∀ y0 y1 y2, LeO (laws_FnScoresAt.l1 k y0 y1 y2) (laws_FnScoresAt.l1 (k + 1) y0 y1 y2))
  | 0 => ⟨fun _ _ _ _ _ r h => by simp [laws_FnScoresAt.j0] at h, fun _ _ _ _ _ _ r h => by simp [laws_FnScoresAt.l0] at h, fun _ _ _ r h => by simp [laws_FnScoresAt.l1] at h⟩
  | k + 1 => by
    obtain ⟨ih0, ih1, ih2⟩ := laws_FnScoresAt.mono_l k
    refine ⟨?_, ?_, ?_⟩
    · intro y0 y1 y2 y3 y4
      unfold laws_FnScoresAt.j0
      repeat' first
      | (with_reducible exact ih0 _ _ _ _ _)
      | (with_reducible exact ih1 _ _ _ _ _ _)
      | (with_reducible exact ih2 _ _ _)
      | (with_reducible exact impl_ListRange.mono _ _ _ _)
      | (with_reducible exact impl_ScoresAt.mono _ _ _ _)
      | (with_reducible exact laws_qxScores.mono _ _ _)
      | (with_reducible exact spec_DrawScoresAt.mono _ _)
      | (with_reducible exact spec_ScoresAt.mono _ _ _ _)
      | (with_reducible exact spec_ScoresOk.mono _ _)
      | (with_reducible exact LeO.refl _)
      | (with_reducible exact LeO.none _)
      | (with_reducible refine LeO.ite ?_ ?_)
      | (with_reducible refine LeO.bind ?_ (fun _ => ?_))
      | exact ih0 _ _ _ _ _
      | exact ih1 _ _ _ _ _ _
      | exact ih2 _ _ _
      | exact impl_ListRange.mono _ _ _ _
      | exact impl_ScoresAt.mono _ _ _ _
      | exact laws_qxScores.mono _ _ _
      | exact spec_DrawScoresAt.mono _ _
      | exact spec_ScoresAt.mono _ _ _ _
      | exact spec_ScoresOk.mono _ _
      | exact LeO.none _
      | refine LeO.ite ?_ ?_
      | refine LeO.bind ?_ (fun _ => ?_)
    · intro y0 y1 y2 y3 y4 y5
      unfold laws_FnScoresAt.l0
      repeat' first
      | (with_reducible exact ih0 _ _ _ _ _)
      | (with_reducible exact ih1 _ _ _ _ _ _)
      | (with_reducible exact ih2 _ _ _)
      | (with_reducible exact impl_ListRange.mono _ _ _ _)
      | (with_reducible exact impl_ScoresAt.mono _ _ _ _)
      | (with_reducible exact laws_qxScores.mono _ _ _)
      | (with_reducible exact spec_DrawScoresAt.mono _ _)
      | (with_reducible exact spec_ScoresAt.mono _ _ _ _)
      | (with_reducible exact spec_ScoresOk.mono _ _)
      | (with_reducible exact LeO.refl _)
      | (with_reducible exact LeO.none _)
      | (with_reducible refine LeO.ite ?_ ?_)
      | (with_reducible refine LeO.bind ?_ (fun _ => ?_))
      | exact ih0 _ _ _ _ _
      | exact ih1 _ _ _ _ _ _
      | exact ih2 _ _ _
      | exact impl_ListRange.mono _ _ _ _
      | exact impl_ScoresAt.mono _ _ _ _
      | exact laws_qxScores.mono _ _ _
      | exact spec_DrawScoresAt.mono _ _
      | exact spec_ScoresAt.mono _ _ _ _
      | exact spec_ScoresOk.mono _ _
      | exact LeO.none _
      | refine LeO.ite ?_ ?_
      | refine LeO.bind ?_ (fun _ => ?_)
    · intro y0 y1 y2
      unfold laws_FnScoresAt.l1
      repeat' first
      | (with_reducible exact ih0 _ _ _ _ _)
      | (with_reducible exact ih1 _ _ _ _ _ _)
      | (with_reducible exact ih2 _ _ _)
      | (with_reducible exact impl_ListRange.mono _ _ _ _)
      | (with_reducible exact impl_ScoresAt.mono _ _ _ _)
      | (with_reducible exact laws_qxScores.mono _ _ _)
      | (with_reducible exact spec_DrawScoresAt.mono _ _)
      | (with_reducible exact spec_ScoresAt.mono _ _ _ _)
      | (with_reducible exact spec_ScoresOk.mono _ _)
      | (with_reducible exact LeO.refl _)
      | (with_reducible exact LeO.none _)
      | (with_reducible refine LeO.ite ?_ ?_)
      | (with_reducible refine LeO.bind ?_ (fun _ => ?_))
      | exact ih0 _ _ _ _ _
      | exact ih1 _ _ _ _ _ _
      | exact ih2 _ _ _
      | exact impl_ListRange.mono _ _ _ _
      | exact impl_ScoresAt.mono _ _ _ _
      | exact laws_qxScores.mono _ _ _
      | exact spec_DrawScoresAt.mono _ _
      | exact spec_ScoresAt.mono _ _ _ _
      | exact spec_ScoresOk.mono _ _
      | exact LeO.none _
      | refine LeO.ite ?_ ?_
      | refine LeO.bind ?_ (fun _ => ?_)
theorem laws_FnScoresAt.mono : ∀ a0 k, LeO (laws_FnScoresAt.f k a0) (laws_FnScoresAt.f (k + 1) a0) := by
  intro a0 k
  obtain ⟨ih0, ih1, ih2⟩ := laws_FnScoresAt.mono_l k
  unfold laws_FnScoresAt.f
  repeat' first
      | (with_reducible exact ih0 _ _ _ _ _)
      | (with_reducible exact ih1 _ _ _ _ _ _)
      | (with_reducible exact ih2 _ _ _)
      | (with_reducible exact impl_ListRange.mono _ _ _ _)
      | (with_reducible exact impl_ScoresAt.mono _ _ _ _)
      | (with_reducible exact laws_qxScores.mono _ _ _)
      | (with_reducible exact spec_DrawScoresAt.mono _ _)
      | (with_reducible exact spec_ScoresAt.mono _ _ _ _)
      | (with_reducible exact spec_ScoresOk.mono _ _)
      | (with_reducible exact LeO.refl _)
      | (with_reducible exact LeO.none _)
      | (with_reducible refine LeO.ite ?_ ?_)
      | (with_reducible refine LeO.bind ?_ (fun _ => ?_))
      | exact ih0 _ _ _ _ _
      | exact ih1 _ _ _ _ _ _
      | exact ih2 _ _ _
      | exact impl_ListRange.mono _ _ _ _
      | exact impl_ScoresAt.mono _ _ _ _
      | exact laws_qxScores.mono _ _ _
      | exact spec_DrawScoresAt.mono _ _
      | exact spec_ScoresAt.mono _ _ _ _
      | exact spec_ScoresOk.mono _ _
      | exact LeO.none _
      | refine LeO.ite ?_ ?_
      | refine LeO.bind ?_ (fun _ => ?_)
def slices_SortFunc_impl_Score_impl_Score.lt (x y : S40) : Bool := decide (x.f1 < y.f1) || (decide (x.f1 = y.f1) && Op.bytesLess x.f0.toList y.f0.toList)
def slices_SortFunc_impl_Score_impl_Score.sorted (l : List S40) : List S40 := l.mergeSort fun x y => !slices_SortFunc_impl_Score_impl_Score.lt y x
def slices_SortFunc_impl_Score_impl_Score.f (l0 : List S40) : Option (List S40) := if l0 ≠ [] ∧ (l0.Pairwise fun a b => a.f0 ≠ b.f0) ∧ l0.length < 4611686018427387904 then some (slices_SortFunc_impl_Score_impl_Score.sorted l0) else none
theorem slices_SortFunc_impl_Score_impl_Score.swo : Go.Sort.SWO slices_SortFunc_impl_Score_impl_Score.lt := X.swo_num S40.f1 S40.f0
theorem slices_SortFunc_impl_Score_impl_Score.lt_eq {x y : S40} (h : slices_SortFunc_impl_Score_impl_Score.lt x y = false) (h' : slices_SortFunc_impl_Score_impl_Score.lt y x = false) : x.f0 = y.f0 := by
  simp only [slices_SortFunc_impl_Score_impl_Score.lt, Bool.or_eq_false_iff, decide_eq_false_iff_not] at h h'
  obtain ⟨a, b⟩ := h
  obtain ⟨a', b'⟩ := h'
  have e : x.f1 = y.f1 := by omega
  rw [decide_eq_true e, Bool.true_and] at b
  rw [decide_eq_true e.symm, Bool.true_and] at b'
  exact X.bytes_inj (X.bl_same _ _ b b')
def slices_SortFunc_impl_Score_impl_Score.cf (x y : S40) : Int := if x.f1 < y.f1 then -1 else if x.f1 > y.f1 then 1 else if Op.bytesLess x.f0.toList y.f0.toList = true then -1 else if Op.bytesLess y.f0.toList x.f0.toList = true then 1 else 0
theorem slices_SortFunc_impl_Score_impl_Score.ltOf_cf : Go.Proofs.ltOf slices_SortFunc_impl_Score_impl_Score.cf = slices_SortFunc_impl_Score_impl_Score.lt := by
  funext x y
  unfold Go.Proofs.ltOf slices_SortFunc_impl_Score_impl_Score.cf slices_SortFunc_impl_Score_impl_Score.lt
  by_cases h1 : x.f1 < y.f1
  · rw [if_pos h1, decide_eq_true h1]; rfl
  · rw [if_neg h1, decide_eq_false h1, Bool.false_or]
    by_cases h2 : x.f1 > y.f1
    · rw [if_pos h2, decide_eq_false (show ¬ x.f1 = y.f1 by omega)]; rfl
    · rw [if_neg h2, decide_eq_true (show x.f1 = y.f1 by omega), Bool.true_and]
      split
      · rename_i h; rw [h]; rfl
      · rename_i h
        rw [Bool.eq_false_iff.2 h]
        split <;> rfl
def slices_SortFunc_impl_Score_impl_Score.enc (x : S40) : List Value := [.string x.f0, .int .i64 x.f1]
theorem slices_SortFunc_impl_Score_impl_Score.M_iff : ∀ (w : World) (base : Nat) (ok : Nat → Prop) (x : S40) (cs : List Value), k40.M w base ok x cs ↔ cs = slices_SortFunc_impl_Score_impl_Score.enc x := fun w base ok x cs => by
  constructor
  · rintro ⟨c0, c1, rfl, h0, h1⟩
    rw [show c0 = _ from h0, show c1 = _ from h1]
    rfl
  · rintro rfl
    exact ⟨_, _, rfl, rfl, rfl⟩
theorem slices_SortFunc_impl_Score_impl_Score.uniq {l : List S40} (h : l.Pairwise fun a b => a.f0 ≠ b.f0) : ∀ x ∈ l, ∀ y ∈ l, x.f0 = y.f0 → x = y := by
  induction l with
  | nil => intro x hx; cases hx
  | cons a l ih =>
    rw [List.pairwise_cons] at h
    intro x hx y hy e
    rcases List.mem_cons.1 hx with rfl | hx1 <;> rcases List.mem_cons.1 hy with rfl | hy1
    · rfl
    · exact absurd e (h.1 y hy1)
    · exact absurd e.symm (h.1 x hx1)
    · exact ih h.2 x hx1 y hy1 e
instance : Inhabited S40 := ⟨⟨#[]⟩, 0⟩
theorem slices_SortFunc_impl_Score_impl_Score.or2 (a b : Int) : cmp_Or_int.f 4 [a, b] = some (if a = 0 then b else a) := by
  have w1 : wrap64 (0 + 1) = 1 := by unfold wrap64; decide
  have w2 : wrap64 (1 + 1) = 2 := by unfold wrap64; decide
  have r0 : rd [a, b] 0 = a := rfl
  have r1 : rd [a, b] 1 = b := rfl
  unfold cmp_Or_int.f
  rw [cmp_Or_int.l0, if_pos (by simp), if_pos (by omega), if_pos (by simp), r0]
  by_cases h : a = 0
  · rw [if_pos h, if_pos h, w1, cmp_Or_int.l0, if_pos (by simp), if_pos (by omega), if_pos (by simp), r1]
    by_cases h' : b = 0
    · rw [if_pos h', w2, cmp_Or_int.l0, if_neg (by simp), h']
    · rw [if_neg h']
  · rw [if_neg h, if_neg h]
theorem slices_SortFunc_impl_Score_impl_Score.order (x y : S40) : impl_scoreOrder.f 4 x.f0 x.f1 y.f0 y.f1 = some (slices_SortFunc_impl_Score_impl_Score.cf x y) := by
  unfold impl_scoreOrder.f cmp_Compare_int.f cmp_Compare_string.f cmp_isNaN_int.f cmp_isNaN_string.f slices_SortFunc_impl_Score_impl_Score.cf
  simp only [bne_self_eq_false, Option.bind_some, Bool.false_eq_true, ↓reduceIte]
  by_cases h1 : x.f1 < y.f1
  · simp only [h1, ↓reduceIte]
    split
    · simp [slices_SortFunc_impl_Score_impl_Score.or2]
    · split <;> simp [slices_SortFunc_impl_Score_impl_Score.or2]
  · by_cases h2 : x.f1 > y.f1
    · simp only [h1, h2, ↓reduceIte]
      split
      · simp [slices_SortFunc_impl_Score_impl_Score.or2]
      · split <;> simp [slices_SortFunc_impl_Score_impl_Score.or2]
    · simp only [h1, h2, ↓reduceIte]
      split
      · simp [slices_SortFunc_impl_Score_impl_Score.or2]
      · split <;> simp [slices_SortFunc_impl_Score_impl_Score.or2]
def impl_ScoresPut.j0 : Nat → List (S40) → List (S40) → Int → Option ((List (S40)) × Bool × Bool)
  | 0, _, _, _ => none
  | k + 1, x0, x7, x8 => (slices_SortFunc_impl_Score_impl_Score.f x7).bind fun t674 => ((impl_ScoresOk.f k t674).bind fun t675 => (if t675 = true then ((impl_copiedScores.f t674).bind fun t676 => (some (t676, decide (x8 < 0), true))) else ((impl_copiedScores.f x0).bind fun t679 => (some (t679, false, false)))))
def impl_ScoresPut.f (k : Nat) (l0 : List (S40)) (a1_0 : ByteArray) (a1_1 : Int) : Option ((List (S40)) × Bool × Bool) := (impl_ScoresOk.f k l0).bind fun t662 => (if t662 = true then ((impl_copiedScores.f l0).bind fun t666 => ((impl_scoreAt.f t666 a1_0).bind fun t669 => (if t669 ≥ 0 then (if 0 ≤ t669 then (if t669 < (t666.length : Int) then (impl_ScoresPut.j0 k l0 (t666.set (t669 : Int).toNat (⟨a1_0, a1_1⟩ : S40)) t669) else (none)) else (none)) else (if t666.length < 5864062014805 then (impl_ScoresPut.j0 k l0 (t666 ++ [(⟨a1_0, a1_1⟩ : S40)]) t669) else (none))))) else (some ((([] : List (S40))), false, false)))
theorem impl_ScoresPut.mono_l : ∀ k, (∀ y0 y1 y2, LeO (impl_ScoresPut.j0 k y0 y1 y2) (impl_ScoresPut.j0 (k + 1) y0 y1 y2))
  | 0 => fun _ _ _ r h => by simp [impl_ScoresPut.j0] at h
  | k + 1 => by
    have ih0 := impl_ScoresPut.mono_l k
    · intro y0 y1 y2
      unfold impl_ScoresPut.j0
      repeat' first
      | (with_reducible exact ih0 _ _ _)
      | (with_reducible exact impl_ScoresOk.mono _ _)
      | (with_reducible exact LeO.refl _)
      | (with_reducible exact LeO.none _)
      | (with_reducible refine LeO.ite ?_ ?_)
      | (with_reducible refine LeO.bind ?_ (fun _ => ?_))
      | exact ih0 _ _ _
      | exact impl_ScoresOk.mono _ _
      | exact LeO.none _
      | refine LeO.ite ?_ ?_
      | refine LeO.bind ?_ (fun _ => ?_)
theorem impl_ScoresPut.mono : ∀ a0 a1 a2 k, LeO (impl_ScoresPut.f k a0 a1 a2) (impl_ScoresPut.f (k + 1) a0 a1 a2) := by
  intro a0 a1 a2 k
  have ih0 := impl_ScoresPut.mono_l k
  unfold impl_ScoresPut.f
  repeat' first
      | (with_reducible exact ih0 _ _ _)
      | (with_reducible exact impl_ScoresOk.mono _ _)
      | (with_reducible exact LeO.refl _)
      | (with_reducible exact LeO.none _)
      | (with_reducible refine LeO.ite ?_ ?_)
      | (with_reducible refine LeO.bind ?_ (fun _ => ?_))
      | exact ih0 _ _ _
      | exact impl_ScoresOk.mono _ _
      | exact LeO.none _
      | refine LeO.ite ?_ ?_
      | refine LeO.bind ?_ (fun _ => ?_)
mutual
def laws_FnExactScoresPut.j0 : Nat → List (S46) → List (S40) → Bool → Bool → List (S40) → List (S40) → Bool → Bool → Bool → ByteArray → Int → Option (Bool)
  | 0, _, _, _, _, _, _, _, _, _, _, _ => none
  | k + 1, x0, x6, x7, x8, x9, x10, x11, x12, x61, x683000, x683001 => if x61 = true then (some false) else ((laws_toScoreS.f k x0).bind fun t706 => ((laws_eqScoreS.f k x9 t706).bind fun t709 => (if t709 = true then ((laws_markScoreS.f k x9 1).bind fun bt710 => (if bt710.1 < 0 then (laws_FnExactScoresPut.j1 k x0 x6 x7 x8 x10 true x683000 x683001) else ((laws_eqScoreS.f k x10 x6).bind fun t712 => (if t712 = true then (if (x11 != x7) = true then (laws_FnExactScoresPut.j1 k x0 x6 x7 x8 x10 true x683000 x683001) else (laws_FnExactScoresPut.j1 k x0 x6 x7 x8 x10 (x12 != x8) x683000 x683001)) else (laws_FnExactScoresPut.j1 k x0 x6 x7 x8 x10 true x683000 x683001))))) else (some false))))
def laws_FnExactScoresPut.j1 : Nat → List (S46) → List (S40) → Bool → Bool → List (S40) → Bool → ByteArray → Int → Option (Bool)
  | 0, _, _, _, _, _, _, _, _ => none
  | k + 1, x0, x6, x7, x8, x10, x87, x683000, x683001 => if x87 = true then (some false) else ((laws_markScoreS.f k x10 1).bind fun bt713 => ((laws_heldScoreS.f k bt713.2 1).bind fun t715 => (if t715 < 0 then (some false) else (if t715 = bt713.1 then ((laws_toScoreS.f k x0).bind fun t716 => ((laws_toScore.f x683000 x683001).bind fun bt719 => ((impl_ScoresPut.f k t716 bt719.1 bt719.2).bind fun bt721 => ((laws_eqScoreS.f k bt721.1 x6).bind fun t726 => (if t726 = true then (if (bt721.2.1 != x7) = true then (laws_FnExactScoresPut.j2 k bt713.2 bt713.1 true) else (laws_FnExactScoresPut.j2 k bt713.2 bt713.1 (bt721.2.2 != x8))) else (laws_FnExactScoresPut.j2 k bt713.2 bt713.1 true)))))) else (some false)))))
def laws_FnExactScoresPut.j2 : Nat → List (S40) → Int → Bool → Option (Bool)
  | 0, _, _, _ => none
  | k + 1, x10, x14, x121 => if x121 = true then (some false) else ((laws_heldScoreS.f k x10 1).bind fun t727 => (if t727 < 0 then (some false) else (if t727 = x14 then (some true) else (some false))))
end
def laws_FnExactScoresPut.f (k : Nat) (l0 : List (S46)) (a1_0 : ByteArray) (a1_1 : Int) : Option (Bool) := (laws_szScoreS.f k l0 1048576).bind fun t683 => (if t683 < 0 then (some true) else ((laws_szScore.f a1_0 a1_1 t683).bind fun t684 => (if t684 < 0 then (some true) else ((laws_toScoreS.f k l0).bind fun t685 => ((laws_toScore.f a1_0 a1_1).bind fun bt688 => ((spec_ScoresPut.f k t685 bt688.1 bt688.2).bind fun bt690 => ((laws_toScoreS.f k l0).bind fun t695 => ((laws_toScore.f a1_0 a1_1).bind fun bt698 => ((impl_ScoresPut.f k t695 bt698.1 bt698.2).bind fun bt700 => ((laws_eqScoreS.f k bt700.1 bt690.1).bind fun t705 => (if t705 = true then (if (bt700.2.1 != bt690.2.1) = true then (laws_FnExactScoresPut.j0 k l0 bt690.1 bt690.2.1 bt690.2.2 t695 bt700.1 bt700.2.1 bt700.2.2 true a1_0 a1_1) else (laws_FnExactScoresPut.j0 k l0 bt690.1 bt690.2.1 bt690.2.2 t695 bt700.1 bt700.2.1 bt700.2.2 (bt700.2.2 != bt690.2.2) a1_0 a1_1)) else (laws_FnExactScoresPut.j0 k l0 bt690.1 bt690.2.1 bt690.2.2 t695 bt700.1 bt700.2.1 bt700.2.2 true a1_0 a1_1))))))))))))
theorem laws_FnExactScoresPut.mono_l : ∀ k, (∀ y0 y1 y2 y3 y4 y5 y6 y7 y8 y9 y10, LeO (laws_FnExactScoresPut.j0 k y0 y1 y2 y3 y4 y5 y6 y7 y8 y9 y10) (laws_FnExactScoresPut.j0 (k + 1) y0 y1 y2 y3 y4 y5 y6 y7 y8 y9 y10)) ∧ (∀ y0 y1 y2 y3 y4 y5 y6 y7, LeO (laws_FnExactScoresPut.j1 k y0 y1 y2 y3 y4 y5 y6 y7) (laws_FnExactScoresPut.j1 (k + 1) y0 y1 y2 y3 y4 y5 y6 y7)) ∧ (∀ y0 y1 y2, LeO (laws_FnExactScoresPut.j2 k y0 y1 y2) (laws_FnExactScoresPut.j2 (k + 1) y0 y1 y2))
  | 0 => ⟨fun _ _ _ _ _ _ _ _ _ _ _ r h => by simp [laws_FnExactScoresPut.j0] at h, fun _ _ _ _ _ _ _ _ r h => by simp [laws_FnExactScoresPut.j1] at h, fun _ _ _ r h => by simp [laws_FnExactScoresPut.j2] at h⟩
  | k + 1 => by
    obtain ⟨ih0, ih1, ih2⟩ := laws_FnExactScoresPut.mono_l k
    refine ⟨?_, ?_, ?_⟩
    · intro y0 y1 y2 y3 y4 y5 y6 y7 y8 y9 y10
      unfold laws_FnExactScoresPut.j0
      repeat' first
      | (with_reducible exact ih0 _ _ _ _ _ _ _ _ _ _ _)
      | (with_reducible exact ih1 _ _ _ _ _ _ _ _)
      | (with_reducible exact ih2 _ _ _)
      | (with_reducible exact impl_ScoresPut.mono _ _ _ _)
      | (with_reducible exact laws_eqScoreS.mono _ _ _)
      | (with_reducible exact laws_heldScoreS.mono _ _ _)
      | (with_reducible exact laws_markScoreS.mono _ _ _)
      | (with_reducible exact laws_szScoreS.mono _ _ _)
      | (with_reducible exact laws_toScoreS.mono _ _)
      | (with_reducible exact spec_ScoresPut.mono _ _ _ _)
      | (with_reducible exact LeO.refl _)
      | (with_reducible exact LeO.none _)
      | (with_reducible refine LeO.ite ?_ ?_)
      | (with_reducible refine LeO.bind ?_ (fun _ => ?_))
      | exact ih0 _ _ _ _ _ _ _ _ _ _ _
      | exact ih1 _ _ _ _ _ _ _ _
      | exact ih2 _ _ _
      | exact impl_ScoresPut.mono _ _ _ _
      | exact laws_eqScoreS.mono _ _ _
      | exact laws_heldScoreS.mono _ _ _
      | exact laws_markScoreS.mono _ _ _
      | exact laws_szScoreS.mono _ _ _
      | exact laws_toScoreS.mono _ _
      | exact spec_ScoresPut.mono _ _ _ _
      | exact LeO.none _
      | refine LeO.ite ?_ ?_
      | refine LeO.bind ?_ (fun _ => ?_)
    · intro y0 y1 y2 y3 y4 y5 y6 y7
      unfold laws_FnExactScoresPut.j1
      repeat' first
      | (with_reducible exact ih0 _ _ _ _ _ _ _ _ _ _ _)
      | (with_reducible exact ih1 _ _ _ _ _ _ _ _)
      | (with_reducible exact ih2 _ _ _)
      | (with_reducible exact impl_ScoresPut.mono _ _ _ _)
      | (with_reducible exact laws_eqScoreS.mono _ _ _)
      | (with_reducible exact laws_heldScoreS.mono _ _ _)
      | (with_reducible exact laws_markScoreS.mono _ _ _)
      | (with_reducible exact laws_szScoreS.mono _ _ _)
      | (with_reducible exact laws_toScoreS.mono _ _)
      | (with_reducible exact spec_ScoresPut.mono _ _ _ _)
      | (with_reducible exact LeO.refl _)
      | (with_reducible exact LeO.none _)
      | (with_reducible refine LeO.ite ?_ ?_)
      | (with_reducible refine LeO.bind ?_ (fun _ => ?_))
      | exact ih0 _ _ _ _ _ _ _ _ _ _ _
      | exact ih1 _ _ _ _ _ _ _ _
      | exact ih2 _ _ _
      | exact impl_ScoresPut.mono _ _ _ _
      | exact laws_eqScoreS.mono _ _ _
      | exact laws_heldScoreS.mono _ _ _
      | exact laws_markScoreS.mono _ _ _
      | exact laws_szScoreS.mono _ _ _
      | exact laws_toScoreS.mono _ _
      | exact spec_ScoresPut.mono _ _ _ _
      | exact LeO.none _
      | refine LeO.ite ?_ ?_
      | refine LeO.bind ?_ (fun _ => ?_)
    · intro y0 y1 y2
      unfold laws_FnExactScoresPut.j2
      repeat' first
      | (with_reducible exact ih0 _ _ _ _ _ _ _ _ _ _ _)
      | (with_reducible exact ih1 _ _ _ _ _ _ _ _)
      | (with_reducible exact ih2 _ _ _)
      | (with_reducible exact impl_ScoresPut.mono _ _ _ _)
      | (with_reducible exact laws_eqScoreS.mono _ _ _)
      | (with_reducible exact laws_heldScoreS.mono _ _ _)
      | (with_reducible exact laws_markScoreS.mono _ _ _)
      | (with_reducible exact laws_szScoreS.mono _ _ _)
      | (with_reducible exact laws_toScoreS.mono _ _)
      | (with_reducible exact spec_ScoresPut.mono _ _ _ _)
      | (with_reducible exact LeO.refl _)
      | (with_reducible exact LeO.none _)
      | (with_reducible refine LeO.ite ?_ ?_)
      | (with_reducible refine LeO.bind ?_ (fun _ => ?_))
      | exact ih0 _ _ _ _ _ _ _ _ _ _ _
      | exact ih1 _ _ _ _ _ _ _ _
      | exact ih2 _ _ _
      | exact impl_ScoresPut.mono _ _ _ _
      | exact laws_eqScoreS.mono _ _ _
      | exact laws_heldScoreS.mono _ _ _
      | exact laws_markScoreS.mono _ _ _
      | exact laws_szScoreS.mono _ _ _
      | exact laws_toScoreS.mono _ _
      | exact spec_ScoresPut.mono _ _ _ _
      | exact LeO.none _
      | refine LeO.ite ?_ ?_
      | refine LeO.bind ?_ (fun _ => ?_)
theorem laws_FnExactScoresPut.mono : ∀ a0 a1 a2 k, LeO (laws_FnExactScoresPut.f k a0 a1 a2) (laws_FnExactScoresPut.f (k + 1) a0 a1 a2) := by
  intro a0 a1 a2 k
  obtain ⟨ih0, ih1, ih2⟩ := laws_FnExactScoresPut.mono_l k
  unfold laws_FnExactScoresPut.f
  repeat' first
      | (with_reducible exact ih0 _ _ _ _ _ _ _ _ _ _ _)
      | (with_reducible exact ih1 _ _ _ _ _ _ _ _)
      | (with_reducible exact ih2 _ _ _)
      | (with_reducible exact impl_ScoresPut.mono _ _ _ _)
      | (with_reducible exact laws_eqScoreS.mono _ _ _)
      | (with_reducible exact laws_heldScoreS.mono _ _ _)
      | (with_reducible exact laws_markScoreS.mono _ _ _)
      | (with_reducible exact laws_szScoreS.mono _ _ _)
      | (with_reducible exact laws_toScoreS.mono _ _)
      | (with_reducible exact spec_ScoresPut.mono _ _ _ _)
      | (with_reducible exact LeO.refl _)
      | (with_reducible exact LeO.none _)
      | (with_reducible refine LeO.ite ?_ ?_)
      | (with_reducible refine LeO.bind ?_ (fun _ => ?_))
      | exact ih0 _ _ _ _ _ _ _ _ _ _ _
      | exact ih1 _ _ _ _ _ _ _ _
      | exact ih2 _ _ _
      | exact impl_ScoresPut.mono _ _ _ _
      | exact laws_eqScoreS.mono _ _ _
      | exact laws_heldScoreS.mono _ _ _
      | exact laws_markScoreS.mono _ _ _
      | exact laws_szScoreS.mono _ _ _
      | exact laws_toScoreS.mono _ _
      | exact spec_ScoresPut.mono _ _ _ _
      | exact LeO.none _
      | refine LeO.ite ?_ ?_
      | refine LeO.bind ?_ (fun _ => ?_)
def spec_DrawScoresPut.f (k : Nat) (l0 : List Int) : Option ((List (S40)) × ByteArray × Int) := (spec_l1Open.f l0).bind fun bt729 => ((spec_l11AnyScores.f k bt729.1 bt729.2).bind fun bt732 => ((spec_l11Text.f k bt729.1 bt732.2).bind fun bt736 => ((spec_l11Text.f k bt729.1 bt736.2).bind fun bt738 => ((spec_l1Many.f k (⟨#[121]⟩ : ByteArray) 41).bind fun t740 => ((spec_l1Rd_of.f k bt729.1 bt738.2 (([bt736.1, bt738.1, t740] : List ByteArray))).bind fun bt744 => ((spec_l1Rd_one.f k bt729.1 bt744.2 (([0, 1, 3, (-9), 1000000000, 1000000001] : List Int))).bind fun bt749 => (some (bt732.1, bt744.1, bt749.1))))))))
theorem spec_DrawScoresPut.mono : ∀ a0 k, LeO (spec_DrawScoresPut.f k a0) (spec_DrawScoresPut.f (k + 1) a0) := by
  intro a0 k
  unfold spec_DrawScoresPut.f
  repeat' first
      | (with_reducible exact spec_l11AnyScores.mono _ _ _)
      | (with_reducible exact spec_l11Text.mono _ _ _)
      | (with_reducible exact spec_l1Many.mono _ _ _)
      | (with_reducible exact spec_l1Rd_of.mono _ _ _ _)
      | (with_reducible exact spec_l1Rd_one.mono _ _ _ _)
      | (with_reducible exact LeO.refl _)
      | (with_reducible exact LeO.none _)
      | (with_reducible refine LeO.ite ?_ ?_)
      | (with_reducible refine LeO.bind ?_ (fun _ => ?_))
      | exact spec_l11AnyScores.mono _ _ _
      | exact spec_l11Text.mono _ _ _
      | exact spec_l1Many.mono _ _ _
      | exact spec_l1Rd_of.mono _ _ _ _
      | exact spec_l1Rd_one.mono _ _ _ _
      | exact LeO.none _
      | refine LeO.ite ?_ ?_
      | refine LeO.bind ?_ (fun _ => ?_)
def laws_FnScoresPut.j0 : Nat → List (S40) → List (S40) → Bool → Bool → List (S40) → Bool → Bool → Bool → ByteArray → Int → Option (Bool)
  | 0, _, _, _, _, _, _, _, _, _, _ => none
  | k + 1, x3, x5, x6, x7, x8, x9, x10, x62, x757000, x757001 => if x62 = true then (if (x7 == x10) = true then (if (x6 == x9) = true then ((laws_qxScores.f k x5 x8).bind fun t770 => (if t770 = true then ((impl_ScoresOk.f k x3).bind fun t771 => ((spec_ScoresOk.f k x3).bind fun t772 => (some (t771 == t772)))) else (some false))) else (some false)) else (some false)) else ((impl_ScoresRank.f k x5 x757000).bind fun t773 => ((impl_ScoresDrop.f k x5 x757000).bind fun bt774 => ((impl_ScoresDrop.f k x3 x757000).bind fun bt778 => ((impl_ScoresOk.f k x5).bind fun t782 => (if t782 = true then (if t773 ≥ 0 then (if 0 ≤ t773 then (if t773 < (x5.length : Int) then (if ((((rd_T40 x5 t773).f0).toList) == x757000.toList && (((rd_T40 x5 t773).f1) == x757001)) = true then ((impl_ScoresRank.f k x3 x757000).bind fun t784 => (if (x6 == (decide (t784 < 0))) = true then (if bt774.2 = true then ((laws_qxScores.f k bt774.1 bt778.1).bind fun t785 => (some t785)) else (some false)) else (some false))) else (some false)) else (none)) else (none)) else (some false)) else (some false))))))
def laws_FnScoresPut.f (k : Nat) (l0 : List Int) : Option (Bool) := if (l0.length : Int) > 1048576 then (some true) else ((spec_DrawScoresPut.f k l0).bind fun bt751 => ((impl_ScoresPut.f k bt751.1 bt751.2.1 bt751.2.2).bind fun bt757 => ((spec_ScoresPut.f k bt751.1 bt751.2.1 bt751.2.2).bind fun bt762 => (if (bt757.2.2 != bt762.2.2) = true then (laws_FnScoresPut.j0 k bt751.1 bt757.1 bt757.2.1 bt757.2.2 bt762.1 bt762.2.1 bt762.2.2 true bt751.2.1 bt751.2.2) else (if (bt757.2.1 != bt762.2.1) = true then (laws_FnScoresPut.j0 k bt751.1 bt757.1 bt757.2.1 bt757.2.2 bt762.1 bt762.2.1 bt762.2.2 true bt751.2.1 bt751.2.2) else ((laws_qxScores.f k bt757.1 bt762.1).bind fun t767 => (if t767 = true then ((impl_ScoresOk.f k bt751.1).bind fun t768 => ((spec_ScoresOk.f k bt751.1).bind fun t769 => (if (t768 != t769) = true then (laws_FnScoresPut.j0 k bt751.1 bt757.1 bt757.2.1 bt757.2.2 bt762.1 bt762.2.1 bt762.2.2 true bt751.2.1 bt751.2.2) else (laws_FnScoresPut.j0 k bt751.1 bt757.1 bt757.2.1 bt757.2.2 bt762.1 bt762.2.1 bt762.2.2 (!bt757.2.2) bt751.2.1 bt751.2.2)))) else (laws_FnScoresPut.j0 k bt751.1 bt757.1 bt757.2.1 bt757.2.2 bt762.1 bt762.2.1 bt762.2.2 true bt751.2.1 bt751.2.2))))))))
theorem laws_FnScoresPut.mono_l : ∀ k, (∀ y0 y1 y2 y3 y4 y5 y6 y7 y8 y9, LeO (laws_FnScoresPut.j0 k y0 y1 y2 y3 y4 y5 y6 y7 y8 y9) (laws_FnScoresPut.j0 (k + 1) y0 y1 y2 y3 y4 y5 y6 y7 y8 y9))
  | 0 => fun _ _ _ _ _ _ _ _ _ _ r h => by simp [laws_FnScoresPut.j0] at h
  | k + 1 => by
    have ih0 := laws_FnScoresPut.mono_l k
    · intro y0 y1 y2 y3 y4 y5 y6 y7 y8 y9
      unfold laws_FnScoresPut.j0
      repeat' first
      | (with_reducible exact ih0 _ _ _ _ _ _ _ _ _ _)
      | (with_reducible exact impl_ScoresDrop.mono _ _ _)
      | (with_reducible exact impl_ScoresOk.mono _ _)
      | (with_reducible exact impl_ScoresPut.mono _ _ _ _)
      | (with_reducible exact impl_ScoresRank.mono _ _ _)
      | (with_reducible exact laws_qxScores.mono _ _ _)
      | (with_reducible exact spec_DrawScoresPut.mono _ _)
      | (with_reducible exact spec_ScoresOk.mono _ _)
      | (with_reducible exact spec_ScoresPut.mono _ _ _ _)
      | (with_reducible exact LeO.refl _)
      | (with_reducible exact LeO.none _)
      | (with_reducible refine LeO.ite ?_ ?_)
      | (with_reducible refine LeO.bind ?_ (fun _ => ?_))
      | exact ih0 _ _ _ _ _ _ _ _ _ _
      | exact impl_ScoresDrop.mono _ _ _
      | exact impl_ScoresOk.mono _ _
      | exact impl_ScoresPut.mono _ _ _ _
      | exact impl_ScoresRank.mono _ _ _
      | exact laws_qxScores.mono _ _ _
      | exact spec_DrawScoresPut.mono _ _
      | exact spec_ScoresOk.mono _ _
      | exact spec_ScoresPut.mono _ _ _ _
      | exact LeO.none _
      | refine LeO.ite ?_ ?_
      | refine LeO.bind ?_ (fun _ => ?_)
theorem laws_FnScoresPut.mono : ∀ a0 k, LeO (laws_FnScoresPut.f k a0) (laws_FnScoresPut.f (k + 1) a0) := by
  intro a0 k
  have ih0 := laws_FnScoresPut.mono_l k
  unfold laws_FnScoresPut.f
  repeat' first
      | (with_reducible exact ih0 _ _ _ _ _ _ _ _ _ _)
      | (with_reducible exact impl_ScoresDrop.mono _ _ _)
      | (with_reducible exact impl_ScoresOk.mono _ _)
      | (with_reducible exact impl_ScoresPut.mono _ _ _ _)
      | (with_reducible exact impl_ScoresRank.mono _ _ _)
      | (with_reducible exact laws_qxScores.mono _ _ _)
      | (with_reducible exact spec_DrawScoresPut.mono _ _)
      | (with_reducible exact spec_ScoresOk.mono _ _)
      | (with_reducible exact spec_ScoresPut.mono _ _ _ _)
      | (with_reducible exact LeO.refl _)
      | (with_reducible exact LeO.none _)
      | (with_reducible refine LeO.ite ?_ ?_)
      | (with_reducible refine LeO.bind ?_ (fun _ => ?_))
      | exact ih0 _ _ _ _ _ _ _ _ _ _
      | exact impl_ScoresDrop.mono _ _ _
      | exact impl_ScoresOk.mono _ _
      | exact impl_ScoresPut.mono _ _ _ _
      | exact impl_ScoresRank.mono _ _ _
      | exact laws_qxScores.mono _ _ _
      | exact spec_DrawScoresPut.mono _ _
      | exact spec_ScoresOk.mono _ _
      | exact spec_ScoresPut.mono _ _ _ _
      | exact LeO.none _
      | refine LeO.ite ?_ ?_
      | refine LeO.bind ?_ (fun _ => ?_)
end Go.Proofs.Ytcpnekdhdmncfaa.P
namespace Go.Proofs.Ytcpnekdhdmncfaa.P
open Go.RowKit Go.Proofs.YtcpnekdhdmncfaaW.PrintWords Go.Proofs.YtcpnekdhdmncfaaW.PrintLast Go.Proofs.YtcpnekdhdmncfaaW.PrintMore
attribute [local go_sem] max2_int min2_int max_two min_two max_three min_three max_four min_four   -- for this text's walks alone
set_option linter.unusedVariables false
set_option linter.unusedSimpArgs false
set_option maxHeartbeats 8000000 in
set_option maxRecDepth 100000 in
theorem spec_l1In.calls (a0 : Int) (a1 : Int) (a2 : Int) (r : Bool) (w : World) (h : spec_l1In.f a0 a1 a2 = some r) :
    Calls Try.prog 40 #[.int .i64 a0, .int .i64 a1, .int .i64 a2] w fun e w' => e = .returned (.bool r) ∧ Drawn0 w w' := by
  have H : (if a0 ≥ a1 then (some (decide (a0 ≤ a2))) else (some false)) = some r := h
  clear h
  by_cases c4 : a0 ≥ a1
  · rw [if_pos c4] at H
    have c4b0 : decide (a1 ≤ a0) = true := decide_eq_true c4
    clear c4
    obtain rfl := Option.some.inj H
    go_enter Try.func40, Try.ntmps40
    go_wp2
    go_ret
    exact ⟨by first | rfl | (simp; done) | (simp [*]; done), by repeat (first | exact Drawn0.refl _ | apply Drawn0.step)⟩
  · rw [if_neg c4] at H
    have c4b0 : decide (a1 ≤ a0) = false := decide_eq_false c4
    clear c4
    obtain rfl := Option.some.inj H
    go_enter Try.func40, Try.ntmps40
    go_wp2
    go_ret
    exact ⟨by first | rfl | (simp; done) | (simp [*]; done), by repeat (first | exact Drawn0.refl _ | apply Drawn0.step)⟩
end Go.Proofs.Ytcpnekdhdmncfaa.P
namespace Go.Proofs.Ytcpnekdhdmncfaa.P
open Go.RowKit Go.Proofs.YtcpnekdhdmncfaaW.PrintWords Go.Proofs.YtcpnekdhdmncfaaW.PrintLast Go.Proofs.YtcpnekdhdmncfaaW.PrintMore
attribute [local go_sem] max2_int min2_int max_two min_two max_three min_three max_four min_four   -- for this text's walks alone
set_option linter.unusedVariables false
set_option linter.unusedSimpArgs false
set_option maxHeartbeats 8000000 in
set_option maxRecDepth 100000 in
theorem spec_l3Ahead.calls (a0_0 : ByteArray) (a0_1 : Int) (a1_0 : ByteArray) (a1_1 : Int) (r : Bool) (w : World) (h : spec_l3Ahead.f a0_0 a0_1 a1_0 a1_1 = some r) :
    Calls Try.prog 41 #[.agg #[.string a0_0, .int .i64 a0_1], .agg #[.string a1_0, .int .i64 a1_1]] w fun e w' => e = .returned (.bool r) ∧ Below w.heap.size w w' := by
  have hu40 := Try.underlying40
  have HB := Aside0.mk (Below.refl w.heap.size w)
  have H : (if a0_1 < a1_1 then (some true) else (if a0_1 = a1_1 then (some (Op.bytesLess a0_0.toList a1_0.toList)) else (some false))) = some r := h
  clear h
  by_cases c3 : a0_1 < a1_1
  · rw [if_pos c3] at H
    have c3b0 : decide (a0_1 < a1_1) = true := decide_eq_true c3
    clear c3
    obtain rfl := Option.some.inj H
    go_enter Try.func41, Try.ntmps41
    go_wp2_with (first | ((with_reducible refine gate_dst (N := 2) rfl ?_); refine box_event ?hg (N := 2) ?hd (cs := #[.string a0_0, .int .i64 a0_1]) (t := 40) ?hr ?_; (case hd => rfl); (case hg => rfl); (case hr => first | (go_simp; done) | (go_simp; rfl)); intro gb104 hg w4 hbox hb; have n0_ := Aside0.mk (below_step (by repeat (first | (with_reducible first | exact HB.out | apply below_alloc | apply pw_below_drewN | apply below_drew1) | exact HB.out | exact Below.refl _ _)) hb); have n1_ := Aside0.mk (hbox); have n2_ := Aside0.mk ((by rw [hg]; exact (below_size (by repeat (first | (with_reducible first | exact HB.out | apply below_alloc | apply pw_below_drewN | apply below_drew1) | exact HB.out | exact Below.refl _ _))) : w.heap.size ≤ gb104)); have n3_ := Aside0.mk ((by rw [hg]; exact (below_size (by repeat (first | (with_reducible first | exact HB.out | apply below_alloc | apply pw_below_drewN | apply below_drew1) | exact HB.out | exact Below.refl _ _))) : w.heap.size ≤ gb104)); clear HB; have HB := n0_; have BK104 := n1_; have GW104 := n2_; have GE104 := n3_; clear n0_ n1_ n2_ n3_; clear hb hbox hg) | ((with_reducible refine gate_dst (N := 3) rfl ?_); refine box_event ?hg (N := 3) ?hd (cs := #[.string a1_0, .int .i64 a1_1]) (t := 40) ?hr ?_; (case hd => rfl); (case hg => rfl); (case hr => first | (go_simp; done) | (go_simp; rfl)); intro gb105 hg w5 hbox hb; have n0_ := Aside0.mk (blk_below (g := gb104) (o := .cells #[.string a0_0, .int .i64 a0_1] 40 (0, 0)) (by (with_reducible repeat (first | refine blk_drewN ?_ _ | refine blk_drew ?_ | refine blk_alloc ?_ _)); exact BK104.out) hb); have n1_ := Aside0.mk (below_step (by repeat (first | (with_reducible first | exact HB.out | apply below_alloc | apply pw_below_drewN | apply below_drew1 | refine below_set ?_ GE104.out) | exact HB.out)) hb); have n2_ := Aside0.mk (hbox); have n3_ := Aside0.mk ((by rw [hg]; exact (below_size (by repeat (first | (with_reducible first | exact HB.out | apply below_alloc | apply pw_below_drewN | apply below_drew1 | refine below_set ?_ GE104.out) | exact HB.out))) : w.heap.size ≤ gb105)); have n4_ := Aside0.mk ((by rw [hg]; exact (below_size (by repeat (first | (with_reducible first | exact HB.out | apply below_alloc | apply pw_below_drewN | apply below_drew1 | refine below_set ?_ GE104.out) | exact HB.out))) : w.heap.size ≤ gb105)); have n5_ := Aside0.mk ((by rw [hg]; exact Nat.ne_of_lt (blk_lt (g := gb104) (o := .cells #[.string a0_0, .int .i64 a0_1] 40 (0, 0)) (by (with_reducible repeat (first | refine blk_drewN ?_ _ | refine blk_drew ?_ | refine blk_alloc ?_ _)); exact BK104.out)) : gb104 ≠ gb105)); have n6_ := Aside0.mk ((by rw [hg]; exact Nat.ne_of_gt (blk_lt (g := gb104) (o := .cells #[.string a0_0, .int .i64 a0_1] 40 (0, 0)) (by (with_reducible repeat (first | refine blk_drewN ?_ _ | refine blk_drew ?_ | refine blk_alloc ?_ _)); exact BK104.out)) : gb105 ≠ gb104)); clear BK104; clear HB; have BK104 := n0_; have HB := n1_; have BK105 := n2_; have GW105 := n3_; have GE105 := n4_; have NB104_105 := n5_; have NB105_104 := n6_; clear n0_ n1_ n2_ n3_ n4_ n5_ n6_; clear hb hbox hg; have hnb6 := NB104_105.out; have hnc6 := NB105_104.out; have hcz7_0 : w5.cell? ⟨gb104, 0, none⟩ = some (.string a0_0) := (blk_cell BK104.out 0).trans rfl; have hcz7_1 : w5.cell? ⟨gb104, 1, none⟩ = some (.int .i64 a0_1) := (blk_cell BK104.out 1).trans rfl; have hfz7_0 := blk_frozen BK104.out 0; have hfz7_1 := blk_frozen BK104.out 1; have hcz8_0 : w5.cell? ⟨gb105, 0, none⟩ = some (.string a1_0) := (blk_cell BK105.out 0).trans rfl; have hcz8_1 : w5.cell? ⟨gb105, 1, none⟩ = some (.int .i64 a1_1) := (blk_cell BK105.out 1).trans rfl; have hfz8_0 := blk_frozen BK105.out 0; have hfz8_1 := blk_frozen BK105.out 1))
    go_ret
    exact ⟨by first | rfl | (simp [errW_none, errW_some] <;> rfl) | (simp [*, errW_none, errW_some] <;> rfl), by repeat (first | (with_reducible first | exact HB.out | apply below_alloc | apply pw_below_drewN | apply below_drew1 | refine below_set ?_ GE104.out | refine below_set ?_ GE105.out) | exact HB.out)⟩
  · rw [if_neg c3] at H
    have c3b0 : decide (a0_1 < a1_1) = false := decide_eq_false c3
    clear c3
    by_cases c9 : a0_1 = a1_1
    · rw [if_pos c9] at H
      have c9b0 : (a0_1 == a1_1) = true := beq_iff_eq.mpr c9
      have c9b1 : (a0_1 != a1_1) = false := bne_eq_false_iff_eq.mpr c9
      clear c9
      obtain rfl := Option.some.inj H
      go_enter Try.func41, Try.ntmps41
      go_wp2_with (first | ((with_reducible refine gate_dst (N := 2) rfl ?_); refine box_event ?hg (N := 2) ?hd (cs := #[.string a0_0, .int .i64 a0_1]) (t := 40) ?hr ?_; (case hd => rfl); (case hg => rfl); (case hr => first | (go_simp; done) | (go_simp; rfl)); intro gb104 hg w10 hbox hb; have n0_ := Aside0.mk (below_step (by repeat (first | (with_reducible first | exact HB.out | apply below_alloc | apply pw_below_drewN | apply below_drew1) | exact HB.out | exact Below.refl _ _)) hb); have n1_ := Aside0.mk (hbox); have n2_ := Aside0.mk ((by rw [hg]; exact (below_size (by repeat (first | (with_reducible first | exact HB.out | apply below_alloc | apply pw_below_drewN | apply below_drew1) | exact HB.out | exact Below.refl _ _))) : w.heap.size ≤ gb104)); have n3_ := Aside0.mk ((by rw [hg]; exact (below_size (by repeat (first | (with_reducible first | exact HB.out | apply below_alloc | apply pw_below_drewN | apply below_drew1) | exact HB.out | exact Below.refl _ _))) : w.heap.size ≤ gb104)); clear HB; have HB := n0_; have BK104 := n1_; have GW104 := n2_; have GE104 := n3_; clear n0_ n1_ n2_ n3_; clear hb hbox hg) | ((with_reducible refine gate_dst (N := 3) rfl ?_); refine box_event ?hg (N := 3) ?hd (cs := #[.string a1_0, .int .i64 a1_1]) (t := 40) ?hr ?_; (case hd => rfl); (case hg => rfl); (case hr => first | (go_simp; done) | (go_simp; rfl)); intro gb105 hg w11 hbox hb; have n0_ := Aside0.mk (blk_below (g := gb104) (o := .cells #[.string a0_0, .int .i64 a0_1] 40 (0, 0)) (by (with_reducible repeat (first | refine blk_drewN ?_ _ | refine blk_drew ?_ | refine blk_alloc ?_ _)); exact BK104.out) hb); have n1_ := Aside0.mk (below_step (by repeat (first | (with_reducible first | exact HB.out | apply below_alloc | apply pw_below_drewN | apply below_drew1 | refine below_set ?_ GE104.out) | exact HB.out)) hb); have n2_ := Aside0.mk (hbox); have n3_ := Aside0.mk ((by rw [hg]; exact (below_size (by repeat (first | (with_reducible first | exact HB.out | apply below_alloc | apply pw_below_drewN | apply below_drew1 | refine below_set ?_ GE104.out) | exact HB.out))) : w.heap.size ≤ gb105)); have n4_ := Aside0.mk ((by rw [hg]; exact (below_size (by repeat (first | (with_reducible first | exact HB.out | apply below_alloc | apply pw_below_drewN | apply below_drew1 | refine below_set ?_ GE104.out) | exact HB.out))) : w.heap.size ≤ gb105)); have n5_ := Aside0.mk ((by rw [hg]; exact Nat.ne_of_lt (blk_lt (g := gb104) (o := .cells #[.string a0_0, .int .i64 a0_1] 40 (0, 0)) (by (with_reducible repeat (first | refine blk_drewN ?_ _ | refine blk_drew ?_ | refine blk_alloc ?_ _)); exact BK104.out)) : gb104 ≠ gb105)); have n6_ := Aside0.mk ((by rw [hg]; exact Nat.ne_of_gt (blk_lt (g := gb104) (o := .cells #[.string a0_0, .int .i64 a0_1] 40 (0, 0)) (by (with_reducible repeat (first | refine blk_drewN ?_ _ | refine blk_drew ?_ | refine blk_alloc ?_ _)); exact BK104.out)) : gb105 ≠ gb104)); clear BK104; clear HB; have BK104 := n0_; have HB := n1_; have BK105 := n2_; have GW105 := n3_; have GE105 := n4_; have NB104_105 := n5_; have NB105_104 := n6_; clear n0_ n1_ n2_ n3_ n4_ n5_ n6_; clear hb hbox hg; have hnb12 := NB104_105.out; have hnc12 := NB105_104.out; have hcz13_0 : w11.cell? ⟨gb104, 0, none⟩ = some (.string a0_0) := (blk_cell BK104.out 0).trans rfl; have hcz13_1 : w11.cell? ⟨gb104, 1, none⟩ = some (.int .i64 a0_1) := (blk_cell BK104.out 1).trans rfl; have hfz13_0 := blk_frozen BK104.out 0; have hfz13_1 := blk_frozen BK104.out 1; have hcz14_0 : w11.cell? ⟨gb105, 0, none⟩ = some (.string a1_0) := (blk_cell BK105.out 0).trans rfl; have hcz14_1 : w11.cell? ⟨gb105, 1, none⟩ = some (.int .i64 a1_1) := (blk_cell BK105.out 1).trans rfl; have hfz14_0 := blk_frozen BK105.out 0; have hfz14_1 := blk_frozen BK105.out 1))
      go_ret
      exact ⟨by first | rfl | (simp [errW_none, errW_some] <;> rfl) | (simp [*, errW_none, errW_some] <;> rfl), by repeat (first | (with_reducible first | exact HB.out | apply below_alloc | apply pw_below_drewN | apply below_drew1 | refine below_set ?_ GE104.out | refine below_set ?_ GE105.out) | exact HB.out)⟩
    · rw [if_neg c9] at H
      have c9b0 : (a0_1 == a1_1) = false := beq_eq_false_iff_ne.mpr c9
      have c9b1 : (a0_1 != a1_1) = true := bne_iff_ne.mpr c9
      obtain rfl := Option.some.inj H
      go_enter Try.func41, Try.ntmps41
      go_wp2_with (first | ((with_reducible refine gate_dst (N := 2) rfl ?_); refine box_event ?hg (N := 2) ?hd (cs := #[.string a0_0, .int .i64 a0_1]) (t := 40) ?hr ?_; (case hd => rfl); (case hg => rfl); (case hr => first | (go_simp; done) | (go_simp; rfl)); intro gb104 hg w15 hbox hb; have n0_ := Aside0.mk (below_step (by repeat (first | (with_reducible first | exact HB.out | apply below_alloc | apply pw_below_drewN | apply below_drew1) | exact HB.out | exact Below.refl _ _)) hb); have n1_ := Aside0.mk (hbox); have n2_ := Aside0.mk ((by rw [hg]; exact (below_size (by repeat (first | (with_reducible first | exact HB.out | apply below_alloc | apply pw_below_drewN | apply below_drew1) | exact HB.out | exact Below.refl _ _))) : w.heap.size ≤ gb104)); have n3_ := Aside0.mk ((by rw [hg]; exact (below_size (by repeat (first | (with_reducible first | exact HB.out | apply below_alloc | apply pw_below_drewN | apply below_drew1) | exact HB.out | exact Below.refl _ _))) : w.heap.size ≤ gb104)); clear HB; have HB := n0_; have BK104 := n1_; have GW104 := n2_; have GE104 := n3_; clear n0_ n1_ n2_ n3_; clear hb hbox hg) | ((with_reducible refine gate_dst (N := 3) rfl ?_); refine box_event ?hg (N := 3) ?hd (cs := #[.string a1_0, .int .i64 a1_1]) (t := 40) ?hr ?_; (case hd => rfl); (case hg => rfl); (case hr => first | (go_simp; done) | (go_simp; rfl)); intro gb105 hg w16 hbox hb; have n0_ := Aside0.mk (blk_below (g := gb104) (o := .cells #[.string a0_0, .int .i64 a0_1] 40 (0, 0)) (by (with_reducible repeat (first | refine blk_drewN ?_ _ | refine blk_drew ?_ | refine blk_alloc ?_ _)); exact BK104.out) hb); have n1_ := Aside0.mk (below_step (by repeat (first | (with_reducible first | exact HB.out | apply below_alloc | apply pw_below_drewN | apply below_drew1 | refine below_set ?_ GE104.out) | exact HB.out)) hb); have n2_ := Aside0.mk (hbox); have n3_ := Aside0.mk ((by rw [hg]; exact (below_size (by repeat (first | (with_reducible first | exact HB.out | apply below_alloc | apply pw_below_drewN | apply below_drew1 | refine below_set ?_ GE104.out) | exact HB.out))) : w.heap.size ≤ gb105)); have n4_ := Aside0.mk ((by rw [hg]; exact (below_size (by repeat (first | (with_reducible first | exact HB.out | apply below_alloc | apply pw_below_drewN | apply below_drew1 | refine below_set ?_ GE104.out) | exact HB.out))) : w.heap.size ≤ gb105)); have n5_ := Aside0.mk ((by rw [hg]; exact Nat.ne_of_lt (blk_lt (g := gb104) (o := .cells #[.string a0_0, .int .i64 a0_1] 40 (0, 0)) (by (with_reducible repeat (first | refine blk_drewN ?_ _ | refine blk_drew ?_ | refine blk_alloc ?_ _)); exact BK104.out)) : gb104 ≠ gb105)); have n6_ := Aside0.mk ((by rw [hg]; exact Nat.ne_of_gt (blk_lt (g := gb104) (o := .cells #[.string a0_0, .int .i64 a0_1] 40 (0, 0)) (by (with_reducible repeat (first | refine blk_drewN ?_ _ | refine blk_drew ?_ | refine blk_alloc ?_ _)); exact BK104.out)) : gb105 ≠ gb104)); clear BK104; clear HB; have BK104 := n0_; have HB := n1_; have BK105 := n2_; have GW105 := n3_; have GE105 := n4_; have NB104_105 := n5_; have NB105_104 := n6_; clear n0_ n1_ n2_ n3_ n4_ n5_ n6_; clear hb hbox hg; have hnb17 := NB104_105.out; have hnc17 := NB105_104.out; have hcz18_0 : w16.cell? ⟨gb104, 0, none⟩ = some (.string a0_0) := (blk_cell BK104.out 0).trans rfl; have hcz18_1 : w16.cell? ⟨gb104, 1, none⟩ = some (.int .i64 a0_1) := (blk_cell BK104.out 1).trans rfl; have hfz18_0 := blk_frozen BK104.out 0; have hfz18_1 := blk_frozen BK104.out 1; have hcz19_0 : w16.cell? ⟨gb105, 0, none⟩ = some (.string a1_0) := (blk_cell BK105.out 0).trans rfl; have hcz19_1 : w16.cell? ⟨gb105, 1, none⟩ = some (.int .i64 a1_1) := (blk_cell BK105.out 1).trans rfl; have hfz19_0 := blk_frozen BK105.out 0; have hfz19_1 := blk_frozen BK105.out 1))
      go_ret
      exact ⟨by first | rfl | (simp [errW_none, errW_some] <;> rfl) | (simp [*, errW_none, errW_some] <;> rfl), by repeat (first | (with_reducible first | exact HB.out | apply below_alloc | apply pw_below_drewN | apply below_drew1 | refine below_set ?_ GE104.out | refine below_set ?_ GE105.out) | exact HB.out)⟩
end Go.Proofs.Ytcpnekdhdmncfaa.P
