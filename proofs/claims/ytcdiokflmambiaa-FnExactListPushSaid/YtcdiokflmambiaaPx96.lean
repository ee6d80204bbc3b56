-- Written by wip/px.py of this session, over the kit's print.py. Not trusted: Lean checks it.
import Derived.Test.YtcdiokflmambiaaPx0
import Derived.Test.YtcdiokflmambiaaPx1
namespace Go.Proofs.Ytcdiokflmambiaa.P
open Go.RowKit Go.Proofs.YtcdiokflmambiaaW.PrintWords Go.Proofs.YtcdiokflmambiaaW.PrintLast Go.Proofs.YtcdiokflmambiaaW.PrintMore
attribute [local go_sem] max2_int min2_int max_two min_two max_three min_three max_four min_four   -- for this text's walks alone
set_option linter.unusedVariables false
set_option linter.unusedSimpArgs false

/-! ### slices_Insert_string_string: the walk -/
set_option maxHeartbeats 1000000 in
theorem slices_Insert_string_string.calls (P0_ : Nat → Prop) (u9000_ : Value) (l0 : List ByteArray) (a1 : Int) (P2_ : Nat → Prop) (u9001_ : Value) (l2 : List ByteArray) (r : List ByteArray) (w0 w : World) (hB : Below w0.heap.size w0 w) (ho0 : Kd.R Kd.string 9 w w0.heap.size P0_ u9000_ l0) (hp0_2 : ∀ k_, P0_ k_ → ¬ P2_ k_) (ho2 : Kd.R Kd.string 9 w w0.heap.size P2_ u9001_ l2) (_hp2_0 : ∀ k_, P2_ k_ → ¬ P0_ k_) (h : slices_Insert_string_string.f l0 a1 l2 = some r) :
    Calls Try.prog 91 #[u9000_, .int .i64 a1, u9001_] w fun e w' => ∃ v0_ : Value, e = .returned (v0_) ∧ Kd.R Kd.string 9 w' w0.heap.size (fun k_ => ((P0_ k_ ∨ P2_ k_) ∨ w.heap.size ≤ k_)) v0_ r ∧ Below w0.heap.size w0 w' ∧ Kept w w' (fun k_ => P0_ k_ ∨ P2_ k_) := by
  unfold slices_Insert_string_string.f at h
  split at h
  case isFalse => cases h
  case isTrue hc =>
  obtain ⟨rfl, h1, hsz⟩ := hc
  obtain rfl := Option.some.inj h
  obtain ⟨t, rfl⟩ := List.length_eq_one_iff.1 h1
  clear h h1
  have hown := Kd.own_of_R ho0
  have hown2 := Kd.own_of_R ho2
  have ev : encs Value.string [t] = [Value.string t] := rfl
  rw [ev] at hown2
  have hcl : (encs Value.string l0).length = l0.length := by simp [encs]
  have h1c : ∀ v ∈ encs Value.string l0, v.oneCell' = true := fun v hv => by
    simp only [encs, List.mem_map] at hv
    obtain ⟨x, _, rfl⟩ := hv
    rfl
  have h1v : ∀ v ∈ [Value.string t], v.oneCell' = true := fun v hv => by
    rw [List.mem_singleton.1 hv]
    rfl
  rcases hown2.2 with ⟨_, hn⟩ | ⟨vb, vc, vcur, rfl, hvb, hvg, hvn, hvm, hvs, hvt⟩
  · cases hn
  have hPv : P2_ vb := ho2.1 vb (by simp [Value.ownBlock])
  have hvcell : ∀ j v, [Value.string t][j]? = some v → w.cell? ⟨vb, 0 + j, none⟩ = some v := fun j v hj => by
    have := hown2.cells (g := vb) (by simp [Value.ownBlock]) j v hj
    rwa [Addr.add_lit] at this
  have hbase : w0.heap.size ≤ w.heap.size := hB.size
  -- a row that is new
  have fresh : ∀ (w' : World) (c : Nat) (cur : Array Value), w.grownBy w' none → w'.heap[w.heap.size]? = some (.cells cur 9 (0, 0)) → l0.length + 1 ≤ c → c ≤ maxLen → cur.size = c → cur.toList.take (l0.length + 1) = encs Value.string (t :: l0) →
      ∃ v0_ : Value, Ending.returned (.slice (some ⟨w.heap.size, 0, none⟩) (l0.length + 1) c) = .returned (v0_) ∧ Kd.R Kd.string 9 w' w0.heap.size (fun k_ => ((P0_ k_ ∨ P2_ k_) ∨ w.heap.size ≤ k_)) v0_ ([t] ++ l0) ∧ Below w0.heap.size w0 w' ∧ Kept w w' (fun k_ => P0_ k_ ∨ P2_ k_) := fun w' c cur hg hh hc hm hs ht =>
    ⟨_, rfl, Kd.R_of_own ⟨by simp [encs], .inr ⟨w.heap.size, c, cur, by simp, hbase, hh, by simpa using hc, hm, by omega, by simpa [Nat.mul_one] using ht⟩⟩ (fun k hk => .inr (by
      have : w.heap.size = k := by simpa [Value.ownBlock] using hk
      omega)), hB.grown hg hbase (fun k hk => by cases hk), Kept.of_grown hg (Kept.refl w _) (fun k hk => by cases hk)⟩
  -- the row itself, one longer
  have same : ∀ (w' : World) (g c : Nat) (cur : Array Value), P0_ g → w0.heap.size ≤ g → w.grownBy w' (some g) → w'.heap[g]? = some (.cells cur 9 (0, 0)) → l0.length + 1 ≤ c → c ≤ maxLen → cur.size = c → cur.toList.take (l0.length + 1) = encs Value.string (t :: l0) →
      ∃ v0_ : Value, Ending.returned (.slice (some ⟨g, 0, none⟩) (l0.length + 1) c) = .returned (v0_) ∧ Kd.R Kd.string 9 w' w0.heap.size (fun k_ => ((P0_ k_ ∨ P2_ k_) ∨ w.heap.size ≤ k_)) v0_ ([t] ++ l0) ∧ Below w0.heap.size w0 w' ∧ Kept w w' (fun k_ => P0_ k_ ∨ P2_ k_) := fun w' g c cur hP hgb hg hh hc hm hs ht =>
    ⟨_, rfl, Kd.R_of_own ⟨by simp [encs], .inr ⟨g, c, cur, by simp, hgb, hh, by simpa using hc, hm, by omega, by simpa [Nat.mul_one] using ht⟩⟩ (fun k hk => .inl (.inl (by
      have : g = k := by simpa [Value.ownBlock] using hk
      exact this ▸ hP))), hB.grown hg hbase (fun k hk => by injection hk with hk; exact hk ▸ hgb), Kept.of_grown hg (Kept.refl w _) (fun k hk => .inl (.inl (by injection hk with hk; exact hk ▸ hP)))⟩
  have hml : ∀ (o : Nat), grownCap w (l0.length + 1) o 9 ≤ maxLen := fun o => grownCap_le_maxLen w _ _ _ (by unfold maxLen; omega)
  have hmg : ∀ (o : Nat), l0.length + 1 ≤ grownCap w (l0.length + 1) o 9 := fun o => grownCap_ge w _ _ _
  have hzc : ∀ k, (Builtin.zeroCells (Value.string ⟨#[]⟩).cells k).size = k := fun k => by simp [Builtin.zeroCells, Value.cells]
  have hzl : ∀ k, (Builtin.zeroCells (Value.string ⟨#[]⟩).cells k).toList.length = k := fun k => by rw [Array.length_toList, hzc]
  -- no element, no room
  have e0 : ∀ (base : Option Addr), (base = none → l0.length = 0) → (∀ a, base = some a → ∀ j v, (encs Value.string l0)[j]? = some v → w.cell? (a.add j) = some v) → l0 = [] → u9000_ = .slice base 0 0 →
      Calls Try.prog 91 #[u9000_, .int .i64 0, .slice (some ⟨vb, 0, none⟩) [t].length vc] w fun e w' => ∃ v0_ : Value, e = .returned (v0_) ∧ Kd.R Kd.string 9 w' w0.heap.size (fun k_ => ((P0_ k_ ∨ P2_ k_) ∨ w.heap.size ≤ k_)) v0_ ([t] ++ l0) ∧ Below w0.heap.size w0 w' ∧ Kept w w' (fun k_ => P0_ k_ ∨ P2_ k_) := fun base _ _ hl hu => by
    subst hl
    rw [hu]
    refine (Try.slices_Insert_string_end_grow base 0 0 vb 0 1 vc [] [Value.string t] w (by decide) (Nat.le_refl _) (by decide) (by decide) rfl rfl (fun _ => rfl) (fun _ _ j v hj => by simp at hj) hvcell h1v).mono ?_
    rintro e w' ⟨rfl, rfl⟩
    refine fresh _ _ _ (by obtain ⟨a, b, c, d, e⟩ := World.grownBy_alloc w.drew (.cells (([] ++ [Value.string t]).toArray ++ Builtin.zeroCells (Value.string ⟨#[]⟩).cells (grownCap w (0 + 1) 0 9 - (0 + 1))) 9) none; exact ⟨a, b, c, d, e⟩) (heap_alloc_new _ _) (hmg 0) (hml 0) ?_ ?_
    · rw [Array.size_append, hzc]; have := hmg 0; simp at this ⊢; omega
    · simp [encs]
  rcases hown.2 with ⟨rfl, hn⟩ | ⟨g, c, cur, rfl, hgb, hgg, hnc, hcm, hcs, htk⟩
  · exact e0 none (fun _ => hn) (fun _ h => by cases h) (List.length_eq_zero_iff.1 hn) rfl
  have hPg : P0_ g := ho0.1 g (by simp [Value.ownBlock])
  have hne : vb ≠ g := fun e => hp0_2 g hPg (e ▸ hPv)
  have hcell : ∀ j v, (encs Value.string l0)[j]? = some v → w.cell? ⟨g, 0 + j, none⟩ = some v := fun j v hj => by
    have := hown.cells (g := g) (by simp [Value.ownBlock]) j v hj
    rwa [Addr.add_lit] at this
  have hsp : ∀ j, j < c → (w.cell? ⟨g, 0 + j, none⟩).isSome = true := fun j hj => by
    rw [cell_of_row w g _ cur 9 (0, 0) hgg]; simp; omega
  have hfz : ∀ j, w.frozen? ⟨g, 0 + j, none⟩ = false := fun j => blk_frozen hgg _
  have hlt : g < w.heap.size := (Array.getElem?_eq_some_iff.1 hgg).1
  have hc63 : c ≤ 9223372036854775807 := by unfold maxLen at hcm; omega
  rw [Nat.mul_one] at htk hcs
  cases l0 with
  | nil =>
    by_cases hc0 : c = 0
    · subst hc0
      exact e0 (some ⟨g, 0, none⟩) (fun h => by cases h) (fun _ _ j v hj => by simp [encs] at hj) rfl rfl
    · refine (Try.slices_Insert_string_end_room g 0 0 c vb 0 1 vc [Value.string t] w (by decide) (by omega) hc63 rfl (fun j hj => by simpa using hsp j (by omega)) (fun j _ => by simpa using hfz j) hvcell h1v).mono ?_
      rintro e w' ⟨rfl, rfl⟩
      obtain ⟨cur', h3, h4, h5⟩ := setCells_row [Value.string t] 0 w cur hgg (by simp; omega)
      obtain ⟨s1, s2, s3, s4⟩ := setCells_same g [Value.string t] 0 w
      refine same _ g c cur' hPg hgb ⟨s1, s2, s3, by rw [s4]; exact Nat.le_refl _, fun k' _ hk' => setCells_far _ _ k' (fun he => hk' (by rw [he]))⟩ (by simpa using h3) (by simp; omega) hcm (by omega) ?_
      rw [h5]; simp [encs]
  | cons x xs =>
    have hi0 : 0 < (x :: xs).length := by simp
    by_cases hroom : (x :: xs).length + 1 ≤ c
    · have hl9 : w.shape? vb = some (9, vcur.size) := by simp [World.shape?, hvg]
      have hl8 : w.shape? g = some (9, cur.size) := by simp [World.shape?, hgg]
      refine (Try.slices_Insert_string_shift g 0 (x :: xs).length c 0 vb 0 1 vc (encs Value.string (x :: xs)) [Value.string t] w hi0 (by decide) hroom hc63 hne hcl rfl hcell (fun j hj => hsp j (by omega)) (fun j _ => hfz j) hvcell h1c h1v 9 9 vcur.size cur.size hl9 hl8 (by omega) (blk_frozen hvg _) (blk_frozen hvg _)).mono ?_
      rintro e w' ⟨rfl, rfl⟩
      obtain ⟨cur1, a3, a4, a5⟩ := setCells_row (encs Value.string (x :: xs)) 1 w.drew cur hgg (by rw [hcl]; omega)
      obtain ⟨s1, s2, s3, s4⟩ := setCells_same g (encs Value.string (x :: xs)) 1 w.drew
      obtain ⟨cur2, b3, b4, b5⟩ := setCells_row [Value.string t] 0 (w.drew.setCells g 1 (encs Value.string (x :: xs))) cur1 a3 (by simp; omega)
      obtain ⟨r1, r2, r3, r4⟩ := setCells_same g [Value.string t] 0 (w.drew.setCells g 1 (encs Value.string (x :: xs)))
      refine same _ g c cur2 hPg hgb ⟨r1.trans s1, r2.trans s2, r3.trans s3, by rw [List.drop_zero]; exact Nat.le_of_eq (r4.trans s4).symm, fun k' _ hk' => ?_⟩ (by simpa using b3) hroom hcm (by omega) ?_
      · have hkg : k' ≠ g := fun he => hk' (by rw [he])
        rw [List.drop_zero]
        exact (setCells_far _ _ k' hkg).trans (setCells_far _ _ k' hkg)
      · rw [b5, a5]
        simp only [List.take_zero, List.nil_append, List.length_singleton, Nat.zero_add]
        have hq : (List.take 1 cur.toList).length = 1 := by rw [List.length_take, Array.length_toList]; omega
        rw [List.append_assoc, List.drop_append_of_le_length (by omega), List.drop_of_length_le (by omega), List.nil_append, List.singleton_append, List.take_succ_cons, List.take_append_of_le_length (by rw [hcl]; exact Nat.le_refl _), List.take_of_length_le (by rw [hcl]; exact Nat.le_refl _)]
        rfl
    · have hce : c = (x :: xs).length := by omega
      refine (Try.slices_Insert_string_grow g 0 (x :: xs).length c 0 vb 0 1 vc (encs Value.string (x :: xs)) [Value.string t] w hi0 (by decide) hnc (by omega) (by omega) hcl rfl hcell hvcell h1c h1v).mono ?_
      rintro e w' ⟨rfl, rfl⟩
      rw [List.take_zero, List.drop_zero]
      obtain ⟨ROW, hR⟩ : ∃ ROW : Array Value, ROW = ([] : List Value).toArray ++ Builtin.zeroCells (Value.string ⟨#[]⟩).cells ((x :: xs).length + 1 - 0) ++ Builtin.zeroCells (Value.string ⟨#[]⟩).cells (grownCap w ((x :: xs).length + 1) c 9 - ((x :: xs).length + 1)) := ⟨_, rfl⟩
      have hRs : ROW.size = grownCap w ((x :: xs).length + 1) c 9 := by
        have := hmg c
        rw [hR, Array.size_append, Array.size_append, hzc, hzc]
        simp only [List.size_toArray, List.length_nil, Nat.zero_add, Nat.sub_zero]
        omega
      rw [← hR]
      have hg0 : (w.alloc (.cells ROW 9)).drew.heap[w.heap.size]? = some (.cells ROW 9 (0, 0)) := heap_alloc_new w _
      obtain ⟨cur1, a3, a4, a5⟩ := setCells_row [Value.string t] 0 (w.alloc (.cells ROW 9)).drew ROW hg0 (by have := hmg c; simp; omega)
      obtain ⟨s1, s2, s3, s4⟩ := setCells_same w.heap.size [Value.string t] 0 (w.alloc (.cells ROW 9)).drew
      obtain ⟨cur2, b3, b4, b5⟩ := setCells_row (encs Value.string (x :: xs)) 1 ((w.alloc (.cells ROW 9)).drew.setCells w.heap.size 0 [Value.string t]).drew cur1 a3 (by have := hmg c; rw [hcl]; omega)
      obtain ⟨r1, r2, r3, r4⟩ := setCells_same w.heap.size (encs Value.string (x :: xs)) 1 ((w.alloc (.cells ROW 9)).drew.setCells w.heap.size 0 [Value.string t]).drew
      refine fresh _ _ cur2 ⟨r1.trans s1, r2.trans s2, r3.trans s3, ?_, fun k' hk hk' => ?_⟩ b3 (hmg c) (hml c) (by omega) ?_
      · exact Nat.le_trans (World.grownBy_alloc w (.cells ROW 9) none).size (Nat.le_of_eq (r4.trans s4).symm)
      · have hkg : k' ≠ w.heap.size := by omega
        have q1 := setCells_far (g := w.heap.size) (encs Value.string (x :: xs)) 1 (w := ((w.alloc (.cells ROW 9)).drew.setCells w.heap.size 0 [Value.string t]).drew) k' hkg
        have q2 := setCells_far (g := w.heap.size) [Value.string t] 0 (w := (w.alloc (.cells ROW 9)).drew) k' hkg
        exact q1.trans (q2.trans (heap_alloc_old w _ hk))
      · rw [b5, a5]
        simp only [List.take_zero, List.nil_append, List.length_singleton, Nat.zero_add, List.singleton_append, List.take_succ_cons]
        rw [List.cons_append, List.take_succ_cons, List.take_append_of_le_length (by rw [hcl]; exact Nat.le_refl _), List.take_of_length_le (by rw [hcl]; exact Nat.le_refl _)]
        rfl


end Go.Proofs.Ytcdiokflmambiaa.P
