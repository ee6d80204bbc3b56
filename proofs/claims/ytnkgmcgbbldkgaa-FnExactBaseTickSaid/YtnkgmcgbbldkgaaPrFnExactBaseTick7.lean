import Derived.Test.YtnkgmcgbbldkgaaPrFnExactBaseTick6
/- Texts of this claim, one behind the other: words on worlds and rows, printed functions and their walks, plain lemmas. -/
namespace Go.Proofs.Ytnkgmcgbbldkgaa.Q
open Go.RowKit Go.Proofs.YtnkgmcgbbldkgaaW.PrintWords Go.Proofs.YtnkgmcgbbldkgaaW.PrintLast Go.Proofs.Ytnkgmcgbbldkgaa.P
theorem len1 {α : Type} (l : List α) (x : α) : (l ++ [x]).length = l.length + 1 := by simp
theorem l4Entry_ev (x : Entry) (h : entryCap x) : Ev (fun _ => spec_l4Entry.f x.f0 x.f1 x.f2 x.f3 x.f4 x.f5 x.f6) (x.f0, x.f1, x.f2, x.f3, x.f4, x.f5, x.f6) := by
  obtain ⟨a, b, c⟩ := h
  unfold spec_l4Entry.f
  exact Ev.bind (l2Copy_ev x.f4 (by omega)) (Ev.bind (ret _) (pos (by simp; omega) (Ev.bind (ret _) (pos (by simp; omega) (ret' rfl)))))
theorem cloneEntry_ev (x : Entry) (h : entryCap x) : Ev (fun _ => impl_cloneEntry.f x.f0 x.f1 x.f2 x.f3 x.f4 x.f5 x.f6) (x.f0, x.f1, x.f2, x.f3, x.f4, x.f5, x.f6) := by
  obtain ⟨a, b, c⟩ := h
  have h5 : Ev (fun _ => impl_copiedScores.f x.f5) x.f5 := by
    unfold impl_copiedScores.f
    exact Ev.bind (ret _) (pos (by simp; omega) (ret' rfl))
  have h6 : Ev (fun _ => impl_copiedPairs.f x.f6) x.f6 := by
    unfold impl_copiedPairs.f
    exact Ev.bind (ret _) (pos (by simp; omega) (ret' rfl))
  unfold impl_cloneEntry.f
  exact Ev.bind (copied_ev x.f4 (by omega)) (Ev.bind h5 (Ev.bind h6 (ret' rfl)))
theorem cloneBase_l0 (now : Int) (rest : List Entry) : ∀ (done acc : List Entry), acc.length ≤ done.length → done.length + rest.length ≤ 1048576 → (∀ x ∈ rest, entryCap x) →
    Ev (fun k => impl_cloneBase.l0 k (done ++ rest) ((done ++ rest).length : Int) (done.length : Int) now acc) (now, acc ++ rest) := by
  induction rest with
  | nil => intro done acc _ h2 _; exact Ev.step (g := fun k => impl_cloneBase.l0 k _ _ _ _ _) (fun k => by rw [impl_cloneBase.l0]) (neg (by simp) (ret' (by simp)))
  | cons x r ih =>
    intro done acc h1 h2 h3
    rw [List.length_cons] at h2
    have q : (done.length : Int) < ((done ++ x :: r).length : Int) := by rw [List.length_append, List.length_cons]; omega
    refine Ev.step (g := fun k => impl_cloneBase.l0 k _ _ _ _ _) (fun k => by rw [impl_cloneBase.l0]) (pos q (pos (by omega) (pos q ?_)))
    rw [rdE_app, wrap_id (x := (done.length : Int) + 1) (by omega) (by omega)]
    have h := ih (done ++ [x]) (acc ++ [x]) (by simp; omega) (by simp; omega) (fun y hy => h3 y (List.mem_cons_of_mem _ hy))
    rw [List.append_assoc, List.append_assoc, List.singleton_append, len1 done x] at h
    exact Ev.bind (cloneEntry_ev x (h3 x List.mem_cons_self)) (pos (by omega) h)
theorem cloneBase_ev (now : Int) (l : List Entry) (hl : l.length ≤ 1048576) (hs : ∀ x ∈ l, entryCap x) : Ev (fun k => impl_cloneBase.f k now l) (now, l) := by
  simpa [impl_cloneBase.f] using cloneBase_l0 now l [] [] (by simp) (by simpa using hl) hs
theorem l4Copy_l0 (now : Int) (rest : List Entry) : ∀ (done acc : List Entry), acc.length ≤ done.length → done.length + rest.length ≤ 1048576 → (∀ x ∈ rest, entryCap x) →
    Ev (fun k => spec_l4Copy.l0 k (done.length : Int) now (done ++ rest) now acc) (now, acc ++ rest) := by
  induction rest with
  | nil => intro done acc _ h2 _; exact Ev.step (g := fun k => spec_l4Copy.l0 k _ _ _ _ _) (fun k => by rw [spec_l4Copy.l0]) (neg (by simp) (ret' (by simp)))
  | cons x r ih =>
    intro done acc h1 h2 h3
    rw [List.length_cons] at h2
    have q : (done.length : Int) < ((done ++ x :: r).length : Int) := by rw [List.length_append, List.length_cons]; omega
    refine Ev.step (g := fun k => spec_l4Copy.l0 k _ _ _ _ _) (fun k => by rw [spec_l4Copy.l0]) (pos q (pos (by omega) ?_))
    rw [rdE_app, wrap_id (x := (done.length : Int) + 1) (by omega) (by omega)]
    have h := ih (done ++ [x]) (acc ++ [x]) (by simp; omega) (by simp; omega) (fun y hy => h3 y (List.mem_cons_of_mem _ hy))
    rw [List.append_assoc, List.append_assoc, List.singleton_append, len1 done x] at h
    exact Ev.bind (l4Entry_ev x (h3 x List.mem_cons_self)) (pos (by omega) h)
theorem l4Copy_ev (now : Int) (l : List Entry) (hl : l.length ≤ 1048576) (hs : ∀ x ∈ l, entryCap x) : Ev (fun k => spec_l4Copy.f k now l) (now, l) := by
  simpa [spec_l4Copy.f] using l4Copy_l0 now l [] [] (by simp) (by simpa using hl) hs
def lasts (t : Int) (x : Entry) : Bool := decide (x.f1 = 0) || decide (x.f1 > t)
theorem l4Tick_l0 (now t : Int) (rest : List Entry) : ∀ (done acc : List Entry), acc.length ≤ done.length → done.length + rest.length ≤ 1048576 → (∀ x ∈ rest, entryCap x) →
    Ev (fun k => spec_l4Tick.l0 k (done.length : Int) now (done ++ rest) t acc) (t, acc ++ rest.filter (lasts t)) := by
  induction rest with
  | nil => intro done acc _ h2 _; exact Ev.step (g := fun k => spec_l4Tick.l0 k _ _ _ _ _) (fun k => by rw [spec_l4Tick.l0]) (neg (by simp) (ret' (by simp)))
  | cons x r ih =>
    intro done acc h1 h2 h3
    rw [List.length_cons] at h2
    have q : (done.length : Int) < ((done ++ x :: r).length : Int) := by rw [List.length_append, List.length_cons]; omega
    refine Ev.step (g := fun k => spec_l4Tick.l0 k _ _ _ _ _) (fun k => by rw [spec_l4Tick.l0]) (pos q (pos (by omega) ?_))
    rw [rdE_app, wrap_id (x := (done.length : Int) + 1) (by omega) (by omega), List.filter_cons]
    have h := ih (done ++ [x]) (acc ++ [x]) (by simp; omega) (by simp; omega) (fun y hy => h3 y (List.mem_cons_of_mem _ hy))
    have h' := ih (done ++ [x]) acc (by simp; omega) (by simp; omega) (fun y hy => h3 y (List.mem_cons_of_mem _ hy))
    rw [List.append_assoc, List.append_assoc, List.singleton_append, List.singleton_append, len1 done x] at h
    rw [List.append_assoc, List.singleton_append, len1 done x] at h'
    have hx := l4Entry_ev x (h3 x List.mem_cons_self)
    refine both (fun c => ?_) (fun c => both (fun c' => ?_) (fun c' => ?_))
    · rw [if_pos (by simp [lasts, c])]; exact Ev.bind hx (pos (by omega) h)
    · rw [if_pos (by simp [lasts, c'])]; exact Ev.bind hx (pos (by omega) h)
    · rw [if_neg (by simp [lasts, c]; omega)]; exact h'
theorem BaseTick_l0 (t : Int) (rest : List Entry) : ∀ (done acc : List Entry), acc.length ≤ done.length → done.length + rest.length ≤ 1048576 → (∀ x ∈ rest, entryCap x) →
    Ev (fun k => impl_BaseTick.l0 k (done ++ rest) ((done ++ rest).length : Int) (done.length : Int) t acc) (t, acc ++ rest.filter (lasts t)) := by
  induction rest with
  | nil => intro done acc _ h2 _; exact Ev.step (g := fun k => impl_BaseTick.l0 k _ _ _ _ _) (fun k => by rw [impl_BaseTick.l0]) (neg (by simp) (ret' (by simp)))
  | cons x r ih =>
    intro done acc h1 h2 h3
    rw [List.length_cons] at h2
    have q : (done.length : Int) < ((done ++ x :: r).length : Int) := by rw [List.length_append, List.length_cons]; omega
    refine Ev.step (g := fun k => impl_BaseTick.l0 k _ _ _ _ _) (fun k => by rw [impl_BaseTick.l0]) (pos q (pos (by omega) (pos q ?_)))
    rw [rdE_app, wrap_id (x := (done.length : Int) + 1) (by omega) (by omega), List.filter_cons]
    have h := ih (done ++ [x]) (acc ++ [x]) (by simp; omega) (by simp; omega) (fun y hy => h3 y (List.mem_cons_of_mem _ hy))
    have h' := ih (done ++ [x]) acc (by simp; omega) (by simp; omega) (fun y hy => h3 y (List.mem_cons_of_mem _ hy))
    rw [List.append_assoc, List.append_assoc, List.singleton_append, List.singleton_append, len1 done x] at h
    rw [List.append_assoc, List.singleton_append, len1 done x] at h'
    have hx := cloneEntry_ev x (h3 x List.mem_cons_self)
    refine both (fun c => ?_) (fun c => both (fun c' => ?_) (fun c' => ?_))
    · rw [if_pos (by simp [lasts, c])]; exact Ev.bind hx (pos (by omega) h)
    · rw [if_pos (by simp [lasts, c'])]; exact Ev.bind hx (pos (by omega) h)
    · rw [if_neg (by simp [lasts, c]; omega)]; exact h'
def tickB (now : Int) (l : List Entry) (n : Int) : Int × List Entry :=
  if baseB now l then (if inB n 0 (1000000 - now) then (wrap64 (now + n), l.filter (lasts (wrap64 (now + n)))) else (now, l)) else (0, [])
theorem tickB_mem (now : Int) (l : List Entry) (n : Int) : ∀ x ∈ (tickB now l n).2, x ∈ l := by
  unfold tickB
  intro x hx
  split at hx
  · split at hx
    · exact (List.mem_filter.1 hx).1
    · exact hx
  · cases hx
theorem tickB_len (now : Int) (l : List Entry) (n : Int) : (tickB now l n).2.length ≤ l.length := by
  unfold tickB
  split
  · split
    · exact List.length_filter_le _ _
    · exact Nat.le_refl _
  · exact Nat.zero_le _
theorem baseB_now {now : Int} {l : List Entry} (h : baseB now l = true) : 0 ≤ now ∧ now ≤ 1000000 := by
  unfold baseB inB at h
  simp at h
  omega
theorem spec_BaseTick_ev (now : Int) (l : List Entry) (n : Int) (hl : l.length ≤ 1048576) (hs : ∀ x ∈ l, entryCap x) : Ev (fun k => spec_BaseTick.f k now l n) (tickB now l n) := by
  have hB := spec_BaseOk_ev now l (by unfold maxLen; omega) (fun x hx => cap_len (hs x hx))
  unfold spec_BaseTick.f
  refine Ev.bind hB ?_
  unfold tickB
  cases hb : baseB now l with
  | false => exact neg (by decide) (ret' rfl)
  | true =>
    obtain ⟨a, b⟩ := baseB_now hb
    refine pos rfl ?_
    rw [wrap_id (x := 1000000 - now) (by omega) (by omega)]
    refine Ev.bind (l1In_ev _ _ _) ?_
    cases hi : inB n 0 (1000000 - now) with
    | false => exact neg (by decide) (of_eq (l4Copy_ev now l hl hs) (by simp))
    | true =>
      refine pos rfl ?_
      have h := l4Tick_l0 now (wrap64 (now + n)) l [] [] (by simp) (by simpa using hl) hs
      refine of_eq (r := (wrap64 (now + n), l.filter (lasts (wrap64 (now + n))))) ?_ (by simp)
      simpa [spec_l4Tick.f] using h
theorem impl_BaseTick_ev (now : Int) (l : List Entry) (n : Int) (hl : l.length ≤ 1048576) (hs : ∀ x ∈ l, entryCap x) : Ev (fun k => impl_BaseTick.f k now l n) (tickB now l n) := by
  have hB := impl_BaseOk_ev now l (by unfold maxLen; omega) (fun x hx => cap_len (hs x hx))
  have hj : ∀ q : Bool, Ev (fun k => impl_BaseTick.j0 k n q now l) (if q then (now, l) else (wrap64 (now + n), l.filter (lasts (wrap64 (now + n))))) := by
    intro q
    refine Ev.step (g := fun k => impl_BaseTick.j0 k _ _ _ _) (fun k => by rw [impl_BaseTick.j0]) ?_
    cases q with
    | true => exact pos rfl (Ev.bind (cloneBase_ev now l hl hs) (ret' rfl))
    | false =>
      refine neg (by decide) ?_
      have h := BaseTick_l0 (wrap64 (now + n)) l [] [] (by simp) (by simpa using hl) hs
      simpa using h
  unfold impl_BaseTick.f
  refine Ev.bind hB ?_
  unfold tickB
  cases hb : baseB now l with
  | false => exact neg (by decide) (ret' rfl)
  | true =>
    obtain ⟨a, b⟩ := baseB_now hb
    refine pos rfl ?_
    rw [wrap_id (x := 1000000 - now) (by omega) (by omega)]
    refine both (fun c => of_eq (hj true) ?_) (fun c => of_eq (hj _) ?_)
    · have : inB n 0 (1000000 - now) = false := by unfold inB; simp; omega
      simp [this]
    · by_cases c' : n > 1000000 - now
      · have : inB n 0 (1000000 - now) = false := by unfold inB; simp; omega
        simp [this, c']
      · have : inB n 0 (1000000 - now) = true := by unfold inB; simp; omega
        simp [this, c']
theorem FnExactBaseTick_pure (now : Int) (l : List LEntry) (n : Int) (_hn : (Lit.int .i64 now).wf = true) (hl : l.length ≤ maxLen)
    (hs : ∀ x ∈ l, x.f0.size ≤ maxLen ∧ (Lit.int .i64 x.f1).wf = true ∧ (Lit.int .i64 x.f2).wf = true ∧ x.f3.size ≤ maxLen ∧ (x.f4.length ≤ maxLen ∧ ∀ s ∈ x.f4, s.size ≤ maxLen) ∧ (x.f5.length ≤ maxLen ∧ ∀ s ∈ x.f5, s.f0.size ≤ maxLen ∧ (Lit.int .i64 s.f1).wf = true) ∧ (x.f6.length ≤ maxLen ∧ ∀ s ∈ x.f6, s.f0.size ≤ maxLen ∧ s.f1.size ≤ maxLen)) (_hi : (Lit.int .i64 n).wf = true) :
    ∃ k, laws_FnExactBaseTick.f k now l n = some true := by
  refine exists_of (r := true) ?_
  unfold laws_FnExactBaseTick.f
  obtain ⟨v, hv, h1⟩ := szBase_ev now l hl hs
  refine Ev.bind hv (both (fun _ => ret _) (fun h => ?_))
  obtain ⟨h4, h5⟩ := h1 h
  have hT := toBase_ev now l h4 h5
  have hlen : (l.map cvEntry).length ≤ 1048576 := by rw [List.length_map]; exact h4
  have hc : ∀ x ∈ l.map cvEntry, entryCap x := by
    intro x hx
    obtain ⟨y, hy, rfl⟩ := List.mem_map.1 hx
    exact cvEntry_cap (h5 y hy)
  generalize l.map cvEntry = m at hT hlen hc
  have hS := spec_BaseTick_ev now m n hlen hc
  have hI := impl_BaseTick_ev now m n hlen hc
  have hrl := tickB_len now m n
  have hrm := tickB_mem now m n
  generalize tickB now m n = q at hS hI hrl hrm
  obtain ⟨t, r⟩ := q
  dsimp only at hrl hrm
  have hcr : ∀ x ∈ r, entryCap x := fun x hx => hc x (hrm x hx)
  have hE := eqBase_same now m hlen hc
  have hE1 := eqBase_same t r (by omega) hcr
  have hm := markBase_ev now m hlen hc
  have hm1 := markBase_ev t r (by omega) hcr
  have hh1 := heldBase_ev t r (by omega) hcr
  repeat' first
    | exact ret _
    | exact ret' rfl
    | dsimp only
    | refine Ev.bind (hT) ?_
    | refine Ev.bind (hS) ?_
    | refine Ev.bind (hI) ?_
    | refine Ev.bind (hE) ?_
    | refine Ev.bind (hE1) ?_
    | refine Ev.bind (hm) ?_
    | refine Ev.bind (hm1) ?_
    | refine Ev.bind (hh1) ?_
    | refine pos rfl ?_
    | refine neg (by decide) ?_
    | refine pos (by omega) ?_
    | refine neg (by omega) ?_
    | refine neg (by simp) ?_
end Go.Proofs.Ytnkgmcgbbldkgaa.Q
