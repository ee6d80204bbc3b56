import Derived.Test.YtcdiokflmambiaaPx2
import Derived.Test.YtcdiokflmambiaaQPush
import Derived.Test.YtcdiokflmambiaaQMark
/- Plain law: ListPush of the program and of the reference give the same, and share nothing. -/
namespace Go.Proofs.Ytcdiokflmambiaa.Q
open Go.RowKit Go.Proofs.YtcdiokflmambiaaW.PrintWords Go.Proofs.YtcdiokflmambiaaW.PrintLast Go.Proofs.Ytcdiokflmambiaa.P

theorem FnExactListPush_pure (l : List ByteArray) (a : Bool) (t : List ByteArray) (hl : l.length ≤ maxLen) (hs : ∀ s ∈ l, s.size ≤ maxLen) (ht : t.length ≤ maxLen) (hts : ∀ s ∈ t, s.size ≤ maxLen) : ∃ k, laws_FnExactListPush.f k l a t = some true := by
  refine exists_of (r := true) ?_
  unfold laws_FnExactListPush.f
  obtain ⟨v, hv, h1, h2, h3⟩ := szStringS_ev l hl hs 1048576 (by omega) (by omega)
  refine Ev.bind hv (both (fun _ => ret _) (fun h => ?_))
  obtain ⟨h4, h5⟩ := h3 (by omega)
  obtain ⟨u, hu, g1, g2, g3⟩ := szStringS_ev t ht hts v (by omega) (by omega)
  refine Ev.bind hu (both (fun _ => ret _) (fun g => ?_))
  obtain ⟨g4, g5⟩ := g3 (by omega)
  have hT := toStringS_ev l (by omega)
  have hT2 := toStringS_ev t (by omega)
  have hS := spec_ListPush_ev l hl a t ht
  have hI := impl_ListPush_ev l hl a t ht
  have hr := listPushM_len l a t
  generalize listPushM l a t = q at hS hI hr
  obtain ⟨r, r2⟩ := q
  replace hr : r.length ≤ 16 := hr
  have hE := eqStringS_same l hl
  have hE2 := eqStringS_same t ht
  have hE1 := eqStringS_same r (by unfold maxLen; omega)
  have hm := markStringS_ev l 1 (by omega) (by omega)
  have hm2 := markStringS_ev t (1 + l.length) (by omega) (by omega)
  have hm1 := markStringS_ev r 1 (by omega) (by omega)
  have hh1 := heldStringS_ev 1 r.length (by omega) (by omega)
  have hx : (r2 != r2) = false := by simp
  repeat' first
    | exact ret _
    | exact ret' rfl
    | dsimp only
    | refine Ev.bind (hT) ?_
    | refine Ev.bind (hT2) ?_
    | refine Ev.bind (hS) ?_
    | refine Ev.bind (hI) ?_
    | refine Ev.bind (hE) ?_
    | refine Ev.bind (hE2) ?_
    | refine Ev.bind (hE1) ?_
    | refine Ev.bind (hm) ?_
    | refine Ev.bind (hm2) ?_
    | refine Ev.bind (hm1) ?_
    | refine Ev.bind (hh1) ?_
    | refine Ev.step (g := fun k => laws_FnExactListPush.j0 k _ _ _ _ _ _ _ _ _ _) (fun k => by rw [laws_FnExactListPush.j0]) ?_
    | refine Ev.step (g := fun k => laws_FnExactListPush.j1 k _ _ _ _ _ _ _) (fun k => by rw [laws_FnExactListPush.j1]) ?_
    | refine Ev.step (g := fun k => laws_FnExactListPush.j2 k _ _ _) (fun k => by rw [laws_FnExactListPush.j2]) ?_
    | rw [hx]
    | refine pos rfl ?_
    | refine neg (by decide) ?_
    | refine pos (by omega) ?_
    | refine neg (by omega) ?_
    | refine neg (by simp) ?_
end Go.Proofs.Ytcdiokflmambiaa.Q
