import Derived.Test.YtcdiokflmambiaaPx1
import Derived.Test.YtcdiokflmambiaaQDropL
import Derived.Test.YtcdiokflmambiaaQMark
/- Plain law: ListDrop of the program and of the reference give the same, and share nothing. -/
namespace Go.Proofs.Ytcdiokflmambiaa.Q
open Go.RowKit Go.Proofs.YtcdiokflmambiaaW.PrintWords Go.Proofs.YtcdiokflmambiaaW.PrintLast Go.Proofs.Ytcdiokflmambiaa.P

theorem FnExactListDrop_pure (l : List ByteArray) (a : Int) (t : ByteArray) (hl : l.length ≤ maxLen) (hs : ∀ s ∈ l, s.size ≤ maxLen) (_ha : (Lit.int .i64 a).wf = true) (_ht : t.size ≤ 140737488351232) : ∃ k, laws_FnExactListDrop.f k l a t = some true := by
  refine exists_of (r := true) ?_
  unfold laws_FnExactListDrop.f
  refine both (fun _ => ret _) (fun _ => ?_)
  obtain ⟨v, hv, h1, h2, h3⟩ := szStringS_ev l hl hs 1048576 (by omega) (by omega)
  refine Ev.bind hv (both (fun _ => ret _) (fun h => ?_))
  obtain ⟨h4, h5⟩ := h3 (by omega)
  have hT := toStringS_ev l (by omega)
  have hS := spec_ListDrop_ev l h4 a t
  have hI := impl_ListDrop_ev l h4 a t
  have hr := listDropM_len l a t
  generalize listDropM l a t = q at hS hI hr
  obtain ⟨r, r2⟩ := q
  replace hr : r.length ≤ l.length := hr
  have hE := eqStringS_same l hl
  have hE1 := eqStringS_same r (by omega)
  have hm := markStringS_ev l 1 (by omega) (by omega)
  have hm1 := markStringS_ev r 1 (by omega) (by omega)
  have hh1 := heldStringS_ev 1 r.length (by omega) (by omega)
  repeat' first
    | exact ret _
    | exact ret' rfl
    | dsimp only
    | refine Ev.bind (hT) ?_
    | refine Ev.bind (hS) ?_
    | refine Ev.bind (hI) ?_
    | refine Ev.bind (hE) ?_
    | refine Ev.bind (hE1) ?_
    | refine Ev.bind (hm) ?_
    | refine Ev.bind (hm1) ?_
    | refine Ev.bind (hh1) ?_
    | refine Ev.step (g := fun k => laws_FnExactListDrop.j0 k _ _ _ _ _ _ _ _ _) (fun k => by rw [laws_FnExactListDrop.j0]) ?_
    | refine Ev.step (g := fun k => laws_FnExactListDrop.j1 k _ _ _ _ _ _ _) (fun k => by rw [laws_FnExactListDrop.j1]) ?_
    | refine Ev.step (g := fun k => laws_FnExactListDrop.j2 k _ _ _) (fun k => by rw [laws_FnExactListDrop.j2]) ?_
    | refine pos rfl ?_
    | refine neg (by decide) ?_
    | refine pos (by omega) ?_
    | refine neg (by omega) ?_
    | refine neg (by simp) ?_
end Go.Proofs.Ytcdiokflmambiaa.Q
