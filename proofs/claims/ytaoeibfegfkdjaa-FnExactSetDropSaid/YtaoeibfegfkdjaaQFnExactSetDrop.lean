import Derived.Test.YtaoeibfegfkdjaaPx1
import Derived.Test.YtaoeibfegfkdjaaQSets
import Derived.Test.YtaoeibfegfkdjaaQMark
/- Plain law: SetDrop of the program and of the reference give the same, and share nothing. -/
namespace Go.Proofs.Ytaoeibfegfkdjaa.Q
open Go.RowKit Go.Proofs.YtaoeibfegfkdjaaW.PrintWords Go.Proofs.YtaoeibfegfkdjaaW.PrintLast Go.Proofs.Ytaoeibfegfkdjaa.P

theorem FnExactSetDrop_pure (l o : List ByteArray) (hl : l.length ≤ maxLen) (hs : ∀ s ∈ l, s.size ≤ maxLen) (hl2 : o.length ≤ maxLen) (hs2 : ∀ s ∈ o, s.size ≤ maxLen) : ∃ k, laws_FnExactSetDrop.f k l o = some true := by
  refine exists_of (r := true) ?_
  unfold laws_FnExactSetDrop.f
  obtain ⟨v, hv, h1, h2, h3⟩ := szStringS_ev l hl hs 1048576 (by omega) (by omega)
  refine Ev.bind hv (both (fun _ => ret _) (fun h => ?_))
  obtain ⟨h4, h5⟩ := h3 (by omega)
  obtain ⟨v', hv', h1', h2', h3'⟩ := szStringS_ev o hl2 hs2 v (by omega) (by omega)
  refine Ev.bind hv' (both (fun _ => ret _) (fun h' => ?_))
  obtain ⟨h4', h5'⟩ := h3' (by omega)
  have hT := toStringS_ev l (by omega)
  have hT2 := toStringS_ev o (by omega)
  have hS := spec_SetDrop_ev l o h4 h4'
  have hI := impl_SetDrop_ev l o h4 h4'
  have hr := setDropM_len l o
  generalize setDropM l o = q at hS hI hr
  obtain ⟨r, r2⟩ := q
  replace hr : r.length ≤ l.length := hr
  have hE := eqStringS_same l hl
  have hE2 := eqStringS_same o hl2
  have hE1 := eqStringS_same r (by omega)
  have hm := markStringS_ev l 1 (by omega) (by omega)
  have hm2 := markStringS_ev o (1 + l.length) (by omega) (by omega)
  have hm1 := markStringS_ev r 1 (by omega) (by omega)
  have hh1 := heldStringS_ev 1 r.length (by omega) (by omega)
  repeat' first
    | exact ret _
    | exact ret' rfl
    | dsimp only
    | refine Ev.bind (hT) ?_
    | refine Ev.bind (hT2) ?_
    | refine Ev.bind (hS) ?_
    | refine Ev.bind (hI) ?_
    | refine Ev.bind (hE) ?_
    | refine Ev.bind (hE2) ?_
    | refine Ev.bind (hE1) ?_
    | refine Ev.bind (hm) ?_
    | refine Ev.bind (hm2) ?_
    | refine Ev.bind (hm1) ?_
    | refine Ev.bind (hh1) ?_
    | refine Ev.step (g := fun k => laws_FnExactSetDrop.j0 k _ _ _ _ _ _ _ _ _) (fun k => by rw [laws_FnExactSetDrop.j0]) ?_
    | refine Ev.step (g := fun k => laws_FnExactSetDrop.j1 k _ _ _ _ _ _) (fun k => by rw [laws_FnExactSetDrop.j1]) ?_
    | refine Ev.step (g := fun k => laws_FnExactSetDrop.j2 k _ _ _) (fun k => by rw [laws_FnExactSetDrop.j2]) ?_
    | refine pos rfl ?_
    | refine neg (by decide) ?_
    | refine pos (by omega) ?_
    | refine neg (by omega) ?_
    | refine neg (by simp) ?_
end Go.Proofs.Ytaoeibfegfkdjaa.Q
