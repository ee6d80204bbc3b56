import Derived.Test.YtaoeibfegfkdjaaPx1
import Derived.Test.YtaoeibfegfkdjaaQTrim
import Derived.Test.YtaoeibfegfkdjaaQMark
/- Plain law: ListTrim of the program and of the reference give the same, and share nothing. -/
namespace Go.Proofs.Ytaoeibfegfkdjaa.Q
open Go.RowKit Go.Proofs.YtaoeibfegfkdjaaW.PrintWords Go.Proofs.YtaoeibfegfkdjaaW.PrintLast Go.Proofs.Ytaoeibfegfkdjaa.P

theorem FnExactListTrim_pure (l : List ByteArray) (a b : Int) (hl : l.length ≤ maxLen) (hs : ∀ s ∈ l, s.size ≤ maxLen) (_ha : (Lit.int .i64 a).wf = true) (_hb : (Lit.int .i64 b).wf = true) : ∃ k, laws_FnExactListTrim.f k l a b = some true := by
  refine exists_of (r := true) ?_
  unfold laws_FnExactListTrim.f
  obtain ⟨v, hv, h1, h2, h3⟩ := szStringS_ev l hl hs 1048576 (by omega) (by omega)
  refine Ev.bind hv (both (fun _ => ret _) (fun h => ?_))
  obtain ⟨h4, h5⟩ := h3 (by omega)
  have hT := toStringS_ev l (by omega)
  have hS := spec_ListTrim_ev l hl a b
  have hI := impl_ListTrim_ev l hl a b
  have hr := rangeM_len l a b
  generalize rangeM l a b = r at hS hI hr
  have hE := eqStringS_same l hl
  have hE1 := eqStringS_same r (by omega)
  have hm := markStringS_ev l 1 (by omega) (by omega)
  have hm1 := markStringS_ev r 1 (by omega) (by omega)
  have hh1 := heldStringS_ev 1 r.length (by omega) (by omega)
  repeat' first
    | exact ret _
    | exact ret' rfl
    | dsimp only
    | refine Ev.bind (hT) ?_
    | refine Ev.bind (hS) ?_
    | refine Ev.bind (hI) ?_
    | refine Ev.bind (hE) ?_
    | refine Ev.bind (hE1) ?_
    | refine Ev.bind (hm) ?_
    | refine Ev.bind (hm1) ?_
    | refine Ev.bind (hh1) ?_
    | refine Ev.step (g := fun k => laws_FnExactListTrim.j0 k _ _ _ _ _ _) (fun k => by rw [laws_FnExactListTrim.j0]) ?_
    | refine pos rfl ?_
    | refine neg (by decide) ?_
    | refine pos (by omega) ?_
    | refine neg (by omega) ?_
    | refine neg (by simp) ?_
end Go.Proofs.Ytaoeibfegfkdjaa.Q
