import Derived.Test.YthdbjegppeekoaaQHead
/- Plain lemmas: the rounds of impl's wire.number. No program in sight. -/
namespace Go.Proofs.Ythdbjegppeekoaa.Q
open Go.RowKit Go.Proofs.YthdbjegppeekoaaW.PrintWords Go.Proofs.YthdbjegppeekoaaW.PrintLast Go.Proofs.Ythdbjegppeekoaa.P

/-- A figure stands there. -/
def figB (x : ByteArray) (a : Int) : Prop := 48 ≤ bt x a ∧ bt x a ≤ 57
instance (x : ByteArray) (a : Int) : Decidable (figB x a) := inferInstanceAs (Decidable (48 ≤ bt x a ∧ bt x a ≤ 57))
theorem num_open {x : ByteArray} {lo hi n f a : Int} {r : Int × ByteArray × Int × Bool × Bool} (h : Ev (fun k => impl_wire_number.j1 k lo hi n f true x a false false) r) : Ev (fun k => impl_wire_number.l0 k lo hi n f x a false false) r :=
  Ev.step (g := fun k => impl_wire_number.l0 k _ _ _ _ _ _ _ _) (f := fun k => impl_wire_number.j1 k lo hi n f true x a false false) (fun k => by rw [impl_wire_number.l0, if_neg (by decide)]; rfl) h
theorem num_shut (x : ByteArray) (hx : x.size ≤ 4611686018427387904) (lo hi n f a : Int) (h0 : 0 ≤ a) (h1 : a ≤ (x.size : Int)) : Ev (fun k => impl_wire_number.l0 k lo hi n f x a false true) (n, x, a, false, true) := by
  refine Ev.step (g := fun k => impl_wire_number.l0 k _ _ _ _ _ _ _ _) (fun k => by rw [impl_wire_number.l0]) (neg (by decide) ?_)
  refine Ev.step (g := fun k => impl_wire_number.j1 k _ _ _ _ _ _ _ _ _) (fun k => by rw [impl_wire_number.j1]) (neg (by decide) ?_)
  refine of_eq (j4_ev x hx n f (a, false, true) h0 h1) ?_
  split
  · rw [crlfM_done (.inr rfl)]
  · rw [crlfM_done (.inr rfl)]
theorem num_end (x : ByteArray) (hx : x.size ≤ 4611686018427387904) (lo hi n f : Int) : Ev (fun k => impl_wire_number.l0 k lo hi n f x (x.size : Int) false false) (n, x, (x.size : Int), true, false) := by
  refine num_open (Ev.step (g := fun k => impl_wire_number.j1 k _ _ _ _ _ _ _ _ _) (fun k => by rw [impl_wire_number.j1]) (pos rfl (pos rfl ?_)))
  refine of_eq (j4_ev x hx n f ((x.size : Int), true, false) (by simp) (by simp)) ?_
  rw [if_neg (fun z => by simp at z), crlfM_done (.inl rfl)]
theorem num_go {x : ByteArray} (_hx : x.size ≤ 4611686018427387904) {lo hi n f a : Int} (h0 : 0 ≤ a) (h1 : a < (x.size : Int)) {r : Int × ByteArray × Int × Bool × Bool} (h : ∀ b, b = decide (¬ figB x a) → Ev (fun k => impl_wire_number.j2 k lo hi n f (bt x a) b x a false false) r) : Ev (fun k => impl_wire_number.l0 k lo hi n f x a false false) r := by
  refine num_open (Ev.step (g := fun k => impl_wire_number.j1 k _ _ _ _ _ _ _ _ _) (fun k => by rw [impl_wire_number.j1]) (pos rfl (neg (by omega) (pos h0 (pos h1 (both (fun h2 => h _ ?_) (fun h2 => h _ ?_)))))))
  · rw [eq_comm, decide_eq_true_eq]
    unfold figB
    omega
  · rw [decide_eq_decide]
    unfold figB
    omega
/-- No figure: the number ends. -/
theorem num_stop (x : ByteArray) (hx : x.size ≤ 4611686018427387904) (lo hi n f a : Int) (h0 : 0 ≤ a) (h1 : a < (x.size : Int)) (hd : ¬ figB x a) : Ev (fun k => impl_wire_number.l0 k lo hi n f x a false false) (n, x, crlfM x (if a = f then (a, false, true) else (a, false, false))) := by
  refine num_go hx h0 h1 (fun b hb => ?_)
  rw [decide_eq_true hd] at hb
  subst hb
  refine Ev.step (g := fun k => impl_wire_number.j2 k _ _ _ _ _ _ _ _ _ _) (fun k => by rw [impl_wire_number.j2]) (pos rfl ?_)
  refine of_eq (j4_ev x hx n f (a, false, false) h0 (by dsimp only; omega)) ?_
  by_cases h : a = f
  · rw [if_pos ⟨h, rfl⟩, if_pos h]
  · rw [if_neg (fun z => h z.1), if_neg h]
/-- A figure behind 0. -/
theorem num_zero (x : ByteArray) (hx : x.size ≤ 4611686018427387904) (lo hi f a : Int) (h0 : 0 ≤ a) (h1 : a < (x.size : Int)) (hd : figB x a) (hf : f < a) : Ev (fun k => impl_wire_number.l0 k lo hi 0 f x a false false) (0, x, a, false, true) := by
  refine num_go hx h0 h1 (fun b hb => ?_)
  rw [decide_eq_false (fun z => z hd)] at hb
  subst hb
  refine Ev.step (g := fun k => impl_wire_number.j2 k _ _ _ _ _ _ _ _ _ _) (fun k => by rw [impl_wire_number.j2]) (neg (by decide) (pos hf ?_))
  refine Ev.step (g := fun k => impl_wire_number.j3 k _ _ _ _ _ _ _ _ _ _) (fun k => by rw [impl_wire_number.j3]) (pos (by rfl) ?_)
  refine of_eq (j4_ev x hx 0 f (a, false, true) h0 (by dsimp only; omega)) ?_
  rw [if_neg (fun z => by have := z.1; dsimp only at this; omega), crlfM_done (.inr rfl)]
/-- A figure more. -/
theorem num_fig {x : ByteArray} (hx : x.size ≤ 4611686018427387904) {lo hi n f a : Int} (h0 : 0 ≤ a) (h1 : a < (x.size : Int)) (hn : 0 ≤ n ∧ n ≤ 1000) (hd : figB x a) (hz : ¬ (a > f ∧ n = 0)) {r : Int × ByteArray × Int × Bool × Bool}
    (h : Ev (fun k => impl_wire_number.l0 k lo hi (10 * n + (bt x a - 48)) f x (a + 1) false (!inB (10 * n + (bt x a - 48)) lo hi)) r) : Ev (fun k => impl_wire_number.l0 k lo hi n f x a false false) r := by
  have hd' := hd
  unfold figB at hd'
  refine num_go hx h0 h1 (fun b hb => ?_)
  rw [decide_eq_false (fun z => z hd)] at hb
  subst hb
  have e1 : wrap64 (10 * n) = 10 * n := wrap_id (by omega) (by omega)
  have e2 : (bt x a - 48) % 256 = bt x a - 48 := by omega
  have e3 : wrap64 (10 * n + (bt x a - 48)) = 10 * n + (bt x a - 48) := wrap_id (by omega) (by omega)
  have e4 : wrap64 (a + 1) = a + 1 := wrap_id (by omega) (by omega)
  have main : Ev (fun k => impl_wire_number.j3 k lo hi n f (bt x a) false x a false false) r := by
    refine Ev.step (g := fun k => impl_wire_number.j3 k _ _ _ _ _ _ _ _ _ _) (fun k => by rw [impl_wire_number.j3]) (neg (by decide) ?_)
    rw [e1, e2, e3, e4]
    refine Ev.bind (within_ev _ _ _) ?_
    cases hi' : inB (10 * n + (bt x a - 48)) lo hi with
    | true => rw [hi'] at h; exact pos rfl h
    | false => rw [hi'] at h; exact neg (by decide) h
  refine Ev.step (g := fun k => impl_wire_number.j2 k _ _ _ _ _ _ _ _ _ _) (fun k => by rw [impl_wire_number.j2]) (neg (by decide) (both (fun h2 => ?_) (fun _ => main)))
  have : (n == 0) = false := by
    rw [beq_eq_false_iff_ne]
    exact fun h3 => hz ⟨h2, h3⟩
  rw [this]
  exact main
end Go.Proofs.Ythdbjegppeekoaa.Q
