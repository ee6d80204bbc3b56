import Derived.Test.YthdbjegppeekoaaPx1
import Derived.Test.YthdbjegppeekoaaQNum0
/- Plain lemmas: how impl's wire reads a byte. No program in sight. -/
namespace Go.Proofs.Ythdbjegppeekoaa.Q
open Go.RowKit Go.Proofs.YthdbjegppeekoaaW.PrintWords Go.Proofs.YthdbjegppeekoaaW.PrintLast Go.Proofs.Ythdbjegppeekoaa.P

/-- What reading a byte that must be b makes of (place, short, bad). -/
def byteM (x : ByteArray) (b : Int) (s : Int × Bool × Bool) : Int × Bool × Bool :=
  if s.2.1 = true ∨ s.2.2 = true then s else if s.1 = (x.size : Int) then (s.1, true, false) else if bt x s.1 = b then (s.1 + 1, false, false) else (s.1, false, true)
theorem byteM_done {x : ByteArray} {b : Int} {s : Int × Bool × Bool} (h : s.2.1 = true ∨ s.2.2 = true) : byteM x b s = s := if_pos h
theorem byteM_end {x : ByteArray} {b : Int} : byteM x b ((x.size : Int), false, false) = ((x.size : Int), true, false) := by simp [byteM]
theorem byteM_ok {x : ByteArray} {b a : Int} (h : a ≠ (x.size : Int)) (hb : bt x a = b) : byteM x b (a, false, false) = (a + 1, false, false) := by simp [byteM, h, hb]
theorem byteM_bad {x : ByteArray} {b a : Int} (h : a ≠ (x.size : Int)) (hb : bt x a ≠ b) : byteM x b (a, false, false) = (a, false, true) := by simp [byteM, h, hb]
theorem byte_ev (x : ByteArray) (hx : x.size ≤ 4611686018427387904) (b : Int) (s : Int × Bool × Bool) (h0 : 0 ≤ s.1) (h1 : s.1 ≤ (x.size : Int)) : Ev (fun k => impl_wire_byte.f k x s.1 s.2.1 s.2.2 b) (x, byteM x b s) := by
  obtain ⟨a, sh, bd⟩ := s
  dsimp only at h0 h1 ⊢
  unfold impl_wire_byte.f
  cases sh with
  | true => exact pos rfl (Ev.step (g := fun k => impl_wire_byte.j0 k _ _ _ _ _ _) (fun k => by rw [impl_wire_byte.j0]) (pos rfl (ret' (by rw [byteM_done (.inl rfl)]))))
  | false =>
    refine neg (by decide) ?_
    cases bd with
    | true => exact Ev.step (g := fun k => impl_wire_byte.j0 k _ _ _ _ _ _) (fun k => by rw [impl_wire_byte.j0]) (pos rfl (ret' (by rw [byteM_done (.inr rfl)])))
    | false =>
      refine Ev.step (g := fun k => impl_wire_byte.j0 k _ _ _ _ _ _) (fun k => by rw [impl_wire_byte.j0]) (neg (by decide) (both (fun h => ret' ?_) (fun h => pos h0 (pos (by omega) (both (fun h2 => ret' ?_) (fun h2 => ret' ?_))))))
      · subst h; rw [byteM_end]
      · rw [byteM_ok h h2, wrap_id (by omega) (by omega)]
      · rw [byteM_bad h h2]
/-- The end of a line. -/
def crlfM (x : ByteArray) (s : Int × Bool × Bool) : Int × Bool × Bool := byteM x 10 (byteM x 13 s)
theorem byteM_bd {x : ByteArray} {b : Int} {s : Int × Bool × Bool} (h0 : 0 ≤ s.1) (h1 : s.1 ≤ (x.size : Int)) : 0 ≤ (byteM x b s).1 ∧ (byteM x b s).1 ≤ (x.size : Int) := by
  unfold byteM
  split
  · exact ⟨h0, h1⟩
  · split
    · exact ⟨h0, h1⟩
    · split
      · dsimp only
        omega
      · exact ⟨h0, h1⟩
theorem crlfM_done {x : ByteArray} {s : Int × Bool × Bool} (h : s.2.1 = true ∨ s.2.2 = true) : crlfM x s = s := by
  unfold crlfM
  rw [byteM_done h, byteM_done h]
/-- Behind the figures: j4 of wire.number; the state is not yet closed. -/
theorem j4_ev (x : ByteArray) (hx : x.size ≤ 4611686018427387904) (n f : Int) (s : Int × Bool × Bool) (h0 : 0 ≤ s.1) (h1 : s.1 ≤ (x.size : Int)) :
    Ev (fun k => impl_wire_number.j4 k n f x s.1 s.2.1 s.2.2) (n, x, crlfM x (if s.1 = f ∧ s.2.1 = false then (s.1, s.2.1, true) else s)) := by
  have fin : ∀ t : Int × Bool × Bool, 0 ≤ t.1 → t.1 ≤ (x.size : Int) → Ev (fun k => (impl_wire_byte.f k x t.1 t.2.1 t.2.2 13).bind fun a => ((impl_wire_byte.f k a.1 a.2.1 a.2.2.1 a.2.2.2 10).bind fun b => (some (n, b.1, b.2.1, b.2.2.1, b.2.2.2)))) (n, x, crlfM x t) := by
    intro t h0 h1
    refine Ev.bind (byte_ev x hx 13 t h0 h1) (Ev.bind (byte_ev x hx 10 (byteM x 13 t) (byteM_bd h0 h1).1 (byteM_bd h0 h1).2) (ret _))
  refine Ev.step (g := fun k => impl_wire_number.j4 k _ _ _ _ _ _) (fun k => by rw [impl_wire_number.j4]) (both (fun h => ?_) (fun h => ?_))
  · refine Ev.step (g := fun k => impl_wire_number.j5 k _ _ _ _ _ _) (fun k => by rw [impl_wire_number.j5]) (both (fun h2 => ?_) (fun h2 => ?_))
    · rw [if_pos ⟨h, by simpa using h2⟩]
      exact fin (s.1, s.2.1, true) h0 h1
    · rw [if_neg (fun z => h2 (by simp [z.2]))]
      exact fin s h0 h1
  · rw [if_neg (fun z => h z.1)]
    exact Ev.step (g := fun k => impl_wire_number.j5 k _ _ _ _ _ _) (fun k => by rw [impl_wire_number.j5]) (neg (by decide) (fin s h0 h1))
end Go.Proofs.Ythdbjegppeekoaa.Q
