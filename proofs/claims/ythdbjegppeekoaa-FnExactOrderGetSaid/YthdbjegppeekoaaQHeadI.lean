import Derived.Test.YthdbjegppeekoaaQHeadN
/- Plain lemmas: what impl's wire.number answers from an open state. No program in sight. -/
namespace Go.Proofs.Ythdbjegppeekoaa.Q
open Go.RowKit Go.Proofs.YthdbjegppeekoaaW.PrintWords Go.Proofs.YthdbjegppeekoaaW.PrintLast Go.Proofs.Ythdbjegppeekoaa.P

/-- A mark, a number and the end of a line: (number, place, short, bad). -/
def headM (x : ByteArray) (a m lo hi : Int) : Int × Int × Bool × Bool :=
  if a = (x.size : Int) then (0, a, true, false)
  else if bt x a ≠ m then (0, a, false, true)
  else if a + 1 = (x.size : Int) then (0, a + 1, true, false)
  else if ¬ figB x (a + 1) then (0, a + 1, false, true)
  else if inB (bt x (a + 1) - 48) lo hi = false then (bt x (a + 1) - 48, a + 2, false, true)
  else if a + 2 = (x.size : Int) then (bt x (a + 1) - 48, a + 2, true, false)
  else if ¬ figB x (a + 2) then (bt x (a + 1) - 48, crlfM x (a + 2, false, false))
  else if bt x (a + 1) = 48 then (0, a + 2, false, true)
  else if inB (10 * (bt x (a + 1) - 48) + (bt x (a + 2) - 48)) lo hi = false then (10 * (bt x (a + 1) - 48) + (bt x (a + 2) - 48), a + 3, false, true)
  else if a + 3 = (x.size : Int) then (10 * (bt x (a + 1) - 48) + (bt x (a + 2) - 48), a + 3, true, false)
  else if ¬ figB x (a + 3) then (10 * (bt x (a + 1) - 48) + (bt x (a + 2) - 48), crlfM x (a + 3, false, false))
  else (10 * (10 * (bt x (a + 1) - 48) + (bt x (a + 2) - 48)) + (bt x (a + 3) - 48), a + 4, false, true)
theorem number_ev (x : ByteArray) (hx : x.size ≤ 1048576) (a m lo hi : Int) (h0 : 0 ≤ a) (h1 : a ≤ (x.size : Int)) (hhi : hi < 100) :
    Ev (fun k => impl_wire_number.f k x a false false m lo hi) ((headM x a m lo hi).1, x, (headM x a m lo hi).2) := by
  have hx' : x.size ≤ 4611686018427387904 := by omega
  unfold impl_wire_number.f
  refine Ev.bind (byte_ev x hx' m (a, false, false) h0 h1) ?_
  dsimp only
  unfold headM
  by_cases c0 : a = (x.size : Int)
  · subst c0
    rw [byteM_end, if_pos rfl]
    exact Ev.step (g := fun k => impl_wire_number.l0 k _ _ _ _ _ _ _ _) (fun k => by rw [impl_wire_number.l0]) (pos rfl (Ev.step (g := fun k => impl_wire_number.j1 k _ _ _ _ _ _ _ _ _) (fun k => by rw [impl_wire_number.j1]) (neg (by decide) (of_eq (j4_ev x hx' 0 (x.size : Int) ((x.size : Int), true, false) (by simp) (by simp)) (by rw [if_neg (fun z => by simp at z), crlfM_done (.inl rfl)])))))
  rw [if_neg c0]
  by_cases c1 : bt x a = m
  case neg =>
    rw [byteM_bad c0 c1, if_pos c1]
    exact num_shut x hx' lo hi 0 a a h0 h1
  rw [byteM_ok c0 c1, if_neg (fun z => z c1)]
  by_cases c2 : a + 1 = (x.size : Int)
  · rw [if_pos c2, c2]
    exact num_end x hx' lo hi 0 _
  rw [if_neg c2]
  by_cases c3 : figB x (a + 1)
  case neg =>
    rw [if_pos c3]
    refine of_eq (num_stop x hx' lo hi 0 (a + 1) (a + 1) (by omega) (by omega) c3) ?_
    rw [if_pos rfl, crlfM_done (.inr rfl)]
  rw [if_neg (fun z => z c3)]
  have b3 := c3
  unfold figB at b3
  have e1 : 10 * 0 + (bt x (a + 1) - 48) = bt x (a + 1) - 48 := by omega
  have e2 : a + 1 + 1 = a + 2 := by omega
  refine num_fig hx' (by omega) (by omega) (by omega) c3 (by omega) ?_
  rw [e1, e2]
  cases c4 : inB (bt x (a + 1) - 48) lo hi with
  | false =>
    rw [if_pos rfl]
    exact num_shut x hx' lo hi _ _ _ (by omega) (by omega)
  | true =>
  rw [if_neg (by decide)]
  show Ev (fun k => impl_wire_number.l0 k lo hi (bt x (a + 1) - 48) (a + 1) x (a + 2) false false) _
  by_cases c5 : a + 2 = (x.size : Int)
  · rw [if_pos c5, c5]
    exact num_end x hx' lo hi _ _
  rw [if_neg c5]
  by_cases c6 : figB x (a + 2)
  case neg =>
    rw [if_pos c6]
    refine of_eq (num_stop x hx' lo hi _ (a + 1) (a + 2) (by omega) (by omega) c6) ?_
    rw [if_neg (by omega)]
  rw [if_neg (fun z => z c6)]
  have b6 := c6
  unfold figB at b6
  by_cases c7 : bt x (a + 1) = 48
  · rw [if_pos c7, c7]
    exact num_zero x hx' lo hi (a + 1) (a + 2) (by omega) (by omega) c6 (by omega)
  rw [if_neg c7]
  have e3 : a + 2 + 1 = a + 3 := by omega
  refine num_fig hx' (by omega) (by omega) (by omega) c6 (by omega) ?_
  rw [e3]
  cases c8 : inB (10 * (bt x (a + 1) - 48) + (bt x (a + 2) - 48)) lo hi with
  | false =>
    rw [if_pos rfl]
    exact num_shut x hx' lo hi _ _ _ (by omega) (by omega)
  | true =>
  rw [if_neg (by decide)]
  show Ev (fun k => impl_wire_number.l0 k lo hi (10 * (bt x (a + 1) - 48) + (bt x (a + 2) - 48)) (a + 1) x (a + 3) false false) _
  by_cases c9 : a + 3 = (x.size : Int)
  · rw [if_pos c9, c9]
    exact num_end x hx' lo hi _ _
  rw [if_neg c9]
  by_cases c10 : figB x (a + 3)
  case neg =>
    rw [if_pos c10]
    refine of_eq (num_stop x hx' lo hi _ (a + 1) (a + 3) (by omega) (by omega) c10) ?_
    rw [if_neg (by omega)]
  rw [if_neg (fun z => z c10)]
  have b10 := c10
  unfold figB at b10
  have e4 : a + 3 + 1 = a + 4 := by omega
  refine num_fig hx' (by omega) (by omega) (by omega) c10 (by omega) ?_
  rw [e4]
  have c11 : inB (10 * (10 * (bt x (a + 1) - 48) + (bt x (a + 2) - 48)) + (bt x (a + 3) - 48)) lo hi = false := inB_false.2 (by omega)
  rw [c11]
  exact num_shut x hx' lo hi _ _ _ (by omega) (by omega)
end Go.Proofs.Ythdbjegppeekoaa.Q
