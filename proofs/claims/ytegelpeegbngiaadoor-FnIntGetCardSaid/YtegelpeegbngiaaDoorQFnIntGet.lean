import Derived.Test.YtegelpeegbngiaaDoorPx1
import Derived.Test.YtegelpeegbngiaaDoorQDraw
import Derived.Test.YtegelpeegbngiaaDoorQInt
/- Plain law: a drawn text reads on both sides as the same number, and is as its number is written. -/
namespace Go.Proofs.YtegelpeegbngiaaDoor.Q
open Go.RowKit Go.Proofs.YtegelpeegbngiaaDoorW.PrintWords Go.Proofs.YtegelpeegbngiaaDoorW.PrintLast Go.Proofs.YtegelpeegbngiaaDoor.P

theorem l11Int_ev (l : List Int) (hl : Code l) (p : Int) (h0 : 0 ≤ p) (h1 : p ≤ 1000000000) : ∃ s, Ev (fun k => spec_l11Int.f k l p) (s, p + 1) ∧ s.size ≤ 40 := by
  obtain ⟨s, hs, hmem⟩ := of_ev l hl p (([(⟨#[48]⟩ : ByteArray), (⟨#[49]⟩ : ByteArray), (⟨#[45, 49]⟩ : ByteArray), (⟨#[50]⟩ : ByteArray), (⟨#[45, 50]⟩ : ByteArray), (⟨#[53]⟩ : ByteArray), (⟨#[49, 48, 48]⟩ : ByteArray), (⟨#[45, 49, 48, 48]⟩ : ByteArray), (⟨#[49, 48, 48, 48, 48, 48, 48, 48, 48, 48]⟩ : ByteArray), (⟨#[120]⟩ : ByteArray)] : List ByteArray)) h0 h1 (by simp) (by simp)
  refine ⟨s, ?_, ?_⟩
  · unfold spec_l11Int.f
    exact Ev.bind hs (ret _)
  · simp only [List.mem_cons, List.not_mem_nil, or_false] at hmem
    rcases hmem with rfl | rfl | rfl | rfl | rfl | rfl | rfl | rfl | rfl | rfl <;> decide
theorem DrawIntGet_ev (l : List Int) (hl : l.length ≤ maxLen) (hb : ∀ x ∈ l, (Lit.int .u8 x).wf = true) : ∃ s, Ev (fun k => spec_DrawIntGet.f k l) s ∧ s.size ≤ 40 := by
  obtain ⟨c, hc, hC⟩ := l1Open_ev l hl hb
  obtain ⟨m, hm, hz⟩ := l11Int_ev c hC 0 (by omega) (by omega)
  obtain ⟨s, hs, hmem⟩ := of_ev c hC (0 + 1) (([m, (⟨#[]⟩ : ByteArray), (⟨#[45]⟩ : ByteArray), (⟨#[45, 48]⟩ : ByteArray), (⟨#[48, 49]⟩ : ByteArray), (⟨#[49, 48, 48, 48, 48, 48, 48, 48, 48, 49]⟩ : ByteArray), (⟨#[45, 49, 48, 48, 48, 48, 48, 48, 48, 48, 48]⟩ : ByteArray), (⟨#[57, 57, 57, 57, 57, 57, 57, 57, 57, 57, 57, 57, 57, 57]⟩ : ByteArray), (⟨#[43, 53]⟩ : ByteArray), (⟨#[53, 32]⟩ : ByteArray)] : List ByteArray)) (by omega) (by omega) (by simp) (by simp)
  refine ⟨s, ?_, ?_⟩
  · unfold spec_DrawIntGet.f
    exact Ev.bind hc (Ev.bind hm (Ev.bind hs (ret _)))
  · simp only [List.mem_cons, List.not_mem_nil, or_false] at hmem
    rcases hmem with rfl | rfl | rfl | rfl | rfl | rfl | rfl | rfl | rfl | rfl <;> first | omega | decide
theorem reply_int (v : Int) (s : ByteArray) (h0 : -1000000000 ≤ v) (h1 : v ≤ 1000000000) (hs : Go.Lib.itoa v = s.data.toList) (hz : s.size ≤ 40) : Ev (fun k => impl_ReplyPut.f k 2 v (⟨#[]⟩ : ByteArray) [] []) (((⟨#[58]⟩ : ByteArray) ++ s) ++ (⟨#[13, 10]⟩ : ByteArray)) := by
  have hi : strconv_Itoa_25.f v = some s := by
    unfold strconv_Itoa_25.f
    rw [if_pos ⟨by omega, by omega⟩, hs, Array.toArray_toList]
  refine Ev.step (g := fun k => impl_ReplyPut.f k _ _ _ _ _) (fun k => by rw [impl_ReplyPut.f]) (neg (by decide) (pos rfl (Ev.bind (val hi) ?_)))
  refine pos (by omega) (pos ?_ (ret _))
  rw [ByteArray.size_append, show (⟨#[58]⟩ : ByteArray).size = 1 from rfl]
  omega
theorem FnIntGet_pure (l : List Int) (hl : l.length ≤ maxLen) (hb : ∀ x ∈ l, (Lit.int .u8 x).wf = true) : ∃ k, laws_FnIntGet.f k l = some true := by
  refine exists_of (r := true) ?_
  unfold laws_FnIntGet.f
  refine both (fun _ => ret _) (fun _ => ?_)
  obtain ⟨s, hD, hz⟩ := DrawIntGet_ev l hl hb
  refine Ev.bind hD (Ev.bind (val (impl_IntGet_eq s (by omega))) (Ev.bind (spec_IntGet_ev s (by omega)) ?_))
  rw [← ig_same]
  refine pos rfl (neg (by simp) ?_)
  rcases ig_cases s.data.toList with h | ⟨v, h, ⟨h0, h1⟩, hs⟩
  · rw [h]
    exact neg (by decide) (ret' (by simp))
  · rw [h]
    refine pos rfl (Ev.bind (reply_int v s h0 h1 hs hz) (pos (by omega) (pos ?_ (pos rfl (pos h0 (ret' (decide_eq_true h1)))))))
    rw [ByteArray.size_append, show (⟨#[58]⟩ : ByteArray).size = 1 from rfl]
    omega


end Go.Proofs.YtegelpeegbngiaaDoor.Q
