import Derived.Test.YthdbjegppeekoaaQHeadN
import Derived.Test.YthdbjegppeekoaaQInt
/- Plain lemmas: how spec's l1Head reads. No program in sight. -/
namespace Go.Proofs.Ythdbjegppeekoaa.Q
open Go.RowKit Go.Proofs.YthdbjegppeekoaaW.PrintWords Go.Proofs.YthdbjegppeekoaaW.PrintLast Go.Proofs.Ythdbjegppeekoaa.P

abbrev badS : Int × ByteArray × Int := (0, (⟨#[]⟩ : ByteArray), -1)
abbrev shortS : Int × ByteArray × Int := (0, (⟨#[]⟩ : ByteArray), 0)
theorem hd_next {z : ByteArray} (_hz : z.size ≤ 1048576) {m lo hi e : Int} {r : Int × ByteArray × Int} (h0 : 0 ≤ e) (h1 : e < (z.size : Int)) (hd : figB z e) (h4 : e < 4) (h : Ev (fun k => spec_l1Head.l0 k z m lo hi (e + 1)) r) : Ev (fun k => spec_l1Head.l0 k z m lo hi e) r := by
  have e4 : wrap64 (e + 1) = e + 1 := wrap_id (by omega) (by omega)
  unfold figB at hd
  refine Ev.step (g := fun k => spec_l1Head.l0 k _ _ _ _ _) (fun k => by rw [spec_l1Head.l0]) (pos h1 (pos h0 (pos (by omega) (pos (by omega) (pos h4 ?_)))))
  rw [e4]
  exact h
theorem hd_halt {z : ByteArray} {m lo hi e : Int} {r : Int × ByteArray × Int} (h0 : 0 ≤ e) (hd : e < (z.size : Int) → e < 4 → ¬ figB z e) (h : Ev (fun k => spec_l1Head.j1 k z m lo hi e) r) : Ev (fun k => spec_l1Head.l0 k z m lo hi e) r := by
  refine Ev.step (g := fun k => spec_l1Head.l0 k _ _ _ _ _) (fun k => by rw [spec_l1Head.l0]) (both (fun h1 => pos h0 (both (fun h2 => both (fun h3 => both (fun h4 => absurd ⟨h2, h3⟩ (hd h1 h4)) (fun _ => h)) (fun _ => h)) (fun _ => h))) (fun _ => h))
theorem hd_bad (z : ByteArray) (lo hi e : Int) : Ev (fun k => spec_l1Head.j2 k z lo hi e true) badS :=
  Ev.step (g := fun k => spec_l1Head.j2 k _ _ _ _ _) (fun k => by rw [spec_l1Head.j2]) (pos rfl (ret _))
theorem hd_end (z : ByteArray) (hz : z.size ≤ 1048576) (lo hi e : Int) (h0 : 2 ≤ e) (h1 : e ≤ (z.size : Int)) (h4 : e ≤ 4) :
    Ev (fun k => spec_l1Head.j2 k z lo hi e false) (if inB (figM (z.extract 1 e.toNat).data.toList) lo hi = false then badS else if e + 1 ≥ (z.size : Int) then shortS else (figM (z.extract 1 e.toNat).data.toList, z.extract (e + 2).toNat z.size, 1)) := by
  have e1 : wrap64 (e + 1) = e + 1 := wrap_id (by omega) (by omega)
  have e2 : wrap64 (e + 2) = e + 2 := wrap_id (by omega) (by omega)
  have hs : (z.extract 1 e.toNat).size ≤ 1048576 := by rw [ByteArray.size_extract]; omega
  have hf := figures_ev _ hs
  refine Ev.step (g := fun k => spec_l1Head.j2 k _ _ _ _ _) (fun k => by rw [spec_l1Head.j2]) (neg (by decide) (pos (by omega) (pos (by omega) (pos h1 (Ev.bind hf (Ev.bind (l1In_ev _ _ _) ?_))))))
  cases hi' : inB (figM (z.extract 1 e.toNat).data.toList) lo hi with
  | false =>
    rw [if_pos rfl]
    exact Ev.step (g := fun k => spec_l1Head.j3 k _ _ _) (fun k => by rw [spec_l1Head.j3]) (pos (by rfl) (ret _))
  | true =>
    rw [if_neg (by decide)]
    refine Ev.step (g := fun k => spec_l1Head.j3 k _ _ _) (fun k => by rw [spec_l1Head.j3, e1, e2]) (neg (by decide) ?_)
    by_cases h : e + 1 ≥ (z.size : Int)
    · rw [if_pos h]
      exact pos h (ret _)
    · rw [if_neg h]
      exact neg h (pos (by omega) (pos h1 (Ev.bind hf (pos (by omega) (pos (by omega) (ret _))))))
theorem hd_empty (z : ByteArray) (m lo hi e : Int) (h : z.size = 0) : Ev (fun k => spec_l1Head.j1 k z m lo hi e) shortS :=
  Ev.step (g := fun k => spec_l1Head.j1 k _ _ _ _ _) (fun k => by rw [spec_l1Head.j1]) (pos (by omega) (ret _))
theorem hd_mark (z : ByteArray) (m lo hi e : Int) (h : z.size ≠ 0) (hm : bt z 0 ≠ m) : Ev (fun k => spec_l1Head.j1 k z m lo hi e) badS :=
  Ev.step (g := fun k => spec_l1Head.j1 k _ _ _ _ _) (fun k => by rw [spec_l1Head.j1]) (neg (by omega) (pos (by omega) (neg hm (hd_bad _ _ _ _))))
theorem hd_one (z : ByteArray) (hz : z.size ≤ 1048576) (m lo hi : Int) (h : z.size ≠ 0) (hm : bt z 0 = m) : Ev (fun k => spec_l1Head.j1 k z m lo hi 1) (if (z.size : Int) = 1 then shortS else badS) := by
  have e1 : wrap64 (1 + 1) = 2 := wrap_id (by omega) (by omega)
  refine Ev.step (g := fun k => spec_l1Head.j1 k _ _ _ _ _) (fun k => by rw [spec_l1Head.j1, e1]) (neg (by omega) (pos (by omega) (pos hm (both (fun h2 => pos rfl ?_) (fun h2 => neg (by omega) ?_)))))
  · rw [if_neg (by omega)]
    exact hd_bad _ _ _ _
  · rw [if_pos (by omega)]
    refine Ev.step (g := fun k => spec_l1Head.j2 k _ _ _ _ _) (fun k => by rw [spec_l1Head.j2]) (neg (by decide) (neg (by decide) ?_))
    exact Ev.step (g := fun k => spec_l1Head.j3 k _ _ _) (fun k => by rw [spec_l1Head.j3, e1]) (neg (by decide) (pos (by omega) (ret _)))
theorem hd_mid (z : ByteArray) (hz : z.size ≤ 1048576) (m lo hi e : Int) (h0 : 2 ≤ e) (h1 : e ≤ (z.size : Int)) (h4 : e ≤ 4) (hm : bt z 0 = m) :
    Ev (fun k => spec_l1Head.j1 k z m lo hi e) (if (e < (z.size : Int) ∧ bt z e ≠ 13) ∨ (e + 1 < (z.size : Int) ∧ bt z (e + 1) ≠ 10) then badS else if inB (figM (z.extract 1 e.toNat).data.toList) lo hi = false then badS else if e + 1 ≥ (z.size : Int) then shortS else (figM (z.extract 1 e.toNat).data.toList, z.extract (e + 2).toNat z.size, 1)) := by
  have e1 : wrap64 (e + 1) = e + 1 := wrap_id (by omega) (by omega)
  have hend := hd_end z hz lo hi e h0 h1 h4
  refine Ev.step (g := fun k => spec_l1Head.j1 k _ _ _ _ _) (fun k => by rw [spec_l1Head.j1, e1]) (neg (by omega) (pos (by omega) (pos hm (both (fun h2 => neg (by omega) (pos (by omega) (both (fun h3 => both (fun h5 => pos (by omega) ?_) (fun h5 => ?_)) (fun h3 => ?_)))) (fun h2 => neg (by omega) ?_)))))
  · by_cases h6 : bt z (e + 1) = 10
    · rw [if_neg (by omega), show (bt z (e + 1) != 10) = false by rw [h6]; rfl]
      exact hend
    · rw [if_pos (by omega), show (bt z (e + 1) != 10) = true by simpa using h6]
      exact hd_bad _ _ _ _
  · rw [if_neg (by omega)]
    exact hend
  · rw [if_pos (by omega)]
    exact hd_bad _ _ _ _
  · rw [if_neg (by omega)]
    exact hend
end Go.Proofs.Ythdbjegppeekoaa.Q
