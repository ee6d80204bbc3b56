-- Written by wip/px.py of this session, over the kit's print.py. Not trusted: Lean checks it.
import Derived.Test.YtcdiokflmambiaaPx0
import Derived.Test.YtcdiokflmambiaaPx1
namespace Go.Proofs.Ytcdiokflmambiaa.P
open Go.RowKit Go.Proofs.YtcdiokflmambiaaW.PrintWords Go.Proofs.YtcdiokflmambiaaW.PrintLast Go.Proofs.YtcdiokflmambiaaW.PrintMore
attribute [local go_sem] max2_int min2_int max_two min_two max_three min_three max_four min_four   -- for this text's walks alone
set_option linter.unusedVariables false
set_option linter.unusedSimpArgs false

/-! ### slices_Delete_impl_Pair_impl_Pair: the walk -/
set_option maxHeartbeats 4000000 in
set_option maxRecDepth 100000 in
theorem slices_Delete_impl_Pair_impl_Pair.calls (P0_ : Nat → Prop) (u9000_ : Value) (l0 : List S80) (a1 a2 : Int) (r : List S80) (w0 w : World) (hB : Below w0.heap.size w0 w) (ho0 : Kd.R k80 80 w w0.heap.size P0_ u9000_ l0) (h : slices_Delete_impl_Pair_impl_Pair.f l0 a1 a2 = some r) :
    Calls Try.prog 78 #[u9000_, .int .i64 a1, .int .i64 a2] w fun e w' => ∃ v0_ : Value, e = .returned (v0_) ∧ Kd.R k80 80 w' w0.heap.size (fun k_ => (P0_ k_ ∨ w.heap.size ≤ k_)) v0_ r ∧ Below w0.heap.size w0 w' ∧ Kept w w' (fun k_ => P0_ k_) := by
  unfold slices_Delete_impl_Pair_impl_Pair.f at h
  split at h
  case isFalse => cases h
  case isTrue hc =>
  obtain ⟨h0, h1, rfl⟩ := hc
  obtain rfl := Option.some.inj h
  clear h
  obtain ⟨i, rfl⟩ := Int.eq_ofNat_of_zero_le h0
  obtain ⟨g, c, rfl, hg, hlt, cells, hcell⟩ := Kd.R_form ho0 (by omega)
  obtain ⟨_, hnc, _⟩ := Kd.R_reads' ho0
  have hcm : c ≤ 9223372036854775807 := by
    obtain ⟨_, inner, hown, _⟩ := ho0
    rcases hown.2 with ⟨hv', _⟩ | ⟨g', cap', cur, hv', _, _, _, hcm, _, _⟩
    · cases hv'
    · injection hv' with _ _ hc'
      rw [hc']; exact hcm
  have hPg : P0_ g := ho0.1 g (by simp [Value.ownBlock])
  have HO := Aside0.mk ho0
  have HB := Aside0.mk hB
  clear ho0 hB hcell h0
  have hi : i < l0.length := by omega
  have hic : i ≤ c := by omega
  have hjc : i + 1 ≤ c := by omega
  have hj : i + 1 ≤ l0.length := by omega
  clear h1
  have hz1 : (0 : Int) ≤ (i : Int) + 1 := by omega
  have hz2 : (i : Int) + 1 ≤ (l0.length : Int) := by omega
  obtain ⟨A, hA⟩ : ∃ A : Addr, (if c = i + 1 then some (⟨g, 0, none⟩ : Addr) else some ⟨g, (i + 1) * 2, none⟩) = some A := by split <;> exact ⟨_, rfl⟩
  have HA := Aside0.mk (show some A = if c = i + 1 then some (⟨g, 0, none⟩ : Addr) else (some (⟨g, 0, none⟩ : Addr)).map (·.add ((i + 1) * k80.sz)) by
    rw [← hA, Option.map_some, add_plain]
    rfl)
  go_enter Try.func78, Try.ntmps78
  go_wp2_with fail
  go_region_law (refine Kd.R_delete_step k80 (w0 := w0) w0.heap.size (by simp [Region.wanted]) (.tmp 22) (.tmp 25) 37 80 rfl Try.underlying37 slices_Delete_impl_Pair_impl_Pair.calls_size (g := g) (n := l0.length) (c := c) (k := i) (m := l0.length - (i + 1)) (c2 := c - (i + 1)) (by simp [Act.eval, Act.put]) (by simp [Act.eval, Act.put]) HA.out rfl (Kd.R_drew HO.out) hi (below_drew1 HB.out) (by simp; omega) ?_; intro w1 ho hb hgr)
  have hm1 : l0.length - (l0.length - 1) = 1 := by omega
  obtain ⟨w2, hrun, ho2, hg2⟩ := X.clear_tail k80 (t := 37) Try.underlying37 slices_Delete_impl_Pair_impl_Pair.calls_zero rfl (by decide) (by simp [Value.cells]; decide) (m := l0.length - (l0.length - 1)) (c2 := c - (l0.length - 1)) ho (by omega) (by omega) 0
  have hcl : (Builtin.clear_ #[37] 0 #[.slice (some ⟨g, (l0.length - 1) * 2, none⟩) (l0.length - (l0.length - 1)) (c - (l0.length - 1))]).run Try.prog w1 = .ok (.tuple #[]) w2 := hrun
  clear hrun hm1
  have HO2 := Aside0.mk ho2
  have HB2 := Aside0.mk (hb.grown hg2 hb.size (fun k hk => by injection hk with hk; subst hk; exact hg))
  have HG1 := Aside0.mk hgr
  have HG2 := Aside0.mk hg2
  clear ho ho2 hb hgr hg2
  have hd1 : ¬ c = l0.length - 1 := by omega
  have hd2 : l0.length - 1 ≤ l0.length := by omega
  have hd3 : ((l0.length - 1 : Nat) : Int) ≤ (l0.length : Int) := by omega
  have hd4 : (0 : Int) ≤ ((l0.length - 1 : Nat) : Int) := by omega
  have hd5 : (l0.length : Int) ≤ (c : Int) := by omega
  have HK := Aside0.mk (Kept.of_grown HG2.out (Kept.of_grown HG1.out (Kept.drew (Kept.refl w (fun k_ => P0_ k_))) (fun k e => by injection e with e; subst e; exact .inl hPg)) (fun k e => by injection e with e; subst e; exact .inl hPg))
  go_wp2
  all_goals
    go_ret
    exact ⟨_, rfl, Kd.R_mono HO2.out (fun k hk => .inl hk), HB2.out, HK.out⟩


end Go.Proofs.Ytcdiokflmambiaa.P
