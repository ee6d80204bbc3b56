-- Written by wip/px.py of this session, over the kit's print.py. Not trusted: Lean checks it.
import Derived.Test.YtcdiokflmambiaaPx0
import Derived.Test.YtcdiokflmambiaaPx1
namespace Go.Proofs.Ytcdiokflmambiaa.P
open Go.RowKit Go.Proofs.YtcdiokflmambiaaW.PrintWords Go.Proofs.YtcdiokflmambiaaW.PrintLast Go.Proofs.YtcdiokflmambiaaW.PrintMore
attribute [local go_sem] max2_int min2_int max_two min_two max_three min_three max_four min_four   -- for this text's walks alone
set_option linter.unusedVariables false
set_option linter.unusedSimpArgs false

/-! ### laws_FnExactListPush: function 11 -/
mutual
def laws_FnExactListPush.j0 : Nat → List ByteArray → Bool → List ByteArray → List ByteArray → Bool → List ByteArray → List ByteArray → List ByteArray → Bool → Bool → Option (Bool)
  | 0, _, _, _, _, _, _, _, _, _, _ => none
  | k + 1, x0, x1, x2, x8, x9, x10, x11, x12, x13, x57 => if x57 = true then (some false) else ((laws_toStringS.f k x0).bind fun t915 => ((laws_eqStringS.f k x10 t915).bind fun t918 => (if t918 = true then ((laws_toStringS.f k x2).bind fun t919 => ((laws_eqStringS.f k x11 t919).bind fun t922 => (if t922 = true then ((laws_markStringS.f k x10 1).bind fun bt923 => ((laws_markStringS.f k x11 bt923.1).bind fun bt925 => (if bt925.1 < 0 then (laws_FnExactListPush.j1 k x0 x1 x2 x8 x9 x12 true) else ((laws_eqStringS.f k x12 x8).bind fun t927 => (if t927 = true then (laws_FnExactListPush.j1 k x0 x1 x2 x8 x9 x12 (x13 != x9)) else (laws_FnExactListPush.j1 k x0 x1 x2 x8 x9 x12 true)))))) else (some false)))) else (some false))))
def laws_FnExactListPush.j1 : Nat → List ByteArray → Bool → List ByteArray → List ByteArray → Bool → List ByteArray → Bool → Option (Bool)
  | 0, _, _, _, _, _, _, _ => none
  | k + 1, x0, x1, x2, x8, x9, x12, x86 => if x86 = true then (some false) else ((laws_markStringS.f k x12 1).bind fun bt928 => ((laws_heldStringS.f k bt928.2 1).bind fun t930 => (if t930 < 0 then (some false) else (if t930 = bt928.1 then ((laws_toStringS.f k x0).bind fun t931 => ((laws_toStringS.f k x2).bind fun t934 => ((impl_ListPush.f k t931 x1 t934).bind fun bt937 => ((laws_eqStringS.f k bt937.1 x8).bind fun t941 => (if t941 = true then (laws_FnExactListPush.j2 k bt928.2 bt928.1 (bt937.2 != x9)) else (laws_FnExactListPush.j2 k bt928.2 bt928.1 true)))))) else (some false)))))
def laws_FnExactListPush.j2 : Nat → List ByteArray → Int → Bool → Option (Bool)
  | 0, _, _, _ => none
  | k + 1, x12, x15, x115 => if x115 = true then (some false) else ((laws_heldStringS.f k x12 1).bind fun t942 => (if t942 < 0 then (some false) else (if t942 = x15 then (some true) else (some false))))
end
def laws_FnExactListPush.f (k : Nat) (l0 : List ByteArray) (a1 : Bool) (l2 : List ByteArray) : Option (Bool) := (laws_szStringS.f k l0 1048576).bind fun t892 => (if t892 < 0 then (some true) else ((laws_szStringS.f k l2 t892).bind fun t893 => (if t893 < 0 then (some true) else ((laws_toStringS.f k l0).bind fun t894 => ((laws_toStringS.f k l2).bind fun t897 => ((spec_ListPush.f k t894 a1 t897).bind fun bt900 => ((laws_toStringS.f k l0).bind fun t904 => ((laws_toStringS.f k l2).bind fun t907 => ((impl_ListPush.f k t904 a1 t907).bind fun bt910 => ((laws_eqStringS.f k bt910.1 bt900.1).bind fun t914 => (if t914 = true then (laws_FnExactListPush.j0 k l0 a1 l2 bt900.1 bt900.2 t904 t907 bt910.1 bt910.2 (bt910.2 != bt900.2)) else (laws_FnExactListPush.j0 k l0 a1 l2 bt900.1 bt900.2 t904 t907 bt910.1 bt910.2 true))))))))))))
theorem laws_FnExactListPush.mono_l : ∀ k, (∀ y0 y1 y2 y3 y4 y5 y6 y7 y8 y9, LeO (laws_FnExactListPush.j0 k y0 y1 y2 y3 y4 y5 y6 y7 y8 y9) (laws_FnExactListPush.j0 (k + 1) y0 y1 y2 y3 y4 y5 y6 y7 y8 y9)) ∧ (∀ y0 y1 y2 y3 y4 y5 y6, LeO (laws_FnExactListPush.j1 k y0 y1 y2 y3 y4 y5 y6) (laws_FnExactListPush.j1 (k + 1) y0 y1 y2 y3 y4 y5 y6)) ∧ (∀ y0 y1 y2, LeO (laws_FnExactListPush.j2 k y0 y1 y2) (laws_FnExactListPush.j2 (k + 1) y0 y1 y2))
  | 0 => ⟨fun _ _ _ _ _ _ _ _ _ _ r h => by simp [laws_FnExactListPush.j0] at h, fun _ _ _ _ _ _ _ r h => by simp [laws_FnExactListPush.j1] at h, fun _ _ _ r h => by simp [laws_FnExactListPush.j2] at h⟩
  | k + 1 => by
    obtain ⟨ih0, ih1, ih2⟩ := laws_FnExactListPush.mono_l k
    refine ⟨?_, ?_, ?_⟩
    · intro y0 y1 y2 y3 y4 y5 y6 y7 y8 y9
      unfold laws_FnExactListPush.j0
      repeat' first
      | (with_reducible exact ih0 _ _ _ _ _ _ _ _ _ _)
      | (with_reducible exact ih1 _ _ _ _ _ _ _)
      | (with_reducible exact ih2 _ _ _)
      | (with_reducible exact impl_ListPush.mono _ _ _ _)
      | (with_reducible exact laws_eqStringS.mono _ _ _)
      | (with_reducible exact laws_heldStringS.mono _ _ _)
      | (with_reducible exact laws_markStringS.mono _ _ _)
      | (with_reducible exact laws_szStringS.mono _ _ _)
      | (with_reducible exact laws_toStringS.mono _ _)
      | (with_reducible exact spec_ListPush.mono _ _ _ _)
      | (with_reducible exact LeO.refl _)
      | (with_reducible exact LeO.none _)
      | (with_reducible refine LeO.ite ?_ ?_)
      | (with_reducible refine LeO.bind ?_ (fun _ => ?_))
      | exact ih0 _ _ _ _ _ _ _ _ _ _
      | exact ih1 _ _ _ _ _ _ _
      | exact ih2 _ _ _
      | exact impl_ListPush.mono _ _ _ _
      | exact laws_eqStringS.mono _ _ _
      | exact laws_heldStringS.mono _ _ _
      | exact laws_markStringS.mono _ _ _
      | exact laws_szStringS.mono _ _ _
      | exact laws_toStringS.mono _ _
      | exact spec_ListPush.mono _ _ _ _
      | exact LeO.none _
      | refine LeO.ite ?_ ?_
      | refine LeO.bind ?_ (fun _ => ?_)
    · intro y0 y1 y2 y3 y4 y5 y6
      unfold laws_FnExactListPush.j1
      repeat' first
      | (with_reducible exact ih0 _ _ _ _ _ _ _ _ _ _)
      | (with_reducible exact ih1 _ _ _ _ _ _ _)
      | (with_reducible exact ih2 _ _ _)
      | (with_reducible exact impl_ListPush.mono _ _ _ _)
      | (with_reducible exact laws_eqStringS.mono _ _ _)
      | (with_reducible exact laws_heldStringS.mono _ _ _)
      | (with_reducible exact laws_markStringS.mono _ _ _)
      | (with_reducible exact laws_szStringS.mono _ _ _)
      | (with_reducible exact laws_toStringS.mono _ _)
      | (with_reducible exact spec_ListPush.mono _ _ _ _)
      | (with_reducible exact LeO.refl _)
      | (with_reducible exact LeO.none _)
      | (with_reducible refine LeO.ite ?_ ?_)
      | (with_reducible refine LeO.bind ?_ (fun _ => ?_))
      | exact ih0 _ _ _ _ _ _ _ _ _ _
      | exact ih1 _ _ _ _ _ _ _
      | exact ih2 _ _ _
      | exact impl_ListPush.mono _ _ _ _
      | exact laws_eqStringS.mono _ _ _
      | exact laws_heldStringS.mono _ _ _
      | exact laws_markStringS.mono _ _ _
      | exact laws_szStringS.mono _ _ _
      | exact laws_toStringS.mono _ _
      | exact spec_ListPush.mono _ _ _ _
      | exact LeO.none _
      | refine LeO.ite ?_ ?_
      | refine LeO.bind ?_ (fun _ => ?_)
    · intro y0 y1 y2
      unfold laws_FnExactListPush.j2
      repeat' first
      | (with_reducible exact ih0 _ _ _ _ _ _ _ _ _ _)
      | (with_reducible exact ih1 _ _ _ _ _ _ _)
      | (with_reducible exact ih2 _ _ _)
      | (with_reducible exact impl_ListPush.mono _ _ _ _)
      | (with_reducible exact laws_eqStringS.mono _ _ _)
      | (with_reducible exact laws_heldStringS.mono _ _ _)
      | (with_reducible exact laws_markStringS.mono _ _ _)
      | (with_reducible exact laws_szStringS.mono _ _ _)
      | (with_reducible exact laws_toStringS.mono _ _)
      | (with_reducible exact spec_ListPush.mono _ _ _ _)
      | (with_reducible exact LeO.refl _)
      | (with_reducible exact LeO.none _)
      | (with_reducible refine LeO.ite ?_ ?_)
      | (with_reducible refine LeO.bind ?_ (fun _ => ?_))
      | exact ih0 _ _ _ _ _ _ _ _ _ _
      | exact ih1 _ _ _ _ _ _ _
      | exact ih2 _ _ _
      | exact impl_ListPush.mono _ _ _ _
      | exact laws_eqStringS.mono _ _ _
      | exact laws_heldStringS.mono _ _ _
      | exact laws_markStringS.mono _ _ _
      | exact laws_szStringS.mono _ _ _
      | exact laws_toStringS.mono _ _
      | exact spec_ListPush.mono _ _ _ _
      | exact LeO.none _
      | refine LeO.ite ?_ ?_
      | refine LeO.bind ?_ (fun _ => ?_)
theorem laws_FnExactListPush.mono : ∀ a0 a1 a2 k, LeO (laws_FnExactListPush.f k a0 a1 a2) (laws_FnExactListPush.f (k + 1) a0 a1 a2) := by
  intro a0 a1 a2 k
  obtain ⟨ih0, ih1, ih2⟩ := laws_FnExactListPush.mono_l k
  unfold laws_FnExactListPush.f
  repeat' first
      | (with_reducible exact ih0 _ _ _ _ _ _ _ _ _ _)
      | (with_reducible exact ih1 _ _ _ _ _ _ _)
      | (with_reducible exact ih2 _ _ _)
      | (with_reducible exact impl_ListPush.mono _ _ _ _)
      | (with_reducible exact laws_eqStringS.mono _ _ _)
      | (with_reducible exact laws_heldStringS.mono _ _ _)
      | (with_reducible exact laws_markStringS.mono _ _ _)
      | (with_reducible exact laws_szStringS.mono _ _ _)
      | (with_reducible exact laws_toStringS.mono _ _)
      | (with_reducible exact spec_ListPush.mono _ _ _ _)
      | (with_reducible exact LeO.refl _)
      | (with_reducible exact LeO.none _)
      | (with_reducible refine LeO.ite ?_ ?_)
      | (with_reducible refine LeO.bind ?_ (fun _ => ?_))
      | exact ih0 _ _ _ _ _ _ _ _ _ _
      | exact ih1 _ _ _ _ _ _ _
      | exact ih2 _ _ _
      | exact impl_ListPush.mono _ _ _ _
      | exact laws_eqStringS.mono _ _ _
      | exact laws_heldStringS.mono _ _ _
      | exact laws_markStringS.mono _ _ _
      | exact laws_szStringS.mono _ _ _
      | exact laws_toStringS.mono _ _
      | exact spec_ListPush.mono _ _ _ _
      | exact LeO.none _
      | refine LeO.ite ?_ ?_
      | refine LeO.bind ?_ (fun _ => ?_)

/-! ### spec_DrawListPop: function 50 -/
def spec_DrawListPop.f (k : Nat) (l0 : List Int) : Option (List ByteArray × Bool) := (spec_l1Open.f l0).bind fun bt943 => ((spec_l11AnyTexts.f k bt943.1 bt943.2).bind fun bt946 => ((spec_l1Rd_pick.f k bt943.1 bt946.2 2).bind fun bt950 => (some (bt946.1, (bt950.1 == 0)))))
theorem spec_DrawListPop.mono : ∀ a0 k, LeO (spec_DrawListPop.f k a0) (spec_DrawListPop.f (k + 1) a0) := by
  intro a0 k
  unfold spec_DrawListPop.f
  repeat' first
      | (with_reducible exact spec_l11AnyTexts.mono _ _ _)
      | (with_reducible exact spec_l1Rd_pick.mono _ _ _ _)
      | (with_reducible exact LeO.refl _)
      | (with_reducible exact LeO.none _)
      | (with_reducible refine LeO.ite ?_ ?_)
      | (with_reducible refine LeO.bind ?_ (fun _ => ?_))
      | exact spec_l11AnyTexts.mono _ _ _
      | exact spec_l1Rd_pick.mono _ _ _ _
      | exact LeO.none _
      | refine LeO.ite ?_ ?_
      | refine LeO.bind ?_ (fun _ => ?_)

/-! ### impl_ListPop: function 51 -/
def impl_ListPop.j0 : Nat → List ByteArray → Bool → Bool → Option (List ByteArray × ByteArray × Bool)
  | 0, _, _, _ => none
  | k + 1, x0, x1, x15 => if x15 = true then (some ((([] : List ByteArray)), (⟨#[]⟩ : ByteArray), false)) else (if x1 = true then (if 1 ≤ (x0.length : Int) then ((impl_copied.f (x0.drop 1)).bind fun t957 => (if 0 < (x0.length : Int) then (some (t957, rdOf ByteArray.empty x0 0, true)) else (none))) else (none)) else (if 0 ≤ (wrap64 ((x0.length : Int) - 1)) then (if (wrap64 ((x0.length : Int) - 1)) ≤ (x0.length : Int) then ((impl_copied.f (x0.take ((wrap64 ((x0.length : Int) - 1)) : Int).toNat)).bind fun t962 => (if (wrap64 ((x0.length : Int) - 1)) < (x0.length : Int) then (some (t962, rdOf ByteArray.empty x0 (wrap64 ((x0.length : Int) - 1)), true)) else (none))) else (none)) else (none)))
def impl_ListPop.f (k : Nat) (l0 : List ByteArray) (a1 : Bool) : Option (List ByteArray × ByteArray × Bool) := (impl_listOk.f k l0).bind fun t952 => (if t952 = true then (impl_ListPop.j0 k l0 a1 ((l0.length : Int) == 0)) else (impl_ListPop.j0 k l0 a1 true))
theorem impl_ListPop.mono_l : ∀ k, (∀ y0 y1 y2, LeO (impl_ListPop.j0 k y0 y1 y2) (impl_ListPop.j0 (k + 1) y0 y1 y2))
  | 0 => fun _ _ _ r h => by simp [impl_ListPop.j0] at h
  | k + 1 => by
    have ih0 := impl_ListPop.mono_l k
    · intro y0 y1 y2
      unfold impl_ListPop.j0
      repeat' first
      | (with_reducible exact ih0 _ _ _)
      | (with_reducible exact impl_listOk.mono _ _)
      | (with_reducible exact LeO.refl _)
      | (with_reducible exact LeO.none _)
      | (with_reducible refine LeO.ite ?_ ?_)
      | (with_reducible refine LeO.bind ?_ (fun _ => ?_))
      | exact ih0 _ _ _
      | exact impl_listOk.mono _ _
      | exact LeO.none _
      | refine LeO.ite ?_ ?_
      | refine LeO.bind ?_ (fun _ => ?_)
theorem impl_ListPop.mono : ∀ a0 a1 k, LeO (impl_ListPop.f k a0 a1) (impl_ListPop.f (k + 1) a0 a1) := by
  intro a0 a1 k
  have ih0 := impl_ListPop.mono_l k
  unfold impl_ListPop.f
  repeat' first
      | (with_reducible exact ih0 _ _ _)
      | (with_reducible exact impl_listOk.mono _ _)
      | (with_reducible exact LeO.refl _)
      | (with_reducible exact LeO.none _)
      | (with_reducible refine LeO.ite ?_ ?_)
      | (with_reducible refine LeO.bind ?_ (fun _ => ?_))
      | exact ih0 _ _ _
      | exact impl_listOk.mono _ _
      | exact LeO.none _
      | refine LeO.ite ?_ ?_
      | refine LeO.bind ?_ (fun _ => ?_)

/-! ### spec_ListPop: function 52 -/
def spec_ListPop.j0 : Nat → List ByteArray → Bool → Int → Bool → Option (List ByteArray × ByteArray × Bool)
  | 0, _, _, _, _ => none
  | k + 1, x0, x1, x7, x10 => if x10 = true then (some ((([] : List ByteArray)), (⟨#[]⟩ : ByteArray), false)) else (if x1 = true then (if 1 ≤ (x0.length : Int) then ((spec_l2Copy.f (x0.drop 1)).bind fun t971 => (if 0 < (x0.length : Int) then (some (t971, rdOf ByteArray.empty x0 0, true)) else (none))) else (none)) else (if 0 ≤ (wrap64 (x7 - 1)) then (if (wrap64 (x7 - 1)) ≤ (x0.length : Int) then ((spec_l2Copy.f (x0.take ((wrap64 (x7 - 1)) : Int).toNat)).bind fun t976 => (if (wrap64 (x7 - 1)) < (x0.length : Int) then (some (t976, rdOf ByteArray.empty x0 (wrap64 (x7 - 1)), true)) else (none))) else (none)) else (none)))
def spec_ListPop.f (k : Nat) (l0 : List ByteArray) (a1 : Bool) : Option (List ByteArray × ByteArray × Bool) := (spec_l2Texts.f k l0).bind fun t966 => (if t966 = true then (spec_ListPop.j0 k l0 a1 (l0.length : Int) ((l0.length : Int) == 0)) else (spec_ListPop.j0 k l0 a1 (l0.length : Int) true))
theorem spec_ListPop.mono_l : ∀ k, (∀ y0 y1 y2 y3, LeO (spec_ListPop.j0 k y0 y1 y2 y3) (spec_ListPop.j0 (k + 1) y0 y1 y2 y3))
  | 0 => fun _ _ _ _ r h => by simp [spec_ListPop.j0] at h
  | k + 1 => by
    have ih0 := spec_ListPop.mono_l k
    · intro y0 y1 y2 y3
      unfold spec_ListPop.j0
      repeat' first
      | (with_reducible exact ih0 _ _ _ _)
      | (with_reducible exact spec_l2Texts.mono _ _)
      | (with_reducible exact LeO.refl _)
      | (with_reducible exact LeO.none _)
      | (with_reducible refine LeO.ite ?_ ?_)
      | (with_reducible refine LeO.bind ?_ (fun _ => ?_))
      | exact ih0 _ _ _ _
      | exact spec_l2Texts.mono _ _
      | exact LeO.none _
      | refine LeO.ite ?_ ?_
      | refine LeO.bind ?_ (fun _ => ?_)
theorem spec_ListPop.mono : ∀ a0 a1 k, LeO (spec_ListPop.f k a0 a1) (spec_ListPop.f (k + 1) a0 a1) := by
  intro a0 a1 k
  have ih0 := spec_ListPop.mono_l k
  unfold spec_ListPop.f
  repeat' first
      | (with_reducible exact ih0 _ _ _ _)
      | (with_reducible exact spec_l2Texts.mono _ _)
      | (with_reducible exact LeO.refl _)
      | (with_reducible exact LeO.none _)
      | (with_reducible refine LeO.ite ?_ ?_)
      | (with_reducible refine LeO.bind ?_ (fun _ => ?_))
      | exact ih0 _ _ _ _
      | exact spec_l2Texts.mono _ _
      | exact LeO.none _
      | refine LeO.ite ?_ ?_
      | refine LeO.bind ?_ (fun _ => ?_)

/-! ### laws_FnListPop: function 12 -/
def laws_FnListPop.j0 : Nat → List ByteArray → Bool → List ByteArray → ByteArray → Bool → List ByteArray → ByteArray → Bool → Bool → Option (Bool)
  | 0, _, _, _, _, _, _, _, _, _ => none
  | k + 1, x3, x4, x5, x6, x7, x8, x9, x10, x52 => if x52 = true then (if (x7 == x10) = true then (if x6.toList = x9.toList then ((laws_qxTexts.f k x5 x8).bind fun t995 => (some t995)) else (some false)) else (some false)) else ((impl_ListPush.f k x5 x4 (([x6] : List ByteArray))).bind fun bt999 => (if bt999.2 = true then ((laws_qxTexts.f k bt999.1 x3).bind fun t1003 => (if t1003 = true then (some ((wrap64 ((x5.length : Int) + 1)) == (x3.length : Int))) else (some false))) else (some false)))
def laws_FnListPop.f (k : Nat) (l0 : List Int) : Option (Bool) := if (l0.length : Int) > 1048576 then (some true) else ((spec_DrawListPop.f k l0).bind fun bt980 => ((impl_ListPop.f k bt980.1 bt980.2).bind fun bt984 => ((spec_ListPop.f k bt980.1 bt980.2).bind fun bt989 => (if (bt984.2.2 != bt989.2.2) = true then (laws_FnListPop.j0 k bt980.1 bt980.2 bt984.1 bt984.2.1 bt984.2.2 bt989.1 bt989.2.1 bt989.2.2 true) else (if bt984.2.1.toList = bt989.2.1.toList then ((laws_qxTexts.f k bt984.1 bt989.1).bind fun t994 => (if t994 = true then (laws_FnListPop.j0 k bt980.1 bt980.2 bt984.1 bt984.2.1 bt984.2.2 bt989.1 bt989.2.1 bt989.2.2 (!bt984.2.2)) else (laws_FnListPop.j0 k bt980.1 bt980.2 bt984.1 bt984.2.1 bt984.2.2 bt989.1 bt989.2.1 bt989.2.2 true))) else (laws_FnListPop.j0 k bt980.1 bt980.2 bt984.1 bt984.2.1 bt984.2.2 bt989.1 bt989.2.1 bt989.2.2 true))))))
theorem laws_FnListPop.mono_l : ∀ k, (∀ y0 y1 y2 y3 y4 y5 y6 y7 y8, LeO (laws_FnListPop.j0 k y0 y1 y2 y3 y4 y5 y6 y7 y8) (laws_FnListPop.j0 (k + 1) y0 y1 y2 y3 y4 y5 y6 y7 y8))
  | 0 => fun _ _ _ _ _ _ _ _ _ r h => by simp [laws_FnListPop.j0] at h
  | k + 1 => by
    have ih0 := laws_FnListPop.mono_l k
    · intro y0 y1 y2 y3 y4 y5 y6 y7 y8
      unfold laws_FnListPop.j0
      repeat' first
      | (with_reducible exact ih0 _ _ _ _ _ _ _ _ _)
      | (with_reducible exact impl_ListPop.mono _ _ _)
      | (with_reducible exact impl_ListPush.mono _ _ _ _)
      | (with_reducible exact laws_qxTexts.mono _ _ _)
      | (with_reducible exact spec_DrawListPop.mono _ _)
      | (with_reducible exact spec_ListPop.mono _ _ _)
      | (with_reducible exact LeO.refl _)
      | (with_reducible exact LeO.none _)
      | (with_reducible refine LeO.ite ?_ ?_)
      | (with_reducible refine LeO.bind ?_ (fun _ => ?_))
      | exact ih0 _ _ _ _ _ _ _ _ _
      | exact impl_ListPop.mono _ _ _
      | exact impl_ListPush.mono _ _ _ _
      | exact laws_qxTexts.mono _ _ _
      | exact spec_DrawListPop.mono _ _
      | exact spec_ListPop.mono _ _ _
      | exact LeO.none _
      | refine LeO.ite ?_ ?_
      | refine LeO.bind ?_ (fun _ => ?_)
theorem laws_FnListPop.mono : ∀ a0 k, LeO (laws_FnListPop.f k a0) (laws_FnListPop.f (k + 1) a0) := by
  intro a0 k
  have ih0 := laws_FnListPop.mono_l k
  unfold laws_FnListPop.f
  repeat' first
      | (with_reducible exact ih0 _ _ _ _ _ _ _ _ _)
      | (with_reducible exact impl_ListPop.mono _ _ _)
      | (with_reducible exact impl_ListPush.mono _ _ _ _)
      | (with_reducible exact laws_qxTexts.mono _ _ _)
      | (with_reducible exact spec_DrawListPop.mono _ _)
      | (with_reducible exact spec_ListPop.mono _ _ _)
      | (with_reducible exact LeO.refl _)
      | (with_reducible exact LeO.none _)
      | (with_reducible refine LeO.ite ?_ ?_)
      | (with_reducible refine LeO.bind ?_ (fun _ => ?_))
      | exact ih0 _ _ _ _ _ _ _ _ _
      | exact impl_ListPop.mono _ _ _
      | exact impl_ListPush.mono _ _ _ _
      | exact laws_qxTexts.mono _ _ _
      | exact spec_DrawListPop.mono _ _
      | exact spec_ListPop.mono _ _ _
      | exact LeO.none _
      | refine LeO.ite ?_ ?_
      | refine LeO.bind ?_ (fun _ => ?_)

/-! ### spec_DrawListPush: function 53 -/
def spec_DrawListPush.f (k : Nat) (l0 : List Int) : Option (List ByteArray × Bool × List ByteArray) := (spec_l1Open.f l0).bind fun bt1004 => ((spec_l11AnyTexts.f k bt1004.1 bt1004.2).bind fun bt1007 => ((spec_l1Rd_pick.f k bt1004.1 bt1007.2 2).bind fun bt1011 => ((spec_l11AnyTexts.f k bt1004.1 bt1011.2).bind fun bt1013 => (some (bt1007.1, (bt1011.1 == 0), bt1013.1)))))
theorem spec_DrawListPush.mono : ∀ a0 k, LeO (spec_DrawListPush.f k a0) (spec_DrawListPush.f (k + 1) a0) := by
  intro a0 k
  unfold spec_DrawListPush.f
  repeat' first
      | (with_reducible exact spec_l11AnyTexts.mono _ _ _)
      | (with_reducible exact spec_l1Rd_pick.mono _ _ _ _)
      | (with_reducible exact LeO.refl _)
      | (with_reducible exact LeO.none _)
      | (with_reducible refine LeO.ite ?_ ?_)
      | (with_reducible refine LeO.bind ?_ (fun _ => ?_))
      | exact spec_l11AnyTexts.mono _ _ _
      | exact spec_l1Rd_pick.mono _ _ _ _
      | exact LeO.none _
      | refine LeO.ite ?_ ?_
      | refine LeO.bind ?_ (fun _ => ?_)

/-! ### laws_FnListPush: function 13 -/
mutual
def laws_FnListPush.j0 : Nat → List ByteArray → Bool → List ByteArray → List ByteArray → Bool → List ByteArray → Bool → Bool → Option (Bool)
  | 0, _, _, _, _, _, _, _, _ => none
  | k + 1, x3, x4, x5, x6, x7, x8, x9, x49 => if x49 = true then (if (x7 == x9) = true then ((laws_qxTexts.f k x6 x8).bind fun t1033 => (some t1033)) else (some false)) else (laws_FnListPush.l0 k x3 x4 x5 x6 (wrap64 ((x5.length : Int) - 1)))
def laws_FnListPush.l0 : Nat → List ByteArray → Bool → List ByteArray → List ByteArray → Int → Option (Bool)
  | 0, _, _, _, _, _ => none
  | k + 1, x3, x4, x5, x6, x10 => if x10 ≥ 0 then ((impl_ListPop.f k x6 x4).bind fun bt1035 => (if bt1035.2.2 = true then (if 0 ≤ x10 then (if x10 < (x5.length : Int) then (if bt1035.2.1.toList = (rdOf ByteArray.empty x5 x10).toList then (laws_FnListPush.l0 k x3 x4 x5 bt1035.1 (wrap64 (x10 - 1))) else (some false)) else (none)) else (none)) else (some false))) else ((laws_qxTexts.f k x6 x3).bind fun t1034 => (some t1034))
end
def laws_FnListPush.f (k : Nat) (l0 : List Int) : Option (Bool) := if (l0.length : Int) > 1048576 then (some true) else ((spec_DrawListPush.f k l0).bind fun bt1017 => ((impl_ListPush.f k bt1017.1 bt1017.2.1 bt1017.2.2).bind fun bt1024 => ((spec_ListPush.f k bt1017.1 bt1017.2.1 bt1017.2.2).bind fun bt1028 => (if (bt1024.2 != bt1028.2) = true then (laws_FnListPush.j0 k bt1017.1 bt1017.2.1 bt1017.2.2 bt1024.1 bt1024.2 bt1028.1 bt1028.2 true) else ((laws_qxTexts.f k bt1024.1 bt1028.1).bind fun t1032 => (if t1032 = true then (laws_FnListPush.j0 k bt1017.1 bt1017.2.1 bt1017.2.2 bt1024.1 bt1024.2 bt1028.1 bt1028.2 (!bt1024.2)) else (laws_FnListPush.j0 k bt1017.1 bt1017.2.1 bt1017.2.2 bt1024.1 bt1024.2 bt1028.1 bt1028.2 true)))))))
theorem laws_FnListPush.mono_l : ∀ k, (∀ y0 y1 y2 y3 y4 y5 y6 y7, LeO (laws_FnListPush.j0 k y0 y1 y2 y3 y4 y5 y6 y7) (laws_FnListPush.j0 (k + 1) y0 y1 y2 y3 y4 y5 y6 y7)) ∧ (∀ y0 y1 y2 y3 y4, LeO (laws_FnListPush.l0 k y0 y1 y2 y3 y4) (laws_FnListPush.l0 (k + 1) y0 y1 y2 y3 y4))
  | 0 => ⟨fun _ _ _ _ _ _ _ _ r h => by simp [laws_FnListPush.j0] at h, fun _ _ _ _ _ r h => by simp [laws_FnListPush.l0] at h⟩
  | k + 1 => by
    obtain ⟨ih0, ih1⟩ := laws_FnListPush.mono_l k
    refine ⟨?_, ?_⟩
    · intro y0 y1 y2 y3 y4 y5 y6 y7
      unfold laws_FnListPush.j0
      repeat' first
      | (with_reducible exact ih0 _ _ _ _ _ _ _ _)
      | (with_reducible exact ih1 _ _ _ _ _)
      | (with_reducible exact impl_ListPop.mono _ _ _)
      | (with_reducible exact impl_ListPush.mono _ _ _ _)
      | (with_reducible exact laws_qxTexts.mono _ _ _)
      | (with_reducible exact spec_DrawListPush.mono _ _)
      | (with_reducible exact spec_ListPush.mono _ _ _ _)
      | (with_reducible exact LeO.refl _)
      | (with_reducible exact LeO.none _)
      | (with_reducible refine LeO.ite ?_ ?_)
      | (with_reducible refine LeO.bind ?_ (fun _ => ?_))
      | exact ih0 _ _ _ _ _ _ _ _
      | exact ih1 _ _ _ _ _
      | exact impl_ListPop.mono _ _ _
      | exact impl_ListPush.mono _ _ _ _
      | exact laws_qxTexts.mono _ _ _
      | exact spec_DrawListPush.mono _ _
      | exact spec_ListPush.mono _ _ _ _
      | exact LeO.none _
      | refine LeO.ite ?_ ?_
      | refine LeO.bind ?_ (fun _ => ?_)
    · intro y0 y1 y2 y3 y4
      unfold laws_FnListPush.l0
      repeat' first
      | (with_reducible exact ih0 _ _ _ _ _ _ _ _)
      | (with_reducible exact ih1 _ _ _ _ _)
      | (with_reducible exact impl_ListPop.mono _ _ _)
      | (with_reducible exact impl_ListPush.mono _ _ _ _)
      | (with_reducible exact laws_qxTexts.mono _ _ _)
      | (with_reducible exact spec_DrawListPush.mono _ _)
      | (with_reducible exact spec_ListPush.mono _ _ _ _)
      | (with_reducible exact LeO.refl _)
      | (with_reducible exact LeO.none _)
      | (with_reducible refine LeO.ite ?_ ?_)
      | (with_reducible refine LeO.bind ?_ (fun _ => ?_))
      | exact ih0 _ _ _ _ _ _ _ _
      | exact ih1 _ _ _ _ _
      | exact impl_ListPop.mono _ _ _
      | exact impl_ListPush.mono _ _ _ _
      | exact laws_qxTexts.mono _ _ _
      | exact spec_DrawListPush.mono _ _
      | exact spec_ListPush.mono _ _ _ _
      | exact LeO.none _
      | refine LeO.ite ?_ ?_
      | refine LeO.bind ?_ (fun _ => ?_)
theorem laws_FnListPush.mono : ∀ a0 k, LeO (laws_FnListPush.f k a0) (laws_FnListPush.f (k + 1) a0) := by
  intro a0 k
  obtain ⟨ih0, ih1⟩ := laws_FnListPush.mono_l k
  unfold laws_FnListPush.f
  repeat' first
      | (with_reducible exact ih0 _ _ _ _ _ _ _ _)
      | (with_reducible exact ih1 _ _ _ _ _)
      | (with_reducible exact impl_ListPop.mono _ _ _)
      | (with_reducible exact impl_ListPush.mono _ _ _ _)
      | (with_reducible exact laws_qxTexts.mono _ _ _)
      | (with_reducible exact spec_DrawListPush.mono _ _)
      | (with_reducible exact spec_ListPush.mono _ _ _ _)
      | (with_reducible exact LeO.refl _)
      | (with_reducible exact LeO.none _)
      | (with_reducible refine LeO.ite ?_ ?_)
      | (with_reducible refine LeO.bind ?_ (fun _ => ?_))
      | exact ih0 _ _ _ _ _ _ _ _
      | exact ih1 _ _ _ _ _
      | exact impl_ListPop.mono _ _ _
      | exact impl_ListPush.mono _ _ _ _
      | exact laws_qxTexts.mono _ _ _
      | exact spec_DrawListPush.mono _ _
      | exact spec_ListPush.mono _ _ _ _
      | exact LeO.none _
      | refine LeO.ite ?_ ?_
      | refine LeO.bind ?_ (fun _ => ?_)

end Go.Proofs.Ytcdiokflmambiaa.P
