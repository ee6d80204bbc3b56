-- Written by wip/px.py of this session, over the kit's print.py. Not trusted: Lean checks it.
import Derived.Test.YthdbjegppeekoaaDoorPx0
namespace Go.Proofs.YthdbjegppeekoaaDoor.P
open Go.RowKit Go.Proofs.YthdbjegppeekoaaDoorW.PrintWords Go.Proofs.YthdbjegppeekoaaDoorW.PrintLast Go.Proofs.YthdbjegppeekoaaDoorW.PrintMore
attribute [local go_sem] max2_int min2_int max_two min_two max_three min_three max_four min_four   -- for this text's walks alone
set_option linter.unusedVariables false
set_option linter.unusedSimpArgs false

/-! ### laws_szStringS: function 9 -/
def laws_szStringS.l0 : Nat → List ByteArray → Int → Int → Option (Int)
  | 0, _, _, _ => none
  | k + 1, x0, x1, x5 => if x5 < (x0.length : Int) then (if 0 ≤ x5 then (if (wrap64 (x1 - ((rdOf ByteArray.empty x0 x5).size : Int))) < 0 then (some (-1)) else (laws_szStringS.l0 k x0 (wrap64 (x1 - ((rdOf ByteArray.empty x0 x5).size : Int))) (wrap64 (x5 + 1)))) else (none)) else (some x1)
def laws_szStringS.f (k : Nat) (l0 : List ByteArray) (a1 : Int) : Option (Int) := if (wrap64 (a1 - (l0.length : Int))) < 0 then (some (-1)) else (laws_szStringS.l0 k l0 (wrap64 (a1 - (l0.length : Int))) 0)
theorem laws_szStringS.mono_l : ∀ k, (∀ y0 y1 y2, LeO (laws_szStringS.l0 k y0 y1 y2) (laws_szStringS.l0 (k + 1) y0 y1 y2))
  | 0 => fun _ _ _ r h => by simp [laws_szStringS.l0] at h
  | k + 1 => by
    have ih0 := laws_szStringS.mono_l k
    · intro y0 y1 y2
      unfold laws_szStringS.l0
      repeat' first
      | (with_reducible first | exact ih0 _ _ _ | exact LeO.refl _ | exact LeO.none _ | refine LeO.ite ?_ ?_ | refine LeO.bind ?_ (fun _ => ?_))
theorem laws_szStringS.mono : ∀ a0 a1 k, LeO (laws_szStringS.f k a0 a1) (laws_szStringS.f (k + 1) a0 a1) := by
  intro a0 a1 k
  have ih0 := laws_szStringS.mono_l k
  unfold laws_szStringS.f
  repeat' first
      | (with_reducible first | exact ih0 _ _ _ | exact LeO.refl _ | exact LeO.none _ | refine LeO.ite ?_ ?_ | refine LeO.bind ?_ (fun _ => ?_))

/-! ### laws_szReplyS: function 10 -/
mutual
def laws_szReplyS.l0 : Nat → List (S25) → Int → Int → Option (Int)
  | 0, _, _, _ => none
  | k + 1, x0, x1, x5 => if x5 < (x0.length : Int) then (if 0 ≤ x5 then ((laws_szReply.f k ((rd_T25 x0 x5).f0) ((rd_T25 x0 x5).f1) ((rd_T25 x0 x5).f2) ((rd_T25 x0 x5).f3) ((rd_T25 x0 x5).f4) x1).bind fun t103 => (if t103 < 0 then (some (-1)) else (laws_szReplyS.l0 k x0 t103 (wrap64 (x5 + 1))))) else (none)) else (some x1)
def laws_szReply.f : Nat → Int → Int → ByteArray → List ByteArray → List (S25) → Int → Option (Int)
  | 0, _, _, _, _, _, _ => none
  | k + 1, a0_0, a0_1, a0_2, l0_3, l0_4, a1 => if (wrap64 (a1 - (a0_2.size : Int))) < 0 then (some (-1)) else ((laws_szStringS.f k l0_3 (wrap64 (a1 - (a0_2.size : Int)))).bind fun t103 => (if t103 < 0 then (some (-1)) else ((if (wrap64 (t103 - (l0_4.length : Int))) < 0 then (some (-1)) else (laws_szReplyS.l0 k l0_4 (wrap64 (t103 - (l0_4.length : Int))) 0)).bind fun t104 => (if t104 < 0 then (some (-1)) else (some t104)))))
end
def laws_szReplyS.f (k : Nat) (l0 : List (S25)) (a1 : Int) : Option (Int) := if (wrap64 (a1 - (l0.length : Int))) < 0 then (some (-1)) else (laws_szReplyS.l0 k l0 (wrap64 (a1 - (l0.length : Int))) 0)
theorem laws_szReplyS.mono_l : ∀ k, (∀ y0 y1 y2, LeO (laws_szReplyS.l0 k y0 y1 y2) (laws_szReplyS.l0 (k + 1) y0 y1 y2)) ∧ (∀ y0 y1 y2 y3 y4 y5, LeO (laws_szReply.f k y0 y1 y2 y3 y4 y5) (laws_szReply.f (k + 1) y0 y1 y2 y3 y4 y5))
  | 0 => ⟨fun _ _ _ r h => by simp [laws_szReplyS.l0] at h, fun _ _ _ _ _ _ r h => by simp [laws_szReply.f] at h⟩
  | k + 1 => by
    obtain ⟨ih0, ih1⟩ := laws_szReplyS.mono_l k
    refine ⟨?_, ?_⟩
    · intro y0 y1 y2
      unfold laws_szReplyS.l0
      repeat' first
      | (with_reducible first | exact ih0 _ _ _ | exact ih1 _ _ _ _ _ _ | exact laws_szStringS.mono _ _ _ | exact LeO.refl _ | exact LeO.none _ | refine LeO.ite ?_ ?_ | refine LeO.bind ?_ (fun _ => ?_))
    · intro y0 y1 y2 y3 y4 y5
      unfold laws_szReply.f
      repeat' first
      | (with_reducible first | exact ih0 _ _ _ | exact ih1 _ _ _ _ _ _ | exact laws_szStringS.mono _ _ _ | exact LeO.refl _ | exact LeO.none _ | refine LeO.ite ?_ ?_ | refine LeO.bind ?_ (fun _ => ?_))
theorem laws_szReply.mono : ∀ y0 y1 y2 y3 y4 y5 k, LeO (laws_szReply.f k y0 y1 y2 y3 y4 y5) (laws_szReply.f (k + 1) y0 y1 y2 y3 y4 y5) := fun y0 y1 y2 y3 y4 y5 k => (laws_szReplyS.mono_l k).2 _ _ _ _ _ _

/-! ### laws_szReply: function 4 -/

/-! ### spec_l1Dec: function 11 -/
def spec_l1Dec.f : Nat → Int → Option (ByteArray)
  | 0, _ => none
  | k + 1, a0 => if a0 < (-9223372036854775807) then (some (⟨#[45, 57, 50, 50, 51, 51, 55, 50, 48, 51, 54, 56, 53, 52, 55, 55, 53, 56, 48, 56]⟩ : ByteArray)) else (if a0 < 0 then ((spec_l1Dec.f k (wrap64 (-a0))).bind fun t102 => (if 1 + t102.size ≤ 9223372036854775807 then (some ((⟨#[45]⟩ : ByteArray) ++ t102)) else (none))) else (if a0 < 10 then (some (strOfNums (([(wrap64 (48 + a0)) % 256] : List Int)))) else ((spec_l1Dec.f k (wrap64 (Int.tdiv a0 10))).bind fun t106 => ((some (([(wrap64 (48 + (Int.tmod a0 10))) % 256] : List Int) : List Int)).bind fun y107 => (if t106.size + (strOfNums y107).size ≤ 9223372036854775807 then (some (t106 ++ (strOfNums y107))) else (none))))))
theorem spec_l1Dec.mono_l : ∀ k, (∀ y0, LeO (spec_l1Dec.f k y0) (spec_l1Dec.f (k + 1) y0))
  | 0 => fun _ r h => by simp [spec_l1Dec.f] at h
  | k + 1 => by
    have ih0 := spec_l1Dec.mono_l k
    · intro y0
      unfold spec_l1Dec.f
      repeat' first
      | (with_reducible first | exact ih0 _ | exact LeO.refl _ | exact LeO.none _ | refine LeO.ite ?_ ?_ | refine LeO.bind ?_ (fun _ => ?_))
theorem spec_l1Dec.mono : ∀ a0 k, LeO (spec_l1Dec.f k a0) (spec_l1Dec.f (k + 1) a0) := by
  intro a0 k
  have ih0 := spec_l1Dec.mono_l k
  exact ih0 a0

/-! ### spec_l1Bulk: function 12 -/
def spec_l1Bulk.f (k : Nat) (a0 : ByteArray) : Option (ByteArray) := (spec_l1Dec.f k (a0.size : Int)).bind fun t110 => (if 1 + t110.size ≤ 9223372036854775807 then (if ((⟨#[36]⟩ : ByteArray) ++ t110).size + 2 ≤ 9223372036854775807 then (if (((⟨#[36]⟩ : ByteArray) ++ t110) ++ (⟨#[13, 10]⟩ : ByteArray)).size + a0.size ≤ 9223372036854775807 then (if ((((⟨#[36]⟩ : ByteArray) ++ t110) ++ (⟨#[13, 10]⟩ : ByteArray)) ++ a0).size + 2 ≤ 9223372036854775807 then (some (((((⟨#[36]⟩ : ByteArray) ++ t110) ++ (⟨#[13, 10]⟩ : ByteArray)) ++ a0) ++ (⟨#[13, 10]⟩ : ByteArray))) else (none)) else (none)) else (none)) else (none))
theorem spec_l1Bulk.mono : ∀ a0 k, LeO (spec_l1Bulk.f k a0) (spec_l1Bulk.f (k + 1) a0) := by
  intro a0 k
  unfold spec_l1Bulk.f
  repeat' first
      | (with_reducible first | exact spec_l1Dec.mono _ _ | exact LeO.refl _ | exact LeO.none _ | refine LeO.ite ?_ ?_ | refine LeO.bind ?_ (fun _ => ?_))

/-! ### spec_ReplyPut: function 5 -/
mutual
def spec_ReplyPut.l0 : Nat → ByteArray → Int → Int → Int → ByteArray → List ByteArray → List (S30) → Option (ByteArray)
  | 0, _, _, _, _, _, _, _ => none
  | k + 1, x3, x4, x112000, x112001, x112002, x112003, x112004 => if x4 < (x112003.length : Int) then (if 0 ≤ x4 then ((spec_l1Bulk.f k (rdOf ByteArray.empty x112003 x4)).bind fun t116 => (if x3.size + t116.size ≤ 9223372036854775807 then (spec_ReplyPut.l0 k (x3 ++ t116) (wrap64 (x4 + 1)) x112000 x112001 x112002 x112003 x112004) else (none))) else (none)) else (some x3)
def spec_ReplyPut.l1 : Nat → ByteArray → Int → Int → Int → ByteArray → List ByteArray → List (S30) → Option (ByteArray)
  | 0, _, _, _, _, _, _, _ => none
  | k + 1, x5, x6, x112000, x112001, x112002, x112003, x112004 => if x6 < (x112004.length : Int) then (if 0 ≤ x6 then ((spec_ReplyPut.f k ((rd_T30 x112004 x6).f0) ((rd_T30 x112004 x6).f1) ((rd_T30 x112004 x6).f2) ((rd_T30 x112004 x6).f3) ((rd_T30 x112004 x6).f4)).bind fun t119 => (if x5.size + t119.size ≤ 9223372036854775807 then (spec_ReplyPut.l1 k (x5 ++ t119) (wrap64 (x6 + 1)) x112000 x112001 x112002 x112003 x112004) else (none))) else (none)) else (some x5)
def spec_ReplyPut.f : Nat → Int → Int → ByteArray → List ByteArray → List (S30) → Option (ByteArray)
  | 0, _, _, _, _, _ => none
  | k + 1, a0_0, a0_1, a0_2, l0_3, l0_4 => if a0_0 = 1 then (if 1 + a0_2.size ≤ 9223372036854775807 then (if ((⟨#[45]⟩ : ByteArray) ++ a0_2).size + 2 ≤ 9223372036854775807 then (some (((⟨#[45]⟩ : ByteArray) ++ a0_2) ++ (⟨#[13, 10]⟩ : ByteArray))) else (none)) else (none)) else (if a0_0 = 2 then ((spec_l1Dec.f k a0_1).bind fun t112 => (if 1 + t112.size ≤ 9223372036854775807 then (if ((⟨#[58]⟩ : ByteArray) ++ t112).size + 2 ≤ 9223372036854775807 then (some (((⟨#[58]⟩ : ByteArray) ++ t112) ++ (⟨#[13, 10]⟩ : ByteArray))) else (none)) else (none))) else (if a0_0 = 3 then ((spec_l1Bulk.f k a0_2).bind fun t113 => (some t113)) else (if a0_0 = 4 then (some (⟨#[36, 45, 49, 13, 10]⟩ : ByteArray)) else (if a0_0 = 5 then ((spec_l1Dec.f k (l0_3.length : Int)).bind fun t114 => (if 1 + t114.size ≤ 9223372036854775807 then (if ((⟨#[42]⟩ : ByteArray) ++ t114).size + 2 ≤ 9223372036854775807 then (spec_ReplyPut.l0 k (((⟨#[42]⟩ : ByteArray) ++ t114) ++ (⟨#[13, 10]⟩ : ByteArray)) 0 a0_0 a0_1 a0_2 l0_3 l0_4) else (none)) else (none))) else (if a0_0 = 6 then ((spec_l1Dec.f k (l0_4.length : Int)).bind fun t117 => (if 1 + t117.size ≤ 9223372036854775807 then (if ((⟨#[42]⟩ : ByteArray) ++ t117).size + 2 ≤ 9223372036854775807 then (spec_ReplyPut.l1 k (((⟨#[42]⟩ : ByteArray) ++ t117) ++ (⟨#[13, 10]⟩ : ByteArray)) 0 a0_0 a0_1 a0_2 l0_3 l0_4) else (none)) else (none))) else (some (⟨#[43, 79, 75, 13, 10]⟩ : ByteArray)))))))
end
theorem spec_ReplyPut.mono_l : ∀ k, (∀ y0 y1 y2 y3 y4, LeO (spec_ReplyPut.f k y0 y1 y2 y3 y4) (spec_ReplyPut.f (k + 1) y0 y1 y2 y3 y4)) ∧ (∀ y0 y1 y2 y3 y4 y5 y6, LeO (spec_ReplyPut.l0 k y0 y1 y2 y3 y4 y5 y6) (spec_ReplyPut.l0 (k + 1) y0 y1 y2 y3 y4 y5 y6)) ∧ (∀ y0 y1 y2 y3 y4 y5 y6, LeO (spec_ReplyPut.l1 k y0 y1 y2 y3 y4 y5 y6) (spec_ReplyPut.l1 (k + 1) y0 y1 y2 y3 y4 y5 y6))
  | 0 => ⟨fun _ _ _ _ _ r h => by simp [spec_ReplyPut.f] at h, fun _ _ _ _ _ _ _ r h => by simp [spec_ReplyPut.l0] at h, fun _ _ _ _ _ _ _ r h => by simp [spec_ReplyPut.l1] at h⟩
  | k + 1 => by
    obtain ⟨ih0, ih1, ih2⟩ := spec_ReplyPut.mono_l k
    refine ⟨?_, ?_, ?_⟩
    · intro y0 y1 y2 y3 y4
      unfold spec_ReplyPut.f
      repeat' first
      | (with_reducible first | exact ih0 _ _ _ _ _ | exact ih1 _ _ _ _ _ _ _ | exact ih2 _ _ _ _ _ _ _ | exact spec_l1Bulk.mono _ _ | exact spec_l1Dec.mono _ _ | exact LeO.refl _ | exact LeO.none _ | refine LeO.ite ?_ ?_ | refine LeO.bind ?_ (fun _ => ?_))
    · intro y0 y1 y2 y3 y4 y5 y6
      unfold spec_ReplyPut.l0
      repeat' first
      | (with_reducible first | exact ih0 _ _ _ _ _ | exact ih1 _ _ _ _ _ _ _ | exact ih2 _ _ _ _ _ _ _ | exact spec_l1Bulk.mono _ _ | exact spec_l1Dec.mono _ _ | exact LeO.refl _ | exact LeO.none _ | refine LeO.ite ?_ ?_ | refine LeO.bind ?_ (fun _ => ?_))
    · intro y0 y1 y2 y3 y4 y5 y6
      unfold spec_ReplyPut.l1
      repeat' first
      | (with_reducible first | exact ih0 _ _ _ _ _ | exact ih1 _ _ _ _ _ _ _ | exact ih2 _ _ _ _ _ _ _ | exact spec_l1Bulk.mono _ _ | exact spec_l1Dec.mono _ _ | exact LeO.refl _ | exact LeO.none _ | refine LeO.ite ?_ ?_ | refine LeO.bind ?_ (fun _ => ?_))
theorem spec_ReplyPut.mono : ∀ a0 a1 a2 a3 a4 k, LeO (spec_ReplyPut.f k a0 a1 a2 a3 a4) (spec_ReplyPut.f (k + 1) a0 a1 a2 a3 a4) := by
  intro a0 a1 a2 a3 a4 k
  obtain ⟨ih0, ih1, ih2⟩ := spec_ReplyPut.mono_l k
  exact ih0 a0 a1 a2 a3 a4

/-! ### laws_toStringS: function 13 -/
def laws_toStringS.l0 : Nat → List ByteArray → List ByteArray → Int → Option (List ByteArray)
  | 0, _, _, _ => none
  | k + 1, x0, x3, x4 => if x4 < (x0.length : Int) then (if 0 ≤ x4 then (if x4 < (x3.length : Int) then (laws_toStringS.l0 k x0 (x3.set (x4 : Int).toNat (rdOf ByteArray.empty x0 x4)) (wrap64 (x4 + 1))) else (none)) else (none)) else (some x3)
def laws_toStringS.f (k : Nat) (l0 : List ByteArray) : Option (List ByteArray) := if 0 ≤ (l0.length : Int) then (if ((l0.length : Int) : Int).toNat ≤ 17592186044416 then (laws_toStringS.l0 k l0 (List.replicate ((l0.length : Int) : Int).toNat (⟨#[]⟩ : ByteArray)) 0) else (none)) else (none)
theorem laws_toStringS.mono_l : ∀ k, (∀ y0 y1 y2, LeO (laws_toStringS.l0 k y0 y1 y2) (laws_toStringS.l0 (k + 1) y0 y1 y2))
  | 0 => fun _ _ _ r h => by simp [laws_toStringS.l0] at h
  | k + 1 => by
    have ih0 := laws_toStringS.mono_l k
    · intro y0 y1 y2
      unfold laws_toStringS.l0
      repeat' first
      | (with_reducible first | exact ih0 _ _ _ | exact LeO.refl _ | exact LeO.none _ | refine LeO.ite ?_ ?_ | refine LeO.bind ?_ (fun _ => ?_))
theorem laws_toStringS.mono : ∀ a0 k, LeO (laws_toStringS.f k a0) (laws_toStringS.f (k + 1) a0) := by
  intro a0 k
  have ih0 := laws_toStringS.mono_l k
  unfold laws_toStringS.f
  repeat' first
      | (with_reducible first | exact ih0 _ _ _ | exact LeO.refl _ | exact LeO.none _ | refine LeO.ite ?_ ?_ | refine LeO.bind ?_ (fun _ => ?_))

/-! ### laws_toReplyS: function 14 -/
theorem laws_toReply.info30 : (Tryd.prog.info? 30).map (fun i => (i.zero, i.size, i.bytes)) = some (some (.agg #[(.int .i64 0), (.int .i64 0), (.string ⟨#[]⟩), (.slice none 0 0), (.slice none 0 0)]), 5, 80) := by kernel_rfl
mutual
def laws_toReplyS.l0 : Nat → List (S25) → List (S30) → Int → Option ((List (S30)))
  | 0, _, _, _ => none
  | k + 1, x0, x3, x4 => if x4 < (x0.length : Int) then (if 0 ≤ x4 then ((laws_toReply.f k ((rd_T25 x0 x4).f0) ((rd_T25 x0 x4).f1) ((rd_T25 x0 x4).f2) ((rd_T25 x0 x4).f3) ((rd_T25 x0 x4).f4)).bind fun bt131 => (if x4 < (x3.length : Int) then (laws_toReplyS.l0 k x0 (x3.set (x4 : Int).toNat (⟨bt131.1, bt131.2.1, bt131.2.2.1, bt131.2.2.2.1, bt131.2.2.2.2⟩ : S30)) (wrap64 (x4 + 1))) else (none))) else (none)) else (some x3)
def laws_toReply.f : Nat → Int → Int → ByteArray → List ByteArray → List (S25) → Option (Int × Int × ByteArray × List ByteArray × (List (S30)))
  | 0, _, _, _, _, _ => none
  | k + 1, a0_0, a0_1, a0_2, l0_3, l0_4 => (laws_toStringS.f k l0_3).bind fun t131 => ((if 0 ≤ (l0_4.length : Int) then (if ((l0_4.length : Int) : Int).toNat ≤ 3518437208883 then (laws_toReplyS.l0 k l0_4 (List.replicate ((l0_4.length : Int) : Int).toNat z30) 0) else (none)) else (none)).bind fun t134 => (some (a0_0, a0_1, a0_2, t131, t134)))
end
def laws_toReplyS.f (k : Nat) (l0 : List (S25)) : Option ((List (S30))) := if 0 ≤ (l0.length : Int) then (if ((l0.length : Int) : Int).toNat ≤ 3518437208883 then (laws_toReplyS.l0 k l0 (List.replicate ((l0.length : Int) : Int).toNat z30) 0) else (none)) else (none)
theorem laws_toReplyS.mono_l : ∀ k, (∀ y0 y1 y2, LeO (laws_toReplyS.l0 k y0 y1 y2) (laws_toReplyS.l0 (k + 1) y0 y1 y2)) ∧ (∀ y0 y1 y2 y3 y4, LeO (laws_toReply.f k y0 y1 y2 y3 y4) (laws_toReply.f (k + 1) y0 y1 y2 y3 y4))
  | 0 => ⟨fun _ _ _ r h => by simp [laws_toReplyS.l0] at h, fun _ _ _ _ _ r h => by simp [laws_toReply.f] at h⟩
  | k + 1 => by
    obtain ⟨ih0, ih1⟩ := laws_toReplyS.mono_l k
    refine ⟨?_, ?_⟩
    · intro y0 y1 y2
      unfold laws_toReplyS.l0
      repeat' first
      | (with_reducible first | exact ih0 _ _ _ | exact ih1 _ _ _ _ _ | exact laws_toStringS.mono _ _ | exact LeO.refl _ | exact LeO.none _ | refine LeO.ite ?_ ?_ | refine LeO.bind ?_ (fun _ => ?_))
    · intro y0 y1 y2 y3 y4
      unfold laws_toReply.f
      repeat' first
      | (with_reducible first | exact ih0 _ _ _ | exact ih1 _ _ _ _ _ | exact laws_toStringS.mono _ _ | exact LeO.refl _ | exact LeO.none _ | refine LeO.ite ?_ ?_ | refine LeO.bind ?_ (fun _ => ?_))
theorem laws_toReply.mono : ∀ y0 y1 y2 y3 y4 k, LeO (laws_toReply.f k y0 y1 y2 y3 y4) (laws_toReply.f (k + 1) y0 y1 y2 y3 y4) := fun y0 y1 y2 y3 y4 k => (laws_toReplyS.mono_l k).2 _ _ _ _ _

/-! ### laws_toReply: function 6 -/

/-! ### strconv_Itoa_15: function 15 -/
def strconv_Itoa_15.f (a0 : Int) : Option ByteArray := if -9223372036854775808 ≤ a0 ∧ a0 ≤ 9223372036854775807 then some ⟨(Go.Lib.itoa a0).toArray⟩ else none

/-! ### impl_bulk: function 16 -/
def impl_bulk.f (a0 : ByteArray) : Option (ByteArray) := (strconv_Itoa_15.f (a0.size : Int)).bind fun t125 => (if 1 + t125.size ≤ 9223372036854775807 then (if ((⟨#[36]⟩ : ByteArray) ++ t125).size + 2 ≤ 9223372036854775807 then (if (((⟨#[36]⟩ : ByteArray) ++ t125) ++ (⟨#[13, 10]⟩ : ByteArray)).size + a0.size ≤ 9223372036854775807 then (if ((((⟨#[36]⟩ : ByteArray) ++ t125) ++ (⟨#[13, 10]⟩ : ByteArray)) ++ a0).size + 2 ≤ 9223372036854775807 then (some (((((⟨#[36]⟩ : ByteArray) ++ t125) ++ (⟨#[13, 10]⟩ : ByteArray)) ++ a0) ++ (⟨#[13, 10]⟩ : ByteArray))) else (none)) else (none)) else (none)) else (none))

/-! ### impl_ReplyPut: function 7 -/
mutual
def impl_ReplyPut.l0 : Nat → ByteArray → List ByteArray → Int → Int → Option (ByteArray)
  | 0, _, _, _, _ => none
  | k + 1, x3, x40, x41, x42 => if x42 < x41 then (if 0 ≤ x42 then (if x42 < (x40.length : Int) then ((impl_bulk.f (rdOf ByteArray.empty x40 x42)).bind fun t131 => (if x3.size + t131.size ≤ 9223372036854775807 then (impl_ReplyPut.l0 k (x3 ++ t131) x40 x41 (wrap64 (x42 + 1))) else (none))) else (none)) else (none)) else (some x3)
def impl_ReplyPut.l1 : Nat → ByteArray → List (S30) → Int → Int → Option (ByteArray)
  | 0, _, _, _, _ => none
  | k + 1, x6, x61, x62, x63 => if x63 < x62 then (if 0 ≤ x63 then (if x63 < (x61.length : Int) then ((impl_ReplyPut.f k ((rd_T30 x61 x63).f0) ((rd_T30 x61 x63).f1) ((rd_T30 x61 x63).f2) ((rd_T30 x61 x63).f3) ((rd_T30 x61 x63).f4)).bind fun t135 => (if x6.size + t135.size ≤ 9223372036854775807 then (impl_ReplyPut.l1 k (x6 ++ t135) x61 x62 (wrap64 (x63 + 1))) else (none))) else (none)) else (none)) else (some x6)
def impl_ReplyPut.f : Nat → Int → Int → ByteArray → List ByteArray → List (S30) → Option (ByteArray)
  | 0, _, _, _, _, _ => none
  | k + 1, a0_0, a0_1, a0_2, l0_3, l0_4 => if a0_0 = 1 then (if 1 + a0_2.size ≤ 9223372036854775807 then (if ((⟨#[45]⟩ : ByteArray) ++ a0_2).size + 2 ≤ 9223372036854775807 then (some (((⟨#[45]⟩ : ByteArray) ++ a0_2) ++ (⟨#[13, 10]⟩ : ByteArray))) else (none)) else (none)) else (if a0_0 = 2 then ((strconv_Itoa_15.f a0_1).bind fun t127 => (if 1 + t127.size ≤ 9223372036854775807 then (if ((⟨#[58]⟩ : ByteArray) ++ t127).size + 2 ≤ 9223372036854775807 then (some (((⟨#[58]⟩ : ByteArray) ++ t127) ++ (⟨#[13, 10]⟩ : ByteArray))) else (none)) else (none))) else (if a0_0 = 3 then ((impl_bulk.f a0_2).bind fun t128 => (some t128)) else (if a0_0 = 4 then (some (⟨#[36, 45, 49, 13, 10]⟩ : ByteArray)) else (if a0_0 = 5 then ((strconv_Itoa_15.f (l0_3.length : Int)).bind fun t129 => (if 1 + t129.size ≤ 9223372036854775807 then (if ((⟨#[42]⟩ : ByteArray) ++ t129).size + 2 ≤ 9223372036854775807 then (impl_ReplyPut.l0 k (((⟨#[42]⟩ : ByteArray) ++ t129) ++ (⟨#[13, 10]⟩ : ByteArray)) l0_3 (l0_3.length : Int) 0) else (none)) else (none))) else (if a0_0 = 6 then ((strconv_Itoa_15.f (l0_4.length : Int)).bind fun t132 => (if 1 + t132.size ≤ 9223372036854775807 then (if ((⟨#[42]⟩ : ByteArray) ++ t132).size + 2 ≤ 9223372036854775807 then (impl_ReplyPut.l1 k (((⟨#[42]⟩ : ByteArray) ++ t132) ++ (⟨#[13, 10]⟩ : ByteArray)) l0_4 (l0_4.length : Int) 0) else (none)) else (none))) else (some (⟨#[43, 79, 75, 13, 10]⟩ : ByteArray)))))))
end
theorem impl_ReplyPut.mono_l : ∀ k, (∀ y0 y1 y2 y3 y4, LeO (impl_ReplyPut.f k y0 y1 y2 y3 y4) (impl_ReplyPut.f (k + 1) y0 y1 y2 y3 y4)) ∧ (∀ y0 y1 y2 y3, LeO (impl_ReplyPut.l0 k y0 y1 y2 y3) (impl_ReplyPut.l0 (k + 1) y0 y1 y2 y3)) ∧ (∀ y0 y1 y2 y3, LeO (impl_ReplyPut.l1 k y0 y1 y2 y3) (impl_ReplyPut.l1 (k + 1) y0 y1 y2 y3))
  | 0 => ⟨fun _ _ _ _ _ r h => by simp [impl_ReplyPut.f] at h, fun _ _ _ _ r h => by simp [impl_ReplyPut.l0] at h, fun _ _ _ _ r h => by simp [impl_ReplyPut.l1] at h⟩
  | k + 1 => by
    obtain ⟨ih0, ih1, ih2⟩ := impl_ReplyPut.mono_l k
    refine ⟨?_, ?_, ?_⟩
    · intro y0 y1 y2 y3 y4
      unfold impl_ReplyPut.f
      repeat' first
      | (with_reducible first | exact ih0 _ _ _ _ _ | exact ih1 _ _ _ _ | exact ih2 _ _ _ _ | exact LeO.refl _ | exact LeO.none _ | refine LeO.ite ?_ ?_ | refine LeO.bind ?_ (fun _ => ?_))
    · intro y0 y1 y2 y3
      unfold impl_ReplyPut.l0
      repeat' first
      | (with_reducible first | exact ih0 _ _ _ _ _ | exact ih1 _ _ _ _ | exact ih2 _ _ _ _ | exact LeO.refl _ | exact LeO.none _ | refine LeO.ite ?_ ?_ | refine LeO.bind ?_ (fun _ => ?_))
    · intro y0 y1 y2 y3
      unfold impl_ReplyPut.l1
      repeat' first
      | (with_reducible first | exact ih0 _ _ _ _ _ | exact ih1 _ _ _ _ | exact ih2 _ _ _ _ | exact LeO.refl _ | exact LeO.none _ | refine LeO.ite ?_ ?_ | refine LeO.bind ?_ (fun _ => ?_))
theorem impl_ReplyPut.mono : ∀ a0 a1 a2 a3 a4 k, LeO (impl_ReplyPut.f k a0 a1 a2 a3 a4) (impl_ReplyPut.f (k + 1) a0 a1 a2 a3 a4) := by
  intro a0 a1 a2 a3 a4 k
  obtain ⟨ih0, ih1, ih2⟩ := impl_ReplyPut.mono_l k
  exact ih0 a0 a1 a2 a3 a4

/-! ### laws_eqStringS: function 17 -/
def laws_eqStringS.l0 : Nat → List ByteArray → List ByteArray → Int → Option (Bool)
  | 0, _, _, _ => none
  | k + 1, x0, x1, x5 => if x5 < (x0.length : Int) then (if 0 ≤ x5 then (if x5 < (x1.length : Int) then (if (rdOf ByteArray.empty x0 x5).toList = (rdOf ByteArray.empty x1 x5).toList then (laws_eqStringS.l0 k x0 x1 (wrap64 (x5 + 1))) else (some false)) else (none)) else (none)) else (some true)
def laws_eqStringS.f (k : Nat) (l0 : List ByteArray) (l1 : List ByteArray) : Option (Bool) := if (l0.length : Int) = (l1.length : Int) then (laws_eqStringS.l0 k l0 l1 0) else (some false)
theorem laws_eqStringS.mono_l : ∀ k, (∀ y0 y1 y2, LeO (laws_eqStringS.l0 k y0 y1 y2) (laws_eqStringS.l0 (k + 1) y0 y1 y2))
  | 0 => fun _ _ _ r h => by simp [laws_eqStringS.l0] at h
  | k + 1 => by
    have ih0 := laws_eqStringS.mono_l k
    · intro y0 y1 y2
      unfold laws_eqStringS.l0
      repeat' first
      | (with_reducible first | exact ih0 _ _ _ | exact LeO.refl _ | exact LeO.none _ | refine LeO.ite ?_ ?_ | refine LeO.bind ?_ (fun _ => ?_))
theorem laws_eqStringS.mono : ∀ a0 a1 k, LeO (laws_eqStringS.f k a0 a1) (laws_eqStringS.f (k + 1) a0 a1) := by
  intro a0 a1 k
  have ih0 := laws_eqStringS.mono_l k
  unfold laws_eqStringS.f
  repeat' first
      | (with_reducible first | exact ih0 _ _ _ | exact LeO.refl _ | exact LeO.none _ | refine LeO.ite ?_ ?_ | refine LeO.bind ?_ (fun _ => ?_))

/-! ### laws_eqReplyS: function 18 -/
mutual
def laws_eqReplyS.l0 : Nat → List (S30) → List (S30) → Int → Option (Bool)
  | 0, _, _, _ => none
  | k + 1, x0, x1, x5 => if x5 < (x0.length : Int) then (if 0 ≤ x5 then (if x5 < (x1.length : Int) then ((laws_eqReply.f k ((rd_T30 x0 x5).f0) ((rd_T30 x0 x5).f1) ((rd_T30 x0 x5).f2) ((rd_T30 x0 x5).f3) ((rd_T30 x0 x5).f4) ((rd_T30 x1 x5).f0) ((rd_T30 x1 x5).f1) ((rd_T30 x1 x5).f2) ((rd_T30 x1 x5).f3) ((rd_T30 x1 x5).f4)).bind fun t156 => (if t156 = true then (laws_eqReplyS.l0 k x0 x1 (wrap64 (x5 + 1))) else (some false))) else (none)) else (none)) else (some true)
def laws_eqReply.f : Nat → Int → Int → ByteArray → List ByteArray → List (S30) → Int → Int → ByteArray → List ByteArray → List (S30) → Option (Bool)
  | 0, _, _, _, _, _, _, _, _, _, _ => none
  | k + 1, a0_0, a0_1, a0_2, l0_3, l0_4, a1_0, a1_1, a1_2, l1_3, l1_4 => if a0_0 = a1_0 then (if a0_1 = a1_1 then (if a0_2.toList = a1_2.toList then ((laws_eqStringS.f k l0_3 l1_3).bind fun t152 => (if t152 = true then ((if (l0_4.length : Int) = (l1_4.length : Int) then (laws_eqReplyS.l0 k l0_4 l1_4 0) else (some false)).bind fun t153 => (if t153 = true then (some true) else (some false))) else (some false))) else (some false)) else (some false)) else (some false)
end
def laws_eqReplyS.f (k : Nat) (l0 : List (S30)) (l1 : List (S30)) : Option (Bool) := if (l0.length : Int) = (l1.length : Int) then (laws_eqReplyS.l0 k l0 l1 0) else (some false)
theorem laws_eqReplyS.mono_l : ∀ k, (∀ y0 y1 y2, LeO (laws_eqReplyS.l0 k y0 y1 y2) (laws_eqReplyS.l0 (k + 1) y0 y1 y2)) ∧ (∀ y0 y1 y2 y3 y4 y5 y6 y7 y8 y9, LeO (laws_eqReply.f k y0 y1 y2 y3 y4 y5 y6 y7 y8 y9) (laws_eqReply.f (k + 1) y0 y1 y2 y3 y4 y5 y6 y7 y8 y9))
  | 0 => ⟨fun _ _ _ r h => by simp [laws_eqReplyS.l0] at h, fun _ _ _ _ _ _ _ _ _ _ r h => by simp [laws_eqReply.f] at h⟩
  | k + 1 => by
    obtain ⟨ih0, ih1⟩ := laws_eqReplyS.mono_l k
    refine ⟨?_, ?_⟩
    · intro y0 y1 y2
      unfold laws_eqReplyS.l0
      repeat' first
      | (with_reducible first | exact ih0 _ _ _ | exact ih1 _ _ _ _ _ _ _ _ _ _ | exact laws_eqStringS.mono _ _ _ | exact LeO.refl _ | exact LeO.none _ | refine LeO.ite ?_ ?_ | refine LeO.bind ?_ (fun _ => ?_))
    · intro y0 y1 y2 y3 y4 y5 y6 y7 y8 y9
      unfold laws_eqReply.f
      repeat' first
      | (with_reducible first | exact ih0 _ _ _ | exact ih1 _ _ _ _ _ _ _ _ _ _ | exact laws_eqStringS.mono _ _ _ | exact LeO.refl _ | exact LeO.none _ | refine LeO.ite ?_ ?_ | refine LeO.bind ?_ (fun _ => ?_))
theorem laws_eqReply.mono : ∀ y0 y1 y2 y3 y4 y5 y6 y7 y8 y9 k, LeO (laws_eqReply.f k y0 y1 y2 y3 y4 y5 y6 y7 y8 y9) (laws_eqReply.f (k + 1) y0 y1 y2 y3 y4 y5 y6 y7 y8 y9) := fun y0 y1 y2 y3 y4 y5 y6 y7 y8 y9 k => (laws_eqReplyS.mono_l k).2 _ _ _ _ _ _ _ _ _ _

/-! ### laws_eqReply: function 8 -/

/-! ### laws_FnExactReplyPut: function 3 -/
def laws_FnExactReplyPut.f (k : Nat) (a0_0 : Int) (a0_1 : Int) (a0_2 : ByteArray) (l0_3 : List ByteArray) (l0_4 : List (S25)) : Option (Bool) := (laws_szReply.f k a0_0 a0_1 a0_2 l0_3 l0_4 1048576).bind fun t139 => (if t139 < 0 then (some true) else ((laws_toReply.f k a0_0 a0_1 a0_2 l0_3 l0_4).bind fun bt140 => ((spec_ReplyPut.f k bt140.1 bt140.2.1 bt140.2.2.1 bt140.2.2.2.1 bt140.2.2.2.2).bind fun t149 => ((laws_toReply.f k a0_0 a0_1 a0_2 l0_3 l0_4).bind fun bt150 => ((impl_ReplyPut.f k bt150.1 bt150.2.1 bt150.2.2.1 bt150.2.2.2.1 bt150.2.2.2.2).bind fun t160 => (if t160.toList = t149.toList then ((laws_toReply.f k a0_0 a0_1 a0_2 l0_3 l0_4).bind fun bt161 => ((laws_eqReply.f k bt150.1 bt150.2.1 bt150.2.2.1 bt150.2.2.2.1 bt150.2.2.2.2 bt161.1 bt161.2.1 bt161.2.2.1 bt161.2.2.2.1 bt161.2.2.2.2).bind fun t170 => (if t170 = true then (some true) else (some false)))) else (some false)))))))
theorem laws_FnExactReplyPut.mono : ∀ a0 a1 a2 a3 a4 k, LeO (laws_FnExactReplyPut.f k a0 a1 a2 a3 a4) (laws_FnExactReplyPut.f (k + 1) a0 a1 a2 a3 a4) := by
  intro a0 a1 a2 a3 a4 k
  unfold laws_FnExactReplyPut.f
  repeat' first
      | (with_reducible first | exact impl_ReplyPut.mono _ _ _ _ _ _ | exact laws_eqReply.mono _ _ _ _ _ _ _ _ _ _ _ | exact laws_szReply.mono _ _ _ _ _ _ _ | exact laws_toReply.mono _ _ _ _ _ _ | exact spec_ReplyPut.mono _ _ _ _ _ _ | exact LeO.refl _ | exact LeO.none _ | refine LeO.ite ?_ ?_ | refine LeO.bind ?_ (fun _ => ?_))

end Go.Proofs.YthdbjegppeekoaaDoor.P
