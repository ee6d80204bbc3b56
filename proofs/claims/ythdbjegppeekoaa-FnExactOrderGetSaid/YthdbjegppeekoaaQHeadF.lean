import Derived.Test.YthdbjegppeekoaaQHeadS
/- Plain lemmas: what one, two and three figures are worth. No program in sight. -/
namespace Go.Proofs.Ythdbjegppeekoaa.Q
open Go.RowKit Go.Proofs.YthdbjegppeekoaaW.PrintWords Go.Proofs.YthdbjegppeekoaaW.PrintLast Go.Proofs.Ythdbjegppeekoaa.P

theorem cut_list (z : ByteArray) (d : Nat) : (z.extract 1 (1 + d)).data.toList = (z.data.toList.drop 1).take d := by
  rw [ByteArray.data_extract, Array.toList_extract, List.extract_eq_take_drop]
  congr 1
  omega
theorem cut_get (z : ByteArray) (i : Nat) (h : i < z.size) : z.data.toList.drop i = (z.data.toList[i]'h) :: z.data.toList.drop (i + 1) := List.drop_eq_getElem_cons h
theorem figM_one {c : UInt8} (hc : 48 ≤ (c.toNat : Int) ∧ (c.toNat : Int) ≤ 57) : figM [c] = (c.toNat : Int) - 48 := by
  have h : isD c = true := isD_iff.2 (by omega)
  have h2 : canon [c] = true := by simp [canon, h]
  have h3 : figM [c] = ((vD 0 [c] : Nat) : Int) := by
    unfold figM
    rw [if_pos h2]
  have h4 : vD 0 [c] = 0 * 10 + (c.toNat - 48) := rfl
  rw [h3, h4]
  clear h2 h3 h4 h
  generalize c.toNat = n at hc ⊢
  omega
theorem figM_two {c d : UInt8} (hc : 48 ≤ (c.toNat : Int) ∧ (c.toNat : Int) ≤ 57) (hd : 48 ≤ (d.toNat : Int) ∧ (d.toNat : Int) ≤ 57) : figM [c, d] = if (c.toNat : Int) = 48 then -1 else 10 * ((c.toNat : Int) - 48) + ((d.toNat : Int) - 48) := by
  have h : isD c = true := isD_iff.2 (by omega)
  have h' : isD d = true := isD_iff.2 (by omega)
  unfold figM
  by_cases e : (c.toNat : Int) = 48
  · have : c = 48 := UInt8.toNat_inj.1 (by show c.toNat = 48; omega)
    subst this
    simp [canon]
  · have hne : c ≠ 48 := fun z => e (by rw [z]; rfl)
    have : canon [c, d] = true := by simp [canon, h, h', hne]
    rw [if_pos this, if_neg e, show vD 0 [c, d] = (0 * 10 + (c.toNat - 48)) * 10 + (d.toNat - 48) from rfl]
    clear h h' this hne
    generalize c.toNat = n at hc e ⊢
    generalize d.toNat = n' at hd ⊢
    omega
theorem figM_three {c d e : UInt8} (hc : 48 ≤ (c.toNat : Int) ∧ (c.toNat : Int) ≤ 57) : figM [c, d, e] = -1 ∨ 100 ≤ figM [c, d, e] := by
  unfold figM
  split
  · rename_i h
    right
    have hne : c ≠ 48 := fun z => by subst z; simp [canon] at h
    have : c.toNat ≠ 48 := fun z => hne (UInt8.toNat_inj.1 (by show c.toNat = 48; exact z))
    rw [show vD 0 [c, d, e] = ((0 * 10 + (c.toNat - 48)) * 10 + (d.toNat - 48)) * 10 + (e.toNat - 48) from rfl]
    clear h hne
    generalize c.toNat = n at hc this ⊢
    generalize d.toNat - 48 = n'
    generalize e.toNat - 48 = n''
    omega
  · exact .inl rfl
theorem fig_one (z : ByteArray) (h : 2 ≤ z.size) (hd : figB z 1) : figM (z.extract 1 2).data.toList = bt z 1 - 48 := by
  have b1 := bt_at z 1 (by omega)
  rw [show ((1 : Nat) : Int) = (1 : Int) from rfl] at b1
  unfold figB at hd
  rw [b1] at hd ⊢
  rw [cut_list z 1, cut_get z 1 (by omega)]
  exact figM_one hd
theorem fig_two (z : ByteArray) (h : 3 ≤ z.size) (hd : figB z 1) (hd' : figB z 2) : figM (z.extract 1 3).data.toList = if bt z 1 = 48 then -1 else 10 * (bt z 1 - 48) + (bt z 2 - 48) := by
  have b1 := bt_at z 1 (by omega)
  have b2 := bt_at z 2 (by omega)
  rw [show ((1 : Nat) : Int) = (1 : Int) from rfl] at b1
  rw [show ((2 : Nat) : Int) = (2 : Int) from rfl] at b2
  unfold figB at hd hd'
  rw [b1] at hd ⊢
  rw [b2] at hd' ⊢
  rw [cut_list z 2, cut_get z 1 (by omega), cut_get z 2 (by omega)]
  exact figM_two hd hd'
theorem fig_three (z : ByteArray) (h : 4 ≤ z.size) (hd : figB z 1) : figM (z.extract 1 4).data.toList = -1 ∨ 100 ≤ figM (z.extract 1 4).data.toList := by
  have b1 := bt_at z 1 (by omega)
  rw [show ((1 : Nat) : Int) = (1 : Int) from rfl] at b1
  unfold figB at hd
  rw [b1] at hd
  rw [cut_list z 3, cut_get z 1 (by omega), cut_get z 2 (by omega), cut_get z 3 (by omega)]
  exact figM_three hd
end Go.Proofs.Ythdbjegppeekoaa.Q
