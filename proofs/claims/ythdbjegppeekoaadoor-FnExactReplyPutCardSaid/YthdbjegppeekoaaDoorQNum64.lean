import Derived.Test.YthdbjegppeekoaaDoorPx1
import Derived.Test.YthdbjegppeekoaaDoorQNum0
import Derived.Test.YthdbjegppeekoaaDoorQDec
/- Plain lemmas: how both sides write a number of 64 bits, and a text with its length. No program in sight. -/
namespace Go.Proofs.YthdbjegppeekoaaDoor.Q
open Go.RowKit Go.Proofs.YthdbjegppeekoaaDoorW.PrintWords Go.Proofs.YthdbjegppeekoaaDoorW.PrintLast Go.Proofs.YthdbjegppeekoaaDoor.P
open Go.Lib (decDigits itoa)

theorem zc : (⟨#[13, 10]⟩ : ByteArray).size = 2 := rfl
theorem zb (b : UInt8) : (⟨#[b]⟩ : ByteArray).size = 1 := rfl
/-- A number as it is written. -/
def dS (n : Nat) : ByteArray := ⟨(decDigits n).toArray⟩
def iS (v : Int) : ByteArray := ⟨(itoa v).toArray⟩
theorem ba_app (a b : List UInt8) : (⟨(a ++ b).toArray⟩ : ByteArray) = (⟨a.toArray⟩ : ByteArray) ++ (⟨b.toArray⟩ : ByteArray) := by
  apply ByteArray.ext
  simp
theorem dS_size (n : Nat) (h : n ≤ 9223372036854775808) : 1 ≤ (dS n).size ∧ (dS n).size ≤ 19 := by
  have h1 := dec_len 18 n (by omega)
  have h2 := List.length_pos_iff.2 (dec_facts n).2.2.1
  have e : (dS n).size = (decDigits n).length := by simp [dS, ByteArray.size]
  omega
theorem iS_size (v : Int) (h0 : -9223372036854775808 ≤ v) (h1 : v ≤ 9223372036854775807) : 1 ≤ (iS v).size ∧ (iS v).size ≤ 20 := by
  unfold iS itoa
  split
  · have := dS_size v.natAbs (by omega)
    have e : (⟨(45 :: decDigits v.natAbs).toArray⟩ : ByteArray).size = (dS v.natAbs).size + 1 := by simp [dS, ByteArray.size]
    omega
  · have := dS_size v.toNat (by omega)
    show 1 ≤ (dS v.toNat).size ∧ (dS v.toNat).size ≤ 20
    omega
theorem one_digit (m : Nat) (h : m < 10) : strOfNums (([(wrap64 (48 + (m : Int))) % 256] : List Int)) = (⟨#[UInt8.ofNat (48 + m)]⟩ : ByteArray) := by
  have all : ∀ i : Fin 10, strOfNums (([(wrap64 (48 + (i.1 : Int))) % 256] : List Int)) = (⟨#[UInt8.ofNat (48 + i.1)]⟩ : ByteArray) := by decide +kernel
  exact all ⟨m, h⟩
theorem dec_nat (n : Nat) : n ≤ 9223372036854775807 → Ev (fun k => spec_l1Dec.f k (n : Int)) (dS n) := by
  induction n using Nat.strongRecOn with
  | _ n ih =>
    intro hn
    by_cases h : n < 10
    · refine Ev.step (g := fun k => spec_l1Dec.f k _) (fun k => by rw [spec_l1Dec.f]) (neg (by omega) (neg (by omega) (pos (by omega) (ret' ?_))))
      rw [one_digit n h, dS, Go.Lib.decDigits_one h]
    · have e2 : Int.tdiv (n : Int) 10 = ((n / 10 : Nat) : Int) := by rw [Int.tdiv_eq_ediv_of_nonneg (by omega)]; omega
      have e3 : Int.tmod (n : Int) 10 = ((n % 10 : Nat) : Int) := by rw [Int.tmod_eq_emod_of_nonneg (by omega)]; omega
      have hs := dS_size (n / 10) (by omega)
      refine Ev.step (g := fun k => spec_l1Dec.f k _) (fun k => by rw [spec_l1Dec.f]) (neg (by omega) (neg (by omega) (neg (by omega) ?_)))
      rw [e2, e3, wrap_id (by omega) (by omega)]
      refine Ev.bind (ih (n / 10) (by omega) (by omega)) (Ev.bind (ret _) ?_)
      rw [one_digit (n % 10) (by omega), zb]
      refine pos (by omega) (ret' ?_)
      have e : decDigits n = decDigits (n / 10) ++ [UInt8.ofNat (48 + n % 10)] := by rw [decDigits, dif_neg h]
      rw [dS, dS, e, ba_app]
/-- The least number of all. -/
theorem dec_least : decDigits 9223372036854775808 = [57, 50, 50, 51, 51, 55, 50, 48, 51, 54, 56, 53, 52, 55, 55, 53, 56, 48, 56] := by
  have h := dec_of 18 [57, 50, 50, 51, 51, 55, 50, 48, 51, 54, 56, 53, 52, 55, 55, 53, 56, 48, 56] rfl (by decide) (fun _ => by decide)
  rw [show vD 0 [57, 50, 50, 51, 51, 55, 50, 48, 51, 54, 56, 53, 52, 55, 55, 53, 56, 48, 56] = 9223372036854775808 by decide +kernel] at h
  exact h
theorem dec_int (v : Int) (h0 : -9223372036854775808 ≤ v) (h1 : v ≤ 9223372036854775807) : Ev (fun k => spec_l1Dec.f k v) (iS v) := by
  by_cases hm : v < -9223372036854775807
  · obtain rfl : v = -9223372036854775808 := by omega
    refine Ev.step (g := fun k => spec_l1Dec.f k _) (fun k => by rw [spec_l1Dec.f]) (pos (by omega) (ret' ?_))
    rw [iS, itoa, if_pos (by omega), show (-9223372036854775808 : Int).natAbs = 9223372036854775808 from rfl, dec_least]
  by_cases h : v < 0
  · have hs := dS_size v.natAbs (by omega)
    refine Ev.step (g := fun k => spec_l1Dec.f k _) (fun k => by rw [spec_l1Dec.f]) (neg (by omega) (pos h ?_))
    rw [show wrap64 (-v) = (v.natAbs : Int) by rw [wrap_id (by omega) (by omega)]; omega]
    refine Ev.bind (dec_nat v.natAbs (by omega)) (pos (by omega) (ret' ?_))
    rw [iS, itoa, if_pos h, dS]
    exact (ba_app [45] (decDigits v.natAbs)).symm
  · have e : iS v = dS v.toNat := by rw [iS, itoa, if_neg h, dS]
    rw [e]
    have := dec_nat v.toNat (by omega)
    rwa [show ((v.toNat : Nat) : Int) = v by omega] at this
theorem itoa_int (v : Int) (h0 : -9223372036854775808 ≤ v) (h1 : v ≤ 9223372036854775807) : strconv_Itoa_15.f v = some (iS v) := by
  unfold strconv_Itoa_15.f
  rw [if_pos ⟨by omega, by omega⟩]
  rfl
theorem itoa_nat (n : Nat) (h : n ≤ 9223372036854775807) : strconv_Itoa_15.f (n : Int) = some (dS n) := by
  rw [itoa_int _ (by omega) (by omega), iS, itoa, if_neg (by omega), Int.toNat_natCast, dS]
/-- A text with its length. -/
def bR (s : ByteArray) : ByteArray := ((((⟨#[36]⟩ : ByteArray) ++ dS s.size) ++ (⟨#[13, 10]⟩ : ByteArray)) ++ s) ++ (⟨#[13, 10]⟩ : ByteArray)
theorem bR_size (s : ByteArray) (h : s.size ≤ 1048576) : (bR s).size ≤ 25 + s.size := by
  have := dS_size s.size (by omega)
  unfold bR
  simp only [ByteArray.size_append, zb, zc]
  omega
theorem impl_bulkR (s : ByteArray) (h : s.size ≤ 1048576) : Ev (fun _ => impl_bulk.f s) (bR s) := by
  have hd := dS_size s.size (by omega)
  unfold impl_bulk.f
  refine Ev.bind (val (itoa_nat s.size (by omega))) ?_
  simp only [ByteArray.size_append, zb, zc]
  exact pos (by omega) (pos (by omega) (pos (by omega) (pos (by omega) (ret _))))
theorem spec_bulkR (s : ByteArray) (h : s.size ≤ 1048576) : Ev (fun k => spec_l1Bulk.f k s) (bR s) := by
  have hd := dS_size s.size (by omega)
  unfold spec_l1Bulk.f
  refine Ev.bind (dec_nat s.size (by omega)) ?_
  simp only [ByteArray.size_append, zb, zc]
  exact pos (by omega) (pos (by omega) (pos (by omega) (pos (by omega) (ret _))))
end Go.Proofs.YthdbjegppeekoaaDoor.Q
