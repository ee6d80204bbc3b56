import Derived.Test.YtegelpeegbngiaaDoorPx1
import Derived.Test.YtegelpeegbngiaaDoorQList
import Derived.Test.YtegelpeegbngiaaDoorQTextsN
import Derived.Test.YtegelpeegbngiaaDoorQNum0
/- Plain lemmas: OrderPut on both sides. -/
namespace Go.Proofs.YtegelpeegbngiaaDoor.Q
open Go.RowKit Go.Proofs.YtegelpeegbngiaaDoorW.PrintWords Go.Proofs.YtegelpeegbngiaaDoorW.PrintLast Go.Proofs.YtegelpeegbngiaaDoor.P

theorem itoa_dec (n : Nat) (h : n < 100) : strconv_Itoa_25.f (n : Int) = some (decS n) := by
  have all : ∀ i : Fin 100, decS i.1 = ⟨(if i.1 < 10 then [UInt8.ofNat (48 + i.1)] else [UInt8.ofNat (48 + i.1 / 10), UInt8.ofNat (48 + i.1 % 10)]).toArray⟩ := by decide +kernel
  unfold strconv_Itoa_25.f
  rw [if_pos ⟨by omega, by omega⟩, Int.toNat_natCast, all ⟨n, h⟩]
  by_cases h1 : n < 10
  · rw [Go.Lib.decDigits_one h1, if_pos h1]
  · rw [Go.Lib.decDigits_two h1 h, if_neg h1]
/-- A text, as orders bear it. -/
def bM (s : ByteArray) : ByteArray := ((((⟨#[36]⟩ : ByteArray) ++ decS s.size) ++ (⟨#[13, 10]⟩ : ByteArray)) ++ s) ++ (⟨#[13, 10]⟩ : ByteArray)
theorem z1 : (⟨#[36]⟩ : ByteArray).size = 1 := rfl
theorem z1' : (⟨#[42]⟩ : ByteArray).size = 1 := rfl
theorem z2 : (⟨#[13, 10]⟩ : ByteArray).size = 2 := rfl
theorem bM_size (s : ByteArray) (h : s.size ≤ 40) : (bM s).size ≤ 47 := by
  have := decS_size s.size
  unfold bM
  simp only [ByteArray.size_append, z1, z2]
  omega
theorem impl_bulk_ev (s : ByteArray) (h : s.size ≤ 40) : Ev (fun _ => impl_bulk.f s) (bM s) := by
  have hd := decS_size s.size
  unfold impl_bulk.f
  refine Ev.bind (val (itoa_dec s.size (by omega))) ?_
  simp only [ByteArray.size_append, z1, z2]
  exact pos (by omega) (pos (by omega) (pos (by omega) (pos (by omega) (ret _))))
theorem spec_l1Bulk_ev (s : ByteArray) (h : s.size ≤ 40) : Ev (fun k => spec_l1Bulk.f k s) (bM s) := by
  have hd := decS_size s.size
  unfold spec_l1Bulk.f
  refine Ev.bind (decS_ev s.size (by omega)) ?_
  simp only [ByteArray.size_append, z1, z2]
  exact pos (by omega) (pos (by omega) (pos (by omega) (pos (by omega) (ret _))))
def oM : ByteArray → List ByteArray → ByteArray
  | x, [] => x
  | x, s :: r => oM (x ++ bM s) r
theorem spec_l1Order_l0 (l : List ByteArray) (hl : l.length ≤ 8) (hs : ∀ s ∈ l, s.size ≤ 40) (d : Nat) : ∀ (i : Nat) (x : ByteArray), i + d = l.length → x.size ≤ 1000 + 100 * i → Ev (fun k => spec_l1Order.l0 k l x (i : Int)) (oM x (l.drop i)) := by
  induction d with
  | zero =>
    intro i x hi hx
    refine Ev.step (g := fun k => spec_l1Order.l0 k _ _ _) (fun k => by rw [spec_l1Order.l0]) (neg (by omega) (ret' ?_))
    rw [List.drop_of_length_le (by omega), oM]
  | succ d ih =>
    intro i x hi hx
    have hlt : i < l.length := by omega
    have h40 := hs _ (List.getElem_mem hlt)
    have hb := bM_size _ h40
    refine Ev.step (g := fun k => spec_l1Order.l0 k _ _ _) (fun k => by rw [spec_l1Order.l0]) (pos (by omega) (pos (by omega) ?_))
    rw [rdOf_lt _ _ _ hlt, wrap_id (x := (i : Int) + 1) (by omega) (by omega), List.drop_eq_getElem_cons hlt, oM]
    exact Ev.bind (spec_l1Bulk_ev _ h40) (pos (by omega) (ih (i + 1) _ (by omega) (by rw [ByteArray.size_append]; omega)))
theorem impl_OrderPut_l0 (l : List ByteArray) (hl : l.length ≤ 8) (hs : ∀ s ∈ l, s.size ≤ 40) (d : Nat) : ∀ (i : Nat) (x : ByteArray), i + d = l.length → x.size ≤ 1000 + 100 * i → Ev (fun k => impl_OrderPut.l0 k x l (l.length : Int) (i : Int)) (oM x (l.drop i)) := by
  induction d with
  | zero =>
    intro i x hi hx
    refine Ev.step (g := fun k => impl_OrderPut.l0 k _ _ _ _) (fun k => by rw [impl_OrderPut.l0]) (neg (by omega) (ret' ?_))
    rw [List.drop_of_length_le (by omega), oM]
  | succ d ih =>
    intro i x hi hx
    have hlt : i < l.length := by omega
    have h40 := hs _ (List.getElem_mem hlt)
    have hb := bM_size _ h40
    refine Ev.step (g := fun k => impl_OrderPut.l0 k _ _ _ _) (fun k => by rw [impl_OrderPut.l0]) (pos (by omega) (pos (by omega) (pos (by omega) ?_)))
    rw [rdOf_lt _ _ _ hlt, wrap_id (x := (i : Int) + 1) (by omega) (by omega), List.drop_eq_getElem_cons hlt, oM]
    exact Ev.bind (impl_bulk_ev _ h40) (pos (by omega) (ih (i + 1) _ (by omega) (by rw [ByteArray.size_append]; omega)))
/-- Texts that are an order. -/
def ordB (l : List ByteArray) : Bool := l.all (fun s => decide (s.size ≤ 40)) && inB (l.length : Int) 1 8
theorem spec_l1Args_l0 (l : List ByteArray) (hl : l.length ≤ maxLen) (d : Nat) : ∀ (i : Nat), i + d = l.length → Ev (fun k => spec_l1Args.l0 k l (i : Int)) ((l.drop i).all (fun s => decide (s.size ≤ 40)) && inB (l.length : Int) 1 8) := by
  unfold maxLen at hl
  induction d with
  | zero =>
    intro i hi
    refine Ev.step (g := fun k => spec_l1Args.l0 k _ _) (fun k => by rw [spec_l1Args.l0]) (neg (by omega) (Ev.bind (l1In_ev _ _ _) (ret' ?_)))
    rw [List.drop_of_length_le (by omega)]
    simp
  | succ d ih =>
    intro i hi
    have hlt : i < l.length := by omega
    refine Ev.step (g := fun k => spec_l1Args.l0 k _ _) (fun k => by rw [spec_l1Args.l0]) (pos (by omega) (pos (by omega) ?_))
    rw [rdOf_lt _ _ _ hlt, List.drop_eq_getElem_cons hlt, List.all_cons, wrap_id (by omega) (by omega)]
    refine both (fun h => ret' ?_) (fun h => ?_)
    · have : ¬ l[i].size ≤ 40 := by omega
      simp [this]
    · have : l[i].size ≤ 40 := by omega
      simp only [this, decide_true, Bool.true_and]
      exact ih (i + 1) (by omega)
theorem ordB_bd {l : List ByteArray} (h : ordB l = true) : 1 ≤ l.length ∧ l.length ≤ 8 ∧ ∀ s ∈ l, s.size ≤ 40 := by
  simp only [ordB, Bool.and_eq_true, List.all_eq_true, decide_eq_true_eq] at h
  have := inB_iff.1 h.2
  exact ⟨by omega, by omega, h.1⟩
def orderPutM (l : List ByteArray) : ByteArray := if ordB l = true then oM (((⟨#[42]⟩ : ByteArray) ++ decS l.length) ++ (⟨#[13, 10]⟩ : ByteArray)) l else (⟨#[]⟩ : ByteArray)
theorem spec_OrderPut_ev (l : List ByteArray) (hl : l.length ≤ maxLen) : Ev (fun k => spec_OrderPut.f k l) (orderPutM l) := by
  unfold spec_OrderPut.f orderPutM
  have hA : Ev (fun k => spec_l1Args.f k l) (ordB l) := spec_l1Args_l0 l hl l.length 0 (by omega)
  refine Ev.bind hA ?_
  cases ho : ordB l with
  | false => exact neg (by decide) (ret' (by simp))
  | true =>
    obtain ⟨h1, h8, hs⟩ := ordB_bd ho
    have hd := decS_size l.length
    refine pos rfl (Ev.bind ?_ (ret _))
    unfold spec_l1Order.f
    refine Ev.bind (decS_ev l.length (by omega)) ?_
    rw [if_pos rfl]
    refine pos (by omega) (pos (by rw [ByteArray.size_append, z1']; omega) ?_)
    exact spec_l1Order_l0 l h8 hs l.length 0 _ (by omega) (by simp only [ByteArray.size_append, z1', z2]; omega)
theorem impl_OrderPut_ev (l : List ByteArray) (hl : l.length ≤ maxLen) : Ev (fun k => impl_OrderPut.f k l) (orderPutM l) := by
  unfold impl_OrderPut.f orderPutM
  have hA : Ev (fun k => impl_isOrder.f k l) (ordB l) := by
    unfold impl_isOrder.f
    refine both (fun h => Ev.bind (textsOk_ev l hl 8) (ret' ?_)) (fun h => ret' ?_)
    · unfold textsB ordB
      congr 1
      cases hi : inB (l.length : Int) 1 8 with
      | true => have := inB_iff.1 hi; exact decide_eq_true (by omega)
      | false => have := inB_false.1 hi; exact decide_eq_false (by omega)
    · unfold ordB
      rw [inB_false.2 (by omega), Bool.and_false]
  refine Ev.bind hA ?_
  cases ho : ordB l with
  | false => exact neg (by decide) (ret' (by simp))
  | true =>
    obtain ⟨h1, h8, hs⟩ := ordB_bd ho
    have hd := decS_size l.length
    refine pos rfl (Ev.bind (val (itoa_dec l.length (by omega))) ?_)
    rw [if_pos rfl]
    refine pos (by omega) (pos (by rw [ByteArray.size_append, z1']; omega) ?_)
    exact impl_OrderPut_l0 l h8 hs l.length 0 _ (by omega) (by simp only [ByteArray.size_append, z1', z2]; omega)

end Go.Proofs.YtegelpeegbngiaaDoor.Q
