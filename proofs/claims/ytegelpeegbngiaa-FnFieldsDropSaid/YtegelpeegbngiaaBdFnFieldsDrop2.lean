import Derived.Test.YtegelpeegbngiaaBdFnFieldsDrop1
/- Texts of this claim, one behind the other: printed functions and their walks, plain lemmas. -/
/- Plain lemmas: the drawing of inputs: opening a code, picking a number, picking one of some texts. -/
namespace Go.Proofs.Ytegelpeegbngiaa.Q
open Go.RowKit Go.Proofs.YtegelpeegbngiaaW.PrintWords Go.Proofs.YtegelpeegbngiaaW.PrintLast Go.Proofs.Ytegelpeegbngiaa.P

/-- A code as it is read: at most two thousand bytes. -/
def Code (l : List Int) : Prop := l.length ≤ 2000 ∧ ∀ x ∈ l, 0 ≤ x ∧ x ≤ 255
theorem xor_nonneg (x y : Int) (hx : 0 ≤ x) (hx' : x < 9223372036854775808) (hy : 0 ≤ y) (hy' : y < 9223372036854775808) : 0 ≤ Go.bits .xor .i64 x y := by
  have h1 : (BitVec.ofInt 64 x) = BitVec.ofNat 64 x.toNat := by
    apply BitVec.eq_of_toNat_eq
    rw [BitVec.toNat_ofInt, BitVec.toNat_ofNat]
    omega
  have h2 : (BitVec.ofInt 64 y) = BitVec.ofNat 64 y.toNat := by
    apply BitVec.eq_of_toNat_eq
    rw [BitVec.toNat_ofInt, BitVec.toNat_ofNat]
    omega
  have h3 : (BitVec.ofNat 64 x.toNat ^^^ BitVec.ofNat 64 y.toNat).toNat < 2 ^ 63 := by
    rw [BitVec.toNat_xor, BitVec.toNat_ofNat, BitVec.toNat_ofNat, Nat.mod_eq_of_lt (by omega), Nat.mod_eq_of_lt (by omega)]
    exact Nat.xor_lt_two_pow (by omega) (by omega)
  show 0 ≤ IntKind.i64.wrap ((BitVec.ofInt 64 x ^^^ BitVec.ofInt 64 y).toNat : Int)
  rw [h1, h2]
  generalize (BitVec.ofNat 64 x.toNat ^^^ BitVec.ofNat 64 y.toNat).toNat = m at h3
  have h4 : IntKind.i64.wrap (m : Int) = wrap64 (m : Int) := i64_w _
  rw [h4, wrap_id (by omega) (by omega)]
  omega
theorem l1Open_ev (l : List Int) (hl : l.length ≤ maxLen) (hb : ∀ x ∈ l, (Lit.int .u8 x).wf = true) : ∃ c, Ev (fun _ => spec_l1Open.f l) (c, 0) ∧ Code c := by
  unfold maxLen at hl
  have hb' : ∀ x ∈ l, 0 ≤ x ∧ x ≤ 255 := by
    intro x hx
    have := hb x hx
    simp only [Lit.wf, Bool.and_eq_true, decide_eq_true_eq] at this
    exact this
  unfold spec_l1Open.f
  by_cases h : (l.length : Int) > 2000
  · refine ⟨l.take 2000, pos h (pos (by omega) (ret _)), by simp; omega, fun x hx => hb' x (List.mem_of_mem_take hx)⟩
  · exact ⟨l, neg h (ret _), by omega, hb'⟩
theorem rd_code {l : List Int} (hl : Code l) (i : Int) (h0 : 0 ≤ i) (h1 : i < l.length) : 0 ≤ rd l i ∧ rd l i ≤ 255 := by
  obtain ⟨n, rfl⟩ := Int.eq_ofNat_of_zero_le h0
  have hn : n < l.length := by omega
  have : rd l (n : Int) = l[n] := by simp [rd, List.getD_eq_getElem?_getD, hn]
  rw [this]
  exact hl.2 _ (List.getElem_mem hn)
theorem tmod_bd (a n : Int) (ha : 0 ≤ a) (hn : 0 < n) : 0 ≤ Int.tmod a n ∧ Int.tmod a n < n := ⟨Int.tmod_nonneg _ ha, Int.tmod_lt_of_pos _ hn⟩
theorem tdiv_bd (a n : Int) (ha : 0 ≤ a) (hn : 0 < n) : 0 ≤ Int.tdiv a n ∧ Int.tdiv a n ≤ a := by
  rw [Int.tdiv_eq_ediv_of_nonneg ha]
  exact ⟨Int.ediv_nonneg ha (by omega), Int.ediv_le_self _ ha⟩
theorem pick_ev (l : List Int) (hl : Code l) (p n : Int) (h0 : 0 ≤ p) (h1 : p ≤ 1000000000) (hn : 1 ≤ n) (hn' : n ≤ 4294967296) : ∃ v, Ev (fun k => spec_l1Rd_pick.f k l p n) (v, p + 1) ∧ 0 ≤ v ∧ v < n := by
  have hlen := hl.1
  have e1 : wrap64 (p + 1) = p + 1 := wrap_id (by omega) (by omega)
  have e2 : wrap64 (p + 1 - 1) = p := by rw [wrap_id (by omega) (by omega)]; omega
  unfold spec_l1Rd_pick.f
  rw [e1]
  by_cases hz : l.length = 0
  · have e : ((l.length : Int) == 0) = true := by simp [hz]
    refine ⟨0, neg (by omega) ?_, by omega, by omega⟩
    rw [e]
    refine Ev.step (g := fun k => spec_l1Rd_pick.j0 k _ _ _ _) (fun k => by rw [spec_l1Rd_pick.j0]) ?_
    exact pos rfl (ret _)
  · have e : ((l.length : Int) == 0) = false := by simp; exact fun h => hz (by simp [h])
    rw [e]
    by_cases hlt : p < l.length
    · obtain ⟨b0, b1⟩ := rd_code hl p h0 hlt
      have e3 : wrap64 (rd l p) = rd l p := wrap_id (by omega) (by omega)
      obtain ⟨c0, c1⟩ := tmod_bd (rd l p) n b0 (by omega)
      refine ⟨Int.tmod (rd l p) n, neg (by omega) ?_, c0, c1⟩
      refine Ev.step (g := fun k => spec_l1Rd_pick.j0 k _ _ _ _) (fun k => by rw [spec_l1Rd_pick.j0]) (neg (by decide) ?_)
      rw [e2, e3]
      exact pos hlt (pos h0 (neg (by omega) (ret _)))
    · have hpos : (0 : Int) < l.length := by omega
      obtain ⟨m0, m1⟩ := tmod_bd p l.length h0 hpos
      have e7 : wrap64 (p * 7) = p * 7 := wrap_id (by omega) (by omega)
      have e73 : wrap64 (p * 7 + 3) = p * 7 + 3 := wrap_id (by omega) (by omega)
      obtain ⟨q0, q1⟩ := tmod_bd (p * 7 + 3) l.length (by omega) hpos
      obtain ⟨d0, d1⟩ := tdiv_bd p l.length h0 hpos
      obtain ⟨b0, b1⟩ := rd_code hl _ m0 m1
      obtain ⟨b2, b3⟩ := rd_code hl _ q0 q1
      generalize hA : rd l (Int.tmod p (l.length : Int)) = A at b0 b1
      generalize hB : rd l (Int.tmod (p * 7 + 3) (l.length : Int)) = B at b2 b3
      generalize hD : Int.tdiv p (l.length : Int) = D at d0 d1
      have f1 : wrap64 A = A := wrap_id (by omega) (by omega)
      have f2 : wrap64 (A * 131) = A * 131 := wrap_id (by omega) (by omega)
      have f3 : wrap64 B = B := wrap_id (by omega) (by omega)
      have f4 : wrap64 (B * 1117) = B * 1117 := wrap_id (by omega) (by omega)
      have f5 : wrap64 (A * 131 + B * 1117) = A * 131 + B * 1117 := wrap_id (by omega) (by omega)
      have f6 : wrap64 (p * 29) = p * 29 := wrap_id (by omega) (by omega)
      have f7 : wrap64 (A * 131 + B * 1117 + p * 29) = A * 131 + B * 1117 + p * 29 := wrap_id (by omega) (by omega)
      have f8 : wrap64 D = D := wrap_id (by omega) (by omega)
      have f9 : wrap64 (D * 53) = D * 53 := wrap_id (by omega) (by omega)
      have f10 : wrap64 (A * 131 + B * 1117 + p * 29 + D * 53) = A * 131 + B * 1117 + p * 29 + D * 53 := wrap_id (by omega) (by omega)
      generalize hX : A * 131 + B * 1117 + p * 29 + D * 53 = X at f10
      have x0 : 0 ≤ X := by omega
      have x1 : X ≤ 1000000000000 := by omega
      obtain ⟨y0, y1⟩ := tdiv_bd X 64 x0 (by omega)
      have f11 : wrap64 (Int.tdiv X 64) = Int.tdiv X 64 := wrap_id (by omega) (by omega)
      have z0 := xor_nonneg X (Int.tdiv X 64) x0 (by omega) y0 (by omega)
      obtain ⟨c0, c1⟩ := tmod_bd _ n z0 (by omega)
      refine ⟨_, neg (by omega) ?_, c0, c1⟩
      refine Ev.step (g := fun k => spec_l1Rd_pick.j0 k _ _ _ _) (fun k => by rw [spec_l1Rd_pick.j0]) (neg (by decide) ?_)
      rw [e2, e7, e73, hA, hB, hD, f1, f2, f3, f4, f5, f6, f7, f8, f9, hX, f10, f11]
      exact neg hlt (neg (by omega) (pos m0 (pos m1 (pos q0 (pos q1 (neg (by omega) (ret _)))))))
theorem of_ev (l : List Int) (hl : Code l) (p : Int) (t : List ByteArray) (h0 : 0 ≤ p) (h1 : p ≤ 1000000000) (ht : 0 < t.length) (ht' : t.length ≤ 1000) : ∃ s, Ev (fun k => spec_l1Rd_of.f k l p t) (s, p + 1) ∧ s ∈ t := by
  obtain ⟨v, hv, v0, v1⟩ := pick_ev l hl p t.length h0 h1 (by omega) (by omega)
  obtain ⟨n, rfl⟩ := Int.eq_ofNat_of_zero_le v0
  have hn : n < t.length := by omega
  refine ⟨t[n], ?_, List.getElem_mem hn⟩
  unfold spec_l1Rd_of.f
  refine Ev.bind hv (pos v0 (pos v1 (ret' ?_)))
  rw [rdOf_lt _ _ _ hn]
end Go.Proofs.Ytegelpeegbngiaa.Q
/- Plain lemmas: the drawing of one text. -/
namespace Go.Proofs.Ytegelpeegbngiaa.Q
open Go.RowKit Go.Proofs.YtegelpeegbngiaaW.PrintWords Go.Proofs.YtegelpeegbngiaaW.PrintLast Go.Proofs.Ytegelpeegbngiaa.P

theorem l1Many_l0 (d : Nat) : ∀ (n : Nat) (x y : ByteArray), n ≤ d → n ≤ 1000000 → y.size + x.size * n ≤ 1000000 → ∃ s, Ev (fun k => spec_l1Many.l0 k x (n : Int) y) s ∧ s.size = y.size + x.size * n := by
  induction d with
  | zero =>
    intro n x y hn _ h
    obtain rfl : n = 0 := by omega
    exact ⟨y, Ev.step (g := fun k => spec_l1Many.l0 k _ _ _) (fun k => by rw [spec_l1Many.l0]) (neg (by omega) (ret _)), by simp⟩
  | succ d ih =>
    intro n x y hn hb h
    by_cases h0 : n = 0
    · subst h0
      exact ⟨y, Ev.step (g := fun k => spec_l1Many.l0 k _ _ _) (fun k => by rw [spec_l1Many.l0]) (neg (by omega) (ret _)), by simp⟩
    · have e1 : Int.tmod (n : Int) 2 = (n : Int) % 2 := Int.tmod_eq_emod_of_nonneg (by omega)
      have e2 : Int.tdiv (n : Int) 2 = ((n / 2 : Nat) : Int) := by rw [Int.tdiv_eq_ediv_of_nonneg (by omega)]; omega
      have hx : x.size ≤ x.size * n := Nat.le_mul_of_pos_right _ (by omega)
      have sq : (x ++ x).size = x.size + x.size := ByteArray.size_append
      have hm : x.size * n = (x.size + x.size) * (n / 2) + x.size * (n % 2) := by
        have : n = 2 * (n / 2) + n % 2 := by omega
        conv => lhs; rw [this, Nat.mul_add, ← Nat.mul_assoc, Nat.mul_two]
      rcases (show n % 2 = 1 ∨ n % 2 = 0 by omega) with ho | ho
      · have sy : (y ++ x).size = y.size + x.size := ByteArray.size_append
        rw [ho, Nat.mul_one] at hm
        obtain ⟨s, hs, hz⟩ := ih (n / 2) (x ++ x) (y ++ x) (by omega) (by omega) (by rw [sq, sy]; omega)
        rw [sq, sy] at hz
        refine ⟨s, Ev.step (g := fun k => spec_l1Many.l0 k _ _ _) (fun k => by rw [spec_l1Many.l0]) (pos (by omega) ?_), by omega⟩
        rw [e1, e2, wrap_id (by omega) (by omega)]
        exact pos (by omega) (pos (by omega) (pos (by omega) hs))
      · rw [ho, Nat.mul_zero, Nat.add_zero] at hm
        obtain ⟨s, hs, hz⟩ := ih (n / 2) (x ++ x) y (by omega) (by omega) (by rw [sq]; omega)
        rw [sq] at hz
        refine ⟨s, Ev.step (g := fun k => spec_l1Many.l0 k _ _ _) (fun k => by rw [spec_l1Many.l0]) (pos (by omega) ?_), by omega⟩
        rw [e1, e2, wrap_id (by omega) (by omega)]
        exact neg (by omega) (pos (by omega) hs)
theorem l1Many_ev (x : ByteArray) (n : Nat) (h : n ≤ 1000) (hx : x.size = 1) : ∃ s, Ev (fun k => spec_l1Many.f k x (n : Int)) s ∧ s.size = n := by
  obtain ⟨s, hs, hz⟩ := l1Many_l0 n n x (⟨#[]⟩ : ByteArray) (Nat.le_refl _) (by omega) (by rw [hx]; show 0 + 1 * n ≤ _; omega)
  refine ⟨s, hs, ?_⟩
  rw [hz, hx]
  show 0 + 1 * n = n
  omega
theorem l11Text_ev (l : List Int) (hl : Code l) (p : Int) (h0 : 0 ≤ p) (h1 : p ≤ 1000000000) : ∃ s, Ev (fun k => spec_l11Text.f k l p) (s, p + 1) ∧ s.size ≤ 40 := by
  obtain ⟨m, hm, hz⟩ := l1Many_ev (⟨#[120]⟩ : ByteArray) 40 (by omega) rfl
  obtain ⟨s, hs, hmem⟩ := of_ev l hl p (([(⟨#[]⟩ : ByteArray), (⟨#[97]⟩ : ByteArray), (⟨#[98]⟩ : ByteArray), (⟨#[99]⟩ : ByteArray), (⟨#[53]⟩ : ByteArray), (⟨#[45, 51]⟩ : ByteArray), (⟨#[104, 101, 108, 108, 111]⟩ : ByteArray), (⟨#[13, 10]⟩ : ByteArray), (⟨#[255]⟩ : ByteArray), m, (⟨#[57, 57, 57, 57, 57, 57, 57, 57, 57]⟩ : ByteArray)] : List ByteArray)) h0 h1 (by simp) (by simp)
  refine ⟨s, ?_, ?_⟩
  · unfold spec_l11Text.f
    exact Ev.bind hm (Ev.bind hs (ret _))
  · simp only [List.mem_cons, List.not_mem_nil, or_false] at hmem
    rcases hmem with rfl | rfl | rfl | rfl | rfl | rfl | rfl | rfl | rfl | rfl | rfl <;> first | decide | omega
end Go.Proofs.Ytegelpeegbngiaa.Q
/- Plain lemmas: the drawn texts 'n' with a number, all different, and other than those that are drawn by themselves. -/
namespace Go.Proofs.Ytegelpeegbngiaa.Q
open Go.RowKit Go.Proofs.YtegelpeegbngiaaW.PrintWords Go.Proofs.YtegelpeegbngiaaW.PrintLast Go.Proofs.Ytegelpeegbngiaa.P

def decS (n : Nat) : ByteArray := if n < 10 then strOfNums (([(wrap64 (48 + (n : Int))) % 256] : List Int)) else strOfNums (([(wrap64 (48 + ((n / 10 : Nat) : Int))) % 256] : List Int)) ++ strOfNums (([(wrap64 (48 + (Int.tmod (n : Int) 10))) % 256] : List Int))
def nT (n : Nat) : ByteArray := (⟨#[110]⟩ : ByteArray) ++ decS n
theorem one_size (x : Int) : (strOfNums [x]).size = 1 := rfl
theorem decS_size (n : Nat) : (decS n).size ≤ 2 := by
  unfold decS
  split
  · rw [one_size]; omega
  · rw [ByteArray.size_append, one_size, one_size]; omega
theorem nT_size (n : Nat) : (nT n).size ≤ 3 := by
  have := decS_size n
  unfold nT
  rw [ByteArray.size_append]
  show 1 + (decS n).size ≤ 3
  omega
theorem decS_ev (n : Nat) (h : n < 100) : Ev (fun k => spec_l1Dec.f k (n : Int)) (decS n) := by
  have small : ∀ m : Nat, m < 10 → Ev (fun k => spec_l1Dec.f k (m : Int)) (strOfNums (([(wrap64 (48 + (m : Int))) % 256] : List Int))) := fun m hm =>
    Ev.step (g := fun k => spec_l1Dec.f k _) (fun k => by rw [spec_l1Dec.f]) (neg (by omega) (neg (by omega) (pos (by omega) (ret _))))
  unfold decS
  by_cases h10 : n < 10
  · rw [if_pos h10]; exact small n h10
  · rw [if_neg h10]
    have e2 : Int.tdiv (n : Int) 10 = ((n / 10 : Nat) : Int) := by rw [Int.tdiv_eq_ediv_of_nonneg (by omega)]; omega
    refine Ev.step (g := fun k => spec_l1Dec.f k _) (fun k => by rw [spec_l1Dec.f]) (neg (by omega) (neg (by omega) (neg (by omega) ?_)))
    rw [e2, wrap_id (by omega) (by omega)]
    refine Ev.bind (small (n / 10) (by omega)) (Ev.bind (ret _) (pos ?_ (ret _)))
    rw [one_size, one_size]
    omega
theorem nT_inj (i j : Nat) (hi : i < 17) (hj : j < 17) (hn : i ≠ j) : nT i ≠ nT j := by
  have : ∀ i : Fin 17, ∀ j : Fin 17, i ≠ j → nT i.1 ≠ nT j.1 := by decide +kernel
  exact this ⟨i, hi⟩ ⟨j, hj⟩ (fun e => hn (by injection e))
theorem nT_other : ∀ s ∈ (([(⟨#[]⟩ : ByteArray), (⟨#[97]⟩ : ByteArray), (⟨#[98]⟩ : ByteArray), (⟨#[99]⟩ : ByteArray), (⟨#[53]⟩ : ByteArray), (⟨#[45, 51]⟩ : ByteArray), (⟨#[104, 101, 108, 108, 111]⟩ : ByteArray), (⟨#[13, 10]⟩ : ByteArray), (⟨#[255]⟩ : ByteArray), (⟨#[57, 57, 57, 57, 57, 57, 57, 57, 57]⟩ : ByteArray)] : List ByteArray)), ∀ k, k < 17 → s ≠ nT k := by
  have : ∀ s ∈ (([(⟨#[]⟩ : ByteArray), (⟨#[97]⟩ : ByteArray), (⟨#[98]⟩ : ByteArray), (⟨#[99]⟩ : ByteArray), (⟨#[53]⟩ : ByteArray), (⟨#[45, 51]⟩ : ByteArray), (⟨#[104, 101, 108, 108, 111]⟩ : ByteArray), (⟨#[13, 10]⟩ : ByteArray), (⟨#[255]⟩ : ByteArray), (⟨#[57, 57, 57, 57, 57, 57, 57, 57, 57]⟩ : ByteArray)] : List ByteArray)), ∀ k : Fin 17, s ≠ nT k.1 := by decide +kernel
  exact fun s hs k hk => this s hs ⟨k, hk⟩
theorem l11TextN_ev (l : List Int) (hl : Code l) (p : Int) (h0 : 0 ≤ p) (h1 : p ≤ 1000000000) : ∃ s, Ev (fun k => spec_l11Text.f k l p) (s, p + 1) ∧ s.size ≤ 40 ∧ ∀ k, k < 17 → s ≠ nT k := by
  obtain ⟨m, hm, hz⟩ := l1Many_ev (⟨#[120]⟩ : ByteArray) 40 (by omega) rfl
  obtain ⟨s, hs, hmem⟩ := of_ev l hl p (([(⟨#[]⟩ : ByteArray), (⟨#[97]⟩ : ByteArray), (⟨#[98]⟩ : ByteArray), (⟨#[99]⟩ : ByteArray), (⟨#[53]⟩ : ByteArray), (⟨#[45, 51]⟩ : ByteArray), (⟨#[104, 101, 108, 108, 111]⟩ : ByteArray), (⟨#[13, 10]⟩ : ByteArray), (⟨#[255]⟩ : ByteArray), m, (⟨#[57, 57, 57, 57, 57, 57, 57, 57, 57]⟩ : ByteArray)] : List ByteArray)) h0 h1 (by simp) (by simp)
  refine ⟨s, ?_, ?_, ?_⟩
  · unfold spec_l11Text.f
    exact Ev.bind hm (Ev.bind hs (ret _))
  · simp only [List.mem_cons, List.not_mem_nil, or_false] at hmem
    rcases hmem with rfl | rfl | rfl | rfl | rfl | rfl | rfl | rfl | rfl | rfl | rfl <;> first | decide | omega
  · intro k hk
    by_cases e : s = m
    · intro q
      have := nT_size k
      rw [← q, e] at this
      omega
    · refine nT_other s ?_ k hk
      simp only [List.mem_cons, List.not_mem_nil, or_false] at hmem ⊢
      rcases hmem with h | h | h | h | h | h | h | h | h | h | h
      all_goals first | exact absurd h e | simp [h]
end Go.Proofs.Ytegelpeegbngiaa.Q
/- Plain lemmas: the drawing of fields; lists of fields compared. -/
namespace Go.Proofs.Ytegelpeegbngiaa.Q
open Go.RowKit Go.Proofs.YtegelpeegbngiaaW.PrintWords Go.Proofs.YtegelpeegbngiaaW.PrintLast Go.Proofs.Ytegelpeegbngiaa.P

/-- The drawn fields 'f' with a number. -/
def fT (n : Nat) : ByteArray := (⟨#[102]⟩ : ByteArray) ++ decS n
theorem fT_size (n : Nat) : (fT n).size ≤ 3 := by
  have := decS_size n
  unfold fT
  rw [ByteArray.size_append]
  show 1 + (decS n).size ≤ 3
  omega
theorem fT_inj (i j : Nat) (_hi : 10 ≤ i) (hi' : i < 27) (_hj : 10 ≤ j) (hj' : j < 27) (hn : i ≠ j) : fT i ≠ fT j := by
  have : ∀ i : Fin 27, ∀ j : Fin 27, i ≠ j → fT i.1 ≠ fT j.1 := by decide +kernel
  exact this ⟨i, hi'⟩ ⟨j, hj'⟩ (fun e => hn (by injection e))
theorem fT_other : ∀ s ∈ (([(⟨#[]⟩ : ByteArray), (⟨#[97]⟩ : ByteArray), (⟨#[98]⟩ : ByteArray), (⟨#[99]⟩ : ByteArray), (⟨#[53]⟩ : ByteArray), (⟨#[45, 51]⟩ : ByteArray), (⟨#[104, 101, 108, 108, 111]⟩ : ByteArray), (⟨#[13, 10]⟩ : ByteArray), (⟨#[255]⟩ : ByteArray), (⟨#[57, 57, 57, 57, 57, 57, 57, 57, 57]⟩ : ByteArray)] : List ByteArray)), ∀ k, k < 27 → s ≠ fT k := by
  have : ∀ s ∈ (([(⟨#[]⟩ : ByteArray), (⟨#[97]⟩ : ByteArray), (⟨#[98]⟩ : ByteArray), (⟨#[99]⟩ : ByteArray), (⟨#[53]⟩ : ByteArray), (⟨#[45, 51]⟩ : ByteArray), (⟨#[104, 101, 108, 108, 111]⟩ : ByteArray), (⟨#[13, 10]⟩ : ByteArray), (⟨#[255]⟩ : ByteArray), (⟨#[57, 57, 57, 57, 57, 57, 57, 57, 57]⟩ : ByteArray)] : List ByteArray)), ∀ k : Fin 27, s ≠ fT k.1 := by decide +kernel
  exact fun s hs k hk => this s hs ⟨k, hk⟩
theorem l11TextF_ev (l : List Int) (hl : Code l) (p : Int) (h0 : 0 ≤ p) (h1 : p ≤ 1000000000) : ∃ s, Ev (fun k => spec_l11Text.f k l p) (s, p + 1) ∧ s.size ≤ 40 ∧ ∀ k, k < 27 → s ≠ fT k := by
  obtain ⟨m, hm, hz⟩ := l1Many_ev (⟨#[120]⟩ : ByteArray) 40 (by omega) rfl
  obtain ⟨s, hs, hmem⟩ := of_ev l hl p (([(⟨#[]⟩ : ByteArray), (⟨#[97]⟩ : ByteArray), (⟨#[98]⟩ : ByteArray), (⟨#[99]⟩ : ByteArray), (⟨#[53]⟩ : ByteArray), (⟨#[45, 51]⟩ : ByteArray), (⟨#[104, 101, 108, 108, 111]⟩ : ByteArray), (⟨#[13, 10]⟩ : ByteArray), (⟨#[255]⟩ : ByteArray), m, (⟨#[57, 57, 57, 57, 57, 57, 57, 57, 57]⟩ : ByteArray)] : List ByteArray)) h0 h1 (by simp) (by simp)
  refine ⟨s, ?_, ?_, ?_⟩
  · unfold spec_l11Text.f
    exact Ev.bind hm (Ev.bind hs (ret _))
  · simp only [List.mem_cons, List.not_mem_nil, or_false] at hmem
    rcases hmem with rfl | rfl | rfl | rfl | rfl | rfl | rfl | rfl | rfl | rfl | rfl <;> first | decide | omega
  · intro k hk
    by_cases e : s = m
    · intro q
      have := fT_size k
      rw [← q, e] at this
      omega
    · refine fT_other s ?_ k hk
      simp only [List.mem_cons, List.not_mem_nil, or_false] at hmem ⊢
      rcases hmem with h | h | h | h | h | h | h | h | h | h | h
      all_goals first | exact absurd h e | simp [h]
theorem fieldsUp_of (l : List Pair) : ∀ (o : Option ByteArray), (∀ x ∈ l, x.f0.size ≤ 40 ∧ x.f1.size ≤ 40) → l.Pairwise (fun a b => lt a.f0 b.f0 = true) → (∀ y, o = some y → ∀ a ∈ l, lt y a.f0 = true) → fieldsUp o l = true := by
  induction l with
  | nil => intro o _ _ _; rfl
  | cons x r ih =>
    intro o h1 h2 h3
    rw [List.pairwise_cons] at h2
    obtain ⟨a, b⟩ := h1 x (by simp)
    simp only [fieldsUp, Bool.and_eq_true, decide_eq_true_eq]
    refine ⟨a, b, ?_, ih _ (fun y hy => h1 y (by simp [hy])) h2.2 (fun y hy z hz => ?_)⟩
    · cases o with
      | none => rfl
      | some y => exact h3 y rfl x (by simp)
    · injection hy with hy
      rw [← hy]
      exact h2.1 z hz
theorem fieldsUp_small (l : List Pair) : ∀ (o : Option ByteArray), fieldsUp o l = true → ∀ x ∈ l, x.f0.size ≤ 40 ∧ x.f1.size ≤ 40 := by
  induction l with
  | nil => intro o _ x hx; cases hx
  | cons y r ih =>
    intro o h x hx
    simp only [fieldsUp, Bool.and_eq_true, decide_eq_true_eq] at h
    rcases List.mem_cons.1 hx with rfl | hx
    · exact ⟨h.1, h.2.1⟩
    · exact ih _ h.2.2.2 x hx
theorem fieldsB_iff (l : List Pair) : fieldsB l = true ↔ (∀ x ∈ l, x.f0.size ≤ 40 ∧ x.f1.size ≤ 40) ∧ l.Pairwise (fun a b => lt a.f0 b.f0 = true) ∧ l.length ≤ 16 :=
  ⟨fun h => ⟨fieldsUp_small l none (fieldsB_up h), fieldsB_pw h, fieldsB_len h⟩, fun ⟨h1, h2, h3⟩ => by
    simp only [fieldsB, Bool.and_eq_true, decide_eq_true_eq]
    exact ⟨fieldsUp_of l none h1 h2 (fun y hy => by cases hy), by omega⟩⟩
theorem fieldsPutM_ok {l : List Pair} (p : Pair) (h : fieldsB l = true) : fieldsB (fieldsPutM l p).1 = true := by
  unfold fieldsPutM
  rw [if_pos h]
  split
  · assumption
  · exact h
theorem fieldsPutM_mem {l : List Pair} {p y : Pair} (h : y ∈ (fieldsPutM l p).1) : y = p ∨ y ∈ l := by
  unfold fieldsPutM at h
  split at h
  · split at h
    · exact mem_insF h
    · exact .inr h
  · simp at h
theorem insF_new (p : Pair) (l : List Pair) (h : ∀ x ∈ l, x.f0 ≠ p.f0) : (insF p l).length = l.length + 1 := by
  induction l with
  | nil => rfl
  | cons x r ih =>
    rw [insF]
    split
    · simp [ih (fun y hy => h y (by simp [hy]))]
    · split
      · rename_i he
        exact absurd (toList_inj (by simpa using he)) (h x (by simp))
      · rfl
/-- Fields drawn so far: ok, and none with one of those numbers on. -/
def FreeF (l : List Pair) (j : Nat) : Prop := fieldsB l = true ∧ ∀ x ∈ l, ∀ k, j ≤ k → k < 27 → x.f0 ≠ fT k
theorem l11AnyFields_l0 (c : List Int) (p : Int) (d : Nat) : ∀ (x : List Pair) (j : Nat), x.length + d = 16 → 10 ≤ j → j + d ≤ 26 → FreeF x j → ∃ l, Ev (fun k => spec_l11AnyFields.l0 k x (j : Int) c p) (l, p) ∧ l.length ≤ 16 := by
  induction d with
  | zero =>
    intro x j hx _ _ hF
    exact ⟨x, Ev.step (g := fun k => spec_l11AnyFields.l0 k _ _ _ _) (fun k => by rw [spec_l11AnyFields.l0]) (neg (by omega) (ret _)), by omega⟩
  | succ d ih =>
    intro x j hx h10 hj hF
    have hnew := insF_new ⟨fT j, ⟨#[]⟩⟩ x (fun y hy => hF.2 y hy j (Nat.le_refl _) (by omega))
    obtain ⟨s1, s2, s3⟩ := (fieldsB_iff x).1 hF.1
    have hz := fT_size j
    have hok : fieldsB (insF ⟨fT j, ⟨#[]⟩⟩ x) = true := (fieldsB_iff _).2 ⟨fun y hy => by
      rcases mem_insF hy with rfl | hy
      · exact ⟨by show (fT j).size ≤ 40; omega, by show (0 : Nat) ≤ 40; omega⟩
      · exact s1 y hy, insF_up s2, by omega⟩
    have e : (fieldsPutM x ⟨fT j, ⟨#[]⟩⟩).1 = insF ⟨fT j, ⟨#[]⟩⟩ x := by
      unfold fieldsPutM
      rw [if_pos hF.1, if_pos hok]
    have hP := spec_FieldsPut_ev x (by unfold maxLen; omega) ⟨fT j, ⟨#[]⟩⟩
    obtain ⟨l, hl, hS⟩ := ih (insF ⟨fT j, ⟨#[]⟩⟩ x) (j + 1) (by omega) (by omega) (by omega) ⟨hok, fun y hy k hk hk' => by
      rcases mem_insF hy with rfl | hy
      · exact fT_inj j k h10 (by omega) (by omega) hk' (by omega)
      · exact hF.2 y hy k (by omega) hk'⟩
    refine ⟨l, Ev.step (g := fun k => spec_l11AnyFields.l0 k _ _ _ _) (fun k => by rw [spec_l11AnyFields.l0]) (pos (by omega) ?_), hS⟩
    have hd := decS_size j
    refine Ev.bind (decS_ev j (by omega)) (pos (by omega) (Ev.bind hP ?_))
    rw [e, wrap_id (by omega) (by omega)]
    exact hl
theorem l11Fields_l0 (c : List Int) (hc : Code c) (n : Nat) : ∀ (x : List Pair) (p : Int), 0 ≤ p → p + 2 * n ≤ 10000 → x.length + n ≤ 6 → FreeF x 10 →
    ∃ l q, Ev (fun k => spec_l11Fields.l0 k x (n : Int) c p) (l, q) ∧ FreeF l 10 ∧ l.length ≤ 6 ∧ p ≤ q ∧ q ≤ p + 2 * n := by
  induction n with
  | zero =>
    intro x p h0 h1 hx hF
    exact ⟨x, p, Ev.step (g := fun k => spec_l11Fields.l0 k _ _ _ _) (fun k => by rw [spec_l11Fields.l0]) (neg (by omega) (ret _)), hF, by omega, by omega, by omega⟩
  | succ n ih =>
    intro x p h0 h1 hx hF
    obtain ⟨s, hs, hz, hn⟩ := l11TextF_ev c hc p h0 (by omega)
    obtain ⟨t, ht, hz2, _⟩ := l11TextF_ev c hc (p + 1) (by omega) (by omega)
    have hlen := fieldsPutM_len x ⟨s, t⟩
    obtain ⟨l, q, hl, hS, h6, q0, q1⟩ := ih (fieldsPutM x ⟨s, t⟩).1 (p + 1 + 1) (by omega) (by omega) (by omega) ⟨fieldsPutM_ok _ hF.1, fun y hy k hk hk' => by
      rcases fieldsPutM_mem hy with rfl | hy
      · exact hn k hk'
      · exact hF.2 y hy k hk hk'⟩
    refine ⟨l, q, Ev.step (g := fun k => spec_l11Fields.l0 k _ _ _ _) (fun k => by rw [spec_l11Fields.l0]) (pos (by omega) ?_), hS, h6, by omega, by omega⟩
    refine Ev.bind hs (Ev.bind ht ?_)
    refine Ev.bind (spec_FieldsPut_ev x (by unfold maxLen; omega) ⟨s, t⟩) ?_
    rw [show wrap64 (((n + 1 : Nat) : Int) - 1) = (n : Int) by rw [wrap_id (by omega) (by omega)]; omega]
    exact hl
theorem l11AnyFields_ev (c : List Int) (hc : Code c) (p : Int) (h0 : 0 ≤ p) (h1 : p ≤ 1000) : ∃ l q, Ev (fun k => spec_l11AnyFields.f k c p) (l, q) ∧ l.length ≤ 16 ∧ p ≤ q ∧ q ≤ p + 30 := by
  obtain ⟨v, hv, v0, v1⟩ := pick_ev c hc p 5 h0 (by omega) (by omega) (by omega)
  obtain ⟨n, rfl⟩ := Int.eq_ofNat_of_zero_le v0
  have hnil : fieldsB ([] : List Pair) = true := by decide
  obtain ⟨l, q, hl, hS, h6, q0, q1⟩ := l11Fields_l0 c hc n [] (p + 1) (by omega) (by omega) (by simp; omega) ⟨hnil, by simp⟩
  have hL : Ev (fun k => spec_l11Fields.f k c p) (l, q) := by
    unfold spec_l11Fields.f
    exact Ev.bind hv hl
  obtain ⟨u, hu, u0, u1⟩ := pick_ev c hc q 12 (by omega) (by omega) (by omega) (by omega)
  obtain ⟨s, hs, z⟩ := l11Text_ev c hc (q + 1) (by omega) (by omega)
  unfold spec_l11AnyFields.f
  by_cases e : u = 0
  · refine ⟨l ++ [⟨s, ⟨#[]⟩⟩], q + 1 + 1, Ev.bind hL (Ev.bind hu (pos e ?_)), by simp; omega, by omega, by omega⟩
    exact Ev.bind hs (pos (by dsimp only; omega) (ret _))
  · by_cases e1 : u = 1
    · obtain ⟨m, hm, h16⟩ := l11AnyFields_l0 c (q + 1) (16 - l.length) l 10 (by omega) (by omega) (by omega) hS
      exact ⟨m, q + 1, Ev.bind hL (Ev.bind hu (neg e (pos e1 hm))), h16, by omega, by omega⟩
    · exact ⟨l, q + 1, Ev.bind hL (Ev.bind hu (neg e (neg e1 (ret _)))), by omega, by omega, by omega⟩
theorem DrawFieldsDrop_ev (l : List Int) (hl : l.length ≤ maxLen) (hb : ∀ x ∈ l, (Lit.int .u8 x).wf = true) : ∃ m t, Ev (fun k => spec_DrawFieldsDrop.f k l) (m, t) ∧ m.length ≤ 16 := by
  obtain ⟨c, hc, hC⟩ := l1Open_ev l hl hb
  obtain ⟨m, p, hm, h16, a1, a2⟩ := l11AnyFields_ev c hC 0 (by omega) (by omega)
  obtain ⟨s, hs, z⟩ := l11Text_ev c hC p (by omega) (by omega)
  refine ⟨m, s, ?_, h16⟩
  unfold spec_DrawFieldsDrop.f
  exact Ev.bind hc (Ev.bind hm (Ev.bind hs (ret _)))
theorem DrawFieldsPut_ev (l : List Int) (hl : l.length ≤ maxLen) (hb : ∀ x ∈ l, (Lit.int .u8 x).wf = true) : ∃ m a b, Ev (fun k => spec_DrawFieldsPut.f k l) (m, a, b) ∧ m.length ≤ 16 := by
  obtain ⟨c, hc, hC⟩ := l1Open_ev l hl hb
  obtain ⟨m, p, hm, h16, a1, a2⟩ := l11AnyFields_ev c hC 0 (by omega) (by omega)
  obtain ⟨s1, hs1, z1⟩ := l11Text_ev c hC p (by omega) (by omega)
  obtain ⟨s2, hs2, z2⟩ := l11Text_ev c hC (p + 1) (by omega) (by omega)
  obtain ⟨y, hy, hz⟩ := l1Many_ev (⟨#[121]⟩ : ByteArray) 41 (by omega) rfl
  obtain ⟨a, ha, _⟩ := of_ev c hC (p + 1 + 1) ([s1, s2, y] : List ByteArray) (by omega) (by omega) (by simp) (by simp)
  obtain ⟨b, hb', z3⟩ := l11Text_ev c hC (p + 1 + 1 + 1) (by omega) (by omega)
  refine ⟨m, a, b, ?_, h16⟩
  unfold spec_DrawFieldsPut.f
  exact Ev.bind hc (Ev.bind hm (Ev.bind hs1 (Ev.bind hs2 (Ev.bind hy (Ev.bind ha (Ev.bind hb' (ret _)))))))
theorem qxFields_l0 (l : List Pair) (hl : l.length ≤ maxLen) (d : Nat) : ∀ (i : Nat), i + d = l.length → Ev (fun k => laws_qxFields.l0 k l l (i : Int)) true := by
  unfold maxLen at hl
  induction d with
  | zero =>
    intro i hi
    exact Ev.step (g := fun k => laws_qxFields.l0 k _ _ _) (fun k => by rw [laws_qxFields.l0]) (neg (by omega) (ret _))
  | succ d ih =>
    intro i hi
    refine Ev.step (g := fun k => laws_qxFields.l0 k _ _ _) (fun k => by rw [laws_qxFields.l0]) (pos (by omega) (pos (by omega) (pos (by omega) (neg (by simp) ?_))))
    rw [wrap_id (by omega) (by omega)]
    exact ih (i + 1) (by omega)
theorem qxFields_same (l : List Pair) (hl : l.length ≤ maxLen) : Ev (fun k => laws_qxFields.f k l l) true := by
  unfold laws_qxFields.f
  exact pos rfl (qxFields_l0 l hl l.length 0 (by omega))
end Go.Proofs.Ytegelpeegbngiaa.Q
/- Plain law: of drawn fields and one's name, FieldsDrop and FieldsGet of the program are those of the reference; a field that was taken away has no text, and put again it is there as it was. -/
namespace Go.Proofs.Ytegelpeegbngiaa.Q
open Go.RowKit Go.Proofs.YtegelpeegbngiaaW.PrintWords Go.Proofs.YtegelpeegbngiaaW.PrintLast Go.Proofs.Ytegelpeegbngiaa.P

/-- Taken away, and put again. -/
theorem put_back (p : Pair) (l : List Pair) : ∀ (i : Nat), l.Pairwise (fun a b => lt a.f0 b.f0 = true) → (atP p.f0 l i).2 = true → l[(atP p.f0 l i).1 - i]? = some p →
    insF p (l.eraseIdx ((atP p.f0 l i).1 - i)) = l ∧ (atP p.f0 (l.eraseIdx ((atP p.f0 l i).1 - i)) i).2 = false := by
  induction l with
  | nil => intro i _ h; simp [atP] at h
  | cons x r ih =>
    intro i hp h hg
    rw [List.pairwise_cons] at hp
    have hb := (atP_bd p.f0 r (i + 1)).1
    by_cases hx : lt x.f0 p.f0 = true
    · have e : atP p.f0 (x :: r) i = atP p.f0 r (i + 1) := by rw [atP, if_pos hx]
      rw [e] at h hg ⊢
      have e2 : (atP p.f0 r (i + 1)).1 - i = ((atP p.f0 r (i + 1)).1 - (i + 1)) + 1 := by omega
      rw [e2] at hg ⊢
      rw [List.getElem?_cons_succ] at hg
      obtain ⟨a, b⟩ := ih (i + 1) hp.2 h hg
      rw [List.eraseIdx_cons_succ, insF, if_pos hx, a, atP, if_pos hx]
      exact ⟨rfl, b⟩
    · have e : atP p.f0 (x :: r) i = (i, x.f0.toList == p.f0.toList) := by rw [atP, if_neg hx]
      rw [e] at h hg ⊢
      simp only [Nat.sub_self] at hg ⊢
      rw [List.getElem?_cons_zero] at hg
      injection hg with hg
      subst hg
      rw [List.eraseIdx_cons_zero]
      cases r with
      | nil => exact ⟨rfl, rfl⟩
      | cons y r =>
        have hy := hp.1 y (by simp)
        have hy2 : lt y.f0 x.f0 = false := lt_asymm hy
        have hy3 : (y.f0.toList == x.f0.toList) = false := by
          rw [beq_eq_false_iff_ne]
          exact fun q => lt_ne hy (toList_inj q).symm
        rw [insF, atP, hy2, hy3]
        simp
theorem FnFieldsDrop_pure (l : List Int) (hl : l.length ≤ maxLen) (hb : ∀ x ∈ l, (Lit.int .u8 x).wf = true) : ∃ k, laws_FnFieldsDrop.f k l = some true := by
  refine exists_of (r := true) ?_
  unfold laws_FnFieldsDrop.f
  refine both (fun _ => ret _) (fun _ => ?_)
  obtain ⟨m, t, hD, h16⟩ := DrawFieldsDrop_ev l hl hb
  have hm : m.length ≤ maxLen := by unfold maxLen; omega
  have hI := impl_FieldsDrop_ev m hm t
  have hW := spec_FieldsDrop_ev m hm t
  have hG := impl_FieldsGet_ev m hm t
  have hH := spec_FieldsGet_ev m hm t
  have hlen := fieldsDropM_len m t
  have hX := qxFields_same (fieldsDropM m t).1 (by unfold maxLen; omega)
  have hX2 := qxFields_same m hm
  have hK2 := spec_FieldsOk_ev m hm
  refine Ev.bind hD (Ev.bind hI (Ev.bind hW (Ev.bind hG (Ev.bind hH (neg (by simp) (Ev.bind hX (pos rfl (pos rfl (neg (by simp) (Ev.bind hK2 ?_))))))))))
  refine Ev.step (g := fun k => laws_FnFieldsDrop.j0 k _ _ _ _ _ _ _ _ _ _ _) (fun k => by rw [laws_FnFieldsDrop.j0]) ?_
  dsimp only
  cases hF : fieldsB m with
  | false => exact pos rfl (pos (by simp) (Ev.bind hX (pos rfl (pos rfl (ret' (by simp))))))
  | true =>
    refine neg (by decide) ?_
    obtain ⟨s1, s2, s3⟩ := (fieldsB_iff m).1 hF
    obtain ⟨_, a2, a3⟩ := atP_bd t m 0
    cases hA : (atP t m 0).2 with
    | false =>
      have e1 : fieldsDropM m t = (m, false) := by unfold fieldsDropM; rw [if_pos hF, if_neg (by rw [hA]; decide)]
      have e2 : (fieldsGetM m t).2 = false := by unfold fieldsGetM; rw [if_neg (by rw [hA]; simp)]
      rw [e1, e2]
      exact neg (by simp) (neg (by simp) (Ev.bind hX2 (ret _)))
    | true =>
      have hlt := a3 hA
      rw [Nat.zero_add] at hlt
      have e1 : fieldsDropM m t = (m.eraseIdx (atP t m 0).1, true) := by unfold fieldsDropM; rw [if_pos hF, if_pos hA]
      have e2 : fieldsGetM m t = (m[(atP t m 0).1].f1, true) := by unfold fieldsGetM; rw [if_pos ⟨hF, hA⟩, rdPair_lt _ _ hlt]
      have hf0 : m[(atP t m 0).1].f0 = t := by
        have := at_same t m 0 hA (by rw [Nat.sub_zero]; exact hlt)
        simpa using this
      obtain ⟨p, hp⟩ : ∃ p, m[(atP t m 0).1] = p := ⟨_, rfl⟩
      rw [hp] at e2 hf0
      rw [e1, e2]
      subst hf0
      have hpb := put_back p m 0 s2 hA (by rw [Nat.sub_zero, List.getElem?_eq_getElem hlt, hp])
      rw [Nat.sub_zero] at hpb
      obtain ⟨b1, b2⟩ := hpb
      generalize hE : m.eraseIdx (atP p.f0 m 0).1 = x at b1 b2 ⊢
      have hxl : x.length ≤ m.length := by rw [← hE]; exact List.length_eraseIdx_le _ _
      have hsub : x.Sublist m := by rw [← hE]; exact List.eraseIdx_sublist _ _
      have hFx : fieldsB x = true := (fieldsB_iff x).2 ⟨fun y hy => s1 y (hsub.subset hy), s2.sublist hsub, by omega⟩
      have g1 := impl_FieldsGet_ev x (by omega) p.f0
      have p1 := impl_FieldsPut_ev x (by omega) p
      have e3 : (fieldsGetM x p.f0).2 = false := by unfold fieldsGetM; rw [if_neg (by rw [b2]; simp)]
      have e4 : fieldsPutM x p = (m, true, true) := by unfold fieldsPutM; rw [if_pos hFx, b1, if_pos hF, b2]; rfl
      rw [e4] at p1
      refine pos rfl (Ev.bind g1 (Ev.bind p1 (pos rfl (neg (by rw [e3]; decide) (pos rfl (pos rfl (Ev.bind hX2 (ret _))))))))
end Go.Proofs.Ytegelpeegbngiaa.Q
