import Derived.Test.YtcdiokflmambiaaBdB2
/- Texts of this claim, one behind the other: printed functions and their walks, plain lemmas. -/
/- Plain lemmas: the drawing of inputs: opening a code, picking a number, picking one of some texts. -/
namespace Go.Proofs.Ytcdiokflmambiaa.Q
open Go.RowKit Go.Proofs.YtcdiokflmambiaaW.PrintWords Go.Proofs.YtcdiokflmambiaaW.PrintLast Go.Proofs.Ytcdiokflmambiaa.P

/-- A code as it is read: at most two thousand bytes. -/
def Code (l : List Int) : Prop := l.length ≤ 2000 ∧ ∀ x ∈ l, 0 ≤ x ∧ x ≤ 255
theorem xor_nonneg (x y : Int) (hx : 0 ≤ x) (hx' : x < 9223372036854775808) (hy : 0 ≤ y) (hy' : y < 9223372036854775808) : 0 ≤ Go.bits .xor .i64 x y := by
  have h1 : (BitVec.ofInt 64 x) = BitVec.ofNat 64 x.toNat := by
    apply BitVec.eq_of_toNat_eq
    rw [BitVec.toNat_ofInt, BitVec.toNat_ofNat]
    omega
  have h2 : (BitVec.ofInt 64 y) = BitVec.ofNat 64 y.toNat := by
    apply BitVec.eq_of_toNat_eq
    rw [BitVec.toNat_ofInt, BitVec.toNat_ofNat]
    omega
  have h3 : (BitVec.ofNat 64 x.toNat ^^^ BitVec.ofNat 64 y.toNat).toNat < 2 ^ 63 := by
    rw [BitVec.toNat_xor, BitVec.toNat_ofNat, BitVec.toNat_ofNat, Nat.mod_eq_of_lt (by omega), Nat.mod_eq_of_lt (by omega)]
    exact Nat.xor_lt_two_pow (by omega) (by omega)
  show 0 ≤ IntKind.i64.wrap ((BitVec.ofInt 64 x ^^^ BitVec.ofInt 64 y).toNat : Int)
  rw [h1, h2]
  generalize (BitVec.ofNat 64 x.toNat ^^^ BitVec.ofNat 64 y.toNat).toNat = m at h3
  have h4 : IntKind.i64.wrap (m : Int) = wrap64 (m : Int) := i64_w _
  rw [h4, wrap_id (by omega) (by omega)]
  omega
theorem l1Open_ev (l : List Int) (hl : l.length ≤ maxLen) (hb : ∀ x ∈ l, (Lit.int .u8 x).wf = true) : ∃ c, Ev (fun _ => spec_l1Open.f l) (c, 0) ∧ Code c := by
  unfold maxLen at hl
  have hb' : ∀ x ∈ l, 0 ≤ x ∧ x ≤ 255 := by
    intro x hx
    have := hb x hx
    simp only [Lit.wf, Bool.and_eq_true, decide_eq_true_eq] at this
    exact this
  unfold spec_l1Open.f
  by_cases h : (l.length : Int) > 2000
  · refine ⟨l.take 2000, pos h (pos (by omega) (ret _)), by simp; omega, fun x hx => hb' x (List.mem_of_mem_take hx)⟩
  · exact ⟨l, neg h (ret _), by omega, hb'⟩
theorem rd_code {l : List Int} (hl : Code l) (i : Int) (h0 : 0 ≤ i) (h1 : i < l.length) : 0 ≤ rd l i ∧ rd l i ≤ 255 := by
  obtain ⟨n, rfl⟩ := Int.eq_ofNat_of_zero_le h0
  have hn : n < l.length := by omega
  have : rd l (n : Int) = l[n] := by simp [rd, List.getD_eq_getElem?_getD, hn]
  rw [this]
  exact hl.2 _ (List.getElem_mem hn)
theorem tmod_bd (a n : Int) (ha : 0 ≤ a) (hn : 0 < n) : 0 ≤ Int.tmod a n ∧ Int.tmod a n < n := ⟨Int.tmod_nonneg _ ha, Int.tmod_lt_of_pos _ hn⟩
theorem tdiv_bd (a n : Int) (ha : 0 ≤ a) (hn : 0 < n) : 0 ≤ Int.tdiv a n ∧ Int.tdiv a n ≤ a := by
  rw [Int.tdiv_eq_ediv_of_nonneg ha]
  exact ⟨Int.ediv_nonneg ha (by omega), Int.ediv_le_self _ ha⟩
theorem pick_ev (l : List Int) (hl : Code l) (p n : Int) (h0 : 0 ≤ p) (h1 : p ≤ 1000000000) (hn : 1 ≤ n) (hn' : n ≤ 4294967296) : ∃ v, Ev (fun k => spec_l1Rd_pick.f k l p n) (v, p + 1) ∧ 0 ≤ v ∧ v < n := by
  have hlen := hl.1
  have e1 : wrap64 (p + 1) = p + 1 := wrap_id (by omega) (by omega)
  have e2 : wrap64 (p + 1 - 1) = p := by rw [wrap_id (by omega) (by omega)]; omega
  unfold spec_l1Rd_pick.f
  rw [e1]
  by_cases hz : l.length = 0
  · have e : ((l.length : Int) == 0) = true := by simp [hz]
    refine ⟨0, neg (by omega) ?_, by omega, by omega⟩
    rw [e]
    refine Ev.step (g := fun k => spec_l1Rd_pick.j0 k _ _ _ _) (fun k => by rw [spec_l1Rd_pick.j0]) ?_
    exact pos rfl (ret _)
  · have e : ((l.length : Int) == 0) = false := by simp; exact fun h => hz (by simp [h])
    rw [e]
    by_cases hlt : p < l.length
    · obtain ⟨b0, b1⟩ := rd_code hl p h0 hlt
      have e3 : wrap64 (rd l p) = rd l p := wrap_id (by omega) (by omega)
      obtain ⟨c0, c1⟩ := tmod_bd (rd l p) n b0 (by omega)
      refine ⟨Int.tmod (rd l p) n, neg (by omega) ?_, c0, c1⟩
      refine Ev.step (g := fun k => spec_l1Rd_pick.j0 k _ _ _ _) (fun k => by rw [spec_l1Rd_pick.j0]) (neg (by decide) ?_)
      rw [e2, e3]
      exact pos hlt (pos h0 (neg (by omega) (ret _)))
    · have hpos : (0 : Int) < l.length := by omega
      obtain ⟨m0, m1⟩ := tmod_bd p l.length h0 hpos
      have e7 : wrap64 (p * 7) = p * 7 := wrap_id (by omega) (by omega)
      have e73 : wrap64 (p * 7 + 3) = p * 7 + 3 := wrap_id (by omega) (by omega)
      obtain ⟨q0, q1⟩ := tmod_bd (p * 7 + 3) l.length (by omega) hpos
      obtain ⟨d0, d1⟩ := tdiv_bd p l.length h0 hpos
      obtain ⟨b0, b1⟩ := rd_code hl _ m0 m1
      obtain ⟨b2, b3⟩ := rd_code hl _ q0 q1
      generalize hA : rd l (Int.tmod p (l.length : Int)) = A at b0 b1
      generalize hB : rd l (Int.tmod (p * 7 + 3) (l.length : Int)) = B at b2 b3
      generalize hD : Int.tdiv p (l.length : Int) = D at d0 d1
      have f1 : wrap64 A = A := wrap_id (by omega) (by omega)
      have f2 : wrap64 (A * 131) = A * 131 := wrap_id (by omega) (by omega)
      have f3 : wrap64 B = B := wrap_id (by omega) (by omega)
      have f4 : wrap64 (B * 1117) = B * 1117 := wrap_id (by omega) (by omega)
      have f5 : wrap64 (A * 131 + B * 1117) = A * 131 + B * 1117 := wrap_id (by omega) (by omega)
      have f6 : wrap64 (p * 29) = p * 29 := wrap_id (by omega) (by omega)
      have f7 : wrap64 (A * 131 + B * 1117 + p * 29) = A * 131 + B * 1117 + p * 29 := wrap_id (by omega) (by omega)
      have f8 : wrap64 D = D := wrap_id (by omega) (by omega)
      have f9 : wrap64 (D * 53) = D * 53 := wrap_id (by omega) (by omega)
      have f10 : wrap64 (A * 131 + B * 1117 + p * 29 + D * 53) = A * 131 + B * 1117 + p * 29 + D * 53 := wrap_id (by omega) (by omega)
      generalize hX : A * 131 + B * 1117 + p * 29 + D * 53 = X at f10
      have x0 : 0 ≤ X := by omega
      have x1 : X ≤ 1000000000000 := by omega
      obtain ⟨y0, y1⟩ := tdiv_bd X 64 x0 (by omega)
      have f11 : wrap64 (Int.tdiv X 64) = Int.tdiv X 64 := wrap_id (by omega) (by omega)
      have z0 := xor_nonneg X (Int.tdiv X 64) x0 (by omega) y0 (by omega)
      obtain ⟨c0, c1⟩ := tmod_bd _ n z0 (by omega)
      refine ⟨_, neg (by omega) ?_, c0, c1⟩
      refine Ev.step (g := fun k => spec_l1Rd_pick.j0 k _ _ _ _) (fun k => by rw [spec_l1Rd_pick.j0]) (neg (by decide) ?_)
      rw [e2, e7, e73, hA, hB, hD, f1, f2, f3, f4, f5, f6, f7, f8, f9, hX, f10, f11]
      exact neg hlt (neg (by omega) (pos m0 (pos m1 (pos q0 (pos q1 (neg (by omega) (ret _)))))))
theorem of_ev (l : List Int) (hl : Code l) (p : Int) (t : List ByteArray) (h0 : 0 ≤ p) (h1 : p ≤ 1000000000) (ht : 0 < t.length) (ht' : t.length ≤ 1000) : ∃ s, Ev (fun k => spec_l1Rd_of.f k l p t) (s, p + 1) ∧ s ∈ t := by
  obtain ⟨v, hv, v0, v1⟩ := pick_ev l hl p t.length h0 h1 (by omega) (by omega)
  obtain ⟨n, rfl⟩ := Int.eq_ofNat_of_zero_le v0
  have hn : n < t.length := by omega
  refine ⟨t[n], ?_, List.getElem_mem hn⟩
  unfold spec_l1Rd_of.f
  refine Ev.bind hv (pos v0 (pos v1 (ret' ?_)))
  rw [rdOf_lt _ _ _ hn]
end Go.Proofs.Ytcdiokflmambiaa.Q
/- Plain lemmas: the drawing of one text. -/
namespace Go.Proofs.Ytcdiokflmambiaa.Q
open Go.RowKit Go.Proofs.YtcdiokflmambiaaW.PrintWords Go.Proofs.YtcdiokflmambiaaW.PrintLast Go.Proofs.Ytcdiokflmambiaa.P

theorem l1Many_l0 (d : Nat) : ∀ (n : Nat) (x y : ByteArray), n ≤ d → n ≤ 1000000 → y.size + x.size * n ≤ 1000000 → ∃ s, Ev (fun k => spec_l1Many.l0 k x (n : Int) y) s ∧ s.size = y.size + x.size * n := by
  induction d with
  | zero =>
    intro n x y hn _ h
    obtain rfl : n = 0 := by omega
    exact ⟨y, Ev.step (g := fun k => spec_l1Many.l0 k _ _ _) (fun k => by rw [spec_l1Many.l0]) (neg (by omega) (ret _)), by simp⟩
  | succ d ih =>
    intro n x y hn hb h
    by_cases h0 : n = 0
    · subst h0
      exact ⟨y, Ev.step (g := fun k => spec_l1Many.l0 k _ _ _) (fun k => by rw [spec_l1Many.l0]) (neg (by omega) (ret _)), by simp⟩
    · have e1 : Int.tmod (n : Int) 2 = (n : Int) % 2 := Int.tmod_eq_emod_of_nonneg (by omega)
      have e2 : Int.tdiv (n : Int) 2 = ((n / 2 : Nat) : Int) := by rw [Int.tdiv_eq_ediv_of_nonneg (by omega)]; omega
      have hx : x.size ≤ x.size * n := Nat.le_mul_of_pos_right _ (by omega)
      have sq : (x ++ x).size = x.size + x.size := ByteArray.size_append
      have hm : x.size * n = (x.size + x.size) * (n / 2) + x.size * (n % 2) := by
        have : n = 2 * (n / 2) + n % 2 := by omega
        conv => lhs; rw [this, Nat.mul_add, ← Nat.mul_assoc, Nat.mul_two]
      rcases (show n % 2 = 1 ∨ n % 2 = 0 by omega) with ho | ho
      · have sy : (y ++ x).size = y.size + x.size := ByteArray.size_append
        rw [ho, Nat.mul_one] at hm
        obtain ⟨s, hs, hz⟩ := ih (n / 2) (x ++ x) (y ++ x) (by omega) (by omega) (by rw [sq, sy]; omega)
        rw [sq, sy] at hz
        refine ⟨s, Ev.step (g := fun k => spec_l1Many.l0 k _ _ _) (fun k => by rw [spec_l1Many.l0]) (pos (by omega) ?_), by omega⟩
        rw [e1, e2, wrap_id (by omega) (by omega)]
        exact pos (by omega) (pos (by omega) (pos (by omega) hs))
      · rw [ho, Nat.mul_zero, Nat.add_zero] at hm
        obtain ⟨s, hs, hz⟩ := ih (n / 2) (x ++ x) y (by omega) (by omega) (by rw [sq]; omega)
        rw [sq] at hz
        refine ⟨s, Ev.step (g := fun k => spec_l1Many.l0 k _ _ _) (fun k => by rw [spec_l1Many.l0]) (pos (by omega) ?_), by omega⟩
        rw [e1, e2, wrap_id (by omega) (by omega)]
        exact neg (by omega) (pos (by omega) hs)
theorem l1Many_ev (x : ByteArray) (n : Nat) (h : n ≤ 1000) (hx : x.size = 1) : ∃ s, Ev (fun k => spec_l1Many.f k x (n : Int)) s ∧ s.size = n := by
  obtain ⟨s, hs, hz⟩ := l1Many_l0 n n x (⟨#[]⟩ : ByteArray) (Nat.le_refl _) (by omega) (by rw [hx]; show 0 + 1 * n ≤ _; omega)
  refine ⟨s, hs, ?_⟩
  rw [hz, hx]
  show 0 + 1 * n = n
  omega
theorem l11Text_ev (l : List Int) (hl : Code l) (p : Int) (h0 : 0 ≤ p) (h1 : p ≤ 1000000000) : ∃ s, Ev (fun k => spec_l11Text.f k l p) (s, p + 1) ∧ s.size ≤ 40 := by
  obtain ⟨m, hm, hz⟩ := l1Many_ev (⟨#[120]⟩ : ByteArray) 40 (by omega) rfl
  obtain ⟨s, hs, hmem⟩ := of_ev l hl p (([(⟨#[]⟩ : ByteArray), (⟨#[97]⟩ : ByteArray), (⟨#[98]⟩ : ByteArray), (⟨#[99]⟩ : ByteArray), (⟨#[53]⟩ : ByteArray), (⟨#[45, 51]⟩ : ByteArray), (⟨#[104, 101, 108, 108, 111]⟩ : ByteArray), (⟨#[13, 10]⟩ : ByteArray), (⟨#[255]⟩ : ByteArray), m, (⟨#[57, 57, 57, 57, 57, 57, 57, 57, 57]⟩ : ByteArray)] : List ByteArray)) h0 h1 (by simp) (by simp)
  refine ⟨s, ?_, ?_⟩
  · unfold spec_l11Text.f
    exact Ev.bind hm (Ev.bind hs (ret _))
  · simp only [List.mem_cons, List.not_mem_nil, or_false] at hmem
    rcases hmem with rfl | rfl | rfl | rfl | rfl | rfl | rfl | rfl | rfl | rfl | rfl <;> first | decide | omega
end Go.Proofs.Ytcdiokflmambiaa.Q
/- Plain lemmas: the drawing of texts, and lists of texts compared. -/
namespace Go.Proofs.Ytcdiokflmambiaa.Q
open Go.RowKit Go.Proofs.YtcdiokflmambiaaW.PrintWords Go.Proofs.YtcdiokflmambiaaW.PrintLast Go.Proofs.Ytcdiokflmambiaa.P

theorem strOfNums_one' (x : Int) : (strOfNums [x]).size = 1 := rfl
theorem l1Dec_ev (n : Nat) (h : n < 100) : ∃ s, Ev (fun k => spec_l1Dec.f k (n : Int)) s ∧ s.size ≤ 2 := by
  have small : ∀ m : Nat, m < 10 → Ev (fun k => spec_l1Dec.f k (m : Int)) (strOfNums (([(wrap64 (48 + (m : Int))) % 256] : List Int))) := fun m hm =>
    Ev.step (g := fun k => spec_l1Dec.f k _) (fun k => by rw [spec_l1Dec.f]) (neg (by omega) (neg (by omega) (pos (by omega) (ret _))))
  by_cases h10 : n < 10
  · exact ⟨_, small n h10, by rw [strOfNums_one']; omega⟩
  · have e2 : Int.tdiv (n : Int) 10 = ((n / 10 : Nat) : Int) := by rw [Int.tdiv_eq_ediv_of_nonneg (by omega)]; omega
    refine ⟨strOfNums (([(wrap64 (48 + ((n / 10 : Nat) : Int))) % 256] : List Int)) ++ strOfNums (([(wrap64 (48 + (Int.tmod (n : Int) 10))) % 256] : List Int)), Ev.step (g := fun k => spec_l1Dec.f k _) (fun k => by rw [spec_l1Dec.f]) (neg (by omega) (neg (by omega) (neg (by omega) ?_))), ?_⟩
    · rw [e2, wrap_id (by omega) (by omega)]
      refine Ev.bind (small (n / 10) (by omega)) (Ev.bind (ret _) (pos ?_ (ret _)))
      rw [strOfNums_one', strOfNums_one']
      omega
    · rw [ByteArray.size_append, strOfNums_one', strOfNums_one']
      omega
/-- Drawn texts: few, and short. -/
def Small (l : List ByteArray) (n : Nat) : Prop := l.length ≤ n ∧ ∀ s ∈ l, s.size ≤ 41
theorem Small.app {l : List ByteArray} {n : Nat} (h : Small l n) {s : ByteArray} (hs : s.size ≤ 41) : Small (l ++ [s]) (n + 1) :=
  ⟨by rw [List.length_append]; have := h.1; simp; omega, fun t ht => by
    rcases List.mem_append.1 ht with ht | ht
    · exact h.2 t ht
    · rw [List.mem_singleton.1 ht]; exact hs⟩
theorem Small.le {l : List ByteArray} {n m : Nat} (h : Small l n) (hm : n ≤ m) : Small l m := ⟨Nat.le_trans h.1 hm, h.2⟩
theorem l11Texts_l0 (c : List Int) (hc : Code c) (n : Nat) : ∀ (x : List ByteArray) (p : Int) (m : Nat), 0 ≤ p → p + n ≤ 1000000 → m + n ≤ 1000 → Small x m →
    ∃ l, Ev (fun k => spec_l11Texts.l0 k x (n : Int) c p) (l, p + n) ∧ Small l (m + n) := by
  induction n with
  | zero =>
    intro x p m h0 h1 hm hx
    exact ⟨x, Ev.step (g := fun k => spec_l11Texts.l0 k _ _ _ _) (fun k => by rw [spec_l11Texts.l0]) (neg (by omega) (ret' (by simp))), hx⟩
  | succ n ih =>
    intro x p m h0 h1 hm hx
    obtain ⟨s, hs, hz⟩ := l11Text_ev c hc p h0 (by omega)
    obtain ⟨l, hl, hS⟩ := ih (x ++ [s]) (p + 1) (m + 1) (by omega) (by omega) (by omega) (hx.app (by omega))
    have hx1 := hx.1
    refine ⟨l, Ev.step (g := fun k => spec_l11Texts.l0 k _ _ _ _) (fun k => by rw [spec_l11Texts.l0]) (pos (by omega) (Ev.bind hs ?_)), hS.le (by omega)⟩
    rw [show wrap64 (((n + 1 : Nat) : Int) - 1) = (n : Int) by rw [wrap_id (by omega) (by omega)]; omega]
    refine pos (by omega) (of_eq hl ?_)
    rw [show p + 1 + (n : Int) = p + ((n + 1 : Nat) : Int) by omega]
theorem l11Texts_ev (c : List Int) (hc : Code c) (p : Int) (n : Nat) (h0 : 0 ≤ p) (h1 : p ≤ 900000) (hn : n ≤ 900) : ∃ l q, Ev (fun k => spec_l11Texts.f k c p (n : Int)) (l, q) ∧ Small l n ∧ p ≤ q ∧ q ≤ p + 1 + n := by
  obtain ⟨v, hv, v0, v1⟩ := pick_ev c hc p ((n : Int) + 1) h0 (by omega) (by omega) (by omega)
  obtain ⟨m, rfl⟩ := Int.eq_ofNat_of_zero_le v0
  obtain ⟨l, hl, hS⟩ := l11Texts_l0 c hc m [] (p + 1) 0 (by omega) (by omega) (by omega) ⟨by simp, by simp⟩
  refine ⟨l, p + 1 + m, ?_, hS.le (by omega), by omega, by omega⟩
  unfold spec_l11Texts.f
  rw [wrap_id (by omega) (by omega)]
  exact Ev.bind hv hl
theorem l11AnyTexts_l0 (c : List Int) (hc : Code c) (d : Nat) : ∀ (x : List ByteArray) (p : Int), 0 ≤ p → p ≤ 1000000 - d → x.length + d = 17 → d ≤ 17 → Small x 17 →
    ∃ l q, Ev (fun k => spec_l11AnyTexts.l0 k x c p) (l, q) ∧ Small l 17 ∧ p ≤ q ∧ q ≤ p + d + 1 := by
  induction d with
  | zero =>
    intro x p h0 h1 hx _ hS
    obtain ⟨v, hv, v0, v1⟩ := pick_ev c hc p 2 h0 (by omega) (by omega) (by omega)
    refine ⟨x, p + 1, Ev.step (g := fun k => spec_l11AnyTexts.l0 k _ _ _) (fun k => by rw [spec_l11AnyTexts.l0]) (Ev.bind hv ?_), hS, by omega, by omega⟩
    dsimp only
    rw [wrap_id (by omega) (by omega)]
    exact neg (by omega) (ret _)
  | succ d ih =>
    intro x p h0 h1 hx _ hS
    obtain ⟨v, hv, v0, v1⟩ := pick_ev c hc p 2 h0 (by omega) (by omega) (by omega)
    by_cases hlt : (x.length : Int) < 16 + v
    · obtain ⟨s, hs, hz⟩ := l1Dec_ev x.length (by omega)
      have hz1 : ((⟨#[110]⟩ : ByteArray) ++ s).size ≤ 41 := by
        rw [ByteArray.size_append]
        show 1 + s.size ≤ 41
        omega
      obtain ⟨l, q, hl, hS', h2, h3⟩ := ih (x ++ [(⟨#[110]⟩ : ByteArray) ++ s]) (p + 1) (by omega) (by omega) (by simp; omega) (by omega) ⟨by simp; omega, (hS.app hz1).2⟩
      refine ⟨l, q, Ev.step (g := fun k => spec_l11AnyTexts.l0 k _ _ _) (fun k => by rw [spec_l11AnyTexts.l0]) (Ev.bind hv ?_), hS', by omega, by omega⟩
      dsimp only
      rw [wrap_id (by omega) (by omega)]
      exact pos hlt (Ev.bind hs (pos (by omega) (pos (by omega) hl)))
    · refine ⟨x, p + 1, Ev.step (g := fun k => spec_l11AnyTexts.l0 k _ _ _) (fun k => by rw [spec_l11AnyTexts.l0]) (Ev.bind hv ?_), hS, by omega, by omega⟩
      dsimp only
      rw [wrap_id (by omega) (by omega)]
      exact neg hlt (ret _)
theorem l11AnyTexts_ev (c : List Int) (hc : Code c) (p : Int) (h0 : 0 ≤ p) (h1 : p ≤ 100000) : ∃ l q, Ev (fun k => spec_l11AnyTexts.f k c p) (l, q) ∧ Small l 17 ∧ p ≤ q ∧ q ≤ p + 100 := by
  obtain ⟨x, p1, hx, hS, a1, a2⟩ := l11Texts_ev c hc p 6 h0 (by omega) (by omega)
  obtain ⟨v, hv, v0, v1⟩ := pick_ev c hc p1 16 (by omega) (by omega) (by omega) (by omega)
  obtain ⟨m, hm, hz⟩ := l1Many_ev (⟨#[121]⟩ : ByteArray) 41 (by omega) rfl
  have h6 := hS.1
  by_cases e0 : v = 0
  · refine ⟨x ++ [m], p1 + 1, ?_, (hS.app (by omega)).le (by omega), by omega, by omega⟩
    unfold spec_l11AnyTexts.f
    refine Ev.bind hx (Ev.bind hv (pos e0 (Ev.bind hm (pos (by dsimp only; omega) (ret _)))))
  · by_cases e1 : v = 1
    · obtain ⟨l, q, hl, hS', h2, h3⟩ := l11AnyTexts_l0 c hc (17 - x.length) x (p1 + 1) (by omega) (by omega) (by omega) (by omega) (hS.le (by omega))
      refine ⟨l, q, ?_, hS', by omega, by omega⟩
      unfold spec_l11AnyTexts.f
      exact Ev.bind hx (Ev.bind hv (neg e0 (pos e1 hl)))
    · refine ⟨x, p1 + 1, ?_, hS.le (by omega), by omega, by omega⟩
      unfold spec_l11AnyTexts.f
      exact Ev.bind hx (Ev.bind hv (neg e0 (neg e1 (ret _))))
theorem qxTexts_l0 (l l' : List ByteArray) (hl : l.length ≤ maxLen) (he : l.length = l'.length) (d : Nat) : ∀ (i : Nat), i + d = l.length → Ev (fun k => laws_qxTexts.l0 k l l' (i : Int)) (decide (l.drop i = l'.drop i)) := by
  unfold maxLen at hl
  induction d with
  | zero =>
    intro i hi
    refine Ev.step (g := fun k => laws_qxTexts.l0 k _ _ _) (fun k => by rw [laws_qxTexts.l0]) (neg (by omega) (ret' ?_))
    rw [List.drop_of_length_le (by omega), List.drop_of_length_le (by omega)]
    simp
  | succ d ih =>
    intro i hi
    have hlt : i < l.length := by omega
    have hlt' : i < l'.length := by omega
    refine Ev.step (g := fun k => laws_qxTexts.l0 k _ _ _) (fun k => by rw [laws_qxTexts.l0]) (pos (by omega) (pos (by omega) (pos (by omega) ?_)))
    rw [rdOf_lt _ _ _ hlt, rdOf_lt _ _ _ hlt', wrap_id (by omega) (by omega), List.drop_eq_getElem_cons hlt, List.drop_eq_getElem_cons hlt']
    refine both (fun h => ?_) (fun h => ret' ?_)
    · refine of_eq (ih (i + 1) (by omega)) ?_
      rw [toList_inj h]
      exact decide_eq_decide.2 (by simp only [List.cons.injEq, true_and])
    · exact (decide_eq_false (fun e => h (by rw [(List.cons.inj e).1]))).symm
theorem qxTexts_ev (l l' : List ByteArray) (hl : l.length ≤ maxLen) : Ev (fun k => laws_qxTexts.f k l l') (decide (l = l')) := by
  unfold laws_qxTexts.f
  refine both (fun h => ?_) (fun h => ret' ?_)
  · exact qxTexts_l0 l l' hl (by omega) l.length 0 (by omega)
  · have : l ≠ l' := fun e => h (by rw [e])
    simp [this]
theorem qxTexts_same (l : List ByteArray) (hl : l.length ≤ maxLen) : Ev (fun k => laws_qxTexts.f k l l) true := of_eq (qxTexts_ev l l hl) (by simp)
end Go.Proofs.Ytcdiokflmambiaa.Q
