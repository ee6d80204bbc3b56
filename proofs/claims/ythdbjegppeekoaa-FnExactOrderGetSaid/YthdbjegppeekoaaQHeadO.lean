import Derived.Test.YthdbjegppeekoaaPx1
import Derived.Test.YthdbjegppeekoaaQHeadE
/- Plain lemmas: OrderGet of the program and of the reference read an order in the same way. No program in sight. -/
namespace Go.Proofs.Ythdbjegppeekoaa.Q
open Go.RowKit Go.Proofs.YthdbjegppeekoaaW.PrintWords Go.Proofs.YthdbjegppeekoaaW.PrintLast Go.Proofs.Ythdbjegppeekoaa.P

/-- So many arguments more, from a place on. -/
def ordM (x : ByteArray) : Nat → List ByteArray → Int → List ByteArray × Int
  | 0, out, a => (out, a)
  | d + 1, out, a =>
    if (headM x a 36 0 40).2.2.2 = true then ([], -1)
    else if (headM x a 36 0 40).2.2.1 = true then ([], 0)
    else if (x.size : Int) - (headM x a 36 0 40).2.1 < (headM x a 36 0 40).1 then ([], 0)
    else if (crlfM x ((headM x a 36 0 40).2.1 + (headM x a 36 0 40).1, false, false)).2.2 = true then ([], -1)
    else if (crlfM x ((headM x a 36 0 40).2.1 + (headM x a 36 0 40).1, false, false)).2.1 = true then ([], 0)
    else ordM x d (out ++ [x.extract (headM x a 36 0 40).2.1.toNat ((headM x a 36 0 40).2.1 + (headM x a 36 0 40).1).toNat]) (crlfM x ((headM x a 36 0 40).2.1 + (headM x a 36 0 40).1, false, false)).1
/-- An order. -/
def orderM (x : ByteArray) : List ByteArray × Int :=
  if (headM x 0 42 1 8).2.2.2 = true then ([], -1)
  else if (headM x 0 42 1 8).2.2.1 = true then ([], 0)
  else ordM x (headM x 0 42 1 8).1.toNat [] (headM x 0 42 1 8).2.1
theorem crlfM_bd {x : ByteArray} {s : Int × Bool × Bool} (h0 : 0 ≤ s.1) (h1 : s.1 ≤ (x.size : Int)) : 0 ≤ (crlfM x s).1 ∧ (crlfM x s).1 ≤ (x.size : Int) := byteM_bd (byteM_bd h0 h1).1 (byteM_bd h0 h1).2
theorem headM_bd {x : ByteArray} {a m lo hi : Int} (h0 : 0 ≤ a) (h1 : a ≤ (x.size : Int)) (hb : (headM x a m lo hi).2.2.2 = false) (hs : (headM x a m lo hi).2.2.1 = false) :
    0 ≤ (headM x a m lo hi).2.1 ∧ (headM x a m lo hi).2.1 ≤ (x.size : Int) ∧ lo ≤ (headM x a m lo hi).1 ∧ (headM x a m lo hi).1 ≤ hi := by
  revert hb hs
  unfold headM
  by_cases c0 : a = (x.size : Int)
  · rw [if_pos c0]
    intro _ z
    cases z
  rw [if_neg c0]
  by_cases c1 : bt x a ≠ m
  · rw [if_pos c1]
    intro z
    cases z
  rw [if_neg c1]
  by_cases c2 : a + 1 = (x.size : Int)
  · rw [if_pos c2]
    intro _ z
    cases z
  rw [if_neg c2]
  by_cases c3 : ¬ figB x (a + 1)
  · rw [if_pos c3]
    intro z
    cases z
  rw [if_neg c3]
  by_cases c4 : inB (bt x (a + 1) - 48) lo hi = false
  · rw [if_pos c4]
    intro z
    cases z
  rw [if_neg c4]
  rw [Bool.not_eq_false, inB_iff] at c4
  by_cases c5 : a + 2 = (x.size : Int)
  · rw [if_pos c5]
    intro _ z
    cases z
  rw [if_neg c5]
  by_cases c6 : ¬ figB x (a + 2)
  · rw [if_pos c6]
    intro _ _
    have h := crlfM_bd (x := x) (s := (a + 2, false, false)) (by dsimp only; omega) (by dsimp only; omega)
    exact ⟨h.1, h.2, c4.1, c4.2⟩
  rw [if_neg c6]
  by_cases c7 : bt x (a + 1) = 48
  · rw [if_pos c7]
    intro z
    cases z
  rw [if_neg c7]
  by_cases c8 : inB (10 * (bt x (a + 1) - 48) + (bt x (a + 2) - 48)) lo hi = false
  · rw [if_pos c8]
    intro z
    cases z
  rw [if_neg c8]
  rw [Bool.not_eq_false, inB_iff] at c8
  by_cases c9 : a + 3 = (x.size : Int)
  · rw [if_pos c9]
    intro _ z
    cases z
  rw [if_neg c9]
  by_cases c10 : ¬ figB x (a + 3)
  · rw [if_pos c10]
    intro _ _
    have h := crlfM_bd (x := x) (s := (a + 3, false, false)) (by dsimp only; omega) (by dsimp only; omega)
    exact ⟨h.1, h.2, c8.1, c8.2⟩
  · rw [if_neg c10]
    intro z
    cases z
theorem ordM_len (x : ByteArray) (d : Nat) : ∀ (out : List ByteArray) (a : Int), (ordM x d out a).1.length ≤ out.length + d := by
  induction d with
  | zero =>
    intro out a
    exact Nat.le_refl _
  | succ d ih =>
    intro out a
    unfold ordM
    split
    · exact Nat.zero_le _
    split
    · exact Nat.zero_le _
    split
    · exact Nat.zero_le _
    split
    · exact Nat.zero_le _
    split
    · exact Nat.zero_le _
    refine Nat.le_trans (ih _ _) ?_
    rw [List.length_append, List.length_singleton]
    omega
theorem orderM_len (x : ByteArray) : (orderM x).1.length ≤ 8 := by
  unfold orderM
  split
  · exact Nat.zero_le _
  split
  · exact Nat.zero_le _
  rename_i h1 h2
  have h := headM_bd (x := x) (a := 0) (m := 42) (lo := 1) (hi := 8) (by omega) (by omega) (Bool.not_eq_true _ ▸ h1) (Bool.not_eq_true _ ▸ h2)
  have := ordM_len x (headM x 0 42 1 8).1.toNat [] (headM x 0 42 1 8).2.1
  rw [List.length_nil] at this
  omega
/-! The program. -/
theorem ord_close (out : List ByteArray) (x : ByteArray) (a : Int) (s b : Bool) : Ev (fun k => impl_OrderGet.j3 k out x a s b) (if b = true then ([], -1) else if s = true then ([], 0) else (out, a)) := by
  refine Ev.step (g := fun k => impl_OrderGet.j3 k _ _ _ _ _) (fun k => by rw [impl_OrderGet.j3]) ?_
  cases b with
  | true => exact pos rfl (ret _)
  | false =>
    cases s with
    | true => exact neg (by decide) (pos rfl (ret _))
    | false => exact neg (by decide) (neg (by decide) (ret _))
theorem ord_shut (x y : ByteArray) (many i a : Int) (out : List ByteArray) (s b : Bool) (h : s = true ∨ b = true) : Ev (fun k => impl_OrderGet.l0 k x many out i y a s b) (if b = true then ([], -1) else if s = true then ([], 0) else (out, a)) := by
  have hj : Ev (fun k => impl_OrderGet.j1 k x many out i false y a s b) (if b = true then ([], -1) else if s = true then ([], 0) else (out, a)) :=
    Ev.step (g := fun k => impl_OrderGet.j1 k _ _ _ _ _ _ _ _ _) (fun k => by rw [impl_OrderGet.j1]) (neg (by decide) (ord_close _ _ _ _ _))
  refine Ev.step (g := fun k => impl_OrderGet.l0 k _ _ _ _ _ _ _ _) (fun k => by rw [impl_OrderGet.l0]) (both (fun _ => both (fun _ => hj) (fun h2 => ?_)) (fun _ => hj))
  obtain rfl : b = true := h.resolve_left h2
  exact hj
theorem impl_ord (x : ByteArray) (hx : x.size ≤ 1048576) (many : Int) (hm : many ≤ 8) (d : Nat) : ∀ (i a : Int) (out : List ByteArray), 0 ≤ i → i + (d : Int) = many → 0 ≤ a → a ≤ (x.size : Int) → out.length ≤ 8 - d →
    Ev (fun k => impl_OrderGet.l0 k x many out i x a false false) (ordM x d out a) := by
  have hx' : x.size ≤ 4611686018427387904 := by omega
  induction d with
  | zero =>
    intro i a out h0 h1 h2 h3 h4
    refine Ev.step (g := fun k => impl_OrderGet.l0 k _ _ _ _ _ _ _ _) (fun k => by rw [impl_OrderGet.l0]) (neg (by omega) ?_)
    exact Ev.step (g := fun k => impl_OrderGet.j1 k _ _ _ _ _ _ _ _ _) (fun k => by rw [impl_OrderGet.j1]) (neg (by decide) (ord_close _ _ _ _ _))
  | succ d ih =>
    intro i a out h0 h1 h2 h3 h4
    have hn := number_ev x hx a 36 0 40 h2 h3 (by omega)
    have hbd := headM_bd (x := x) (a := a) (m := 36) (lo := 0) (hi := 40) h2 h3
    unfold ordM
    generalize headM x a 36 0 40 = r at hn hbd
    obtain ⟨n, b, s, t⟩ := r
    dsimp only at hn hbd ⊢
    refine Ev.step (g := fun k => impl_OrderGet.l0 k _ _ _ _ _ _ _ _) (fun k => by rw [impl_OrderGet.l0]) (pos (by omega) (neg (by decide) ?_))
    refine Ev.step (g := fun k => impl_OrderGet.j1 k _ _ _ _ _ _ _ _ _) (fun k => by rw [impl_OrderGet.j1]) (pos (by rfl) (Ev.bind hn ?_))
    dsimp only
    have off : ∀ s', (s' = true) → Ev (fun k => impl_OrderGet.j2 k x many out i n s' x b s t) (if t = true then ([], -1) else if s = true then ([], 0) else (out, b)) := by
      rintro s' rfl
      exact Ev.step (g := fun k => impl_OrderGet.j2 k _ _ _ _ _ _ _ _ _ _) (fun k => by rw [impl_OrderGet.j2]) (pos rfl (ord_close _ _ _ _ _))
    cases s with
    | true =>
      refine pos rfl (of_eq (off true rfl) ?_)
      cases t <;> rfl
    | false =>
    refine neg (by decide) ?_
    cases t with
    | true => exact of_eq (off true rfl) rfl
    | false =>
    obtain ⟨h5, h6, h7, h8⟩ := hbd rfl rfl
    rw [if_neg (show ¬ false = true by decide), if_neg (show ¬ false = true by decide)]
    have e1 : wrap64 ((x.size : Int) - b) = (x.size : Int) - b := wrap_id (by omega) (by omega)
    have e2 : wrap64 (b + n) = b + n := wrap_id (by omega) (by omega)
    have e3 : wrap64 (i + 1) = i + 1 := wrap_id (by omega) (by omega)
    refine Ev.step (g := fun k => impl_OrderGet.j2 k _ _ _ _ _ _ _ _ _ _) (fun k => by rw [impl_OrderGet.j2, e1, e2, e3]) (neg (by decide) ?_)
    by_cases c : (x.size : Int) - b < n
    · rw [if_pos c]
      exact pos c (of_eq (ord_close _ _ _ _ _) rfl)
    rw [if_neg c]
    have hc := crlfM_bd (x := x) (s := (b + n, false, false)) (by dsimp only; omega) (by dsimp only; omega)
    refine neg c (pos h5 (pos (by omega) (pos (by omega) (pos (by omega) (Ev.bind (byte_ev x hx' 13 (b + n, false, false) (by dsimp only; omega) (by dsimp only; omega)) ?_)))))
    have hb := byteM_bd (x := x) (b := 13) (s := (b + n, false, false)) (by dsimp only; omega) (by dsimp only; omega)
    refine Ev.bind (byte_ev x hx' 10 (byteM x 13 (b + n, false, false)) hb.1 hb.2) ?_
    dsimp only
    rw [show byteM x 10 (byteM x 13 (b + n, false, false)) = crlfM x (b + n, false, false) from rfl]
    generalize crlfM x (b + n, false, false) = q at hc
    obtain ⟨b', s', t'⟩ := q
    dsimp only at hc ⊢
    by_cases hst : s' = true ∨ t' = true
    · refine of_eq (ord_shut _ _ _ _ _ _ _ _ hst) ?_
      cases t' with
      | true => rfl
      | false =>
        cases s' with
        | true => rfl
        | false => simp at hst
    · obtain rfl : s' = false := by cases s' <;> simp_all
      obtain rfl : t' = false := by cases t' <;> simp_all
      rw [if_neg (show ¬ false = true by decide), if_neg (show ¬ false = true by decide)]
      refine ih (i + 1) b' _ (by omega) (by omega) hc.1 hc.2 ?_
      rw [List.length_append, List.length_singleton]
      omega
theorem impl_OrderGet_ev (x : ByteArray) (hx : x.size ≤ 1048576) : Ev (fun k => impl_OrderGet.f k x) (orderM x) := by
  have hn := number_ev x hx 0 42 1 8 (by omega) (by omega) (by omega)
  have hbd := headM_bd (x := x) (a := 0) (m := 42) (lo := 1) (hi := 8) (by omega) (by omega)
  unfold orderM impl_OrderGet.f
  refine Ev.bind hn ?_
  generalize headM x 0 42 1 8 = r at hbd
  obtain ⟨n, b, s, t⟩ := r
  dsimp only at hbd ⊢
  by_cases hst : s = true ∨ t = true
  · refine of_eq (ord_shut _ _ _ _ _ _ _ _ hst) ?_
    cases t with
    | true => rfl
    | false =>
      cases s with
      | true => rfl
      | false => simp at hst
  · obtain rfl : s = false := by cases s <;> simp_all
    obtain rfl : t = false := by cases t <;> simp_all
    obtain ⟨h5, h6, h7, h8⟩ := hbd rfl rfl
    rw [if_neg (show ¬ false = true by decide), if_neg (show ¬ false = true by decide)]
    refine impl_ord x hx n h8 n.toNat 0 b [] (by omega) (by omega) h5 h6 ?_
    rw [List.length_nil]
    omega
/-! The reference. -/
theorem cut_cut (x : ByteArray) (a b : Int) (h0 : 0 ≤ a) (h1 : 0 ≤ b) : (x.extract a.toNat x.size).extract b.toNat (x.extract a.toNat x.size).size = x.extract (a + b).toNat x.size := by
  rw [ByteArray.extract_extract, ByteArray.size_extract]
  congr 1
  · omega
  · omega
theorem cut_mid (x : ByteArray) (a b : Int) (h0 : 0 ≤ a) (h1 : 0 ≤ b) (h2 : a + b ≤ (x.size : Int)) : (x.extract a.toNat x.size).extract 0 b.toNat = x.extract a.toNat (a + b).toNat := by
  rw [ByteArray.extract_extract]
  congr 1
  omega
theorem spec_ord (x : ByteArray) (hx : x.size ≤ 1048576) (many : Int) (hm : many ≤ 8) (d : Nat) : ∀ (i a : Int) (out : List ByteArray), 0 ≤ i → i + (d : Int) = many → 0 ≤ a → a ≤ (x.size : Int) → out.length ≤ 8 - d →
    Ev (fun k => spec_OrderGet.l0 k x many (x.extract a.toNat x.size) out i) (ordM x d out a) := by
  induction d with
  | zero =>
    intro i a out h0 h1 h2 h3 h4
    have e : wrap64 ((x.size : Int) - ((x.extract a.toNat x.size).size : Int)) = a := by rw [size_cut x a h2 h3]; rw [show (x.size : Int) - ((x.size : Int) - a) = a by omega]; exact wrap_id (by omega) (by omega)
    exact Ev.step (g := fun k => spec_OrderGet.l0 k _ _ _ _ _) (fun k => by rw [spec_OrderGet.l0, e]) (neg (by omega) (ret' (r := (out, a)) rfl))
  | succ d ih =>
    intro i a out h0 h1 h2 h3 h4
    have hz : (x.extract a.toNat x.size).size ≤ 1048576 := by have := size_cut x a h2 h3; omega
    have hh := l1Head_ev (x.extract a.toNat x.size) hz 36 0 40 (by omega) (by omega)
    have hcut := headM_cut x a 36 0 40 h2 h3
    have hbd := headM_bd (x := x) (a := a) (m := 36) (lo := 0) (hi := 40) h2 h3
    have hbz := headM_bd (x := x.extract a.toNat x.size) (a := 0) (m := 36) (lo := 0) (hi := 40) (by omega) (by omega)
    unfold ordM
    generalize headM x a 36 0 40 = r' at hcut hbd
    generalize headM (x.extract a.toNat x.size) 0 36 0 40 = r at hh hbz hcut
    obtain ⟨n, b, s, t⟩ := r
    dsimp only [shiftM] at hcut
    subst hcut
    dsimp only at hh hbd hbz ⊢
    refine Ev.step (g := fun k => spec_OrderGet.l0 k _ _ _ _ _) (fun k => by rw [spec_OrderGet.l0]) (pos (by omega) (Ev.bind hh ?_))
    cases t with
    | true =>
      rw [headO_bad]
      exact pos (by decide) (ret' rfl)
    | false =>
    cases s with
    | true =>
      rw [headO_short]
      exact pos (by decide) (ret' rfl)
    | false =>
    obtain ⟨g1, g2, g3, g4⟩ := hbz rfl rfl
    obtain ⟨h5, h6, h7, h8⟩ := hbd rfl rfl
    rw [headO_ok, if_neg (show ¬ false = true by decide), if_neg (show ¬ false = true by decide), cut_cut x a b h2 g1]
    dsimp only
    rw [show b + a = a + b from Int.add_comm b a] at h5 h6 ⊢
    generalize a + b = c at h5 h6
    have hsz := size_cut x c h5 h6
    have b0 := bt_cut x c n h5 h6 h7
    have b1 := bt_cut x c (n + 1) h5 h6 (by omega)
    have e1 : wrap64 (n + 1) = n + 1 := wrap_id (by omega) (by omega)
    have e2 : wrap64 (n + 2) = n + 2 := wrap_id (by omega) (by omega)
    have e3 : wrap64 (i + 1) = i + 1 := wrap_id (by omega) (by omega)
    rw [e1, b0, b1, hsz]
    refine neg (by decide) ?_
    have bad : Ev (fun k => spec_OrderGet.j1 k x many out i n (x.extract c.toNat x.size) true) ([], -1) :=
      Ev.step (g := fun k => spec_OrderGet.j1 k _ _ _ _ _ _ _) (fun k => by rw [spec_OrderGet.j1]) (pos rfl (ret _))
    have short : (x.size : Int) - c < n + 2 → Ev (fun k => spec_OrderGet.j1 k x many out i n (x.extract c.toNat x.size) false) ([], 0) := fun hs =>
      Ev.step (g := fun k => spec_OrderGet.j1 k _ _ _ _ _ _ _) (fun k => by rw [spec_OrderGet.j1, e2, hsz]) (neg (by decide) (pos hs (ret _)))
    by_cases c1 : (x.size : Int) - c < n
    · rw [if_pos c1]
      exact neg (by omega) (neg (by omega) (short (by omega)))
    rw [if_neg c1]
    by_cases c2 : c + n = (x.size : Int)
    · rw [c2, crlfM_end, if_neg (show ¬ false = true by decide), if_pos rfl]
      exact neg (by omega) (neg (by omega) (short (by omega)))
    refine pos (by omega) (pos h7 (pos (by omega) ?_))
    rw [crlfM_at c2]
    by_cases c3 : bt x (c + n) = 13
    case neg =>
      rw [if_pos c3, if_pos rfl]
      exact neg c3 bad
    rw [if_neg (show ¬ bt x (c + n) ≠ 13 from fun z => z c3)]
    refine pos c3 ?_
    by_cases c4 : c + n + 1 = (x.size : Int)
    · rw [if_pos c4, if_neg (show ¬ false = true by decide), if_pos rfl]
      exact neg (by omega) (short (by omega))
    rw [if_neg c4]
    refine pos (by omega) (pos (by omega) (pos (by omega) ?_))
    rw [show c + (n + 1) = c + n + 1 by omega]
    by_cases c5 : bt x (c + n + 1) = 10
    case neg =>
      rw [if_pos c5, if_pos rfl, show (bt x (c + n + 1) != 10) = true by simpa using c5]
      exact bad
    rw [if_neg (show ¬ bt x (c + n + 1) ≠ 10 from fun z => z c5), if_neg (show ¬ false = true by decide), if_neg (show ¬ false = true by decide), show (bt x (c + n + 1) != 10) = false by rw [c5]; rfl]
    refine Ev.step (g := fun k => spec_OrderGet.j1 k _ _ _ _ _ _ _) (fun k => by rw [spec_OrderGet.j1, e2, e3, cut_cut x c (n + 2) h5 (by omega), cut_mid x c n h5 h7 (by omega), hsz]) ?_
    refine neg (by decide) (neg (by omega) (pos h7 (pos (by omega) (pos (by omega) (pos (by omega) (pos (by omega) ?_))))))
    have := ih (i + 1) (c + n + 2) (out ++ [x.extract c.toNat (c + n).toNat]) (by omega) (by omega) (by omega) (by omega) (by rw [List.length_append, List.length_singleton]; omega)
    rw [show c + (n + 2) = c + n + 2 by omega]
    exact this
theorem spec_OrderGet_ev (x : ByteArray) (hx : x.size ≤ 1048576) : Ev (fun k => spec_OrderGet.f k x) (orderM x) := by
  have hh := l1Head_ev x hx 42 1 8 (by omega) (by omega)
  have hbd := headM_bd (x := x) (a := 0) (m := 42) (lo := 1) (hi := 8) (by omega) (by omega)
  unfold orderM spec_OrderGet.f
  refine Ev.bind hh ?_
  generalize headM x 0 42 1 8 = r at hbd
  obtain ⟨n, b, s, t⟩ := r
  dsimp only at hbd ⊢
  cases t with
  | true =>
    rw [headO_bad]
    exact pos (by decide) (ret' rfl)
  | false =>
  cases s with
  | true =>
    rw [headO_short]
    exact pos (by decide) (ret' rfl)
  | false =>
  obtain ⟨h5, h6, h7, h8⟩ := hbd rfl rfl
  rw [headO_ok, if_neg (show ¬ false = true by decide), if_neg (show ¬ false = true by decide)]
  refine neg (show ¬ (1 : Int) < 1 by decide) ?_
  refine spec_ord x hx n h8 n.toNat 0 b [] (by omega) (by omega) h5 h6 ?_
  rw [List.length_nil]
  omega
end Go.Proofs.Ythdbjegppeekoaa.Q
