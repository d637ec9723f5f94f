/- FnStops: the law of runs with stops holds for all bytes. No condition. -/
import Derived.Test.YtflefblmaopaiaaPFnStopsx16
namespace Go.Proofs.Ytflefblmaopaiaa.Pure
open Go.RowKit Go.Proofs.Ytflefblmaopaiaa.PFnStops Go.Proofs.YtflefblmaopaiaaW.PrintWords Go.Proofs.YtflefblmaopaiaaW.PrintLast

set_option linter.unusedVariables false
set_option linter.unusedSimpArgs false

theorem w64 {x : Int} (h : -9223372036854775808 ≤ x ∧ x ≤ 9223372036854775807) : wrap64 x = x := by
  unfold wrap64; omega
theorem someF {p : Prop} [Decidable p] (h : ¬ p) : some false = some (decide p) := by rw [decide_eq_false h]
theorem someD {q p : Prop} [Decidable q] [Decidable p] (h : q ↔ p) : some (decide q) = some (decide p) := by rw [decide_eq_decide.2 h]

theorem in_eq (a b c : Int) : spec_l1In.f a b c = some (decide (b ≤ a ∧ a ≤ c)) := by
  unfold spec_l1In.f
  by_cases h : a ≥ b
  · rw [if_pos h]; congr 1; simp [show b ≤ a from h]
  · rw [if_neg h]; congr 1; simp; omega

theorem fill_step {α : Type} (l : List α) (z : α) (i : Nat) (h : i < l.length) :
    (l.take i ++ List.replicate (l.length - i) z).set i (l[i]'h) = l.take (i + 1) ++ List.replicate (l.length - (i + 1)) z := by
  have hl : (l.take i).length = i := by rw [List.length_take]; omega
  rw [List.set_append_right _ _ (by omega), hl, Nat.sub_self, show l.length - i = (l.length - (i + 1)) + 1 by omega, List.replicate_succ, List.set_cons_zero, List.take_succ_eq_append_getElem h, List.append_assoc]
  rfl
theorem fill_length {α : Type} (l : List α) (z : α) (i : Nat) (h : i ≤ l.length) : (l.take i ++ List.replicate (l.length - i) z).length = l.length := by
  simp; omega

theorem rd_get (l : List Int) (i : Nat) (h : i < l.length) : rd l (i : Int) = l[i] := by
  unfold rd; rw [Int.toNat_natCast, List.getD_eq_getElem?_getD, List.getElem?_eq_getElem h]; rfl

/-- what is drawn out of bytes is always there -/
theorem tmod_range (x n : Int) (hx : 0 ≤ x) (hn : 1 ≤ n) : 0 ≤ Int.tmod x n ∧ Int.tmod x n < n := by
  rw [Int.tmod_eq_emod_of_nonneg hx]
  exact ⟨Int.emod_nonneg _ (by omega), Int.emod_lt_of_pos _ (by omega)⟩
theorem u64_range (x : Int) : 0 ≤ IntKind.u64.wrap x ∧ IntKind.u64.wrap x < 18446744073709551616 := by
  simp only [IntKind.wrap, IntKind.bits, IntKind.signed, Bool.false_and, Bool.false_eq_true, if_false]
  exact ⟨Int.emod_nonneg _ (by decide), Int.emod_lt_of_pos _ (by decide)⟩
theorem u64_keeps (n : Int) (h0 : 0 ≤ n) (h1 : n < 2 ^ 64) : IntKind.u64.wrap n = n := by
  simp only [IntKind.wrap, IntKind.bits, IntKind.signed, Bool.false_and, Bool.false_eq_true, if_false]
  exact Int.emod_eq_of_lt h0 h1
theorem low_byte (x : Int) : ∃ v, wrap64 (Go.bits .and .u64 ((IntKind.u64.wrap x) / 1099511627776) 255) = v ∧ 0 ≤ v ∧ v ≤ 255 := by
  obtain ⟨h0, h1⟩ := u64_range x
  have hd0 : 0 ≤ IntKind.u64.wrap x / 1099511627776 := by omega
  have hd1 : IntKind.u64.wrap x / 1099511627776 < 2 ^ 64 := by omega
  have e := bits_mask .u64 64 (by decide) (fun n a b => u64_keeps n a b) 8 (by decide) _ hd0 hd1
  rw [show (255 : Int) = 2 ^ 8 - 1 by decide, e]
  generalize IntKind.u64.wrap x / 1099511627776 = y at hd0 hd1
  have : 0 ≤ y % 2 ^ 8 ∧ y % 2 ^ 8 ≤ 255 := by omega
  exact ⟨_, w64 (by omega), this.1, this.2⟩
def Bytes (l : List Int) : Prop := l.length ≤ 1048576 ∧ ∀ x ∈ l, 0 ≤ x ∧ x ≤ 255
theorem next_ok (l : List Int) (hl : Bytes l) (a s : Int) (ha : 0 ≤ a ∧ a ≤ 1000000) : ∃ v s', spec_l1Cur_next.f l a s = some (v, a + 1, s') ∧ 0 ≤ v ∧ v ≤ 255 := by
  have wa : wrap64 (a + 1) = a + 1 := w64 (by omega)
  unfold spec_l1Cur_next.f
  rw [wa]
  clear wa
  by_cases h : a < (l.length : Int)
  · obtain ⟨n, rfl⟩ : ∃ n : Nat, a = n := ⟨a.toNat, by omega⟩
    have hn : n < l.length := by omega
    rw [if_pos h, if_pos ha.1]
    have hb := hl.2 _ (List.getElem_mem hn)
    by_cases h2 : (n : Int) + 1 ≤ (l.length : Int)
    · rw [if_pos h2]
      refine ⟨_, _, rfl, ?_⟩
      rw [rd_get l n hn, w64 (by omega)]
      exact hb
    · omega
  · rw [if_neg h]
    by_cases h2 : a + 1 ≤ (l.length : Int)
    · rw [if_pos h2]
      exact ⟨_, _, rfl, by omega, by omega⟩
    · rw [if_neg h2]
      obtain ⟨v, e, h0, h1⟩ := low_byte (IntKind.u64.wrap (IntKind.u64.wrap (s * 6364136223846793005)) + 1442695040888963407)
      exact ⟨v, IntKind.u64.wrap (IntKind.u64.wrap (IntKind.u64.wrap (s * 6364136223846793005)) + 1442695040888963407), by rw [e], h0, h1⟩
theorem pick_ok (l : List Int) (hl : Bytes l) (a s : Int) (ha : 0 ≤ a ∧ a ≤ 900000) (n : Int) :
    ∃ v a' s', spec_l1Cur_pick.f l a s n = some (v, a', s') ∧ 0 ≤ v ∧ (1 ≤ n → v < n) ∧ a ≤ a' ∧ a' ≤ a + 2 := by
  unfold spec_l1Cur_pick.f
  by_cases h : n ≤ 1
  · rw [if_pos h]
    exact ⟨0, a, s, rfl, by omega, by omega, by omega, by omega⟩
  · rw [if_neg h]
    obtain ⟨v, s1, e1, h0, h1⟩ := next_ok l hl a s (by omega)
    rw [e1]
    simp only [Option.bind_some]
    by_cases h2 : n > 200
    · obtain ⟨u, s2, e2, g0, g1⟩ := next_ok l hl (a + 1) s1 (by omega)
      rw [if_pos h2, e2]
      simp only [Option.bind_some]
      rw [if_neg (by omega), w64 (x := v * 256) (by omega), w64 (by omega)]
      have r := tmod_range (v * 256 + u) n (by omega) (by omega)
      exact ⟨_, _, _, rfl, r.1, fun _ => r.2, by omega, by omega⟩
    · rw [if_neg h2, if_neg (by omega)]
      have r := tmod_range v n h0 (by omega)
      exact ⟨_, _, _, rfl, r.1, fun _ => r.2, by omega, by omega⟩
theorem one_ok (l : List Int) (hl : Bytes l) (a s : Int) (ha : 0 ≤ a ∧ a ≤ 900000) (n : Int) :
    ∃ v a' s', spec_l1Cur_one.f l a s n = some (v, a', s') ∧ a ≤ a' ∧ a' ≤ a + 2 := by
  obtain ⟨v, a', s', e, _, _, h1, h2⟩ := pick_ok l hl a s ha n
  unfold spec_l1Cur_one.f
  rw [e]
  exact ⟨_, _, _, rfl, h1, h2⟩
theorem among_ok (l : List Int) (hl : Bytes l) (a s : Int) (ha : 0 ≤ a ∧ a ≤ 900000) (xs : List Int) (hx : 1 ≤ xs.length) :
    ∃ v a' s', spec_l1Cur_among.f l a s xs = some (v, a', s') ∧ a ≤ a' ∧ a' ≤ a + 2 := by
  obtain ⟨v, a', s', e, h0, h1, h2, h3⟩ := pick_ok l hl a s ha (xs.length : Int)
  unfold spec_l1Cur_among.f
  rw [e]
  simp only [Option.bind_some]
  rw [if_pos h0, if_pos (h1 (by omega))]
  exact ⟨_, _, _, rfl, h2, h3⟩

theorem drop_get {α : Type} (l : List α) (i : Nat) (h : i < l.length) : l.drop i = l[i] :: l.drop (i + 1) := List.drop_eq_getElem_cons h
theorem map_step {α β : Type} (f : α → β) (l : List α) (z : β) (i : Nat) (h : i < l.length) :
    ((l.take i).map f ++ List.replicate (l.length - i) z).set i (f (l[i]'h)) = (l.take (i + 1)).map f ++ List.replicate (l.length - (i + 1)) z := by
  have hl : ((l.take i).map f).length = i := by rw [List.length_map, List.length_take]; omega
  rw [List.set_append_right _ _ (by omega), hl, Nat.sub_self, show l.length - i = (l.length - (i + 1)) + 1 by omega, List.replicate_succ, List.set_cons_zero, List.take_succ_eq_append_getElem h, List.map_append, List.append_assoc]
  rfl
theorem map_length {α β : Type} (f : α → β) (l : List α) (z : β) (i : Nat) (h : i ≤ l.length) : ((l.take i).map f ++ List.replicate (l.length - i) z).length = l.length := by
  simp; omega

theorem rdH_get (l : List S64) (i : Nat) (h : i < l.length) : rd_T64 l (i : Int) = l[i] := by
  unfold rd_T64; rw [Int.toNat_natCast, List.getD_eq_getElem?_getD, List.getElem?_eq_getElem h]; rfl

theorem rdS_get (l : List S77) (i : Nat) (h : i < l.length) : rd_T77 l (i : Int) = l[i] := by
  unfold rd_T77; rw [Int.toNat_natCast, List.getD_eq_getElem?_getD, List.getElem?_eq_getElem h]; rfl

/-- sheets: holes in order, none of a track touching an earlier one -/
def HoleOK (x : S64) : Bool := decide (0 ≤ x.f0 ∧ x.f0 ≤ 19 ∧ 0 ≤ x.f1 ∧ x.f1 < x.f2 ∧ x.f2 ≤ 2000)
def hBefore (a b : S64) : Bool := decide (a.f1 < b.f1 ∨ (a.f1 = b.f1 ∧ a.f0 < b.f0))
def lastOK (p : List S64) (x : S64) : Bool := match p.getLast? with
  | none => true
  | some y => hBefore y x
def apartOK (p : List S64) (x : S64) : Bool := p.all fun y => !(decide (x.f0 = y.f0) && decide (y.f2 ≥ x.f1))
def chkSheet (p : List S64) : List S64 → Bool
  | [] => true
  | x :: r => HoleOK x && lastOK p x && apartOK p x && chkSheet (p ++ [x]) r
def SheetB (l : List S64) : Bool := chkSheet [] l && decide (l.length ≤ 60)
def fuelH (i : Nat) : Nat → Nat
  | 0 => 1
  | d + 1 => i + 3 + fuelH (i + 1) d
theorem lastOK_take (l : List S64) (i : Nat) (h : i + 1 < l.length) : lastOK (l.take (i + 1)) l[i + 1] = hBefore l[i] l[i + 1] := by
  unfold lastOK
  rw [List.take_succ_eq_append_getElem (show i < l.length by omega), List.getLast?_concat]

theorem specSheet_row (l : List S64) (x7 : List S64) (x8 x9 a b c : Int) (p : List S64) (hp : p.length ≤ 1048576) (x : S64) (hx : x = ⟨a, b, c⟩) (d : Nat) : ∀ (k j : Nat), j + d = p.length →
    spec_shGood.l1 (k + d + 1) l x7 x8 x9 p p.length j a b c = if apartOK (p.drop j) x then spec_shGood.l0 k l x7 x8 (wrap64 (x9 + 1)) else some false := by
  induction d with
  | zero =>
    intro k j hj
    rw [spec_shGood.l1, if_neg (by omega), List.drop_of_length_le (by omega)]
    rfl
  | succ d ih =>
    intro k j hj
    subst hx
    rw [spec_shGood.l1, if_pos (by omega), if_pos (by omega), if_pos (by omega), rdH_get p j (by omega), drop_get p j (by omega), w64 (by omega), show k + (d + 1) = k + d + 1 by omega, show ((j : Int) + 1) = ((j + 1 : Nat) : Int) by omega, ih k (j + 1) (by omega)]
    unfold apartOK
    rw [List.all_cons]
    by_cases h1 : a = p[j].f0
    · by_cases h2 : p[j].f2 ≥ b
      · rw [if_pos (by omega), if_pos h2]; simp [h1, h2]
      · rw [if_pos (by omega), if_neg h2]; simp [h1, h2]
    · rw [if_neg (by omega)]; simp [h1]
theorem shHole_eq (a b c : Int) : spec_shHole.f a b c = some (HoleOK ⟨a, b, c⟩) := by
  unfold spec_shHole.f HoleOK
  simp only [in_eq, Option.bind_some, decide_eq_true_eq]
  split
  · split
    · rw [w64 (by omega)]; exact someD (by omega)
    · exact someF (by omega)
  · exact someF (by omega)
theorem shBefore_eq (a b c a' b' c' : Int) : spec_shBefore.f a b c a' b' c' = some (hBefore ⟨a, b, c⟩ ⟨a', b', c'⟩) := by
  unfold spec_shBefore.f hBefore
  simp only []
  split
  · rw [decide_eq_true (by omega)]
  · split
    · exact someD (by omega)
    · exact someF (by omega)
theorem specSheet_loop (l : List S64) (hl : l.length ≤ 1048576) (d : Nat) : ∀ (k i : Nat), i + d = l.length → fuelH i d ≤ k →
    spec_shGood.l0 k l l l.length i = some (chkSheet (l.take i) (l.drop i) && decide (l.length ≤ 60)) := by
  induction d with
  | zero =>
    intro k i hi hk
    unfold fuelH at hk
    obtain ⟨k, rfl⟩ : ∃ j, k = j + 1 := ⟨k - 1, by omega⟩
    rw [spec_shGood.l0, if_neg (by omega), List.drop_of_length_le (by omega)]
    unfold chkSheet
    rw [Bool.true_and]
    exact someD (by omega)
  | succ d ih =>
    intro k i hi hk
    unfold fuelH at hk
    obtain ⟨j, rfl⟩ : ∃ j, k = j + i + 1 + 1 + 1 := ⟨k - i - 3, by omega⟩
    have ht : (l.take i).length = i := by rw [List.length_take]; omega
    have e2 : wrap64 ((i : Int) + 1) = ((i + 1 : Nat) : Int) := by rw [w64 (by omega)]; omega
    rw [spec_shGood.l0, if_pos (by omega), if_pos (by omega), if_pos (by omega), rdH_get l i (by omega), shHole_eq, drop_get l i (by omega), chkSheet]
    simp only [Option.bind_some]
    have hj : ∀ flag : Bool, spec_shGood.j1 (j + i + 1 + 1) l i l l.length i flag l[i].f0 l[i].f1 l[i].f2 = if flag then some false else if apartOK (l.take i) l[i] then spec_shGood.l0 j l l l.length ((i + 1 : Nat) : Int) else some false := by
      intro flag
      rw [spec_shGood.j1]
      cases flag
      · simp only [Bool.false_eq_true, if_false]
        rw [if_pos (by omega), if_pos (by omega), Int.toNat_natCast]
        simp only [Option.bind_some]
        have := specSheet_row l l l.length i l[i].f0 l[i].f1 l[i].f2 (l.take i) (by omega) l[i] rfl i j 0 (by omega)
        rw [List.drop_zero, e2] at this
        exact this
      · simp only [if_true]
    have hrec := ih j (i + 1) (by omega) (by omega)
    rw [List.take_succ_eq_append_getElem (show i < l.length by omega)] at hrec
    by_cases h1 : HoleOK l[i] = true
    · rw [if_pos h1, h1]
      rcases Nat.eq_zero_or_pos i with h0 | h0
      · subst h0
        rw [if_neg (by omega), hj false]
        simp only [Bool.false_eq_true, if_false]
        rw [hrec]
        simp [lastOK, apartOK]
      · obtain ⟨m, rfl⟩ : ∃ m, i = m + 1 := ⟨i - 1, by omega⟩
        have e1 : wrap64 (((m + 1 : Nat) : Int) - 1) = (m : Int) := by rw [w64 (by omega)]; omega
        rw [if_pos (by omega), e1, if_pos (by omega), if_pos (by omega), rdH_get l m (by omega), shBefore_eq]
        simp only [Option.bind_some]
        rw [hj, hrec, lastOK_take l m (by omega)]
        cases hb : hBefore l[m] l[m + 1]
        · simp [hb]
        · cases ha : apartOK (l.take (m + 1)) l[m + 1] <;> simp [hb]
    · rw [if_neg h1, Bool.eq_false_iff.2 h1, hj]; simp
theorem shGood_eq (l : List S64) (hl : l.length ≤ 1048576) (k : Nat) (hk : fuelH 0 l.length ≤ k) : spec_shGood.f k l = some (SheetB l) := by
  unfold spec_shGood.f SheetB
  have := specSheet_loop l hl l.length k 0 (by omega) hk
  rw [List.drop_zero, List.take_zero] at this
  exact this

theorem implSheet_row (l : List S64) (x7 : List S64) (x8 x9 a b c : Int) (p : List S64) (hp : p.length ≤ 1048576) (x : S64) (hx : x = ⟨a, b, c⟩) (d : Nat) : ∀ (k j : Nat), j + d = p.length →
    impl_IsSheet.l1 (k + d + 1) l x7 x8 x9 p p.length j a b c = if apartOK (p.drop j) x then impl_IsSheet.l0 k l x7 x8 (wrap64 (x9 + 1)) else some false := by
  induction d with
  | zero =>
    intro k j hj
    rw [impl_IsSheet.l1, if_neg (by omega), List.drop_of_length_le (by omega)]
    rfl
  | succ d ih =>
    intro k j hj
    subst hx
    rw [impl_IsSheet.l1, if_pos (by omega), if_pos (by omega), if_pos (by omega), rdH_get p j (by omega), drop_get p j (by omega), w64 (by omega), show k + (d + 1) = k + d + 1 by omega, show ((j : Int) + 1) = ((j + 1 : Nat) : Int) by omega, ih k (j + 1) (by omega)]
    unfold apartOK
    rw [List.all_cons]
    by_cases h1 : a = p[j].f0
    · by_cases h2 : p[j].f2 ≥ b
      · rw [if_pos (by omega), if_pos h2]; simp [h1, h2]
      · rw [if_pos (by omega), if_neg h2]; simp [h1, h2]
    · rw [if_neg (by omega)]; simp [h1]
theorem isHole_eq (a b c : Int) : impl_IsHole.f a b c = some (HoleOK ⟨a, b, c⟩) := by
  have ht : impl_isTrack.f a = some (decide (0 ≤ a ∧ a ≤ 19)) := by
    unfold impl_isTrack.f
    split
    · exact someD (by omega)
    · exact someF (by omega)
  unfold impl_IsHole.f HoleOK
  rw [ht]
  simp only [Option.bind_some, decide_eq_true_eq]
  repeat' split
  all_goals first
    | exact someF (by omega)
    | exact someD (by omega)
theorem holeLess_eq (a b c a' b' c' : Int) : impl_holeLess.f a b c a' b' c' = some (hBefore ⟨a, b, c⟩ ⟨a', b', c'⟩) := by
  unfold impl_holeLess.f hBefore
  simp only []
  split
  · exact someD (by omega)
  · exact someD (by omega)
theorem implSheet_loop (l : List S64) (hl : l.length ≤ 1048576) (d : Nat) : ∀ (k i : Nat), i + d = l.length → fuelH i d ≤ k →
    impl_IsSheet.l0 k l l l.length i = some (chkSheet (l.take i) (l.drop i)) := by
  induction d with
  | zero =>
    intro k i hi hk
    unfold fuelH at hk
    obtain ⟨k, rfl⟩ : ∃ j, k = j + 1 := ⟨k - 1, by omega⟩
    rw [impl_IsSheet.l0, if_neg (by omega), List.drop_of_length_le (by omega)]
    rfl
  | succ d ih =>
    intro k i hi hk
    unfold fuelH at hk
    obtain ⟨j, rfl⟩ : ∃ j, k = j + i + 1 + 1 + 1 := ⟨k - i - 3, by omega⟩
    have ht : (l.take i).length = i := by rw [List.length_take]; omega
    have e2 : wrap64 ((i : Int) + 1) = ((i + 1 : Nat) : Int) := by rw [w64 (by omega)]; omega
    rw [impl_IsSheet.l0, if_pos (by omega), if_pos (by omega), if_pos (by omega), rdH_get l i (by omega), isHole_eq, drop_get l i (by omega), chkSheet]
    simp only [Option.bind_some]
    have hj : ∀ flag : Bool, impl_IsSheet.j1 (j + i + 1 + 1) l i l l.length i flag l[i].f0 l[i].f1 l[i].f2 = if flag then some false else if apartOK (l.take i) l[i] then impl_IsSheet.l0 j l l l.length ((i + 1 : Nat) : Int) else some false := by
      intro flag
      rw [impl_IsSheet.j1]
      cases flag
      · simp only [Bool.false_eq_true, if_false]
        rw [if_pos (by omega), if_pos (by omega), Int.toNat_natCast]
        simp only [Option.bind_some]
        have := implSheet_row l l l.length i l[i].f0 l[i].f1 l[i].f2 (l.take i) (by omega) l[i] rfl i j 0 (by omega)
        rw [List.drop_zero, e2] at this
        exact this
      · simp only [if_true]
    have hrec := ih j (i + 1) (by omega) (by omega)
    rw [List.take_succ_eq_append_getElem (show i < l.length by omega)] at hrec
    by_cases h1 : HoleOK l[i] = true
    · rw [if_pos h1, h1]
      rcases Nat.eq_zero_or_pos i with h0 | h0
      · subst h0
        rw [if_neg (by omega), hj false]
        simp only [Bool.false_eq_true, if_false]
        rw [hrec]
        simp [lastOK, apartOK]
      · obtain ⟨m, rfl⟩ : ∃ m, i = m + 1 := ⟨i - 1, by omega⟩
        have e1 : wrap64 (((m + 1 : Nat) : Int) - 1) = (m : Int) := by rw [w64 (by omega)]; omega
        rw [if_pos (by omega), e1, if_pos (by omega), if_pos (by omega), rdH_get l m (by omega), holeLess_eq]
        simp only [Option.bind_some]
        rw [hj, hrec, lastOK_take l m (by omega)]
        cases hb : hBefore l[m] l[m + 1]
        · simp [hb]
        · cases ha : apartOK (l.take (m + 1)) l[m + 1] <;> simp [hb]
    · rw [if_neg h1, Bool.eq_false_iff.2 h1, hj]; simp
theorem isSheet_eq (l : List S64) (hl : l.length ≤ 1048576) (k : Nat) (hk : fuelH 0 l.length ≤ k) : impl_IsSheet.f k l = some (SheetB l) := by
  unfold impl_IsSheet.f SheetB
  by_cases h : l.length ≤ 60
  · have := implSheet_loop l hl l.length k 0 (by omega) hk
    rw [List.drop_zero, List.take_zero] at this
    rw [if_neg (by omega), decide_eq_true h, Bool.and_true]
    exact this
  · rw [if_pos (by omega), decide_eq_false h, Bool.and_false]

/-- with enough rounds there is an answer, and it is as Q says -/
def Tot {α : Type} (g : Nat → Option α) (Q : α → Prop) : Prop := ∃ r, Q r ∧ ∃ K, ∀ k, K ≤ k → g k = some r
theorem Tot.now {α : Type} {g : Nat → Option α} {Q : α → Prop} (r : α) (h : ∀ k, g k = some r) (q : Q r) : Tot g Q := ⟨r, q, 0, fun k _ => h k⟩
theorem Tot.ge {α : Type} {g : Nat → Option α} {Q : α → Prop} (r : α) (K : Nat) (h : ∀ k, K ≤ k → g k = some r) (q : Q r) : Tot g Q := ⟨r, q, K, h⟩
theorem Tot.step {α : Type} {g h : Nat → Option α} {Q : α → Prop} (hs : ∀ k, g (k + 1) = h k) (e : Tot h Q) : Tot g Q := by
  obtain ⟨r, q, K, hK⟩ := e
  refine ⟨r, q, K + 1, fun k hk => ?_⟩
  obtain ⟨j, rfl⟩ : ∃ j, k = j + 1 := ⟨k - 1, by omega⟩
  rw [hs]
  exact hK j (by omega)
theorem Tot.congr {α : Type} {g h : Nat → Option α} {Q : α → Prop} (hs : ∀ k, g k = h k) (e : Tot h Q) : Tot g Q := by
  obtain ⟨r, q, K, hK⟩ := e
  exact ⟨r, q, K, fun k hk => by rw [hs]; exact hK k hk⟩
theorem Tot.bind {α β : Type} {g : Nat → Option α} {Q : α → Prop} {h : Nat → α → Option β} {R : β → Prop} (e : Tot g Q) (e2 : ∀ a, Q a → Tot (fun k => h k a) R) : Tot (fun k => (g k).bind (h k)) R := by
  obtain ⟨a, q, K, hK⟩ := e
  obtain ⟨r, p, M, hM⟩ := e2 a q
  refine ⟨r, p, K + M, fun k hk => ?_⟩
  simp only []
  rw [hK k (by omega), Option.bind_some]
  exact hM k (by omega)
theorem Tot.weak {α : Type} {g : Nat → Option α} {Q R : α → Prop} (e : Tot g Q) (h : ∀ a, Q a → R a) : Tot g R := by
  obtain ⟨r, q, K, hK⟩ := e
  exact ⟨r, h r q, K, hK⟩
theorem Tot.mono {α : Type} {g : Nat → Option α} {Q : α → Prop} (e : Tot g Q) : ∃ r, Q r ∧ ∃ K, ∀ k, K ≤ k → g k = some r := e

theorem w_next (n : Nat) (h : n ≤ 1000000) : wrap64 ((n : Int) + 1) = ((n + 1 : Nat) : Int) := by rw [w64 (by omega)]; omega

theorem place_tot (out l : List S64) (hl : out.length ≤ 1000) (a b c : Int) (n i : Int) {Q : List S64 × Bool → Prop}
    (hk : ∀ o : List S64, o.length = out.length + 1 → Tot (fun k => spec_shSorted.l0 k o l n (wrap64 (i + 1))) Q) :
    ∀ p, p ≤ out.length → Tot (fun k => spec_shSorted.l1 k out p l n i a b c) Q := by
  intro p
  induction p with
  | zero =>
    intro hp
    refine Tot.step (h := fun k => spec_shSorted.l0 k (out.take 0 ++ [(⟨a, b, c⟩ : S64)] ++ out.drop 0) l n (wrap64 (i + 1))) (fun k => ?_) (hk _ (by simp))
    rw [spec_shSorted.l1, if_neg (by simp)]
    simp only [Option.bind_some]
    rw [if_pos (by omega), if_pos (by omega)]
    simp only [Int.toNat_natCast, List.nil_append]
    rw [if_pos (by simp), if_pos (by simp), if_pos (by simp; omega)]
  | succ p ih =>
    intro hp
    have e1 : wrap64 (((p + 1 : Nat) : Int) - 1) = (p : Int) := by rw [w64 (by omega)]; omega
    by_cases hb : hBefore (⟨a, b, c⟩ : S64) (out[p]'(by omega)) = true
    · refine Tot.step (h := fun k => spec_shSorted.l1 k out p l n i a b c) (fun k => ?_) (ih (by omega))
      rw [spec_shSorted.l1, if_pos (by omega), e1, if_pos (by omega), if_pos (by omega), rdH_get out p (by omega), shBefore_eq]
      simp only [Option.bind_some]
      rw [hb, if_pos rfl]
    · have hb' : hBefore (⟨a, b, c⟩ : S64) (out[p]'(by omega)) = false := Bool.eq_false_iff.2 hb
      refine Tot.step (h := fun k => spec_shSorted.l0 k (out.take (p + 1) ++ [(⟨a, b, c⟩ : S64)] ++ out.drop (p + 1)) l n (wrap64 (i + 1))) (fun k => ?_) (hk _ (by simp; omega))
      rw [spec_shSorted.l1, if_pos (by omega), e1, if_pos (by omega), if_pos (by omega), rdH_get out p (by omega), shBefore_eq]
      simp only [Option.bind_some]
      rw [hb', if_neg (by decide), if_pos (by omega), if_pos (by omega)]
      simp only [Int.toNat_natCast, List.nil_append]
      rw [if_pos (by simp; omega), if_pos (by simp; omega), if_pos (by simp; omega)]
theorem sorted_tot (l : List S64) (hl : l.length ≤ 100) (d : Nat) : ∀ (i : Nat) (out : List S64), i + d = l.length → out.length = i → Tot (fun k => spec_shSorted.l0 k out l l.length i) (fun r => r.1.length ≤ l.length) := by
  induction d with
  | zero =>
    intro i out hi ho
    refine Tot.step (h := fun k => (spec_shGood.f k out).bind fun t => if t = true then some (out, true) else some ([], false)) (fun k => by rw [spec_shSorted.l0, if_neg (by omega)]) ?_
    refine Tot.bind (Q := fun _ => True) (Tot.ge _ (fuelH 0 out.length) (fun k hk => shGood_eq out (by omega) k hk) trivial) (fun t _ => ?_)
    cases t with
    | true => exact Tot.now _ (fun k => if_pos rfl) (by simp; omega)
    | false => exact Tot.now _ (fun k => if_neg (by decide)) (by simp)
  | succ d ih =>
    intro i out hi ho
    refine Tot.step (h := fun k => spec_shSorted.l1 k out (out.length : Nat) l l.length i ((rd_T64 l i).f0) ((rd_T64 l i).f1) ((rd_T64 l i).f2)) (fun k => by rw [spec_shSorted.l0, if_pos (by omega), if_pos (by omega), if_pos (by omega)]) ?_
    refine place_tot out l (by omega) _ _ _ _ _ (fun o ho' => ?_) out.length (Nat.le_refl _)
    rw [w_next i (by omega)]
    exact ih (i + 1) o (by omega) (by omega)
theorem with_tot (l : List S64) (hl : l.length ≤ 90) (a b c : Int) : Tot (fun k => spec_shWith.f k l a b c) (fun r => r.1.length ≤ l.length + 1) := by
  refine Tot.congr (h := fun k => (spec_shSorted.f k (l ++ [(⟨a, b, c⟩ : S64)])).bind fun bt => some (bt.1, bt.2)) (fun k => ?_) ?_
  · unfold spec_shWith.f
    simp only [Option.bind_some, List.nil_append]
    rw [if_pos (by simp; omega), if_pos (by simp; omega)]
  · have hs : Tot (fun k => spec_shSorted.f k (l ++ [(⟨a, b, c⟩ : S64)])) (fun r => r.1.length ≤ (l ++ [(⟨a, b, c⟩ : S64)]).length) := sorted_tot (l ++ [(⟨a, b, c⟩ : S64)]) (by simp; omega) (l ++ [(⟨a, b, c⟩ : S64)]).length 0 [] (by omega) rfl
    exact Tot.bind hs (fun r hr => Tot.now _ (fun _ => rfl) (by simpa using hr))
theorem hole_ok (l : List Int) (hl : Bytes l) (a s : Int) (ha : 0 ≤ a ∧ a ≤ 800000) : ∃ t f e a' s', spec_l1Cur_hole.f l a s = some (t, f, e, a', s') ∧ a ≤ a' ∧ a' ≤ a + 12 := by
  unfold spec_l1Cur_hole.f
  obtain ⟨v1, a1, s1, e1, _, _, l1, u1⟩ := pick_ok l hl a s (by omega) 40
  rw [e1]; simp only [Option.bind_some]
  obtain ⟨v2, a2, s2, e2, _, _, l2, u2⟩ := pick_ok l hl a1 s1 (by omega) 60
  rw [e2]; simp only [Option.bind_some]
  obtain ⟨v3, a3, s3, e3, l3, u3⟩ := among_ok l hl a2 s2 (by omega) [0, 2, 5, v1, v2, 1990] (by simp)
  rw [e3]; simp only [Option.bind_some]
  obtain ⟨v4, a4, s4, e4, _, _, l4, u4⟩ := pick_ok l hl a3 s3 (by omega) 20
  rw [e4]; simp only [Option.bind_some]
  obtain ⟨v5, a5, s5, e5, l5, u5⟩ := among_ok l hl a4 s4 (by omega) [0, 1, 2, 3, 5, v4] (by simp)
  rw [e5]; simp only [Option.bind_some]
  obtain ⟨v6, a6, s6, e6, l6, u6⟩ := among_ok l hl a5 s5 (by omega) [1, 2, 3, 4, 10] (by simp)
  rw [e6]; simp only [Option.bind_some]
  exact ⟨_, _, _, a6, s6, rfl, by omega, by omega⟩
def CurIn (a : Int) (n : Int) (x : Int) : Prop := a ≤ x ∧ x ≤ a + n
theorem sheet0_tot (l : List Int) (hl : Bytes l) (d : Nat) : ∀ (x : List S64) (a s : Int), x.length + d = 60 → 0 ≤ a → a + 2 * d ≤ 800000 →
    Tot (fun k => spec_l1Cur_sheet.l0 k x l a s) (fun r => r.1.length ≤ 60 ∧ a ≤ r.2.1 ∧ r.2.1 ≤ a + 2 * d) := by
  induction d with
  | zero =>
    intro x a s hx h0 ha
    exact Tot.step (h := fun _ => some (x, a, s)) (fun k => by rw [spec_l1Cur_sheet.l0, if_neg (by omega)]) (Tot.now _ (fun _ => rfl) ⟨by simp only []; omega, by simp only []; omega, by simp only []; omega⟩)
  | succ d ih =>
    intro x a s hx h0 ha
    obtain ⟨v1, a1, s1, e1, _, _, l1, u1⟩ := pick_ok l hl a s (by omega) 5
    refine Tot.step (h := fun k => spec_l1Cur_sheet.l0 k (x ++ [_]) l a1 s1) (fun k => by rw [spec_l1Cur_sheet.l0, if_pos (by omega), e1]; simp only [Option.bind_some]; rw [if_pos (by omega)]) ?_
    exact Tot.weak (ih (x ++ [_]) a1 s1 (by simp; omega) (by omega) (by omega)) (fun r hr => ⟨hr.1, by omega, by omega⟩)
theorem sheet2_tot (l : List Int) (hl : Bytes l) (n : Int) (hn : n ≤ 60) (d : Nat) : ∀ (x : List S64) (i : Nat) (a s : Int), i + d = 60 → x.length ≤ 60 → 0 ≤ a → a + 12 * d ≤ 800000 →
    Tot (fun k => spec_l1Cur_sheet.l1 k x n i l a s) (fun r => r.1.length ≤ 60 ∧ a ≤ r.2.1 ∧ r.2.1 ≤ a + 12 * d) := by
  have out : ∀ (x : List S64) (i a s : Int) (m : Int), x.length ≤ 60 → 0 ≤ m → Tot (fun k => spec_l1Cur_sheet.j2 k x n i false l a s) (fun r => r.1.length ≤ 60 ∧ a ≤ r.2.1 ∧ r.2.1 ≤ a + m) := fun x i a s m hx hm =>
    Tot.step (h := fun _ => some (x, a, s)) (fun k => by rw [spec_l1Cur_sheet.j2, if_neg (by decide)]) (Tot.now _ (fun _ => rfl) ⟨hx, by simp only []; omega, by simp only []; omega⟩)
  induction d with
  | zero =>
    intro x i a s hi hx h0 ha
    by_cases h : (x.length : Int) < n
    · exact Tot.step (h := fun k => spec_l1Cur_sheet.j2 k x n i false l a s) (fun k => by rw [spec_l1Cur_sheet.l1, if_pos h, decide_eq_false (by omega)]) (out x i a s _ hx (by omega))
    · exact Tot.step (h := fun k => spec_l1Cur_sheet.j2 k x n i false l a s) (fun k => by rw [spec_l1Cur_sheet.l1, if_neg h]) (out x i a s _ hx (by omega))
  | succ d ih =>
    intro x i a s hi hx h0 ha
    by_cases h : (x.length : Int) < n
    · refine Tot.step (h := fun k => spec_l1Cur_sheet.j2 k x n i true l a s) (fun k => by rw [spec_l1Cur_sheet.l1, if_pos h, decide_eq_true (by omega)]) ?_
      obtain ⟨t, f, e, a1, s1, e1, l1, u1⟩ := hole_ok l hl a s (by omega)
      refine Tot.step (h := fun k => (spec_shWith.f k x t f e).bind fun bt => if bt.2 = true then spec_l1Cur_sheet.l1 k bt.1 n ((i + 1 : Nat) : Int) l a1 s1 else spec_l1Cur_sheet.l1 k x n ((i + 1 : Nat) : Int) l a1 s1)
        (fun k => by rw [spec_l1Cur_sheet.j2, if_pos rfl, e1]; simp only [Option.bind_some]; rw [w_next i (by omega)]) ?_
      refine Tot.bind (with_tot x (by omega) t f e) (fun bt hb => ?_)
      by_cases h2 : bt.2 = true
      · exact (Tot.congr (fun k => if_pos h2) (ih bt.1 (i + 1) a1 s1 (by omega) (by omega) (by omega) (by omega))).weak (fun r hr => ⟨hr.1, by omega, by omega⟩)
      · exact (Tot.congr (fun k => if_neg h2) (ih x (i + 1) a1 s1 (by omega) hx (by omega) (by omega))).weak (fun r hr => ⟨hr.1, by omega, by omega⟩)
    · exact Tot.step (h := fun k => spec_l1Cur_sheet.j2 k x n i false l a s) (fun k => by rw [spec_l1Cur_sheet.l1, if_neg h]) (out x i a s _ hx (by omega))
theorem sheet_tot (l : List Int) (hl : Bytes l) (a s : Int) (ha : 0 ≤ a ∧ a ≤ 700000) : Tot (fun k => spec_l1Cur_sheet.f k l a s) (fun r => r.1.length ≤ 60 ∧ a ≤ r.2.1 ∧ r.2.1 ≤ a + 1000) := by
  obtain ⟨v1, a1, s1, e1, l1, u1⟩ := one_ok l hl a s (by omega) 24
  by_cases h : v1 = true
  · refine Tot.congr (h := fun k => spec_l1Cur_sheet.l0 k [] l a1 s1) (fun k => by unfold spec_l1Cur_sheet.f; rw [e1]; simp only [Option.bind_some]; rw [if_pos h]) ?_
    exact Tot.weak (sheet0_tot l hl 60 [] a1 s1 (by simp) (by omega) (by omega)) (fun r hr => ⟨hr.1, by omega, by omega⟩)
  · obtain ⟨v2, a2, s2, e2, b0, b1, l2, u2⟩ := pick_ok l hl a1 s1 (by omega) 9
    refine Tot.congr (h := fun k => spec_l1Cur_sheet.l1 k [] v2 ((0 : Nat) : Int) l a2 s2) (fun k => by unfold spec_l1Cur_sheet.f; rw [e1]; simp only [Option.bind_some]; rw [if_neg h, e2]; rfl) ?_
    have b2 := b1 (by omega)
    exact (sheet2_tot l hl v2 (by omega) 60 [] 0 a2 s2 (by omega) (by simp) (by omega) (by omega)).weak (fun r hr => ⟨hr.1, by omega, by omega⟩)

theorem anyHole_ok (l : List Int) (hl : Bytes l) (a s : Int) (ha : 0 ≤ a ∧ a ≤ 700000) : ∃ t f e a' s', spec_l1Cur_anyHole.f l a s = some (t, f, e, a', s') ∧ a ≤ a' ∧ a' ≤ a + 20 := by
  unfold spec_l1Cur_anyHole.f
  obtain ⟨t, f, e, a1, s1, e1, l1, u1⟩ := hole_ok l hl a s (by omega)
  obtain ⟨v, a2, s2, e2, _, _, l2, u2⟩ := pick_ok l hl a1 s1 (by omega) 24
  rw [e1]; simp only [Option.bind_some]; rw [e2]; simp only [Option.bind_some]
  by_cases h0 : v = 0
  · obtain ⟨w, a3, s3, e3, l3, u3⟩ := among_ok l hl a2 s2 (by omega) [-1, 19, 20] (by simp)
    rw [if_pos h0, e3]; exact ⟨_, _, _, a3, s3, rfl, by omega, by omega⟩
  · rw [if_neg h0]
    by_cases h1 : v = 1
    · obtain ⟨w, a3, s3, e3, l3, u3⟩ := among_ok l hl a2 s2 (by omega) [-1, e] (by simp)
      rw [if_pos h1, e3]; exact ⟨_, _, _, a3, s3, rfl, by omega, by omega⟩
    · rw [if_neg h1]
      by_cases h2 : v = 2
      · obtain ⟨w, a3, s3, e3, l3, u3⟩ := among_ok l hl a2 s2 (by omega) [f, 2000, 2001] (by simp)
        rw [if_pos h2, e3]; exact ⟨_, _, _, a3, s3, rfl, by omega, by omega⟩
      · rw [if_neg h2]; exact ⟨_, _, _, a2, s2, rfl, by omega, by omega⟩
theorem any61_tot (l : List Int) (a s : Int) (d : Nat) : ∀ (x : List S64), x.length + d = 61 → Tot (fun k => spec_l1Cur_anySheet.l0 k x l a s) (fun r => r.1.length ≤ 61 ∧ a ≤ r.2.1 ∧ r.2.1 ≤ a) := by
  induction d with
  | zero =>
    intro x hx
    exact Tot.step (h := fun _ => some (x, a, s)) (fun k => by rw [spec_l1Cur_anySheet.l0, if_neg (by omega)]) (Tot.now _ (fun _ => rfl) ⟨by simp only []; omega, by simp only []; omega, by simp only []; omega⟩)
  | succ d ih =>
    intro x hx
    exact Tot.step (h := fun k => spec_l1Cur_anySheet.l0 k (x ++ [_]) l a s) (fun k => by rw [spec_l1Cur_anySheet.l0, if_pos (by omega), if_pos (by omega)]) (ih (x ++ [_]) (by simp; omega))
def ShOut (a n : Int) (r : List S64 × Int × Int) : Prop := r.1.length ≤ 61 ∧ a ≤ r.2.1 ∧ r.2.1 ≤ a + n
theorem anySheet_tot (l : List Int) (hl : Bytes l) (a s : Int) (ha : 0 ≤ a ∧ a ≤ 600000) : Tot (fun k => spec_l1Cur_anySheet.f k l a s) (ShOut a 1100) := by
  refine Tot.bind (sheet_tot l hl a s (by omega)) (fun bt hb => ?_)
  obtain ⟨x, a1, s1⟩ := bt
  simp only at hb
  by_cases h : (x.length : Int) > 0
  · obtain ⟨v, a2, s2, e2, b0, b1, l2, u2⟩ := pick_ok l hl a1 s1 (by omega) (x.length : Int)
    obtain ⟨v3, a3, s3, e3, _, _, l3, u3⟩ := pick_ok l hl a2 s2 (by omega) 30
    have b2 := b1 (by omega)
    refine Tot.congr (h := fun k => if v3 = 0 then ((spec_l1Cur_anyHole.f l a3 s3).bind fun bt288 => (if 0 ≤ v then (if v < (x.length : Int) then (some ((x.set (v : Int).toNat (⟨bt288.1, bt288.2.1, bt288.2.2.1⟩ : S64)), bt288.2.2.2.1, bt288.2.2.2.2)) else (none)) else (none))) else (if v3 = 1 then (some ((x ++ [(⟨(rd_T64 x v).f0, (rd_T64 x v).f1, (rd_T64 x v).f2⟩ : S64)]), a3, s3)) else (if v3 = 2 then (some ((x ++ [(⟨(rd_T64 x v).f0, (rd_T64 x v).f2, wrap64 (((rd_T64 x v).f2) + 2)⟩ : S64)]), a3, s3)) else (if v3 = 3 then (spec_l1Cur_anySheet.l0 k ([] : List (S64)) l a3 s3) else (some (x, a3, s3)))))) (fun k => ?_) ?_
    · dsimp only
      rw [if_pos h, e2]; simp only [Option.bind_some]; rw [e3]; simp only [Option.bind_some]
      simp only [if_pos b0, if_pos b2, if_pos (show x.length < 5864062014805 by omega)]
    · by_cases c0 : v3 = 0
      · obtain ⟨t, f, e, a4, s4, e4, l4, u4⟩ := anyHole_ok l hl a3 s3 (by omega)
        refine Tot.now (x.set (v : Int).toNat ⟨t, f, e⟩, a4, s4) (fun k => ?_) ⟨by simp only [List.length_set]; omega, by simp only []; omega, by simp only []; omega⟩
        rw [if_pos c0, e4]; simp only [Option.bind_some]; rw [if_pos b0, if_pos b2]
      · by_cases c1 : v3 = 1
        · exact Tot.now _ (fun k => (if_neg c0).trans (if_pos c1)) ⟨by simp only [List.length_append, List.length_cons, List.length_nil]; omega, by simp only []; omega, by simp only []; omega⟩
        · by_cases c2 : v3 = 2
          · exact Tot.now _ (fun k => (if_neg c0).trans ((if_neg c1).trans (if_pos c2))) ⟨by simp only [List.length_append, List.length_cons, List.length_nil]; omega, by simp only []; omega, by simp only []; omega⟩
          · by_cases c3 : v3 = 3
            · exact (Tot.congr (fun k => (if_neg c0).trans ((if_neg c1).trans ((if_neg c2).trans (if_pos c3)))) (any61_tot l a3 s3 61 [] (by simp))).weak (fun r hr => ⟨hr.1, by omega, by omega⟩)
            · exact Tot.now _ (fun k => (if_neg c0).trans ((if_neg c1).trans ((if_neg c2).trans (if_neg c3)))) ⟨by simp only []; omega, by simp only []; omega, by simp only []; omega⟩
  · exact Tot.now _ (fun k => if_neg h) ⟨by simp only []; omega, by simp only []; omega, by simp only []; omega⟩
theorem made0_tot (l : List Int) (hl : Bytes l) (a s : Int) (ha : 0 ≤ a ∧ a ≤ 600000) (d : Nat) : ∀ (x : List S64), x.length + d = 20 → Tot (fun k => spec_l1Cur_madeSheet.l0 k x l a s) (ShOut a 2000) := by
  induction d with
  | zero =>
    intro x hx
    obtain ⟨v, a2, s2, e2, b0, b1, l2, u2⟩ := pick_ok l hl a s (by omega) 2
    exact Tot.step (h := fun _ => some (x.set (19 : Int).toNat (⟨(rd_T64 x 19).f0, (rd_T64 x 19).f1, wrap64 (((rd_T64 x 19).f2) + v)⟩ : S64), a2, s2)) (fun k => by rw [spec_l1Cur_madeSheet.l0, if_neg (by omega), if_pos (by omega), e2]; rfl) (Tot.now _ (fun _ => rfl) ⟨by simp only [List.length_set]; omega, by simp only []; omega, by simp only []; omega⟩)
  | succ d ih =>
    intro x hx
    exact Tot.step (h := fun k => spec_l1Cur_madeSheet.l0 k (x ++ [_]) l a s) (fun k => by rw [spec_l1Cur_madeSheet.l0, if_pos (by omega), if_pos (by omega)]) (ih (x ++ [_]) (by simp; omega))
theorem made1_tot (l : List Int) (hl : Bytes l) (x30 : List S64) (h30 : x30.length ≤ 60) (d : Nat) : ∀ (x : List S64) (i : Nat) (a s : Int), i + d = x30.length → x.length ≤ i → 0 ≤ a → a + 4 * d ≤ 500000 →
    Tot (fun k => spec_l1Cur_madeSheet.l1 k x x30 x30.length i l a s) (fun r => r.1.length ≤ 61 ∧ a ≤ r.2.1 ∧ r.2.1 ≤ a + 4 * d + 1110) := by
  induction d with
  | zero =>
    intro x i a s hi hx h0 ha
    obtain ⟨v, a1, s1, e1, l1, u1⟩ := one_ok l hl a s (by omega) 16
    by_cases h : v = true
    · refine Tot.step (h := fun k => (spec_l1Cur_anySheet.f k l a1 s1).bind fun bt => some (bt.1, bt.2.1, bt.2.2)) (fun k => by rw [spec_l1Cur_madeSheet.l1, if_neg (by omega), e1]; simp only [Option.bind_some]; rw [if_pos h]) ?_
      exact Tot.bind (anySheet_tot l hl a1 s1 (by omega)) (fun r hr => Tot.now _ (fun _ => rfl) ⟨hr.1, by have := hr.2.1; simp only []; omega, by have := hr.2.2; simp only []; omega⟩)
    · exact Tot.step (h := fun _ => some (x, a1, s1)) (fun k => by rw [spec_l1Cur_madeSheet.l1, if_neg (by omega), e1]; simp only [Option.bind_some]; rw [if_neg h]) (Tot.now _ (fun _ => rfl) ⟨by simp only []; omega, by simp only []; omega, by simp only []; omega⟩)
  | succ d ih =>
    intro x i a s hi hx h0 ha
    have hp : 0 ≤ (i : Int) := by omega
    have hq : (i : Int) < (x30.length : Int) := by omega
    have key : ∀ (b : Bool) (a1 s1 t f e : Int), a ≤ a1 → a1 ≤ a + 2 → Tot (fun k => spec_l1Cur_madeSheet.j2 k x x30 x30.length i b l a1 s1 t f e) (fun r => r.1.length ≤ 61 ∧ a ≤ r.2.1 ∧ r.2.1 ≤ a + 4 * ((d + 1 : Nat) : Int) + 1110) := by
      intro b a1 s1 t f e g1 g2
      have fin : ∀ (o : List S64) (a2 s2 : Int), o.length ≤ i + 1 → a1 ≤ a2 → a2 ≤ a1 + 2 → Tot (fun k => spec_l1Cur_madeSheet.l1 k o x30 x30.length ((i + 1 : Nat) : Int) l a2 s2) (fun r => r.1.length ≤ 61 ∧ a ≤ r.2.1 ∧ r.2.1 ≤ a + 4 * ((d + 1 : Nat) : Int) + 1110) := fun o a2 s2 ho q1 q2 =>
        (ih o (i + 1) a2 s2 (by omega) ho (by omega) (by omega)).weak (fun r hr => ⟨hr.1, by omega, by omega⟩)
      have goon : ∀ (c : Int) (a2 s2 : Int), a1 ≤ a2 → a2 ≤ a1 + 2 → Tot (fun k => (spec_shWith.f k x t f c).bind fun bt => if bt.2 = true then spec_l1Cur_madeSheet.l1 k bt.1 x30 x30.length ((i + 1 : Nat) : Int) l a2 s2 else spec_l1Cur_madeSheet.l1 k x x30 x30.length ((i + 1 : Nat) : Int) l a2 s2) (fun r => r.1.length ≤ 61 ∧ a ≤ r.2.1 ∧ r.2.1 ≤ a + 4 * ((d + 1 : Nat) : Int) + 1110) := fun c a2 s2 q1 q2 => by
        refine Tot.bind (with_tot x (by omega) t f c) (fun bt hb => ?_)
        by_cases h2 : bt.2 = true
        · exact Tot.congr (fun k => if_pos h2) (fin bt.1 a2 s2 (by omega) q1 q2)
        · exact Tot.congr (fun k => if_neg h2) (fin x a2 s2 (by omega) q1 q2)
      cases b with
      | true =>
        obtain ⟨v2, a2, s2, e2, _, _, l2, u2⟩ := pick_ok l hl a1 s1 (by omega) 5
        refine Tot.step (h := fun k => (spec_shWith.f k x t f (wrap64 ((wrap64 (f + 4)) + v2))).bind fun bt => if bt.2 = true then spec_l1Cur_madeSheet.l1 k bt.1 x30 x30.length ((i + 1 : Nat) : Int) l a2 s2 else spec_l1Cur_madeSheet.l1 k x x30 x30.length ((i + 1 : Nat) : Int) l a2 s2) (fun k => ?_) (goon _ a2 s2 l2 u2)
        rw [spec_l1Cur_madeSheet.j2, if_pos rfl, e2]; simp only [Option.bind_some]; rw [w_next i (by omega)]
      | false =>
        refine Tot.step (h := fun k => (spec_shWith.f k x t f e).bind fun bt => if bt.2 = true then spec_l1Cur_madeSheet.l1 k bt.1 x30 x30.length ((i + 1 : Nat) : Int) l a1 s1 else spec_l1Cur_madeSheet.l1 k x x30 x30.length ((i + 1 : Nat) : Int) l a1 s1) (fun k => ?_) (goon _ a1 s1 (by omega) (by omega))
        rw [spec_l1Cur_madeSheet.j2, if_neg (by decide), w_next i (by omega)]
    by_cases h : (wrap64 (((rd_T64 x30 i).f2) - ((rd_T64 x30 i).f1))) < 4
    · obtain ⟨v, a1, s1, e1, l1, u1⟩ := one_ok l hl a s (by omega) 20
      exact Tot.step (h := fun k => spec_l1Cur_madeSheet.j2 k x x30 x30.length i (!v) l a1 s1 _ _ _) (fun k => by rw [spec_l1Cur_madeSheet.l1, if_pos hq, if_pos hp, if_pos hq, if_pos h, e1]; rfl) (key _ a1 s1 _ _ _ l1 u1)
    · exact Tot.step (h := fun k => spec_l1Cur_madeSheet.j2 k x x30 x30.length i false l a s _ _ _) (fun k => by rw [spec_l1Cur_madeSheet.l1, if_pos hq, if_pos hp, if_pos hq, if_neg h]) (key _ a s _ _ _ (by omega) (by omega))
theorem madeSheet_tot (l : List Int) (hl : Bytes l) (a s : Int) (ha : 0 ≤ a ∧ a ≤ 400000) : Tot (fun k => spec_l1Cur_madeSheet.f k l a s) (ShOut a 4000) := by
  obtain ⟨v1, a1, s1, e1, l1, u1⟩ := one_ok l hl a s (by omega) 20
  by_cases h : v1 = true
  · refine Tot.congr (h := fun k => spec_l1Cur_madeSheet.l0 k [] l a1 s1) (fun k => by unfold spec_l1Cur_madeSheet.f; rw [e1]; simp only [Option.bind_some]; rw [if_pos h]) ?_
    exact Tot.weak (made0_tot l hl a1 s1 (by omega) 20 [] (by simp)) (fun r hr => ⟨hr.1, by have := hr.2.1; omega, by have := hr.2.2; omega⟩)
  · refine Tot.congr (h := fun k => (spec_l1Cur_sheet.f k l a1 s1).bind fun bt => spec_l1Cur_madeSheet.l1 k [] bt.1 (bt.1.length : Int) 0 l bt.2.1 bt.2.2) (fun k => by unfold spec_l1Cur_madeSheet.f; rw [e1]; simp only [Option.bind_some]; rw [if_neg h]) ?_
    refine Tot.bind (sheet_tot l hl a1 s1 (by omega)) (fun bt hb => ?_)
    exact (made1_tot l hl bt.1 hb.1 bt.1.length [] 0 bt.2.1 bt.2.2 (by omega) (by simp) (by omega) (by omega)).weak (fun r hr => ⟨hr.1, by omega, by omega⟩)
theorem mark_ok (l : List Int) (hl : Bytes l) (a s : Int) (ha : 0 ≤ a ∧ a ≤ 700000) : ∃ v a' s', spec_l1Cur_mark.f l a s = some (v, a', s') ∧ a ≤ a' ∧ a' ≤ a + 20 := by
  unfold spec_l1Cur_mark.f
  obtain ⟨v1, a1, s1, e1, l1, u1⟩ := among_ok l hl a s (by omega) [0, 51] (by simp)
  rw [e1]; simp only [Option.bind_some]
  obtain ⟨v2, a2, s2, e2, l2, u2⟩ := among_ok l hl a1 s1 (by omega) [1, 2, 3, 5, 10, 50, v1] (by simp)
  rw [e2]
  exact ⟨_, a2, s2, rfl, by omega, by omega⟩

def RunOut (r : List S64 × List Int × Int) : Prop := r.1.length ≤ 61 ∧ r.2.1.length ≤ 30
theorem runEnd_tot (l : List Int) (hl : Bytes l) (x : List Int) (hx : x.length ≤ 30) (n : Int) (hn : (x.length : Int) = n) (hn1 : 1 ≤ n) (b : Bool) (a s : Int) (ha : 0 ≤ a ∧ a ≤ 300000) : Tot (fun k => spec_DrawRunWithStops.j2 k x n b l a s) RunOut := by
  cases b with
  | true =>
    obtain ⟨v1, a1, s1, e1, b0, b1, l1, u1⟩ := pick_ok l hl a s (by omega) n
    obtain ⟨v2, a2, s2, e2, l2, u2⟩ := among_ok l hl a1 s1 (by omega) [-1, 201] (by simp)
    have b2 := b1 hn1
    refine Tot.step (h := fun k => (spec_l1Cur_madeSheet.f k l a2 s2).bind fun bt394 => ((spec_l1Cur_mark.f l bt394.2.1 bt394.2.2).bind fun bt399 => (some (bt394.1, (x.set (v1 : Int).toNat v2), bt399.1)))) (fun k => by rw [spec_DrawRunWithStops.j2, if_pos rfl, e1]; simp only [Option.bind_some]; rw [e2]; simp only [Option.bind_some]; rw [if_pos b0, if_pos (by omega)]) ?_
    refine Tot.bind (madeSheet_tot l hl a2 s2 (by omega)) (fun bt hb => ?_)
    have g1 := hb.2.1
    have g2 := hb.2.2
    obtain ⟨v3, a3, s3, e3, _, _⟩ := mark_ok l hl bt.2.1 bt.2.2 (by omega)
    exact Tot.now (bt.1, x.set (v1 : Int).toNat v2, v3) (fun k => by rw [e3]; rfl) ⟨hb.1, by simp only [List.length_set]; omega⟩
  | false =>
    refine Tot.step (h := fun k => (spec_l1Cur_madeSheet.f k l a s).bind fun bt402 => ((spec_l1Cur_mark.f l bt402.2.1 bt402.2.2).bind fun bt407 => (some (bt402.1, x, bt407.1)))) (fun k => by rw [spec_DrawRunWithStops.j2, if_neg (by decide)]) ?_
    refine Tot.bind (madeSheet_tot l hl a s (by omega)) (fun bt hb => ?_)
    have g1 := hb.2.1
    have g2 := hb.2.2
    obtain ⟨v3, a3, s3, e3, _, _⟩ := mark_ok l hl bt.2.1 bt.2.2 (by omega)
    exact Tot.now (bt.1, x, v3) (fun k => by rw [e3]; rfl) ⟨hb.1, by simp only []; omega⟩
theorem runEnd0_tot (l : List Int) (hl : Bytes l) (x : List Int) (hx : x.length ≤ 30) (n : Int) (a s : Int) (ha : 0 ≤ a ∧ a ≤ 300000) : Tot (fun k => spec_DrawRunWithStops.j2 k x n false l a s) RunOut := by
  refine Tot.step (h := fun k => (spec_l1Cur_madeSheet.f k l a s).bind fun bt402 => ((spec_l1Cur_mark.f l bt402.2.1 bt402.2.2).bind fun bt407 => (some (bt402.1, x, bt407.1)))) (fun k => by rw [spec_DrawRunWithStops.j2, if_neg (by decide)]) ?_
  refine Tot.bind (madeSheet_tot l hl a s (by omega)) (fun bt hb => ?_)
  have g1 := hb.2.1
  have g2 := hb.2.2
  obtain ⟨v3, a3, s3, e3, _, _⟩ := mark_ok l hl bt.2.1 bt.2.2 (by omega)
  exact Tot.now (bt.1, x, v3) (fun k => by rw [e3]; rfl) ⟨hb.1, by simp only []; omega⟩
theorem runs_tot (l : List Int) (hl : Bytes l) (n : Nat) (hn : n ≤ 30) (d : Nat) : ∀ (x : List Int) (a s : Int), x.length + d = n → 0 ≤ a → a + 4 * d ≤ 200000 → Tot (fun k => spec_DrawRunWithStops.l0 k x n l a s) RunOut := by
  induction d with
  | zero =>
    intro x a s hx h0 ha
    by_cases h : (n : Int) > 0
    · obtain ⟨v, a1, s1, e1, l1, u1⟩ := one_ok l hl a s (by omega) 24
      exact Tot.step (h := fun k => spec_DrawRunWithStops.j2 k x n v l a1 s1) (fun k => by rw [spec_DrawRunWithStops.l0, if_neg (by omega), if_pos h, e1]; rfl) (runEnd_tot l hl x (by omega) n (by omega) (by omega) v a1 s1 (by omega))
    · exact Tot.step (h := fun k => spec_DrawRunWithStops.j2 k x n false l a s) (fun k => by rw [spec_DrawRunWithStops.l0, if_neg (by omega), if_neg h]) (runEnd0_tot l hl x (by omega) n a s (by omega))
  | succ d ih =>
    intro x a s hx h0 ha
    obtain ⟨v1, a1, s1, e1, _, _, l1, u1⟩ := pick_ok l hl a s (by omega) 40
    obtain ⟨v2, a2, s2, e2, l2, u2⟩ := among_ok l hl a1 s1 (by omega) [0, 1, 3, 7, v1, 200] (by simp)
    exact Tot.step (h := fun k => spec_DrawRunWithStops.l0 k (x ++ [v2]) n l a2 s2) (fun k => by rw [spec_DrawRunWithStops.l0, if_pos (by omega), e1]; simp only [Option.bind_some]; rw [e2]; simp only [Option.bind_some]; rw [if_pos (by omega)]) (ih (x ++ [v2]) a2 s2 (by simp; omega) (by omega) (by omega))
theorem drawRun_tot (l : List Int) (hl : Bytes l) : Tot (fun k => spec_DrawRunWithStops.f k l) RunOut := by
  obtain ⟨v1, a1, s1, e1, p0, p1, l1, u1⟩ := pick_ok l hl 0 0 (by omega) 6
  obtain ⟨v2, a2, s2, e2, l2, u2⟩ := one_ok l hl a1 s1 (by omega) 20
  have p2 := p1 (by omega)
  by_cases h : v2 = true
  · obtain ⟨v3, a3, s3, e3, q0, q1, l3, u3⟩ := pick_ok l hl a2 s2 (by omega) 2
    have q2 := q1 (by omega)
    obtain ⟨n, hn⟩ : ∃ n : Nat, wrap64 (20 + v3) = (n : Int) := ⟨(20 + v3).toNat, by rw [w64 (by omega)]; omega⟩
    have hn2 : n ≤ 30 := by rw [w64 (by omega)] at hn; omega
    refine Tot.congr (h := fun k => spec_DrawRunWithStops.j0 k [] n l a3 s3) (fun k => by unfold spec_DrawRunWithStops.f; rw [e1]; simp only [Option.bind_some]; rw [e2]; simp only [Option.bind_some]; rw [if_pos h, e3]; simp only [Option.bind_some]; rw [hn]) ?_
    exact Tot.step (h := fun k => spec_DrawRunWithStops.l0 k [] n l a3 s3) (fun k => by rw [spec_DrawRunWithStops.j0]) (runs_tot l hl n hn2 n [] a3 s3 (by simp) (by omega) (by omega))
  · obtain ⟨n, rfl⟩ : ∃ n : Nat, v1 = (n : Int) := ⟨v1.toNat, by omega⟩
    refine Tot.congr (h := fun k => spec_DrawRunWithStops.j0 k [] n l a2 s2) (fun k => by unfold spec_DrawRunWithStops.f; rw [e1]; simp only [Option.bind_some]; rw [e2]; simp only [Option.bind_some]; rw [if_neg h]) ?_
    exact Tot.step (h := fun k => spec_DrawRunWithStops.l0 k [] n l a2 s2) (fun k => by rw [spec_DrawRunWithStops.j0]) (runs_tot l hl n (by omega) n [] a2 s2 (by simp) (by omega) (by omega))
theorem drawBest_ok (l : List Int) (hl : Bytes l) : ∃ s e c, spec_DrawBestMark.f l = some (s, e, c) := by
  unfold spec_DrawBestMark.f
  obtain ⟨v1, a1, s1, e1, _, _, l1, u1⟩ := pick_ok l hl 0 0 (by omega) 101
  rw [e1]; simp only [Option.bind_some]
  obtain ⟨v2, a2, s2, e2, l2, u2⟩ := among_ok l hl a1 s1 (by omega) [101, -1] (by simp)
  rw [e2]; simp only [Option.bind_some]
  obtain ⟨v3, a3, s3, e3, _, _, l3, u3⟩ := pick_ok l hl a2 s2 (by omega) 200
  rw [e3]; simp only [Option.bind_some]
  obtain ⟨v4, a4, s4, e4, l4, u4⟩ := among_ok l hl a3 s3 (by omega) [0, 201] (by simp)
  rw [e4]; simp only [Option.bind_some]
  obtain ⟨v5, a5, s5, e5, l5, u5⟩ := among_ok l hl a4 s4 (by omega) [1, 10, 50, wrap64 (1 + v3), 200, v4] (by simp)
  rw [e5]; simp only [Option.bind_some]
  obtain ⟨v6, a6, s6, e6, l6, u6⟩ := among_ok l hl a5 s5 (by omega) [0, 1, 2, 5, v1, 100, v2] (by simp)
  rw [e6]; simp only [Option.bind_some]
  obtain ⟨v7, a7, s7, e7, l7, u7⟩ := among_ok l hl a6 s6 (by omega) [0, 1, 2, 5, v1, 100, v2] (by simp)
  rw [e7]
  exact ⟨_, _, _, rfl⟩
theorem drawSplit_tot (l : List Int) (hl : Bytes l) : Tot (fun k => spec_DrawSplitSheet.f k l) (fun r : List S64 × Int => r.1.length ≤ 61) := by
  refine Tot.bind (anySheet_tot l hl 0 0 (by omega)) (fun bt hb => ?_)
  have g1 := hb.2.1
  have g2 := hb.2.2
  obtain ⟨v1, a1, s1, e1, _, _, l1, u1⟩ := pick_ok l hl bt.2.1 bt.2.2 (by omega) (wrap64 ((bt.1.length : Int) + 1))
  obtain ⟨v2, a2, s2, e2, l2, u2⟩ := among_ok l hl a1 s1 (by omega) [wrap64 ((bt.1.length : Int) + 1), -1] (by simp)
  obtain ⟨v3, a3, s3, e3, l3, u3⟩ := among_ok l hl a2 s2 (by omega) [0, v1, (bt.1.length : Int), v2] (by simp)
  exact Tot.now (bt.1, v3) (fun k => by rw [e1]; simp only [Option.bind_some]; rw [e2]; simp only [Option.bind_some]; rw [e3]; rfl) hb.1

/-- the strokes that a hole takes -/
def stk (a last pos : Int) : Nat → List S77
  | 0 => []
  | d + 1 => if pos ≤ last then ⟨a, pos⟩ :: stk a last (pos + 4) d else []
theorem stk_length (a last : Int) (d : Nat) : ∀ pos, (stk a last pos d).length ≤ d := by
  induction d with
  | zero => intro pos; exact Nat.le_refl _
  | succ d ih =>
    intro pos
    rw [stk]
    split
    · rw [List.length_cons]; have := ih (pos + 4); omega
    · simp
def stkEnd (a last : Int) (t : List S77) : List S77 := if 0 < t.length then (if (rd_T77 t ((t.length - 1 : Nat) : Int)).f1 < last then t ++ [⟨a, last⟩] else t) else t
theorem stkEnd_length (a last : Int) (t : List S77) : t.length ≤ (stkEnd a last t).length ∧ (stkEnd a last t).length ≤ t.length + 1 := by
  unfold stkEnd
  split
  · split
    · rw [List.length_append, List.length_singleton]; omega
    · omega
  · omega
def holeSt (x : S64) : List S77 := stkEnd x.f0 (x.f2 - 4) (stk x.f0 (x.f2 - 4) x.f1 501)
theorem holeSt_length (x : S64) : (holeSt x).length ≤ 502 := by
  unfold holeSt
  have h1 := stkEnd_length x.f0 (x.f2 - 4) (stk x.f0 (x.f2 - 4) x.f1 501)
  have h2 := stk_length x.f0 (x.f2 - 4) 501 x.f1
  omega
theorem holeSt_none (x : S64) : ((holeSt x).length = 0) ↔ x.f2 - x.f1 < 4 := by
  unfold holeSt
  have h1 := stkEnd_length x.f0 (x.f2 - 4) (stk x.f0 (x.f2 - 4) x.f1 501)
  have h2 : stk x.f0 (x.f2 - 4) x.f1 501 = if x.f1 ≤ x.f2 - 4 then ⟨x.f0, x.f1⟩ :: stk x.f0 (x.f2 - 4) (x.f1 + 4) 500 else [] := rfl
  by_cases h : x.f1 ≤ x.f2 - 4
  · rw [if_pos h] at h2
    have h3 : (stk x.f0 (x.f2 - 4) x.f1 501).length ≠ 0 := by rw [h2]; simp
    constructor <;> intro h4 <;> omega
  · rw [if_neg h] at h2
    constructor
    · intro _; omega
    · intro _; rw [h2]; rfl
/-- the strokes of a sheet's holes, or none if a hole is too short or there are too many strokes -/
def sheetSt (t : List S77) : List S64 → List S77 × Bool
  | [] => if t.length > 200 then ([], false) else (t, true)
  | x :: r => if (holeSt x).length = 0 then ([], false) else sheetSt (t ++ holeSt x) r
theorem sheetSt_length (r : List S64) : ∀ t, (sheetSt t r).1.length ≤ 200 := by
  induction r with
  | nil => intro t; rw [sheetSt]; split <;> simp; omega
  | cons x r ih =>
    intro t
    rw [sheetSt]
    split
    · simp
    · exact ih _
theorem chkSheet_ok (r : List S64) : ∀ p, chkSheet p r = true → ∀ x ∈ r, HoleOK x = true := by
  induction r with
  | nil => intro p _ x hx; simp at hx
  | cons y r ih =>
    intro p h x hx
    rw [chkSheet, Bool.and_eq_true, Bool.and_eq_true, Bool.and_eq_true] at h
    rcases List.mem_cons.1 hx with rfl | hx
    · exact h.1.1.1
    · exact ih _ h.2 x hx
theorem sheet_facts {l : List S64} (h : SheetB l = true) : l.length ≤ 60 ∧ ∀ x ∈ l, 0 ≤ x.f0 ∧ x.f0 ≤ 19 ∧ 0 ≤ x.f1 ∧ x.f1 < x.f2 ∧ x.f2 ≤ 2000 := by
  unfold SheetB at h
  rw [Bool.and_eq_true, decide_eq_true_eq] at h
  refine ⟨h.2, fun x hx => ?_⟩
  have := chkSheet_ok l [] h.1 x hx
  unfold HoleOK at this
  exact of_decide_eq_true this

theorem puHole_loop (a b c : Int) (hb : 0 ≤ b ∧ b ≤ 2000) (hc : 0 ≤ c ∧ c ≤ 2000) (d : Nat) : ∀ (k : Nat) (pos : Int) (t : List S77), 0 ≤ pos ∧ pos ≤ 4000 → c - 4 < pos + 4 * d → d < k → t.length + d ≤ 1000000 →
    spec_puHole.l0 k t pos a b c = some (stkEnd a (c - 4) (t ++ stk a (c - 4) pos d)) := by
  induction d with
  | zero =>
    intro k pos t hp hd hk ht
    obtain ⟨k, rfl⟩ : ∃ j, k = j + 1 := ⟨k - 1, by omega⟩
    rw [spec_puHole.l0, w64 (x := c - 4) (by omega), if_neg (by omega), stk, List.append_nil]
    unfold stkEnd
    by_cases h : 0 < t.length
    · have e1 : wrap64 ((t.length : Int) - 1) = ((t.length - 1 : Nat) : Int) := by rw [w64 (by omega)]; omega
      rw [if_pos (by omega), e1, if_pos (by omega), if_pos (by omega), if_pos h, if_pos (show t.length < 8796093022208 by omega)]
      split <;> rfl
    · rw [if_neg (by omega), if_neg h]
  | succ d ih =>
    intro k pos t hp hd hk ht
    obtain ⟨k, rfl⟩ : ∃ j, k = j + 1 := ⟨k - 1, by omega⟩
    by_cases h : pos ≤ c - 4
    · rw [spec_puHole.l0, w64 (x := c - 4) (by omega), if_pos h, if_pos (by omega), w64 (by omega), ih k (pos + 4) _ (by omega) (by omega) (by omega) (by rw [List.length_append, List.length_singleton]; omega), stk, if_pos h, List.append_assoc]
      rfl
    · have e := ih (k + 1) pos t hp (by omega) (by omega) (by omega)
      cases d with
      | zero =>
        rw [stk, if_neg h]
        rw [stk] at e
        exact e
      | succ d =>
        rw [stk, if_neg h] at e
        rw [stk, if_neg h]
        exact e
theorem puHole_eq (x : S64) (hx : 0 ≤ x.f0 ∧ x.f0 ≤ 19 ∧ 0 ≤ x.f1 ∧ x.f1 < x.f2 ∧ x.f2 ≤ 2000) (k : Nat) (hk : 600 < k) : spec_puHole.f k x.f0 x.f1 x.f2 = some (holeSt x) := by
  unfold spec_puHole.f
  rw [puHole_loop x.f0 x.f1 x.f2 (by omega) (by omega) 501 k x.f1 [] (by omega) (by omega) (by omega) (by simp), List.nil_append]
  rfl
theorem puStrokes_loop (l : List S64) (hl : l.length ≤ 60) (hx : ∀ x ∈ l, 0 ≤ x.f0 ∧ x.f0 ≤ 19 ∧ 0 ≤ x.f1 ∧ x.f1 < x.f2 ∧ x.f2 ≤ 2000) (d : Nat) : ∀ (k i : Nat) (t : List S77), i + d = l.length → d + 700 < k → t.length + 502 * d ≤ 1000000 →
    spec_puStrokes.l0 k t l l.length i = some (sheetSt t (l.drop i)) := by
  induction d with
  | zero =>
    intro k i t hi hk ht
    obtain ⟨k, rfl⟩ : ∃ j, k = j + 1 := ⟨k - 1, by omega⟩
    rw [spec_puStrokes.l0, if_neg (by omega), List.drop_of_length_le (by omega), sheetSt]
    by_cases h : t.length > 200
    · rw [if_pos (by omega), if_pos h]
    · rw [if_neg (by omega), if_neg h]
  | succ d ih =>
    intro k i t hi hk ht
    obtain ⟨k, rfl⟩ : ∃ j, k = j + 1 := ⟨k - 1, by omega⟩
    have hz := holeSt_length l[i]
    rw [spec_puStrokes.l0, if_pos (by omega), if_pos (by omega), if_pos (by omega), rdH_get l i (by omega), puHole_eq _ (hx _ (List.getElem_mem _)) k (by omega), drop_get l i (by omega), sheetSt]
    simp only [Option.bind_some]
    by_cases h : (holeSt l[i]).length = 0
    · rw [if_pos (by omega), if_pos h]
    · rw [if_neg (by omega), if_neg h, if_pos (by omega), w64 (by omega), show ((i : Int) + 1) = ((i + 1 : Nat) : Int) by omega]
      exact ih k (i + 1) _ (by omega) (by omega) (by rw [List.length_append]; omega)
theorem puStrokes_eq (l : List S64) (h : SheetB l = true) (k : Nat) (hk : 800 < k) : spec_puStrokes.f k l = some (sheetSt [] l) := by
  obtain ⟨h1, h2⟩ := sheet_facts h
  exact puStrokes_loop l h1 h2 l.length k 0 [] (by omega) (by omega) (by simp; omega)

theorem holeStrokes_loop (a b c : Int) (hb : 0 ≤ b ∧ b ≤ 2000) (hc : 0 ≤ c ∧ c ≤ 2000) (d : Nat) : ∀ (k : Nat) (pos : Int) (t : List S77), 0 ≤ pos ∧ pos ≤ 4000 → c - 4 < pos + 4 * d → d < k → t.length + d ≤ 1000000 → (t.length = 0 → pos ≤ c - 4) →
    impl_holeStrokes.l0 k t (c - 4) pos a b c = some (stkEnd a (c - 4) (t ++ stk a (c - 4) pos d), true) := by
  induction d with
  | zero =>
    intro k pos t hp hd hk ht hn
    obtain ⟨k, rfl⟩ : ∃ j, k = j + 1 := ⟨k - 1, by omega⟩
    have h : 0 < t.length := by
      by_cases h0 : t.length = 0
      · have := hn h0; omega
      · omega
    have e1 : wrap64 ((t.length : Int) - 1) = ((t.length - 1 : Nat) : Int) := by rw [w64 (by omega)]; omega
    rw [impl_holeStrokes.l0, if_neg (by omega), stk, List.append_nil, e1, if_pos (by omega), if_pos (by omega), if_pos (show t.length < 8796093022208 by omega)]
    unfold stkEnd
    rw [if_pos h]
    by_cases h2 : (rd_T77 t ((t.length - 1 : Nat) : Int)).f1 < c - 4
    · rw [if_pos h2, if_pos h2]
    · rw [if_neg h2, if_neg h2]
  | succ d ih =>
    intro k pos t hp hd hk ht hn
    obtain ⟨k, rfl⟩ : ∃ j, k = j + 1 := ⟨k - 1, by omega⟩
    by_cases h : pos ≤ c - 4
    · rw [impl_holeStrokes.l0, if_pos h, if_pos (by omega), w64 (by omega), ih k (pos + 4) _ (by omega) (by omega) (by omega) (by rw [List.length_append, List.length_singleton]; omega) (by intro h'; simp at h'), stk, if_pos h, List.append_assoc]
      rfl
    · have e := ih (k + 1) pos t hp (by omega) (by omega) (by omega) hn
      cases d with
      | zero =>
        rw [stk, if_neg h]
        rw [stk] at e
        exact e
      | succ d =>
        rw [stk, if_neg h] at e
        rw [stk, if_neg h]
        exact e
theorem holeStrokes_eq (x : S64) (hx : 0 ≤ x.f0 ∧ x.f0 ≤ 19 ∧ 0 ≤ x.f1 ∧ x.f1 < x.f2 ∧ x.f2 ≤ 2000) (k : Nat) (hk : 600 < k) : impl_holeStrokes.f k x.f0 x.f1 x.f2 = some (holeSt x, !((holeSt x).length == 0)) := by
  unfold impl_holeStrokes.f
  have hn := holeSt_none x
  rw [w64 (x := x.f2 - x.f1) (by omega), w64 (x := x.f2 - 4) (by omega)]
  by_cases h : x.f2 - x.f1 < 4
  · have h0 := hn.2 h
    rw [if_pos h, List.length_eq_zero_iff.1 h0]
    rfl
  · have h0 : ¬ (holeSt x).length = 0 := fun h' => h (hn.1 h')
    rw [if_neg h, holeStrokes_loop x.f0 x.f1 x.f2 (by omega) (by omega) 501 k x.f1 [] (by omega) (by omega) (by omega) (by simp) (by omega), List.nil_append]
    have : ((holeSt x).length == 0) = false := by simpa using h0
    rw [this]
    rfl
theorem strokesOf_loop (l : List S64) (hl : l.length ≤ 60) (hx : ∀ x ∈ l, 0 ≤ x.f0 ∧ x.f0 ≤ 19 ∧ 0 ≤ x.f1 ∧ x.f1 < x.f2 ∧ x.f2 ≤ 2000) (d : Nat) : ∀ (k i : Nat) (t : List S77), i + d = l.length → d + 700 < k → t.length + 502 * d ≤ 1000000 →
    impl_strokesOf.l0 k t l l.length i = some (sheetSt t (l.drop i)) := by
  induction d with
  | zero =>
    intro k i t hi hk ht
    obtain ⟨k, rfl⟩ : ∃ j, k = j + 1 := ⟨k - 1, by omega⟩
    rw [impl_strokesOf.l0, if_neg (by omega), List.drop_of_length_le (by omega), sheetSt]
    by_cases h : t.length > 200
    · rw [if_pos (by omega), if_pos h]
    · rw [if_neg (by omega), if_neg h]
  | succ d ih =>
    intro k i t hi hk ht
    obtain ⟨k, rfl⟩ : ∃ j, k = j + 1 := ⟨k - 1, by omega⟩
    have hz := holeSt_length l[i]
    rw [impl_strokesOf.l0, if_pos (by omega), if_pos (by omega), if_pos (by omega), rdH_get l i (by omega), holeStrokes_eq _ (hx _ (List.getElem_mem _)) k (by omega), drop_get l i (by omega), sheetSt]
    simp only [Option.bind_some]
    by_cases h : (holeSt l[i]).length = 0
    · rw [h, if_neg (by decide), if_pos rfl]
    · have : (!((holeSt l[i]).length == 0)) = true := by simpa using h
      rw [if_pos this, if_neg h, if_pos (by omega), w64 (by omega), show ((i : Int) + 1) = ((i + 1 : Nat) : Int) by omega]
      exact ih k (i + 1) _ (by omega) (by omega) (by rw [List.length_append]; omega)
theorem strokesOf_eq (l : List S64) (h : SheetB l = true) (k : Nat) (hk : 800 < k) : impl_strokesOf.f k l = some (sheetSt [] l) := by
  obtain ⟨h1, h2⟩ := sheet_facts h
  exact strokesOf_loop l h1 h2 l.length k 0 [] (by omega) (by omega) (by simp; omega)

/-- a job's strokes: its sheet's, if its number done is one of theirs -/
def jobSt (l : List S64) (n : Int) : List S77 × Bool := if SheetB l then (if (sheetSt [] l).2 then ((sheetSt [] l).1, decide (0 ≤ n ∧ n ≤ ((sheetSt [] l).1.length : Int))) else ((sheetSt [] l).1, false)) else ([], false)
theorem jobSt_length (l : List S64) (n : Int) : (jobSt l n).1.length ≤ 200 := by
  have := sheetSt_length l []
  unfold jobSt
  split
  · split <;> exact this
  · simp
theorem jobSt_done (l : List S64) (n : Int) (h : (jobSt l n).2 = true) : 0 ≤ n ∧ n ≤ ((jobSt l n).1.length : Int) := by
  unfold jobSt at h ⊢
  by_cases h1 : SheetB l = true
  · by_cases h2 : (sheetSt [] l).2 = true
    · rw [if_pos h1, if_pos h2] at h ⊢
      exact of_decide_eq_true h
    · rw [if_pos h1, if_neg h2] at h
      exact absurd h Bool.false_ne_true
  · rw [if_neg h1] at h
    exact absurd h Bool.false_ne_true
theorem specJob_eq (l : List S64) (hl : l.length ≤ 1048576) (n : Int) (k : Nat) (hk : fuelH 0 l.length + 900 ≤ k) : spec_jbStrokes.f k l n = some (jobSt l n) := by
  unfold spec_jbStrokes.f jobSt
  rw [shGood_eq l hl k (by omega)]
  simp only [Option.bind_some]
  by_cases h : SheetB l = true
  · rw [if_pos h, if_pos h, puStrokes_eq l h k (by omega)]
    simp only [Option.bind_some]
    by_cases h2 : (sheetSt [] l).2 = true
    · rw [if_pos h2, if_pos h2, in_eq]
      rfl
    · rw [if_neg h2, if_neg h2]
  · rw [if_neg h, if_neg h]
theorem implJob_eq (l : List S64) (hl : l.length ≤ 1048576) (n : Int) (k : Nat) (hk : fuelH 0 l.length + 900 ≤ k) : impl_jobStrokes.f k l n = some (jobSt l n) := by
  unfold impl_jobStrokes.f jobSt
  rw [isSheet_eq l hl k (by omega)]
  simp only [Option.bind_some]
  by_cases h : SheetB l = true
  · rw [if_pos h, if_pos h, strokesOf_eq l h k (by omega)]
    simp only [Option.bind_some]
    by_cases h2 : (sheetSt [] l).2 = true
    · rw [if_pos h2, if_pos h2]
      by_cases h3 : n ≥ 0
      · rw [if_pos h3]
        congr 2
        rw [decide_eq_decide]
        exact ⟨fun h => ⟨h3, h⟩, fun h => h.2⟩
      · rw [if_neg h3]
        congr 2
        symm
        rw [decide_eq_false_iff_not]
        exact fun h => h3 h.1
    · rw [if_neg h2, if_neg h2]
  · rw [if_neg h, if_neg h]

theorem isJob_eq (l : List S64) (hl : l.length ≤ 1048576) (n : Int) (k : Nat) (hk : fuelH 0 l.length + 900 ≤ k) : impl_IsPunchJob.f k l n = some (jobSt l n).2 := by
  unfold impl_IsPunchJob.f
  rw [implJob_eq l hl n k hk]
  rfl

theorem own_eq (l : List S64) (hl : l.length ≤ 1048576) (n : Int) : spec_jbOwn.f l n = some (l, n) := by
  unfold spec_jbOwn.f
  simp only [Option.bind_some]
  rw [if_pos (by simp; omega), List.nil_append]
theorem jobAt_eq (l : List S64) (hl : l.length ≤ 1048576) (n : Int) : impl_jobAt.f l n = some (l, n) := by
  unfold impl_jobAt.f slices_Clone_Hole.f
  rw [if_pos (by omega)]
  rfl

theorem least_mn (a b : Int) : spec_l1Least.f a b = some (mn a b) := by
  unfold spec_l1Least.f mn
  by_cases h : a < b
  · rw [if_pos h, if_neg (by omega)]
  · rw [if_neg h]
    by_cases h2 : b < a
    · rw [if_pos h2]
    · rw [if_neg h2, show a = b by omega]

theorem l1All_loop (l : List Int) (hl : l.length ≤ 1048576) (d : Nat) : ∀ (k i : Nat), i + d = l.length → d < k → spec_l1All.l0 k 0 200 l l.length i = some (decide (∀ x ∈ l.drop i, 0 ≤ x ∧ x ≤ 200)) := by
  induction d with
  | zero =>
    intro k i hi hk
    obtain ⟨k, rfl⟩ : ∃ j, k = j + 1 := ⟨k - 1, by omega⟩
    rw [spec_l1All.l0, if_neg (by omega), List.drop_of_length_le (by omega), decide_eq_true (by simp)]
  | succ d ih =>
    intro k i hi hk
    obtain ⟨k, rfl⟩ : ∃ j, k = j + 1 := ⟨k - 1, by omega⟩
    rw [spec_l1All.l0, if_pos (by omega), if_pos (by omega), if_pos (by omega), rd_get l i (by omega), in_eq, w64 (by omega), drop_get l i (by omega)]
    simp only [Option.bind_some, decide_eq_true_eq]
    split
    · rename_i h
      rw [show ((i : Int) + 1) = ((i + 1 : Nat) : Int) by omega, ih k (i + 1) (by omega) (by omega)]
      exact someD (by rw [List.forall_mem_cons]; exact ⟨fun h' => ⟨h, h'⟩, fun h' => h'.2⟩)
    · rename_i h
      exact someF (by rw [List.forall_mem_cons]; exact fun h' => h h'.1)
theorem l1All_eq (l : List Int) (hl : l.length ≤ 1048576) (k : Nat) (hk : l.length < k) : spec_l1All.f k l 0 200 = some (decide (∀ x ∈ l, 0 ≤ x ∧ x ≤ 200)) := by
  unfold spec_l1All.f
  have := l1All_loop l hl l.length k 0 (by omega) hk
  simpa using this

def splitOf (l : List S64) (n : Int) : List S64 × List S64 × Bool := if SheetB l = true ∧ 0 ≤ n ∧ n ≤ l.length then (l.take n.toNat, l.drop n.toNat, true) else ([], [], false)
theorem specSplit_eq (l : List S64) (hl : l.length ≤ 1048576) (n : Int) (k : Nat) (hk : fuelH 0 l.length < k) : spec_SplitSheet.f k l n = some (splitOf l n) := by
  unfold spec_SplitSheet.f splitOf
  rw [shGood_eq l hl _ (by omega)]
  simp only [Option.bind_some, in_eq, decide_eq_true_eq, List.nil_append, List.length_nil, Nat.zero_add]
  by_cases h : SheetB l = true
  · rw [if_pos h]
    by_cases hn : 0 ≤ n ∧ n ≤ l.length
    · rw [if_pos hn, if_pos hn.1, if_pos hn.2, if_pos (by rw [List.length_take]; omega), if_pos (by rw [List.length_drop]; omega), if_pos ⟨h, hn⟩]
    · rw [if_neg hn, if_neg (fun hh => hn hh.2)]
  · rw [if_neg h, if_neg (fun hh => h hh.1)]
theorem implSplit_eq (l : List S64) (hl : l.length ≤ 1048576) (n : Int) (k : Nat) (hk : fuelH 0 l.length < k) : impl_SplitSheet.f k l n = some (splitOf l n) := by
  obtain ⟨k, rfl⟩ : ∃ j, k = j + 1 := ⟨k - 1, by omega⟩
  unfold impl_SplitSheet.f splitOf
  rw [isSheet_eq l hl _ (by omega)]
  simp only [Option.bind_some]
  by_cases h : SheetB l = true
  · rw [if_pos h]
    by_cases h0 : n < 0
    · rw [if_pos h0, impl_SplitSheet.j0, if_pos rfl, if_neg (fun hh => by omega)]
    · rw [if_neg h0]
      by_cases h1 : n > l.length
      · rw [decide_eq_true h1, impl_SplitSheet.j0, if_pos rfl, if_neg (fun hh => by omega)]
      · rw [decide_eq_false h1, impl_SplitSheet.j0, if_neg (by decide), if_pos (by omega), if_pos (by omega)]
        unfold slices_Clone_Hole.f
        rw [if_pos (by rw [List.length_take]; omega), if_pos (by rw [List.length_drop]; omega), if_pos ⟨h, by omega, by omega⟩]
        rfl
  · rw [if_neg h, impl_SplitSheet.j0, if_pos rfl, if_neg (fun hh => h hh.1)]
theorem split_length (l : List S64) (n : Int) : (splitOf l n).1.length ≤ l.length ∧ (splitOf l n).2.1.length ≤ l.length := by
  unfold splitOf
  split
  · simp only [List.length_take, List.length_drop]; omega
  · simp

def makeOf (l : List S64) (n m : Int) : List S64 × Int × Int × Bool := if (jobSt l n).2 = true ∧ 0 ≤ m ∧ m ≤ 200 then (l, wrap64 (n + mn m (wrap64 (((jobSt l n).1.length : Int) - n))), mn m (wrap64 (((jobSt l n).1.length : Int) - n)), true) else ([], 0, 0, false)
theorem make_eq (l : List S64) (hl : l.length ≤ 1048576) (n m : Int) (k : Nat) (hk : fuelH 0 l.length + 901 ≤ k) : spec_MakeStrokes.f k l n m = some (makeOf l n m) ∧ impl_MakeStrokes.f k l n m = some (makeOf l n m) := by
  obtain ⟨k, rfl⟩ : ∃ j, k = j + 1 := ⟨k - 1, by omega⟩
  unfold spec_MakeStrokes.f impl_MakeStrokes.f makeOf
  rw [specJob_eq l hl n _ (by omega), implJob_eq l hl n _ (by omega), in_eq]
  simp only [Option.bind_some]
  rw [spec_MakeStrokes.j0, spec_MakeStrokes.j0]
  by_cases h : (jobSt l n).2 = true
  · rw [if_pos h, if_pos h]
    by_cases h2 : 0 ≤ m ∧ m ≤ 200
    · rw [if_pos (show (jobSt l n).2 = true ∧ 0 ≤ m ∧ m ≤ 200 from ⟨h, h2⟩), if_neg (show ¬ (!decide (0 ≤ m ∧ m ≤ 200)) = true by simpa using h2), if_neg (show ¬ m < 0 by omega), if_neg (show ¬ m > 200 by omega), least_mn, jobAt_eq l hl]
      simp only [Option.bind_some]
      rw [own_eq l hl]
      simp
    · rw [if_neg (show ¬ ((jobSt l n).2 = true ∧ 0 ≤ m ∧ m ≤ 200) from fun h' => h2 h'.2), if_pos (show (!decide (0 ≤ m ∧ m ≤ 200)) = true by rw [decide_eq_false h2]; rfl)]
      refine ⟨rfl, ?_⟩
      by_cases h3 : m < 0
      · rw [if_pos h3]
      · rw [if_neg h3, if_pos (by omega)]
  · rw [if_neg h, if_neg h, if_neg (show ¬ ((jobSt l n).2 = true ∧ 0 ≤ m ∧ m ≤ 200) from fun h' => h h'.1), if_pos rfl]
    exact ⟨rfl, rfl⟩

def resumeOf (l : List S64) (n m : Int) : List S64 × Int × Int × Bool := if (jobSt l n).2 = true ∧ 1 ≤ m ∧ m ≤ 50 then (l, wrap64 (n - Int.tmod n m), Int.tmod n m, true) else ([], 0, 0, false)
theorem resume_eq (l : List S64) (hl : l.length ≤ 1048576) (n m : Int) (k : Nat) (hk : fuelH 0 l.length + 900 ≤ k) : spec_ResumeAt.f k l n m = some (resumeOf l n m) ∧ impl_ResumeAt.f k l n m = some (resumeOf l n m) := by
  unfold spec_ResumeAt.f impl_ResumeAt.f resumeOf spec_jbMark.f impl_isMark.f
  rw [specJob_eq l hl n k hk, isJob_eq l hl n k hk, in_eq]
  simp only [Option.bind_some]
  by_cases h : (jobSt l n).2 = true
  · rw [if_pos h, if_pos h]
    by_cases h2 : 1 ≤ m ∧ m ≤ 50
    · rw [if_pos (show (jobSt l n).2 = true ∧ 1 ≤ m ∧ m ≤ 50 from ⟨h, h2⟩), if_pos (show decide (1 ≤ m ∧ m ≤ 50) = true from decide_eq_true h2), if_pos (show m ≥ 1 from h2.1), if_neg (show ¬ m = 0 by omega), own_eq l hl, jobAt_eq l hl]
      simp only [Option.bind_some]
      rw [if_pos (show decide (m ≤ 50) = true from decide_eq_true h2.2), if_neg (show ¬ m = 0 by omega)]
      simp
    · rw [if_neg (show ¬ ((jobSt l n).2 = true ∧ 1 ≤ m ∧ m ≤ 50) from fun h' => h2 h'.2), if_neg (show ¬ decide (1 ≤ m ∧ m ≤ 50) = true by simpa using h2)]
      refine ⟨rfl, ?_⟩
      by_cases h3 : m ≥ 1
      · rw [if_pos h3]
        simp only [Option.bind_some]
        rw [if_neg (by simp; omega)]
      · rw [if_neg h3]
        simp
  · rw [if_neg h, if_neg h, if_neg (show ¬ ((jobSt l n).2 = true ∧ 1 ≤ m ∧ m ≤ 50) from fun h' => h h'.1)]
    exact ⟨rfl, rfl⟩

def newOf (l : List S64) : List S64 × Int × Bool := if (jobSt l 0).2 = true then (l, 0, true) else ([], 0, false)
theorem new_eq (l : List S64) (hl : l.length ≤ 1048576) (k : Nat) (hk : fuelH 0 l.length + 900 ≤ k) : spec_NewPunchJob.f k l = some (newOf l) ∧ impl_NewPunchJob.f k l = some (newOf l) := by
  unfold spec_NewPunchJob.f impl_NewPunchJob.f newOf
  rw [own_eq l hl]
  simp only [Option.bind_some]
  rw [specJob_eq l hl 0 k hk, isJob_eq l hl 0 k hk]
  simp only [Option.bind_some]
  by_cases h : (jobSt l 0).2 = true
  · rw [if_pos h, if_pos h, if_pos h, jobAt_eq l hl]
    exact ⟨rfl, rfl⟩
  · rw [if_neg h, if_neg h, if_neg h]
    exact ⟨rfl, rfl⟩

def back (x m : Int) : Int := x - Int.tmod x m
theorem back_bounds (x m : Int) (hx : 0 ≤ x) (hm : 1 ≤ m) : 0 ≤ back x m ∧ back x m ≤ x := by
  unfold back
  rw [Int.tmod_eq_emod_of_nonneg hx]
  have h1 := Int.emod_nonneg x (show m ≠ 0 by omega)
  have h2 : x % m ≤ x := by
    by_cases h : x < m
    · rw [Int.emod_eq_of_lt hx h]; omega
    · have := Int.emod_lt_of_pos x (show 0 < m by omega); omega
  generalize x % m = y at h1 h2
  omega
theorem mn_bounds (a b : Int) (ha : 0 ≤ a) (hb : 0 ≤ b) : 0 ≤ mn a b ∧ mn a b ≤ a ∧ mn a b ≤ b := by
  unfold mn
  split <;> omega
theorem add_small (a b : Int) (ha : 0 ≤ a ∧ a ≤ 1000000) (hb : 0 ≤ b ∧ b ≤ 1000000) : wrap64 (a + b) = a + b := w64 (by omega)
theorem all_step (all q : Int) (i : Nat) (h : 0 ≤ all ∧ all ≤ 1000 * i) (hq : 0 ≤ q ∧ q ≤ 200) : 0 ≤ all + q ∧ all + q ≤ 1000 * ((i + 1 : Nat) : Int) := by omega
theorem some_step (b q S : Int) (h : 0 ≤ b ∧ b ≤ S) (hq : 0 ≤ q ∧ q ≤ S - b) : 0 ≤ b + q ∧ b + q ≤ S := by omega
theorem small_of (x S : Int) (h : 0 ≤ x ∧ x ≤ S) (hS : S ≤ 200) : 0 ≤ x ∧ x ≤ 1000000 := by omega
theorem small_sub (b S : Int) (h : 0 ≤ b ∧ b ≤ S) (hS : S ≤ 200) : wrap64 (S - b) = S - b := w64 (by omega)
theorem w64_small (x S : Int) (h : 0 ≤ x ∧ x ≤ S) (hS : S ≤ 200) : wrap64 x = x := w64 (by omega)
theorem sub_nonneg' (b S : Int) (h : 0 ≤ b ∧ b ≤ S) : 0 ≤ S - b := by omega
theorem run_loop (l : List S64) (hl : l.length ≤ 1048576) (S : List S77) (hS : S.length ≤ 200) (m : Int) (hm : 1 ≤ m ∧ m ≤ 50) (x : List Int) (hxl : x.length ≤ 20) (hx : ∀ n ∈ x, 0 ≤ n ∧ n ≤ 200) (d : Nat) :
    ∀ (k i : Nat) (a all : Int), i + d = x.length → d < k → (0 ≤ a ∧ a ≤ S.length) → (0 ≤ all ∧ all ≤ 1000 * i) →
    ∃ r, spec_RunWithStops.l0 k l m S a all x x.length i = some r ∧ impl_RunWithStops.l1 k l x m S (if 0 < i ∧ i < x.length then back a m else a) all x x.length i = some r ∧ r.1 = l := by
  induction d with
  | zero =>
    intro k i a all hi hk ha hall
    obtain ⟨k, rfl⟩ : ∃ j, k = j + 1 := ⟨k - 1, by omega⟩
    rw [if_neg (show ¬ (0 < i ∧ i < x.length) by omega), spec_RunWithStops.l0, impl_RunWithStops.l1, if_neg (by omega), if_neg (by omega), own_eq l hl, jobAt_eq l hl]
    exact ⟨_, rfl, rfl, rfl⟩
  | succ d ih =>
    intro k i a all hi hk ha hall
    obtain ⟨k, rfl⟩ : ∃ j, k = j + 1 := ⟨k - 1, by omega⟩
    have hlt : i < x.length := by omega
    have hxi := hx _ (List.getElem_mem hlt)
    have hbk := back_bounds a m ha.1 hm.1
    have f1 : wrap64 (a - Int.tmod a m) = back a m := by rw [show a - Int.tmod a m = back a m from rfl, w64 (by omega)]
    have f2 : ¬ m = 0 := by omega
    have hS2 : (S.length : Int) ≤ 200 := by omega
    have hall2 : 0 ≤ all ∧ all ≤ 1000000 := by omega
    have hid : i + 1 + d = x.length := by omega
    have hkd : d < k := by omega
    have hi1 : (i : Int) < (x.length : Int) := by omega
    have hi0 : 0 ≤ (i : Int) := by omega
    have e4 : wrap64 ((i : Int) + 1) = ((i + 1 : Nat) : Int) := by rw [w64 (by omega)]; omega
    have main : ∀ b : Int, 0 ≤ b ∧ b ≤ (S.length : Int) → b = (if 0 < i ∧ i < x.length then back a m else a) → ∃ r, spec_RunWithStops.l0 (k + 1) l m S a all x x.length i = some r ∧ impl_RunWithStops.l1 (k + 1) l x m S b all x x.length i = some r ∧ r.1 = l := by
      intro b hbb
      have e1 : wrap64 ((S.length : Int) - b) = (S.length : Int) - b := small_sub b _ hbb hS2
      have hmn := mn_bounds x[i] ((S.length : Int) - b) hxi.1 (sub_nonneg' b _ hbb)
      generalize hq : mn x[i] ((S.length : Int) - b) = q at hmn
      have hq2 : 0 ≤ q ∧ q ≤ 200 := ⟨hmn.1, Int.le_trans hmn.2.1 hxi.2⟩
      have hbq := some_step b q _ hbb ⟨hmn.1, hmn.2.2⟩
      have e2 : wrap64 (b + q) = b + q := w64_small _ _ hbq hS2
      have e3 : wrap64 (all + q) = all + q := add_small all q hall2 (small_of q 200 hq2 (Int.le_refl _))
      have htm2 := back_bounds (b + q) m hbq.1 hm.1
      have e5 : wrap64 (b + q - Int.tmod (b + q) m) = back (b + q) m := w64_small (back (b + q) m) _ ⟨htm2.1, Int.le_trans htm2.2 hbq.2⟩ hS2
      obtain ⟨r, h1, h2, h3⟩ := ih k (i + 1) (b + q) (all + q) hid hkd hbq (all_step all q i hall hq2)
      have g1 : ∀ h : i + 1 < x.length, 0 < i + 1 ∧ i + 1 < x.length := fun h => ⟨Nat.succ_pos i, h⟩
      have g2 : ¬ i + 1 < x.length → ¬ (0 < i + 1 ∧ i + 1 < x.length) := fun h h' => h h'.2
      intro hb
      refine ⟨r, ?_, ?_, h3⟩
      · rw [spec_RunWithStops.l0, if_pos hi1, if_pos hi0, if_pos hi1, rd_get x i hlt]
        by_cases hz : (i : Int) > 0
        · have hbe : back a m = b := by rw [hb, if_pos ⟨Int.natCast_pos.mp hz, hlt⟩]
          rw [if_pos hz, if_neg f2, f1, hbe, e1, least_mn, hq]
          simp only [Option.bind_some]
          rw [e2, e3, e4]
          exact h1
        · have hbe : b = a := by rw [hb, if_neg (fun h => hz (Int.natCast_pos.mpr h.1))]
          rw [if_neg hz, ← hbe, e1, least_mn, hq]
          simp only [Option.bind_some]
          rw [e2, e3, e4]
          exact h1
      · rw [impl_RunWithStops.l1, if_pos hi1, if_pos hi0, if_pos hi1, rd_get x i hlt, e1, hq, e2, e3, e4]
        by_cases hz : i + 1 < x.length
        · rw [if_pos (g1 hz)] at h2
          rw [if_pos (Int.ofNat_lt.2 hz), if_neg f2, e5]
          exact h2
        · rw [if_neg (g2 hz)] at h2
          rw [if_neg (fun h => hz (Int.ofNat_lt.1 h))]
          exact h2
    have hbb : 0 ≤ (if 0 < i ∧ i < x.length then back a m else a) ∧ (if 0 < i ∧ i < x.length then back a m else a) ≤ (S.length : Int) := by
      split
      · exact ⟨hbk.1, Int.le_trans hbk.2 ha.2⟩
      · exact ha
    exact main _ hbb rfl
theorem check_loop (l : List S64) (S : List S77) (m : Int) (x : List Int) (hxl : x.length ≤ 20) (d : Nat) : ∀ (k i : Nat), i + d = x.length →
    impl_RunWithStops.l0 (k + d + 1) l x m S x x.length i = if (∀ n ∈ x.drop i, 0 ≤ n ∧ n ≤ 200) then impl_RunWithStops.l0 (k + 1) l x m S x x.length x.length else some ([], 0, 0, false) := by
  induction d with
  | zero =>
    intro k i hi
    rw [List.drop_of_length_le (by omega), if_pos (by simp), show i = x.length by omega]
  | succ d ih =>
    intro k i hi
    have e4 : wrap64 ((i : Int) + 1) = ((i + 1 : Nat) : Int) := by rw [w64 (by omega)]; omega
    rw [show k + (d + 1) + 1 = (k + d + 1) + 1 by omega, impl_RunWithStops.l0, if_pos (by omega), if_pos (by omega), if_pos (by omega), rd_get x i (by omega), e4, ih k (i + 1) (by omega), drop_get x i (by omega)]
    have hc : (∀ n ∈ x[i] :: x.drop (i + 1), 0 ≤ n ∧ n ≤ 200) ↔ (0 ≤ x[i] ∧ x[i] ≤ 200) ∧ ∀ n ∈ x.drop (i + 1), 0 ≤ n ∧ n ≤ 200 := List.forall_mem_cons
    by_cases h1 : x[i] < 0
    · rw [if_pos h1, if_neg (fun h => by have := (hc.1 h).1; omega)]
    · by_cases h2 : x[i] > 200
      · rw [if_neg h1, if_pos h2, if_neg (fun h => by have := (hc.1 h).1; omega)]
      · rw [if_neg h1, if_neg h2]
        by_cases h3 : ∀ n ∈ x.drop (i + 1), 0 ≤ n ∧ n ≤ 200
        · rw [if_pos h3, if_pos (hc.2 ⟨by omega, h3⟩)]
        · rw [if_neg h3, if_neg (fun h => h3 (hc.1 h).2)]
theorem run_eq (l : List S64) (hl : l.length ≤ 1048576) (x : List Int) (hxl : x.length ≤ 1048576) (m : Int) (k : Nat) (hk : fuelH 0 l.length + x.length + 1000 ≤ k) : ∃ R, spec_RunWithStops.f k l x m = some R ∧ impl_RunWithStops.f k l x m = some R ∧ R.1.length ≤ l.length := by
  obtain ⟨k, rfl⟩ : ∃ j, k = j + 1 := ⟨k - 1, by omega⟩
  unfold spec_RunWithStops.f impl_RunWithStops.f spec_jbMark.f impl_isMark.f
  have hS := jobSt_length l 0
  rw [specJob_eq l hl 0 _ (by omega), implJob_eq l hl 0 _ (by omega), l1All_eq x hxl _ (by omega), in_eq]
  simp only [Option.bind_some]
  by_cases h : (jobSt l 0).2 = true
  · rw [if_pos h, if_pos h]
    by_cases h2 : (x.length : Int) > 20
    · rw [if_pos h2, if_pos h2, spec_RunWithStops.j0, impl_RunWithStops.j0, if_pos rfl, if_pos rfl]
      exact ⟨_, rfl, rfl, by simp⟩
    · rw [if_neg h2, if_neg h2]
      have hx20 : x.length ≤ 20 := by omega
      by_cases h4 : 1 ≤ m ∧ m ≤ 50
      · have e5 : (if m ≥ 1 then some (decide (m ≤ 50)) else some false) = some true := by rw [if_pos h4.1, decide_eq_true h4.2]
        obtain ⟨q, rfl⟩ : ∃ q, k = q + x.length + 1 := ⟨k - x.length - 1, by omega⟩
        have hq : x.length < q := by omega
        have ec := check_loop l (jobSt l 0).1 m x hx20 x.length q 0 (by omega)
        rw [List.drop_zero] at ec
        rw [e5, decide_eq_true h4]
        simp only [Option.bind_some]
        by_cases h3 : ∀ n ∈ x, 0 ≤ n ∧ n ≤ 200
        · obtain ⟨r, e1, e2, e3⟩ := run_loop l hl (jobSt l 0).1 hS m h4 x hx20 h3 x.length q 0 0 0 (by omega) hq ⟨Int.le_refl _, Int.natCast_nonneg _⟩ ⟨Int.le_refl _, Int.le_refl _⟩
          rw [if_neg (fun h => absurd h.1 (Nat.lt_irrefl 0))] at e2
          have e1' := at_rounds (g := fun k => spec_RunWithStops.l0 k l m (jobSt l 0).1 0 0 x x.length ((0 : Nat) : Int)) (fun k => (spec_RunWithStops.mono_l k).2 _ _ _ _ _ _ _ _) (show q ≤ q + x.length + 1 by omega) e1
          refine ⟨r, ?_, ?_, by rw [e3]; exact Nat.le_refl _⟩
          · rw [if_pos (decide_eq_true h3), spec_RunWithStops.j0, if_neg (by decide)]
            exact e1'
          · rw [if_pos h3] at ec
            rw [impl_RunWithStops.j0, if_neg (by decide)]
            refine Eq.trans ec ?_
            rw [impl_RunWithStops.l0, if_neg (Int.lt_irrefl _)]
            exact e2
        · refine ⟨([], 0, 0, false), ?_, ?_, by simp⟩
          · rw [if_neg (fun h => h3 (of_decide_eq_true h)), spec_RunWithStops.j0, if_pos rfl]
          · rw [if_neg h3] at ec
            rw [impl_RunWithStops.j0, if_neg (by decide)]
            exact ec
      · have e5 : (if m ≥ 1 then some (decide (m ≤ 50)) else some false) = some false := by
          by_cases h5 : m ≥ 1
          · rw [if_pos h5, decide_eq_false (fun h => h4 ⟨h5, h⟩)]
          · rw [if_neg h5]
        rw [e5, decide_eq_false h4]
        simp only [Option.bind_some]
        refine ⟨([], 0, 0, false), ?_, ?_, by simp⟩
        · split
          · rw [spec_RunWithStops.j0, if_pos (by decide)]
          · rw [spec_RunWithStops.j0, if_pos rfl]
        · rw [impl_RunWithStops.j0, if_pos (by decide)]
  · rw [if_neg h, if_neg h, spec_RunWithStops.j0, impl_RunWithStops.j0, if_pos rfl, if_pos rfl]
    exact ⟨_, rfl, rfl, by simp⟩

def cost (s e l m : Int) : Int := s / m * e + (m - 1) * l

theorem cost_bounds {s e l m : Int} (hs : 1 ≤ s ∧ s ≤ 200) (he : 0 ≤ e ∧ e ≤ 100) (hl : 0 ≤ l ∧ l ≤ 100) (hm : 1 ≤ m ∧ m ≤ 50) : 0 ≤ cost s e l m ∧ cost s e l m ≤ 100000 := by
  unfold cost
  have h1 : 0 ≤ s / m := Int.ediv_nonneg (by omega) (by omega)
  have h2 : s / m ≤ 200 := by have := Int.ediv_le_self m (show 0 ≤ s by omega); omega
  have h3 : 0 ≤ s / m * e := Int.mul_nonneg h1 he.1
  have h4 : s / m * e ≤ 200 * 100 := Int.mul_le_mul h2 he.2 he.1 (by omega)
  have h5 : 0 ≤ (m - 1) * l := Int.mul_nonneg (by omega) hl.1
  have h6 : (m - 1) * l ≤ 49 * 100 := Int.mul_le_mul (by omega) hl.2 hl.1 (by omega)
  omega

theorem cost_wrap {s e l m : Int} (hs : 1 ≤ s ∧ s ≤ 200) (he : 0 ≤ e ∧ e ≤ 100) (hl : 0 ≤ l ∧ l ≤ 100) (hm : 1 ≤ m ∧ m ≤ 50) :
    wrap64 ((wrap64 ((wrap64 (Int.tdiv s m)) * e)) + (wrap64 ((wrap64 (m - 1)) * l))) = cost s e l m := by
  have h1 : 0 ≤ s / m := Int.ediv_nonneg (by omega) (by omega)
  have h2 : s / m ≤ 200 := by have := Int.ediv_le_self m (show 0 ≤ s by omega); omega
  have h3 : 0 ≤ s / m * e := Int.mul_nonneg h1 he.1
  have h4 : s / m * e ≤ 200 * 100 := Int.mul_le_mul h2 he.2 he.1 (by omega)
  have h5 : 0 ≤ (m - 1) * l := Int.mul_nonneg (by omega) hl.1
  have h6 : (m - 1) * l ≤ 49 * 100 := Int.mul_le_mul (by omega) hl.2 hl.1 (by omega)
  rw [Int.tdiv_eq_ediv_of_nonneg (by omega)]
  rw [w64 (x := s / m) (by omega), w64 (x := m - 1) (by omega), w64 (x := s / m * e) (by omega), w64 (x := (m - 1) * l) (by omega), w64 (by omega)]
  rfl

theorem best_same {s e l : Int} (hs : 1 ≤ s ∧ s ≤ 200) (he : 0 ≤ e ∧ e ≤ 100) (hl : 0 ≤ l ∧ l ≤ 100) (d : Nat) : ∀ (k : Nat) (b c m : Int), 2 ≤ m → m = 51 - (d : Int) → 0 ≤ c → d < k →
    ∃ r, spec_BestMark.l0 k s e l b c m = some r ∧ impl_BestMark.l0 k s e l b c m = some r := by
  induction d with
  | zero =>
    intro k b c m h2 hm hc hk
    obtain ⟨k, rfl⟩ : ∃ j, k = j + 1 := ⟨k - 1, by omega⟩
    exact ⟨(b, c, true), by rw [spec_BestMark.l0, if_neg (by omega)], by rw [impl_BestMark.l0, if_neg (by omega)]⟩
  | succ d ih =>
    intro k b c m h2 hm hc hk
    obtain ⟨k, rfl⟩ : ∃ j, k = j + 1 := ⟨k - 1, by omega⟩
    have hw : wrap64 (m + 1) = m + 1 := w64 (by omega)
    have hcb := cost_bounds hs he hl (m := m) (by omega)
    have h1 : spec_BestMark.l0 (k + 1) s e l b c m = if cost s e l m < c then spec_BestMark.l0 k s e l m (cost s e l m) (m + 1) else spec_BestMark.l0 k s e l b c (m + 1) := by
      rw [spec_BestMark.l0, if_pos (by omega), if_neg (by omega), if_neg (by omega), cost_wrap hs he hl (by omega), hw]
    have h2 : impl_BestMark.l0 (k + 1) s e l b c m = if cost s e l m < c then impl_BestMark.l0 k s e l m (cost s e l m) (m + 1) else impl_BestMark.l0 k s e l b c (m + 1) := by
      rw [impl_BestMark.l0, if_pos (by omega), if_neg (by omega), if_neg (by omega), cost_wrap hs he hl (by omega), hw]
    rw [h1, h2]
    by_cases h : cost s e l m < c
    · rw [if_pos h, if_pos h]; exact ih k _ _ _ (by omega) (by omega) (by omega) (by omega)
    · rw [if_neg h, if_neg h]; exact ih k _ _ _ (by omega) (by omega) (by omega) (by omega)

theorem spec_bad {k : Nat} {s e l : Int} (h : ¬ ((1 ≤ s ∧ s ≤ 200) ∧ (0 ≤ e ∧ e ≤ 100) ∧ (0 ≤ l ∧ l ≤ 100))) : spec_BestMark.f (k + 1) s e l = some (0, 0, false) := by
  unfold spec_BestMark.f
  simp only [in_eq, Option.bind_some, decide_eq_true_eq, spec_BestMark.j0, if_true]
  split
  · split
    · rw [if_pos]; simp; omega
    · rfl
  · rfl
theorem impl_bad {k : Nat} {s e l : Int} (h : ¬ ((1 ≤ s ∧ s ≤ 200) ∧ (0 ≤ e ∧ e ≤ 100) ∧ (0 ≤ l ∧ l ≤ 100))) : impl_BestMark.f (k + 1) s e l = some (0, 0, false) := by
  unfold impl_BestMark.f
  simp only [impl_BestMark.j0, if_true]
  repeat' (split; rfl)
  rename_i h1 h2 h3 h4 h5 h6
  simp only [decide_eq_true_eq] at h6
  omega
theorem spec_good {k : Nat} {s e l : Int} (hs : 1 ≤ s ∧ s ≤ 200) (he : 0 ≤ e ∧ e ≤ 100) (hl : 0 ≤ l ∧ l ≤ 100) : spec_BestMark.f (k + 1) s e l = spec_BestMark.l0 k s e l 0 (-1) 1 := by
  unfold spec_BestMark.f
  simp [in_eq, hs, he, hl, spec_BestMark.j0]
theorem impl_good {k : Nat} {s e l : Int} (hs : 1 ≤ s ∧ s ≤ 200) (he : 0 ≤ e ∧ e ≤ 100) (hl : 0 ≤ l ∧ l ≤ 100) : impl_BestMark.f (k + 1) s e l = impl_BestMark.l0 k s e l 0 0 1 := by
  unfold impl_BestMark.f
  rw [if_neg (by omega), if_neg (by omega), if_neg (by omega), if_neg (by omega), if_neg (by omega), impl_BestMark.j0, if_neg (by simp; omega)]


def Best (s e l b c m : Int) : Prop := c = cost s e l b ∧ 1 ≤ b ∧ b < m ∧ ∀ j, 1 ≤ j → j < m → c ≤ cost s e l j ∧ (cost s e l j = c → b ≤ j)
theorem best_next {s e l b c m : Int} (h : Best s e l b c m) (hm : 2 ≤ m) : if cost s e l m < c then Best s e l m (cost s e l m) (m + 1) else Best s e l b c (m + 1) := by
  obtain ⟨h1, h2, h3, h4⟩ := h
  split
  · rename_i hc
    refine ⟨rfl, by omega, by omega, fun j j1 j2 => ?_⟩
    by_cases hj : j = m
    · subst hj; exact ⟨Int.le_refl _, fun _ => Int.le_refl _⟩
    · have := h4 j j1 (by omega)
      exact ⟨by omega, fun hh => by omega⟩
  · rename_i hc
    refine ⟨h1, h2, by omega, fun j j1 j2 => ?_⟩
    by_cases hj : j = m
    · subst hj; exact ⟨by omega, fun _ => by omega⟩
    · exact h4 j j1 (by omega)
theorem best_all {s e l : Int} (hs : 1 ≤ s ∧ s ≤ 200) (he : 0 ≤ e ∧ e ≤ 100) (hl : 0 ≤ l ∧ l ≤ 100) (d : Nat) : ∀ (k : Nat) (b c m : Int), 2 ≤ m → m = 51 - (d : Int) → 0 ≤ c → d < k → Best s e l b c m →
    ∃ b' c', spec_BestMark.l0 k s e l b c m = some (b', c', true) ∧ Best s e l b' c' 51 := by
  induction d with
  | zero =>
    intro k b c m h2 hm hc hk hb
    obtain ⟨k, rfl⟩ : ∃ j, k = j + 1 := ⟨k - 1, by omega⟩
    exact ⟨b, c, by rw [spec_BestMark.l0, if_neg (by omega)], by rw [show (51 : Int) = m by omega]; exact hb⟩
  | succ d ih =>
    intro k b c m h2 hm hc hk hb
    obtain ⟨k, rfl⟩ : ∃ j, k = j + 1 := ⟨k - 1, by omega⟩
    have hw : wrap64 (m + 1) = m + 1 := w64 (by omega)
    have hcb := cost_bounds hs he hl (m := m) (by omega)
    have hn := best_next hb h2
    rw [spec_BestMark.l0, if_pos (by omega), if_neg (by omega), if_neg (by omega), cost_wrap hs he hl (by omega), hw]
    by_cases h : cost s e l m < c
    · rw [if_pos h] at hn ⊢
      exact ih k _ _ _ (by omega) (by omega) (by omega) (by omega) hn
    · rw [if_neg h] at hn ⊢
      exact ih k _ _ _ (by omega) (by omega) (by omega) (by omega) hn
/-- both sides' best mark, and that none costs less -/
theorem best_both (s e l : Int) : ∃ R : Int × Int × Bool, (∀ k, 60 ≤ k → spec_BestMark.f k s e l = some R ∧ impl_BestMark.f k s e l = some R) ∧ (R.2.2 = true → (1 ≤ s ∧ s ≤ 200) ∧ (0 ≤ e ∧ e ≤ 100) ∧ (0 ≤ l ∧ l ≤ 100) ∧ Best s e l R.1 R.2.1 51) := by
  by_cases hg : (1 ≤ s ∧ s ≤ 200) ∧ (0 ≤ e ∧ e ≤ 100) ∧ (0 ≤ l ∧ l ≤ 100)
  · obtain ⟨hs, he, hl⟩ := hg
    have hb1 : Best s e l 1 (cost s e l 1) 2 := ⟨rfl, by omega, by omega, fun j j1 j2 => by rw [show j = 1 by omega]; exact ⟨Int.le_refl _, fun _ => Int.le_refl _⟩⟩
    obtain ⟨b', c', h1, h2⟩ := best_all hs he hl 49 50 1 (cost s e l 1) 2 (by omega) (by omega) (cost_bounds hs he hl (m := 1) (by omega)).1 (by omega) hb1
    refine ⟨(b', c', true), fun k hk => ?_, fun _ => ⟨hs, he, hl, h2⟩⟩
    obtain ⟨k, rfl⟩ : ∃ j, k = j + 1 + 1 := ⟨k - 2, by omega⟩
    obtain ⟨r, g1, g2⟩ := best_same hs he hl 49 k 1 (cost s e l 1) 2 (by omega) (by omega) (cost_bounds hs he hl (m := 1) (by omega)).1 (by omega)
    have h1' := at_rounds (g := fun k => spec_BestMark.l0 k s e l 1 (cost s e l 1) 2) (fun k => (spec_BestMark.mono_l k).2 _ _ _ _ _ _) (show 50 ≤ k by omega) h1
    have er : r = (b', c', true) := by
      have := g1.symm.trans h1'
      exact Option.some.inj this
    subst er
    refine ⟨?_, ?_⟩
    · rw [spec_good hs he hl, spec_BestMark.l0, if_pos (by omega), if_neg (by omega), if_pos (by omega), cost_wrap hs he hl (by omega), show wrap64 (1 + 1) = 2 by unfold wrap64; omega]; exact g1
    · rw [impl_good hs he hl, impl_BestMark.l0, if_pos (by omega), if_neg (by omega), if_pos rfl, cost_wrap hs he hl (by omega), show wrap64 (1 + 1) = 2 by unfold wrap64; omega]; exact g2
  · refine ⟨(0, 0, false), fun k hk => ?_, fun h => by simp at h⟩
    obtain ⟨k, rfl⟩ : ∃ j, k = j + 1 := ⟨k - 1, by omega⟩
    exact ⟨spec_bad hg, impl_bad hg⟩

theorem qSheet_loop (l : List S64) (hl : l.length ≤ 1048576) (d : Nat) : ∀ (k i : Nat), i + d = l.length → d < k → laws_qSheet.l0 k l l l.length i = some true := by
  induction d with
  | zero =>
    intro k i hi hk
    obtain ⟨k, rfl⟩ : ∃ j, k = j + 1 := ⟨k - 1, by omega⟩
    rw [laws_qSheet.l0, if_neg (by omega)]
  | succ d ih =>
    intro k i hi hk
    obtain ⟨k, rfl⟩ : ∃ j, k = j + 1 := ⟨k - 1, by omega⟩
    rw [laws_qSheet.l0, if_pos (by omega), if_pos (by omega), if_pos (by omega), if_pos (by omega), if_neg (by simp), w64 (by omega), show ((i : Int) + 1) = ((i + 1 : Nat) : Int) by omega]
    exact ih k (i + 1) (by omega) (by omega)
theorem qSheet_self (l : List S64) (hl : l.length ≤ 1048576) (k : Nat) (hk : l.length < k) : laws_qSheet.f k l l = some true := by
  unfold laws_qSheet.f
  rw [if_pos rfl]
  exact qSheet_loop l hl l.length k 0 (by omega) hk
theorem qJob_self (l : List S64) (hl : l.length ≤ 1048576) (n : Int) (k : Nat) (hk : l.length < k) : laws_qJob.f k l n l n = some true := by
  unfold laws_qJob.f
  rw [if_pos rfl, qSheet_self l hl k hk]
  rfl

theorem chk_append (a : List S64) : ∀ (p b : List S64), chkSheet p (a ++ b) = (chkSheet p a && chkSheet (p ++ a) b) := by
  induction a with
  | nil => intro p b; simp [chkSheet]
  | cons x r ih => intro p b; simp [chkSheet, ih, Bool.and_assoc]
theorem chk_weak (r : List S64) : ∀ (q p : List S64), chkSheet (q ++ p) r = true → chkSheet p r = true := by
  induction r with
  | nil => intro q p _; rfl
  | cons x r ih =>
    intro q p h
    simp only [chkSheet, Bool.and_eq_true] at h ⊢
    obtain ⟨⟨⟨h1, h2⟩, h3⟩, h4⟩ := h
    refine ⟨⟨⟨h1, ?_⟩, ?_⟩, ?_⟩
    · unfold lastOK at h2 ⊢
      cases p with
      | nil => rfl
      | cons y p =>
        obtain ⟨z, hz⟩ : ∃ z, (y :: p).getLast? = some z := ⟨_, List.getLast?_eq_some_getLast (by simp)⟩
        rw [List.getLast?_append, hz] at h2
        rw [hz]
        exact h2
    · unfold apartOK at h3 ⊢
      rw [List.all_append, Bool.and_eq_true] at h3
      exact h3.2
    · rw [List.append_assoc] at h4
      exact ih q _ h4
theorem sheet_take {l : List S64} (h : SheetB l = true) (n : Nat) : SheetB (l.take n) = true ∧ SheetB (l.drop n) = true := by
  unfold SheetB at *
  simp only [Bool.and_eq_true, decide_eq_true_eq] at *
  have e := chk_append (l.take n) [] (l.drop n)
  rw [List.take_append_drop, h.1, List.nil_append] at e
  have e2 := Bool.and_eq_true_iff.1 e.symm
  refine ⟨⟨e2.1, by rw [List.length_take]; omega⟩, ⟨chk_weak _ (l.take n) [] (by rw [List.append_nil]; exact e2.2), by rw [List.length_drop]; omega⟩⟩

def RunCond (l : List S64) (x : List Int) (m : Int) : Prop := (jobSt l 0).2 = true ∧ x.length ≤ 20 ∧ (∀ n ∈ x, 0 ≤ n ∧ n ≤ 200) ∧ 1 ≤ m ∧ m ≤ 50
theorem run_form (l : List S64) (hl : l.length ≤ 1048576) (x : List Int) (hxl : x.length ≤ 1048576) (m : Int) (k : Nat) (hk : fuelH 0 l.length + x.length + 1000 ≤ k) :
    (RunCond l x m → spec_RunWithStops.f (k + 1) l x m = spec_RunWithStops.l0 k l m (jobSt l 0).1 0 0 x x.length ((0 : Nat) : Int)) ∧ (¬ RunCond l x m → spec_RunWithStops.f (k + 1) l x m = some ([], 0, 0, false)) := by
  unfold spec_RunWithStops.f spec_jbMark.f RunCond
  rw [specJob_eq l hl 0 _ (by omega), l1All_eq x hxl _ (by omega), in_eq]
  simp only [Option.bind_some]
  refine ⟨fun ⟨h1, h2, h3, h4⟩ => ?_, fun h => ?_⟩
  · rw [if_pos h1, if_neg (by omega), if_pos (decide_eq_true h3), spec_RunWithStops.j0, if_neg (by rw [decide_eq_true h4]; decide)]
    rfl
  · by_cases h1 : (jobSt l 0).2 = true
    · rw [if_pos h1]
      by_cases h2 : (x.length : Int) > 20
      · rw [if_pos h2, spec_RunWithStops.j0, if_pos rfl]
      · rw [if_neg h2]
        by_cases h3 : ∀ n ∈ x, 0 ≤ n ∧ n ≤ 200
        · rw [if_pos (decide_eq_true h3), spec_RunWithStops.j0, if_pos (by rw [decide_eq_false (fun h4 => h ⟨h1, by omega, h3, h4⟩)]; rfl)]
        · rw [if_neg (fun h5 => h3 (of_decide_eq_true h5)), spec_RunWithStops.j0, if_pos rfl]
    · rw [if_neg h1, spec_RunWithStops.j0, if_pos rfl]
theorem jobSt_at {l : List S64} (h : (jobSt l 0).2 = true) (n : Int) (hn : 0 ≤ n ∧ n ≤ ((jobSt l 0).1.length : Int)) : (jobSt l n).2 = true ∧ (jobSt l n).1 = (jobSt l 0).1 := by
  unfold jobSt at *
  by_cases h1 : SheetB l = true
  · by_cases h2 : (sheetSt [] l).2 = true
    · simp only [if_pos h1, if_pos h2] at hn ⊢
      exact ⟨decide_eq_true hn, trivial⟩
    · rw [if_pos h1, if_neg h2] at h
      exact absurd h Bool.false_ne_true
  · rw [if_neg h1] at h
    exact absurd h Bool.false_ne_true
theorem runs_law (l : List S64) (hl : l.length ≤ 1048576) (hok : (jobSt l 0).2 = true) (m : Int) (hm : 1 ≤ m ∧ m ≤ 50) (x : List Int) (hxl : x.length ≤ 20) (hx : ∀ n ∈ x, 0 ≤ n ∧ n ≤ 200) (d : Nat) :
    ∀ (i : Nat) (a all : Int), i + d = x.length → (0 ≤ a ∧ a ≤ ((jobSt l 0).1.length : Int)) → (0 ≤ all ∧ all ≤ 1000 * i) → a ≤ all →
    ∃ A ALL : Int, A ≤ ALL ∧ (∀ k, d < k → spec_RunWithStops.l0 k l m (jobSt l 0).1 a all x x.length i = some (l, A, ALL, true)) ∧ Tot (fun k => laws_FnStops.l1 k m ALL all x x.length i l A l a) (fun r => r = true) := by
  have hS := jobSt_length l 0
  induction d with
  | zero =>
    intro i a all hi ha hall hle
    refine ⟨a, all, hle, fun k hk => ?_, ?_⟩
    · obtain ⟨k, rfl⟩ : ∃ j, k = j + 1 := ⟨k - 1, by omega⟩
      rw [spec_RunWithStops.l0, if_neg (by omega), own_eq l hl]
      rfl
    · refine Tot.step (h := fun k => (laws_qJob.f k l a l a).bind fun t755 => (if t755 = true then (if all = all then (some (decide (all ≥ a))) else (some false)) else (some false))) (fun k => by rw [laws_FnStops.l1, if_neg (by omega)]) ?_
      refine Tot.bind (Q := fun t => t = true) (Tot.ge true (l.length + 1) (fun k hk => qJob_self l hl a k (by omega)) rfl) (fun t ht => ?_)
      subst ht
      exact Tot.now true (fun k => by rw [if_pos rfl, if_pos rfl, decide_eq_true hle]) rfl
  | succ d ih =>
    intro i a all hi ha hall hle
    have hlt : i < x.length := by omega
    have hxi := hx _ (List.getElem_mem hlt)
    have hbk := back_bounds a m ha.1 hm.1
    have f1 : wrap64 (a - Int.tmod a m) = back a m := by rw [show a - Int.tmod a m = back a m from rfl, w64 (by omega)]
    have f2 : ¬ m = 0 := by omega
    have hS2 : ((jobSt l 0).1.length : Int) ≤ 200 := by omega
    have hall2 : 0 ≤ all ∧ all ≤ 1000000 := by omega
    have hi1 : (i : Int) < (x.length : Int) := by omega
    have hi0 : 0 ≤ (i : Int) := by omega
    have e4 : wrap64 ((i : Int) + 1) = ((i + 1 : Nat) : Int) := w_next i (by omega)
    have hid : i + 1 + d = x.length := by omega
    generalize hSv : (jobSt l 0).1 = S at *
    have main : ∀ b : Int, 0 ≤ b ∧ b ≤ (S.length : Int) → b ≤ a → ((i : Int) > 0 → b = back a m) → (¬ (i : Int) > 0 → b = a) →
        ∃ A ALL : Int, A ≤ ALL ∧ (∀ k, d + 1 < k → spec_RunWithStops.l0 k l m S a all x x.length i = some (l, A, ALL, true)) ∧ Tot (fun k => laws_FnStops.l1 k m ALL all x x.length i l A l a) (fun r => r = true) := by
      intro b hbb hba b1 b2
      have e1 : wrap64 ((S.length : Int) - b) = (S.length : Int) - b := small_sub b _ hbb hS2
      have hmn := mn_bounds x[i] ((S.length : Int) - b) hxi.1 (sub_nonneg' b _ hbb)
      generalize hq : mn x[i] ((S.length : Int) - b) = q at hmn
      have hq2 : 0 ≤ q ∧ q ≤ 200 := ⟨hmn.1, Int.le_trans hmn.2.1 hxi.2⟩
      have hbq := some_step b q _ hbb ⟨hmn.1, hmn.2.2⟩
      have e2 : wrap64 (b + q) = b + q := w64_small _ _ hbq hS2
      have e3 : wrap64 (all + q) = all + q := add_small all q hall2 (small_of q 200 hq2 (Int.le_refl _))
      obtain ⟨A, ALL, hA, hs, ht⟩ := ih (i + 1) (b + q) (all + q) hid hbq (all_step all q i hall hq2) (Int.add_le_add_right (Int.le_trans hba hle) q)
      have hj := jobSt_at hok b (by rw [hSv]; exact hbb)
      have hmk : makeOf l b x[i] = (l, b + q, q, true) := by
        unfold makeOf
        rw [if_pos ⟨hj.1, hxi⟩, hj.2, hSv, e1, hq, e2]
      refine ⟨A, ALL, hA, fun k hk => ?_, ?_⟩
      · obtain ⟨k, rfl⟩ : ∃ j, k = j + 1 := ⟨k - 1, by omega⟩
        have hs' := hs k (by omega)
        rw [spec_RunWithStops.l0, if_pos hi1, if_pos hi0, if_pos hi1, rd_get x i hlt]
        by_cases hz : (i : Int) > 0
        · rw [if_pos hz, if_neg f2, f1, ← b1 hz, e1, least_mn, hq]
          simp only [Option.bind_some]
          rw [e2, e3, e4]
          exact hs'
        · rw [if_neg hz, ← b2 hz, e1, least_mn, hq]
          simp only [Option.bind_some]
          rw [e2, e3, e4]
          exact hs'
      · have next : Tot (fun k => laws_FnStops.j6 k m ALL all x[i] x x.length i l A l b) (fun r => r = true) := by
          refine Tot.step (h := fun k => (impl_MakeStrokes.f k l b x[i]).bind fun bt772 => ((spec_MakeStrokes.f k l b x[i]).bind fun bt779 => (if bt772.2.2.2 = true then (if bt779.2.2.2 = true then ((laws_qJob.f k bt772.1 bt772.2.1 bt779.1 bt779.2.1).bind fun t786 => (if t786 = true then (if bt772.2.2.1 = bt779.2.2.1 then (laws_FnStops.l1 k m ALL (wrap64 (all + bt779.2.2.1)) x x.length (wrap64 ((i : Int) + 1)) l A bt779.1 bt779.2.1) else (some false)) else (some false))) else (some false)) else (some false)))) (fun k => by rw [laws_FnStops.j6]) ?_
          refine Tot.bind (Q := fun t => t = (l, b + q, q, true)) (Tot.ge _ (fuelH 0 l.length + 901) (fun k hk => by rw [(make_eq l hl b x[i] k hk).2]) hmk) (fun t ht => ?_)
          subst ht
          refine Tot.bind (Q := fun t => t = (l, b + q, q, true)) (Tot.ge _ (fuelH 0 l.length + 901) (fun k hk => by rw [(make_eq l hl b x[i] k hk).1]) hmk) (fun t ht2 => ?_)
          subst ht2
          refine Tot.congr (h := fun k => (laws_qJob.f k l (b + q) l (b + q)).bind fun t786 => (if t786 = true then laws_FnStops.l1 k m ALL (all + q) x x.length ((i + 1 : Nat) : Int) l A l (b + q) else some false)) (fun k => by dsimp only; rw [if_pos rfl, if_pos rfl, e3, e4]; simp only [if_true]) ?_
          refine Tot.bind (Q := fun t => t = true) (Tot.ge true (l.length + 1) (fun k hk => qJob_self l hl (b + q) k (by omega)) rfl) (fun t ht3 => ?_)
          subst ht3
          exact Tot.congr (fun k => if_pos rfl) ht
        by_cases hz : (i : Int) > 0
        · have hja := jobSt_at hok a (by rw [hSv]; exact ha)
          have hrs : resumeOf l a m = (l, b, Int.tmod a m, true) := by
            unfold resumeOf
            rw [if_pos ⟨hja.1, hm⟩, f1, b1 hz]
          refine Tot.step (h := fun k => (impl_ResumeAt.f k l a m).bind fun bt757 => ((spec_ResumeAt.f k l a m).bind fun bt764 => (if bt757.2.2.2 = true then (if bt764.2.2.2 = true then ((laws_qJob.f k bt757.1 bt757.2.1 bt764.1 bt764.2.1).bind fun t771 => (if t771 = true then (laws_FnStops.j6 k m ALL all x[i] x x.length i l A bt764.1 bt764.2.1) else (some false))) else (some false)) else (some false)))) (fun k => by rw [laws_FnStops.l1, if_pos hi1, if_pos hi0, if_pos hi1, if_pos hz, rd_get x i hlt]) ?_
          refine Tot.bind (Q := fun t => t = (l, b, Int.tmod a m, true)) (Tot.ge _ (fuelH 0 l.length + 900) (fun k hk => by rw [(resume_eq l hl a m k hk).2]) hrs) (fun t ht => ?_)
          subst ht
          refine Tot.bind (Q := fun t => t = (l, b, Int.tmod a m, true)) (Tot.ge _ (fuelH 0 l.length + 900) (fun k hk => by rw [(resume_eq l hl a m k hk).1]) hrs) (fun t ht2 => ?_)
          subst ht2
          refine Tot.congr (h := fun k => (laws_qJob.f k l b l b).bind fun t786 => (if t786 = true then laws_FnStops.j6 k m ALL all x[i] x x.length i l A l b else some false)) (fun k => by dsimp only; rw [if_pos rfl, if_pos rfl]) ?_
          refine Tot.bind (Q := fun t => t = true) (Tot.ge true (l.length + 1) (fun k hk => qJob_self l hl b k (by omega)) rfl) (fun t ht3 => ?_)
          subst ht3
          exact Tot.congr (fun k => if_pos rfl) next
        · refine Tot.step (h := fun k => laws_FnStops.j6 k m ALL all x[i] x x.length i l A l b) (fun k => by rw [laws_FnStops.l1, if_pos hi1, if_pos hi0, if_pos hi1, if_neg hz, rd_get x i hlt, b2 hz]) next
    by_cases hz : (i : Int) > 0
    · exact main (back a m) ⟨hbk.1, Int.le_trans hbk.2 ha.2⟩ hbk.2 (fun _ => rfl) (fun h => absurd hz h)
    · exact main a ha (Int.le_refl _) (fun h => absurd h hz) (fun _ => rfl)

theorem stops_run (l : List S64) (hl : l.length ≤ 1048576) (x : List Int) (hx : x.length ≤ 1048576) (m : Int) :
    ∃ R : List S64 × Int × Int × Bool, (∀ k, fuelH 0 l.length + x.length + 2000 ≤ k → spec_RunWithStops.f k l x m = some R ∧ impl_RunWithStops.f k l x m = some R) ∧ R.1.length ≤ l.length ∧ Tot (fun k => laws_FnStops.j3 k l x m R.2.2.2 R.2.2.1 R.1 R.2.1) (fun r => r = true) := by
  have both : ∀ R : List S64 × Int × Int × Bool, (∀ k, fuelH 0 l.length + x.length + 2000 ≤ k → spec_RunWithStops.f k l x m = some R) → ∀ k, fuelH 0 l.length + x.length + 2000 ≤ k → spec_RunWithStops.f k l x m = some R ∧ impl_RunWithStops.f k l x m = some R := by
    intro R h k hk
    obtain ⟨R', e1, e2, _⟩ := run_eq l hl x hx m k (by omega)
    rw [h k hk] at e1
    exact ⟨h k hk, by rw [e2, ← Option.some.inj e1]⟩
  by_cases c : RunCond l x m
  · obtain ⟨A, ALL, hA, hs, ht⟩ := runs_law l hl c.1 m c.2.2.2 x c.2.1 c.2.2.1 x.length 0 0 0 (by omega) ⟨Int.le_refl _, Int.natCast_nonneg _⟩ ⟨Int.le_refl _, Int.le_refl _⟩ (Int.le_refl _)
    refine ⟨(l, A, ALL, true), both _ (fun k hk => ?_), Nat.le_refl _, ?_⟩
    · obtain ⟨k, rfl⟩ : ∃ j, k = j + 1 := ⟨k - 1, by omega⟩
      rw [(run_form l hl x hx m k (by omega)).1 c]
      exact hs k (by omega)
    · have hn : newOf l = (l, 0, true) := by unfold newOf; rw [if_pos c.1]
      refine Tot.step (h := fun k => (impl_NewPunchJob.f k l).bind fun bt742 => ((spec_NewPunchJob.f k l).bind fun bt748 => (if bt742.2.2 = true then (if bt748.2.2 = true then ((laws_qJob.f k bt742.1 bt742.2.1 bt748.1 bt748.2.1).bind fun t754 => (laws_FnStops.j4 k x m ALL (!t754) l A bt748.1 bt748.2.1)) else (laws_FnStops.j4 k x m ALL true l A bt748.1 bt748.2.1)) else (laws_FnStops.j4 k x m ALL true l A bt748.1 bt748.2.1)))) (fun k => by rw [laws_FnStops.j3, if_pos rfl]) ?_
      refine Tot.bind (Q := fun t => t = (l, 0, true)) (Tot.ge _ (fuelH 0 l.length + 900) (fun k hk => by rw [(new_eq l hl k hk).2]) hn) (fun t ht1 => ?_)
      subst ht1
      refine Tot.bind (Q := fun t => t = (l, 0, true)) (Tot.ge _ (fuelH 0 l.length + 900) (fun k hk => by rw [(new_eq l hl k hk).1]) hn) (fun t ht2 => ?_)
      subst ht2
      refine Tot.congr (h := fun k => (laws_qJob.f k l 0 l 0).bind fun t754 => (laws_FnStops.j4 k x m ALL (!t754) l A l 0)) (fun k => by dsimp only; rw [if_pos rfl, if_pos rfl]) ?_
      refine Tot.bind (Q := fun t => t = true) (Tot.ge true (l.length + 1) (fun k hk => qJob_self l hl 0 k (by omega)) rfl) (fun t ht3 => ?_)
      subst ht3
      exact Tot.step (h := fun k => laws_FnStops.l1 k m ALL 0 x x.length ((0 : Nat) : Int) l A l 0) (fun k => by rw [laws_FnStops.j4, if_neg (by decide)]; rfl) ht
  · refine ⟨([], 0, 0, false), both _ (fun k hk => ?_), Nat.zero_le _, ?_⟩
    · obtain ⟨k, rfl⟩ : ∃ j, k = j + 1 := ⟨k - 1, by omega⟩
      exact (run_form l hl x hx m k (by omega)).2 c
    · exact Tot.step (h := fun _ => some true) (fun k => by rw [laws_FnStops.j3, if_neg (by simp)]) (Tot.now true (fun _ => rfl) rfl)
theorem law_j2 (l : List S64) (x : List Int) (m : Int) (ok : Bool) (made : Int) (a : List S64) (hl : a.length ≤ 1048576) (n : Int) (jl : List S64) (jn : Int) {Q : Bool → Prop} (ht : Tot (fun k => laws_FnStops.j3 k l x m ok made jl jn) Q) :
    Tot (fun k => laws_FnStops.j2 k l x m ok made a n (splitOf a n).1 (splitOf a n).2.1 (splitOf a n).2.2 (splitOf a n).1 (splitOf a n).2.1 jl jn) Q := by
  by_cases h : SheetB a = true ∧ 0 ≤ n ∧ n ≤ a.length
  · have hc : splitOf a n = (a.take n.toNat, a.drop n.toNat, true) := by unfold splitOf; rw [if_pos h]
    obtain ⟨s1, s2⟩ := sheet_take h.1 n.toNat
    rw [hc]
    refine Tot.step (h := fun k => (laws_qSheet.f k a a).bind fun t739 => (if t739 = true then ((impl_IsSheet.f k (a.take n.toNat)).bind fun t740 => (if t740 = true then ((impl_IsSheet.f k (a.drop n.toNat)).bind fun t741 => (if t741 = true then (laws_FnStops.j3 k l x m ok made jl jn) else (some false))) else (some false))) else (some false))) (fun k => ?_) ?_
    · rw [laws_FnStops.j2, if_pos rfl]
      simp only [Option.bind_some, List.nil_append, List.length_nil, Nat.zero_add]
      rw [if_pos (by rw [List.length_take]; omega), if_pos (by rw [List.length_take, List.length_drop]; omega), List.take_append_drop, if_pos (by rw [List.length_take]; omega)]
    · refine Tot.bind (Q := fun t => t = true) (Tot.ge true (a.length + 1) (fun k hk => qSheet_self a hl k (by omega)) rfl) (fun t h3 => ?_)
      subst h3
      refine Tot.congr (fun k => if_pos rfl) ?_
      refine Tot.bind (Q := fun t => t = true) (Tot.ge true (fuelH 0 (a.take n.toNat).length) (fun k hk => by rw [isSheet_eq _ (by rw [List.length_take]; omega) k hk, s1]) rfl) (fun t h3 => ?_)
      subst h3
      refine Tot.congr (fun k => if_pos rfl) ?_
      refine Tot.bind (Q := fun t => t = true) (Tot.ge true (fuelH 0 (a.drop n.toNat).length) (fun k hk => by rw [isSheet_eq _ (by rw [List.length_drop]; omega) k hk, s2]) rfl) (fun t h3 => ?_)
      subst h3
      exact Tot.congr (fun k => if_pos rfl) ht
  · have hc : splitOf a n = ([], [], false) := by unfold splitOf; rw [if_neg h]
    rw [hc]
    exact Tot.step (fun k => by rw [laws_FnStops.j2, if_neg (by simp)]) ht
theorem law_l0 {s e c b v : Int} (hs : 1 ≤ s ∧ s ≤ 200) (he : 0 ≤ e ∧ e ≤ 100) (hc : 0 ≤ c ∧ c ≤ 100) (hb : Best s e c b v 51) (l : List S64) (x : List Int) (m : Int) (ok : Bool) (made : Int) (a : List S64) (n : Int) (p1 p2 : List S64) (p3 : Bool) (p4 p5 : List S64) (jl : List S64) (jn : Int) {Q : Bool → Prop}
    (ht : Tot (fun k => laws_FnStops.j2 k l x m ok made a n p1 p2 p3 p4 p5 jl jn) Q) (d : Nat) : ∀ o : Int, 1 ≤ o → o = 51 - (d : Int) → Tot (fun k => laws_FnStops.l0 k l x m ok made s e c b v a n p1 p2 p3 p4 p5 o jl jn) Q := by
  induction d with
  | zero =>
    intro o h1 h2
    exact Tot.step (fun k => by rw [laws_FnStops.l0, if_neg (by omega)]) ht
  | succ d ih =>
    intro o h1 h2
    have hw : wrap64 (o + 1) = o + 1 := w64 (by omega)
    obtain ⟨g1, g2⟩ := hb.2.2.2 o h1 (by omega)
    refine Tot.step (h := fun k => laws_FnStops.l0 k l x m ok made s e c b v a n p1 p2 p3 p4 p5 (o + 1) jl jn) (fun k => ?_) (ih (o + 1) (by omega) (by omega))
    rw [laws_FnStops.l0, if_pos (by omega), if_neg (by omega), cost_wrap hs he hc (by omega), hw, if_neg (Int.not_lt.2 g1)]
    by_cases h3 : cost s e c o = v
    · have := g2 h3
      rw [if_pos h3, if_neg (Int.not_lt.2 this)]
      split <;> rfl
    · rw [if_neg h3, if_neg (fun h4 => h3 (by rw [h4]; exact hb.1.symm))]
theorem law_j0 (s e c : Int) (R : Int × Int × Bool) (hR : R.2.2 = true → (1 ≤ s ∧ s ≤ 200) ∧ (0 ≤ e ∧ e ≤ 100) ∧ (0 ≤ c ∧ c ≤ 100) ∧ Best s e c R.1 R.2.1 51) (l : List S64) (x : List Int) (m : Int) (ok : Bool) (made : Int) (a : List S64) (n : Int) (p1 p2 : List S64) (p3 : Bool) (p4 p5 : List S64) (jl : List S64) (jn : Int) {Q : Bool → Prop}
    (ht : Tot (fun k => laws_FnStops.j2 k l x m ok made a n p1 p2 p3 p4 p5 jl jn) Q) : Tot (fun k => laws_FnStops.j0 k l x m ok made s e c R.2.2 R.1 R.2.1 a n p1 p2 p3 p4 p5 false jl jn) Q := by
  by_cases h : R.2.2 = true
  · obtain ⟨h1, h2, h3, h4⟩ := hR h
    exact Tot.step (fun k => by rw [laws_FnStops.j0, if_neg (by decide), if_pos h]) (law_l0 h1 h2 h3 h4 l x m ok made a n p1 p2 p3 p4 p5 jl jn ht 50 1 (by omega) (by omega))
  · exact Tot.step (fun k => by rw [laws_FnStops.j0, if_neg (by decide), if_neg h]) ht

theorem u8_wf (l : List Int) (h : ∀ x ∈ l, (Lit.int .u8 x).wf = true) : ∀ x ∈ l, 0 ≤ x ∧ x ≤ 255 := fun x hx => by
  have := h x hx
  simpa [Lit.wf, IntKind.min, IntKind.max, IntKind.signed, IntKind.bits] using this
theorem FnStops : laws_FnStops.Pure := by
  intro l0 l1 m0 _ w0 m1 _ w1
  unfold maxLen at m0 m1
  by_cases hb : (wrap64 ((l0.length : Int) + (l1.length : Int))) > 1048576
  · exact ⟨0, by unfold laws_FnStops.f; rw [if_pos hb]⟩
  · have hb' := hb
    rw [w64 (by omega)] at hb'
    have b0 : Bytes l0 := ⟨by omega, u8_wf l0 w0⟩
    have b1 : Bytes l1 := ⟨by omega, u8_wf l1 w1⟩
    have key : Tot (fun k => laws_FnStops.f k l0 l1) (fun r => r = true) := by
      refine Tot.congr (fun k => by unfold laws_FnStops.f; exact if_neg hb) ?_
      refine Tot.bind (drawRun_tot l0 b0) (fun q hq => ?_)
      obtain ⟨l, x, m⟩ := q
      have hl : l.length ≤ 61 := hq.1
      have hx : x.length ≤ 30 := hq.2
      obtain ⟨R, hR, hRl, hj3⟩ := stops_run l (by omega) x (by omega) m
      refine Tot.bind (Q := fun t => t = R) (Tot.ge R (fuelH 0 l.length + x.length + 2000) (fun k hk => (hR k hk).2) rfl) (fun t ht => ?_)
      subst ht
      refine Tot.bind (Q := fun t' => t' = t) (Tot.ge t (fuelH 0 l.length + x.length + 2000) (fun k hk => (hR k hk).1) rfl) (fun t' ht => ?_)
      subst ht
      obtain ⟨s, e, c, eB⟩ := drawBest_ok l1 b1
      refine Tot.bind (Q := fun u => u = (s, e, c)) (Tot.now _ (fun _ => eB) rfl) (fun u hu => ?_)
      subst hu
      obtain ⟨R2, g2, hR2⟩ := best_both s e c
      refine Tot.bind (Q := fun u => u = R2) (Tot.ge R2 60 (fun k hk => (g2 k hk).2) rfl) (fun u hu => ?_)
      subst hu
      refine Tot.bind (Q := fun u' => u' = u) (Tot.ge u 60 (fun k hk => (g2 k hk).1) rfl) (fun u' hu => ?_)
      subst hu
      refine Tot.bind (drawSplit_tot l1 b1) (fun q hq2 => ?_)
      obtain ⟨a, n⟩ := q
      have ha : a.length ≤ 61 := hq2
      refine Tot.bind (Q := fun y => y = splitOf a n) (Tot.ge _ (fuelH 0 a.length + 1) (fun k hk => implSplit_eq a (by omega) n k (by omega)) rfl) (fun y hy => ?_)
      refine Tot.bind (Q := fun y => y = splitOf a n) (Tot.ge _ (fuelH 0 a.length + 1) (fun k hk => specSplit_eq a (by omega) n k (by omega)) rfl) (fun z hz => ?_)
      subst hz
      subst hy
      have hsl := split_length a n
      have hj2 := law_j0 s e c u' hR2 l x m t'.2.2.2 t'.2.2.1 a n _ _ _ _ _ t'.1 t'.2.1 (law_j2 l x m t'.2.2.2 t'.2.2.1 a (by omega) n t'.1 t'.2.1 hj3)
      refine Tot.congr (fun k => if_neg (by simp)) ?_
      refine Tot.bind (Q := fun t => t = true) (Tot.ge true (t'.1.length + 1) (fun k hk => qJob_self t'.1 (by omega) t'.2.1 k (by omega)) rfl) (fun t h3 => ?_)
      subst h3
      refine Tot.congr (fun k => (if_pos rfl).trans ((if_pos rfl).trans ((if_neg (by simp)).trans ((if_pos rfl).trans ((if_pos rfl).trans (if_neg (by simp))))))) ?_
      refine Tot.bind (Q := fun t => t = true) (Tot.ge true ((splitOf a n).1.length + 1) (fun k hk => qSheet_self _ (by omega) k (by omega)) rfl) (fun t h3 => ?_)
      subst h3
      refine Tot.congr (fun k => if_pos rfl) ?_
      refine Tot.bind (Q := fun t => t = true) (Tot.ge true ((splitOf a n).2.1.length + 1) (fun k hk => qSheet_self _ (by omega) k (by omega)) rfl) (fun t h3 => ?_)
      subst h3
      exact hj2
    obtain ⟨r, hr, K, hK⟩ := key
    exact ⟨K, (hK K (Nat.le_refl _)).trans (by rw [hr])⟩
end Go.Proofs.Ytflefblmaopaiaa.Pure
