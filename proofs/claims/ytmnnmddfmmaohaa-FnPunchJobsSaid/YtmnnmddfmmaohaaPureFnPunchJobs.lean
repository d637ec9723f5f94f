import Derived.Test.YtmnnmddfmmaohaaPFnPunchJobsx18
namespace Go.Proofs.Ytmnnmddfmmaohaa.Pure
open Go.RowKit Go.Proofs.Ytmnnmddfmmaohaa.PFnPunchJobs Go.Proofs.YtmnnmddfmmaohaaW.PrintWords Go.Proofs.YtmnnmddfmmaohaaW.PrintLast
set_option linter.unusedVariables false
set_option linter.unusedSimpArgs false
theorem w64 {x : Int} (h : -9223372036854775808 ≤ x ∧ x ≤ 9223372036854775807) : wrap64 x = x := by
 unfold wrap64; omega
theorem someF {p : Prop} [Decidable p] (h : ¬ p) : some false = some (decide p) := by rw [decide_eq_false h]
theorem someD {q p : Prop} [Decidable q] [Decidable p] (h : q ↔ p) : some (decide q) = some (decide p) := by rw [decide_eq_decide.2 h]
theorem in_eq (a b c : Int) : spec_l1In.f a b c = some (decide (b ≤ a ∧ a ≤ c)) := by
 unfold spec_l1In.f
 by_cases h : a ≥ b
 ·rw [if_pos h]; congr 1; simp [show b ≤ a from h]
 ·rw [if_neg h]; congr 1; simp; omega
theorem rd_get (l : List Int) (i : Nat) (h : i < l.length) : rd l (i : Int) = l[i] := by
 unfold rd; rw [Int.toNat_natCast, List.getD_eq_getElem?_getD, List.getElem?_eq_getElem h]; rfl
theorem tmod_range (x n : Int) (hx : 0 ≤ x) (hn : 1 ≤ n) : 0 ≤ Int.tmod x n ∧ Int.tmod x n < n := by
 rw [Int.tmod_eq_emod_of_nonneg hx]
 exact ⟨Int.emod_nonneg _ (by omega), Int.emod_lt_of_pos _ (by omega)⟩
theorem u64_range (x : Int) : 0 ≤ IntKind.u64.wrap x ∧ IntKind.u64.wrap x < 18446744073709551616 := by
 simp only [IntKind.wrap, IntKind.bits, IntKind.signed, Bool.false_and, Bool.false_eq_true, if_false]
 exact ⟨Int.emod_nonneg _ (by decide), Int.emod_lt_of_pos _ (by decide)⟩
theorem u64_keeps (n : Int) (h0 : 0 ≤ n) (h1 : n < 2 ^ 64) : IntKind.u64.wrap n = n := by
 simp only [IntKind.wrap, IntKind.bits, IntKind.signed, Bool.false_and, Bool.false_eq_true, if_false]
 exact Int.emod_eq_of_lt h0 h1
theorem low_byte (x : Int) : ∃ v, wrap64 (Go.bits .and .u64 ((IntKind.u64.wrap x) / 1099511627776) 255) = v ∧ 0 ≤ v ∧ v ≤ 255 := by
 obtain ⟨h0, h1⟩ := u64_range x
 have hd0 : 0 ≤ IntKind.u64.wrap x / 1099511627776 := by omega
 have hd1 : IntKind.u64.wrap x / 1099511627776 < 2 ^ 64 := by omega
 have e := bits_mask .u64 64 (by decide) (fun n a b => u64_keeps n a b) 8 (by decide) _ hd0 hd1
 rw [show (255 : Int) = 2 ^ 8 - 1 by decide, e]
 generalize IntKind.u64.wrap x / 1099511627776 = y at hd0 hd1
 have : 0 ≤ y % 2 ^ 8 ∧ y % 2 ^ 8 ≤ 255 := by omega
 exact ⟨_, w64 (by omega), this.1, this.2⟩
def Bytes (l : List Int) : Prop := l.length ≤ 1048576 ∧ ∀ x ∈ l, 0 ≤ x ∧ x ≤ 255
theorem next_ok (l : List Int) (hl : Bytes l) (a s : Int) (ha : 0 ≤ a ∧ a ≤ 1000000) : ∃ v s', spec_l1Cur_next.f l a s = some (v, a + 1, s') ∧ 0 ≤ v ∧ v ≤ 255 := by
 have wa : wrap64 (a + 1) = a + 1 := w64 (by omega)
 unfold spec_l1Cur_next.f
 rw [wa]
 clear wa
 by_cases h : a < (l.length : Int)
 ·obtain ⟨n, rfl⟩ : ∃ n : Nat, a = n := ⟨a.toNat, by omega⟩
  have hn : n < l.length := by omega
  rw [if_pos h, if_pos ha.1]
  have hb := hl.2 _ (List.getElem_mem hn)
  by_cases h2 : (n : Int) + 1 ≤ (l.length : Int)
  ·rw [if_pos h2]
   refine ⟨_, _, rfl, ?_⟩
   rw [rd_get l n hn, w64 (by omega)]
   exact hb
  ·omega
 ·rw [if_neg h]
  by_cases h2 : a + 1 ≤ (l.length : Int)
  ·rw [if_pos h2]
   exact ⟨_, _, rfl, by omega, by omega⟩
  ·rw [if_neg h2]
   obtain ⟨v, e, h0, h1⟩ := low_byte (IntKind.u64.wrap (IntKind.u64.wrap (s * 6364136223846793005)) + 1442695040888963407)
   exact ⟨v, IntKind.u64.wrap (IntKind.u64.wrap (IntKind.u64.wrap (s * 6364136223846793005)) + 1442695040888963407), by rw [e], h0, h1⟩
theorem pick_ok (l : List Int) (hl : Bytes l) (a s : Int) (ha : 0 ≤ a ∧ a ≤ 900000) (n : Int) :
  ∃ v a' s', spec_l1Cur_pick.f l a s n = some (v, a', s') ∧ 0 ≤ v ∧ (1 ≤ n → v < n) ∧ a ≤ a' ∧ a' ≤ a + 2 := by
 unfold spec_l1Cur_pick.f
 by_cases h : n ≤ 1
 ·rw [if_pos h]
  exact ⟨0, a, s, rfl, by omega, by omega, by omega, by omega⟩
 ·rw [if_neg h]
  obtain ⟨v, s1, e1, h0, h1⟩ := next_ok l hl a s (by omega)
  rw [e1]
  simp only [Option.bind_some]
  by_cases h2 : n > 200
  ·obtain ⟨u, s2, e2, g0, g1⟩ := next_ok l hl (a + 1) s1 (by omega)
   rw [if_pos h2, e2]
   simp only [Option.bind_some]
   rw [if_neg (by omega), w64 (x := v * 256) (by omega), w64 (by omega)]
   have r := tmod_range (v * 256 + u) n (by omega) (by omega)
   exact ⟨_, _, _, rfl, r.1, fun _ => r.2, by omega, by omega⟩
  ·rw [if_neg h2, if_neg (by omega)]
   have r := tmod_range v n h0 (by omega)
   exact ⟨_, _, _, rfl, r.1, fun _ => r.2, by omega, by omega⟩
theorem one_ok (l : List Int) (hl : Bytes l) (a s : Int) (ha : 0 ≤ a ∧ a ≤ 900000) (n : Int) :
  ∃ v a' s', spec_l1Cur_one.f l a s n = some (v, a', s') ∧ a ≤ a' ∧ a' ≤ a + 2 := by
 obtain ⟨v, a', s', e, _, _, h1, h2⟩ := pick_ok l hl a s ha n
 unfold spec_l1Cur_one.f
 rw [e]
 exact ⟨_, _, _, rfl, h1, h2⟩
theorem among_ok (l : List Int) (hl : Bytes l) (a s : Int) (ha : 0 ≤ a ∧ a ≤ 900000) (xs : List Int) (hx : 1 ≤ xs.length) :
  ∃ v a' s', spec_l1Cur_among.f l a s xs = some (v, a', s') ∧ a ≤ a' ∧ a' ≤ a + 2 := by
 obtain ⟨v, a', s', e, h0, h1, h2, h3⟩ := pick_ok l hl a s ha (xs.length : Int)
 unfold spec_l1Cur_among.f
 rw [e]
 simp only [Option.bind_some]
 rw [if_pos h0, if_pos (h1 (by omega))]
 exact ⟨_, _, _, rfl, h2, h3⟩
theorem drop_get {α : Type} (l : List α) (i : Nat) (h : i < l.length) : l.drop i = l[i] :: l.drop (i + 1) := List.drop_eq_getElem_cons h
theorem rdH_get (l : List S90) (i : Nat) (h : i < l.length) : rd_T90 l (i : Int) = l[i] := by
 unfold rd_T90; rw [Int.toNat_natCast, List.getD_eq_getElem?_getD, List.getElem?_eq_getElem h]; rfl
theorem rdS_get (l : List S103) (i : Nat) (h : i < l.length) : rd_T103 l (i : Int) = l[i] := by
 unfold rd_T103; rw [Int.toNat_natCast, List.getD_eq_getElem?_getD, List.getElem?_eq_getElem h]; rfl
def HoleOK (x : S90) : Bool := decide (0 ≤ x.f0 ∧ x.f0 ≤ 19 ∧ 0 ≤ x.f1 ∧ x.f1 < x.f2 ∧ x.f2 ≤ 2000)
def hBefore (a b : S90) : Bool := decide (a.f1 < b.f1 ∨ (a.f1 = b.f1 ∧ a.f0 < b.f0))
def lastOK (p : List S90) (x : S90) : Bool := match p.getLast? with
 | none => true
 | some y => hBefore y x
def apartOK (p : List S90) (x : S90) : Bool := p.all fun y => !(decide (x.f0 = y.f0) && decide (y.f2 ≥ x.f1))
def chkSheet (p : List S90) : List S90 → Bool
 | [] => true
 | x :: r => HoleOK x && lastOK p x && apartOK p x && chkSheet (p ++ [x]) r
def SheetB (l : List S90) : Bool := chkSheet [] l && decide (l.length ≤ 60)
def fuelH (i : Nat) : Nat → Nat
 | 0 => 1
 | d + 1 => i + 3 + fuelH (i + 1) d
theorem lastOK_take (l : List S90) (i : Nat) (h : i + 1 < l.length) : lastOK (l.take (i + 1)) l[i + 1] = hBefore l[i] l[i + 1] := by
 unfold lastOK
 rw [List.take_succ_eq_append_getElem (show i < l.length by omega), List.getLast?_concat]
theorem specSheet_row (l : List S90) (x7 : List S90) (x8 x9 a b c : Int) (p : List S90) (hp : p.length ≤ 1048576) (x : S90) (hx : x = ⟨a, b, c⟩) (d : Nat) : ∀ (k j : Nat), j + d = p.length →
  spec_shGood.l1 (k + d + 1) l x7 x8 x9 p p.length j a b c = if apartOK (p.drop j) x then spec_shGood.l0 k l x7 x8 (wrap64 (x9 + 1)) else some false := by
 induction d with
 | zero =>
  intro k j hj
  rw [spec_shGood.l1, if_neg (by omega), List.drop_of_length_le (by omega)]
  rfl
 | succ d ih =>
  intro k j hj
  subst hx
  rw [spec_shGood.l1, if_pos (by omega), if_pos (by omega), if_pos (by omega), rdH_get p j (by omega), drop_get p j (by omega), w64 (by omega), show k + (d + 1) = k + d + 1 by omega, show ((j : Int) + 1) = ((j + 1 : Nat) : Int) by omega, ih k (j + 1) (by omega)]
  unfold apartOK
  rw [List.all_cons]
  by_cases h1 : a = p[j].f0
  ·by_cases h2 : p[j].f2 ≥ b
   ·rw [if_pos (by omega), if_pos h2]; simp [h1, h2]
   ·rw [if_pos (by omega), if_neg h2]; simp [h1, h2]
  ·rw [if_neg (by omega)]; simp [h1]
theorem shHole_eq (a b c : Int) : spec_shHole.f a b c = some (HoleOK ⟨a, b, c⟩) := by
 unfold spec_shHole.f HoleOK
 simp only [in_eq, Option.bind_some, decide_eq_true_eq]
 split
 ·split
  ·rw [w64 (by omega)]; exact someD (by omega)
  ·exact someF (by omega)
 ·exact someF (by omega)
theorem shBefore_eq (a b c a' b' c' : Int) : spec_shBefore.f a b c a' b' c' = some (hBefore ⟨a, b, c⟩ ⟨a', b', c'⟩) := by
 unfold spec_shBefore.f hBefore
 simp only []
 split
 ·rw [decide_eq_true (by omega)]
 ·split
  ·exact someD (by omega)
  ·exact someF (by omega)
theorem specSheet_loop (l : List S90) (hl : l.length ≤ 1048576) (d : Nat) : ∀ (k i : Nat), i + d = l.length → fuelH i d ≤ k →
  spec_shGood.l0 k l l l.length i = some (chkSheet (l.take i) (l.drop i) && decide (l.length ≤ 60)) := by
 induction d with
 | zero =>
  intro k i hi hk
  unfold fuelH at hk
  obtain ⟨k, rfl⟩ : ∃ j, k = j + 1 := ⟨k - 1, by omega⟩
  rw [spec_shGood.l0, if_neg (by omega), List.drop_of_length_le (by omega)]
  unfold chkSheet
  rw [Bool.true_and]
  exact someD (by omega)
 | succ d ih =>
  intro k i hi hk
  unfold fuelH at hk
  obtain ⟨j, rfl⟩ : ∃ j, k = j + i + 1 + 1 + 1 := ⟨k - i - 3, by omega⟩
  have ht : (l.take i).length = i := by rw [List.length_take]; omega
  have e2 : wrap64 ((i : Int) + 1) = ((i + 1 : Nat) : Int) := by rw [w64 (by omega)]; omega
  rw [spec_shGood.l0, if_pos (by omega), if_pos (by omega), if_pos (by omega), rdH_get l i (by omega), shHole_eq, drop_get l i (by omega), chkSheet]
  simp only [Option.bind_some]
  have hj : ∀ flag : Bool, spec_shGood.j1 (j + i + 1 + 1) l i l l.length i flag l[i].f0 l[i].f1 l[i].f2 = if flag then some false else if apartOK (l.take i) l[i] then spec_shGood.l0 j l l l.length ((i + 1 : Nat) : Int) else some false := by
   intro flag
   rw [spec_shGood.j1]
   cases flag
   ·simp only [Bool.false_eq_true, if_false]
    rw [if_pos (by omega), if_pos (by omega), Int.toNat_natCast]
    simp only [Option.bind_some]
    have := specSheet_row l l l.length i l[i].f0 l[i].f1 l[i].f2 (l.take i) (by omega) l[i] rfl i j 0 (by omega)
    rw [List.drop_zero, e2] at this
    exact this
   ·simp only [if_true]
  have hrec := ih j (i + 1) (by omega) (by omega)
  rw [List.take_succ_eq_append_getElem (show i < l.length by omega)] at hrec
  by_cases h1 : HoleOK l[i] = true
  ·rw [if_pos h1, h1]
   rcases Nat.eq_zero_or_pos i with h0 | h0
   ·subst h0
    rw [if_neg (by omega), hj false]
    simp only [Bool.false_eq_true, if_false]
    rw [hrec]
    simp [lastOK, apartOK]
   ·obtain ⟨m, rfl⟩ : ∃ m, i = m + 1 := ⟨i - 1, by omega⟩
    have e1 : wrap64 (((m + 1 : Nat) : Int) - 1) = (m : Int) := by rw [w64 (by omega)]; omega
    rw [if_pos (by omega), e1, if_pos (by omega), if_pos (by omega), rdH_get l m (by omega), shBefore_eq]
    simp only [Option.bind_some]
    rw [hj, hrec, lastOK_take l m (by omega)]
    cases hb : hBefore l[m] l[m + 1]
    ·simp [hb]
    ·cases ha : apartOK (l.take (m + 1)) l[m + 1] <;> simp [hb]
  ·rw [if_neg h1, Bool.eq_false_iff.2 h1, hj]; simp
theorem shGood_eq (l : List S90) (hl : l.length ≤ 1048576) (k : Nat) (hk : fuelH 0 l.length ≤ k) : spec_shGood.f k l = some (SheetB l) := by
 unfold spec_shGood.f SheetB
 have := specSheet_loop l hl l.length k 0 (by omega) hk
 rw [List.drop_zero, List.take_zero] at this
 exact this
theorem implSheet_row (l : List S90) (x7 : List S90) (x8 x9 a b c : Int) (p : List S90) (hp : p.length ≤ 1048576) (x : S90) (hx : x = ⟨a, b, c⟩) (d : Nat) : ∀ (k j : Nat), j + d = p.length →
  impl_IsSheet.l1 (k + d + 1) l x7 x8 x9 p p.length j a b c = if apartOK (p.drop j) x then impl_IsSheet.l0 k l x7 x8 (wrap64 (x9 + 1)) else some false := by
 induction d with
 | zero =>
  intro k j hj
  rw [impl_IsSheet.l1, if_neg (by omega), List.drop_of_length_le (by omega)]
  rfl
 | succ d ih =>
  intro k j hj
  subst hx
  rw [impl_IsSheet.l1, if_pos (by omega), if_pos (by omega), if_pos (by omega), rdH_get p j (by omega), drop_get p j (by omega), w64 (by omega), show k + (d + 1) = k + d + 1 by omega, show ((j : Int) + 1) = ((j + 1 : Nat) : Int) by omega, ih k (j + 1) (by omega)]
  unfold apartOK
  rw [List.all_cons]
  by_cases h1 : a = p[j].f0
  ·by_cases h2 : p[j].f2 ≥ b
   ·rw [if_pos (by omega), if_pos h2]; simp [h1, h2]
   ·rw [if_pos (by omega), if_neg h2]; simp [h1, h2]
  ·rw [if_neg (by omega)]; simp [h1]
theorem isHole_eq (a b c : Int) : impl_IsHole.f a b c = some (HoleOK ⟨a, b, c⟩) := by
 have ht : impl_isTrack.f a = some (decide (0 ≤ a ∧ a ≤ 19)) := by
  unfold impl_isTrack.f
  split
  ·exact someD (by omega)
  ·exact someF (by omega)
 unfold impl_IsHole.f HoleOK
 rw [ht]
 simp only [Option.bind_some, decide_eq_true_eq]
 repeat' split
 all_goals first
  | exact someF (by omega)
  | exact someD (by omega)
theorem holeLess_eq (a b c a' b' c' : Int) : impl_holeLess.f a b c a' b' c' = some (hBefore ⟨a, b, c⟩ ⟨a', b', c'⟩) := by
 unfold impl_holeLess.f hBefore
 simp only []
 split
 ·exact someD (by omega)
 ·exact someD (by omega)
theorem implSheet_loop (l : List S90) (hl : l.length ≤ 1048576) (d : Nat) : ∀ (k i : Nat), i + d = l.length → fuelH i d ≤ k →
  impl_IsSheet.l0 k l l l.length i = some (chkSheet (l.take i) (l.drop i)) := by
 induction d with
 | zero =>
  intro k i hi hk
  unfold fuelH at hk
  obtain ⟨k, rfl⟩ : ∃ j, k = j + 1 := ⟨k - 1, by omega⟩
  rw [impl_IsSheet.l0, if_neg (by omega), List.drop_of_length_le (by omega)]
  rfl
 | succ d ih =>
  intro k i hi hk
  unfold fuelH at hk
  obtain ⟨j, rfl⟩ : ∃ j, k = j + i + 1 + 1 + 1 := ⟨k - i - 3, by omega⟩
  have ht : (l.take i).length = i := by rw [List.length_take]; omega
  have e2 : wrap64 ((i : Int) + 1) = ((i + 1 : Nat) : Int) := by rw [w64 (by omega)]; omega
  rw [impl_IsSheet.l0, if_pos (by omega), if_pos (by omega), if_pos (by omega), rdH_get l i (by omega), isHole_eq, drop_get l i (by omega), chkSheet]
  simp only [Option.bind_some]
  have hj : ∀ flag : Bool, impl_IsSheet.j1 (j + i + 1 + 1) l i l l.length i flag l[i].f0 l[i].f1 l[i].f2 = if flag then some false else if apartOK (l.take i) l[i] then impl_IsSheet.l0 j l l l.length ((i + 1 : Nat) : Int) else some false := by
   intro flag
   rw [impl_IsSheet.j1]
   cases flag
   ·simp only [Bool.false_eq_true, if_false]
    rw [if_pos (by omega), if_pos (by omega), Int.toNat_natCast]
    simp only [Option.bind_some]
    have := implSheet_row l l l.length i l[i].f0 l[i].f1 l[i].f2 (l.take i) (by omega) l[i] rfl i j 0 (by omega)
    rw [List.drop_zero, e2] at this
    exact this
   ·simp only [if_true]
  have hrec := ih j (i + 1) (by omega) (by omega)
  rw [List.take_succ_eq_append_getElem (show i < l.length by omega)] at hrec
  by_cases h1 : HoleOK l[i] = true
  ·rw [if_pos h1, h1]
   rcases Nat.eq_zero_or_pos i with h0 | h0
   ·subst h0
    rw [if_neg (by omega), hj false]
    simp only [Bool.false_eq_true, if_false]
    rw [hrec]
    simp [lastOK, apartOK]
   ·obtain ⟨m, rfl⟩ : ∃ m, i = m + 1 := ⟨i - 1, by omega⟩
    have e1 : wrap64 (((m + 1 : Nat) : Int) - 1) = (m : Int) := by rw [w64 (by omega)]; omega
    rw [if_pos (by omega), e1, if_pos (by omega), if_pos (by omega), rdH_get l m (by omega), holeLess_eq]
    simp only [Option.bind_some]
    rw [hj, hrec, lastOK_take l m (by omega)]
    cases hb : hBefore l[m] l[m + 1]
    ·simp [hb]
    ·cases ha : apartOK (l.take (m + 1)) l[m + 1] <;> simp [hb]
  ·rw [if_neg h1, Bool.eq_false_iff.2 h1, hj]; simp
theorem isSheet_eq (l : List S90) (hl : l.length ≤ 1048576) (k : Nat) (hk : fuelH 0 l.length ≤ k) : impl_IsSheet.f k l = some (SheetB l) := by
 unfold impl_IsSheet.f SheetB
 by_cases h : l.length ≤ 60
 ·have := implSheet_loop l hl l.length k 0 (by omega) hk
  rw [List.drop_zero, List.take_zero] at this
  rw [if_neg (by omega), decide_eq_true h, Bool.and_true]
  exact this
 ·rw [if_pos (by omega), decide_eq_false h, Bool.and_false]
def Tot {α : Type} (g : Nat → Option α) (Q : α → Prop) : Prop := ∃ r, Q r ∧ ∃ K, ∀ k, K ≤ k → g k = some r
theorem Tot.now {α : Type} {g : Nat → Option α} {Q : α → Prop} (r : α) (h : ∀ k, g k = some r) (q : Q r) : Tot g Q := ⟨r, q, 0, fun k _ => h k⟩
theorem Tot.ge {α : Type} {g : Nat → Option α} {Q : α → Prop} (r : α) (K : Nat) (h : ∀ k, K ≤ k → g k = some r) (q : Q r) : Tot g Q := ⟨r, q, K, h⟩
theorem Tot.step {α : Type} {g h : Nat → Option α} {Q : α → Prop} (hs : ∀ k, g (k + 1) = h k) (e : Tot h Q) : Tot g Q := by
 obtain ⟨r, q, K, hK⟩ := e
 refine ⟨r, q, K + 1, fun k hk => ?_⟩
 obtain ⟨j, rfl⟩ : ∃ j, k = j + 1 := ⟨k - 1, by omega⟩
 rw [hs]
 exact hK j (by omega)
theorem Tot.congr {α : Type} {g h : Nat → Option α} {Q : α → Prop} (hs : ∀ k, g k = h k) (e : Tot h Q) : Tot g Q := by
 obtain ⟨r, q, K, hK⟩ := e
 exact ⟨r, q, K, fun k hk => by rw [hs]; exact hK k hk⟩
theorem Tot.bind {α β : Type} {g : Nat → Option α} {Q : α → Prop} {h : Nat → α → Option β} {R : β → Prop} (e : Tot g Q) (e2 : ∀ a, Q a → Tot (fun k => h k a) R) : Tot (fun k => (g k).bind (h k)) R := by
 obtain ⟨a, q, K, hK⟩ := e
 obtain ⟨r, p, M, hM⟩ := e2 a q
 refine ⟨r, p, K + M, fun k hk => ?_⟩
 simp only []
 rw [hK k (by omega), Option.bind_some]
 exact hM k (by omega)
theorem Tot.weak {α : Type} {g : Nat → Option α} {Q R : α → Prop} (e : Tot g Q) (h : ∀ a, Q a → R a) : Tot g R := by
 obtain ⟨r, q, K, hK⟩ := e
 exact ⟨r, h r q, K, hK⟩
theorem Tot.mono {α : Type} {g : Nat → Option α} {Q : α → Prop} (e : Tot g Q) : ∃ r, Q r ∧ ∃ K, ∀ k, K ≤ k → g k = some r := e
theorem w_next (n : Nat) (h : n ≤ 1000000) : wrap64 ((n : Int) + 1) = ((n + 1 : Nat) : Int) := by rw [w64 (by omega)]; omega
theorem place_tot (out l : List S90) (hl : out.length ≤ 1000) (a b c : Int) (n i : Int) {Q : List S90 × Bool → Prop}
  (hk : ∀ o : List S90, o.length = out.length + 1 → Tot (fun k => spec_shSorted.l0 k o l n (wrap64 (i + 1))) Q) :
  ∀ p, p ≤ out.length → Tot (fun k => spec_shSorted.l1 k out p l n i a b c) Q := by
 intro p
 induction p with
 | zero =>
  intro hp
  refine Tot.step (h := fun k => spec_shSorted.l0 k (out.take 0 ++ [(⟨a, b, c⟩ : S90)] ++ out.drop 0) l n (wrap64 (i + 1))) (fun k => ?_) (hk _ (by simp))
  rw [spec_shSorted.l1, if_neg (by simp)]
  simp only [Option.bind_some]
  rw [if_pos (by omega), if_pos (by omega)]
  simp only [Int.toNat_natCast, List.nil_append]
  rw [if_pos (by simp), if_pos (by simp), if_pos (by simp; omega)]
 | succ p ih =>
  intro hp
  have e1 : wrap64 (((p + 1 : Nat) : Int) - 1) = (p : Int) := by rw [w64 (by omega)]; omega
  by_cases hb : hBefore (⟨a, b, c⟩ : S90) (out[p]'(by omega)) = true
  ·refine Tot.step (h := fun k => spec_shSorted.l1 k out p l n i a b c) (fun k => ?_) (ih (by omega))
   rw [spec_shSorted.l1, if_pos (by omega), e1, if_pos (by omega), if_pos (by omega), rdH_get out p (by omega), shBefore_eq]
   simp only [Option.bind_some]
   rw [hb, if_pos rfl]
  ·have hb' : hBefore (⟨a, b, c⟩ : S90) (out[p]'(by omega)) = false := Bool.eq_false_iff.2 hb
   refine Tot.step (h := fun k => spec_shSorted.l0 k (out.take (p + 1) ++ [(⟨a, b, c⟩ : S90)] ++ out.drop (p + 1)) l n (wrap64 (i + 1))) (fun k => ?_) (hk _ (by simp; omega))
   rw [spec_shSorted.l1, if_pos (by omega), e1, if_pos (by omega), if_pos (by omega), rdH_get out p (by omega), shBefore_eq]
   simp only [Option.bind_some]
   rw [hb', if_neg (by decide), if_pos (by omega), if_pos (by omega)]
   simp only [Int.toNat_natCast, List.nil_append]
   rw [if_pos (by simp; omega), if_pos (by simp; omega), if_pos (by simp; omega)]
theorem sorted_tot (l : List S90) (hl : l.length ≤ 100) (d : Nat) : ∀ (i : Nat) (out : List S90), i + d = l.length → out.length = i → Tot (fun k => spec_shSorted.l0 k out l l.length i) (fun r => r.1.length ≤ l.length) := by
 induction d with
 | zero =>
  intro i out hi ho
  refine Tot.step (h := fun k => (spec_shGood.f k out).bind fun t => if t = true then some (out, true) else some ([], false)) (fun k => by rw [spec_shSorted.l0, if_neg (by omega)]) ?_
  refine Tot.bind (Q := fun _ => True) (Tot.ge _ (fuelH 0 out.length) (fun k hk => shGood_eq out (by omega) k hk) trivial) (fun t _ => ?_)
  cases t with
  | true => exact Tot.now _ (fun k => if_pos rfl) (by simp; omega)
  | false => exact Tot.now _ (fun k => if_neg (by decide)) (by simp)
 | succ d ih =>
  intro i out hi ho
  refine Tot.step (h := fun k => spec_shSorted.l1 k out (out.length : Nat) l l.length i ((rd_T90 l i).f0) ((rd_T90 l i).f1) ((rd_T90 l i).f2)) (fun k => by rw [spec_shSorted.l0, if_pos (by omega), if_pos (by omega), if_pos (by omega)]) ?_
  refine place_tot out l (by omega) _ _ _ _ _ (fun o ho' => ?_) out.length (Nat.le_refl _)
  rw [w_next i (by omega)]
  exact ih (i + 1) o (by omega) (by omega)
theorem with_tot (l : List S90) (hl : l.length ≤ 90) (a b c : Int) : Tot (fun k => spec_shWith.f k l a b c) (fun r => r.1.length ≤ l.length + 1) := by
 refine Tot.congr (h := fun k => (spec_shSorted.f k (l ++ [(⟨a, b, c⟩ : S90)])).bind fun bt => some (bt.1, bt.2)) (fun k => ?_) ?_
 ·unfold spec_shWith.f
  simp only [Option.bind_some, List.nil_append]
  rw [if_pos (by simp; omega), if_pos (by simp; omega)]
 ·have hs : Tot (fun k => spec_shSorted.f k (l ++ [(⟨a, b, c⟩ : S90)])) (fun r => r.1.length ≤ (l ++ [(⟨a, b, c⟩ : S90)]).length) := sorted_tot (l ++ [(⟨a, b, c⟩ : S90)]) (by simp; omega) (l ++ [(⟨a, b, c⟩ : S90)]).length 0 [] (by omega) rfl
  exact Tot.bind hs (fun r hr => Tot.now _ (fun _ => rfl) (by simpa using hr))
theorem hole_ok (l : List Int) (hl : Bytes l) (a s : Int) (ha : 0 ≤ a ∧ a ≤ 800000) : ∃ t f e a' s', spec_l1Cur_hole.f l a s = some (t, f, e, a', s') ∧ a ≤ a' ∧ a' ≤ a + 12 := by
 unfold spec_l1Cur_hole.f
 obtain ⟨v1, a1, s1, e1, _, _, l1, u1⟩ := pick_ok l hl a s (by omega) 40
 rw [e1]; simp only [Option.bind_some]
 obtain ⟨v2, a2, s2, e2, _, _, l2, u2⟩ := pick_ok l hl a1 s1 (by omega) 60
 rw [e2]; simp only [Option.bind_some]
 obtain ⟨v3, a3, s3, e3, l3, u3⟩ := among_ok l hl a2 s2 (by omega) [0, 2, 5, v1, v2, 1990] (by simp)
 rw [e3]; simp only [Option.bind_some]
 obtain ⟨v4, a4, s4, e4, _, _, l4, u4⟩ := pick_ok l hl a3 s3 (by omega) 20
 rw [e4]; simp only [Option.bind_some]
 obtain ⟨v5, a5, s5, e5, l5, u5⟩ := among_ok l hl a4 s4 (by omega) [0, 1, 2, 3, 5, v4] (by simp)
 rw [e5]; simp only [Option.bind_some]
 obtain ⟨v6, a6, s6, e6, l6, u6⟩ := among_ok l hl a5 s5 (by omega) [1, 2, 3, 4, 10] (by simp)
 rw [e6]; simp only [Option.bind_some]
 exact ⟨_, _, _, a6, s6, rfl, by omega, by omega⟩
theorem sheet0_tot (l : List Int) (hl : Bytes l) (d : Nat) : ∀ (x : List S90) (a s : Int), x.length + d = 60 → 0 ≤ a → a + 2 * d ≤ 800000 →
  Tot (fun k => spec_l1Cur_sheet.l0 k x l a s) (fun r => r.1.length ≤ 60 ∧ a ≤ r.2.1 ∧ r.2.1 ≤ a + 2 * d) := by
 induction d with
 | zero =>
  intro x a s hx h0 ha
  exact Tot.step (h := fun _ => some (x, a, s)) (fun k => by rw [spec_l1Cur_sheet.l0, if_neg (by omega)]) (Tot.now _ (fun _ => rfl) ⟨by simp only []; omega, by simp only []; omega, by simp only []; omega⟩)
 | succ d ih =>
  intro x a s hx h0 ha
  obtain ⟨v1, a1, s1, e1, _, _, l1, u1⟩ := pick_ok l hl a s (by omega) 5
  refine Tot.step (h := fun k => spec_l1Cur_sheet.l0 k (x ++ [_]) l a1 s1) (fun k => by rw [spec_l1Cur_sheet.l0, if_pos (by omega), e1]; simp only [Option.bind_some]; rw [if_pos (by omega)]) ?_
  exact Tot.weak (ih (x ++ [_]) a1 s1 (by simp; omega) (by omega) (by omega)) (fun r hr => ⟨hr.1, by omega, by omega⟩)
theorem sheet2_tot (l : List Int) (hl : Bytes l) (n : Int) (hn : n ≤ 60) (d : Nat) : ∀ (x : List S90) (i : Nat) (a s : Int), i + d = 60 → x.length ≤ 60 → 0 ≤ a → a + 12 * d ≤ 800000 →
  Tot (fun k => spec_l1Cur_sheet.l1 k x n i l a s) (fun r => r.1.length ≤ 60 ∧ a ≤ r.2.1 ∧ r.2.1 ≤ a + 12 * d) := by
 have out : ∀ (x : List S90) (i a s : Int) (m : Int), x.length ≤ 60 → 0 ≤ m → Tot (fun k => spec_l1Cur_sheet.j2 k x n i false l a s) (fun r => r.1.length ≤ 60 ∧ a ≤ r.2.1 ∧ r.2.1 ≤ a + m) := fun x i a s m hx hm =>
  Tot.step (h := fun _ => some (x, a, s)) (fun k => by rw [spec_l1Cur_sheet.j2, if_neg (by decide)]) (Tot.now _ (fun _ => rfl) ⟨hx, by simp only []; omega, by simp only []; omega⟩)
 induction d with
 | zero =>
  intro x i a s hi hx h0 ha
  by_cases h : (x.length : Int) < n
  ·exact Tot.step (h := fun k => spec_l1Cur_sheet.j2 k x n i false l a s) (fun k => by rw [spec_l1Cur_sheet.l1, if_pos h, decide_eq_false (by omega)]) (out x i a s _ hx (by omega))
  ·exact Tot.step (h := fun k => spec_l1Cur_sheet.j2 k x n i false l a s) (fun k => by rw [spec_l1Cur_sheet.l1, if_neg h]) (out x i a s _ hx (by omega))
 | succ d ih =>
  intro x i a s hi hx h0 ha
  by_cases h : (x.length : Int) < n
  ·refine Tot.step (h := fun k => spec_l1Cur_sheet.j2 k x n i true l a s) (fun k => by rw [spec_l1Cur_sheet.l1, if_pos h, decide_eq_true (by omega)]) ?_
   obtain ⟨t, f, e, a1, s1, e1, l1, u1⟩ := hole_ok l hl a s (by omega)
   refine Tot.step (h := fun k => (spec_shWith.f k x t f e).bind fun bt => if bt.2 = true then spec_l1Cur_sheet.l1 k bt.1 n ((i + 1 : Nat) : Int) l a1 s1 else spec_l1Cur_sheet.l1 k x n ((i + 1 : Nat) : Int) l a1 s1)
    (fun k => by rw [spec_l1Cur_sheet.j2, if_pos rfl, e1]; simp only [Option.bind_some]; rw [w_next i (by omega)]) ?_
   refine Tot.bind (with_tot x (by omega) t f e) (fun bt hb => ?_)
   by_cases h2 : bt.2 = true
   ·exact (Tot.congr (fun k => if_pos h2) (ih bt.1 (i + 1) a1 s1 (by omega) (by omega) (by omega) (by omega))).weak (fun r hr => ⟨hr.1, by omega, by omega⟩)
   ·exact (Tot.congr (fun k => if_neg h2) (ih x (i + 1) a1 s1 (by omega) hx (by omega) (by omega))).weak (fun r hr => ⟨hr.1, by omega, by omega⟩)
  ·exact Tot.step (h := fun k => spec_l1Cur_sheet.j2 k x n i false l a s) (fun k => by rw [spec_l1Cur_sheet.l1, if_neg h]) (out x i a s _ hx (by omega))
theorem sheet_tot (l : List Int) (hl : Bytes l) (a s : Int) (ha : 0 ≤ a ∧ a ≤ 700000) : Tot (fun k => spec_l1Cur_sheet.f k l a s) (fun r => r.1.length ≤ 60 ∧ a ≤ r.2.1 ∧ r.2.1 ≤ a + 1000) := by
 obtain ⟨v1, a1, s1, e1, l1, u1⟩ := one_ok l hl a s (by omega) 24
 by_cases h : v1 = true
 ·refine Tot.congr (h := fun k => spec_l1Cur_sheet.l0 k [] l a1 s1) (fun k => by unfold spec_l1Cur_sheet.f; rw [e1]; simp only [Option.bind_some]; rw [if_pos h]) ?_
  exact Tot.weak (sheet0_tot l hl 60 [] a1 s1 (by simp) (by omega) (by omega)) (fun r hr => ⟨hr.1, by omega, by omega⟩)
 ·obtain ⟨v2, a2, s2, e2, b0, b1, l2, u2⟩ := pick_ok l hl a1 s1 (by omega) 9
  refine Tot.congr (h := fun k => spec_l1Cur_sheet.l1 k [] v2 ((0 : Nat) : Int) l a2 s2) (fun k => by unfold spec_l1Cur_sheet.f; rw [e1]; simp only [Option.bind_some]; rw [if_neg h, e2]; rfl) ?_
  have b2 := b1 (by omega)
  exact (sheet2_tot l hl v2 (by omega) 60 [] 0 a2 s2 (by omega) (by simp) (by omega) (by omega)).weak (fun r hr => ⟨hr.1, by omega, by omega⟩)
theorem anyHole_ok (l : List Int) (hl : Bytes l) (a s : Int) (ha : 0 ≤ a ∧ a ≤ 700000) : ∃ t f e a' s', spec_l1Cur_anyHole.f l a s = some (t, f, e, a', s') ∧ a ≤ a' ∧ a' ≤ a + 20 := by
 unfold spec_l1Cur_anyHole.f
 obtain ⟨t, f, e, a1, s1, e1, l1, u1⟩ := hole_ok l hl a s (by omega)
 obtain ⟨v, a2, s2, e2, _, _, l2, u2⟩ := pick_ok l hl a1 s1 (by omega) 24
 rw [e1]; simp only [Option.bind_some]; rw [e2]; simp only [Option.bind_some]
 by_cases h0 : v = 0
 ·obtain ⟨w, a3, s3, e3, l3, u3⟩ := among_ok l hl a2 s2 (by omega) [-1, 19, 20] (by simp)
  rw [if_pos h0, e3]; exact ⟨_, _, _, a3, s3, rfl, by omega, by omega⟩
 ·rw [if_neg h0]
  by_cases h1 : v = 1
  ·obtain ⟨w, a3, s3, e3, l3, u3⟩ := among_ok l hl a2 s2 (by omega) [-1, e] (by simp)
   rw [if_pos h1, e3]; exact ⟨_, _, _, a3, s3, rfl, by omega, by omega⟩
  ·rw [if_neg h1]
   by_cases h2 : v = 2
   ·obtain ⟨w, a3, s3, e3, l3, u3⟩ := among_ok l hl a2 s2 (by omega) [f, 2000, 2001] (by simp)
    rw [if_pos h2, e3]; exact ⟨_, _, _, a3, s3, rfl, by omega, by omega⟩
   ·rw [if_neg h2]; exact ⟨_, _, _, a2, s2, rfl, by omega, by omega⟩
theorem any61_tot (l : List Int) (a s : Int) (d : Nat) : ∀ (x : List S90), x.length + d = 61 → Tot (fun k => spec_l1Cur_anySheet.l0 k x l a s) (fun r => r.1.length ≤ 61 ∧ a ≤ r.2.1 ∧ r.2.1 ≤ a) := by
 induction d with
 | zero =>
  intro x hx
  exact Tot.step (h := fun _ => some (x, a, s)) (fun k => by rw [spec_l1Cur_anySheet.l0, if_neg (by omega)]) (Tot.now _ (fun _ => rfl) ⟨by simp only []; omega, by simp only []; omega, by simp only []; omega⟩)
 | succ d ih =>
  intro x hx
  exact Tot.step (h := fun k => spec_l1Cur_anySheet.l0 k (x ++ [_]) l a s) (fun k => by rw [spec_l1Cur_anySheet.l0, if_pos (by omega), if_pos (by omega)]) (ih (x ++ [_]) (by simp; omega))
def ShOut (a n : Int) (r : List S90 × Int × Int) : Prop := r.1.length ≤ 61 ∧ a ≤ r.2.1 ∧ r.2.1 ≤ a + n
theorem anySheet_tot (l : List Int) (hl : Bytes l) (a s : Int) (ha : 0 ≤ a ∧ a ≤ 600000) : Tot (fun k => spec_l1Cur_anySheet.f k l a s) (ShOut a 1100) := by
 refine Tot.bind (sheet_tot l hl a s (by omega)) (fun bt hb => ?_)
 obtain ⟨x, a1, s1⟩ := bt
 simp only at hb
 by_cases h : (x.length : Int) > 0
 ·obtain ⟨v, a2, s2, e2, b0, b1, l2, u2⟩ := pick_ok l hl a1 s1 (by omega) (x.length : Int)
  obtain ⟨v3, a3, s3, e3, _, _, l3, u3⟩ := pick_ok l hl a2 s2 (by omega) 30
  have b2 := b1 (by omega)
  refine Tot.congr (h := fun k => if v3 = 0 then ((spec_l1Cur_anyHole.f l a3 s3).bind fun bt288 => (if 0 ≤ v then (if v < (x.length : Int) then (some ((x.set (v : Int).toNat (⟨bt288.1, bt288.2.1, bt288.2.2.1⟩ : S90)), bt288.2.2.2.1, bt288.2.2.2.2)) else (none)) else (none))) else (if v3 = 1 then (some ((x ++ [(⟨(rd_T90 x v).f0, (rd_T90 x v).f1, (rd_T90 x v).f2⟩ : S90)]), a3, s3)) else (if v3 = 2 then (some ((x ++ [(⟨(rd_T90 x v).f0, (rd_T90 x v).f2, wrap64 (((rd_T90 x v).f2) + 2)⟩ : S90)]), a3, s3)) else (if v3 = 3 then (spec_l1Cur_anySheet.l0 k ([] : List (S90)) l a3 s3) else (some (x, a3, s3)))))) (fun k => ?_) ?_
  ·dsimp only
   rw [if_pos h, e2]; simp only [Option.bind_some]; rw [e3]; simp only [Option.bind_some]
   simp only [if_pos b0, if_pos b2, if_pos (show x.length < 5864062014805 by omega)]
  ·by_cases c0 : v3 = 0
   ·obtain ⟨t, f, e, a4, s4, e4, l4, u4⟩ := anyHole_ok l hl a3 s3 (by omega)
    refine Tot.now (x.set (v : Int).toNat ⟨t, f, e⟩, a4, s4) (fun k => ?_) ⟨by simp only [List.length_set]; omega, by simp only []; omega, by simp only []; omega⟩
    rw [if_pos c0, e4]; simp only [Option.bind_some]; rw [if_pos b0, if_pos b2]
   ·by_cases c1 : v3 = 1
    ·exact Tot.now _ (fun k => (if_neg c0).trans (if_pos c1)) ⟨by simp only [List.length_append, List.length_cons, List.length_nil]; omega, by simp only []; omega, by simp only []; omega⟩
    ·by_cases c2 : v3 = 2
     ·exact Tot.now _ (fun k => (if_neg c0).trans ((if_neg c1).trans (if_pos c2))) ⟨by simp only [List.length_append, List.length_cons, List.length_nil]; omega, by simp only []; omega, by simp only []; omega⟩
     ·by_cases c3 : v3 = 3
      ·exact (Tot.congr (fun k => (if_neg c0).trans ((if_neg c1).trans ((if_neg c2).trans (if_pos c3)))) (any61_tot l a3 s3 61 [] (by simp))).weak (fun r hr => ⟨hr.1, by omega, by omega⟩)
      ·exact Tot.now _ (fun k => (if_neg c0).trans ((if_neg c1).trans ((if_neg c2).trans (if_neg c3)))) ⟨by simp only []; omega, by simp only []; omega, by simp only []; omega⟩
 ·exact Tot.now _ (fun k => if_neg h) ⟨by simp only []; omega, by simp only []; omega, by simp only []; omega⟩
theorem made0_tot (l : List Int) (hl : Bytes l) (a s : Int) (ha : 0 ≤ a ∧ a ≤ 600000) (d : Nat) : ∀ (x : List S90), x.length + d = 20 → Tot (fun k => spec_l1Cur_madeSheet.l0 k x l a s) (ShOut a 2000) := by
 induction d with
 | zero =>
  intro x hx
  obtain ⟨v, a2, s2, e2, b0, b1, l2, u2⟩ := pick_ok l hl a s (by omega) 2
  exact Tot.step (h := fun _ => some (x.set (19 : Int).toNat (⟨(rd_T90 x 19).f0, (rd_T90 x 19).f1, wrap64 (((rd_T90 x 19).f2) + v)⟩ : S90), a2, s2)) (fun k => by rw [spec_l1Cur_madeSheet.l0, if_neg (by omega), if_pos (by omega), e2]; rfl) (Tot.now _ (fun _ => rfl) ⟨by simp only [List.length_set]; omega, by simp only []; omega, by simp only []; omega⟩)
 | succ d ih =>
  intro x hx
  exact Tot.step (h := fun k => spec_l1Cur_madeSheet.l0 k (x ++ [_]) l a s) (fun k => by rw [spec_l1Cur_madeSheet.l0, if_pos (by omega), if_pos (by omega)]) (ih (x ++ [_]) (by simp; omega))
theorem made1_tot (l : List Int) (hl : Bytes l) (x30 : List S90) (h30 : x30.length ≤ 60) (d : Nat) : ∀ (x : List S90) (i : Nat) (a s : Int), i + d = x30.length → x.length ≤ i → 0 ≤ a → a + 4 * d ≤ 500000 →
  Tot (fun k => spec_l1Cur_madeSheet.l1 k x x30 x30.length i l a s) (fun r => r.1.length ≤ 61 ∧ a ≤ r.2.1 ∧ r.2.1 ≤ a + 4 * d + 1110) := by
 induction d with
 | zero =>
  intro x i a s hi hx h0 ha
  obtain ⟨v, a1, s1, e1, l1, u1⟩ := one_ok l hl a s (by omega) 16
  by_cases h : v = true
  ·refine Tot.step (h := fun k => (spec_l1Cur_anySheet.f k l a1 s1).bind fun bt => some (bt.1, bt.2.1, bt.2.2)) (fun k => by rw [spec_l1Cur_madeSheet.l1, if_neg (by omega), e1]; simp only [Option.bind_some]; rw [if_pos h]) ?_
   exact Tot.bind (anySheet_tot l hl a1 s1 (by omega)) (fun r hr => Tot.now _ (fun _ => rfl) ⟨hr.1, by have := hr.2.1; simp only []; omega, by have := hr.2.2; simp only []; omega⟩)
  ·exact Tot.step (h := fun _ => some (x, a1, s1)) (fun k => by rw [spec_l1Cur_madeSheet.l1, if_neg (by omega), e1]; simp only [Option.bind_some]; rw [if_neg h]) (Tot.now _ (fun _ => rfl) ⟨by simp only []; omega, by simp only []; omega, by simp only []; omega⟩)
 | succ d ih =>
  intro x i a s hi hx h0 ha
  have hp : 0 ≤ (i : Int) := by omega
  have hq : (i : Int) < (x30.length : Int) := by omega
  have key : ∀ (b : Bool) (a1 s1 t f e : Int), a ≤ a1 → a1 ≤ a + 2 → Tot (fun k => spec_l1Cur_madeSheet.j2 k x x30 x30.length i b l a1 s1 t f e) (fun r => r.1.length ≤ 61 ∧ a ≤ r.2.1 ∧ r.2.1 ≤ a + 4 * ((d + 1 : Nat) : Int) + 1110) := by
   intro b a1 s1 t f e g1 g2
   have fin : ∀ (o : List S90) (a2 s2 : Int), o.length ≤ i + 1 → a1 ≤ a2 → a2 ≤ a1 + 2 → Tot (fun k => spec_l1Cur_madeSheet.l1 k o x30 x30.length ((i + 1 : Nat) : Int) l a2 s2) (fun r => r.1.length ≤ 61 ∧ a ≤ r.2.1 ∧ r.2.1 ≤ a + 4 * ((d + 1 : Nat) : Int) + 1110) := fun o a2 s2 ho q1 q2 =>
    (ih o (i + 1) a2 s2 (by omega) ho (by omega) (by omega)).weak (fun r hr => ⟨hr.1, by omega, by omega⟩)
   have goon : ∀ (c : Int) (a2 s2 : Int), a1 ≤ a2 → a2 ≤ a1 + 2 → Tot (fun k => (spec_shWith.f k x t f c).bind fun bt => if bt.2 = true then spec_l1Cur_madeSheet.l1 k bt.1 x30 x30.length ((i + 1 : Nat) : Int) l a2 s2 else spec_l1Cur_madeSheet.l1 k x x30 x30.length ((i + 1 : Nat) : Int) l a2 s2) (fun r => r.1.length ≤ 61 ∧ a ≤ r.2.1 ∧ r.2.1 ≤ a + 4 * ((d + 1 : Nat) : Int) + 1110) := fun c a2 s2 q1 q2 => by
    refine Tot.bind (with_tot x (by omega) t f c) (fun bt hb => ?_)
    by_cases h2 : bt.2 = true
    ·exact Tot.congr (fun k => if_pos h2) (fin bt.1 a2 s2 (by omega) q1 q2)
    ·exact Tot.congr (fun k => if_neg h2) (fin x a2 s2 (by omega) q1 q2)
   cases b with
   | true =>
    obtain ⟨v2, a2, s2, e2, _, _, l2, u2⟩ := pick_ok l hl a1 s1 (by omega) 5
    refine Tot.step (h := fun k => (spec_shWith.f k x t f (wrap64 ((wrap64 (f + 4)) + v2))).bind fun bt => if bt.2 = true then spec_l1Cur_madeSheet.l1 k bt.1 x30 x30.length ((i + 1 : Nat) : Int) l a2 s2 else spec_l1Cur_madeSheet.l1 k x x30 x30.length ((i + 1 : Nat) : Int) l a2 s2) (fun k => ?_) (goon _ a2 s2 l2 u2)
    rw [spec_l1Cur_madeSheet.j2, if_pos rfl, e2]; simp only [Option.bind_some]; rw [w_next i (by omega)]
   | false =>
    refine Tot.step (h := fun k => (spec_shWith.f k x t f e).bind fun bt => if bt.2 = true then spec_l1Cur_madeSheet.l1 k bt.1 x30 x30.length ((i + 1 : Nat) : Int) l a1 s1 else spec_l1Cur_madeSheet.l1 k x x30 x30.length ((i + 1 : Nat) : Int) l a1 s1) (fun k => ?_) (goon _ a1 s1 (by omega) (by omega))
    rw [spec_l1Cur_madeSheet.j2, if_neg (by decide), w_next i (by omega)]
  by_cases h : (wrap64 (((rd_T90 x30 i).f2) - ((rd_T90 x30 i).f1))) < 4
  ·obtain ⟨v, a1, s1, e1, l1, u1⟩ := one_ok l hl a s (by omega) 20
   exact Tot.step (h := fun k => spec_l1Cur_madeSheet.j2 k x x30 x30.length i (!v) l a1 s1 _ _ _) (fun k => by rw [spec_l1Cur_madeSheet.l1, if_pos hq, if_pos hp, if_pos hq, if_pos h, e1]; rfl) (key _ a1 s1 _ _ _ l1 u1)
  ·exact Tot.step (h := fun k => spec_l1Cur_madeSheet.j2 k x x30 x30.length i false l a s _ _ _) (fun k => by rw [spec_l1Cur_madeSheet.l1, if_pos hq, if_pos hp, if_pos hq, if_neg h]) (key _ a s _ _ _ (by omega) (by omega))
theorem madeSheet_tot (l : List Int) (hl : Bytes l) (a s : Int) (ha : 0 ≤ a ∧ a ≤ 400000) : Tot (fun k => spec_l1Cur_madeSheet.f k l a s) (ShOut a 4000) := by
 obtain ⟨v1, a1, s1, e1, l1, u1⟩ := one_ok l hl a s (by omega) 20
 by_cases h : v1 = true
 ·refine Tot.congr (h := fun k => spec_l1Cur_madeSheet.l0 k [] l a1 s1) (fun k => by unfold spec_l1Cur_madeSheet.f; rw [e1]; simp only [Option.bind_some]; rw [if_pos h]) ?_
  exact Tot.weak (made0_tot l hl a1 s1 (by omega) 20 [] (by simp)) (fun r hr => ⟨hr.1, by have := hr.2.1; omega, by have := hr.2.2; omega⟩)
 ·refine Tot.congr (h := fun k => (spec_l1Cur_sheet.f k l a1 s1).bind fun bt => spec_l1Cur_madeSheet.l1 k [] bt.1 (bt.1.length : Int) 0 l bt.2.1 bt.2.2) (fun k => by unfold spec_l1Cur_madeSheet.f; rw [e1]; simp only [Option.bind_some]; rw [if_neg h]) ?_
  refine Tot.bind (sheet_tot l hl a1 s1 (by omega)) (fun bt hb => ?_)
  exact (made1_tot l hl bt.1 hb.1 bt.1.length [] 0 bt.2.1 bt.2.2 (by omega) (by simp) (by omega) (by omega)).weak (fun r hr => ⟨hr.1, by omega, by omega⟩)
theorem mark_ok (l : List Int) (hl : Bytes l) (a s : Int) (ha : 0 ≤ a ∧ a ≤ 700000) : ∃ v a' s', spec_l1Cur_mark.f l a s = some (v, a', s') ∧ a ≤ a' ∧ a' ≤ a + 20 := by
 unfold spec_l1Cur_mark.f
 obtain ⟨v1, a1, s1, e1, l1, u1⟩ := among_ok l hl a s (by omega) [0, 51] (by simp)
 rw [e1]; simp only [Option.bind_some]
 obtain ⟨v2, a2, s2, e2, l2, u2⟩ := among_ok l hl a1 s1 (by omega) [1, 2, 3, 5, 10, 50, v1] (by simp)
 rw [e2]
 exact ⟨_, a2, s2, rfl, by omega, by omega⟩
def stk (a last pos : Int) : Nat → List S103
 | 0 => []
 | d + 1 => if pos ≤ last then ⟨a, pos⟩ :: stk a last (pos + 4) d else []
theorem stk_length (a last : Int) (d : Nat) : ∀ pos, (stk a last pos d).length ≤ d := by
 induction d with
 | zero => intro pos; exact Nat.le_refl _
 | succ d ih =>
  intro pos
  rw [stk]
  split
  ·rw [List.length_cons]; have := ih (pos + 4); omega
  ·simp
def stkEnd (a last : Int) (t : List S103) : List S103 := if 0 < t.length then (if (rd_T103 t ((t.length - 1 : Nat) : Int)).f1 < last then t ++ [⟨a, last⟩] else t) else t
theorem stkEnd_length (a last : Int) (t : List S103) : t.length ≤ (stkEnd a last t).length ∧ (stkEnd a last t).length ≤ t.length + 1 := by
 unfold stkEnd
 split
 ·split
  ·rw [List.length_append, List.length_singleton]; omega
  ·omega
 ·omega
def holeSt (x : S90) : List S103 := stkEnd x.f0 (x.f2 - 4) (stk x.f0 (x.f2 - 4) x.f1 501)
theorem holeSt_length (x : S90) : (holeSt x).length ≤ 502 := by
 unfold holeSt
 have h1 := stkEnd_length x.f0 (x.f2 - 4) (stk x.f0 (x.f2 - 4) x.f1 501)
 have h2 := stk_length x.f0 (x.f2 - 4) 501 x.f1
 omega
theorem holeSt_none (x : S90) : ((holeSt x).length = 0) ↔ x.f2 - x.f1 < 4 := by
 unfold holeSt
 have h1 := stkEnd_length x.f0 (x.f2 - 4) (stk x.f0 (x.f2 - 4) x.f1 501)
 have h2 : stk x.f0 (x.f2 - 4) x.f1 501 = if x.f1 ≤ x.f2 - 4 then ⟨x.f0, x.f1⟩ :: stk x.f0 (x.f2 - 4) (x.f1 + 4) 500 else [] := rfl
 by_cases h : x.f1 ≤ x.f2 - 4
 ·rw [if_pos h] at h2
  have h3 : (stk x.f0 (x.f2 - 4) x.f1 501).length ≠ 0 := by rw [h2]; simp
  constructor <;> intro h4 <;> omega
 ·rw [if_neg h] at h2
  constructor
  ·intro _; omega
  ·intro _; rw [h2]; rfl
def sheetSt (t : List S103) : List S90 → List S103 × Bool
 | [] => if t.length > 200 then ([], false) else (t, true)
 | x :: r => if (holeSt x).length = 0 then ([], false) else sheetSt (t ++ holeSt x) r
theorem sheetSt_length (r : List S90) : ∀ t, (sheetSt t r).1.length ≤ 200 := by
 induction r with
 | nil => intro t; rw [sheetSt]; split <;> simp; omega
 | cons x r ih =>
  intro t
  rw [sheetSt]
  split
  ·simp
  ·exact ih _
theorem chkSheet_ok (r : List S90) : ∀ p, chkSheet p r = true → ∀ x ∈ r, HoleOK x = true := by
 induction r with
 | nil => intro p _ x hx; simp at hx
 | cons y r ih =>
  intro p h x hx
  rw [chkSheet, Bool.and_eq_true, Bool.and_eq_true, Bool.and_eq_true] at h
  rcases List.mem_cons.1 hx with rfl | hx
  ·exact h.1.1.1
  ·exact ih _ h.2 x hx
theorem sheet_facts {l : List S90} (h : SheetB l = true) : l.length ≤ 60 ∧ ∀ x ∈ l, 0 ≤ x.f0 ∧ x.f0 ≤ 19 ∧ 0 ≤ x.f1 ∧ x.f1 < x.f2 ∧ x.f2 ≤ 2000 := by
 unfold SheetB at h
 rw [Bool.and_eq_true, decide_eq_true_eq] at h
 refine ⟨h.2, fun x hx => ?_⟩
 have := chkSheet_ok l [] h.1 x hx
 unfold HoleOK at this
 exact of_decide_eq_true this
theorem puHole_loop (a b c : Int) (hb : 0 ≤ b ∧ b ≤ 2000) (hc : 0 ≤ c ∧ c ≤ 2000) (d : Nat) : ∀ (k : Nat) (pos : Int) (t : List S103), 0 ≤ pos ∧ pos ≤ 4000 → c - 4 < pos + 4 * d → d < k → t.length + d ≤ 1000000 →
  spec_puHole.l0 k t pos a b c = some (stkEnd a (c - 4) (t ++ stk a (c - 4) pos d)) := by
 induction d with
 | zero =>
  intro k pos t hp hd hk ht
  obtain ⟨k, rfl⟩ : ∃ j, k = j + 1 := ⟨k - 1, by omega⟩
  rw [spec_puHole.l0, w64 (x := c - 4) (by omega), if_neg (by omega), stk, List.append_nil]
  unfold stkEnd
  by_cases h : 0 < t.length
  ·have e1 : wrap64 ((t.length : Int) - 1) = ((t.length - 1 : Nat) : Int) := by rw [w64 (by omega)]; omega
   rw [if_pos (by omega), e1, if_pos (by omega), if_pos (by omega), if_pos h, if_pos (show t.length < 8796093022208 by omega)]
   split <;> rfl
  ·rw [if_neg (by omega), if_neg h]
 | succ d ih =>
  intro k pos t hp hd hk ht
  obtain ⟨k, rfl⟩ : ∃ j, k = j + 1 := ⟨k - 1, by omega⟩
  by_cases h : pos ≤ c - 4
  ·rw [spec_puHole.l0, w64 (x := c - 4) (by omega), if_pos h, if_pos (by omega), w64 (by omega), ih k (pos + 4) _ (by omega) (by omega) (by omega) (by rw [List.length_append, List.length_singleton]; omega), stk, if_pos h, List.append_assoc]
   rfl
  ·have e := ih (k + 1) pos t hp (by omega) (by omega) (by omega)
   cases d with
   | zero =>
    rw [stk, if_neg h]
    rw [stk] at e
    exact e
   | succ d =>
    rw [stk, if_neg h] at e
    rw [stk, if_neg h]
    exact e
theorem puHole_eq (x : S90) (hx : 0 ≤ x.f0 ∧ x.f0 ≤ 19 ∧ 0 ≤ x.f1 ∧ x.f1 < x.f2 ∧ x.f2 ≤ 2000) (k : Nat) (hk : 600 < k) : spec_puHole.f k x.f0 x.f1 x.f2 = some (holeSt x) := by
 unfold spec_puHole.f
 rw [puHole_loop x.f0 x.f1 x.f2 (by omega) (by omega) 501 k x.f1 [] (by omega) (by omega) (by omega) (by simp), List.nil_append]
 rfl
theorem puStrokes_loop (l : List S90) (hl : l.length ≤ 60) (hx : ∀ x ∈ l, 0 ≤ x.f0 ∧ x.f0 ≤ 19 ∧ 0 ≤ x.f1 ∧ x.f1 < x.f2 ∧ x.f2 ≤ 2000) (d : Nat) : ∀ (k i : Nat) (t : List S103), i + d = l.length → d + 700 < k → t.length + 502 * d ≤ 1000000 →
  spec_puStrokes.l0 k t l l.length i = some (sheetSt t (l.drop i)) := by
 induction d with
 | zero =>
  intro k i t hi hk ht
  obtain ⟨k, rfl⟩ : ∃ j, k = j + 1 := ⟨k - 1, by omega⟩
  rw [spec_puStrokes.l0, if_neg (by omega), List.drop_of_length_le (by omega), sheetSt]
  by_cases h : t.length > 200
  ·rw [if_pos (by omega), if_pos h]
  ·rw [if_neg (by omega), if_neg h]
 | succ d ih =>
  intro k i t hi hk ht
  obtain ⟨k, rfl⟩ : ∃ j, k = j + 1 := ⟨k - 1, by omega⟩
  have hz := holeSt_length l[i]
  rw [spec_puStrokes.l0, if_pos (by omega), if_pos (by omega), if_pos (by omega), rdH_get l i (by omega), puHole_eq _ (hx _ (List.getElem_mem _)) k (by omega), drop_get l i (by omega), sheetSt]
  simp only [Option.bind_some]
  by_cases h : (holeSt l[i]).length = 0
  ·rw [if_pos (by omega), if_pos h]
  ·rw [if_neg (by omega), if_neg h, if_pos (by omega), w64 (by omega), show ((i : Int) + 1) = ((i + 1 : Nat) : Int) by omega]
   exact ih k (i + 1) _ (by omega) (by omega) (by rw [List.length_append]; omega)
theorem puStrokes_eq (l : List S90) (h : SheetB l = true) (k : Nat) (hk : 800 < k) : spec_puStrokes.f k l = some (sheetSt [] l) := by
 obtain ⟨h1, h2⟩ := sheet_facts h
 exact puStrokes_loop l h1 h2 l.length k 0 [] (by omega) (by omega) (by simp; omega)
theorem holeStrokes_loop (a b c : Int) (hb : 0 ≤ b ∧ b ≤ 2000) (hc : 0 ≤ c ∧ c ≤ 2000) (d : Nat) : ∀ (k : Nat) (pos : Int) (t : List S103), 0 ≤ pos ∧ pos ≤ 4000 → c - 4 < pos + 4 * d → d < k → t.length + d ≤ 1000000 → (t.length = 0 → pos ≤ c - 4) →
  impl_holeStrokes.l0 k t (c - 4) pos a b c = some (stkEnd a (c - 4) (t ++ stk a (c - 4) pos d), true) := by
 induction d with
 | zero =>
  intro k pos t hp hd hk ht hn
  obtain ⟨k, rfl⟩ : ∃ j, k = j + 1 := ⟨k - 1, by omega⟩
  have h : 0 < t.length := by
   by_cases h0 : t.length = 0
   ·have := hn h0; omega
   ·omega
  have e1 : wrap64 ((t.length : Int) - 1) = ((t.length - 1 : Nat) : Int) := by rw [w64 (by omega)]; omega
  rw [impl_holeStrokes.l0, if_neg (by omega), stk, List.append_nil, e1, if_pos (by omega), if_pos (by omega), if_pos (show t.length < 8796093022208 by omega)]
  unfold stkEnd
  rw [if_pos h]
  by_cases h2 : (rd_T103 t ((t.length - 1 : Nat) : Int)).f1 < c - 4
  ·rw [if_pos h2, if_pos h2]
  ·rw [if_neg h2, if_neg h2]
 | succ d ih =>
  intro k pos t hp hd hk ht hn
  obtain ⟨k, rfl⟩ : ∃ j, k = j + 1 := ⟨k - 1, by omega⟩
  by_cases h : pos ≤ c - 4
  ·rw [impl_holeStrokes.l0, if_pos h, if_pos (by omega), w64 (by omega), ih k (pos + 4) _ (by omega) (by omega) (by omega) (by rw [List.length_append, List.length_singleton]; omega) (by intro h'; simp at h'), stk, if_pos h, List.append_assoc]
   rfl
  ·have e := ih (k + 1) pos t hp (by omega) (by omega) (by omega) hn
   cases d with
   | zero =>
    rw [stk, if_neg h]
    rw [stk] at e
    exact e
   | succ d =>
    rw [stk, if_neg h] at e
    rw [stk, if_neg h]
    exact e
theorem holeStrokes_eq (x : S90) (hx : 0 ≤ x.f0 ∧ x.f0 ≤ 19 ∧ 0 ≤ x.f1 ∧ x.f1 < x.f2 ∧ x.f2 ≤ 2000) (k : Nat) (hk : 600 < k) : impl_holeStrokes.f k x.f0 x.f1 x.f2 = some (holeSt x, !((holeSt x).length == 0)) := by
 unfold impl_holeStrokes.f
 have hn := holeSt_none x
 rw [w64 (x := x.f2 - x.f1) (by omega), w64 (x := x.f2 - 4) (by omega)]
 by_cases h : x.f2 - x.f1 < 4
 ·have h0 := hn.2 h
  rw [if_pos h, List.length_eq_zero_iff.1 h0]
  rfl
 ·have h0 : ¬ (holeSt x).length = 0 := fun h' => h (hn.1 h')
  rw [if_neg h, holeStrokes_loop x.f0 x.f1 x.f2 (by omega) (by omega) 501 k x.f1 [] (by omega) (by omega) (by omega) (by simp) (by omega), List.nil_append]
  have : ((holeSt x).length == 0) = false := by simpa using h0
  rw [this]
  rfl
theorem strokesOf_loop (l : List S90) (hl : l.length ≤ 60) (hx : ∀ x ∈ l, 0 ≤ x.f0 ∧ x.f0 ≤ 19 ∧ 0 ≤ x.f1 ∧ x.f1 < x.f2 ∧ x.f2 ≤ 2000) (d : Nat) : ∀ (k i : Nat) (t : List S103), i + d = l.length → d + 700 < k → t.length + 502 * d ≤ 1000000 →
  impl_strokesOf.l0 k t l l.length i = some (sheetSt t (l.drop i)) := by
 induction d with
 | zero =>
  intro k i t hi hk ht
  obtain ⟨k, rfl⟩ : ∃ j, k = j + 1 := ⟨k - 1, by omega⟩
  rw [impl_strokesOf.l0, if_neg (by omega), List.drop_of_length_le (by omega), sheetSt]
  by_cases h : t.length > 200
  ·rw [if_pos (by omega), if_pos h]
  ·rw [if_neg (by omega), if_neg h]
 | succ d ih =>
  intro k i t hi hk ht
  obtain ⟨k, rfl⟩ : ∃ j, k = j + 1 := ⟨k - 1, by omega⟩
  have hz := holeSt_length l[i]
  rw [impl_strokesOf.l0, if_pos (by omega), if_pos (by omega), if_pos (by omega), rdH_get l i (by omega), holeStrokes_eq _ (hx _ (List.getElem_mem _)) k (by omega), drop_get l i (by omega), sheetSt]
  simp only [Option.bind_some]
  by_cases h : (holeSt l[i]).length = 0
  ·rw [h, if_neg (by decide), if_pos rfl]
  ·have : (!((holeSt l[i]).length == 0)) = true := by simpa using h
   rw [if_pos this, if_neg h, if_pos (by omega), w64 (by omega), show ((i : Int) + 1) = ((i + 1 : Nat) : Int) by omega]
   exact ih k (i + 1) _ (by omega) (by omega) (by rw [List.length_append]; omega)
theorem strokesOf_eq (l : List S90) (h : SheetB l = true) (k : Nat) (hk : 800 < k) : impl_strokesOf.f k l = some (sheetSt [] l) := by
 obtain ⟨h1, h2⟩ := sheet_facts h
 exact strokesOf_loop l h1 h2 l.length k 0 [] (by omega) (by omega) (by simp; omega)
def StrokeOK (x : S103) : Prop := 0 ≤ x.f0 ∧ x.f0 ≤ 19 ∧ 0 ≤ x.f1 ∧ x.f1 ≤ 1999
instance (x : S103) : Decidable (StrokeOK x) := by unfold StrokeOK; infer_instance
def StrokesOK (l : List S103) : Prop := (∀ x ∈ l, StrokeOK x) ∧ l.length ≤ 200
instance (l : List S103) : Decidable (StrokesOK l) := by unfold StrokesOK; infer_instance
theorem puStroke_eq (a b : Int) : spec_puStroke.f a b = some (decide (StrokeOK ⟨a, b⟩)) := by
 unfold spec_puStroke.f spec_shStep.f
 simp only [in_eq, Option.bind_some, decide_eq_true_eq]
 split
 ·exact someD (by unfold StrokeOK; simp only []; omega)
 ·exact someF (by unfold StrokeOK; simp only []; omega)
theorem puGood_loop (l : List S103) (hl : l.length ≤ 1048576) (d : Nat) : ∀ (k i : Nat), i + d = l.length → d < k →
  spec_puGood.l0 k l l l.length i = some (decide ((∀ x ∈ l.drop i, StrokeOK x) ∧ l.length ≤ 200)) := by
 induction d with
 | zero =>
  intro k i hi hk
  obtain ⟨k, rfl⟩ : ∃ j, k = j + 1 := ⟨k - 1, by omega⟩
  rw [spec_puGood.l0, if_neg (by omega), List.drop_of_length_le (by omega)]
  exact someD (by simp; omega)
 | succ d ih =>
  intro k i hi hk
  obtain ⟨k, rfl⟩ : ∃ j, k = j + 1 := ⟨k - 1, by omega⟩
  rw [spec_puGood.l0, if_pos (by omega), if_pos (by omega), if_pos (by omega), rdS_get l i (by omega), puStroke_eq, w64 (by omega), drop_get l i (by omega)]
  simp only [Option.bind_some, decide_eq_true_eq]
  split
  ·rename_i h
   rw [show ((i : Int) + 1) = ((i + 1 : Nat) : Int) by omega, ih k (i + 1) (by omega) (by omega)]
   exact someD (by rw [List.forall_mem_cons]; exact ⟨fun h' => ⟨⟨h, h'.1⟩, h'.2⟩, fun h' => ⟨h'.1.2, h'.2⟩⟩)
  ·rename_i h
   exact someF (by rw [List.forall_mem_cons]; exact fun h' => h h'.1.1)
theorem puGood_eq (l : List S103) (hl : l.length ≤ 1048576) (k : Nat) (hk : l.length < k) : spec_puGood.f k l = some (decide (StrokesOK l)) := by
 unfold spec_puGood.f StrokesOK
 have := puGood_loop l hl l.length k 0 (by omega) hk
 rw [List.drop_zero] at this
 exact this
def jobSt (l : List S90) (n : Int) : List S103 × Bool := if SheetB l then (if (sheetSt [] l).2 then ((sheetSt [] l).1, decide (0 ≤ n ∧ n ≤ ((sheetSt [] l).1.length : Int))) else ((sheetSt [] l).1, false)) else ([], false)
theorem jobSt_length (l : List S90) (n : Int) : (jobSt l n).1.length ≤ 200 := by
 have := sheetSt_length l []
 unfold jobSt
 split
 ·split <;> exact this
 ·simp
theorem jobSt_done (l : List S90) (n : Int) (h : (jobSt l n).2 = true) : 0 ≤ n ∧ n ≤ ((jobSt l n).1.length : Int) := by
 unfold jobSt at h ⊢
 by_cases h1 : SheetB l = true
 ·by_cases h2 : (sheetSt [] l).2 = true
  ·rw [if_pos h1, if_pos h2] at h ⊢
   exact of_decide_eq_true h
  ·rw [if_pos h1, if_neg h2] at h
   exact absurd h Bool.false_ne_true
 ·rw [if_neg h1] at h
  exact absurd h Bool.false_ne_true
theorem specJob_eq (l : List S90) (hl : l.length ≤ 1048576) (n : Int) (k : Nat) (hk : fuelH 0 l.length + 900 ≤ k) : spec_jbStrokes.f k l n = some (jobSt l n) := by
 unfold spec_jbStrokes.f jobSt
 rw [shGood_eq l hl k (by omega)]
 simp only [Option.bind_some]
 by_cases h : SheetB l = true
 ·rw [if_pos h, if_pos h, puStrokes_eq l h k (by omega)]
  simp only [Option.bind_some]
  by_cases h2 : (sheetSt [] l).2 = true
  ·rw [if_pos h2, if_pos h2, in_eq]
   rfl
  ·rw [if_neg h2, if_neg h2]
 ·rw [if_neg h, if_neg h]
theorem implJob_eq (l : List S90) (hl : l.length ≤ 1048576) (n : Int) (k : Nat) (hk : fuelH 0 l.length + 900 ≤ k) : impl_jobStrokes.f k l n = some (jobSt l n) := by
 unfold impl_jobStrokes.f jobSt
 rw [isSheet_eq l hl k (by omega)]
 simp only [Option.bind_some]
 by_cases h : SheetB l = true
 ·rw [if_pos h, if_pos h, strokesOf_eq l h k (by omega)]
  simp only [Option.bind_some]
  by_cases h2 : (sheetSt [] l).2 = true
  ·rw [if_pos h2, if_pos h2]
   by_cases h3 : n ≥ 0
   ·rw [if_pos h3]
    congr 2
    rw [decide_eq_decide]
    exact ⟨fun h => ⟨h3, h⟩, fun h => h.2⟩
   ·rw [if_neg h3]
    congr 2
    symm
    rw [decide_eq_false_iff_not]
    exact fun h => h3 h.1
  ·rw [if_neg h2, if_neg h2]
 ·rw [if_neg h, if_neg h]
theorem isJob_eq (l : List S90) (hl : l.length ≤ 1048576) (n : Int) (k : Nat) (hk : fuelH 0 l.length + 900 ≤ k) : impl_IsPunchJob.f k l n = some (jobSt l n).2 := by
 unfold impl_IsPunchJob.f
 rw [implJob_eq l hl n k hk]
 rfl
theorem own_eq (l : List S90) (hl : l.length ≤ 1048576) (n : Int) : spec_jbOwn.f l n = some (l, n) := by
 unfold spec_jbOwn.f
 simp only [Option.bind_some]
 rw [if_pos (by simp; omega), List.nil_append]
theorem jobAt_eq (l : List S90) (hl : l.length ≤ 1048576) (n : Int) : impl_jobAt.f l n = some (l, n) := by
 unfold impl_jobAt.f slices_Clone_Hole.f
 rw [if_pos (by omega)]
 rfl
theorem least_mn (a b : Int) : spec_l1Least.f a b = some (mn a b) := by
 unfold spec_l1Least.f mn
 by_cases h : a < b
 ·rw [if_pos h, if_neg (by omega)]
 ·rw [if_neg h]
  by_cases h2 : b < a
  ·rw [if_pos h2]
  ·rw [if_neg h2, show a = b by omega]
theorem stk_ok (a last : Int) (ha : 0 ≤ a ∧ a ≤ 19) (hl : last ≤ 1996) (d : Nat) : ∀ pos, 0 ≤ pos → ∀ x ∈ stk a last pos d, StrokeOK x := by
 induction d with
 | zero => intro pos _ x hx; simp [stk] at hx
 | succ d ih =>
  intro pos hp x hx
  rw [stk] at hx
  split at hx
  ·rcases List.mem_cons.1 hx with rfl | hx
   ·unfold StrokeOK; exact ⟨ha.1, ha.2, hp, by simp only; omega⟩
   ·exact ih (pos + 4) (by omega) x hx
  ·simp at hx
theorem holeSt_ok (h : S90) (hh : 0 ≤ h.f0 ∧ h.f0 ≤ 19 ∧ 0 ≤ h.f1 ∧ h.f1 < h.f2 ∧ h.f2 ≤ 2000) : ∀ x ∈ holeSt h, StrokeOK x := by
 intro x hx
 have hs := stk_ok h.f0 (h.f2 - 4) ⟨hh.1, hh.2.1⟩ (by omega) 501 h.f1 hh.2.2.1
 unfold holeSt stkEnd at hx
 split at hx
 ·rename_i h0
  split at hx
  ·rename_i h1
   rcases List.mem_append.1 hx with hx | hx
   ·exact hs x hx
   ·obtain rfl := List.mem_singleton.1 hx
    have h2 : 0 ≤ h.f2 - 4 := by
     rcases Int.lt_or_le (h.f2 - 4) h.f1 with g | g
     ·exfalso
      have : stk h.f0 (h.f2 - 4) h.f1 501 = [] := by
       show stk h.f0 (h.f2 - 4) h.f1 (500 + 1) = []
       rw [stk, if_neg (by omega)]
      rw [this] at h0
      simp at h0
     ·omega
    unfold StrokeOK
    exact ⟨hh.1, hh.2.1, h2, by simp only; omega⟩
  ·exact hs x hx
 ·exact hs x hx
theorem sheetSt_ok (r : List S90) : ∀ t, (∀ x ∈ t, StrokeOK x) → (∀ h ∈ r, 0 ≤ h.f0 ∧ h.f0 ≤ 19 ∧ 0 ≤ h.f1 ∧ h.f1 < h.f2 ∧ h.f2 ≤ 2000) → ∀ x ∈ (sheetSt t r).1, StrokeOK x := by
 induction r with
 | nil =>
  intro t ht _ x hx
  rw [sheetSt] at hx
  split at hx
  ·simp at hx
  ·exact ht x hx
 | cons h r ih =>
  intro t ht hr x hx
  rw [sheetSt] at hx
  split at hx
  ·simp at hx
  ·refine ih (t ++ holeSt h) (fun y hy => ?_) (fun y hy => hr y (List.mem_cons_of_mem _ hy)) x hx
   rcases List.mem_append.1 hy with hy | hy
   ·exact ht y hy
   ·exact holeSt_ok h (hr h List.mem_cons_self) y hy
theorem jobSt_ok (l : List S90) (n : Int) : ∀ x ∈ (jobSt l n).1, StrokeOK x := by
 intro x hx
 unfold jobSt at hx
 by_cases h1 : SheetB l = true
 ·have := sheetSt_ok l [] (fun y hy => by simp at hy) (sheet_facts h1).2 x
  rw [if_pos h1] at hx
  split at hx
  ·exact this hx
  ·exact this hx
 ·rw [if_neg h1] at hx
  simp at hx
def Evn {α : Type} (g : Nat → Option α) (r : α) : Prop := ∃ K, ∀ k, K ≤ k → g k = some r
theorem Evn.const {α : Type} {g : Nat → Option α} {r : α} (h : ∀ k, g k = some r) : Evn g r := ⟨0, fun k _ => h k⟩
theorem Evn.ge {α : Type} {g : Nat → Option α} {r : α} (K : Nat) (h : ∀ k, K ≤ k → g k = some r) : Evn g r := ⟨K, h⟩
theorem Evn.step {α : Type} {g h : Nat → Option α} {r : α} (hs : ∀ k, g (k + 1) = h k) (e : Evn h r) : Evn g r := by
 obtain ⟨K, hK⟩ := e
 refine ⟨K + 1, fun k hk => ?_⟩
 obtain ⟨j, rfl⟩ : ∃ j, k = j + 1 := ⟨k - 1, by omega⟩
 rw [hs]
 exact hK j (by omega)
theorem Evn.congr {α : Type} {g h : Nat → Option α} {r : α} (hs : ∀ k, g k = h k) (e : Evn h r) : Evn g r := by
 obtain ⟨K, hK⟩ := e
 exact ⟨K, fun k hk => by rw [hs]; exact hK k hk⟩
theorem Evn.bind {α β : Type} {g : Nat → Option α} {a : α} {h : Nat → α → Option β} {r : β} (e : Evn g a) (e2 : Evn (fun k => h k a) r) : Evn (fun k => (g k).bind (h k)) r := by
 obtain ⟨K, hK⟩ := e
 obtain ⟨M, hM⟩ := e2
 refine ⟨K + M, fun k hk => ?_⟩
 simp only []
 rw [hK k (by omega), Option.bind_some]
 exact hM k (by omega)
theorem Evn.both {α β : Type} {g : Nat → Option α} {h : Nat → Option β} {r : α} {q : β} (e : Evn g r) (f : Evn h q) : ∃ K, ∀ k, K ≤ k → g k = some r ∧ h k = some q := by
 obtain ⟨K, hK⟩ := e
 obtain ⟨M, hM⟩ := f
 exact ⟨K + M, fun k hk => ⟨hK k (by omega), hM k (by omega)⟩⟩
def Cov (L : List S90) (t s : Int) : Prop := ∃ h ∈ L, h.f0 = t ∧ h.f1 ≤ s ∧ s < h.f2
def Apart (a b : S90) : Prop := a.f0 < b.f0 ∨ (a.f0 = b.f0 ∧ a.f2 < b.f1)
def Norm (L : List S90) : Prop := L.Pairwise Apart ∧ ∀ h ∈ L, h.f1 < h.f2
theorem norm_nil : Norm [] := ⟨List.Pairwise.nil, fun h hh => by simp at hh⟩
theorem cov_nil (t s : Int) : ¬ Cov [] t s := fun ⟨h, hh, _⟩ => by simp at hh
theorem cov_cons (a : S90) (L : List S90) (t s : Int) : Cov (a :: L) t s ↔ (a.f0 = t ∧ a.f1 ≤ s ∧ s < a.f2) ∨ Cov L t s := by
 unfold Cov
 constructor
 ·rintro ⟨h, hh, hc⟩
  rcases List.mem_cons.1 hh with rfl | hh
  ·exact Or.inl hc
  ·exact Or.inr ⟨h, hh, hc⟩
 ·rintro (hc | ⟨h, hh, hc⟩)
  ·exact ⟨a, List.mem_cons_self, hc⟩
  ·exact ⟨h, List.mem_cons_of_mem _ hh, hc⟩
theorem cov_append (A B : List S90) (t s : Int) : Cov (A ++ B) t s ↔ Cov A t s ∨ Cov B t s := by
 induction A with
 | nil => simp [cov_nil]
 | cons a A ih => rw [List.cons_append, cov_cons, cov_cons, ih, or_assoc]
theorem norm_cons {a : S90} {L : List S90} (h : Norm (a :: L)) : (∀ b ∈ L, Apart a b) ∧ a.f1 < a.f2 ∧ Norm L := by
 obtain ⟨h1, h2⟩ := h
 rw [List.pairwise_cons] at h1
 exact ⟨h1.1, h2 a List.mem_cons_self, h1.2, fun x hx => h2 x (List.mem_cons_of_mem _ hx)⟩
theorem norm_first {a : S90} {L : List S90} (h : Norm (a :: L)) {t s : Int} (hc : Cov (a :: L) t s) : a.f0 < t ∨ (a.f0 = t ∧ a.f1 ≤ s) := by
 obtain ⟨h1, h2, h3⟩ := norm_cons h
 rcases (cov_cons _ _ _ _).1 hc with ⟨e, e1, e2⟩ | ⟨b, hb, e, e1, e2⟩
 ·exact Or.inr ⟨e, e1⟩
 ·rcases h1 b hb with g | ⟨g1, g2⟩
  ·exact Or.inl (by omega)
  ·exact Or.inr ⟨by omega, by omega⟩
theorem norm_end {a : S90} {L : List S90} (h : Norm (a :: L)) : ¬ Cov (a :: L) a.f0 a.f2 := by
 obtain ⟨h1, h2, h3⟩ := norm_cons h
 intro hc
 rcases (cov_cons _ _ _ _).1 hc with ⟨e, e1, e2⟩ | ⟨b, hb, e, e1, e2⟩
 ·omega
 ·rcases h1 b hb with g | ⟨g1, g2⟩
  ·omega
  ·omega
theorem norm_rest {a : S90} {L : List S90} (h : Norm (a :: L)) (t s : Int) : Cov L t s ↔ Cov (a :: L) t s ∧ ¬ (a.f0 = t ∧ a.f1 ≤ s ∧ s < a.f2) := by
 obtain ⟨h1, h2, h3⟩ := norm_cons h
 rw [cov_cons]
 constructor
 ·rintro ⟨b, hb, e, e1, e2⟩
  refine ⟨Or.inr ⟨b, hb, e, e1, e2⟩, ?_⟩
  rcases h1 b hb with g | ⟨g1, g2⟩
  ·omega
  ·omega
 ·rintro ⟨hc | hc, hn⟩
  ·exact absurd hc hn
  ·exact hc
theorem norm_unique : ∀ (L M : List S90), Norm L → Norm M → (∀ t s, Cov L t s ↔ Cov M t s) → L = M
 | [], [], _, _, _ => rfl
 | [], b :: M, _, hM, hc => by
  have h := norm_cons hM
  exact absurd ((hc b.f0 b.f1).2 ⟨b, List.mem_cons_self, rfl, Int.le_refl _, h.2.1⟩) (cov_nil _ _)
 | a :: L, [], hL, _, hc => by
  have h := norm_cons hL
  exact absurd ((hc a.f0 a.f1).1 ⟨a, List.mem_cons_self, rfl, Int.le_refl _, h.2.1⟩) (cov_nil _ _)
 | a :: L, b :: M, hL, hM, hc => by
  have ha := norm_cons hL
  have hb := norm_cons hM
  have ca : Cov (a :: L) a.f0 a.f1 := ⟨a, List.mem_cons_self, rfl, Int.le_refl _, ha.2.1⟩
  have cb : Cov (b :: M) b.f0 b.f1 := ⟨b, List.mem_cons_self, rfl, Int.le_refl _, hb.2.1⟩
  have l1 := norm_first hM ((hc _ _).1 ca)
  have l2 := norm_first hL ((hc _ _).2 cb)
  have e0 : a.f0 = b.f0 := by omega
  have e1 : a.f1 = b.f1 := by omega
  have e2 : a.f2 = b.f2 := by
   rcases Int.lt_trichotomy a.f2 b.f2 with h | h | h
   ·refine absurd ((hc a.f0 a.f2).2 ⟨b, List.mem_cons_self, e0.symm, ?_, h⟩) (norm_end hL)
    have := ha.2.1
    omega
   ·exact h
   ·refine absurd ((hc b.f0 b.f2).1 ⟨a, List.mem_cons_self, e0, ?_, h⟩) (norm_end hM)
    have := hb.2.1
    omega
  have e : a = b := by
   obtain ⟨a0, a1, a2⟩ := a
   obtain ⟨b0, b1, b2⟩ := b
   simp only at e0 e1 e2
   rw [e0, e1, e2]
  subst e
  rw [norm_unique L M ha.2.2 hb.2.2 (fun t s => by rw [norm_rest hL, norm_rest hM, hc])]
def mg (L : List S90) (t a b : Int) : List S90 := match L.getLast? with
 | none => [⟨t, a, b⟩]
 | some h => if h.f0 = t ∧ a ≤ h.f2 then L.dropLast ++ [⟨h.f0, h.f1, mx h.f2 b⟩] else L ++ [⟨t, a, b⟩]
theorem norm_append {L : List S90} {x : S90} : Norm (L ++ [x]) ↔ Norm L ∧ (∀ h ∈ L, Apart h x) ∧ x.f1 < x.f2 := by
 unfold Norm
 rw [List.pairwise_append]
 constructor
 ·rintro ⟨⟨h1, _, h3⟩, h4⟩
  exact ⟨⟨h1, fun h hh => h4 h (List.mem_append_left _ hh)⟩, fun h hh => h3 h hh x (List.mem_singleton.2 rfl), h4 x (List.mem_append_right _ (List.mem_singleton.2 rfl))⟩
 ·rintro ⟨⟨h1, h2⟩, h3, h4⟩
  refine ⟨⟨h1, List.pairwise_singleton _ _, fun h hh y hy => by obtain rfl := List.mem_singleton.1 hy; exact h3 h hh⟩, fun h hh => ?_⟩
  rcases List.mem_append.1 hh with hh | hh
  ·exact h2 h hh
  ·obtain rfl := List.mem_singleton.1 hh; exact h4
theorem mg_ok (L : List S90) (t a b : Int) (hL : Norm L) (hab : a < b) (hb : ∀ h ∈ L, h.f0 < t ∨ (h.f0 = t ∧ h.f1 ≤ a)) :
  Norm (mg L t a b) ∧ (∀ t' s, Cov (mg L t a b) t' s ↔ Cov L t' s ∨ (t = t' ∧ a ≤ s ∧ s < b)) ∧ (∀ h ∈ mg L t a b, h.f0 < t ∨ (h.f0 = t ∧ h.f1 ≤ a)) ∧ (mg L t a b).length ≤ L.length + 1 := by
 unfold mg
 rcases List.eq_nil_or_concat L with rfl | ⟨I, x, hIx⟩
 ·rw [List.getLast?_nil]
  refine ⟨⟨List.pairwise_singleton _ _, fun h hh => by obtain rfl := List.mem_singleton.1 hh; exact hab⟩, fun t' s => by rw [cov_cons, or_comm], fun h hh => by obtain rfl := List.mem_singleton.1 hh; exact Or.inr ⟨rfl, Int.le_refl _⟩, by simp⟩
 ·rw [List.concat_eq_append] at hIx
  subst hIx
  rw [List.getLast?_concat]
  obtain ⟨n1, n2, n3⟩ := norm_append.1 hL
  have hx := hb x (List.mem_append_right _ (List.mem_singleton.2 rfl))
  have hI : ∀ h ∈ I, h.f0 < t ∨ (h.f0 = t ∧ h.f1 ≤ a) := fun h hh => hb h (List.mem_append_left _ hh)
  by_cases hc : x.f0 = t ∧ a ≤ x.f2
  ·simp only [if_pos hc, List.dropLast_concat]
   have hm : mx x.f2 b = x.f2 ∧ b ≤ x.f2 ∨ mx x.f2 b = b ∧ x.f2 ≤ b := by unfold mx; omega
   refine ⟨norm_append.2 ⟨n1, n2, by simp only; omega⟩, fun t' s => ?_, fun h hh => ?_, by simp⟩
   ·rw [cov_append, cov_append, cov_cons, cov_cons]
    simp only [cov_nil, or_false]
    constructor
    ·rintro (h | h)
     ·exact Or.inl (Or.inl h)
     ·by_cases g : s < x.f2
      ·exact Or.inl (Or.inr ⟨h.1, h.2.1, g⟩)
      ·exact Or.inr ⟨by omega, by omega, by omega⟩
    ·rintro ((h | h) | h)
     ·exact Or.inl h
     ·exact Or.inr ⟨h.1, h.2.1, by omega⟩
     ·exact Or.inr ⟨by omega, by omega, by omega⟩
   ·rcases List.mem_append.1 hh with hh | hh
    ·exact hI h hh
    ·obtain rfl := List.mem_singleton.1 hh
     simp only
     omega
  ·simp only [if_neg hc]
   refine ⟨norm_append.2 ⟨hL, fun h hh => ?_, hab⟩, fun t' s => ?_, fun h hh => ?_, by simp⟩
   ·unfold Apart
    simp only
    rcases List.mem_append.1 hh with hh | hh
    ·have g1 := hI h hh
     have g2 := n2 h hh
     unfold Apart at g2
     omega
    ·obtain rfl := List.mem_singleton.1 hh
     omega
   ·rw [cov_append, cov_cons]
    simp only [cov_nil, or_false]
   ·rcases List.mem_append.1 hh with hh | hh
    ·exact hb h hh
    ·obtain rfl := List.mem_singleton.1 hh
     exact Or.inr ⟨rfl, Int.le_refl _⟩
theorem pair_mem {α : Type} {R : α → α → Prop} : ∀ {L : List α}, L.Pairwise R → ∀ a ∈ L, ∀ b ∈ L, a = b ∨ R a b ∨ R b a
 | [], _, a, ha, _, _ => by simp at ha
 | x :: L, h, a, ha, b, hb => by
  rw [List.pairwise_cons] at h
  rcases List.mem_cons.1 ha with e1 | h1
  ·rcases List.mem_cons.1 hb with e2 | h2
   ·exact Or.inl (e1.trans e2.symm)
   ·exact Or.inr (Or.inl (e1 ▸ h.1 b h2))
  ·rcases List.mem_cons.1 hb with e2 | h2
   ·exact Or.inr (Or.inr (e2 ▸ h.1 a h1))
   ·exact pair_mem h.2 a h1 b h2
theorem lt_before (a b : S90) : impl_holeLt a b = hBefore a b := rfl
theorem norm_keys {L : List S90} (h : Norm L) : ∀ a ∈ L, ∀ b ∈ L, impl_holeLt a b = false → impl_holeLt b a = false → a = b := by
 intro a ha b hb h1 h2
 unfold impl_holeLt at h1 h2
 have h1 := of_decide_eq_false h1
 have h2 := of_decide_eq_false h2
 rcases pair_mem h.1 a ha b hb with e | e | e
 ·exact e
 ·have := h.2 a ha
  unfold Apart at e
  omega
 ·have := h.2 b hb
  unfold Apart at e
  omega
def inOrder (L : List S90) : List S90 := L.mergeSort (fun a b => !impl_holeLt b a)
def shOf (L : List S90) : List S90 × Bool := if SheetB (inOrder L) then (inOrder L, true) else ([], false)
theorem inOrder_length (L : List S90) : (inOrder L).length = L.length := by unfold inOrder; exact (List.mergeSort_perm _ _).length_eq
theorem sortHoles_eq {L : List S90} (h : Norm L) (hl : L.length ≤ 1048576) : impl_sortHoles.f L = some (inOrder L) := by
 unfold impl_sortHoles.f inOrder
 rw [if_pos ⟨by omega, fun a ha b hb h1 h2 => by rw [norm_keys h a ha b hb h1 h2]; exact ⟨rfl, rfl, rfl⟩⟩]
theorem order_facts {L : List S90} (h : Norm L) (hl : L.length ≤ 1048576) {M : List S90} (hp : M.Perm L) (hs : M.Pairwise (fun a b => impl_holeLt b a = false)) : M = inOrder L := impl_sortHoles.uniq (sortHoles_eq h hl) hp hs
theorem short_no (L : List S90) (h : 60 < L.length) : SheetB (inOrder L) = false := by
 unfold SheetB
 rw [inOrder_length, decide_eq_false (by omega), Bool.and_false]
theorem sheetOf_eq {L : List S90} (h : Norm L) (hl : L.length ≤ 1048576) (k : Nat) (hk : fuelH 0 L.length ≤ k) : impl_sheetOf.f k L = some (shOf L) := by
 unfold impl_sheetOf.f shOf
 by_cases h60 : (L.length : Int) > 60
 ·rw [if_pos h60, short_no L (by omega)]
  rfl
 ·rw [if_neg h60]
  unfold slices_Clone_Hole.f
  rw [if_pos (by omega)]
  simp only [Option.bind_some]
  rw [sortHoles_eq h hl]
  simp only [Option.bind_some]
  rw [isSheet_eq _ (by rw [inOrder_length]; exact hl) k (by rw [inOrder_length]; exact hk)]
  simp only [Option.bind_some]
  cases SheetB (inOrder L) <;> rfl
def NotAfter (a b : S90) : Prop := impl_holeLt b a = false
theorem insert_order {out : List S90} {x : S90} (ho : out.Pairwise NotAfter) (j : Nat) (hj : j ≤ out.length) (h1 : ∀ i, j ≤ i → ∀ h : i < out.length, hBefore x out[i] = true) (h2 : ∀ h : 0 < j, hBefore x (out[j - 1]'(by omega)) = false) :
  (out.take j ++ [x] ++ out.drop j).Pairwise NotAfter := by
 have hO := impl_holeLt.swo
 rw [List.append_assoc, List.pairwise_append]
 refine ⟨ho.sublist (List.take_sublist _ _), ?_, ?_⟩
 ·rw [List.singleton_append, List.pairwise_cons]
  refine ⟨fun y hy => ?_, ho.sublist (List.drop_sublist _ _)⟩
  obtain ⟨i, hi, rfl⟩ := List.mem_iff_getElem.1 hy
  rw [List.length_drop] at hi
  rw [List.getElem_drop]
  have := h1 (j + i) (by omega) (by omega)
  unfold NotAfter
  rw [lt_before]
  unfold hBefore at *
  have := of_decide_eq_true this
  exact decide_eq_false (by omega)
 ·intro a ha y hy
  obtain ⟨i, hi, rfl⟩ := List.mem_iff_getElem.1 ha
  rw [List.length_take] at hi
  rw [List.getElem_take]
  have hj0 : 0 < j := by omega
  have e2 := h2 hj0
  have ea : NotAfter out[i] x := by
   unfold NotAfter
   rw [lt_before]
   by_cases he : i = j - 1
   ·subst he; exact e2
   ·have := (List.pairwise_iff_getElem.1 ho) i (j - 1) (by omega) (by omega) (by omega)
    exact hO.ntrans _ _ _ e2 this
  rcases List.mem_cons.1 (by simpa using hy) with rfl | hy
  ·exact ea
  ·obtain ⟨q, hq, rfl⟩ := List.mem_iff_getElem.1 hy
   rw [List.length_drop] at hq
   rw [List.getElem_drop]
   exact (List.pairwise_iff_getElem.1 ho) i (j + q) (by omega) (by omega) (by omega)
theorem insert_perm {α : Type} (out : List α) (x : α) (j : Nat) : (out.take j ++ [x] ++ out.drop j).Perm (out ++ [x]) := by
 rw [List.append_assoc]
 have h1 : (out.take j ++ ([x] ++ out.drop j)).Perm (out.take j ++ (out.drop j ++ [x])) := (List.perm_append_comm).append_left _
 refine h1.trans ?_
 rw [← List.append_assoc, List.take_append_drop]
theorem place_loop (out l : List S90) (hl : out.length ≤ 1048576) (x : S90) (n i : Int) {r : List S90 × Bool}
  (hk : ∀ j (_hj : j ≤ out.length), (∀ q, j ≤ q → ∀ h : q < out.length, hBefore x out[q] = true) → (∀ h : 0 < j, hBefore x (out[j - 1]'(by omega)) = false) →
   Evn (fun k => spec_shSorted.l0 k (out.take j ++ [x] ++ out.drop j) l n (wrap64 (i + 1))) r) :
  ∀ p, p ≤ out.length → (∀ q, p ≤ q → ∀ h : q < out.length, hBefore x out[q] = true) → Evn (fun k => spec_shSorted.l1 k out p l n i x.f0 x.f1 x.f2) r := by
 intro p
 induction p with
 | zero =>
  intro hp ha
  refine Evn.step (h := fun k => spec_shSorted.l0 k (out.take 0 ++ [x] ++ out.drop 0) l n (wrap64 (i + 1))) (fun k => ?_) (hk 0 (by omega) ha (fun h => absurd h (by omega)))
  rw [spec_shSorted.l1, if_neg (by simp)]
  simp only [Option.bind_some]
  rw [if_pos (by omega), if_pos (by omega)]
  simp only [Int.toNat_natCast, List.nil_append]
  rw [if_pos (by simp), if_pos (by simp), if_pos (by simp; omega)]
 | succ p ih =>
  intro hp ha
  have e1 : wrap64 (((p + 1 : Nat) : Int) - 1) = (p : Int) := by rw [w64 (by omega)]; omega
  by_cases hb : hBefore x (out[p]'(by omega)) = true
  ·refine Evn.step (h := fun k => spec_shSorted.l1 k out p l n i x.f0 x.f1 x.f2) (fun k => ?_) (ih (by omega) (fun q hq h => ?_))
   ·rw [spec_shSorted.l1, if_pos (by omega), e1, if_pos (by omega), if_pos (by omega), rdH_get out p (by omega), shBefore_eq]
    simp only [Option.bind_some]
    rw [hb, if_pos rfl]
   ·by_cases hq' : q = p
    ·subst hq'; exact hb
    ·exact ha q (by omega) h
  ·have hb' : hBefore x (out[p]'(by omega)) = false := Bool.eq_false_iff.2 hb
   refine Evn.step (h := fun k => spec_shSorted.l0 k (out.take (p + 1) ++ [x] ++ out.drop (p + 1)) l n (wrap64 (i + 1))) (fun k => ?_) (hk (p + 1) hp ha (fun _ => hb'))
   rw [spec_shSorted.l1, if_pos (by omega), e1, if_pos (by omega), if_pos (by omega), rdH_get out p (by omega), shBefore_eq]
   simp only [Option.bind_some]
   rw [hb', if_neg (by decide), if_pos (by omega), if_pos (by omega)]
   simp only [Int.toNat_natCast, List.nil_append]
   rw [if_pos (by simp; omega), if_pos (by simp; omega), if_pos (by simp; omega)]
theorem shSorted_loop (l : List S90) (hl : l.length ≤ 1048576) (d : Nat) : ∀ (i : Nat) (out : List S90), i + d = l.length → out.Perm (l.take i) → out.Pairwise NotAfter →
  ∃ M, M.Perm l ∧ M.Pairwise NotAfter ∧ Evn (fun k => spec_shSorted.l0 k out l l.length i) (if SheetB M then (M, true) else ([], false)) := by
 induction d with
 | zero =>
  intro i out hi hp hs
  have hn : l.take i = l := List.take_of_length_le (by omega)
  rw [hn] at hp
  have hol := hp.length_eq
  refine ⟨out, hp, hs, fuelH 0 out.length + 1, fun k hk => ?_⟩
  obtain ⟨k, rfl⟩ : ∃ j, k = j + 1 := ⟨k - 1, by omega⟩
  simp only []
  rw [spec_shSorted.l0, if_neg (by omega), shGood_eq out (by omega) k (by omega)]
  simp only [Option.bind_some]
  cases SheetB out <;> rfl
 | succ d ih =>
  intro i out hi hp hs
  have hol : out.length = i := by rw [hp.length_eq, List.length_take]; omega
  have hi' : i < l.length := by omega
  have ht : l.take (i + 1) = l.take i ++ [l[i]] := List.take_succ_eq_append_getElem hi'
  have hnext : ∀ j (_hj : j ≤ out.length), (∀ q, j ≤ q → ∀ h : q < out.length, hBefore l[i] out[q] = true) → (∀ h : 0 < j, hBefore l[i] (out[j - 1]'(by omega)) = false) →
    (out.take j ++ [l[i]] ++ out.drop j).Perm (l.take (i + 1)) ∧ (out.take j ++ [l[i]] ++ out.drop j).Pairwise NotAfter := fun j hj h1 h2 =>
   ⟨(insert_perm out l[i] j).trans (by rw [ht]; exact hp.append_right _), insert_order hs j hj h1 h2⟩
  obtain ⟨j0, hj0, a0, b0⟩ : ∃ j, ∃ hj : j ≤ out.length, (∀ q, j ≤ q → ∀ h : q < out.length, hBefore l[i] out[q] = true) ∧ (∀ h : 0 < j, hBefore l[i] (out[j - 1]'(by omega)) = false) := by
   have : ∀ p, p ≤ out.length → (∀ q, p ≤ q → ∀ h : q < out.length, hBefore l[i] out[q] = true) → ∃ j, ∃ hj : j ≤ out.length, (∀ q, j ≤ q → ∀ h : q < out.length, hBefore l[i] out[q] = true) ∧ (∀ h : 0 < j, hBefore l[i] (out[j - 1]'(by omega)) = false) := by
    intro p
    induction p with
    | zero => intro hp' ha; exact ⟨0, by omega, ha, fun h => absurd h (by omega)⟩
    | succ p ihp =>
     intro hp' ha
     by_cases hb : hBefore l[i] (out[p]'(by omega)) = true
     ·refine ihp (by omega) (fun q hq h => ?_)
      by_cases hq' : q = p
      ·subst hq'; exact hb
      ·exact ha q (by omega) h
     ·exact ⟨p + 1, hp', ha, fun _ => Bool.eq_false_iff.2 hb⟩
   exact this out.length (Nat.le_refl _) (fun q hq h => absurd h (by omega))
  obtain ⟨M, hM1, hM2, hM3⟩ := ih (i + 1) _ (by omega) (hnext j0 hj0 a0 b0).1 (hnext j0 hj0 a0 b0).2
  refine ⟨M, hM1, hM2, ?_⟩
  refine Evn.step (h := fun k => spec_shSorted.l1 k out out.length l l.length i l[i].f0 l[i].f1 l[i].f2) (fun k => ?_) (place_loop out l (by omega) l[i] l.length i (fun j hj h1 h2 => ?_) out.length (Nat.le_refl _) (fun q hq h => absurd h (by omega)))
  ·rw [spec_shSorted.l0, if_pos (by omega), if_pos (by omega), if_pos (by omega), rdH_get l i hi']
  ·have e : j = j0 := by
    rcases Nat.lt_trichotomy j j0 with h | h | h
    ·have x1 := b0 (by omega)
     rw [h1 (j0 - 1) (by omega) (by omega)] at x1; cases x1
    ·exact h
    ·have x1 := h2 (by omega)
     rw [a0 (j - 1) (by omega) (by omega)] at x1; cases x1
   subst e
   rw [show wrap64 ((i : Int) + 1) = ((i + 1 : Nat) : Int) by rw [w64 (by omega)]; omega]
   exact hM3
theorem shSorted_eq {L : List S90} (h : Norm L) (hl : L.length ≤ 1048576) : Evn (fun k => spec_shSorted.f k L) (shOf L) := by
 obtain ⟨M, h1, h2, h3⟩ := shSorted_loop L hl L.length 0 [] (by omega) (by simp) List.Pairwise.nil
 have e := order_facts h hl h1 h2
 subst e
 exact h3
def Pun (l : List S103) (t s : Int) : Prop := ∃ x ∈ l, x.f0 = t ∧ x.f1 ≤ s ∧ s < x.f1 + 4 ∧ s < 2000
theorem pun_perm {l m : List S103} (h : l.Perm m) (t s : Int) : Pun l t s ↔ Pun m t s := by
 unfold Pun
 constructor
 ·rintro ⟨x, hx, h1⟩; exact ⟨x, h.mem_iff.1 hx, h1⟩
 ·rintro ⟨x, hx, h1⟩; exact ⟨x, h.mem_iff.2 hx, h1⟩
theorem pun_append (l m : List S103) (t s : Int) : Pun (l ++ m) t s ↔ Pun l t s ∨ Pun m t s := by
 unfold Pun
 constructor
 ·rintro ⟨x, hx, h1⟩
  rcases List.mem_append.1 hx with hx | hx
  ·exact Or.inl ⟨x, hx, h1⟩
  ·exact Or.inr ⟨x, hx, h1⟩
 ·rintro (⟨x, hx, h1⟩ | ⟨x, hx, h1⟩)
  ·exact ⟨x, List.mem_append_left _ hx, h1⟩
  ·exact ⟨x, List.mem_append_right _ hx, h1⟩
theorem pun_one (x : S103) (t s : Int) : Pun [x] t s ↔ x.f0 = t ∧ x.f1 ≤ s ∧ s < x.f1 + 4 ∧ s < 2000 := by
 unfold Pun
 constructor
 ·rintro ⟨y, hy, h⟩; obtain rfl := List.mem_singleton.1 hy; exact h
 ·intro h; exact ⟨x, List.mem_singleton.2 rfl, h⟩
theorem last_rd (I : List S90) (h : S90) : rd_T90 (I ++ [h]) (I.length : Int) = h := by
 rw [rdH_get _ I.length (by simp), List.getElem_append_right (by omega)]; simp
theorem last_set (I : List S90) (h v : S90) : (I ++ [h]).set I.length v = I ++ [v] := by
 rw [List.set_append_right _ _ (by omega), Nat.sub_self, List.set_cons_zero]
theorem mg_nil (t a b : Int) : mg [] t a b = [⟨t, a, b⟩] := rfl
theorem mg_last (I : List S90) (h : S90) (t a b : Int) : mg (I ++ [h]) t a b = if h.f0 = t ∧ a ≤ h.f2 then I ++ [⟨h.f0, h.f1, mx h.f2 b⟩] else I ++ [h] ++ [⟨t, a, b⟩] := by
 unfold mg
 rw [List.getLast?_concat]
 simp only [List.dropLast_concat]
theorem implPunch_step (out : List S90) (ys : List S103) (i : Nat) (hi : i < ys.length) (hy : ys.length ≤ 1048576) (ho : out.length ≤ 1048576) (h0 : 0 ≤ ys[i].f1 ∧ ys[i].f1 ≤ 1999) (k : Nat) :
  impl_punchedBy.l0 (k + 1) out ys ys.length i = impl_punchedBy.l0 k (mg out ys[i].f0 ys[i].f1 (mn (ys[i].f1 + 4) 2000)) ys ys.length ((i + 1 : Nat) : Int) := by
 have ew : wrap64 (ys[i].f1 + 4) = ys[i].f1 + 4 := w64 (by omega)
 have ei : wrap64 ((i : Int) + 1) = ((i + 1 : Nat) : Int) := by rw [w64 (by omega)]; omega
 rw [impl_punchedBy.l0, if_pos (by omega), if_pos (by omega), if_pos (by omega), rdS_get ys i hi, ew, ei]
 rcases List.eq_nil_or_concat out with rfl | ⟨I, h, e⟩
 ·rw [if_neg (by rw [List.length_nil, w64 (by omega)]; omega), if_pos (by simp), mg_nil]
  rfl
 ·rw [List.concat_eq_append] at e
  subst e
  have el : wrap64 (((I ++ [h]).length : Int) - 1) = (I.length : Int) := by rw [List.length_append, List.length_singleton, w64 (by simp at ho; omega)]; omega
  rw [el, if_pos (by omega), if_pos (by omega), if_pos (by simp; omega), last_rd, Int.toNat_natCast, last_set, mg_last]
  by_cases h1 : h.f0 = ys[i].f0
  ·rw [if_pos h1]
   by_cases h2 : h.f2 ≥ ys[i].f1
   ·rw [if_pos h2, if_pos ⟨h1, by omega⟩]
   ·rw [if_neg h2, if_pos (by omega), if_neg (fun g => h2 (by omega))]
  ·rw [if_neg h1, if_pos (by omega), if_neg (fun g => h1 g.1)]
def lexLe (a b : S103) : Prop := impl_strokeLt b a = false
theorem implPunch_loop (ys : List S103) (hy : ys.length ≤ 200) (hg : ∀ x ∈ ys, StrokeOK x) (hs : ys.Pairwise lexLe) (d : Nat) : ∀ (i : Nat) (out : List S90), i + d = ys.length → Norm out → (∀ t s, Cov out t s ↔ Pun (ys.take i) t s) → out.length ≤ i →
  (∀ h ∈ out, ∀ j, i ≤ j → ∀ hj : j < ys.length, h.f0 < ys[j].f0 ∨ (h.f0 = ys[j].f0 ∧ h.f1 ≤ ys[j].f1)) →
  ∃ L, Norm L ∧ (∀ t s, Cov L t s ↔ Pun ys t s) ∧ L.length ≤ 200 ∧ Evn (fun k => impl_punchedBy.l0 k out ys ys.length i) (shOf L) := by
 induction d with
 | zero =>
  intro i out hi hn hc hl hb
  have ht : ys.take i = ys := List.take_of_length_le (by omega)
  rw [ht] at hc
  refine ⟨out, hn, hc, by omega, ?_⟩
  refine Evn.step (h := fun k => (impl_sheetOf.f k out).bind fun bt => some (bt.1, bt.2)) (fun k => ?_) ?_
  ·rw [impl_punchedBy.l0, if_neg (by omega)]
  ·exact ⟨fuelH 0 out.length, fun k hk => by simp only []; rw [sheetOf_eq hn (by omega) k hk]; rfl⟩
 | succ d ih =>
  intro i out hi hn hc hl hb
  have hi' : i < ys.length := by omega
  have hx := hg _ (List.getElem_mem hi')
  unfold StrokeOK at hx
  have hm : mn (ys[i].f1 + 4) 2000 = ys[i].f1 + 4 ∧ ys[i].f1 + 4 ≤ 2000 ∨ mn (ys[i].f1 + 4) 2000 = 2000 ∧ 2000 ≤ ys[i].f1 + 4 := by unfold mn; omega
  obtain ⟨m1, m2, m3, m4⟩ := mg_ok out ys[i].f0 ys[i].f1 (mn (ys[i].f1 + 4) 2000) hn (by omega) (fun h hh => hb h hh i (Nat.le_refl _) hi')
  obtain ⟨L, h1, h2, h3, h4⟩ := ih (i + 1) (mg out ys[i].f0 ys[i].f1 (mn (ys[i].f1 + 4) 2000)) (by omega) m1 (fun t s => by
   rw [m2, hc, List.take_succ_eq_append_getElem hi', pun_append, pun_one]
   constructor
   ·rintro (h | h)
    ·exact Or.inl h
    ·exact Or.inr (by omega)
   ·rintro (h | h)
    ·exact Or.inl h
    ·exact Or.inr (by omega)) (by omega) (fun h hh j hj hj' => by
   have e1 := m3 h hh
   have e2 : lexLe ys[i] ys[j] := (List.pairwise_iff_getElem.1 hs) i j hi' hj' (by omega)
   unfold lexLe impl_strokeLt at e2
   have e2 := of_decide_eq_false e2
   omega)
  exact ⟨L, h1, h2, h3, Evn.step (fun k => implPunch_step out ys i hi' (by omega) (by omega) (by omega) k) h4⟩
theorem implPunch_eq (l : List S103) (hl : StrokesOK l) : ∃ L, Norm L ∧ (∀ t s, Cov L t s ↔ Pun l t s) ∧ L.length ≤ 200 ∧ Evn (fun k => impl_punchedBy.f k l) (shOf L) := by
 have hll := hl.2
 obtain ⟨ys, hys⟩ : ∃ ys, impl_sortStrokes.f l = some ys := by
  unfold impl_sortStrokes.f
  rw [if_pos ⟨by omega, fun a _ b _ h1 h2 => by
   unfold impl_strokeLt at h1 h2
   have h1 := of_decide_eq_false h1
   have h2 := of_decide_eq_false h2
   exact ⟨by omega, by omega⟩⟩]
  exact ⟨_, rfl⟩
 have hp : ys.Perm l ∧ ys.Pairwise lexLe := by
  unfold impl_sortStrokes.f at hys
  split at hys
  ·obtain rfl := Option.some.inj hys
   refine ⟨List.mergeSort_perm _ _, ?_⟩
   have hO := impl_strokeLt.swo
   have := List.pairwise_mergeSort (le := fun a b => !impl_strokeLt b a) (by
    intro a b c h1 h2
    simp only [Bool.not_eq_true'] at *
    exact hO.ntrans c b a h2 h1) (by
    intro a b
    simp only [Bool.or_eq_true, Bool.not_eq_true']
    by_cases h : impl_strokeLt b a = true
    ·right
     cases h2 : impl_strokeLt a b with
     | false => rfl
     | true => have := hO.trans a b a h2 h; rw [hO.irrefl] at this; cases this
    ·left; exact Bool.eq_false_iff.2 h) l
   exact this.imp (fun h => by unfold lexLe; simpa using h)
  ·cases hys
 have hyl := hp.1.length_eq
 obtain ⟨L, h1, h2, h3, h4⟩ := implPunch_loop ys (by omega) (fun x hx => hl.1 x (hp.1.mem_iff.1 hx)) hp.2 ys.length 0 [] (by omega) norm_nil (fun t s => by simp [cov_nil, Pun]) (by simp) (fun h hh => by simp at hh)
 refine ⟨L, h1, fun t s => by rw [h2, pun_perm hp.1], h3, ?_⟩
 refine Evn.congr (h := fun k => impl_punchedBy.l0 k [] ys ys.length 0) (fun k => ?_) h4
 unfold impl_punchedBy.f slices_Clone_Stroke.f
 rw [if_pos (by omega)]
 simp only [Option.bind_some]
 rw [hys]
 rfl
theorem rdB_get (l : List Bool) (i : Nat) (h : i < l.length) : rdOf false l (i : Int) = l[i] := by
 unfold rdOf; rw [Int.toNat_natCast, List.getD_eq_getElem?_getD, List.getElem?_eq_getElem h]; rfl
def Arr (arr : List Bool) (P : Int → Prop) : Prop := arr.length = 2001 ∧ ∀ (s : Nat) (h : s < arr.length), arr[s] = true ↔ P s
theorem arr_set {arr : List Bool} {P : Int → Prop} (h : Arr arr P) (i : Nat) (hi : i < 2001) : Arr (arr.set i true) (fun s => P s ∨ s = i) := by
 refine ⟨by rw [List.length_set]; exact h.1, fun s hs => ?_⟩
 rw [List.length_set] at hs
 rw [List.getElem_set]
 by_cases e : i = s
 ·subst e; simp
 ·rw [if_neg e, h.2 s hs]
  constructor
  ·exact Or.inl
  ·rintro (g | g)
   ·exact g
   ·exact absurd (by omega) e
theorem arr_congr {arr : List Bool} {P Q : Int → Prop} (h : Arr arr P) (hq : ∀ s : Nat, P s ↔ Q s) : Arr arr Q := ⟨h.1, fun s hs => (h.2 s hs).trans (hq s)⟩
section
variable (l : List S103) (hg : StrokesOK l) (all : List S90) (t : Int)
include hg
theorem fill_stroke {r : List S90 × Bool} (i : Nat) (hi : i < l.length) (d : Nat) : ∀ (j : Nat) (arr : List Bool) (P : Int → Prop), j + d = 4 → Arr arr P →
  (∀ arr', Arr arr' (fun s => P s ∨ (l[i].f0 = t ∧ l[i].f1 + j ≤ s ∧ s < l[i].f1 + 4 ∧ s < 2000)) → Evn (fun k => spec_PunchedBy.l1 k l all t arr' l l.length ((i + 1 : Nat) : Int)) r) →
  Evn (fun k => spec_PunchedBy.l2 k l all t arr j l l.length i l[i].f0 l[i].f1) r := by
 have hx := hg.1 _ (List.getElem_mem hi)
 unfold StrokeOK at hx
 have hll := hg.2
 have ei : wrap64 ((i : Int) + 1) = ((i + 1 : Nat) : Int) := by rw [w64 (by omega)]; omega
 induction d with
 | zero =>
  intro j arr P hj hA hk
  refine Evn.step (h := fun k => spec_PunchedBy.j3 k l all t arr j l l.length i false l[i].f0 l[i].f1) (fun k => ?_) (Evn.step (h := fun k => spec_PunchedBy.l1 k l all t arr l l.length ((i + 1 : Nat) : Int)) (fun k => ?_) (hk arr (arr_congr hA (fun s => ⟨Or.inl, fun h => h.elim id (fun h => absurd h.2 (by omega))⟩))))
  ·rw [spec_PunchedBy.l2, if_neg (by omega)]
  ·rw [spec_PunchedBy.j3, if_neg (by decide), ei]
 | succ d ih =>
  intro j arr P hj hA hk
  have ej : wrap64 ((j : Int) + 1) = ((j + 1 : Nat) : Int) := by rw [w64 (by omega)]; omega
  refine Evn.step (h := fun k => spec_PunchedBy.j3 k l all t arr j l l.length i (l[i].f0 == t) l[i].f0 l[i].f1) (fun k => by rw [spec_PunchedBy.l2, if_pos (by omega)]) ?_
  by_cases he : l[i].f0 = t
  ·have ew : wrap64 (l[i].f1 + (j : Int)) = l[i].f1 + j := w64 (by omega)
   by_cases h2 : l[i].f1 + (j : Int) < 2000
   ·obtain ⟨q, hq⟩ : ∃ q : Nat, l[i].f1 + (j : Int) = q := ⟨(l[i].f1 + (j : Int)).toNat, by omega⟩
    refine Evn.step (h := fun k => spec_PunchedBy.l2 k l all t (arr.set q true) ((j + 1 : Nat) : Int) l l.length i l[i].f0 l[i].f1) (fun k => ?_) (ih (j + 1) (arr.set q true) (fun s => P s ∨ s = q) (by omega) (arr_set hA q (by omega)) (fun arr' h' => hk arr' (arr_congr h' (fun s => ?_))))
    ·rw [spec_PunchedBy.j3, if_pos (by simp [he]), ew, if_pos h2, if_pos (by omega), if_pos (by rw [hA.1]; omega), ej, hq, Int.toNat_natCast]
    ·constructor
     ·rintro ((h | h) | h)
      ·exact Or.inl h
      ·exact Or.inr (by omega)
      ·exact Or.inr (by omega)
     ·rintro (h | h)
      ·exact Or.inl (Or.inl h)
      ·by_cases e : (s : Int) = q
       ·exact Or.inl (Or.inr e)
       ·exact Or.inr (by omega)
   ·refine Evn.step (h := fun k => spec_PunchedBy.l2 k l all t arr ((j + 1 : Nat) : Int) l l.length i l[i].f0 l[i].f1) (fun k => ?_) (ih (j + 1) arr P (by omega) hA (fun arr' h' => hk arr' (arr_congr h' (fun s => ?_))))
    ·rw [spec_PunchedBy.j3, if_pos (by simp [he]), ew, if_neg h2, ej]
    ·constructor
     ·rintro (h | h)
      ·exact Or.inl h
      ·exact Or.inr (by omega)
     ·rintro (h | h)
      ·exact Or.inl h
      ·exact Or.inr (by omega)
  ·refine Evn.step (h := fun k => spec_PunchedBy.l1 k l all t arr l l.length ((i + 1 : Nat) : Int)) (fun k => ?_) (hk arr (arr_congr hA (fun s => ⟨Or.inl, fun h => h.elim id (fun h => absurd h.1 he)⟩)))
   rw [spec_PunchedBy.j3, if_neg (by simp [he]), ei]
theorem fill_all {r : List S90 × Bool} (hk : ∀ arr, Arr arr (fun s => Pun l t s) → Evn (fun k => spec_PunchedBy.l3 k l all t arr arr.length ((0 : Nat) : Int)) r) (d : Nat) : ∀ (i : Nat) (arr : List Bool), i + d = l.length → Arr arr (fun s => Pun (l.take i) t s) →
  Evn (fun k => spec_PunchedBy.l1 k l all t arr l l.length i) r := by
 have hll := hg.2
 induction d with
 | zero =>
  intro i arr hi hA
  rw [List.take_of_length_le (by omega)] at hA
  refine Evn.step (h := fun k => spec_PunchedBy.l3 k l all t arr arr.length ((0 : Nat) : Int)) (fun k => ?_) (hk arr hA)
  rw [spec_PunchedBy.l1, if_neg (by omega)]
  rfl
 | succ d ih =>
  intro i arr hi hA
  have hi' : i < l.length := by omega
  refine Evn.step (h := fun k => spec_PunchedBy.l2 k l all t arr ((0 : Nat) : Int) l l.length i l[i].f0 l[i].f1) (fun k => ?_) (fill_stroke l hg all t i hi' 4 0 arr _ (by omega) hA (fun arr' h' => ih (i + 1) arr' (by omega) (arr_congr h' (fun s => ?_))))
  ·rw [spec_PunchedBy.l1, if_pos (by omega), if_pos (by omega), if_pos (by omega), rdS_get l i hi']
   rfl
  ·rw [List.take_succ_eq_append_getElem hi', pun_append, pun_one]
   constructor
   ·rintro (h | h)
    ·exact Or.inl h
    ·exact Or.inr ⟨h.1, by omega, h.2.2⟩
   ·rintro (h | h)
    ·exact Or.inl h
    ·exact Or.inr ⟨h.1, by omega, h.2.2⟩
end
theorem specPunch_step (l : List S103) (out : List S90) (t : Int) (arr : List Bool) (j : Nat) (hj : j < arr.length) (ha : arr.length = 2001) (ho : out.length ≤ 1048576) (h2 : ∀ h ∈ out, h.f0 < t ∨ (h.f0 = t ∧ h.f2 ≤ j)) (k : Nat) :
  spec_PunchedBy.l3 (k + 1 + 1) l out t arr arr.length j = spec_PunchedBy.l3 k l (if arr[j] = true then mg out t j ((j : Int) + 1) else out) t arr arr.length ((j + 1 : Nat) : Int) := by
 have ej : wrap64 ((j : Int) + 1) = ((j + 1 : Nat) : Int) := by rw [w64 (by omega)]; omega
 rw [spec_PunchedBy.l3, if_pos (by omega), if_pos (by omega), if_pos (by omega), rdB_get arr j hj]
 cases hb : arr[j] with
 | false =>
  rw [if_neg (by decide), if_neg (by decide), spec_PunchedBy.j5, if_neg (by decide), if_neg (by decide), ej]
 | true =>
  rw [if_pos rfl, if_pos rfl]
  rcases List.eq_nil_or_concat out with rfl | ⟨I, h, e⟩
  ·rw [if_neg (by simp), spec_PunchedBy.j5, if_neg (by decide), if_pos rfl, if_pos (by simp), mg_nil, ej]
   rfl
  ·rw [List.concat_eq_append] at e
   subst e
   have hh := h2 h (List.mem_append_right _ (List.mem_singleton.2 rfl))
   have el : wrap64 (((I ++ [h]).length : Int) - 1) = (I.length : Int) := by rw [List.length_append, List.length_singleton, w64 (by simp at ho; omega)]; omega
   rw [if_pos (by rw [List.length_append, List.length_singleton]; omega), el, if_pos (by omega), if_pos (by rw [List.length_append, List.length_singleton]; omega), last_rd, mg_last]
   by_cases h1 : h.f0 = t
   ·rw [if_pos h1, spec_PunchedBy.j5]
    by_cases h3 : h.f2 = (j : Int)
    ·have em : mx h.f2 ((j : Int) + 1) = ((j + 1 : Nat) : Int) := by unfold mx; omega
     rw [if_pos (by simp [h3]), el, if_pos (by omega), if_pos (by simp; omega), last_rd, Int.toNat_natCast, last_set, if_pos ⟨h1, by omega⟩, ej, em]
    ·rw [if_neg (by simp [h3]), if_pos rfl, if_pos (by omega), if_neg (fun g => h3 (by omega)), ej]
     rfl
   ·rw [if_neg h1, spec_PunchedBy.j5, if_neg (by decide), if_pos rfl, if_pos (by omega), if_neg (fun g => h1 g.1), ej]
    rfl
theorem scan_track (l : List S103) (t : Int) (ht : 0 ≤ t ∧ t < 20) (arr : List Bool) (hA : Arr arr (fun s => Pun l t s)) {r : List S90 × Bool}
  (hk : ∀ out, Norm out → (∀ t' s, Cov out t' s ↔ t' < t + 1 ∧ 0 ≤ t' ∧ Pun l t' s) → (∀ h ∈ out, h.f0 < t + 1) → out.length ≤ 2001 * (t.toNat + 1) → Evn (fun k => spec_PunchedBy.l0 k l out (t + 1)) r)
  (hp : ∀ s, Pun l t s → 0 ≤ s ∧ s < 2000) (d : Nat) : ∀ (j : Nat) (out : List S90), j + d = 2001 → Norm out → (∀ t' s, Cov out t' s ↔ 0 ≤ t' ∧ (t' < t ∨ (t' = t ∧ s < j)) ∧ Pun l t' s) → (∀ h ∈ out, h.f0 < t ∨ (h.f0 = t ∧ h.f2 ≤ j)) → out.length ≤ 2001 * t.toNat + j →
  Evn (fun k => spec_PunchedBy.l3 k l out t arr arr.length j) r := by
 induction d with
 | zero =>
  intro j out hj hn hc hb hl
  refine Evn.step (h := fun k => spec_PunchedBy.l0 k l out (t + 1)) (fun k => ?_) (hk out hn (fun t' s => ?_) (fun h hh => ?_) (by omega))
  ·rw [spec_PunchedBy.l3, if_neg (by rw [hA.1]; omega), w64 (by omega)]
  ·rw [hc]
   constructor
   ·rintro ⟨h1, h2, h3⟩; exact ⟨by omega, h1, h3⟩
   ·rintro ⟨h1, h2, h3⟩
    refine ⟨h2, ?_, h3⟩
    by_cases e : t' = t
    ·subst e; exact Or.inr ⟨rfl, by have := hp s h3; omega⟩
    ·exact Or.inl (by omega)
  ·have := hb h hh; omega
 | succ d ih =>
  intro j out hj hn hc hb hl
  have hj' : j < arr.length := by rw [hA.1]; omega
  have hm : Norm (if arr[j] = true then mg out t j ((j : Int) + 1) else out) ∧ (∀ t' s, Cov (if arr[j] = true then mg out t j ((j : Int) + 1) else out) t' s ↔ 0 ≤ t' ∧ (t' < t ∨ (t' = t ∧ s < ((j + 1 : Nat) : Int))) ∧ Pun l t' s) ∧
    (∀ h ∈ (if arr[j] = true then mg out t j ((j : Int) + 1) else out), h.f0 < t ∨ (h.f0 = t ∧ h.f2 ≤ ((j + 1 : Nat) : Int))) ∧ (if arr[j] = true then mg out t j ((j : Int) + 1) else out).length ≤ out.length + 1 := by
   have hPj := hA.2 j hj'
   by_cases h : arr[j] = true
   ·have hP := hPj.1 h
    simp only [if_pos h]
    obtain ⟨m1, m2, m3, m4⟩ := mg_ok out t j ((j : Int) + 1) hn (by omega) (fun x hx => by have := hb x hx; have := hn.2 x hx; omega)
    refine ⟨m1, fun t' s => ?_, fun x hx => ?_, m4⟩
    ·rw [m2, hc]
     constructor
     ·rintro (⟨g1, g2, g3⟩ | ⟨g1, g2, g3⟩)
      ·exact ⟨g1, by omega, g3⟩
      ·obtain rfl : s = j := by omega
       subst g1
       exact ⟨by omega, by omega, hP⟩
     ·rintro ⟨g1, g2, g3⟩
      by_cases e : t' = t ∧ s = j
      ·exact Or.inr ⟨e.1.symm, by omega, by omega⟩
      ·exact Or.inl ⟨g1, by omega, g3⟩
    ·have hx3 := m3 x hx
     have hx2 : x.f0 = t → x.f2 ≤ ((j + 1 : Nat) : Int) := by
      intro e
      rcases Int.lt_or_le ((j + 1 : Nat) : Int) x.f2 with g | g
      ·exfalso
       have c := (m2 t ((j + 1 : Nat) : Int)).1 ⟨x, hx, e, by have := m1.2 x hx; omega, g⟩
       rcases c with ⟨y, hy, e1, e2, e3⟩ | c
       ·have := hb y hy; omega
       ·omega
      ·exact g
     omega
   ·simp only [if_neg h]
    refine ⟨hn, fun t' s => ?_, fun x hx => by have := hb x hx; omega, by omega⟩
    rw [hc]
    constructor
    ·rintro ⟨g1, g2, g3⟩; exact ⟨g1, by omega, g3⟩
    ·rintro ⟨g1, g2, g3⟩
     refine ⟨g1, ?_, g3⟩
     by_cases e : t' = t ∧ s = j
     ·exfalso
      obtain ⟨rfl, rfl⟩ := e
      exact h (hPj.2 g3)
     ·omega
  have := ih (j + 1) _ (by omega) hm.1 hm.2.1 hm.2.2.1 (by omega)
  refine Evn.step (h := fun k => spec_PunchedBy.l3 (k + 1) l out t arr arr.length j) (fun k => rfl) ?_
  obtain ⟨K, hK⟩ := this
  refine ⟨K + 1, fun k hk' => ?_⟩
  obtain ⟨q, rfl⟩ : ∃ q, k = q + 1 := ⟨k - 1, by omega⟩
  simp only []
  rw [specPunch_step l out t arr j hj' hA.1 (by omega) hb q]
  exact hK q (by omega)
theorem tracks_loop (l : List S103) (hg : StrokesOK l) (L : List S90) (hL : Norm L) (hLl : L.length ≤ 200) (hLc : ∀ t s, Cov L t s ↔ Pun l t s) (d : Nat) : ∀ (t : Nat) (out : List S90), t + d = 20 → Norm out → (∀ t' s, Cov out t' s ↔ t' < (t : Int) ∧ 0 ≤ t' ∧ Pun l t' s) → (∀ h ∈ out, h.f0 < (t : Int)) → out.length ≤ 2001 * t →
  Evn (fun k => spec_PunchedBy.l0 k l out (t : Int)) (shOf L) := by
 have hll := hg.2
 induction d with
 | zero =>
  intro t out ht hn hc hb hl
  have e : out = L := norm_unique out L hn hL (fun t' s => by
   rw [hc, hLc]
   constructor
   ·exact fun h => h.2.2
   ·rintro h
    refine ⟨?_, ?_, h⟩
    ·obtain ⟨x, hx, e, _⟩ := h
     have := hg.1 x hx
     unfold StrokeOK at this
     omega
    ·obtain ⟨x, hx, e, _⟩ := h
     have := hg.1 x hx
     unfold StrokeOK at this
     omega)
  subst e
  refine Evn.step (h := fun k => (spec_shSorted.f k out).bind fun bt => some (bt.1, bt.2)) (fun k => by rw [spec_PunchedBy.l0, if_neg (by omega)]) ?_
  exact Evn.bind (shSorted_eq hn (by omega)) (Evn.const (fun k => rfl))
 | succ d ih =>
  intro t out ht hn hc hb hl
  refine Evn.step (h := fun k => spec_PunchedBy.l1 k l out (t : Int) (List.replicate 2001 false) l l.length ((0 : Nat) : Int)) (fun k => by rw [spec_PunchedBy.l0, if_pos (by omega), if_pos (by omega)]; rfl) ?_
  refine fill_all l hg out t (fun arr hA => ?_) l.length 0 _ (by omega) ⟨List.length_replicate, fun s hs => by rw [List.getElem_replicate]; exact ⟨fun h => absurd h (by decide), fun ⟨x, hx, _⟩ => absurd hx (by simp)⟩⟩
  refine scan_track l t (by omega) arr hA (fun out' h1 h2 h3 h4 => ?_) (fun s hs => ?_) 2001 0 out (by omega) hn (fun t' s => ?_) (fun h hh => Or.inl (hb h hh)) (by simpa using hl)
  ·exact ih (t + 1) out' (by omega) h1 h2 h3 (by simpa using h4)
  ·obtain ⟨x, hx, e, e1, e2, e3⟩ := hs
   have := hg.1 x hx
   unfold StrokeOK at this
   omega
  ·rw [hc]
   constructor
   ·rintro ⟨g1, g2, g3⟩; exact ⟨g2, Or.inl g1, g3⟩
   ·rintro ⟨g1, g2, g3⟩
    refine ⟨?_, g1, g3⟩
    rcases g2 with g2 | ⟨g2, g4⟩
    ·exact g2
    ·exfalso
     obtain ⟨x, hx, e, e1, e2, e3⟩ := g3
     have := hg.1 x hx
     unfold StrokeOK at this
     omega
theorem punched_both (l : List S103) (hg : StrokesOK l) : ∃ R : List S90 × Bool, R.1.length ≤ 200 ∧ Evn (fun k => impl_punchedBy.f k l) R ∧ Evn (fun k => spec_PunchedBy.l0 k l [] 0) R := by
 obtain ⟨L, h1, h2, h3, h4⟩ := implPunch_eq l hg
 refine ⟨shOf L, ?_, h4, ?_⟩
 ·unfold shOf
  split
  ·rw [inOrder_length]; exact h3
  ·simp
 ·exact tracks_loop l hg L h1 h3 h2 20 0 [] (by omega) norm_nil (fun t' s => ⟨fun h => absurd h (cov_nil _ _), fun h => absurd h.1 (by omega)⟩) (fun h hh => by simp at hh) (by simp)
def makeOf (l : List S90) (n m : Int) : List S90 × Int × Int × Bool := if (jobSt l n).2 = true ∧ 0 ≤ m ∧ m ≤ 200 then (l, wrap64 (n + mn m (wrap64 (((jobSt l n).1.length : Int) - n))), mn m (wrap64 (((jobSt l n).1.length : Int) - n)), true) else ([], 0, 0, false)
theorem make_eq (l : List S90) (hl : l.length ≤ 1048576) (n m : Int) (k : Nat) (hk : fuelH 0 l.length + 901 ≤ k) : spec_MakeStrokes.f k l n m = some (makeOf l n m) ∧ impl_MakeStrokes.f k l n m = some (makeOf l n m) := by
 obtain ⟨k, rfl⟩ : ∃ j, k = j + 1 := ⟨k - 1, by omega⟩
 unfold spec_MakeStrokes.f impl_MakeStrokes.f makeOf
 rw [specJob_eq l hl n _ (by omega), implJob_eq l hl n _ (by omega), in_eq]
 simp only [Option.bind_some]
 rw [spec_MakeStrokes.j0, spec_MakeStrokes.j0]
 by_cases h : (jobSt l n).2 = true
 ·rw [if_pos h, if_pos h]
  by_cases h2 : 0 ≤ m ∧ m ≤ 200
  ·rw [if_pos (show (jobSt l n).2 = true ∧ 0 ≤ m ∧ m ≤ 200 from ⟨h, h2⟩), if_neg (show ¬ (!decide (0 ≤ m ∧ m ≤ 200)) = true by simpa using h2), if_neg (show ¬ m < 0 by omega), if_neg (show ¬ m > 200 by omega), least_mn, jobAt_eq l hl]
   simp only [Option.bind_some]
   rw [own_eq l hl]
   simp
  ·rw [if_neg (show ¬ ((jobSt l n).2 = true ∧ 0 ≤ m ∧ m ≤ 200) from fun h' => h2 h'.2), if_pos (show (!decide (0 ≤ m ∧ m ≤ 200)) = true by rw [decide_eq_false h2]; rfl)]
   refine ⟨rfl, ?_⟩
   by_cases h3 : m < 0
   ·rw [if_pos h3]
   ·rw [if_neg h3, if_pos (by omega)]
 ·rw [if_neg h, if_neg h, if_neg (show ¬ ((jobSt l n).2 = true ∧ 0 ≤ m ∧ m ≤ 200) from fun h' => h h'.1), if_pos rfl]
  exact ⟨rfl, rfl⟩
def resumeOf (l : List S90) (n m : Int) : List S90 × Int × Int × Bool := if (jobSt l n).2 = true ∧ 1 ≤ m ∧ m ≤ 50 then (l, wrap64 (n - Int.tmod n m), Int.tmod n m, true) else ([], 0, 0, false)
theorem resume_eq (l : List S90) (hl : l.length ≤ 1048576) (n m : Int) (k : Nat) (hk : fuelH 0 l.length + 900 ≤ k) : spec_ResumeAt.f k l n m = some (resumeOf l n m) ∧ impl_ResumeAt.f k l n m = some (resumeOf l n m) := by
 unfold spec_ResumeAt.f impl_ResumeAt.f resumeOf spec_jbMark.f impl_isMark.f
 rw [specJob_eq l hl n k hk, isJob_eq l hl n k hk, in_eq]
 simp only [Option.bind_some]
 by_cases h : (jobSt l n).2 = true
 ·rw [if_pos h, if_pos h]
  by_cases h2 : 1 ≤ m ∧ m ≤ 50
  ·rw [if_pos (show (jobSt l n).2 = true ∧ 1 ≤ m ∧ m ≤ 50 from ⟨h, h2⟩), if_pos (show decide (1 ≤ m ∧ m ≤ 50) = true from decide_eq_true h2), if_pos (show m ≥ 1 from h2.1), if_neg (show ¬ m = 0 by omega), own_eq l hl, jobAt_eq l hl]
   simp only [Option.bind_some]
   rw [if_pos (show decide (m ≤ 50) = true from decide_eq_true h2.2), if_neg (show ¬ m = 0 by omega)]
   simp
  ·rw [if_neg (show ¬ ((jobSt l n).2 = true ∧ 1 ≤ m ∧ m ≤ 50) from fun h' => h2 h'.2), if_neg (show ¬ decide (1 ≤ m ∧ m ≤ 50) = true by simpa using h2)]
   refine ⟨rfl, ?_⟩
   by_cases h3 : m ≥ 1
   ·rw [if_pos h3]
    simp only [Option.bind_some]
    rw [if_neg (by simp; omega)]
   ·rw [if_neg h3]
    simp
 ·rw [if_neg h, if_neg h, if_neg (show ¬ ((jobSt l n).2 = true ∧ 1 ≤ m ∧ m ≤ 50) from fun h' => h h'.1)]
  exact ⟨rfl, rfl⟩
def newOf (l : List S90) : List S90 × Int × Bool := if (jobSt l 0).2 = true then (l, 0, true) else ([], 0, false)
theorem new_eq (l : List S90) (hl : l.length ≤ 1048576) (k : Nat) (hk : fuelH 0 l.length + 900 ≤ k) : spec_NewPunchJob.f k l = some (newOf l) ∧ impl_NewPunchJob.f k l = some (newOf l) := by
 unfold spec_NewPunchJob.f impl_NewPunchJob.f newOf
 rw [own_eq l hl]
 simp only [Option.bind_some]
 rw [specJob_eq l hl 0 k hk, isJob_eq l hl 0 k hk]
 simp only [Option.bind_some]
 by_cases h : (jobSt l 0).2 = true
 ·rw [if_pos h, if_pos h, if_pos h, jobAt_eq l hl]
  exact ⟨rfl, rfl⟩
 ·rw [if_neg h, if_neg h, if_neg h]
  exact ⟨rfl, rfl⟩
def doneL (n sum : Int) (i : Nat) : List S90 → List Int
 | [] => []
 | x :: r => if sum + ((holeSt x).length : Int) ≤ n then (i : Int) :: doneL n (sum + ((holeSt x).length : Int)) (i + 1) r else doneL n (sum + ((holeSt x).length : Int)) (i + 1) r
theorem doneL_length (n : Int) (l : List S90) : ∀ (sum : Int) (i : Nat), (doneL n sum i l).length ≤ l.length := by
 induction l with
 | nil => intro sum i; exact Nat.le_refl _
 | cons x r ih =>
  intro sum i
  rw [doneL]
  have := ih (sum + ((holeSt x).length : Int)) (i + 1)
  split
  ·rw [List.length_cons, List.length_cons]; omega
  ·rw [List.length_cons]; omega
theorem done_loop (l L : List S90) (n : Int) (hl : l.length ≤ 60) (hx : ∀ x ∈ l, 0 ≤ x.f0 ∧ x.f0 ≤ 19 ∧ 0 ≤ x.f1 ∧ x.f1 < x.f2 ∧ x.f2 ≤ 2000) (d : Nat) : ∀ (k i : Nat) (t : List Int) (sum : Int), i + d = l.length → d + 700 < k → t.length + d ≤ 1000 → 0 ≤ sum ∧ sum + 502 * d ≤ 1000000 →
  spec_HolesDone.l0 k t sum l l.length i L n = some (t ++ doneL n sum i (l.drop i), true) ∧ impl_HolesDone.l0 k t sum l l.length i L n = some (t ++ doneL n sum i (l.drop i), true) := by
 induction d with
 | zero =>
  intro k i t sum hi hk ht hs
  obtain ⟨k, rfl⟩ : ∃ j, k = j + 1 := ⟨k - 1, by omega⟩
  rw [spec_HolesDone.l0, impl_HolesDone.l0, if_neg (by omega), if_neg (by omega), List.drop_of_length_le (by omega), doneL, List.append_nil]
  exact ⟨rfl, rfl⟩
 | succ d ih =>
  intro k i t sum hi hk ht hs
  obtain ⟨k, rfl⟩ : ∃ j, k = j + 1 := ⟨k - 1, by omega⟩
  have hz := holeSt_length l[i]
  have e1 : wrap64 (sum + ((holeSt l[i]).length : Int)) = sum + ((holeSt l[i]).length : Int) := w64 (by omega)
  have e2 : wrap64 ((i : Int) + 1) = ((i + 1 : Nat) : Int) := by rw [w64 (by omega)]; omega
  have e3 : spec_puHole.f k l[i].f0 l[i].f1 l[i].f2 = some (holeSt l[i]) := puHole_eq _ (hx _ (List.getElem_mem _)) k (by omega)
  have e4 := holeStrokes_eq _ (hx _ (List.getElem_mem (show i < l.length by omega))) k (by omega)
  have ht' : t.length < 17592186044416 := by omega
  have hi1 : (i : Int) < (l.length : Int) := by omega
  have hi0 : 0 ≤ (i : Int) := by omega
  rw [drop_get l i (by omega), doneL]
  by_cases h : sum + ((holeSt l[i]).length : Int) ≤ n
  ·obtain ⟨h1, h2⟩ := ih k (i + 1) (t ++ [(i : Int)]) (sum + ((holeSt l[i]).length : Int)) (by omega) (by omega) (by rw [List.length_append, List.length_singleton]; omega) (by omega)
   rw [if_pos h, show t ++ (i : Int) :: doneL n (sum + ((holeSt l[i]).length : Int)) (i + 1) (l.drop (i + 1)) = t ++ [(i : Int)] ++ doneL n (sum + ((holeSt l[i]).length : Int)) (i + 1) (l.drop (i + 1)) by simp]
   constructor
   ·rw [spec_HolesDone.l0, if_pos hi1, if_pos hi0, if_pos hi1, rdH_get l i (by omega), e3]
    simp only [Option.bind_some]
    rw [e1, if_pos h, if_pos ht', e2]
    exact h1
   ·rw [impl_HolesDone.l0, if_pos hi1, if_pos hi0, if_pos hi1, rdH_get l i (by omega), e4]
    simp only [Option.bind_some]
    rw [e1, if_pos h, if_pos ht', e2]
    exact h2
  ·obtain ⟨h1, h2⟩ := ih k (i + 1) t (sum + ((holeSt l[i]).length : Int)) (by omega) (by omega) (by omega) (by omega)
   rw [if_neg h]
   constructor
   ·rw [spec_HolesDone.l0, if_pos hi1, if_pos hi0, if_pos hi1, rdH_get l i (by omega), e3]
    simp only [Option.bind_some]
    rw [e1, if_neg h, e2]
    exact h1
   ·rw [impl_HolesDone.l0, if_pos hi1, if_pos hi0, if_pos hi1, rdH_get l i (by omega), e4]
    simp only [Option.bind_some]
    rw [e1, if_neg h, e2]
    exact h2
theorem job_sheet {l : List S90} {n : Int} (h : (jobSt l n).2 = true) : SheetB l = true := by
 unfold jobSt at h
 by_cases h1 : SheetB l = true
 ·exact h1
 ·rw [if_neg h1] at h
  exact absurd h Bool.false_ne_true
def doneOf (l : List S90) (n : Int) : List Int × Bool := if (jobSt l n).2 = true then (doneL n 0 0 l, true) else ([], false)
theorem doneOf_eq (l : List S90) (hl : l.length ≤ 1048576) (n : Int) (k : Nat) (hk : fuelH 0 l.length + 900 ≤ k) : spec_HolesDone.f k l n = some (doneOf l n) ∧ impl_HolesDone.f k l n = some (doneOf l n) := by
 unfold spec_HolesDone.f impl_HolesDone.f doneOf
 rw [specJob_eq l hl n k hk, isJob_eq l hl n k hk]
 simp only [Option.bind_some]
 by_cases h : (jobSt l n).2 = true
 ·obtain ⟨h1, h2⟩ := sheet_facts (job_sheet h)
  have := done_loop l l n h1 h2 l.length k 0 [] 0 (by omega) (by omega) (by simp; omega) (by omega)
  rw [List.drop_zero, List.nil_append] at this
  rw [if_pos h, if_pos h, if_pos h]
  exact this
 ·rw [if_neg h, if_neg h, if_neg h]
  exact ⟨rfl, rfl⟩
theorem now_both (l : List S90) (hl : l.length ≤ 1048576) (n : Int) : ∃ R : List S90 × Bool, R.1.length ≤ 200 ∧ ∃ K, ∀ k, K ≤ k → spec_PunchedNow.f k l n = some R ∧ impl_PunchedNow.f k l n = some R := by
 by_cases h : (jobSt l n).2 = true
 ·have hd := jobSt_done l n h
  have hlen := jobSt_length l n
  have hok := jobSt_ok l n
  have hg : StrokesOK ((jobSt l n).1.take n.toNat) := ⟨fun x hx => hok x (List.mem_of_mem_take hx), by rw [List.length_take]; omega⟩
  obtain ⟨R, hR, e1, e2⟩ := punched_both _ hg
  obtain ⟨K, hK⟩ := Evn.both e1 e2
  refine ⟨R, hR, K + fuelH 0 l.length + 900 + 300, fun k hk => ?_⟩
  unfold spec_PunchedNow.f impl_PunchedNow.f
  rw [specJob_eq l hl n k (by omega), implJob_eq l hl n k (by omega)]
  simp only [Option.bind_some]
  rw [if_pos h, if_pos h, if_pos hd.1, if_pos hd.1, if_pos hd.2, if_pos hd.2]
  unfold spec_PunchedBy.f
  rw [puGood_eq _ (by rw [List.length_take]; omega) k (by rw [List.length_take]; omega)]
  simp only [Option.bind_some]
  rw [if_pos (decide_eq_true hg), (hK k (by omega)).1, (hK k (by omega)).2]
  exact ⟨rfl, rfl⟩
 ·refine ⟨([], false), by simp, fuelH 0 l.length + 900, fun k hk => ?_⟩
  unfold spec_PunchedNow.f impl_PunchedNow.f
  rw [specJob_eq l hl n k (by omega), implJob_eq l hl n k (by omega)]
  simp only [Option.bind_some]
  rw [if_neg h, if_neg h]
  exact ⟨rfl, rfl⟩
theorem qSheet_loop (l : List S90) (hl : l.length ≤ 1048576) (d : Nat) : ∀ (k i : Nat), i + d = l.length → d < k → laws_qSheet.l0 k l l l.length i = some true := by
 induction d with
 | zero =>
  intro k i hi hk
  obtain ⟨k, rfl⟩ : ∃ j, k = j + 1 := ⟨k - 1, by omega⟩
  rw [laws_qSheet.l0, if_neg (by omega)]
 | succ d ih =>
  intro k i hi hk
  obtain ⟨k, rfl⟩ : ∃ j, k = j + 1 := ⟨k - 1, by omega⟩
  rw [laws_qSheet.l0, if_pos (by omega), if_pos (by omega), if_pos (by omega), if_pos (by omega), if_neg (by simp), w64 (by omega), show ((i : Int) + 1) = ((i + 1 : Nat) : Int) by omega]
  exact ih k (i + 1) (by omega) (by omega)
theorem qSheet_self (l : List S90) (hl : l.length ≤ 1048576) (k : Nat) (hk : l.length < k) : laws_qSheet.f k l l = some true := by
 unfold laws_qSheet.f
 rw [if_pos rfl]
 exact qSheet_loop l hl l.length k 0 (by omega) hk
theorem qJob_self (l : List S90) (hl : l.length ≤ 1048576) (n : Int) (k : Nat) (hk : l.length < k) : laws_qJob.f k l n l n = some true := by
 unfold laws_qJob.f
 rw [if_pos rfl, qSheet_self l hl k hk]
 rfl
theorem stk_pun (a last : Int) (h2 : last ≤ 1996) (d : Nat) : ∀ pos, pos ≤ last → last < pos + 4 * d →
  ∃ I e, stk a last pos d = I ++ [⟨a, e⟩] ∧ pos ≤ e ∧ e ≤ last ∧ last < e + 4 ∧ ∀ t s, Pun (stk a last pos d) t s ↔ a = t ∧ pos ≤ s ∧ s < e + 4 := by
 induction d with
 | zero => intro pos h1 h3; exfalso; omega
 | succ d ih =>
  intro pos h1 h3
  rw [stk, if_pos h1]
  by_cases h : pos + 4 ≤ last
  ·obtain ⟨I, e, e1, e2, e3, e4, e5⟩ := ih (pos + 4) h (by omega)
   refine ⟨⟨a, pos⟩ :: I, e, by rw [e1]; rfl, by omega, e3, e4, fun t s => ?_⟩
   rw [show (⟨a, pos⟩ : S103) :: stk a last (pos + 4) d = [⟨a, pos⟩] ++ stk a last (pos + 4) d from rfl, pun_append, pun_one, e5]
   simp only
   constructor
   ·rintro (g | g)
    ·exact ⟨g.1, g.2.1, by omega⟩
    ·exact ⟨g.1, by omega, g.2.2⟩
   ·rintro ⟨g1, g2, g3⟩
    by_cases g : s < pos + 4
    ·exact Or.inl ⟨g1, g2, g, by omega⟩
    ·exact Or.inr ⟨g1, by omega, g3⟩
  ·have e0 : stk a last (pos + 4) d = [] := by
    cases d with
    | zero => rfl
    | succ d => rw [stk, if_neg h]
   refine ⟨[], pos, by rw [e0]; rfl, Int.le_refl _, h1, by omega, fun t s => ?_⟩
   rw [e0, pun_one]
   simp only
   constructor
   ·rintro ⟨g1, g2, g3, g4⟩; exact ⟨g1, g2, g3⟩
   ·rintro ⟨g1, g2, g3⟩; exact ⟨g1, g2, g3, by omega⟩
theorem pun_hole (x : S90) (hx : 0 ≤ x.f0 ∧ x.f0 ≤ 19 ∧ 0 ≤ x.f1 ∧ x.f1 < x.f2 ∧ x.f2 ≤ 2000) (hn : (holeSt x).length ≠ 0) (t s : Int) : Pun (holeSt x) t s ↔ x.f0 = t ∧ x.f1 ≤ s ∧ s < x.f2 := by
 have h4 : ¬ x.f2 - x.f1 < 4 := fun h => hn ((holeSt_none x).2 h)
 obtain ⟨I, e, e1, e2, e3, e4, e5⟩ := stk_pun x.f0 (x.f2 - 4) (by omega) 501 x.f1 (by omega) (by omega)
 unfold holeSt stkEnd
 have hl : 0 < (stk x.f0 (x.f2 - 4) x.f1 501).length := by rw [e1]; simp
 have hr : (rd_T103 (stk x.f0 (x.f2 - 4) x.f1 501) (((stk x.f0 (x.f2 - 4) x.f1 501).length - 1 : Nat) : Int)).f1 = e := by
  rw [rdS_get _ _ (by omega)]
  simp [e1]
 rw [if_pos hl, hr]
 by_cases h : e < x.f2 - 4
 ·rw [if_pos h, pun_append, pun_one, e5]
  simp only
  constructor
  ·rintro (g | g)
   ·exact ⟨g.1, g.2.1, by omega⟩
   ·exact ⟨g.1, by omega, by omega⟩
  ·rintro ⟨g1, g2, g3⟩
   by_cases g : s < e + 4
   ·exact Or.inl ⟨g1, g2, g⟩
   ·exact Or.inr ⟨g1, by omega, by omega, by omega⟩
 ·rw [if_neg h, e5]
  constructor
  ·rintro ⟨g1, g2, g3⟩; exact ⟨g1, g2, by omega⟩
  ·rintro ⟨g1, g2, g3⟩; exact ⟨g1, g2, by omega⟩
theorem sheetSt_pun (r : List S90) : ∀ t, (∀ x ∈ r, 0 ≤ x.f0 ∧ x.f0 ≤ 19 ∧ 0 ≤ x.f1 ∧ x.f1 < x.f2 ∧ x.f2 ≤ 2000) → (sheetSt t r).2 = true →
  (∀ a s, Pun (sheetSt t r).1 a s ↔ Pun t a s ∨ Cov r a s) ∧ (sheetSt t r).1.length = t.length + (r.map (fun x => (holeSt x).length)).sum ∧ ∀ x ∈ r, (holeSt x).length ≠ 0 := by
 induction r with
 | nil =>
  intro t _ h
  rw [sheetSt] at h ⊢
  by_cases g : t.length > 200
  ·rw [if_pos g] at h; exact absurd h (by simp)
  ·rw [if_neg g]
   exact ⟨fun a s => by simp [cov_nil], by simp, fun x hx => by simp at hx⟩
 | cons x r ih =>
  intro t hr h
  rw [sheetSt] at h ⊢
  by_cases g : (holeSt x).length = 0
  ·rw [if_pos g] at h; exact absurd h (by simp)
  ·rw [if_neg g] at h ⊢
   obtain ⟨h1, h2, h3⟩ := ih (t ++ holeSt x) (fun y hy => hr y (List.mem_cons_of_mem _ hy)) h
   refine ⟨fun a s => ?_, ?_, fun y hy => ?_⟩
   ·rw [h1, pun_append, pun_hole x (hr x List.mem_cons_self) g, cov_cons, or_assoc]
   ·rw [h2, List.length_append, List.map_cons, List.sum_cons]; omega
   ·rcases List.mem_cons.1 hy with rfl | hy
    ·exact g
    ·exact h3 y hy
theorem holeLt_asymm {a b : S90} (h : impl_holeLt a b = true) : impl_holeLt b a = false := by
 cases h2 : impl_holeLt b a with
 | false => rfl
 | true => have := impl_holeLt.swo.trans a b a h h2; rw [impl_holeLt.swo.irrefl] at this; cases this
def Away (a b : S90) : Prop := a.f0 = b.f0 → a.f2 < b.f1 ∨ b.f2 < a.f1
theorem chk_order (r : List S90) : ∀ p : List S90, p.Pairwise (fun a b => impl_holeLt a b = true) → p.Pairwise Away → chkSheet p r = true → (p ++ r).Pairwise (fun a b => impl_holeLt a b = true) ∧ (p ++ r).Pairwise Away := by
 induction r with
 | nil => intro p h1 h2 _; rw [List.append_nil]; exact ⟨h1, h2⟩
 | cons x r ih =>
  intro p h1 h2 h
  rw [chkSheet, Bool.and_eq_true, Bool.and_eq_true, Bool.and_eq_true] at h
  have e : p ++ x :: r = (p ++ [x]) ++ r := by simp
  rw [e]
  refine ih (p ++ [x]) ?_ ?_ h.2
  ·rw [List.pairwise_append]
   refine ⟨h1, List.pairwise_singleton _ _, fun a ha b hb => ?_⟩
   obtain rfl := List.mem_singleton.1 hb
   have hl := h.1.1.2
   unfold lastOK at hl
   rcases List.eq_nil_or_concat p with rfl | ⟨I, y, hp⟩
   ·simp at ha
   ·rw [List.concat_eq_append] at hp
    subst hp
    rw [List.getLast?_concat] at hl
    rcases List.mem_append.1 ha with ha | ha
    ·have := (List.pairwise_append.1 h1).2.2 a ha y (List.mem_singleton.2 rfl)
     exact impl_holeLt.swo.trans a y b this hl
    ·obtain rfl := List.mem_singleton.1 ha
     exact hl
  ·rw [List.pairwise_append]
   refine ⟨h2, List.pairwise_singleton _ _, fun a ha b hb => ?_⟩
   obtain rfl := List.mem_singleton.1 hb
   have hl := h.1.2
   unfold apartOK at hl
   have := (List.all_eq_true.1 hl) a ha
   intro e0
   left
   simp only [Bool.not_eq_true', Bool.and_eq_false_iff, decide_eq_false_iff_not] at this
   omega
theorem cov_perm {l m : List S90} (h : l.Perm m) (t s : Int) : Cov l t s ↔ Cov m t s := by
 unfold Cov
 constructor
 ·rintro ⟨x, hx, h1⟩; exact ⟨x, h.mem_iff.1 hx, h1⟩
 ·rintro ⟨x, hx, h1⟩; exact ⟨x, h.mem_iff.2 hx, h1⟩
theorem sheet_back {l : List S90} (hS : SheetB l = true) (h2 : (sheetSt [] l).2 = true) {L : List S90} (hL : Norm L) (hLl : L.length ≤ 200) (hc : ∀ t s, Cov L t s ↔ Pun (sheetSt [] l).1 t s) : shOf L = (l, true) := by
 have hf := sheet_facts hS
 have hp := (sheetSt_pun l [] hf.2 h2).1
 have hS' := hS
 unfold SheetB at hS'
 rw [Bool.and_eq_true] at hS'
 have ho := chk_order l [] List.Pairwise.nil List.Pairwise.nil hS'.1
 rw [List.nil_append] at ho
 have hm := List.mergeSort_perm l (fun a b : S90 => decide (a.f0 < b.f0 ∨ (a.f0 = b.f0 ∧ a.f1 ≤ b.f1)))
 have hs := List.pairwise_mergeSort (le := fun a b : S90 => decide (a.f0 < b.f0 ∨ (a.f0 = b.f0 ∧ a.f1 ≤ b.f1))) (by
  intro a b c h1 h2
  have h1 := of_decide_eq_true h1
  have h2 := of_decide_eq_true h2
  exact decide_eq_true (by omega)) (by
  intro a b
  rw [Bool.or_eq_true]
  by_cases g : a.f0 < b.f0 ∨ (a.f0 = b.f0 ∧ a.f1 ≤ b.f1)
  ·exact Or.inl (decide_eq_true g)
  ·exact Or.inr (decide_eq_true (by omega))) l
 generalize l.mergeSort (fun a b : S90 => decide (a.f0 < b.f0 ∨ (a.f0 = b.f0 ∧ a.f1 ≤ b.f1))) = M at hm hs
 have haw : M.Pairwise Away := (hm.pairwise_iff (R := Away) (fun {a b} h e => (h e.symm).symm)).2 ho.2
 have hM : Norm M := by
  refine ⟨(hs.and haw).imp_of_mem (fun {a b} ha hb h => ?_), fun x hx => (hf.2 x (hm.mem_iff.1 hx)).2.2.2.1⟩
  have h1 := of_decide_eq_true h.1
  have h2 := h.2
  have := hf.2 a (hm.mem_iff.1 ha)
  have := hf.2 b (hm.mem_iff.1 hb)
  unfold Away at h2
  unfold Apart
  by_cases e : a.f0 = b.f0
  ·have := h2 e
   omega
  ·omega
 have e : M = L := norm_unique M L hM hL (fun t s => by
  rw [cov_perm hm, hc, hp]
  simp [Pun])
 have hpl : l.Perm L := e ▸ hm.symm
 have hin := order_facts hL (by omega) hpl (ho.1.imp (fun {a b} h => holeLt_asymm h))
 unfold shOf
 rw [← hin, if_pos hS]
def JobOut (r : List S90 × Int × Int × Int) : Prop := r.1.length ≤ 61 ∧ 0 ≤ r.2.2.1 ∧ r.2.2.1 ≤ 600000
theorem pjEnd_tot (l : List Int) (hl : Bytes l) (n a s : Int) (ha : 0 ≤ a ∧ a ≤ 500000) (x : List S90) (hx : x.length ≤ 61) (m : Int) : Tot (fun k => spec_l1Cur_punchJob.j0 k n l a s x m) JobOut := by
 obtain ⟨v1, a1, s1, e1, _, _, l1, u1⟩ := pick_ok l hl a s (by omega) (wrap64 (n + 1))
 obtain ⟨v2, a2, s2, e2, _, _, l2, u2⟩ := pick_ok l hl a1 s1 (by omega) (wrap64 (n + 1))
 obtain ⟨v3, a3, s3, e3, l3, u3⟩ := among_ok l hl a2 s2 (by omega) [n, wrap64 (n + 1), -1] (by simp)
 obtain ⟨v4, a4, s4, e4, l4, u4⟩ := among_ok l hl a3 s3 (by omega) [0, v1, v2, n, v3] (by simp)
 refine Tot.step (h := fun _ => some (x, v4, a4, s4)) (fun k => ?_) (Tot.now _ (fun _ => rfl) ⟨hx, by simp only; omega, by simp only; omega⟩)
 rw [spec_l1Cur_punchJob.j0, e1]; simp only [Option.bind_some]
 rw [e2]; simp only [Option.bind_some]
 rw [e3]; simp only [Option.bind_some]
 rw [e4]; rfl
theorem punchJob_tot (l : List Int) (hl : Bytes l) : Tot (fun k => spec_l1Cur_punchJob.f k l 0 0) JobOut := by
 refine Tot.bind (madeSheet_tot l hl 0 0 (by omega)) (fun q hq => ?_)
 have h1 := hq.1
 have h2 := hq.2.1
 have h3 := hq.2.2
 refine Tot.bind (Q := fun t => t = jobSt q.1 0) (Tot.ge _ (fuelH 0 q.1.length + 900) (fun k hk => specJob_eq q.1 (by omega) 0 k hk) rfl) (fun t ht => ?_)
 subst ht
 by_cases h : (jobSt q.1 0).2 = true
 ·exact Tot.congr (fun k => if_pos h) (pjEnd_tot l hl _ _ _ (by omega) q.1 h1 0)
 ·exact Tot.congr (fun k => if_neg h) (pjEnd_tot l hl _ _ _ (by omega) q.1 h1 0)
theorem drawMake_tot (l : List Int) (hl : Bytes l) : Tot (fun k => spec_DrawMakeStrokes.f k l) (fun r : List S90 × Int × Int => r.1.length ≤ 61) := by
 refine Tot.bind (punchJob_tot l hl) (fun q hq => ?_)
 have h2 := hq.2
 obtain ⟨v1, a1, s1, e1, _, _, l1, u1⟩ := pick_ok l hl q.2.2.1 q.2.2.2 (by omega) 30
 obtain ⟨v2, a2, s2, e2, l2, u2⟩ := among_ok l hl a1 s1 (by omega) [201, -1] (by simp)
 obtain ⟨v3, a3, s3, e3, l3, u3⟩ := among_ok l hl a2 s2 (by omega) [0, 1, 2, v1, 200, v2] (by simp)
 exact Tot.now (q.1, q.2.1, v3) (fun k => by rw [e1]; simp only [Option.bind_some]; rw [e2]; simp only [Option.bind_some]; rw [e3]; rfl) hq.1
theorem drawResume_tot (l : List Int) (hl : Bytes l) : Tot (fun k => spec_DrawResumeAt.f k l) (fun r : List S90 × Int × Int => r.1.length ≤ 61) := by
 refine Tot.bind (punchJob_tot l hl) (fun q hq => ?_)
 have h2 := hq.2
 obtain ⟨v1, a1, s1, e1, l1, u1⟩ := mark_ok l hl q.2.2.1 q.2.2.2 (by omega)
 exact Tot.now (q.1, q.2.1, v1) (fun k => by rw [e1]; rfl) hq.1
theorem drawPunched_tot (l : List Int) (hl : Bytes l) : Tot (fun k => spec_DrawPunchedNow.f k l) (fun r : List S90 × Int => r.1.length ≤ 61) := by
 refine Tot.bind (Q := fun r : List S90 × Int => r.1.length ≤ 61) (g := fun k => spec_DrawIsPunchJob.f k l) ?_ (fun q hq => Tot.now (q.1, q.2) (fun _ => rfl) hq)
 exact Tot.bind (punchJob_tot l hl) (fun q hq => Tot.now (q.1, q.2.1) (fun _ => rfl) hq.1)
theorem drawNew_tot (l : List Int) (hl : Bytes l) : Tot (fun k => spec_DrawNewPunchJob.f k l) (fun r : List S90 => r.length ≤ 61) := by
 obtain ⟨v1, a1, s1, e1, l1, u1⟩ := one_ok l hl 0 0 (by omega) 3
 by_cases h : v1 = true
 ·refine Tot.congr (h := fun k => (spec_l1Cur_anySheet.f k l a1 s1).bind fun q => some q.1) (fun k => by unfold spec_DrawNewPunchJob.f; rw [e1]; simp only [Option.bind_some]; rw [if_pos h]) ?_
  exact Tot.bind (anySheet_tot l hl a1 s1 (by omega)) (fun q hq => Tot.now q.1 (fun _ => rfl) hq.1)
 ·refine Tot.congr (h := fun k => (spec_l1Cur_madeSheet.f k l a1 s1).bind fun q => some q.1) (fun k => by unfold spec_DrawNewPunchJob.f; rw [e1]; simp only [Option.bind_some]; rw [if_neg h]) ?_
  exact Tot.bind (madeSheet_tot l hl a1 s1 (by omega)) (fun q hq => Tot.now q.1 (fun _ => rfl) hq.1)
theorem job_facts {l : List S90} {n : Int} (h : (jobSt l n).2 = true) : SheetB l = true ∧ (sheetSt [] l).2 = true ∧ 0 ≤ n ∧ n ≤ ((sheetSt [] l).1.length : Int) := by
 unfold jobSt at h
 by_cases h1 : SheetB l = true
 ·by_cases h2 : (sheetSt [] l).2 = true
  ·rw [if_pos h1, if_pos h2] at h
   exact ⟨h1, h2, of_decide_eq_true h⟩
  ·rw [if_pos h1, if_neg h2] at h
   exact absurd h Bool.false_ne_true
 ·rw [if_neg h1] at h
  exact absurd h Bool.false_ne_true
theorem job_mk {l : List S90} (hS : SheetB l = true) (h2 : (sheetSt [] l).2 = true) (n : Int) (hn : 0 ≤ n ∧ n ≤ ((sheetSt [] l).1.length : Int)) : jobSt l n = ((sheetSt [] l).1, true) := by
 unfold jobSt
 rw [if_pos hS, if_pos h2, decide_eq_true hn]
def leftOf (l : List S90) (n : Int) : Int × Bool := if (jobSt l n).2 = true then (wrap64 (((jobSt l n).1.length : Int) - n), true) else (0, false)
theorem left_eq (l : List S90) (hl : l.length ≤ 1048576) (n : Int) (k : Nat) (hk : fuelH 0 l.length + 900 ≤ k) : spec_StrokesLeft.f k l n = some (leftOf l n) ∧ impl_StrokesLeft.f k l n = some (leftOf l n) := by
 unfold spec_StrokesLeft.f impl_StrokesLeft.f leftOf
 rw [specJob_eq l hl n k hk, implJob_eq l hl n k hk]
 simp only [Option.bind_some]
 by_cases h : (jobSt l n).2 = true
 ·simp only [if_pos h]; exact ⟨trivial, trivial⟩
 ·simp only [if_neg h]; exact ⟨trivial, trivial⟩
theorem left_mk {l : List S90} (hS : SheetB l = true) (h2 : (sheetSt [] l).2 = true) (n : Int) (hn : 0 ≤ n ∧ n ≤ ((sheetSt [] l).1.length : Int)) : leftOf l n = (((sheetSt [] l).1.length : Int) - n, true) := by
 have := sheetSt_length l []
 unfold leftOf
 rw [job_mk hS h2 n hn, if_pos rfl, w64 (by simp only; omega)]
def strokesP (l : List S90) : List S103 × Bool := if SheetB l = true then sheetSt [] l else ([], false)
theorem strokes_eq (l : List S90) (hl : l.length ≤ 1048576) (k : Nat) (hk : fuelH 0 l.length + 900 ≤ k) : spec_StrokesOf.f k l = some (strokesP l) ∧ impl_StrokesOf.f k l = some (strokesP l) := by
 unfold spec_StrokesOf.f impl_StrokesOf.f strokesP
 rw [shGood_eq l hl k (by omega), isSheet_eq l hl k (by omega)]
 simp only [Option.bind_some]
 by_cases h : SheetB l = true
 ·simp only [if_pos h]
  rw [puStrokes_eq l h k (by omega), strokesOf_eq l h k (by omega)]
  exact ⟨rfl, rfl⟩
 ·simp only [if_neg h]
  exact ⟨trivial, trivial⟩
theorem strokes_mk {l : List S90} (hS : SheetB l = true) (h2 : (sheetSt [] l).2 = true) : strokesP l = ((sheetSt [] l).1, true) := by
 unfold strokesP
 rw [if_pos hS]
 exact Prod.ext rfl h2
theorem mn_cases (a b : Int) (ha : 0 ≤ a) (hb : 0 ≤ b) : 0 ≤ mn a b ∧ mn a b ≤ a ∧ mn a b ≤ b ∧ (mn a b = a ∨ mn a b = b) := by unfold mn; omega
theorem pj_j4 (l : List S90) (hl : l.length ≤ 1048576) (n m : Int) : Tot (fun k => laws_FnPunchJobs.j4 k m (makeOf l n m).2.2.2 (makeOf l n m).2.2.1 (leftOf l n).1 l n (makeOf l n m).1 (makeOf l n m).2.1 (makeOf l n m).1 (makeOf l n m).2.1) (fun r => r = true) := by
 by_cases h : (jobSt l n).2 = true ∧ 0 ≤ m ∧ m ≤ 200
 ·obtain ⟨hS, h2, hn0, hn1⟩ := job_facts h.1
  have hm := h.2
  have hlen := sheetSt_length l []
  have hlf := fun x hx => left_mk hS h2 x hx
  have hjm := fun x hx => job_mk hS h2 x hx
  have hmk : makeOf l n m = (l, wrap64 (n + mn m (wrap64 (((sheetSt [] l).1.length : Int) - n))), mn m (wrap64 (((sheetSt [] l).1.length : Int) - n)), true) := by
   unfold makeOf
   rw [if_pos h, hjm n ⟨hn0, hn1⟩]
  clear h hS h2
  generalize (sheetSt [] l).1.length = N at *
  generalize (sheetSt [] l).1 = St at *
  rw [w64 (show -9223372036854775808 ≤ (N : Int) - n ∧ (N : Int) - n ≤ 9223372036854775807 by omega)] at hmk
  obtain ⟨q0, q1, q2, q3⟩ := mn_cases m ((N : Int) - n) hm.1 (by omega)
  generalize mn m ((N : Int) - n) = q at *
  rw [w64 (show -9223372036854775808 ≤ n + q ∧ n + q ≤ 9223372036854775807 by omega)] at hmk
  have e1 := hlf n ⟨hn0, hn1⟩
  have e2 := hlf (n + q) (by omega)
  have e3 := hjm (n + q) (by omega)
  simp only [hmk, e1]
  refine Tot.step (h := fun k => (impl_StrokesLeft.f k l (n + q)).bind fun Av => (if Av.2 = true then (if Av.1 = (wrap64 ((N : Int) - n - q)) then (if q ≤ m then (if q = m then (if n + q = (wrap64 (n + q)) then ((impl_IsPunchJob.f k l (n + q)).bind fun CF => (some CF)) else (some false)) else (if Av.1 = 0 then (if n + q = (wrap64 (n + q)) then ((impl_IsPunchJob.f k l (n + q)).bind fun CG => (some CG)) else (some false)) else (some false))) else (some false)) else (some false)) else (some false))) (fun k => by rw [laws_FnPunchJobs.j4, if_pos rfl]) ?_
  refine Tot.bind (Q := fun t => t = ((N : Int) - (n + q), true)) (Tot.ge _ (fuelH 0 l.length + 900) (fun k hk => by rw [(left_eq l hl (n + q) k hk).2]) e2) (fun t ht => ?_)
  subst ht
  have w1 : (N : Int) - (n + q) = wrap64 ((N : Int) - n - q) := by rw [w64 (by omega)]; omega
  have w2 : n + q = wrap64 (n + q) := by rw [w64 (by omega)]
  have last : Tot (fun k => (impl_IsPunchJob.f k l (n + q)).bind fun CF => some CF) (fun r => r = true) :=
   Tot.bind (Q := fun t => t = true) (Tot.ge _ (fuelH 0 l.length + 900) (fun k hk => isJob_eq l hl _ k hk) (by rw [e3])) (fun t ht => Tot.now t (fun _ => rfl) ht)
  by_cases hc : q = m
  ·exact Tot.congr (fun k => (if_pos rfl).trans ((if_pos w1).trans ((if_pos q1).trans ((if_pos hc).trans (if_pos w2))))) last
  ·exact Tot.congr (fun k => (if_pos rfl).trans ((if_pos w1).trans ((if_pos q1).trans ((if_neg hc).trans ((if_pos (show (N : Int) - (n + q) = 0 by omega)).trans (if_pos w2)))))) last
 ·have hmk : makeOf l n m = ([], 0, 0, false) := by unfold makeOf; rw [if_neg h]
  rw [hmk]
  exact Tot.step (h := fun _ => some true) (fun k => by rw [laws_FnPunchJobs.j4, if_neg (by simp)]) (Tot.now true (fun _ => rfl) rfl)
theorem doneL_range (n : Int) (l : List S90) : ∀ (sum : Int) (i : Nat), ∀ x ∈ doneL n sum i l, (i : Int) ≤ x ∧ x < (i : Int) + l.length := by
 induction l with
 | nil => intro sum i x hx; simp [doneL] at hx
 | cons y r ih =>
  intro sum i x hx
  have := ih (sum + ((holeSt y).length : Int)) (i + 1) x
  rw [doneL] at hx
  rw [List.length_cons]
  split at hx
  ·rcases List.mem_cons.1 hx with rfl | hx
   ·omega
   ·have := this hx; omega
  ·have := this hx; omega
theorem doneL_full (n : Int) (l : List S90) : ∀ (sum : Int) (i : Nat), (doneL n sum i l).length = l.length ↔ (l = [] ∨ sum + (((l.map (fun x => (holeSt x).length)).sum : Nat) : Int) ≤ n) := by
 induction l with
 | nil => intro sum i; simp [doneL]
 | cons y r ih =>
  intro sum i
  have h1 := ih (sum + ((holeSt y).length : Int)) (i + 1)
  have h2 := doneL_length n r (sum + ((holeSt y).length : Int)) (i + 1)
  have h3 : r = [] → (r.map (fun x => (holeSt x).length)).sum = 0 := fun h => by rw [h]; rfl
  rw [doneL, List.map_cons, List.sum_cons]
  generalize (r.map (fun x => (holeSt x).length)).sum = T at *
  generalize (holeSt y).length = H at *
  by_cases h : sum + (H : Int) ≤ n
  ·rw [if_pos h, List.length_cons, List.length_cons]
   constructor
   ·intro g
    right
    rcases h1.1 (by omega) with e | e
    ·have := h3 e; omega
    ·omega
   ·rintro (g | g)
    ·exact absurd g (by simp)
    ·have := h1.2 (Or.inr (by omega)); omega
  ·rw [if_neg h, List.length_cons]
   constructor
   ·intro g; omega
   ·rintro (g | g)
    ·exact absurd g (by simp)
    ·omega
theorem qInts_loop (l : List Int) (hl : l.length ≤ 1048576) (d : Nat) : ∀ (k i : Nat), i + d = l.length → d < k → laws_qInts.l0 k l l l.length i = some true := by
 induction d with
 | zero =>
  intro k i hi hk
  obtain ⟨k, rfl⟩ : ∃ j, k = j + 1 := ⟨k - 1, by omega⟩
  rw [laws_qInts.l0, if_neg (by omega)]
 | succ d ih =>
  intro k i hi hk
  obtain ⟨k, rfl⟩ : ∃ j, k = j + 1 := ⟨k - 1, by omega⟩
  rw [laws_qInts.l0, if_pos (by omega), if_pos (by omega), if_pos (by omega), if_pos (by omega), if_pos rfl, w64 (by omega), show ((i : Int) + 1) = ((i + 1 : Nat) : Int) by omega]
  exact ih k (i + 1) (by omega) (by omega)
theorem qInts_self (l : List Int) (hl : l.length ≤ 1048576) (k : Nat) (hk : l.length < k) : laws_qInts.f k l l = some true := by
 unfold laws_qInts.f
 rw [if_pos rfl]
 exact qInts_loop l hl l.length k 0 (by omega) hk
theorem pj_l0 (b : List S90) (hb : b.length ≤ 1048576) (c : Int) (hS : SheetB b = true) (h2 : (sheetSt [] b).2 = true) (hc : 0 ≤ c ∧ c ≤ ((sheetSt [] b).1.length : Int)) {x6 : Int} {x9 : Bool} {x11 x15 : Int} {fc : List S90} {eT : Int} {eL : List S90} {eM : Int} {fd : List S90} {eU : Int}
  (ht : Tot (fun k => laws_FnPunchJobs.j4 k x6 x9 x11 x15 fc eT eL eM fd eU) (fun r => r = true)) (d : Nat) : ∀ i : Nat, i + d = (doneL c 0 0 b).length →
  Tot (fun k => laws_FnPunchJobs.l0 k x6 x9 x11 x15 (doneL c 0 0 b) (doneL c 0 0 b) ((doneL c 0 0 b).length : Int) (i : Int) fc eT eL eM fd eU b c) (fun r => r = true) := by
 have hr := doneL_range c b 0 0
 have hle := doneL_length c b 0 0
 have hfull := doneL_full c b 0 0
 have hsum := (sheetSt_pun b [] (sheet_facts hS).2 h2).2.1
 have hst := strokes_mk hS h2
 generalize doneL c 0 0 b = D at *
 induction d with
 | zero =>
  intro i hi
  refine Tot.step (h := fun k => (spec_StrokesOf.f k b).bind fun Es => (if Es.2 = true then (if (((D.length : Int) == (b.length : Int)) != (c == (Es.1.length : Int))) = true then (some false) else (laws_FnPunchJobs.j4 k x6 x9 x11 x15 fc eT eL eM fd eU)) else (some false))) (fun k => by rw [laws_FnPunchJobs.l0, if_neg (by omega)]) ?_
  refine Tot.bind (Q := fun t => t = strokesP b) (Tot.ge _ (fuelH 0 b.length + 900) (fun k hk => (strokes_eq b hb k hk).1) rfl) (fun t e => ?_)
  subst e
  rw [hst]
  have key : ((D.length : Int) == (b.length : Int)) = (c == ((sheetSt [] b).1.length : Int)) := by
   rw [Bool.eq_iff_iff, beq_iff_eq, beq_iff_eq]
   have h0 : b = [] → (b.map (fun x => (holeSt x).length)).sum = 0 := fun h => by rw [h]; rfl
   rw [List.length_nil] at hsum
   generalize (b.map (fun x => (holeSt x).length)).sum = T at *
   constructor
   ·intro g
    rcases hfull.1 (by omega) with e | e
    ·have := h0 e; omega
    ·omega
   ·intro g
    have := hfull.2 (Or.inr (by omega))
    omega
  exact Tot.congr (fun k => (if_pos rfl).trans (if_neg (by simp only [key]; simp))) ht
 | succ d ih =>
  intro i hi
  have hi' : i < D.length := by omega
  have hx := hr _ (List.getElem_mem hi')
  refine Tot.step (h := fun k => laws_FnPunchJobs.l0 k x6 x9 x11 x15 D D (D.length : Int) ((i + 1 : Nat) : Int) fc eT eL eM fd eU b c) (fun k => ?_) (ih (i + 1) (by omega))
  have e : rd D (i : Int) = D[i] := rd_get D i hi'
  rw [laws_FnPunchJobs.l0, if_pos (by omega), if_pos (by omega), if_pos (by omega), e, if_neg (by omega), if_neg (by omega), w64 (by omega), show ((i : Int) + 1) = ((i + 1 : Nat) : Int) by omega]
theorem pj_j2 (b : List S90) (hb : b.length ≤ 1048576) (c : Int) {x6 : Int} {x9 : Bool} {x11 x15 : Int} {fc : List S90} {eT : Int} {eL : List S90} {eM : Int} {fd : List S90} {eU : Int}
  (ht : Tot (fun k => laws_FnPunchJobs.j4 k x6 x9 x11 x15 fc eT eL eM fd eU) (fun r => r = true)) : Tot (fun k => laws_FnPunchJobs.j2 k x6 x9 x11 x15 (doneOf b c).2 (doneOf b c).1 false fc eT eL eM fd eU b c) (fun r => r = true) := by
 by_cases h : (jobSt b c).2 = true
 ·obtain ⟨hS, h2, h3, h4⟩ := job_facts h
  have hd : doneOf b c = (doneL c 0 0 b, true) := by unfold doneOf; rw [if_pos h]
  rw [hd]
  exact Tot.step (h := fun k => laws_FnPunchJobs.l0 k x6 x9 x11 x15 (doneL c 0 0 b) (doneL c 0 0 b) ((doneL c 0 0 b).length : Int) ((0 : Nat) : Int) fc eT eL eM fd eU b c) (fun k => by rw [laws_FnPunchJobs.j2, if_neg (by simp), if_pos rfl]; rfl) (pj_l0 b hb c hS h2 ⟨h3, h4⟩ ht _ 0 (Nat.zero_add _))
 ·have hd : doneOf b c = ([], false) := by unfold doneOf; rw [if_neg h]
  rw [hd]
  exact Tot.step (fun k => by rw [laws_FnPunchJobs.j2, if_neg (by simp), if_neg (by simp)]) ht
theorem tmod_facts (n m : Int) (hn : 0 ≤ n) (hm : 1 ≤ m) : ∃ t, Int.tmod n m = t ∧ 0 ≤ t ∧ t < m ∧ t ≤ n ∧ Int.tmod (n - t) m = 0 := by
 have e1 : Int.tmod n m = n % m := Int.tmod_eq_emod_of_nonneg hn
 have e2 := Int.emod_nonneg n (show m ≠ 0 by omega)
 have e3 := Int.emod_lt_of_pos n (show 0 < m by omega)
 have e4 : n % m ≤ n := by
  by_cases h : n < m
  ·rw [Int.emod_eq_of_lt hn h]; omega
  ·omega
 refine ⟨n % m, e1, e2, e3, e4, ?_⟩
 rw [Int.tmod_eq_emod_of_nonneg (Int.sub_nonneg.2 e4), show n - n % m = m * (n / m) from by rw [Int.emod_def, Int.sub_sub_self], Int.mul_emod_right]
theorem pj_j1 (a : List S90) (ha : a.length ≤ 1048576) (n m : Int) {x6 : Int} {x9 : Bool} {x11 x15 : Int} {x31 : Bool} {x32 : List Int} {fc : List S90} {eT : Int} {eL : List S90} {eM : Int} {fd : List S90} {eU : Int} {fe : List S90} {fF : Int}
  (ht : Tot (fun k => laws_FnPunchJobs.j2 k x6 x9 x11 x15 x31 x32 false fc eT eL eM fd eU fe fF) (fun r => r = true)) :
  Tot (fun k => laws_FnPunchJobs.j1 k x6 x9 x11 x15 m (resumeOf a n m).2.2.2 (resumeOf a n m).2.2.1 x31 x32 fc eT eL eM fd eU a n (resumeOf a n m).1 (resumeOf a n m).2.1 (resumeOf a n m).1 (resumeOf a n m).2.1 fe fF) (fun r => r = true) := by
 by_cases h : (jobSt a n).2 = true ∧ 1 ≤ m ∧ m ≤ 50
 ·obtain ⟨hS, h2, h3, h4⟩ := job_facts h.1
  have hlen := sheetSt_length a []
  obtain ⟨t, e0, t0, t1, t2, t3⟩ := tmod_facts n m h3 h.2.1
  have hm := h.2
  have hd : resumeOf a n m = (a, wrap64 (n - t), t, true) := by unfold resumeOf; rw [if_pos h, e0]
  have hj := job_mk hS h2 (n - t) (by omega)
  rw [w64 (by omega)] at hd
  rw [hd]
  refine Tot.step (h := fun k => (impl_IsPunchJob.f k a (n - t)).bind fun CE => laws_FnPunchJobs.j2 k x6 x9 x11 x15 x31 x32 (!CE) fc eT eL eM fd eU fe fF) (fun k => by rw [laws_FnPunchJobs.j1, if_pos rfl, if_pos (by simp only; rw [w64 (by omega)]; omega), if_neg (by simp only; omega), if_neg (by simp only; omega), if_neg (by omega), if_pos t3]) ?_
  refine Tot.bind (Q := fun t => t = true) (Tot.ge _ (fuelH 0 a.length + 900) (fun k hk => isJob_eq a ha _ k hk) (by rw [hj])) (fun t e => ?_)
  subst e
  exact ht
 ·have hd : resumeOf a n m = ([], 0, 0, false) := by unfold resumeOf; rw [if_neg h]
  rw [hd]
  exact Tot.step (fun k => by rw [laws_FnPunchJobs.j1, if_neg (by simp)]) ht
theorem now_whole (l : List S90) (hl : l.length ≤ 1048576) (hS : SheetB l = true) (h2 : (sheetSt [] l).2 = true) : ∃ K, ∀ k, K ≤ k → impl_PunchedNow.f k l ((sheetSt [] l).1.length : Int) = some (l, true) := by
 have hj := job_mk hS h2 ((sheetSt [] l).1.length : Int) (by omega)
 have hok := jobSt_ok l ((sheetSt [] l).1.length : Int)
 rw [hj] at hok
 have hlen := sheetSt_length l []
 have hg : StrokesOK (sheetSt [] l).1 := ⟨hok, by omega⟩
 obtain ⟨L, n1, c1, l1, K, hK⟩ := implPunch_eq _ hg
 have hb := sheet_back hS h2 n1 l1 c1
 refine ⟨K + fuelH 0 l.length + 900, fun k hk => ?_⟩
 have e : impl_punchedBy.f k (sheetSt [] l).1 = some (shOf L) := hK k (by omega)
 unfold impl_PunchedNow.f
 rw [implJob_eq l hl _ k (by omega), hj]
 simp only [Option.bind_some]
 rw [if_pos trivial, if_pos (by omega), if_pos (by omega), Int.toNat_natCast, List.take_length, e, hb]
 rfl
theorem pj_j0 (s : List S90) (hs : s.length ≤ 1048576) {x6 : Int} {x9 : Bool} {x11 x15 x18 : Int} {x21 : Bool} {x23 : Int} {x31 : Bool} {x32 : List Int} {fc : List S90} {eT : Int} {eL : List S90} {eM : Int} {fd : List S90} {eU : Int} {rx : List S90} {o1 : Int} {o2 : List S90} {o3 : Int} {ry : List S90} {nA : Int} {fe : List S90} {fF : Int}
  (ht : Tot (fun k => laws_FnPunchJobs.j1 k x6 x9 x11 x15 x18 x21 x23 x31 x32 fc eT eL eM fd eU rx o1 o2 o3 ry nA fe fF) (fun r => r = true)) :
  Tot (fun k => laws_FnPunchJobs.j0 k x6 x9 x11 x15 x18 x21 x23 x31 x32 s (newOf s).2.2 false fc eT eL eM fd eU rx o1 o2 o3 ry nA fe fF (newOf s).1 (newOf s).2.1) (fun r => r = true) := by
 by_cases h : (jobSt s 0).2 = true
 ·obtain ⟨hS, h2, h3, h4⟩ := job_facts h
  have hlen := sheetSt_length s []
  have hn : newOf s = (s, 0, true) := by unfold newOf; rw [if_pos h]
  have hlf := left_mk hS h2 0 ⟨h3, h4⟩
  have hst := strokes_mk hS h2
  have hmk : makeOf s 0 200 = (s, ((sheetSt [] s).1.length : Int), ((sheetSt [] s).1.length : Int), true) := by
   unfold makeOf
   rw [if_pos ⟨h, by omega, by omega⟩, job_mk hS h2 0 ⟨h3, h4⟩]
   have e1 : wrap64 (((sheetSt [] s).1.length : Int) - 0) = ((sheetSt [] s).1.length : Int) := by rw [w64 (by omega)]; omega
   have e2 : mn 200 ((sheetSt [] s).1.length : Int) = ((sheetSt [] s).1.length : Int) := by unfold mn; omega
   simp only [e1, e2]
   rw [w64 (by omega), Int.zero_add]
  obtain ⟨K, hK⟩ := now_whole s hs hS h2
  rw [hn]
  refine Tot.step (h := fun k => (impl_StrokesLeft.f k s 0).bind fun Ep => ((impl_StrokesOf.f k s).bind fun Eq => ((spec_StrokesOf.f k s).bind fun At => ((impl_MakeStrokes.f k s 0 200).bind fun Au => ((impl_PunchedNow.f k Au.1 Au.2.1).bind fun Er => (if Ep.2 = true then (if Eq.2 = true then (if At.2 = true then (if (Eq.1.length : Int) = (At.1.length : Int) then (if Ep.1 = (At.1.length : Int) then (if Au.2.2.2 = true then (if Er.2 = true then ((laws_qSheet.f k Er.1 s).bind fun FV => (if FV = true then (laws_FnPunchJobs.j1 k x6 x9 x11 x15 x18 x21 x23 x31 x32 fc eT eL eM fd eU rx o1 o2 o3 ry nA fe fF) else (some false))) else (some false)) else (some false)) else (some false)) else (some false)) else (some false)) else (some false)) else (some false))))))) (fun k => by rw [laws_FnPunchJobs.j0, if_neg (by simp), if_pos rfl]) ?_
  refine Tot.bind (Q := fun t => t = (((sheetSt [] s).1.length : Int) - 0, true)) (Tot.ge _ (fuelH 0 s.length + 900) (fun k hk => (left_eq s hs 0 k hk).2) hlf) (fun t e => ?_)
  subst e
  refine Tot.bind (Q := fun t => t = ((sheetSt [] s).1, true)) (Tot.ge _ (fuelH 0 s.length + 900) (fun k hk => (strokes_eq s hs k hk).2) hst) (fun t e => ?_)
  subst e
  refine Tot.bind (Q := fun t => t = ((sheetSt [] s).1, true)) (Tot.ge _ (fuelH 0 s.length + 900) (fun k hk => (strokes_eq s hs k hk).1) hst) (fun t e => ?_)
  subst e
  refine Tot.bind (Q := fun t => t = (s, ((sheetSt [] s).1.length : Int), ((sheetSt [] s).1.length : Int), true)) (Tot.ge _ (fuelH 0 s.length + 901) (fun k hk => (make_eq s hs 0 200 k hk).2) hmk) (fun t e => ?_)
  subst e
  refine Tot.bind (Q := fun t => t = (s, true)) (Tot.ge _ K (fun k hk => hK k hk) rfl) (fun t e => ?_)
  subst e
  refine Tot.congr (fun k => (if_pos rfl).trans ((if_pos rfl).trans ((if_pos rfl).trans ((if_pos rfl).trans ((if_pos (Int.sub_zero _)).trans ((if_pos rfl).trans (if_pos rfl))))))) ?_
  refine Tot.bind (Q := fun t => t = true) (Tot.ge true (s.length + 1) (fun k hk => qSheet_self s hs k (by omega)) rfl) (fun t e => ?_)
  subst e
  exact Tot.congr (fun k => if_pos rfl) ht
 ·have hn : newOf s = ([], 0, false) := by unfold newOf; rw [if_neg h]
  rw [hn]
  exact Tot.step (fun k => by rw [laws_FnPunchJobs.j0, if_neg (by simp), if_neg (by simp)]) ht
theorem u8_wf (l : List Int) (h : ∀ x ∈ l, (Lit.int .u8 x).wf = true) : ∀ x ∈ l, 0 ≤ x ∧ x ≤ 255 := fun x hx => by
 have := h x hx
 simpa [Lit.wf, IntKind.min, IntKind.max, IntKind.signed, IntKind.bits] using this
theorem FnPunchJobs : laws_FnPunchJobs.Pure := by
 intro l0 l1 m0 _ w0 m1 _ w1
 unfold maxLen at m0 m1
 by_cases hb : (wrap64 ((l0.length : Int) + (l1.length : Int))) > 1048576
 ·exact ⟨0, by unfold laws_FnPunchJobs.f; rw [if_pos hb]⟩
 ·have hb' := hb
  rw [w64 (by omega)] at hb'
  have b0 : Bytes l0 := ⟨by omega, u8_wf l0 w0⟩
  have b1 : Bytes l1 := ⟨by omega, u8_wf l1 w1⟩
  have key : Tot (fun k => laws_FnPunchJobs.f k l0 l1) (fun r => r = true) := by
   refine Tot.congr (fun k => by unfold laws_FnPunchJobs.f; exact if_neg hb) ?_
   refine Tot.bind (drawMake_tot l0 b0) (fun q hq => ?_)
   obtain ⟨j, n, m⟩ := q
   have hj : j.length ≤ 61 := hq
   refine Tot.bind (Q := fun t => t = makeOf j n m) (Tot.ge _ (fuelH 0 j.length + 901) (fun k hk => (make_eq j (by omega) n m k hk).2) rfl) (fun t e => ?_)
   subst e
   refine Tot.bind (Q := fun t => t = makeOf j n m) (Tot.ge _ (fuelH 0 j.length + 901) (fun k hk => (make_eq j (by omega) n m k hk).1) rfl) (fun t e => ?_)
   subst e
   refine Tot.bind (Q := fun t => t = leftOf j n) (Tot.ge _ (fuelH 0 j.length + 900) (fun k hk => (left_eq j (by omega) n k hk).2) rfl) (fun t e => ?_)
   subst e
   refine Tot.bind (Q := fun t => t = leftOf j n) (Tot.ge _ (fuelH 0 j.length + 900) (fun k hk => (left_eq j (by omega) n k hk).1) rfl) (fun t e => ?_)
   subst e
   refine Tot.bind (drawResume_tot l1 b1) (fun q hq => ?_)
   obtain ⟨a, c, mk⟩ := q
   have ha : a.length ≤ 61 := hq
   refine Tot.bind (Q := fun t => t = resumeOf a c mk) (Tot.ge _ (fuelH 0 a.length + 900) (fun k hk => (resume_eq a (by omega) c mk k hk).2) rfl) (fun t e => ?_)
   subst e
   refine Tot.bind (Q := fun t => t = resumeOf a c mk) (Tot.ge _ (fuelH 0 a.length + 900) (fun k hk => (resume_eq a (by omega) c mk k hk).1) rfl) (fun t e => ?_)
   subst e
   refine Tot.bind (drawPunched_tot l1 b1) (fun q hq => ?_)
   obtain ⟨b, d⟩ := q
   have hbl : b.length ≤ 61 := hq
   obtain ⟨R, hR, K, hK⟩ := now_both b (by omega) d
   refine Tot.bind (Q := fun t => t = R) (Tot.ge R K (fun k hk => (hK k hk).2) rfl) (fun t e => ?_)
   subst e
   refine Tot.bind (Q := fun t' => t' = t) (Tot.ge t K (fun k hk => (hK k hk).1) rfl) (fun t' e => ?_)
   subst e
   refine Tot.bind (Q := fun t => t = doneOf b d) (Tot.ge _ (fuelH 0 b.length + 900) (fun k hk => (doneOf_eq b (by omega) d k hk).2) rfl) (fun t e => ?_)
   subst e
   refine Tot.bind (Q := fun t => t = doneOf b d) (Tot.ge _ (fuelH 0 b.length + 900) (fun k hk => (doneOf_eq b (by omega) d k hk).1) rfl) (fun t e => ?_)
   subst e
   refine Tot.bind (drawNew_tot l1 b1) (fun s hs => ?_)
   refine Tot.bind (Q := fun t => t = newOf s) (Tot.ge _ (fuelH 0 s.length + 900) (fun k hk => (new_eq s (by omega) k hk).2) rfl) (fun t e => ?_)
   subst e
   refine Tot.bind (Q := fun t => t = newOf s) (Tot.ge _ (fuelH 0 s.length + 900) (fun k hk => (new_eq s (by omega) k hk).1) rfl) (fun t e => ?_)
   subst e
   have go := pj_j0 s (by omega) (pj_j1 a (by omega) c mk (pj_j2 b (by omega) d (pj_j4 j (by omega) n m)))
   have l1' : (makeOf j n m).1.length ≤ 61 := by unfold makeOf; split <;> simp <;> omega
   have l2' : (resumeOf a c mk).1.length ≤ 61 := by unfold resumeOf; split <;> simp <;> omega
   have l3' : (newOf s).1.length ≤ 61 := by unfold newOf; split <;> simp <;> omega
   have l4' : (doneOf b d).1.length ≤ 61 := by
    have := doneL_length d b 0 0
    unfold doneOf
    split
    ·simp only; omega
    ·simp
   refine Tot.congr (fun k => if_neg (by simp)) ?_
   refine Tot.bind (Q := fun t => t = true) (Tot.ge true ((makeOf j n m).1.length + 1) (fun k hk => qJob_self _ (by omega) _ k (by omega)) rfl) (fun t e => ?_)
   subst e
   refine Tot.congr (fun k => (if_pos rfl).trans ((if_pos rfl).trans ((if_neg (by simp)).trans ((if_pos rfl).trans (if_neg (by simp)))))) ?_
   refine Tot.bind (Q := fun t => t = true) (Tot.ge true ((resumeOf a c mk).1.length + 1) (fun k hk => qJob_self _ (by omega) _ k (by omega)) rfl) (fun t e => ?_)
   subst e
   refine Tot.congr (fun k => (if_pos rfl).trans ((if_pos rfl).trans (if_neg (by simp)))) ?_
   refine Tot.bind (Q := fun t => t = true) (Tot.ge true (t'.1.length + 1) (fun k hk => qSheet_self _ (by omega) k (by omega)) rfl) (fun t e => ?_)
   subst e
   refine Tot.congr (fun k => (if_pos rfl).trans (if_neg (by simp))) ?_
   refine Tot.bind (Q := fun t => t = true) (Tot.ge true ((doneOf b d).1.length + 1) (fun k hk => qInts_self _ (by omega) k (by omega)) rfl) (fun t e => ?_)
   subst e
   refine Tot.congr (fun k => (if_pos rfl).trans (if_neg (by simp))) ?_
   refine Tot.bind (Q := fun t => t = true) (Tot.ge true ((newOf s).1.length + 1) (fun k hk => qJob_self _ (by omega) _ k (by omega)) rfl) (fun t e => ?_)
   subst e
   refine Tot.congr (fun k => if_pos rfl) ?_
   refine Tot.bind (Q := fun t => t = (doneOf b d).2) (Tot.ge _ (fuelH 0 b.length + 900) (fun k hk => isJob_eq b (by omega) d k hk) (by unfold doneOf; split <;> simp_all)) (fun t e => ?_)
   subst e
   refine Tot.congr (fun k => if_neg (by simp)) ?_
   by_cases h : (makeOf j n m).2.2.2 = true
   ·have h1 : (leftOf j n).2 = true := by
     unfold makeOf at h
     split at h
     ·rename_i h2; unfold leftOf; rw [if_pos h2.1]
     ·exact absurd h (by simp)
    refine Tot.congr (fun k => if_pos h) ?_
    rw [h1]
    exact go
   ·exact Tot.congr (fun k => if_neg h) go
  obtain ⟨r, hr, K, hK⟩ := key
  exact ⟨K, (hK K (Nat.le_refl _)).trans (by rw [hr])⟩
end Go.Proofs.Ytmnnmddfmmaohaa.Pure
