import Derived.Test.YtcpbncljimmkfaaGreatDoorPFnScansx19
namespace Go.Proofs.YtcpbncljimmkfaaGreatDoor.Pure
open Go.RowKit Go.Proofs.YtcpbncljimmkfaaGreatDoor.PFnScans Go.Proofs.YtcpbncljimmkfaaGreatDoorW.PrintWords Go.Proofs.YtcpbncljimmkfaaGreatDoorW.PrintLast
set_option linter.unusedVariables false
set_option linter.unusedSimpArgs false
theorem w64 {x : Int} (h : -9223372036854775808 ≤ x ∧ x ≤ 9223372036854775807) : wrap64 x = x := by
 unfold wrap64; omega
theorem someF {p : Prop} [Decidable p] (h : ¬ p) : some false = some (decide p) := by rw [decide_eq_false h]
theorem someD {q p : Prop} [Decidable q] [Decidable p] (h : q ↔ p) : some (decide q) = some (decide p) := by rw [decide_eq_decide.2 h]
def mx (a b : Int) : Int := if a < b then b else a
theorem data_length (s : ByteArray) : s.data.toList.length = s.size := by rw [Array.length_toList]; rfl
theorem bytesOf_length (s : ByteArray) : (bytesOf s).length = s.size := by rw [bytesOf, List.length_map, data_length]
theorem rd_bytesOf (s : ByteArray) (i : Int) : rd (bytesOf s) i = bt s i := by
 unfold rd bt bytesOf
 split
 ·rename_i h
  have h' : i.toNat < s.data.toList.length := by rw [data_length]; exact h
  simp [List.getD_eq_getElem?_getD, List.getElem?_eq_getElem h']
  rfl
 ·rename_i h
  have h' : s.data.toList.length ≤ i.toNat := by rw [data_length]; omega
  simp [List.getD_eq_getElem?_getD, List.getElem?_eq_none h']
theorem in_eq (a b c : Int) : spec_l1In.f a b c = some (decide (b ≤ a ∧ a ≤ c)) := by
 unfold spec_l1In.f
 by_cases h : a ≥ b
 ·rw [if_pos h]; congr 1; simp [show b ≤ a from h]
 ·rw [if_neg h]; congr 1; simp; omega
theorem fill_step {α : Type} (l : List α) (z : α) (i : Nat) (h : i < l.length) :
  (l.take i ++ List.replicate (l.length - i) z).set i (l[i]'h) = l.take (i + 1) ++ List.replicate (l.length - (i + 1)) z := by
 have hl : (l.take i).length = i := by rw [List.length_take]; omega
 rw [List.set_append_right _ _ (by omega), hl, Nat.sub_self, show l.length - i = (l.length - (i + 1)) + 1 by omega, List.replicate_succ, List.set_cons_zero, List.take_succ_eq_append_getElem h, List.append_assoc]
 rfl
theorem fill_length {α : Type} (l : List α) (z : α) (i : Nat) (h : i ≤ l.length) : (l.take i ++ List.replicate (l.length - i) z).length = l.length := by
 simp; omega
theorem rd_get (l : List Int) (i : Nat) (h : i < l.length) : rd l (i : Int) = l[i] := by
 unfold rd; rw [Int.toNat_natCast, List.getD_eq_getElem?_getD, List.getElem?_eq_getElem h]; rfl
theorem tmod_range (x n : Int) (hx : 0 ≤ x) (hn : 1 ≤ n) : 0 ≤ Int.tmod x n ∧ Int.tmod x n < n := by
 rw [Int.tmod_eq_emod_of_nonneg hx]
 exact ⟨Int.emod_nonneg _ (by omega), Int.emod_lt_of_pos _ (by omega)⟩
theorem u64_range (x : Int) : 0 ≤ IntKind.u64.wrap x ∧ IntKind.u64.wrap x < 18446744073709551616 := by
 simp only [IntKind.wrap, IntKind.bits, IntKind.signed, Bool.false_and, Bool.false_eq_true, if_false]
 exact ⟨Int.emod_nonneg _ (by decide), Int.emod_lt_of_pos _ (by decide)⟩
theorem u64_keeps (n : Int) (h0 : 0 ≤ n) (h1 : n < 2 ^ 64) : IntKind.u64.wrap n = n := by
 simp only [IntKind.wrap, IntKind.bits, IntKind.signed, Bool.false_and, Bool.false_eq_true, if_false]
 exact Int.emod_eq_of_lt h0 h1
theorem low_byte (x : Int) : ∃ v, wrap64 (Go.bits .and .u64 ((IntKind.u64.wrap x) / 1099511627776) 255) = v ∧ 0 ≤ v ∧ v ≤ 255 := by
 obtain ⟨h0, h1⟩ := u64_range x
 have hd0 : 0 ≤ IntKind.u64.wrap x / 1099511627776 := by omega
 have hd1 : IntKind.u64.wrap x / 1099511627776 < 2 ^ 64 := by omega
 have e := bits_mask .u64 64 (by decide) (fun n a b => u64_keeps n a b) 8 (by decide) _ hd0 hd1
 rw [show (255 : Int) = 2 ^ 8 - 1 by decide, e]
 generalize IntKind.u64.wrap x / 1099511627776 = y at hd0 hd1
 have : 0 ≤ y % 2 ^ 8 ∧ y % 2 ^ 8 ≤ 255 := by omega
 exact ⟨_, w64 (by omega), this.1, this.2⟩
def Bytes (l : List Int) : Prop := l.length ≤ 1048576 ∧ ∀ x ∈ l, 0 ≤ x ∧ x ≤ 255
theorem next_ok (l : List Int) (hl : Bytes l) (a s : Int) (ha : 0 ≤ a ∧ a ≤ 1000000) : ∃ v s', spec_l1Cur_next.f l a s = some (v, a + 1, s') ∧ 0 ≤ v ∧ v ≤ 255 := by
 have wa : wrap64 (a + 1) = a + 1 := w64 (by omega)
 unfold spec_l1Cur_next.f
 rw [wa]
 clear wa
 by_cases h : a < (l.length : Int)
 ·obtain ⟨n, rfl⟩ : ∃ n : Nat, a = n := ⟨a.toNat, by omega⟩
  have hn : n < l.length := by omega
  rw [if_pos h, if_pos ha.1]
  have hb := hl.2 _ (List.getElem_mem hn)
  by_cases h2 : (n : Int) + 1 ≤ (l.length : Int)
  ·rw [if_pos h2]
   refine ⟨_, _, rfl, ?_⟩
   rw [rd_get l n hn, w64 (by omega)]
   exact hb
  ·omega
 ·rw [if_neg h]
  by_cases h2 : a + 1 ≤ (l.length : Int)
  ·rw [if_pos h2]
   exact ⟨_, _, rfl, by omega, by omega⟩
  ·rw [if_neg h2]
   obtain ⟨v, e, h0, h1⟩ := low_byte (IntKind.u64.wrap (IntKind.u64.wrap (s * 6364136223846793005)) + 1442695040888963407)
   exact ⟨v, IntKind.u64.wrap (IntKind.u64.wrap (IntKind.u64.wrap (s * 6364136223846793005)) + 1442695040888963407), by rw [e], h0, h1⟩
theorem pick_ok (l : List Int) (hl : Bytes l) (a s : Int) (ha : 0 ≤ a ∧ a ≤ 900000) (n : Int) :
  ∃ v a' s', spec_l1Cur_pick.f l a s n = some (v, a', s') ∧ 0 ≤ v ∧ (1 ≤ n → v < n) ∧ a ≤ a' ∧ a' ≤ a + 2 := by
 unfold spec_l1Cur_pick.f
 by_cases h : n ≤ 1
 ·rw [if_pos h]
  exact ⟨0, a, s, rfl, by omega, by omega, by omega, by omega⟩
 ·rw [if_neg h]
  obtain ⟨v, s1, e1, h0, h1⟩ := next_ok l hl a s (by omega)
  rw [e1]
  simp only [Option.bind_some]
  by_cases h2 : n > 200
  ·obtain ⟨u, s2, e2, g0, g1⟩ := next_ok l hl (a + 1) s1 (by omega)
   rw [if_pos h2, e2]
   simp only [Option.bind_some]
   rw [if_neg (by omega), w64 (x := v * 256) (by omega), w64 (by omega)]
   have r := tmod_range (v * 256 + u) n (by omega) (by omega)
   exact ⟨_, _, _, rfl, r.1, fun _ => r.2, by omega, by omega⟩
  ·rw [if_neg h2, if_neg (by omega)]
   have r := tmod_range v n h0 (by omega)
   exact ⟨_, _, _, rfl, r.1, fun _ => r.2, by omega, by omega⟩
theorem one_ok (l : List Int) (hl : Bytes l) (a s : Int) (ha : 0 ≤ a ∧ a ≤ 900000) (n : Int) :
  ∃ v a' s', spec_l1Cur_one.f l a s n = some (v, a', s') ∧ a ≤ a' ∧ a' ≤ a + 2 := by
 obtain ⟨v, a', s', e, _, _, h1, h2⟩ := pick_ok l hl a s ha n
 unfold spec_l1Cur_one.f
 rw [e]
 exact ⟨_, _, _, rfl, h1, h2⟩
theorem among_ok (l : List Int) (hl : Bytes l) (a s : Int) (ha : 0 ≤ a ∧ a ≤ 900000) (xs : List Int) (hx : 1 ≤ xs.length) :
  ∃ v a' s', spec_l1Cur_among.f l a s xs = some (v, a', s') ∧ a ≤ a' ∧ a' ≤ a + 2 := by
 obtain ⟨v, a', s', e, h0, h1, h2, h3⟩ := pick_ok l hl a s ha (xs.length : Int)
 unfold spec_l1Cur_among.f
 rw [e]
 simp only [Option.bind_some]
 rw [if_pos h0, if_pos (h1 (by omega))]
 exact ⟨_, _, _, rfl, h2, h3⟩
theorem rdB_get (l : List ByteArray) (i : Nat) (h : i < l.length) : rdOf ByteArray.empty l (i : Int) = l[i] := by
 unfold rdOf; rw [Int.toNat_natCast, List.getD_eq_getElem?_getD, List.getElem?_eq_getElem h]; rfl
theorem drop_get {α : Type} (l : List α) (i : Nat) (h : i < l.length) : l.drop i = l[i] :: l.drop (i + 1) := List.drop_eq_getElem_cons h
abbrev cs (s : ByteArray) : List Int := bytesOf s
theorem cs_length (s : ByteArray) : (cs s).length = s.size := bytesOf_length s
theorem bt_get (s : ByteArray) (i : Nat) (h : i < s.size) : bt s (i : Int) = (cs s)[i]'(by rw [cs_length]; exact h) := by
 rw [← rd_bytesOf, rd_get _ _ (by rw [bytesOf_length]; exact h)]
theorem rdH_get (l : List S55) (i : Nat) (h : i < l.length) : rd_T55 l (i : Int) = l[i] := by
 unfold rd_T55; rw [Int.toNat_natCast, List.getD_eq_getElem?_getD, List.getElem?_eq_getElem h]; rfl
def HoleOK (x : S55) : Bool := decide (0 ≤ x.f0 ∧ x.f0 ≤ 19 ∧ 0 ≤ x.f1 ∧ x.f1 < x.f2 ∧ x.f2 ≤ 2000)
def hBefore (a b : S55) : Bool := decide (a.f1 < b.f1 ∨ (a.f1 = b.f1 ∧ a.f0 < b.f0))
def lastOK (p : List S55) (x : S55) : Bool := match p.getLast? with
 | none => true
 | some y => hBefore y x
def apartOK (p : List S55) (x : S55) : Bool := p.all fun y => !(decide (x.f0 = y.f0) && decide (y.f2 ≥ x.f1))
def chkSheet (p : List S55) : List S55 → Bool
 | [] => true
 | x :: r => HoleOK x && lastOK p x && apartOK p x && chkSheet (p ++ [x]) r
def SheetB (l : List S55) : Bool := chkSheet [] l && decide (l.length ≤ 60)
def fuelH (i : Nat) : Nat → Nat
 | 0 => 1
 | d + 1 => i + 3 + fuelH (i + 1) d
theorem lastOK_take (l : List S55) (i : Nat) (h : i + 1 < l.length) : lastOK (l.take (i + 1)) l[i + 1] = hBefore l[i] l[i + 1] := by
 unfold lastOK
 rw [List.take_succ_eq_append_getElem (show i < l.length by omega), List.getLast?_concat]
theorem specSheet_row (l : List S55) (x7 : List S55) (x8 x9 a b c : Int) (p : List S55) (hp : p.length ≤ 1048576) (x : S55) (hx : x = ⟨a, b, c⟩) (d : Nat) : ∀ (k j : Nat), j + d = p.length →
  spec_shGood.l1 (k + d + 1) l x7 x8 x9 p p.length j a b c = if apartOK (p.drop j) x then spec_shGood.l0 k l x7 x8 (wrap64 (x9 + 1)) else some false := by
 induction d with
 | zero =>
  intro k j hj
  rw [spec_shGood.l1, if_neg (by omega), List.drop_of_length_le (by omega)]
  rfl
 | succ d ih =>
  intro k j hj
  subst hx
  rw [spec_shGood.l1, if_pos (by omega), if_pos (by omega), if_pos (by omega), rdH_get p j (by omega), drop_get p j (by omega), w64 (by omega), show k + (d + 1) = k + d + 1 by omega, show ((j : Int) + 1) = ((j + 1 : Nat) : Int) by omega, ih k (j + 1) (by omega)]
  unfold apartOK
  rw [List.all_cons]
  by_cases h1 : a = p[j].f0
  ·by_cases h2 : p[j].f2 ≥ b
   ·rw [if_pos (by omega), if_pos h2]; simp [h1, h2]
   ·rw [if_pos (by omega), if_neg h2]; simp [h1, h2]
  ·rw [if_neg (by omega)]; simp [h1]
theorem shHole_eq (a b c : Int) : spec_shHole.f a b c = some (HoleOK ⟨a, b, c⟩) := by
 unfold spec_shHole.f HoleOK
 simp only [in_eq, Option.bind_some, decide_eq_true_eq]
 split
 ·split
  ·rw [w64 (by omega)]; exact someD (by omega)
  ·exact someF (by omega)
 ·exact someF (by omega)
theorem shBefore_eq (a b c a' b' c' : Int) : spec_shBefore.f a b c a' b' c' = some (hBefore ⟨a, b, c⟩ ⟨a', b', c'⟩) := by
 unfold spec_shBefore.f hBefore
 simp only []
 split
 ·rw [decide_eq_true (by omega)]
 ·split
  ·exact someD (by omega)
  ·exact someF (by omega)
theorem specSheet_loop (l : List S55) (hl : l.length ≤ 1048576) (d : Nat) : ∀ (k i : Nat), i + d = l.length → fuelH i d ≤ k →
  spec_shGood.l0 k l l l.length i = some (chkSheet (l.take i) (l.drop i) && decide (l.length ≤ 60)) := by
 induction d with
 | zero =>
  intro k i hi hk
  unfold fuelH at hk
  obtain ⟨k, rfl⟩ : ∃ j, k = j + 1 := ⟨k - 1, by omega⟩
  rw [spec_shGood.l0, if_neg (by omega), List.drop_of_length_le (by omega)]
  unfold chkSheet
  rw [Bool.true_and]
  exact someD (by omega)
 | succ d ih =>
  intro k i hi hk
  unfold fuelH at hk
  obtain ⟨j, rfl⟩ : ∃ j, k = j + i + 1 + 1 + 1 := ⟨k - i - 3, by omega⟩
  have ht : (l.take i).length = i := by rw [List.length_take]; omega
  have e2 : wrap64 ((i : Int) + 1) = ((i + 1 : Nat) : Int) := by rw [w64 (by omega)]; omega
  rw [spec_shGood.l0, if_pos (by omega), if_pos (by omega), if_pos (by omega), rdH_get l i (by omega), shHole_eq, drop_get l i (by omega), chkSheet]
  simp only [Option.bind_some]
  have hj : ∀ flag : Bool, spec_shGood.j1 (j + i + 1 + 1) l i l l.length i flag l[i].f0 l[i].f1 l[i].f2 = if flag then some false else if apartOK (l.take i) l[i] then spec_shGood.l0 j l l l.length ((i + 1 : Nat) : Int) else some false := by
   intro flag
   rw [spec_shGood.j1]
   cases flag
   ·simp only [Bool.false_eq_true, if_false]
    rw [if_pos (by omega), if_pos (by omega), Int.toNat_natCast]
    simp only [Option.bind_some]
    have := specSheet_row l l l.length i l[i].f0 l[i].f1 l[i].f2 (l.take i) (by omega) l[i] rfl i j 0 (by omega)
    rw [List.drop_zero, e2] at this
    exact this
   ·simp only [if_true]
  have hrec := ih j (i + 1) (by omega) (by omega)
  rw [List.take_succ_eq_append_getElem (show i < l.length by omega)] at hrec
  by_cases h1 : HoleOK l[i] = true
  ·rw [if_pos h1, h1]
   rcases Nat.eq_zero_or_pos i with h0 | h0
   ·subst h0
    rw [if_neg (by omega), hj false]
    simp only [Bool.false_eq_true, if_false]
    rw [hrec]
    simp [lastOK, apartOK]
   ·obtain ⟨m, rfl⟩ : ∃ m, i = m + 1 := ⟨i - 1, by omega⟩
    have e1 : wrap64 (((m + 1 : Nat) : Int) - 1) = (m : Int) := by rw [w64 (by omega)]; omega
    rw [if_pos (by omega), e1, if_pos (by omega), if_pos (by omega), rdH_get l m (by omega), shBefore_eq]
    simp only [Option.bind_some]
    rw [hj, hrec, lastOK_take l m (by omega)]
    cases hb : hBefore l[m] l[m + 1]
    ·simp [hb]
    ·cases ha : apartOK (l.take (m + 1)) l[m + 1] <;> simp [hb]
  ·rw [if_neg h1, Bool.eq_false_iff.2 h1, hj]; simp
theorem shGood_eq (l : List S55) (hl : l.length ≤ 1048576) (k : Nat) (hk : fuelH 0 l.length ≤ k) : spec_shGood.f k l = some (SheetB l) := by
 unfold spec_shGood.f SheetB
 have := specSheet_loop l hl l.length k 0 (by omega) hk
 rw [List.drop_zero, List.take_zero] at this
 exact this
theorem implSheet_row (l : List S55) (x7 : List S55) (x8 x9 a b c : Int) (p : List S55) (hp : p.length ≤ 1048576) (x : S55) (hx : x = ⟨a, b, c⟩) (d : Nat) : ∀ (k j : Nat), j + d = p.length →
  impl_IsSheet.l1 (k + d + 1) l x7 x8 x9 p p.length j a b c = if apartOK (p.drop j) x then impl_IsSheet.l0 k l x7 x8 (wrap64 (x9 + 1)) else some false := by
 induction d with
 | zero =>
  intro k j hj
  rw [impl_IsSheet.l1, if_neg (by omega), List.drop_of_length_le (by omega)]
  rfl
 | succ d ih =>
  intro k j hj
  subst hx
  rw [impl_IsSheet.l1, if_pos (by omega), if_pos (by omega), if_pos (by omega), rdH_get p j (by omega), drop_get p j (by omega), w64 (by omega), show k + (d + 1) = k + d + 1 by omega, show ((j : Int) + 1) = ((j + 1 : Nat) : Int) by omega, ih k (j + 1) (by omega)]
  unfold apartOK
  rw [List.all_cons]
  by_cases h1 : a = p[j].f0
  ·by_cases h2 : p[j].f2 ≥ b
   ·rw [if_pos (by omega), if_pos h2]; simp [h1, h2]
   ·rw [if_pos (by omega), if_neg h2]; simp [h1, h2]
  ·rw [if_neg (by omega)]; simp [h1]
theorem isHole_eq (a b c : Int) : impl_IsHole.f a b c = some (HoleOK ⟨a, b, c⟩) := by
 have ht : impl_isTrack.f a = some (decide (0 ≤ a ∧ a ≤ 19)) := by
  unfold impl_isTrack.f
  split
  ·exact someD (by omega)
  ·exact someF (by omega)
 unfold impl_IsHole.f HoleOK
 rw [ht]
 simp only [Option.bind_some, decide_eq_true_eq]
 repeat' split
 all_goals first
  | exact someF (by omega)
  | exact someD (by omega)
theorem holeLess_eq (a b c a' b' c' : Int) : impl_holeLess.f a b c a' b' c' = some (hBefore ⟨a, b, c⟩ ⟨a', b', c'⟩) := by
 unfold impl_holeLess.f hBefore
 simp only []
 split
 ·exact someD (by omega)
 ·exact someD (by omega)
theorem implSheet_loop (l : List S55) (hl : l.length ≤ 1048576) (d : Nat) : ∀ (k i : Nat), i + d = l.length → fuelH i d ≤ k →
  impl_IsSheet.l0 k l l l.length i = some (chkSheet (l.take i) (l.drop i)) := by
 induction d with
 | zero =>
  intro k i hi hk
  unfold fuelH at hk
  obtain ⟨k, rfl⟩ : ∃ j, k = j + 1 := ⟨k - 1, by omega⟩
  rw [impl_IsSheet.l0, if_neg (by omega), List.drop_of_length_le (by omega)]
  rfl
 | succ d ih =>
  intro k i hi hk
  unfold fuelH at hk
  obtain ⟨j, rfl⟩ : ∃ j, k = j + i + 1 + 1 + 1 := ⟨k - i - 3, by omega⟩
  have ht : (l.take i).length = i := by rw [List.length_take]; omega
  have e2 : wrap64 ((i : Int) + 1) = ((i + 1 : Nat) : Int) := by rw [w64 (by omega)]; omega
  rw [impl_IsSheet.l0, if_pos (by omega), if_pos (by omega), if_pos (by omega), rdH_get l i (by omega), isHole_eq, drop_get l i (by omega), chkSheet]
  simp only [Option.bind_some]
  have hj : ∀ flag : Bool, impl_IsSheet.j1 (j + i + 1 + 1) l i l l.length i flag l[i].f0 l[i].f1 l[i].f2 = if flag then some false else if apartOK (l.take i) l[i] then impl_IsSheet.l0 j l l l.length ((i + 1 : Nat) : Int) else some false := by
   intro flag
   rw [impl_IsSheet.j1]
   cases flag
   ·simp only [Bool.false_eq_true, if_false]
    rw [if_pos (by omega), if_pos (by omega), Int.toNat_natCast]
    simp only [Option.bind_some]
    have := implSheet_row l l l.length i l[i].f0 l[i].f1 l[i].f2 (l.take i) (by omega) l[i] rfl i j 0 (by omega)
    rw [List.drop_zero, e2] at this
    exact this
   ·simp only [if_true]
  have hrec := ih j (i + 1) (by omega) (by omega)
  rw [List.take_succ_eq_append_getElem (show i < l.length by omega)] at hrec
  by_cases h1 : HoleOK l[i] = true
  ·rw [if_pos h1, h1]
   rcases Nat.eq_zero_or_pos i with h0 | h0
   ·subst h0
    rw [if_neg (by omega), hj false]
    simp only [Bool.false_eq_true, if_false]
    rw [hrec]
    simp [lastOK, apartOK]
   ·obtain ⟨m, rfl⟩ : ∃ m, i = m + 1 := ⟨i - 1, by omega⟩
    have e1 : wrap64 (((m + 1 : Nat) : Int) - 1) = (m : Int) := by rw [w64 (by omega)]; omega
    rw [if_pos (by omega), e1, if_pos (by omega), if_pos (by omega), rdH_get l m (by omega), holeLess_eq]
    simp only [Option.bind_some]
    rw [hj, hrec, lastOK_take l m (by omega)]
    cases hb : hBefore l[m] l[m + 1]
    ·simp [hb]
    ·cases ha : apartOK (l.take (m + 1)) l[m + 1] <;> simp [hb]
  ·rw [if_neg h1, Bool.eq_false_iff.2 h1, hj]; simp
theorem isSheet_eq (l : List S55) (hl : l.length ≤ 1048576) (k : Nat) (hk : fuelH 0 l.length ≤ k) : impl_IsSheet.f k l = some (SheetB l) := by
 unfold impl_IsSheet.f SheetB
 by_cases h : l.length ≤ 60
 ·have := implSheet_loop l hl l.length k 0 (by omega) hk
  rw [List.drop_zero, List.take_zero] at this
  rw [if_neg (by omega), decide_eq_true h, Bool.and_true]
  exact this
 ·rw [if_pos (by omega), decide_eq_false h, Bool.and_false]
def Tot {α : Type} (g : Nat → Option α) (Q : α → Prop) : Prop := ∃ r, Q r ∧ ∃ K, ∀ k, K ≤ k → g k = some r
theorem Tot.now {α : Type} {g : Nat → Option α} {Q : α → Prop} (r : α) (h : ∀ k, g k = some r) (q : Q r) : Tot g Q := ⟨r, q, 0, fun k _ => h k⟩
theorem Tot.ge {α : Type} {g : Nat → Option α} {Q : α → Prop} (r : α) (K : Nat) (h : ∀ k, K ≤ k → g k = some r) (q : Q r) : Tot g Q := ⟨r, q, K, h⟩
theorem Tot.step {α : Type} {g h : Nat → Option α} {Q : α → Prop} (hs : ∀ k, g (k + 1) = h k) (e : Tot h Q) : Tot g Q := by
 obtain ⟨r, q, K, hK⟩ := e
 refine ⟨r, q, K + 1, fun k hk => ?_⟩
 obtain ⟨j, rfl⟩ : ∃ j, k = j + 1 := ⟨k - 1, by omega⟩
 rw [hs]
 exact hK j (by omega)
theorem Tot.congr {α : Type} {g h : Nat → Option α} {Q : α → Prop} (hs : ∀ k, g k = h k) (e : Tot h Q) : Tot g Q := by
 obtain ⟨r, q, K, hK⟩ := e
 exact ⟨r, q, K, fun k hk => by rw [hs]; exact hK k hk⟩
theorem Tot.bind {α β : Type} {g : Nat → Option α} {Q : α → Prop} {h : Nat → α → Option β} {R : β → Prop} (e : Tot g Q) (e2 : ∀ a, Q a → Tot (fun k => h k a) R) : Tot (fun k => (g k).bind (h k)) R := by
 obtain ⟨a, q, K, hK⟩ := e
 obtain ⟨r, p, M, hM⟩ := e2 a q
 refine ⟨r, p, K + M, fun k hk => ?_⟩
 simp only []
 rw [hK k (by omega), Option.bind_some]
 exact hM k (by omega)
theorem Tot.weak {α : Type} {g : Nat → Option α} {Q R : α → Prop} (e : Tot g Q) (h : ∀ a, Q a → R a) : Tot g R := by
 obtain ⟨r, q, K, hK⟩ := e
 exact ⟨r, h r q, K, hK⟩
theorem Tot.mono {α : Type} {g : Nat → Option α} {Q : α → Prop} (e : Tot g Q) : ∃ r, Q r ∧ ∃ K, ∀ k, K ≤ k → g k = some r := e
def Evn {α : Type} (g : Nat → Option α) (r : α) : Prop := ∃ K, ∀ k, K ≤ k → g k = some r
theorem Evn.const {α : Type} {g : Nat → Option α} {r : α} (h : ∀ k, g k = some r) : Evn g r := ⟨0, fun k _ => h k⟩
theorem Evn.ge {α : Type} {g : Nat → Option α} {r : α} (K : Nat) (h : ∀ k, K ≤ k → g k = some r) : Evn g r := ⟨K, h⟩
theorem Evn.step {α : Type} {g h : Nat → Option α} {r : α} (hs : ∀ k, g (k + 1) = h k) (e : Evn h r) : Evn g r := by
 obtain ⟨K, hK⟩ := e
 refine ⟨K + 1, fun k hk => ?_⟩
 obtain ⟨j, rfl⟩ : ∃ j, k = j + 1 := ⟨k - 1, by omega⟩
 rw [hs]
 exact hK j (by omega)
theorem Evn.congr {α : Type} {g h : Nat → Option α} {r : α} (hs : ∀ k, g k = h k) (e : Evn h r) : Evn g r := by
 obtain ⟨K, hK⟩ := e
 exact ⟨K, fun k hk => by rw [hs]; exact hK k hk⟩
theorem Evn.bind {α β : Type} {g : Nat → Option α} {a : α} {h : Nat → α → Option β} {r : β} (e : Evn g a) (e2 : Evn (fun k => h k a) r) : Evn (fun k => (g k).bind (h k)) r := by
 obtain ⟨K, hK⟩ := e
 obtain ⟨M, hM⟩ := e2
 refine ⟨K + M, fun k hk => ?_⟩
 simp only []
 rw [hK k (by omega), Option.bind_some]
 exact hM k (by omega)
theorem Evn.both {α β : Type} {g : Nat → Option α} {h : Nat → Option β} {r : α} {q : β} (e : Evn g r) (f : Evn h q) : ∃ K, ∀ k, K ≤ k → g k = some r ∧ h k = some q := by
 obtain ⟨K, hK⟩ := e
 obtain ⟨M, hM⟩ := f
 exact ⟨K + M, fun k hk => ⟨hK k (by omega), hM k (by omega)⟩⟩
def Cov (L : List S55) (t s : Int) : Prop := ∃ h ∈ L, h.f0 = t ∧ h.f1 ≤ s ∧ s < h.f2
def Apart (a b : S55) : Prop := a.f0 < b.f0 ∨ (a.f0 = b.f0 ∧ a.f2 < b.f1)
def Norm (L : List S55) : Prop := L.Pairwise Apart ∧ ∀ h ∈ L, h.f1 < h.f2
theorem norm_nil : Norm [] := ⟨List.Pairwise.nil, fun h hh => by simp at hh⟩
theorem cov_nil (t s : Int) : ¬ Cov [] t s := fun ⟨h, hh, _⟩ => by simp at hh
theorem cov_cons (a : S55) (L : List S55) (t s : Int) : Cov (a :: L) t s ↔ (a.f0 = t ∧ a.f1 ≤ s ∧ s < a.f2) ∨ Cov L t s := by
 unfold Cov
 constructor
 ·rintro ⟨h, hh, hc⟩
  rcases List.mem_cons.1 hh with rfl | hh
  ·exact Or.inl hc
  ·exact Or.inr ⟨h, hh, hc⟩
 ·rintro (hc | ⟨h, hh, hc⟩)
  ·exact ⟨a, List.mem_cons_self, hc⟩
  ·exact ⟨h, List.mem_cons_of_mem _ hh, hc⟩
theorem cov_append (A B : List S55) (t s : Int) : Cov (A ++ B) t s ↔ Cov A t s ∨ Cov B t s := by
 induction A with
 | nil => simp [cov_nil]
 | cons a A ih => rw [List.cons_append, cov_cons, cov_cons, ih, or_assoc]
theorem norm_cons {a : S55} {L : List S55} (h : Norm (a :: L)) : (∀ b ∈ L, Apart a b) ∧ a.f1 < a.f2 ∧ Norm L := by
 obtain ⟨h1, h2⟩ := h
 rw [List.pairwise_cons] at h1
 exact ⟨h1.1, h2 a List.mem_cons_self, h1.2, fun x hx => h2 x (List.mem_cons_of_mem _ hx)⟩
theorem norm_first {a : S55} {L : List S55} (h : Norm (a :: L)) {t s : Int} (hc : Cov (a :: L) t s) : a.f0 < t ∨ (a.f0 = t ∧ a.f1 ≤ s) := by
 obtain ⟨h1, h2, h3⟩ := norm_cons h
 rcases (cov_cons _ _ _ _).1 hc with ⟨e, e1, e2⟩ | ⟨b, hb, e, e1, e2⟩
 ·exact Or.inr ⟨e, e1⟩
 ·rcases h1 b hb with g | ⟨g1, g2⟩
  ·exact Or.inl (by omega)
  ·exact Or.inr ⟨by omega, by omega⟩
theorem norm_end {a : S55} {L : List S55} (h : Norm (a :: L)) : ¬ Cov (a :: L) a.f0 a.f2 := by
 obtain ⟨h1, h2, h3⟩ := norm_cons h
 intro hc
 rcases (cov_cons _ _ _ _).1 hc with ⟨e, e1, e2⟩ | ⟨b, hb, e, e1, e2⟩
 ·omega
 ·rcases h1 b hb with g | ⟨g1, g2⟩
  ·omega
  ·omega
theorem norm_rest {a : S55} {L : List S55} (h : Norm (a :: L)) (t s : Int) : Cov L t s ↔ Cov (a :: L) t s ∧ ¬ (a.f0 = t ∧ a.f1 ≤ s ∧ s < a.f2) := by
 obtain ⟨h1, h2, h3⟩ := norm_cons h
 rw [cov_cons]
 constructor
 ·rintro ⟨b, hb, e, e1, e2⟩
  refine ⟨Or.inr ⟨b, hb, e, e1, e2⟩, ?_⟩
  rcases h1 b hb with g | ⟨g1, g2⟩
  ·omega
  ·omega
 ·rintro ⟨hc | hc, hn⟩
  ·exact absurd hc hn
  ·exact hc
theorem norm_unique : ∀ (L M : List S55), Norm L → Norm M → (∀ t s, Cov L t s ↔ Cov M t s) → L = M
 | [], [], _, _, _ => rfl
 | [], b :: M, _, hM, hc => by
  have h := norm_cons hM
  exact absurd ((hc b.f0 b.f1).2 ⟨b, List.mem_cons_self, rfl, Int.le_refl _, h.2.1⟩) (cov_nil _ _)
 | a :: L, [], hL, _, hc => by
  have h := norm_cons hL
  exact absurd ((hc a.f0 a.f1).1 ⟨a, List.mem_cons_self, rfl, Int.le_refl _, h.2.1⟩) (cov_nil _ _)
 | a :: L, b :: M, hL, hM, hc => by
  have ha := norm_cons hL
  have hb := norm_cons hM
  have ca : Cov (a :: L) a.f0 a.f1 := ⟨a, List.mem_cons_self, rfl, Int.le_refl _, ha.2.1⟩
  have cb : Cov (b :: M) b.f0 b.f1 := ⟨b, List.mem_cons_self, rfl, Int.le_refl _, hb.2.1⟩
  have l1 := norm_first hM ((hc _ _).1 ca)
  have l2 := norm_first hL ((hc _ _).2 cb)
  have e0 : a.f0 = b.f0 := by omega
  have e1 : a.f1 = b.f1 := by omega
  have e2 : a.f2 = b.f2 := by
   rcases Int.lt_trichotomy a.f2 b.f2 with h | h | h
   ·refine absurd ((hc a.f0 a.f2).2 ⟨b, List.mem_cons_self, e0.symm, ?_, h⟩) (norm_end hL)
    have := ha.2.1
    omega
   ·exact h
   ·refine absurd ((hc b.f0 b.f2).1 ⟨a, List.mem_cons_self, e0, ?_, h⟩) (norm_end hM)
    have := hb.2.1
    omega
  have e : a = b := by
   obtain ⟨a0, a1, a2⟩ := a
   obtain ⟨b0, b1, b2⟩ := b
   simp only at e0 e1 e2
   rw [e0, e1, e2]
  subst e
  rw [norm_unique L M ha.2.2 hb.2.2 (fun t s => by rw [norm_rest hL, norm_rest hM, hc])]
def mg (L : List S55) (t a b : Int) : List S55 := match L.getLast? with
 | none => [⟨t, a, b⟩]
 | some h => if h.f0 = t ∧ a ≤ h.f2 then L.dropLast ++ [⟨h.f0, h.f1, mx h.f2 b⟩] else L ++ [⟨t, a, b⟩]
theorem norm_append {L : List S55} {x : S55} : Norm (L ++ [x]) ↔ Norm L ∧ (∀ h ∈ L, Apart h x) ∧ x.f1 < x.f2 := by
 unfold Norm
 rw [List.pairwise_append]
 constructor
 ·rintro ⟨⟨h1, _, h3⟩, h4⟩
  exact ⟨⟨h1, fun h hh => h4 h (List.mem_append_left _ hh)⟩, fun h hh => h3 h hh x (List.mem_singleton.2 rfl), h4 x (List.mem_append_right _ (List.mem_singleton.2 rfl))⟩
 ·rintro ⟨⟨h1, h2⟩, h3, h4⟩
  refine ⟨⟨h1, List.pairwise_singleton _ _, fun h hh y hy => by obtain rfl := List.mem_singleton.1 hy; exact h3 h hh⟩, fun h hh => ?_⟩
  rcases List.mem_append.1 hh with hh | hh
  ·exact h2 h hh
  ·obtain rfl := List.mem_singleton.1 hh; exact h4
theorem mg_ok (L : List S55) (t a b : Int) (hL : Norm L) (hab : a < b) (hb : ∀ h ∈ L, h.f0 < t ∨ (h.f0 = t ∧ h.f1 ≤ a)) :
  Norm (mg L t a b) ∧ (∀ t' s, Cov (mg L t a b) t' s ↔ Cov L t' s ∨ (t = t' ∧ a ≤ s ∧ s < b)) ∧ (∀ h ∈ mg L t a b, h.f0 < t ∨ (h.f0 = t ∧ h.f1 ≤ a)) ∧ (mg L t a b).length ≤ L.length + 1 := by
 unfold mg
 rcases List.eq_nil_or_concat L with rfl | ⟨I, x, hIx⟩
 ·rw [List.getLast?_nil]
  refine ⟨⟨List.pairwise_singleton _ _, fun h hh => by obtain rfl := List.mem_singleton.1 hh; exact hab⟩, fun t' s => by rw [cov_cons, or_comm], fun h hh => by obtain rfl := List.mem_singleton.1 hh; exact Or.inr ⟨rfl, Int.le_refl _⟩, by simp⟩
 ·rw [List.concat_eq_append] at hIx
  subst hIx
  rw [List.getLast?_concat]
  obtain ⟨n1, n2, n3⟩ := norm_append.1 hL
  have hx := hb x (List.mem_append_right _ (List.mem_singleton.2 rfl))
  have hI : ∀ h ∈ I, h.f0 < t ∨ (h.f0 = t ∧ h.f1 ≤ a) := fun h hh => hb h (List.mem_append_left _ hh)
  by_cases hc : x.f0 = t ∧ a ≤ x.f2
  ·simp only [if_pos hc, List.dropLast_concat]
   have hm : mx x.f2 b = x.f2 ∧ b ≤ x.f2 ∨ mx x.f2 b = b ∧ x.f2 ≤ b := by unfold mx; omega
   refine ⟨norm_append.2 ⟨n1, n2, by simp only; omega⟩, fun t' s => ?_, fun h hh => ?_, by simp⟩
   ·rw [cov_append, cov_append, cov_cons, cov_cons]
    simp only [cov_nil, or_false]
    constructor
    ·rintro (h | h)
     ·exact Or.inl (Or.inl h)
     ·by_cases g : s < x.f2
      ·exact Or.inl (Or.inr ⟨h.1, h.2.1, g⟩)
      ·exact Or.inr ⟨by omega, by omega, by omega⟩
    ·rintro ((h | h) | h)
     ·exact Or.inl h
     ·exact Or.inr ⟨h.1, h.2.1, by omega⟩
     ·exact Or.inr ⟨by omega, by omega, by omega⟩
   ·rcases List.mem_append.1 hh with hh | hh
    ·exact hI h hh
    ·obtain rfl := List.mem_singleton.1 hh
     simp only
     omega
  ·simp only [if_neg hc]
   refine ⟨norm_append.2 ⟨hL, fun h hh => ?_, hab⟩, fun t' s => ?_, fun h hh => ?_, by simp⟩
   ·unfold Apart
    simp only
    rcases List.mem_append.1 hh with hh | hh
    ·have g1 := hI h hh
     have g2 := n2 h hh
     unfold Apart at g2
     omega
    ·obtain rfl := List.mem_singleton.1 hh
     omega
   ·rw [cov_append, cov_cons]
    simp only [cov_nil, or_false]
   ·rcases List.mem_append.1 hh with hh | hh
    ·exact hb h hh
    ·obtain rfl := List.mem_singleton.1 hh
     exact Or.inr ⟨rfl, Int.le_refl _⟩
theorem pair_mem {α : Type} {R : α → α → Prop} : ∀ {L : List α}, L.Pairwise R → ∀ a ∈ L, ∀ b ∈ L, a = b ∨ R a b ∨ R b a
 | [], _, a, ha, _, _ => by simp at ha
 | x :: L, h, a, ha, b, hb => by
  rw [List.pairwise_cons] at h
  rcases List.mem_cons.1 ha with e1 | h1
  ·rcases List.mem_cons.1 hb with e2 | h2
   ·exact Or.inl (e1.trans e2.symm)
   ·exact Or.inr (Or.inl (e1 ▸ h.1 b h2))
  ·rcases List.mem_cons.1 hb with e2 | h2
   ·exact Or.inr (Or.inr (e2 ▸ h.1 a h1))
   ·exact pair_mem h.2 a h1 b h2
theorem lt_before (a b : S55) : impl_holeLt a b = hBefore a b := rfl
theorem norm_keys {L : List S55} (h : Norm L) : ∀ a ∈ L, ∀ b ∈ L, impl_holeLt a b = false → impl_holeLt b a = false → a = b := by
 intro a ha b hb h1 h2
 unfold impl_holeLt at h1 h2
 have h1 := of_decide_eq_false h1
 have h2 := of_decide_eq_false h2
 rcases pair_mem h.1 a ha b hb with e | e | e
 ·exact e
 ·have := h.2 a ha
  unfold Apart at e
  omega
 ·have := h.2 b hb
  unfold Apart at e
  omega
def inOrder (L : List S55) : List S55 := L.mergeSort (fun a b => !impl_holeLt b a)
def shOf (L : List S55) : List S55 × Bool := if SheetB (inOrder L) then (inOrder L, true) else ([], false)
theorem inOrder_length (L : List S55) : (inOrder L).length = L.length := by unfold inOrder; exact (List.mergeSort_perm _ _).length_eq
theorem sortHoles_eq {L : List S55} (h : Norm L) (hl : L.length ≤ 1048576) : impl_sortHoles.f L = some (inOrder L) := by
 unfold impl_sortHoles.f inOrder
 rw [if_pos ⟨by omega, fun a ha b hb h1 h2 => by rw [norm_keys h a ha b hb h1 h2]; exact ⟨rfl, rfl, rfl⟩⟩]
theorem order_facts {L : List S55} (h : Norm L) (hl : L.length ≤ 1048576) {M : List S55} (hp : M.Perm L) (hs : M.Pairwise (fun a b => impl_holeLt b a = false)) : M = inOrder L := impl_sortHoles.uniq (sortHoles_eq h hl) hp hs
theorem short_no (L : List S55) (h : 60 < L.length) : SheetB (inOrder L) = false := by
 unfold SheetB
 rw [inOrder_length, decide_eq_false (by omega), Bool.and_false]
theorem sheetOf_eq {L : List S55} (h : Norm L) (hl : L.length ≤ 1048576) (k : Nat) (hk : fuelH 0 L.length ≤ k) : impl_sheetOf.f k L = some (shOf L) := by
 unfold impl_sheetOf.f shOf
 by_cases h60 : (L.length : Int) > 60
 ·rw [if_pos h60, short_no L (by omega)]
  rfl
 ·rw [if_neg h60]
  unfold slices_Clone_Hole.f
  rw [if_pos (by omega)]
  simp only [Option.bind_some]
  rw [sortHoles_eq h hl]
  simp only [Option.bind_some]
  rw [isSheet_eq _ (by rw [inOrder_length]; exact hl) k (by rw [inOrder_length]; exact hk)]
  simp only [Option.bind_some]
  cases SheetB (inOrder L) <;> rfl
def NotAfter (a b : S55) : Prop := impl_holeLt b a = false
theorem insert_order {out : List S55} {x : S55} (ho : out.Pairwise NotAfter) (j : Nat) (hj : j ≤ out.length) (h1 : ∀ i, j ≤ i → ∀ h : i < out.length, hBefore x out[i] = true) (h2 : ∀ h : 0 < j, hBefore x (out[j - 1]'(by omega)) = false) :
  (out.take j ++ [x] ++ out.drop j).Pairwise NotAfter := by
 have hO := impl_holeLt.swo
 rw [List.append_assoc, List.pairwise_append]
 refine ⟨ho.sublist (List.take_sublist _ _), ?_, ?_⟩
 ·rw [List.singleton_append, List.pairwise_cons]
  refine ⟨fun y hy => ?_, ho.sublist (List.drop_sublist _ _)⟩
  obtain ⟨i, hi, rfl⟩ := List.mem_iff_getElem.1 hy
  rw [List.length_drop] at hi
  rw [List.getElem_drop]
  have := h1 (j + i) (by omega) (by omega)
  unfold NotAfter
  rw [lt_before]
  unfold hBefore at *
  have := of_decide_eq_true this
  exact decide_eq_false (by omega)
 ·intro a ha y hy
  obtain ⟨i, hi, rfl⟩ := List.mem_iff_getElem.1 ha
  rw [List.length_take] at hi
  rw [List.getElem_take]
  have hj0 : 0 < j := by omega
  have e2 := h2 hj0
  have ea : NotAfter out[i] x := by
   unfold NotAfter
   rw [lt_before]
   by_cases he : i = j - 1
   ·subst he; exact e2
   ·have := (List.pairwise_iff_getElem.1 ho) i (j - 1) (by omega) (by omega) (by omega)
    exact hO.ntrans _ _ _ e2 this
  rcases List.mem_cons.1 (by simpa using hy) with rfl | hy
  ·exact ea
  ·obtain ⟨q, hq, rfl⟩ := List.mem_iff_getElem.1 hy
   rw [List.length_drop] at hq
   rw [List.getElem_drop]
   exact (List.pairwise_iff_getElem.1 ho) i (j + q) (by omega) (by omega) (by omega)
theorem insert_perm {α : Type} (out : List α) (x : α) (j : Nat) : (out.take j ++ [x] ++ out.drop j).Perm (out ++ [x]) := by
 rw [List.append_assoc]
 have h1 : (out.take j ++ ([x] ++ out.drop j)).Perm (out.take j ++ (out.drop j ++ [x])) := (List.perm_append_comm).append_left _
 refine h1.trans ?_
 rw [← List.append_assoc, List.take_append_drop]
theorem place_loop (out l : List S55) (hl : out.length ≤ 1048576) (x : S55) (n i : Int) {r : List S55 × Bool}
  (hk : ∀ j (_hj : j ≤ out.length), (∀ q, j ≤ q → ∀ h : q < out.length, hBefore x out[q] = true) → (∀ h : 0 < j, hBefore x (out[j - 1]'(by omega)) = false) →
   Evn (fun k => spec_shSorted.l0 k (out.take j ++ [x] ++ out.drop j) l n (wrap64 (i + 1))) r) :
  ∀ p, p ≤ out.length → (∀ q, p ≤ q → ∀ h : q < out.length, hBefore x out[q] = true) → Evn (fun k => spec_shSorted.l1 k out p l n i x.f0 x.f1 x.f2) r := by
 intro p
 induction p with
 | zero =>
  intro hp ha
  refine Evn.step (h := fun k => spec_shSorted.l0 k (out.take 0 ++ [x] ++ out.drop 0) l n (wrap64 (i + 1))) (fun k => ?_) (hk 0 (by omega) ha (fun h => absurd h (by omega)))
  rw [spec_shSorted.l1, if_neg (by simp)]
  simp only [Option.bind_some]
  rw [if_pos (by omega), if_pos (by omega)]
  simp only [Int.toNat_natCast, List.nil_append]
  rw [if_pos (by simp), if_pos (by simp), if_pos (by simp; omega)]
 | succ p ih =>
  intro hp ha
  have e1 : wrap64 (((p + 1 : Nat) : Int) - 1) = (p : Int) := by rw [w64 (by omega)]; omega
  by_cases hb : hBefore x (out[p]'(by omega)) = true
  ·refine Evn.step (h := fun k => spec_shSorted.l1 k out p l n i x.f0 x.f1 x.f2) (fun k => ?_) (ih (by omega) (fun q hq h => ?_))
   ·rw [spec_shSorted.l1, if_pos (by omega), e1, if_pos (by omega), if_pos (by omega), rdH_get out p (by omega), shBefore_eq]
    simp only [Option.bind_some]
    rw [hb, if_pos rfl]
   ·by_cases hq' : q = p
    ·subst hq'; exact hb
    ·exact ha q (by omega) h
  ·have hb' : hBefore x (out[p]'(by omega)) = false := Bool.eq_false_iff.2 hb
   refine Evn.step (h := fun k => spec_shSorted.l0 k (out.take (p + 1) ++ [x] ++ out.drop (p + 1)) l n (wrap64 (i + 1))) (fun k => ?_) (hk (p + 1) hp ha (fun _ => hb'))
   rw [spec_shSorted.l1, if_pos (by omega), e1, if_pos (by omega), if_pos (by omega), rdH_get out p (by omega), shBefore_eq]
   simp only [Option.bind_some]
   rw [hb', if_neg (by decide), if_pos (by omega), if_pos (by omega)]
   simp only [Int.toNat_natCast, List.nil_append]
   rw [if_pos (by simp; omega), if_pos (by simp; omega), if_pos (by simp; omega)]
theorem shSorted_loop (l : List S55) (hl : l.length ≤ 1048576) (d : Nat) : ∀ (i : Nat) (out : List S55), i + d = l.length → out.Perm (l.take i) → out.Pairwise NotAfter →
  ∃ M, M.Perm l ∧ M.Pairwise NotAfter ∧ Evn (fun k => spec_shSorted.l0 k out l l.length i) (if SheetB M then (M, true) else ([], false)) := by
 induction d with
 | zero =>
  intro i out hi hp hs
  have hn : l.take i = l := List.take_of_length_le (by omega)
  rw [hn] at hp
  have hol := hp.length_eq
  refine ⟨out, hp, hs, fuelH 0 out.length + 1, fun k hk => ?_⟩
  obtain ⟨k, rfl⟩ : ∃ j, k = j + 1 := ⟨k - 1, by omega⟩
  simp only []
  rw [spec_shSorted.l0, if_neg (by omega), shGood_eq out (by omega) k (by omega)]
  simp only [Option.bind_some]
  cases SheetB out <;> rfl
 | succ d ih =>
  intro i out hi hp hs
  have hol : out.length = i := by rw [hp.length_eq, List.length_take]; omega
  have hi' : i < l.length := by omega
  have ht : l.take (i + 1) = l.take i ++ [l[i]] := List.take_succ_eq_append_getElem hi'
  have hnext : ∀ j (_hj : j ≤ out.length), (∀ q, j ≤ q → ∀ h : q < out.length, hBefore l[i] out[q] = true) → (∀ h : 0 < j, hBefore l[i] (out[j - 1]'(by omega)) = false) →
    (out.take j ++ [l[i]] ++ out.drop j).Perm (l.take (i + 1)) ∧ (out.take j ++ [l[i]] ++ out.drop j).Pairwise NotAfter := fun j hj h1 h2 =>
   ⟨(insert_perm out l[i] j).trans (by rw [ht]; exact hp.append_right _), insert_order hs j hj h1 h2⟩
  obtain ⟨j0, hj0, a0, b0⟩ : ∃ j, ∃ hj : j ≤ out.length, (∀ q, j ≤ q → ∀ h : q < out.length, hBefore l[i] out[q] = true) ∧ (∀ h : 0 < j, hBefore l[i] (out[j - 1]'(by omega)) = false) := by
   have : ∀ p, p ≤ out.length → (∀ q, p ≤ q → ∀ h : q < out.length, hBefore l[i] out[q] = true) → ∃ j, ∃ hj : j ≤ out.length, (∀ q, j ≤ q → ∀ h : q < out.length, hBefore l[i] out[q] = true) ∧ (∀ h : 0 < j, hBefore l[i] (out[j - 1]'(by omega)) = false) := by
    intro p
    induction p with
    | zero => intro hp' ha; exact ⟨0, by omega, ha, fun h => absurd h (by omega)⟩
    | succ p ihp =>
     intro hp' ha
     by_cases hb : hBefore l[i] (out[p]'(by omega)) = true
     ·refine ihp (by omega) (fun q hq h => ?_)
      by_cases hq' : q = p
      ·subst hq'; exact hb
      ·exact ha q (by omega) h
     ·exact ⟨p + 1, hp', ha, fun _ => Bool.eq_false_iff.2 hb⟩
   exact this out.length (Nat.le_refl _) (fun q hq h => absurd h (by omega))
  obtain ⟨M, hM1, hM2, hM3⟩ := ih (i + 1) _ (by omega) (hnext j0 hj0 a0 b0).1 (hnext j0 hj0 a0 b0).2
  refine ⟨M, hM1, hM2, ?_⟩
  refine Evn.step (h := fun k => spec_shSorted.l1 k out out.length l l.length i l[i].f0 l[i].f1 l[i].f2) (fun k => ?_) (place_loop out l (by omega) l[i] l.length i (fun j hj h1 h2 => ?_) out.length (Nat.le_refl _) (fun q hq h => absurd h (by omega)))
  ·rw [spec_shSorted.l0, if_pos (by omega), if_pos (by omega), if_pos (by omega), rdH_get l i hi']
  ·have e : j = j0 := by
    rcases Nat.lt_trichotomy j j0 with h | h | h
    ·have x1 := b0 (by omega)
     rw [h1 (j0 - 1) (by omega) (by omega)] at x1; cases x1
    ·exact h
    ·have x1 := h2 (by omega)
     rw [a0 (j - 1) (by omega) (by omega)] at x1; cases x1
   subst e
   rw [show wrap64 ((i : Int) + 1) = ((i + 1 : Nat) : Int) by rw [w64 (by omega)]; omega]
   exact hM3
theorem shSorted_eq {L : List S55} (h : Norm L) (hl : L.length ≤ 1048576) : Evn (fun k => spec_shSorted.f k L) (shOf L) := by
 obtain ⟨M, h1, h2, h3⟩ := shSorted_loop L hl L.length 0 [] (by omega) (by simp) List.Pairwise.nil
 have e := order_facts h hl h1 h2
 subst e
 exact h3
theorem w_next (n : Nat) (h : n ≤ 1000000) : wrap64 ((n : Int) + 1) = ((n + 1 : Nat) : Int) := by rw [w64 (by omega)]; omega
theorem put_tot (l : List Int) (x : Int) (hl : l.length ≤ 1000) (d : Nat) : ∀ (i : Nat), i + d = l.length → Tot (fun k => spec_l1Put.l0 k l x i) (fun r => r.length ≤ l.length + 1) := by
 induction d with
 | zero =>
  intro i hi
  refine Tot.step (h := fun _ => some (l.take i ++ [x] ++ l.drop i)) (fun k => ?_) (Tot.now _ (fun _ => rfl) (by simp; omega))
  rw [spec_l1Put.l0, if_neg (by omega)]
  simp only [Option.bind_some, Int.toNat_natCast, List.nil_append]
  rw [if_pos (by omega), if_pos (by omega), if_pos (by simp; omega), if_pos (by simp; omega), if_pos (by simp; omega)]
 | succ d ih =>
  intro i hi
  have hp : 0 ≤ (i : Int) := by omega
  have hq : (i : Int) < (l.length : Int) := by omega
  by_cases h1 : rd l (i : Int) < x
  ·exact Tot.step (h := fun k => spec_l1Put.l0 k l x ((i + 1 : Nat) : Int)) (fun k => by rw [spec_l1Put.l0, if_pos hq, if_pos hp, if_pos h1, w_next i (by omega)]) (ih (i + 1) (by omega))
  ·by_cases h2 : rd l (i : Int) = x
   ·exact Tot.step (h := fun _ => some l) (fun k => by rw [spec_l1Put.l0, if_pos hq, if_pos hp, if_neg h1, if_pos h2]) (Tot.now _ (fun _ => rfl) (by omega))
   ·refine Tot.step (h := fun _ => some (l.take i ++ [x] ++ l.drop i)) (fun k => ?_) (Tot.now _ (fun _ => rfl) (by simp; omega))
    rw [spec_l1Put.l0, if_pos hq, if_pos hp, if_neg h1, if_neg h2]
    simp only [Option.bind_some, Int.toNat_natCast, List.nil_append]
    rw [if_pos (by omega), if_pos (by simp; omega), if_pos (by simp; omega), if_pos (by simp; omega)]
theorem open_tot (l : List S55) (hl : l.length ≤ 100) (s : Int) (d : Nat) : ∀ (i : Nat) (out : List Int), i + d = l.length → out.length ≤ i → Tot (fun k => spec_shOpen.l0 k s out l l.length i) (fun r => r.length ≤ 100) := by
 induction d with
 | zero =>
  intro i out hi ho
  exact Tot.step (h := fun _ => some out) (fun k => by rw [spec_shOpen.l0, if_neg (by omega)]) (Tot.now _ (fun _ => rfl) (by omega))
 | succ d ih =>
  intro i out hi ho
  have hp : 0 ≤ (i : Int) := by omega
  have hq : (i : Int) < (l.length : Int) := by omega
  have e : ∀ a b c : Int, ∃ t, spec_l1In.f a b c = some t := fun a b c => by rw [in_eq]; exact ⟨_, rfl⟩
  obtain ⟨t, ht⟩ := e s ((rd_T55 l i).f1) (wrap64 (((rd_T55 l i).f2) - 1))
  cases t with
  | false => exact Tot.step (h := fun k => spec_shOpen.l0 k s out l l.length ((i + 1 : Nat) : Int)) (fun k => by rw [spec_shOpen.l0, if_pos hq, if_pos hp, if_pos hq, ht]; simp only [Option.bind_some, Bool.false_eq_true, if_false]; rw [w_next i (by omega)]) (ih (i + 1) out (by omega) (by omega))
  | true =>
   refine Tot.step (h := fun k => (spec_l1Put.f k out ((rd_T55 l i).f0)).bind fun t156 => spec_shOpen.l0 k s t156 l l.length ((i + 1 : Nat) : Int)) (fun k => by rw [spec_shOpen.l0, if_pos hq, if_pos hp, if_pos hq, ht]; simp only [Option.bind_some, if_true]; rw [w_next i (by omega)]) ?_
   refine Tot.bind (Q := fun r => r.length ≤ out.length + 1) ?_ (fun r hr => ih (i + 1) r (by omega) (by omega))
   exact put_tot out _ (by omega) out.length 0 (by omega)
theorem has_tot (l : List Int) (hl : l.length ≤ 1000) (x : Int) (d : Nat) : ∀ (i : Nat), i + d = l.length → Tot (fun k => spec_l1Has.l0 k x l l.length i) (fun _ => True) := by
 induction d with
 | zero =>
  intro i hi
  exact Tot.step (h := fun _ => some false) (fun k => by rw [spec_l1Has.l0, if_neg (by omega)]) (Tot.now _ (fun _ => rfl) trivial)
 | succ d ih =>
  intro i hi
  have hp : 0 ≤ (i : Int) := by omega
  have hq : (i : Int) < (l.length : Int) := by omega
  by_cases h : rd l (i : Int) = x
  ·exact Tot.step (h := fun _ => some true) (fun k => by rw [spec_l1Has.l0, if_pos hq, if_pos hp, if_pos hq, if_pos h]) (Tot.now _ (fun _ => rfl) trivial)
  ·exact Tot.step (h := fun k => spec_l1Has.l0 k x l l.length ((i + 1 : Nat) : Int)) (fun k => by rw [spec_l1Has.l0, if_pos hq, if_pos hp, if_pos hq, if_neg h, w_next i (by omega)]) (ih (i + 1) (by omega))
def Rows (R n : Nat) (l : List ByteArray) : Prop := l.length = R ∧ ∀ s ∈ l, s.size = n
theorem makeRow_tot (l : List S55) (R n : Nat) (hn : n ≤ 1000) (out : List ByteArray) (ho : out.length ≤ 1000) (r : Int) (op : List Int) (hop : op.length ≤ 1000) {Q : List ByteArray → Prop}
  (hk : ∀ t : ByteArray, t.size = n → Tot (fun k => spec_scMake.l0 k l n R (out ++ [t]) (wrap64 (r + 1))) Q) (d : Nat) : ∀ (c : Nat) (t : ByteArray), c + d = n → t.size = c → Tot (fun k => spec_scMake.l1 k l n R out r op t c) Q := by
 induction d with
 | zero =>
  intro c t hc ht
  exact Tot.step (h := fun k => spec_scMake.l0 k l n R (out ++ [t]) (wrap64 (r + 1))) (fun k => by rw [spec_scMake.l1, if_neg (by omega), if_pos (by omega)]) (hk t (by omega))
 | succ d ih =>
  intro c t hc ht
  have hq : (c : Int) < (n : Int) := by omega
  have hz : t.size + 1 ≤ 9223372036854775807 := by omega
  refine Tot.step (h := fun k => (spec_l1Has.f k op c).bind fun b => if b = true then spec_scMake.l1 k l n R out r op (t ++ (⟨#[111]⟩ : ByteArray)) ((c + 1 : Nat) : Int) else spec_scMake.l1 k l n R out r op (t ++ (⟨#[46]⟩ : ByteArray)) ((c + 1 : Nat) : Int))
   (fun k => by rw [spec_scMake.l1, if_pos hq]; congr 1; funext b; rw [if_pos hz, if_pos hz, w_next c (by omega)]) ?_
  refine Tot.bind (Q := fun _ => True) (has_tot op hop c op.length 0 (by omega)) (fun b _ => ?_)
  cases b with
  | true => exact Tot.congr (fun k => if_pos rfl) (ih (c + 1) _ (by omega) (by rw [ByteArray.size_append, ht]; rfl))
  | false => exact Tot.congr (fun k => if_neg (by decide)) (ih (c + 1) _ (by omega) (by rw [ByteArray.size_append, ht]; rfl))
theorem make_tot (l : List S55) (hl : l.length ≤ 100) (R n : Nat) (hR : R ≤ 100) (hn : n ≤ 1000) (d : Nat) : ∀ (r : Nat) (out : List ByteArray), r + d = R → Rows r n out → Tot (fun k => spec_scMake.l0 k l n R out r) (Rows R n) := by
 induction d with
 | zero =>
  intro r out hr ho
  obtain rfl : r = R := by omega
  exact Tot.step (h := fun _ => some out) (fun k => by rw [spec_scMake.l0, if_neg (by omega)]) (Tot.now _ (fun _ => rfl) ho)
 | succ d ih =>
  intro r out hr ho
  have h1 := ho.1
  refine Tot.step (h := fun k => (spec_shOpen.f k l r).bind fun op => spec_scMake.l1 k l n R out r op (⟨#[]⟩ : ByteArray) ((0 : Nat) : Int)) (fun k => by rw [spec_scMake.l0, if_pos (by omega)]; rfl) ?_
  refine Tot.bind (Q := fun q : List Int => q.length ≤ 100) (show Tot (fun k => spec_shOpen.f k l r) _ from open_tot l hl r l.length 0 [] (by omega) (by simp)) (fun op hop => ?_)
  refine makeRow_tot l R n hn out (by omega) r op (by omega) (fun t ht => ?_) n 0 _ (by omega) rfl
  rw [w_next r (by omega)]
  refine ih (r + 1) (out ++ [t]) (by omega) ⟨by simp; omega, fun s hs => ?_⟩
  rcases List.mem_append.1 hs with h | h
  ·exact ho.2 s h
  ·rw [List.mem_singleton.1 h]; exact ht
theorem mk_tot (l : List S55) (hl : l.length ≤ 100) (R n : Nat) (hR : R ≤ 100) (hn : n ≤ 1000) : Tot (fun k => spec_scMake.f k l n R) (Rows R n) :=
 make_tot l hl R n hR hn R 0 [] (by omega) ⟨rfl, fun s hs => by simp at hs⟩
theorem place_tot (out l : List S55) (hl : out.length ≤ 1000) (a b c : Int) (n i : Int) {Q : List S55 × Bool → Prop}
  (hk : ∀ o : List S55, o.length = out.length + 1 → Tot (fun k => spec_shSorted.l0 k o l n (wrap64 (i + 1))) Q) :
  ∀ p, p ≤ out.length → Tot (fun k => spec_shSorted.l1 k out p l n i a b c) Q := by
 intro p
 induction p with
 | zero =>
  intro hp
  refine Tot.step (h := fun k => spec_shSorted.l0 k (out.take 0 ++ [(⟨a, b, c⟩ : S55)] ++ out.drop 0) l n (wrap64 (i + 1))) (fun k => ?_) (hk _ (by simp))
  rw [spec_shSorted.l1, if_neg (by simp)]
  simp only [Option.bind_some]
  rw [if_pos (by omega), if_pos (by omega)]
  simp only [Int.toNat_natCast, List.nil_append]
  rw [if_pos (by simp), if_pos (by simp), if_pos (by simp; omega)]
 | succ p ih =>
  intro hp
  have e1 : wrap64 (((p + 1 : Nat) : Int) - 1) = (p : Int) := by rw [w64 (by omega)]; omega
  by_cases hb : hBefore (⟨a, b, c⟩ : S55) (out[p]'(by omega)) = true
  ·refine Tot.step (h := fun k => spec_shSorted.l1 k out p l n i a b c) (fun k => ?_) (ih (by omega))
   rw [spec_shSorted.l1, if_pos (by omega), e1, if_pos (by omega), if_pos (by omega), rdH_get out p (by omega), shBefore_eq]
   simp only [Option.bind_some]
   rw [hb, if_pos rfl]
  ·have hb' : hBefore (⟨a, b, c⟩ : S55) (out[p]'(by omega)) = false := Bool.eq_false_iff.2 hb
   refine Tot.step (h := fun k => spec_shSorted.l0 k (out.take (p + 1) ++ [(⟨a, b, c⟩ : S55)] ++ out.drop (p + 1)) l n (wrap64 (i + 1))) (fun k => ?_) (hk _ (by simp; omega))
   rw [spec_shSorted.l1, if_pos (by omega), e1, if_pos (by omega), if_pos (by omega), rdH_get out p (by omega), shBefore_eq]
   simp only [Option.bind_some]
   rw [hb', if_neg (by decide), if_pos (by omega), if_pos (by omega)]
   simp only [Int.toNat_natCast, List.nil_append]
   rw [if_pos (by simp; omega), if_pos (by simp; omega), if_pos (by simp; omega)]
theorem sorted_tot (l : List S55) (hl : l.length ≤ 100) (d : Nat) : ∀ (i : Nat) (out : List S55), i + d = l.length → out.length = i → Tot (fun k => spec_shSorted.l0 k out l l.length i) (fun r => r.1.length ≤ l.length) := by
 induction d with
 | zero =>
  intro i out hi ho
  refine Tot.step (h := fun k => (spec_shGood.f k out).bind fun t => if t = true then some (out, true) else some ([], false)) (fun k => by rw [spec_shSorted.l0, if_neg (by omega)]) ?_
  refine Tot.bind (Q := fun _ => True) (Tot.ge _ (fuelH 0 out.length) (fun k hk => shGood_eq out (by omega) k hk) trivial) (fun t _ => ?_)
  cases t with
  | true => exact Tot.now _ (fun k => if_pos rfl) (by simp; omega)
  | false => exact Tot.now _ (fun k => if_neg (by decide)) (by simp)
 | succ d ih =>
  intro i out hi ho
  refine Tot.step (h := fun k => spec_shSorted.l1 k out (out.length : Nat) l l.length i ((rd_T55 l i).f0) ((rd_T55 l i).f1) ((rd_T55 l i).f2)) (fun k => by rw [spec_shSorted.l0, if_pos (by omega), if_pos (by omega), if_pos (by omega)]) ?_
  refine place_tot out l (by omega) _ _ _ _ _ (fun o ho' => ?_) out.length (Nat.le_refl _)
  rw [w_next i (by omega)]
  exact ih (i + 1) o (by omega) (by omega)
theorem with_tot (l : List S55) (hl : l.length ≤ 90) (a b c : Int) : Tot (fun k => spec_shWith.f k l a b c) (fun r => r.1.length ≤ l.length + 1) := by
 refine Tot.congr (h := fun k => (spec_shSorted.f k (l ++ [(⟨a, b, c⟩ : S55)])).bind fun bt => some (bt.1, bt.2)) (fun k => ?_) ?_
 ·unfold spec_shWith.f
  simp only [Option.bind_some, List.nil_append]
  rw [if_pos (by simp; omega), if_pos (by simp; omega)]
 ·have hs : Tot (fun k => spec_shSorted.f k (l ++ [(⟨a, b, c⟩ : S55)])) (fun r => r.1.length ≤ (l ++ [(⟨a, b, c⟩ : S55)]).length) := sorted_tot (l ++ [(⟨a, b, c⟩ : S55)]) (by simp; omega) (l ++ [(⟨a, b, c⟩ : S55)]).length 0 [] (by omega) rfl
  exact Tot.bind hs (fun r hr => Tot.now _ (fun _ => rfl) (by simpa using hr))
theorem hole_ok (l : List Int) (hl : Bytes l) (a s : Int) (ha : 0 ≤ a ∧ a ≤ 800000) : ∃ t f e a' s', spec_l1Cur_hole.f l a s = some (t, f, e, a', s') ∧ a ≤ a' ∧ a' ≤ a + 12 := by
 unfold spec_l1Cur_hole.f
 obtain ⟨v1, a1, s1, e1, _, _, l1, u1⟩ := pick_ok l hl a s (by omega) 40
 rw [e1]; simp only [Option.bind_some]
 obtain ⟨v2, a2, s2, e2, _, _, l2, u2⟩ := pick_ok l hl a1 s1 (by omega) 60
 rw [e2]; simp only [Option.bind_some]
 obtain ⟨v3, a3, s3, e3, l3, u3⟩ := among_ok l hl a2 s2 (by omega) [0, 2, 5, v1, v2, 1990] (by simp)
 rw [e3]; simp only [Option.bind_some]
 obtain ⟨v4, a4, s4, e4, _, _, l4, u4⟩ := pick_ok l hl a3 s3 (by omega) 20
 rw [e4]; simp only [Option.bind_some]
 obtain ⟨v5, a5, s5, e5, l5, u5⟩ := among_ok l hl a4 s4 (by omega) [0, 1, 2, 3, 5, v4] (by simp)
 rw [e5]; simp only [Option.bind_some]
 obtain ⟨v6, a6, s6, e6, l6, u6⟩ := among_ok l hl a5 s5 (by omega) [1, 2, 3, 4, 10] (by simp)
 rw [e6]; simp only [Option.bind_some]
 exact ⟨_, _, _, a6, s6, rfl, by omega, by omega⟩
def CurIn (a : Int) (n : Int) (x : Int) : Prop := a ≤ x ∧ x ≤ a + n
theorem sheet0_tot (l : List Int) (hl : Bytes l) (d : Nat) : ∀ (x : List S55) (a s : Int), x.length + d = 60 → 0 ≤ a → a + 2 * d ≤ 800000 →
  Tot (fun k => spec_l1Cur_sheet.l0 k x l a s) (fun r => r.1.length ≤ 60 ∧ a ≤ r.2.1 ∧ r.2.1 ≤ a + 2 * d) := by
 induction d with
 | zero =>
  intro x a s hx h0 ha
  exact Tot.step (h := fun _ => some (x, a, s)) (fun k => by rw [spec_l1Cur_sheet.l0, if_neg (by omega)]) (Tot.now _ (fun _ => rfl) ⟨by simp only []; omega, by simp only []; omega, by simp only []; omega⟩)
 | succ d ih =>
  intro x a s hx h0 ha
  obtain ⟨v1, a1, s1, e1, _, _, l1, u1⟩ := pick_ok l hl a s (by omega) 5
  refine Tot.step (h := fun k => spec_l1Cur_sheet.l0 k (x ++ [_]) l a1 s1) (fun k => by rw [spec_l1Cur_sheet.l0, if_pos (by omega), e1]; simp only [Option.bind_some]; rw [if_pos (by omega)]) ?_
  exact Tot.weak (ih (x ++ [_]) a1 s1 (by simp; omega) (by omega) (by omega)) (fun r hr => ⟨hr.1, by omega, by omega⟩)
theorem sheet2_tot (l : List Int) (hl : Bytes l) (n : Int) (hn : n ≤ 60) (d : Nat) : ∀ (x : List S55) (i : Nat) (a s : Int), i + d = 60 → x.length ≤ 60 → 0 ≤ a → a + 12 * d ≤ 800000 →
  Tot (fun k => spec_l1Cur_sheet.l1 k x n i l a s) (fun r => r.1.length ≤ 60 ∧ a ≤ r.2.1 ∧ r.2.1 ≤ a + 12 * d) := by
 have out : ∀ (x : List S55) (i a s : Int) (m : Int), x.length ≤ 60 → 0 ≤ m → Tot (fun k => spec_l1Cur_sheet.j2 k x n i false l a s) (fun r => r.1.length ≤ 60 ∧ a ≤ r.2.1 ∧ r.2.1 ≤ a + m) := fun x i a s m hx hm =>
  Tot.step (h := fun _ => some (x, a, s)) (fun k => by rw [spec_l1Cur_sheet.j2, if_neg (by decide)]) (Tot.now _ (fun _ => rfl) ⟨hx, by simp only []; omega, by simp only []; omega⟩)
 induction d with
 | zero =>
  intro x i a s hi hx h0 ha
  by_cases h : (x.length : Int) < n
  ·exact Tot.step (h := fun k => spec_l1Cur_sheet.j2 k x n i false l a s) (fun k => by rw [spec_l1Cur_sheet.l1, if_pos h, decide_eq_false (by omega)]) (out x i a s _ hx (by omega))
  ·exact Tot.step (h := fun k => spec_l1Cur_sheet.j2 k x n i false l a s) (fun k => by rw [spec_l1Cur_sheet.l1, if_neg h]) (out x i a s _ hx (by omega))
 | succ d ih =>
  intro x i a s hi hx h0 ha
  by_cases h : (x.length : Int) < n
  ·refine Tot.step (h := fun k => spec_l1Cur_sheet.j2 k x n i true l a s) (fun k => by rw [spec_l1Cur_sheet.l1, if_pos h, decide_eq_true (by omega)]) ?_
   obtain ⟨t, f, e, a1, s1, e1, l1, u1⟩ := hole_ok l hl a s (by omega)
   refine Tot.step (h := fun k => (spec_shWith.f k x t f e).bind fun bt => if bt.2 = true then spec_l1Cur_sheet.l1 k bt.1 n ((i + 1 : Nat) : Int) l a1 s1 else spec_l1Cur_sheet.l1 k x n ((i + 1 : Nat) : Int) l a1 s1)
    (fun k => by rw [spec_l1Cur_sheet.j2, if_pos rfl, e1]; simp only [Option.bind_some]; rw [w_next i (by omega)]) ?_
   refine Tot.bind (with_tot x (by omega) t f e) (fun bt hb => ?_)
   by_cases h2 : bt.2 = true
   ·exact (Tot.congr (fun k => if_pos h2) (ih bt.1 (i + 1) a1 s1 (by omega) (by omega) (by omega) (by omega))).weak (fun r hr => ⟨hr.1, by omega, by omega⟩)
   ·exact (Tot.congr (fun k => if_neg h2) (ih x (i + 1) a1 s1 (by omega) hx (by omega) (by omega))).weak (fun r hr => ⟨hr.1, by omega, by omega⟩)
  ·exact Tot.step (h := fun k => spec_l1Cur_sheet.j2 k x n i false l a s) (fun k => by rw [spec_l1Cur_sheet.l1, if_neg h]) (out x i a s _ hx (by omega))
theorem sheet_tot (l : List Int) (hl : Bytes l) (a s : Int) (ha : 0 ≤ a ∧ a ≤ 700000) : Tot (fun k => spec_l1Cur_sheet.f k l a s) (fun r => r.1.length ≤ 60 ∧ a ≤ r.2.1 ∧ r.2.1 ≤ a + 1000) := by
 obtain ⟨v1, a1, s1, e1, l1, u1⟩ := one_ok l hl a s (by omega) 24
 by_cases h : v1 = true
 ·refine Tot.congr (h := fun k => spec_l1Cur_sheet.l0 k [] l a1 s1) (fun k => by unfold spec_l1Cur_sheet.f; rw [e1]; simp only [Option.bind_some]; rw [if_pos h]) ?_
  exact Tot.weak (sheet0_tot l hl 60 [] a1 s1 (by simp) (by omega) (by omega)) (fun r hr => ⟨hr.1, by omega, by omega⟩)
 ·obtain ⟨v2, a2, s2, e2, b0, b1, l2, u2⟩ := pick_ok l hl a1 s1 (by omega) 9
  refine Tot.congr (h := fun k => spec_l1Cur_sheet.l1 k [] v2 ((0 : Nat) : Int) l a2 s2) (fun k => by unfold spec_l1Cur_sheet.f; rw [e1]; simp only [Option.bind_some]; rw [if_neg h, e2]; rfl) ?_
  have b2 := b1 (by omega)
  exact (sheet2_tot l hl v2 (by omega) 60 [] 0 a2 s2 (by omega) (by simp) (by omega) (by omega)).weak (fun r hr => ⟨hr.1, by omega, by omega⟩)
theorem anyHole_ok (l : List Int) (hl : Bytes l) (a s : Int) (ha : 0 ≤ a ∧ a ≤ 700000) : ∃ t f e a' s', spec_l1Cur_anyHole.f l a s = some (t, f, e, a', s') ∧ a ≤ a' ∧ a' ≤ a + 20 := by
 unfold spec_l1Cur_anyHole.f
 obtain ⟨t, f, e, a1, s1, e1, l1, u1⟩ := hole_ok l hl a s (by omega)
 obtain ⟨v, a2, s2, e2, _, _, l2, u2⟩ := pick_ok l hl a1 s1 (by omega) 24
 rw [e1]; simp only [Option.bind_some]; rw [e2]; simp only [Option.bind_some]
 by_cases h0 : v = 0
 ·obtain ⟨w, a3, s3, e3, l3, u3⟩ := among_ok l hl a2 s2 (by omega) [-1, 19, 20] (by simp)
  rw [if_pos h0, e3]; exact ⟨_, _, _, a3, s3, rfl, by omega, by omega⟩
 ·rw [if_neg h0]
  by_cases h1 : v = 1
  ·obtain ⟨w, a3, s3, e3, l3, u3⟩ := among_ok l hl a2 s2 (by omega) [-1, e] (by simp)
   rw [if_pos h1, e3]; exact ⟨_, _, _, a3, s3, rfl, by omega, by omega⟩
  ·rw [if_neg h1]
   by_cases h2 : v = 2
   ·obtain ⟨w, a3, s3, e3, l3, u3⟩ := among_ok l hl a2 s2 (by omega) [f, 2000, 2001] (by simp)
    rw [if_pos h2, e3]; exact ⟨_, _, _, a3, s3, rfl, by omega, by omega⟩
   ·rw [if_neg h2]; exact ⟨_, _, _, a2, s2, rfl, by omega, by omega⟩
theorem any61_tot (l : List Int) (a s : Int) (d : Nat) : ∀ (x : List S55), x.length + d = 61 → Tot (fun k => spec_l1Cur_anySheet.l0 k x l a s) (fun r => r.1.length ≤ 61 ∧ a ≤ r.2.1 ∧ r.2.1 ≤ a) := by
 induction d with
 | zero =>
  intro x hx
  exact Tot.step (h := fun _ => some (x, a, s)) (fun k => by rw [spec_l1Cur_anySheet.l0, if_neg (by omega)]) (Tot.now _ (fun _ => rfl) ⟨by simp only []; omega, by simp only []; omega, by simp only []; omega⟩)
 | succ d ih =>
  intro x hx
  exact Tot.step (h := fun k => spec_l1Cur_anySheet.l0 k (x ++ [_]) l a s) (fun k => by rw [spec_l1Cur_anySheet.l0, if_pos (by omega), if_pos (by omega)]) (ih (x ++ [_]) (by simp; omega))
def ShOut (a n : Int) (r : List S55 × Int × Int) : Prop := r.1.length ≤ 61 ∧ a ≤ r.2.1 ∧ r.2.1 ≤ a + n
theorem anySheet_tot (l : List Int) (hl : Bytes l) (a s : Int) (ha : 0 ≤ a ∧ a ≤ 600000) : Tot (fun k => spec_l1Cur_anySheet.f k l a s) (ShOut a 1100) := by
 refine Tot.bind (sheet_tot l hl a s (by omega)) (fun bt hb => ?_)
 obtain ⟨x, a1, s1⟩ := bt
 simp only at hb
 by_cases h : (x.length : Int) > 0
 ·obtain ⟨v, a2, s2, e2, b0, b1, l2, u2⟩ := pick_ok l hl a1 s1 (by omega) (x.length : Int)
  obtain ⟨v3, a3, s3, e3, _, _, l3, u3⟩ := pick_ok l hl a2 s2 (by omega) 30
  have b2 := b1 (by omega)
  refine Tot.congr (h := fun k => if v3 = 0 then ((spec_l1Cur_anyHole.f l a3 s3).bind fun bt288 => (if 0 ≤ v then (if v < (x.length : Int) then (some ((x.set (v : Int).toNat (⟨bt288.1, bt288.2.1, bt288.2.2.1⟩ : S55)), bt288.2.2.2.1, bt288.2.2.2.2)) else (none)) else (none))) else (if v3 = 1 then (some ((x ++ [(⟨(rd_T55 x v).f0, (rd_T55 x v).f1, (rd_T55 x v).f2⟩ : S55)]), a3, s3)) else (if v3 = 2 then (some ((x ++ [(⟨(rd_T55 x v).f0, (rd_T55 x v).f2, wrap64 (((rd_T55 x v).f2) + 2)⟩ : S55)]), a3, s3)) else (if v3 = 3 then (spec_l1Cur_anySheet.l0 k ([] : List (S55)) l a3 s3) else (some (x, a3, s3)))))) (fun k => ?_) ?_
  ·dsimp only
   rw [if_pos h, e2]; simp only [Option.bind_some]; rw [e3]; simp only [Option.bind_some]
   simp only [if_pos b0, if_pos b2, if_pos (show x.length < 5864062014805 by omega)]
  ·by_cases c0 : v3 = 0
   ·obtain ⟨t, f, e, a4, s4, e4, l4, u4⟩ := anyHole_ok l hl a3 s3 (by omega)
    refine Tot.now (x.set (v : Int).toNat ⟨t, f, e⟩, a4, s4) (fun k => ?_) ⟨by simp only [List.length_set]; omega, by simp only []; omega, by simp only []; omega⟩
    rw [if_pos c0, e4]; simp only [Option.bind_some]; rw [if_pos b0, if_pos b2]
   ·by_cases c1 : v3 = 1
    ·exact Tot.now _ (fun k => (if_neg c0).trans (if_pos c1)) ⟨by simp only [List.length_append, List.length_cons, List.length_nil]; omega, by simp only []; omega, by simp only []; omega⟩
    ·by_cases c2 : v3 = 2
     ·exact Tot.now _ (fun k => (if_neg c0).trans ((if_neg c1).trans (if_pos c2))) ⟨by simp only [List.length_append, List.length_cons, List.length_nil]; omega, by simp only []; omega, by simp only []; omega⟩
     ·by_cases c3 : v3 = 3
      ·exact (Tot.congr (fun k => (if_neg c0).trans ((if_neg c1).trans ((if_neg c2).trans (if_pos c3)))) (any61_tot l a3 s3 61 [] (by simp))).weak (fun r hr => ⟨hr.1, by omega, by omega⟩)
      ·exact Tot.now _ (fun k => (if_neg c0).trans ((if_neg c1).trans ((if_neg c2).trans (if_neg c3)))) ⟨by simp only []; omega, by simp only []; omega, by simp only []; omega⟩
 ·exact Tot.now _ (fun k => if_neg h) ⟨by simp only []; omega, by simp only []; omega, by simp only []; omega⟩
def RowOK (ch : Int → Bool) (n : Nat) (s : ByteArray) : Bool := s.size == n && (cs s).all ch
def wid (l : List ByteArray) : Nat := (l.headD ByteArray.empty).size
def Grid (ch : Int → Bool) (least rows width : Nat) (l : List ByteArray) : Bool :=
 decide (least ≤ l.length) && decide (l.length ≤ rows) && decide (least ≤ wid l) && decide (wid l ≤ width) && l.all (RowOK ch (wid l))
def fuelR : List ByteArray → Nat
 | [] => 1
 | s :: r => s.size + 2 + fuelR r
theorem wid_get (l : List ByteArray) (h : 0 < l.length) : wid l = (l[0]'h).size := by
 cases l with
 | nil => simp at h
 | cons a r => rfl
theorem indexByte_found (l : List UInt8) (c : UInt8) : (Go.Lib.indexByte l c < 0) ↔ c ∉ l := by
 induction l with
 | nil => simp [Go.Lib.indexByte]
 | cons b r ih =>
  have hge : ∀ l : List UInt8, -1 ≤ Go.Lib.indexByte l c := by
   intro l
   induction l with
   | nil => simp [Go.Lib.indexByte]
   | cons b r ih => unfold Go.Lib.indexByte; split; omega; split <;> omega
  have hr := hge r
  unfold Go.Lib.indexByte
  by_cases h : b = c
  ·subst h; simp
  ·have h1 : (b == c) = false := by simpa using h
   have h2 : c ≠ b := fun e => h e.symm
   rw [h1]
   simp only [Bool.false_eq_true, if_false, List.mem_cons, not_or]
   by_cases h3 : Go.Lib.indexByte r c = -1
   ·have h4 : (Go.Lib.indexByte r c == -1) = true := by simpa using h3
    rw [h4]; simp only [if_true]
    exact ⟨fun _ => ⟨h2, ih.1 (by omega)⟩, fun _ => by omega⟩
   ·have h4 : (Go.Lib.indexByte r c == -1) = false := by simpa using h3
    rw [h4]; simp only [Bool.false_eq_true, if_false]
    exact ⟨fun h => by omega, fun h => absurd (ih.2 h.2) (by omega)⟩
def chS (c : Int) : Bool := c == 46 || c == 111 || c == 63
theorem scGood_row (x0 : List ByteArray) (s : ByteArray) (hs : s.size ≤ 1048576) (x6 : List ByteArray) (x7 x8 : Int) (d : Nat) : ∀ (k i : Nat), i + d = s.size →
  spec_scGood.l1 (k + d + 1) x0 s i x6 x7 x8 = if ((cs s).drop i).all chS then spec_scGood.l0 k x0 x6 x7 (wrap64 (x8 + 1)) else some false := by
 induction d with
 | zero =>
  intro k i hi
  rw [spec_scGood.l1, if_neg (by omega), List.drop_of_length_le (by rw [cs_length]; omega)]
  simp
 | succ d ih =>
  intro k i hi
  rw [spec_scGood.l1, if_pos (by omega), if_pos (by omega), bt_get s i (by omega), drop_get (cs s) i (by rw [cs_length]; omega), List.all_cons, w64 (by omega), show k + (d + 1) = k + d + 1 by omega, show ((i : Int) + 1) = ((i + 1 : Nat) : Int) by omega, ih k (i + 1) (by omega)]
  generalize (cs s)[i]'_ = c
  unfold chS
  by_cases h1 : c = 46
  ·simp [h1]
  ·by_cases h2 : c = 111
   ·simp [h2]
   ·by_cases h3 : c = 63
    ·simp [h3]
    ·simp [h1, h2, h3]
theorem scGood_loop (l : List ByteArray) (hl : l.length ≤ 1048576) (hs : ∀ s ∈ l, s.size ≤ 1048576) (d : Nat) : ∀ (k i : Nat), i + d = l.length → fuelR (l.drop i) ≤ k →
  spec_scGood.l0 k l l l.length i = if (l.drop i).all (RowOK chS (wid l)) then
   (if 1 ≤ l.length ∧ l.length ≤ 60 then (if 0 < (l.length : Int) then some (decide (1 ≤ wid l ∧ wid l ≤ 20)) else none) else some false) else some false := by
 induction d with
 | zero =>
  intro k i hi hk
  rw [List.drop_of_length_le (by omega)] at hk ⊢
  obtain ⟨k, rfl⟩ : ∃ j, k = j + 1 := ⟨k - 1, by unfold fuelR at hk; omega⟩
  rw [spec_scGood.l0, if_neg (by omega), in_eq]
  simp only [Option.bind_some, decide_eq_true_eq, List.all_nil, if_true]
  by_cases h0 : 0 < l.length
  ·rw [if_pos (show 0 < (l.length : Int) by omega), show ((0 : Int)) = ((0 : Nat) : Int) from rfl, rdB_get l 0 h0, in_eq, wid_get l h0]
   simp only [Option.bind_some]
   split
   ·rw [if_pos (by omega), if_pos (by omega)]; exact someD (by omega)
   ·rw [if_neg (by omega)]
  ·rw [if_neg (by omega), if_neg (by omega)]
 | succ d ih =>
  intro k i hi hk
  have hx : l[i].size ≤ 1048576 := hs _ (List.getElem_mem _)
  rw [drop_get l i (by omega)] at hk ⊢
  unfold fuelR at hk
  obtain ⟨j, hj⟩ : ∃ j, k = j + l[i].size + 1 + 1 := ⟨k - l[i].size - 2, by omega⟩
  rw [hj]
  have h0 : 0 < l.length := by omega
  rw [spec_scGood.l0, if_pos (by omega), if_pos (by omega), if_pos (by omega), if_pos (by omega), rdB_get l i (by omega)]
  rw [show rdOf ByteArray.empty l 0 = l[0] from rdB_get l 0 h0, ← wid_get l h0, List.all_cons]
  by_cases h1 : (l[i].size : Int) = (wid l : Int)
  ·have h1' : (l[i].size == wid l) = true := by simp; omega
   rw [if_pos h1, show (0 : Int) = ((0 : Nat) : Int) from rfl, scGood_row l l[i] hx l _ _ l[i].size j 0 (by omega), List.drop_zero, w64 (by omega), show ((i : Int) + 1) = ((i + 1 : Nat) : Int) by omega, ih j (i + 1) (by omega) (by omega)]
   unfold RowOK
   rw [h1', Bool.true_and]
   by_cases h2 : (cs l[i]).all chS = true
   ·rw [if_pos h2, h2, Bool.true_and]
    rfl
   ·rw [if_neg h2, Bool.eq_false_iff.2 h2, Bool.false_and, if_neg (by decide)]
  ·have h1' : (l[i].size == wid l) = false := by simp; omega
   rw [if_neg h1]
   unfold RowOK
   rw [h1', Bool.false_and, Bool.false_and, if_neg (by decide)]
theorem scGood_eq (l : List ByteArray) (hl : l.length ≤ 1048576) (hs : ∀ s ∈ l, s.size ≤ 1048576) (k : Nat) (hk : fuelR l ≤ k) : spec_scGood.f k l = some (Grid chS 1 60 20 l) := by
 unfold spec_scGood.f
 have := scGood_loop l hl hs l.length k 0 (by omega) (by simpa using hk)
 rw [List.drop_zero] at this
 rw [show (0 : Int) = ((0 : Nat) : Int) from rfl, this]
 unfold Grid
 by_cases h : l.all (RowOK chS (wid l)) = true
 ·rw [if_pos h, h, Bool.and_true]
  by_cases h1 : 1 ≤ l.length ∧ l.length ≤ 60
  ·rw [if_pos h1, if_pos (by omega), decide_eq_true h1.1, decide_eq_true h1.2]
   by_cases h2 : 1 ≤ wid l <;> by_cases h3 : wid l ≤ 20 <;> simp [h2, h3]
  ·rw [if_neg h1]
   by_cases h2 : 1 ≤ l.length <;> by_cases h3 : l.length ≤ 60
   ·exact absurd ⟨h2, h3⟩ h1
   all_goals simp [h2, h3]
 ·rw [if_neg h, Bool.eq_false_iff.2 h, Bool.and_false]
def chIn (chars : ByteArray) (c : Int) : Bool := decide (c.toNat.toUInt8 ∈ chars.data.toList)
theorem isGrid_row (x0 : List ByteArray) (ch s : ByteArray) (hs : s.size ≤ 1048576) (x40 : List ByteArray) (x41 x42 : Int) (d : Nat) : ∀ (k i : Nat), i + d = s.size →
  impl_isGridOf.l1 (k + d + 1) x0 ch s i x40 x41 x42 = if ((cs s).drop i).all (chIn ch) then impl_isGridOf.l0 k x0 ch x40 x41 (wrap64 (x42 + 1)) else some false := by
 induction d with
 | zero =>
  intro k i hi
  rw [impl_isGridOf.l1, if_neg (by omega), List.drop_of_length_le (by rw [cs_length]; omega)]
  simp
 | succ d ih =>
  intro k i hi
  rw [impl_isGridOf.l1, if_pos (by omega), if_pos (by omega), bt_get s i (by omega), drop_get (cs s) i (by rw [cs_length]; omega), List.all_cons, w64 (by omega), show k + (d + 1) = k + d + 1 by omega, show ((i : Int) + 1) = ((i + 1 : Nat) : Int) by omega, ih k (i + 1) (by omega)]
  generalize (cs s)[i]'_ = c
  unfold strings_IndexByte.f chIn
  simp only [Option.bind_some]
  have hf := indexByte_found ch.data.toList c.toNat.toUInt8
  by_cases h : c.toNat.toUInt8 ∈ ch.data.toList
  ·rw [if_neg (fun h' => hf.1 h' h), decide_eq_true h, Bool.true_and]
  ·rw [if_pos (hf.2 h), decide_eq_false h, Bool.false_and, if_neg (by decide)]
theorem isGrid_loop (l : List ByteArray) (ch : ByteArray) (hl : l.length ≤ 1048576) (hs : ∀ s ∈ l, s.size ≤ 1048576) (d : Nat) : ∀ (k i : Nat), i + d = l.length → fuelR (l.drop i) ≤ k →
  impl_isGridOf.l0 k l ch l l.length i = some ((l.drop i).all (RowOK (chIn ch) (wid l))) := by
 induction d with
 | zero =>
  intro k i hi hk
  rw [List.drop_of_length_le (by omega)] at hk ⊢
  obtain ⟨k, rfl⟩ : ∃ j, k = j + 1 := ⟨k - 1, by unfold fuelR at hk; omega⟩
  rw [impl_isGridOf.l0, if_neg (by omega)]
  rfl
 | succ d ih =>
  intro k i hi hk
  have hx : l[i].size ≤ 1048576 := hs _ (List.getElem_mem _)
  rw [drop_get l i (by omega)] at hk ⊢
  unfold fuelR at hk
  obtain ⟨j, hj⟩ : ∃ j, k = j + l[i].size + 1 + 1 := ⟨k - l[i].size - 2, by omega⟩
  rw [hj]
  have h0 : 0 < l.length := by omega
  rw [impl_isGridOf.l0, if_pos (by omega), if_pos (by omega), if_pos (by omega), if_pos (by omega), rdB_get l i (by omega)]
  rw [show rdOf ByteArray.empty l 0 = l[0] from rdB_get l 0 h0, ← wid_get l h0, List.all_cons]
  by_cases h1 : (l[i].size : Int) = (wid l : Int)
  ·have h1' : (l[i].size == wid l) = true := by simp; omega
   rw [if_pos h1, show (0 : Int) = ((0 : Nat) : Int) from rfl, isGrid_row l ch l[i] hx l _ _ l[i].size j 0 (by omega), List.drop_zero, w64 (by omega), show ((i : Int) + 1) = ((i + 1 : Nat) : Int) by omega, ih j (i + 1) (by omega) (by omega)]
   unfold RowOK
   rw [h1', Bool.true_and]
   by_cases h2 : (cs l[i]).all (chIn ch) = true
   ·rw [if_pos h2, h2, Bool.true_and]
   ·rw [if_neg h2, Bool.eq_false_iff.2 h2, Bool.false_and]
  ·have h1' : (l[i].size == wid l) = false := by simp; omega
   rw [if_neg h1]
   unfold RowOK
   rw [h1', Bool.false_and, Bool.false_and]
theorem isGrid_eq (l : List ByteArray) (hl : l.length ≤ 1048576) (hs : ∀ s ∈ l, s.size ≤ 1048576) (least rows width : Nat) (h1 : 1 ≤ least) (ch : ByteArray) (k : Nat) (hk : fuelR l < k) :
  impl_isGridOf.f k l least rows width ch = some (Grid (chIn ch) least rows width l) := by
 obtain ⟨k, rfl⟩ : ∃ j, k = j + 1 := ⟨k - 1, by omega⟩
 unfold impl_isGridOf.f Grid
 simp only [impl_isGridOf.j0, if_true]
 by_cases h2 : least ≤ l.length
 ·by_cases h3 : l.length ≤ rows
  ·have h0 : 0 < l.length := by omega
   rw [if_neg (by omega), if_neg (by omega), if_pos (by omega), show rdOf ByteArray.empty l 0 = l[0] from rdB_get l 0 h0, ← wid_get l h0, decide_eq_true h2, decide_eq_true h3]
   by_cases h4 : least ≤ wid l
   ·rw [if_neg (by omega), decide_eq_true h4]
    by_cases h5 : wid l ≤ width
    ·have := isGrid_loop l ch hl hs l.length k 0 (by omega) (by simpa using (by omega : fuelR l ≤ k))
     rw [List.drop_zero] at this
     rw [if_neg (by simp; omega), decide_eq_true h5, show (0 : Int) = ((0 : Nat) : Int) from rfl, this]
     simp
    ·rw [if_pos (by simp; omega), decide_eq_false h5]; simp
   ·rw [if_pos (by omega), decide_eq_false h4]; simp
  ·rw [if_neg (by omega), if_pos (by omega), decide_eq_false h3]; simp
 ·rw [if_pos (by omega), decide_eq_false h2]; simp
theorem chIn_scan (c : Int) (hc : 0 ≤ c ∧ c ≤ 255) : chIn ⟨#[46, 111, 63]⟩ c = chS c := by
 unfold chIn chS
 obtain ⟨n, rfl⟩ : ∃ n : Nat, c = n := ⟨c.toNat, by omega⟩
 have hn : n < 256 := by omega
 rw [Int.toNat_natCast]
 have key : ∀ m : Fin 256, decide (m.val.toUInt8 ∈ [(46 : UInt8), 111, 63]) = ((m.val : Int) == 46 || (m.val : Int) == 111 || (m.val : Int) == 63) := by decide +kernel
 exact key ⟨n, hn⟩
theorem cs_range (s : ByteArray) : ∀ c ∈ cs s, 0 ≤ c ∧ c ≤ 255 := by
 intro c hc
 unfold cs bytesOf at hc
 obtain ⟨b, _, rfl⟩ := List.mem_map.1 hc
 have := b.toNat_lt
 omega
theorem all_congr' {α : Type} (l : List α) (p q : α → Bool) (h : ∀ x ∈ l, p x = q x) : l.all p = l.all q := by
 induction l with
 | nil => rfl
 | cons a r ih => rw [List.all_cons, List.all_cons, h a (by simp), ih (fun x hx => h x (List.mem_cons_of_mem _ hx))]
theorem rowOK_scan (n : Nat) (s : ByteArray) : RowOK (chIn ⟨#[46, 111, 63]⟩) n s = RowOK chS n s := by
 unfold RowOK
 rw [all_congr' _ _ _ (fun c hc => chIn_scan c (cs_range s c hc))]
theorem grid_scan (least rows width : Nat) (l : List ByteArray) : Grid (chIn ⟨#[46, 111, 63]⟩) least rows width l = Grid chS least rows width l := by
 unfold Grid
 rw [all_congr' _ _ _ (fun s _ => rowOK_scan (wid l) s)]
theorem grid_facts {ch : Int → Bool} {least rows width : Nat} {l : List ByteArray} (h : Grid ch least rows width l = true) :
  least ≤ l.length ∧ l.length ≤ rows ∧ least ≤ wid l ∧ wid l ≤ width ∧ ∀ s ∈ l, s.size = wid l ∧ ∀ c ∈ cs s, ch c = true := by
 unfold Grid at h
 simp only [Bool.and_eq_true, decide_eq_true_eq, List.all_eq_true] at h
 obtain ⟨⟨⟨⟨h1, h2⟩, h3⟩, h4⟩, h5⟩ := h
 refine ⟨h1, h2, h3, h4, fun s hs => ?_⟩
 have := h5 s hs
 unfold RowOK at this
 simp only [Bool.and_eq_true, beq_iff_eq, List.all_eq_true] at this
 exact this
theorem chS_cases {c : Int} (h : chS c = true) : c = 46 ∨ c = 111 ∨ c = 63 := by
 unfold chS at h
 simp only [Bool.or_eq_true, beq_iff_eq] at h
 omega
theorem fuelR_bound (l : List ByteArray) (n : Nat) (h : ∀ s ∈ l, s.size ≤ n) : fuelR l ≤ l.length * (n + 2) + 1 := by
 induction l with
 | nil => simp [fuelR]
 | cons s r ih =>
  have h1 := ih (fun x hx => h x (List.mem_cons_of_mem _ hx))
  have h2 := h s (by simp)
  unfold fuelR
  rw [List.length_cons, Nat.add_mul]
  omega
def cnt (m : Int) (l : List Int) : Int := (l.countP (fun c => c == m) : Nat)
theorem cnt_cons (m c : Int) (l : List Int) : cnt m (c :: l) = (if c = m then 1 else 0) + cnt m l := by
 unfold cnt
 rw [List.countP_cons]
 by_cases h : c = m
 ·simp [h]; omega
 ·simp [h]
theorem cnt_bounds (m : Int) (l : List Int) : 0 ≤ cnt m l ∧ cnt m l ≤ l.length := by
 unfold cnt
 have := List.countP_le_length (p := fun c => c == m) (l := l)
 omega
theorem cnt_append (m : Int) (a b : List Int) : cnt m (a ++ b) = cnt m a + cnt m b := by
 unfold cnt; rw [List.countP_append]; omega
def rowFaults : List Int → List Int → Int
 | x :: xs, y :: ys => (if x = y then 0 else if x = 63 then 0 else if y = 63 then 0 else 1) + rowFaults xs ys
 | _, _ => 0
def faults : List ByteArray → List ByteArray → Int
 | s :: r, t :: q => rowFaults (cs s) (cs t) + faults r q
 | _, _ => 0
theorem rowFaults_bounds (a b : List Int) : 0 ≤ rowFaults a b ∧ rowFaults a b ≤ a.length := by
 induction a generalizing b with
 | nil => simp [rowFaults]
 | cons x xs ih =>
  cases b with
  | nil => simp [rowFaults]; omega
  | cons y ys =>
   have := ih ys
   rw [rowFaults, List.length_cons]
   repeat' split
   all_goals omega
theorem faults_bounds (a b : List ByteArray) (n : Nat) (h : ∀ s ∈ a, s.size ≤ n) : 0 ≤ faults a b ∧ faults a b ≤ a.length * n := by
 induction a generalizing b with
 | nil => simp [faults]
 | cons s r ih =>
  cases b with
  | nil => simp only [faults, Int.le_refl, true_and]; exact Int.mul_nonneg (by omega) (by omega)
  | cons t q =>
   have h1 := ih q (fun x hx => h x (List.mem_cons_of_mem _ hx))
   have h2 := h s (by simp)
   have h3 := rowFaults_bounds (cs s) (cs t)
   rw [cs_length] at h3
   rw [faults, List.length_cons, show (((r.length + 1 : Nat) : Int) * (n : Int)) = (r.length : Int) * n + n by rw [Int.natCast_add, Int.add_mul]; simp]
   omega
theorem implFaults_row (a b : List ByteArray) (r : Nat) (hr : r < a.length) (hb : b.length = a.length) (hs : a[r].size ≤ 1000) (ht : (b[r]'(by omega)).size = a[r].size) (x9 x10 : Int) (d : Nat) : ∀ (k i : Nat) (n : Int), i + d = a[r].size → 0 ≤ n ∧ n + d ≤ 1000000000 →
  impl_scanFaults.l1 (k + d + 1) a b n r x9 x10 a[r].size i = impl_scanFaults.l0 k a b (n + rowFaults ((cs a[r]).drop i) ((cs (b[r]'(by omega))).drop i)) x9 (wrap64 (x10 + 1)) := by
 induction d with
 | zero =>
  intro k i n hi hn
  rw [impl_scanFaults.l1, if_neg (by omega), List.drop_of_length_le (by rw [cs_length]; omega)]
  simp [rowFaults]
 | succ d ih =>
  intro k i n hi hn
  rw [impl_scanFaults.l1, if_pos (by omega), if_pos (by omega), if_pos (by omega), if_pos (by omega), rdB_get a r hr, rdB_get b r (by omega), if_pos (by omega), if_pos (by omega), if_pos (by omega), bt_get a[r] i (by omega), bt_get (b[r]'(by omega)) i (by omega), drop_get (cs a[r]) i (by rw [cs_length]; omega), drop_get (cs (b[r]'(by omega))) i (by rw [cs_length]; omega), rowFaults, w64 (x := (i : Int) + 1) (by omega), show k + (d + 1) = k + d + 1 by omega, show ((i : Int) + 1) = ((i + 1 : Nat) : Int) by omega]
  split
  ·rw [ih k (i + 1) n (by omega) (by omega), Int.zero_add]
  ·split
   ·rw [ih k (i + 1) n (by omega) (by omega), Int.zero_add]
   ·split
    ·rw [ih k (i + 1) n (by omega) (by omega), Int.zero_add]
    ·rw [w64 (by omega), ih k (i + 1) (n + 1) (by omega) (by omega), Int.add_assoc]
theorem implFaults_loop (a b : List ByteArray) (ha : a.length ≤ 1000) (hab : b.length = a.length) (hs : ∀ i (h : i < a.length), a[i].size ≤ 1000 ∧ (b[i]'(by omega)).size = a[i].size) (d : Nat) :
  ∀ (k i : Nat) (n : Int), i + d = a.length → fuelR (a.drop i) ≤ k → 0 ≤ n ∧ n + 1000 * d ≤ 100000000 →
  impl_scanFaults.l0 k a b n a.length i = some (n + faults (a.drop i) (b.drop i)) := by
 induction d with
 | zero =>
  intro k i n hi hk hn
  rw [List.drop_of_length_le (by omega)] at hk ⊢
  obtain ⟨k, rfl⟩ : ∃ j, k = j + 1 := ⟨k - 1, by unfold fuelR at hk; omega⟩
  rw [impl_scanFaults.l0, if_neg (by omega)]
  simp [faults]
 | succ d ih =>
  intro k i n hi hk hn
  obtain ⟨h1, h2⟩ := hs i (by omega)
  rw [drop_get a i (by omega)] at hk ⊢
  unfold fuelR at hk
  obtain ⟨j, hj⟩ : ∃ j, k = j + a[i].size + 1 + 1 := ⟨k - a[i].size - 2, by omega⟩
  have hb := rowFaults_bounds (cs a[i]) (cs (b[i]'(by omega)))
  rw [cs_length] at hb
  rw [hj, impl_scanFaults.l0, if_pos (by omega), if_pos (by omega), if_pos (by omega), rdB_get a i (by omega), drop_get b i (by omega), faults, show (0 : Int) = ((0 : Nat) : Int) from rfl, implFaults_row a b i (by omega) hab h1 h2 a.length i a[i].size j 0 n (by omega) (by omega), List.drop_zero, List.drop_zero, w64 (by omega), show ((i : Int) + 1) = ((i + 1 : Nat) : Int) by omega, ih j (i + 1) _ (by omega) (by omega) (by omega), Int.add_assoc]
theorem implFaults_eq (a b : List ByteArray) (ha : a.length ≤ 1000) (hab : b.length = a.length) (hs : ∀ i (h : i < a.length), a[i].size ≤ 1000 ∧ (b[i]'(by omega)).size = a[i].size) (k : Nat) (hk : fuelR a ≤ k) :
  impl_scanFaults.f k a b = some (faults a b) := by
 unfold impl_scanFaults.f
 have := implFaults_loop a b ha hab hs a.length k 0 0 (by omega) (by simpa using hk) (by omega)
 rw [List.drop_zero, List.drop_zero, Int.zero_add] at this
 exact this
theorem isScan_eq (l : List ByteArray) (hl : l.length ≤ 1048576) (hs : ∀ s ∈ l, s.size ≤ 1048576) (k : Nat) (hk : fuelR l < k) : impl_IsScan.f k l = some (Grid chS 1 60 20 l) := by
 unfold impl_IsScan.f
 rw [show (1 : Int) = ((1 : Nat) : Int) from rfl, show (60 : Int) = ((60 : Nat) : Int) from rfl, show (20 : Int) = ((20 : Nat) : Int) from rfl, isGrid_eq l hl hs 1 60 20 (by omega) _ _ hk, grid_scan]
 rfl
def total (m : Int) (l : List ByteArray) : Int := match l with
 | [] => 0
 | s :: r => cnt m (cs s) + total m r
theorem stains_row (s : ByteArray) (hs : s.size ≤ 1000) (x11 : List ByteArray) (x12 x13 : Int) (d : Nat) : ∀ (k i : Nat) (n : Int), i + d = s.size → 0 ≤ n ∧ n + d ≤ 1000000 →
  spec_CountStains.l1 (k + d + 1) n s i x11 x12 x13 = spec_CountStains.l0 k (n + cnt 63 ((cs s).drop i)) x11 x12 (wrap64 (x13 + 1)) := by
 induction d with
 | zero =>
  intro k i n hi hn
  rw [spec_CountStains.l1, if_neg (by omega), List.drop_of_length_le (by rw [cs_length]; omega), show cnt 63 [] = 0 from rfl, Int.add_zero]
 | succ d ih =>
  intro k i n hi hn
  rw [spec_CountStains.l1, if_pos (by omega), if_pos (by omega), bt_get s i (by omega), drop_get (cs s) i (by rw [cs_length]; omega), cnt_cons, w64 (x := n + 1) (by omega), w64 (by omega), show k + (d + 1) = k + d + 1 by omega, show ((i : Int) + 1) = ((i + 1 : Nat) : Int) by omega]
  have hb := cnt_bounds 63 ((cs s).drop (i + 1))
  by_cases h : (cs s)[i]'(by rw [cs_length]; omega) = 63
  ·rw [if_pos h, if_pos h]
   rw [ih k (i + 1) (n + 1) (by omega) (by omega), show n + 1 + cnt 63 ((cs s).drop (i + 1)) = n + (1 + cnt 63 ((cs s).drop (i + 1))) by omega]
  ·rw [if_neg h, if_neg h, ih k (i + 1) n (by omega) (by omega), Int.zero_add]
theorem stains_loop (l : List ByteArray) (hs : ∀ s ∈ l, s.size ≤ 20) (hl : l.length ≤ 60) (d : Nat) : ∀ (k i : Nat) (n : Int), i + d = l.length → fuelR (l.drop i) ≤ k → 0 ≤ n ∧ n + 20 * d ≤ 1200 →
  spec_CountStains.l0 k n l l.length i = some (n + total 63 (l.drop i), true) := by
 induction d with
 | zero =>
  intro k i n hi hk hn
  rw [List.drop_of_length_le (by omega)] at hk ⊢
  obtain ⟨k, rfl⟩ : ∃ j, k = j + 1 := ⟨k - 1, by unfold fuelR at hk; omega⟩
  rw [spec_CountStains.l0, if_neg (by omega), show total 63 [] = 0 from rfl, Int.add_zero]
 | succ d ih =>
  intro k i n hi hk hn
  have hx : l[i].size ≤ 20 := hs _ (List.getElem_mem _)
  rw [drop_get l i (by omega)] at hk ⊢
  unfold fuelR at hk
  obtain ⟨j, hj⟩ : ∃ j, k = j + l[i].size + 1 + 1 := ⟨k - l[i].size - 2, by omega⟩
  have hb := cnt_bounds 63 (cs l[i])
  rw [cs_length] at hb
  rw [hj, spec_CountStains.l0, if_pos (by omega), if_pos (by omega), if_pos (by omega), rdB_get l i (by omega), show (0 : Int) = ((0 : Nat) : Int) from rfl, stains_row l[i] (by omega) l _ _ l[i].size j 0 n (by omega) (by omega), List.drop_zero, w64 (by omega), show ((i : Int) + 1) = ((i + 1 : Nat) : Int) by omega, ih j (i + 1) _ (by omega) (by omega) (by omega), show total 63 (l[i] :: l.drop (i + 1)) = cnt 63 (cs l[i]) + total 63 (l.drop (i + 1)) from rfl, Int.add_assoc]
theorem countByte_eq (s : ByteArray) : ((Go.Lib.countByte s.data.toList 63 : Nat) : Int) = cnt 63 (cs s) := by
 unfold cs bytesOf Go.Lib.countByte cnt
 generalize s.data.toList = x
 induction x with
 | nil => rfl
 | cons b r ih =>
  rw [List.map_cons, List.countP_cons, List.count_cons]
  have hb : (b == 63) = (((b.toNat : Nat) : Int) == 63) := by
   have key : ∀ m : Fin 256, (UInt8.ofNat m.val == 63) = (((m.val : Nat) : Int) == 63) := by decide +kernel
   have := key ⟨b.toNat, b.toNat_lt⟩
   simpa using this
  rw [← hb]
  simp only [Int.natCast_add]
  rw [ih]
theorem countChar_loop (l : List ByteArray) (hs : ∀ s ∈ l, s.size ≤ 20) (hl : l.length ≤ 60) (d : Nat) : ∀ (k i : Nat) (n : Int), i + d = l.length → d < k → 0 ≤ n ∧ n + 20 * d ≤ 1200 →
  impl_countChar.l0 k (⟨#[63]⟩ : ByteArray) n l l.length i = some (n + total 63 (l.drop i)) := by
 induction d with
 | zero =>
  intro k i n hi hk hn
  obtain ⟨k, rfl⟩ : ∃ j, k = j + 1 := ⟨k - 1, by omega⟩
  rw [List.drop_of_length_le (by omega)]
  rw [impl_countChar.l0, if_neg (by omega), show total 63 [] = 0 from rfl, Int.add_zero]
 | succ d ih =>
  intro k i n hi hk hn
  obtain ⟨k, rfl⟩ : ∃ j, k = j + 1 := ⟨k - 1, by omega⟩
  have hx : l[i].size ≤ 20 := hs _ (List.getElem_mem _)
  have hb := cnt_bounds 63 (cs l[i])
  rw [cs_length] at hb
  have hc : strings_Count.f l[i] (⟨#[63]⟩ : ByteArray) = some (cnt 63 (cs l[i])) := by
   rw [← countByte_eq]; rfl
  rw [drop_get l i (by omega), impl_countChar.l0, if_pos (by omega), if_pos (by omega), if_pos (by omega), rdB_get l i (by omega), hc]
  simp only [Option.bind_some]
  rw [w64 (x := n + _) (by omega), w64 (by omega), show ((i : Int) + 1) = ((i + 1 : Nat) : Int) by omega, ih k (i + 1) _ (by omega) (by omega) (by omega), show total 63 (l[i] :: l.drop (i + 1)) = cnt 63 (cs l[i]) + total 63 (l.drop (i + 1)) from rfl, Int.add_assoc]
theorem countStains_eq (l : List ByteArray) (hl : l.length ≤ 1048576) (hs : ∀ s ∈ l, s.size ≤ 1048576) (k : Nat) (hk : fuelR l + 70 ≤ k) :
  spec_CountStains.f k l = some (if Grid chS 1 60 20 l then (total 63 l, true) else (0, false)) ∧ impl_CountStains.f k l = some (if Grid chS 1 60 20 l then (total 63 l, true) else (0, false)) := by
 unfold spec_CountStains.f impl_CountStains.f
 rw [scGood_eq l hl hs k (by omega), isScan_eq l hl hs k (by omega)]
 simp only [Option.bind_some]
 by_cases hg : Grid chS 1 60 20 l = true
 ·obtain ⟨g1, g2, g3, g4, g5⟩ := grid_facts hg
  have hs' : ∀ s ∈ l, s.size ≤ 20 := fun s h => by have := (g5 s h).1; omega
  rw [if_pos hg, if_pos hg, if_pos hg]
  have e1 := stains_loop l hs' (by omega) l.length k 0 0 (by omega) (by rw [List.drop_zero]; omega) (by omega)
  have e2 := countChar_loop l hs' (by omega) l.length k 0 0 (by omega) (by omega) (by omega)
  rw [List.drop_zero, Int.zero_add] at e1 e2
  unfold impl_countChar.f
  refine ⟨e1, ?_⟩
  rw [show (0 : Int) = ((0 : Nat) : Int) from rfl] at e2 ⊢
  rw [e2]
  rfl
 ·rw [if_neg hg, if_neg hg, if_neg hg]
  exact ⟨rfl, rfl⟩
def Two (a b : List ByteArray) : Bool := Grid chS 1 60 20 a && Grid chS 1 60 20 b && decide (a.length = b.length) && decide (wid a = wid b)
theorem two_facts {a b : List ByteArray} (h : Two a b = true) : Grid chS 1 60 20 a = true ∧ Grid chS 1 60 20 b = true ∧ a.length = b.length ∧ wid a = wid b := by
 unfold Two at h
 simp only [Bool.and_eq_true, decide_eq_true_eq] at h
 exact ⟨h.1.1.1, h.1.1.2, h.1.2, h.2⟩
theorem two_sizes {a b : List ByteArray} (h : Two a b = true) : a.length ≤ 60 ∧ b.length = a.length ∧ ∀ i (hi : i < a.length), a[i].size ≤ 20 ∧ (b[i]'(by have := (two_facts h).2.2.1; omega)).size = a[i].size := by
 obtain ⟨h1, h2, h3, h4⟩ := two_facts h
 obtain ⟨a1, a2, a3, a4, a5⟩ := grid_facts h1
 obtain ⟨b1, b2, b3, b4, b5⟩ := grid_facts h2
 refine ⟨a2, h3.symm, fun i hi => ?_⟩
 have e1 := (a5 _ (List.getElem_mem hi)).1
 have e2 := (b5 _ (List.getElem_mem (show i < b.length by omega))).1
 omega
theorem sameSize_eq (a b : List ByteArray) (ha : a.length ≤ 1048576) (hsa : ∀ s ∈ a, s.size ≤ 1048576) (hb : b.length ≤ 1048576) (hsb : ∀ s ∈ b, s.size ≤ 1048576) (k : Nat) (hk : fuelR a < k ∧ fuelR b < k) : impl_sameSize.f k a b = some (Two a b) := by
 unfold impl_sameSize.f Two
 rw [isScan_eq a ha hsa _ (by omega), isScan_eq b hb hsb _ (by omega)]
 simp only [Option.bind_some]
 by_cases h1 : Grid chS 1 60 20 a = true
 ·by_cases h2 : Grid chS 1 60 20 b = true
  ·have a1 := (grid_facts h1).1
   have b1 := (grid_facts h2).1
   rw [if_pos h1, if_pos h2, h1, h2, show rdOf ByteArray.empty a 0 = a[0] from rdB_get a 0 (by omega), show rdOf ByteArray.empty b 0 = b[0] from rdB_get b 0 (by omega), ← wid_get a (by omega), ← wid_get b (by omega)]
   by_cases h3 : a.length = b.length
   ·rw [if_pos (by omega), if_pos (by omega), if_pos (by omega), decide_eq_true h3]
    by_cases h4 : wid a = wid b
    ·simp [h4]
    ·have : ((wid a : Int) == (wid b : Int)) = false := by simp; omega
     rw [this, decide_eq_false h4]; rfl
   ·rw [if_neg (by omega), decide_eq_false h3]; rfl
  ·rw [if_pos h1, if_neg h2, h1, Bool.eq_false_iff.2 h2]; rfl
 ·rw [if_neg h1, Bool.eq_false_iff.2 h1]; rfl
theorem w_succ (c : Nat) (h : c ≤ 1000000) : wrap64 ((c : Int) + 1) = ((c + 1 : Nat) : Int) := by rw [w64 (by omega)]; omega
theorem w_pred (n : Nat) (h : n ≤ 1000000) : wrap64 ((n : Int) - 1) = (n : Int) - 1 := w64 (by omega)
def dRow (f : Nat → Int) (n : Nat) : ByteArray := strOfNums ((List.range n).map f)
def dRows (g : Nat → Nat → Int) (R n : Nat) : List ByteArray := (List.range R).map fun r => dRow (g r) n
theorem strN_append (a b : List Int) : strOfNums (a ++ b) = strOfNums a ++ strOfNums b := by
 unfold strOfNums
 apply ByteArray.ext
 simp
theorem dRow_succ (f : Nat → Int) (n : Nat) : dRow f (n + 1) = dRow f n ++ strOfNums [f n] := by
 unfold dRow
 rw [List.range_succ, List.map_append, strN_append]
 rfl
theorem dRow_zero (f : Nat → Int) : dRow f 0 = ⟨#[]⟩ := rfl
theorem dRow_size (f : Nat → Int) (n : Nat) : (dRow f n).size = n := by
 unfold dRow strOfNums
 show (List.map _ ((List.range n).map f)).toArray.size = n
 simp
theorem dRows_succ (g : Nat → Nat → Int) (R n : Nat) : dRows g (R + 1) n = dRows g R n ++ [dRow (g R) n] := by
 unfold dRows
 rw [List.range_succ, List.map_append]
 rfl
theorem dRows_length (g : Nat → Nat → Int) (R n : Nat) : (dRows g R n).length = R := by simp [dRows]
theorem dRow_congr (f h : Nat → Int) (n : Nat) (e : ∀ c, c < n → f c = h c) : dRow f n = dRow h n := by
 unfold dRow
 congr 1
 apply List.map_congr_left
 intro c hc
 exact e c (List.mem_range.1 hc)
theorem dRows_congr (g h : Nat → Nat → Int) (R n : Nat) (e : ∀ r c, r < R → c < n → g r c = h r c) : dRows g R n = dRows h R n := by
 unfold dRows
 apply List.map_congr_left
 intro r hr
 exact dRow_congr _ _ _ (fun c hc => e r c (List.mem_range.1 hr) hc)
theorem extract_one (s : ByteArray) (i : Nat) (h : i < s.size) : s.extract i (i + 1) = strOfNums [bt s i] := by
 rw [bt_get s i h]
 have hd : i < s.data.toList.length := by rw [data_length]; exact h
 apply ByteArray.ext
 apply Array.ext'
 unfold strOfNums cs bytesOf
 simp only [ByteArray.data_extract, Array.toList_extract, List.extract_eq_take_drop]
 rw [show i + 1 - i = 1 by omega, List.drop_eq_getElem_cons hd]
 simp
theorem str1_size (x : Int) : (strOfNums [x]).size = 1 := rfl
theorem drawn_l1 (F : Int → Int → Option Int) (r n : Nat) (f : Nat → Int) (hF : ∀ c, c < n → F (r : Int) (c : Int) = some (f c)) (hn : n ≤ 100000) (hr : r ≤ 100000) (x0 x1 : Int) (acc : List ByteArray) (ha : acc.length ≤ 100000) (d : Nat) :
  ∀ (k c : Nat), c + d = n → d < k → impl_drawn.l1 F k x0 x1 acc r ((List.range c).map f ++ List.replicate d 0) n c = impl_drawn.l0 F (k - d - 1) x0 x1 (acc ++ [dRow f n]) ((r + 1 : Nat) : Int) := by
 induction d with
 | zero =>
  intro k c hc hk
  obtain ⟨k, rfl⟩ : ∃ j, k = j + 1 := ⟨k - 1, by omega⟩
  rw [impl_drawn.l1, if_neg (by omega), if_pos (by omega), w64 (by omega), List.replicate_zero, List.append_nil, show c = n by omega]
  rfl
 | succ d ih =>
  intro k c hc hk
  obtain ⟨k, rfl⟩ : ∃ j, k = j + 1 := ⟨k - 1, by omega⟩
  rw [impl_drawn.l1, if_pos (by omega), hF c (by omega)]
  simp only [Option.bind_some]
  have hl : ((List.range c).map f).length = c := by simp
  rw [if_pos (by omega), if_pos (by rw [List.length_append, hl, List.length_replicate]; omega), Int.toNat_natCast, List.set_append_right _ _ (by omega), hl, Nat.sub_self, List.replicate_succ, List.set_cons_zero, w64 (by omega),
   show (List.range c).map f ++ f c :: List.replicate d 0 = (List.range (c + 1)).map f ++ List.replicate d 0 by rw [List.range_succ, List.map_append, List.append_assoc]; rfl]
  have := ih k (c + 1) (by omega) (by omega)
  rw [show k + 1 - (d + 1) - 1 = k - d - 1 by omega]
  exact this
theorem drawn_l0 (F : Int → Int → Option Int) (R n : Nat) (hR : R ≤ 100000) (hn : n ≤ 100000) (g : Nat → Nat → Int) (hF : ∀ r c, r < R → c < n → F (r : Int) (c : Int) = some (g r c)) (d : Nat) :
  ∀ (k r : Nat), r + d = R → d * (n + 2) < k → impl_drawn.l0 F k R n (dRows g r n) r = some (dRows g R n) := by
 induction d with
 | zero =>
  intro k r hr hk
  obtain ⟨k, rfl⟩ : ∃ j, k = j + 1 := ⟨k - 1, by omega⟩
  rw [impl_drawn.l0, if_neg (by omega), show r = R by omega]
 | succ d ih =>
  intro k r hr hk
  obtain ⟨k, rfl⟩ : ∃ j, k = j + 1 := ⟨k - 1, by omega⟩
  rw [Nat.succ_mul] at hk
  rw [impl_drawn.l0, if_pos (by omega), if_pos (by omega), if_pos (by omega)]
  simp only [Option.bind_some, List.length_replicate, Int.toNat_natCast]
  have h1 := drawn_l1 F r n (g r) (fun c hc => hF r c (by omega) hc) hn (by omega) R n (dRows g r n) (by rw [dRows_length]; omega) n k 0 (by omega) (by omega)
  rw [show ((0 : Nat) : Int) = 0 from rfl] at h1
  rw [show List.replicate n (0 : Int) = (List.range 0).map (g r) ++ List.replicate n 0 from rfl, h1, ← dRows_succ]
  exact ih (k - n - 1) (r + 1) (by omega) (by omega)
theorem drawn_eq (F : Int → Int → Option Int) (R n : Nat) (hR : R ≤ 100) (hn : n ≤ 100) (g : Nat → Nat → Int) (hF : ∀ r c, r < R → c < n → F (r : Int) (c : Int) = some (g r c)) (k : Nat) (hk : 10200 < k) :
  impl_drawnW.f k R n F = some (dRows g R n) := by
 unfold impl_drawnW.f impl_drawn.f
 have h := drawn_l0 F R n (by omega) (by omega) g hF R k 0 (by omega) (by
  have : R * (n + 2) ≤ 100 * 102 := Nat.mul_le_mul hR (by omega)
  omega)
 exact h
theorem cs_dRow (f : Nat → Int) (n : Nat) (h : ∀ c, c < n → 0 ≤ f c ∧ f c ≤ 255) : cs (dRow f n) = (List.range n).map f := by
 unfold cs bytesOf dRow strOfNums
 simp only [List.map_map]
 apply List.map_congr_left
 intro c hc
 have hb := h c (List.mem_range.1 hc)
 simp only [Function.comp]
 show (((f c).toNat.toUInt8).toNat : Int) = f c
 rw [Nat.toUInt8_eq, UInt8.toNat_ofNat']
 omega
theorem bt_dRow (f : Nat → Int) (n : Nat) (h : ∀ c, c < n → 0 ≤ f c ∧ f c ≤ 255) (c : Nat) (hc : c < n) : bt (dRow f n) (c : Int) = f c := by
 rw [bt_get _ c (by rw [dRow_size]; exact hc)]
 simp only [cs_dRow f n h]
 simp
theorem wid_dRows (g : Nat → Nat → Int) (R n : Nat) (hR : 1 ≤ R) : wid (dRows g R n) = n := by
 unfold wid
 obtain ⟨R, rfl⟩ : ∃ j, R = j + 1 := ⟨R - 1, by omega⟩
 unfold dRows
 rw [List.range_succ_eq_map, List.map_cons]
 exact dRow_size _ _
theorem row_dRows (g : Nat → Nat → Int) (R n r : Nat) (hr : r < R) : rdOf ByteArray.empty (dRows g R n) (r : Int) = dRow (g r) n := by
 rw [rdB_get _ r (by rw [dRows_length]; exact hr)]
 simp [dRows]
theorem grid_dRows (g : Nat → Nat → Int) (R n : Nat) (hR : 1 ≤ R ∧ R ≤ 60) (hn : 1 ≤ n ∧ n ≤ 20) (h : ∀ r c, r < R → c < n → chS (g r c) = true) : Grid chS 1 60 20 (dRows g R n) = true := by
 have hb : ∀ r c, r < R → c < n → 0 ≤ g r c ∧ g r c ≤ 255 := fun r c hr hc => by
  rcases chS_cases (h r c hr hc) with e | e | e <;> rw [e] <;> omega
 unfold Grid
 rw [wid_dRows g R n hR.1, dRows_length]
 simp only [Bool.and_eq_true, decide_eq_true_eq, List.all_eq_true]
 refine ⟨⟨⟨⟨hR.1, hR.2⟩, hn.1⟩, hn.2⟩, fun s hs => ?_⟩
 unfold dRows at hs
 obtain ⟨r, hr, rfl⟩ := List.mem_map.1 hs
 have hr' := List.mem_range.1 hr
 unfold RowOK
 rw [dRow_size, cs_dRow _ _ (fun c hc => hb r c hr' hc)]
 simp only [Bool.and_eq_true, beq_iff_eq, List.all_eq_true, true_and]
 intro x hx
 obtain ⟨c, hc, rfl⟩ := List.mem_map.1 hx
 exact h r c hr' (List.mem_range.1 hc)
theorem grid_at {l : List ByteArray} (h : Grid chS 1 60 20 l = true) (r c : Nat) (hr : r < l.length) (hc : c < wid l) : chS (bt (rdOf ByteArray.empty l (r : Int)) c) = true := by
 obtain ⟨_, _, _, _, g5⟩ := grid_facts h
 obtain ⟨e1, e2⟩ := g5 l[r] (List.getElem_mem hr)
 rw [rdB_get l r hr, bt_get _ c (by rw [e1]; exact hc)]
 exact e2 _ (List.getElem_mem _)
def fillL (m : List UInt8) : List UInt8 → List UInt8
 | [] => []
 | c :: s => (if c = 63 then m else [c]) ++ fillL m s
theorem fillL_append (m a b : List UInt8) : fillL m (a ++ b) = fillL m a ++ fillL m b := by
 induction a with
 | nil => rfl
 | cons c a ih => simp [fillL, ih]
def fillB (m s : ByteArray) : ByteArray := ⟨(fillL m.data.toList s.data.toList).toArray⟩
def fillTo (m s : ByteArray) (n : Nat) : ByteArray := ⟨(fillL m.data.toList (s.data.toList.take n)).toArray⟩
theorem fillL_length (m s : List UInt8) (hm : m.length = 1) : (fillL m s).length = s.length := by
 induction s with
 | nil => rfl
 | cons c s ih =>
  unfold fillL
  split <;> simp [ih, hm] <;> omega
theorem fillTo_size (m s : ByteArray) (hm : m.data.toList.length = 1) (n : Nat) : (fillTo m s n).size ≤ n := by
 show (fillL _ _).toArray.size ≤ n
 rw [List.size_toArray, fillL_length _ _ hm, List.length_take]
 omega
theorem fillTo_all (m s : ByteArray) : fillTo m s s.size = fillB m s := by
 unfold fillTo fillB
 rw [List.take_of_length_le (by simp)]
theorem fillTo_succ (m s : ByteArray) (c : Nat) (h : c < s.size) : fillTo m s (c + 1) = if bt s (c : Int) = 63 then fillTo m s c ++ m else fillTo m s c ++ s.extract c (c + 1) := by
 have hb : bt s (c : Int) = ((s[c]'h).toNat : Int) := by unfold bt; rw [dif_pos (by simpa using h)]; rfl
 have hl : c < s.data.toList.length := by rw [data_length]; exact h
 have e1 : s.data.toList.take (c + 1) = s.data.toList.take c ++ [s[c]'h] := by
  rw [List.take_add_one, List.getElem?_eq_getElem hl]
  rfl
 have e2 : (s.extract c (c + 1)).data.toList = [s[c]'h] := by
  simp only [ByteArray.data_extract, Array.toList_extract, List.extract]
  rw [List.drop_eq_getElem_cons hl, show c + 1 - c = 1 by omega]
  rfl
 have hx : (bt s (c : Int) = 63) ↔ (s[c]'h = 63) := by
  rw [hb]
  constructor
  ·intro h1
   apply UInt8.toNat_inj.1
   have : (63 : UInt8).toNat = 63 := rfl
   omega
  ·intro h1; rw [h1]; rfl
 split
 ·rename_i h1
  rw [hx] at h1
  apply ByteArray.ext; apply Array.ext'
  unfold fillTo
  rw [e1, fillL_append, h1]
  simp [fillL]
 ·rename_i h1
  rw [hx] at h1
  apply ByteArray.ext; apply Array.ext'
  unfold fillTo
  rw [e1, fillL_append]
  rw [ByteArray.data_append, Array.toList_append, e2]
  simp [fillL, h1]
theorem fill_row (m : ByteArray) (hm : m.data.toList.length = 1) (l : List ByteArray) (hl : l.length ≤ 1000) (s : ByteArray) (hs : s.size ≤ 1000) (acc : List ByteArray) (ha : acc.length ≤ 1000) (r : Nat) (hr : r < l.length) (d : Nat) :
  ∀ (k c : Nat), c + d = s.size → d < k → spec_scFill.l1 k m acc s (fillTo m s c) c l l.length r = spec_scFill.l0 (k - d - 1) m (acc ++ [fillB m s]) l l.length ((r + 1 : Nat) : Int) := by
 have hm1 : m.size = 1 := (data_length m).symm.trans hm
 induction d with
 | zero =>
  intro k c hc hk
  obtain ⟨k, rfl⟩ : ∃ j, k = j + 1 := ⟨k - 1, by omega⟩
  rw [spec_scFill.l1, if_neg (by omega), if_pos (by omega), w64 (by omega), show c = s.size by omega, fillTo_all, show k + 1 - 0 - 1 = k by omega, show (r : Int) + 1 = ((r + 1 : Nat) : Int) by omega]
 | succ d ih =>
  intro k c hc hk
  obtain ⟨k, rfl⟩ : ∃ j, k = j + 1 := ⟨k - 1, by omega⟩
  have e := ih k (c + 1) (by omega) (by omega)
  have ec : wrap64 ((c : Int) + 1) = ((c + 1 : Nat) : Int) := by rw [w64 (by omega)]; omega
  have hx : (s.extract c (c + 1)).size = 1 := by rw [ByteArray.size_extract]; omega
  have h0 : (0 : Int) ≤ (c : Int) := by omega
  have h1' : (c : Int) ≤ ((c + 1 : Nat) : Int) := by omega
  have h2' : ((c + 1 : Nat) : Int) ≤ (s.size : Int) := by omega
  have hlt : (c : Int) < (s.size : Int) := by omega
  have hcs : c < s.size := by omega
  have hkk : k + 1 - (d + 1) - 1 = k - d - 1 := by omega
  have h3' : (fillTo m s c).size + 1 ≤ 9223372036854775807 := Nat.le_trans (Nat.succ_le_succ (fillTo_size m s hm c)) (show c + 1 ≤ 9223372036854775807 by omega)
  rw [hkk, ← e]
  clear e ih
  rw [spec_scFill.l1, if_pos hlt, if_pos h0, ec, Int.toNat_natCast, Int.toNat_natCast, fillTo_succ m s c hcs]
  by_cases hb : bt s (c : Int) = 63
  ·rw [if_pos hb, if_pos hb, hm1, if_pos h3']
  ·rw [if_neg hb, if_neg hb, if_pos h1', if_pos h2', hx, if_pos h3']
theorem fill_rows (m : ByteArray) (hm : m.data.toList.length = 1) (l : List ByteArray) (hl : l.length ≤ 1000) (n : Nat) (hn : n ≤ 1000) (hs : ∀ s ∈ l, s.size = n) (d : Nat) :
  ∀ (k r : Nat), r + d = l.length → d * (n + 2) < k → spec_scFill.l0 k m ((l.take r).map (fillB m)) l l.length r = some (l.map (fillB m)) := by
 induction d with
 | zero =>
  intro k r hr hk
  obtain ⟨k, rfl⟩ : ∃ j, k = j + 1 := ⟨k - 1, by omega⟩
  rw [spec_scFill.l0, if_neg (by omega), List.take_of_length_le (by omega)]
 | succ d ih =>
  intro k r hr hk
  obtain ⟨k, rfl⟩ : ∃ j, k = j + 1 := ⟨k - 1, by omega⟩
  rw [Nat.succ_mul] at hk
  have hz : l[r].size = n := hs _ (List.getElem_mem _)
  rw [spec_scFill.l0, if_pos (by omega), if_pos (by omega), if_pos (by omega), rdB_get l r (by omega)]
  have e := fill_row m hm l hl l[r] (by omega) ((l.take r).map (fillB m)) (by simp; omega) r (by omega) n k 0 (by omega) (by omega)
  have e0 : fillTo m l[r] 0 = ⟨#[]⟩ := rfl
  rw [e0, show ((0 : Nat) : Int) = 0 from rfl] at e
  rw [e]
  have := ih (k - n - 1) (r + 1) (by omega) (by omega)
  rw [List.take_add_one, List.getElem?_eq_getElem (by omega), List.map_append] at this
  exact this
theorem replaceK_cons (m : List UInt8) (b : UInt8) (hb : b ≠ 63) (k : Nat) (s : List UInt8) : Go.Lib.replaceK [63] m k (b :: s) = b :: Go.Lib.replaceK [63] m k s := by
 cases k with
 | zero => rfl
 | succ k =>
  have e1 : Go.Lib.index (b :: s) [63] = if Go.Lib.index s [63] = -1 then -1 else Go.Lib.index s [63] + 1 := by
   rw [Go.Lib.index_one, Go.Lib.index_one]
   conv => lhs; unfold Go.Lib.indexByte
   simp [hb]
  have hge := Go.Lib.index_ge s [63]
  by_cases h : Go.Lib.index s [63] = -1
  ·rw [if_pos h] at e1
   rw [Go.Lib.replaceK, Go.Lib.replaceK, e1, h]; simp
  ·rw [if_neg h] at e1
   obtain ⟨i, hi⟩ : ∃ i : Nat, Go.Lib.index s [63] = i := ⟨(Go.Lib.index s [63]).toNat, by omega⟩
   rw [Go.Lib.replaceK_hit _ _ _ _ i hi, Go.Lib.replaceK_hit _ _ _ _ (i + 1) (by rw [e1, hi]; omega)]
   simp
theorem replaceK_fill (m : List UInt8) (s : List UInt8) : Go.Lib.replaceK [63] m (s.count 63) s = fillL m s := by
 induction s with
 | nil => rfl
 | cons b s ih =>
  by_cases hb : b = 63
  ·subst hb
   have e1 : Go.Lib.index (63 :: s) [63] = ((0 : Nat) : Int) := by
    rw [Go.Lib.index_one]; unfold Go.Lib.indexByte; simp
   rw [List.count_cons_self, Go.Lib.replaceK_hit _ _ _ _ 0 e1]
   simp [fillL, ih]
  ·rw [List.count_cons_of_ne hb, replaceK_cons m b hb, ih]
   simp [fillL, hb]
theorem replaceAll_fill (m : List UInt8) (hm : m ≠ [63]) (s : List UInt8) : Go.Lib.replaceAll s [63] m = fillL m s := by
 unfold Go.Lib.replaceAll Go.Lib.replace Go.Lib.replaceNum
 rw [if_neg (by simpa using fun h => hm h.symm), if_pos (.inl (by decide)), Go.Lib.count_one, replaceK_fill]
theorem filled_rows (m : ByteArray) (hm : m.data.toList.length = 1) (h63 : m.data.toList ≠ [63]) (l : List ByteArray) (hl : l.length ≤ 1000) (n : Nat) (hn : n ≤ 1000) (hs : ∀ s ∈ l, s.size = n) (d : Nat) :
  ∀ (k r : Nat), r + d = l.length → d < k → impl_filledScan.l0 k m ((l.take r).map (fillB m)) l l.length r = some (l.map (fillB m)) := by
 have hm1 : m.size = 1 := (data_length m).symm.trans hm
 induction d with
 | zero =>
  intro k r hr hk
  obtain ⟨k, rfl⟩ : ∃ j, k = j + 1 := ⟨k - 1, by omega⟩
  rw [impl_filledScan.l0, if_neg (by omega), List.take_of_length_le (by omega)]
 | succ d ih =>
  intro k r hr hk
  obtain ⟨k, rfl⟩ : ∃ j, k = j + 1 := ⟨k - 1, by omega⟩
  have hz : l[r].size = n := hs _ (List.getElem_mem _)
  have er : strings_ReplaceAll.f l[r] (⟨#[63]⟩ : ByteArray) m = some (fillB m l[r]) := by
   unfold strings_ReplaceAll.f fillB
   rw [if_pos ⟨rfl, by omega, by omega⟩, show (⟨#[63]⟩ : ByteArray).data.toList = [63] from rfl, replaceAll_fill _ h63]
  rw [impl_filledScan.l0, if_pos (by omega), if_pos (by omega), if_pos (by omega), rdB_get l r (by omega), er]
  simp only [Option.bind_some]
  have hlen : ((l.take r).map (fillB m)).length < 8796093022208 := by simp; omega
  rw [if_pos hlen, w64 (by omega)]
  have := ih k (r + 1) (by omega) (by omega)
  rw [List.take_add_one, List.getElem?_eq_getElem (by omega), List.map_append] at this
  exact this
def fillOut (m : ByteArray) (l : List ByteArray) : List ByteArray × Bool := if Grid chS 1 60 20 l = true then (l.map (fillB m), true) else ([], false)
theorem spoilt_nums (p n : Nat) (h : p < n) (hn : n ≤ 1000) : p + 1 ≤ 9223372036854775807 ∧ p + 1 + (n - p) ≤ 9223372036854775807 ∧ p + 1 + (n - (p + 1)) ≤ 9223372036854775807 ∧ p + (n - (p + 1)) ≤ 9223372036854775807 ∧
  p + 1 + (n - p) ≤ n + 1 ∧ p + 1 + (n - (p + 1)) ≤ n + 1 ∧ p + (n - (p + 1)) ≤ n + 1 := ⟨by omega, by omega, by omega, by omega, by omega, by omega, by omega⟩
theorem ex_left (x : ByteArray) (p : Nat) (h : p ≤ x.size) : (x.extract 0 p).size = p := by rw [ByteArray.size_extract]; omega
theorem ex_right (x : ByteArray) (p : Nat) : (x.extract p x.size).size = x.size - p := by rw [ByteArray.size_extract]; omega
theorem spoilt_tot (l : List Int) (hl : Bytes l) (y : ByteArray) (hy : 1 ≤ y.size) (d : Nat) : ∀ (x : ByteArray) (a s : Int), x.size + d ≤ 1000 → 0 ≤ a → a + 6 * d ≤ 800000 →
  Tot (fun k => spec_l1Cur_spoilt.l0 k x y d l a s) (fun r => r.1.size ≤ x.size + d ∧ a ≤ r.2.1 ∧ r.2.1 ≤ a + 6 * d) := by
 have out : ∀ (x : ByteArray) (i a s : Int) (m : Int) (p : Nat), 0 ≤ m → Tot (fun k => spec_l1Cur_spoilt.j1 k x y i false l a s) (fun r => r.1.size ≤ x.size + p ∧ a ≤ r.2.1 ∧ r.2.1 ≤ a + m) := fun x i a s m p hm =>
  Tot.step (h := fun _ => some (x, a, s)) (fun k => by rw [spec_l1Cur_spoilt.j1, if_neg (by decide)]) (Tot.now _ (fun _ => rfl) ⟨by simp only []; omega, by simp only []; omega, by simp only []; omega⟩)
 induction d with
 | zero =>
  intro x a s hx h0 ha
  exact Tot.step (h := fun k => spec_l1Cur_spoilt.j1 k x y ((0 : Nat) : Int) false l a s) (fun k => by rw [spec_l1Cur_spoilt.l0, if_neg (by omega)]) (out x _ a s _ _ (by omega))
 | succ d ih =>
  intro x a s hx h0 ha
  by_cases h : 0 < x.size
  ·refine Tot.step (h := fun k => spec_l1Cur_spoilt.j1 k x y ((d + 1 : Nat) : Int) true l a s) (fun k => by rw [spec_l1Cur_spoilt.l0, if_pos (by omega), decide_eq_true (by omega)]) ?_
   obtain ⟨v1, a1, s1, e1, b0, b1, l1, u1⟩ := pick_ok l hl a s (by omega) (x.size : Int)
   have b2 := b1 (by omega)
   clear b1
   obtain ⟨v2, a2, s2, e2, c0, c1, l2, u2⟩ := pick_ok l hl a1 s1 (by omega) (y.size : Int)
   have c2 := c1 (by omega)
   clear c1
   obtain ⟨v3, a3, s3, e3, -, -, l3, u3⟩ := pick_ok l hl a2 s2 (by omega) 3
   obtain ⟨p, rfl⟩ : ∃ p : Nat, v1 = p := ⟨v1.toNat, by omega⟩
   have ew : wrap64 ((p : Int) + 1) = ((p + 1 : Nat) : Int) := w_next p (by omega)
   have ed : wrap64 (((d + 1 : Nat) : Int) - 1) = (d : Int) := by rw [w64 (by omega)]; omega
   have hp0 : (0 : Int) ≤ (p : Int) := by omega
   have hp1 : (p : Int) ≤ (x.size : Int) := by omega
   have hp2 : (0 : Int) ≤ ((p + 1 : Nat) : Int) := by omega
   have hp3 : ((p + 1 : Nat) : Int) ≤ (x.size : Int) := by omega
   have go : ∀ z : ByteArray, z.size ≤ x.size + 1 → Tot (fun k => spec_l1Cur_spoilt.l0 k z y d l a3 s3) (fun r => r.1.size ≤ x.size + (d + 1) ∧ a ≤ r.2.1 ∧ r.2.1 ≤ a + 6 * ((d + 1 : Nat) : Int)) := fun z hz =>
    (ih z a3 s3 (by omega) (by omega) (by omega)).weak (fun r hr => ⟨by have := hr.1; omega, by omega, by omega⟩)
   obtain ⟨f1, f2, f3, f4, g2, g3, g4⟩ := spoilt_nums p x.size (by omega) (by omega)
   have hx1 := ex_left x p (Nat.le_of_lt (by clear f1 f2 f3 f4 g2 g3 g4; omega))
   by_cases q0 : v3 = 0
   ·refine Tot.step (h := fun k => spec_l1Cur_spoilt.l0 k (x.extract 0 p ++ strOfNums [bt y v2] ++ x.extract p x.size) y d l a3 s3) (fun k => ?_) (go _ (by rw [ByteArray.size_append, ByteArray.size_append, hx1, ex_right, str1_size]; exact g2))
    rw [spec_l1Cur_spoilt.j1, if_pos rfl, e1]; simp only [Option.bind_some]
    rw [e2]; simp only [Option.bind_some]
    rw [if_pos c0, if_pos c2, e3]; simp only [Option.bind_some]
    rw [if_pos q0, if_pos hp0, if_pos hp1, Int.toNat_natCast, if_pos (by rw [hx1, str1_size]; exact f1), if_pos (by rw [ByteArray.size_append, hx1, ex_right, str1_size]; exact f2), ed]
   ·by_cases q1 : v3 = 1
    ·refine Tot.step (h := fun k => spec_l1Cur_spoilt.l0 k (x.extract 0 p ++ strOfNums [bt y v2] ++ x.extract (p + 1) x.size) y d l a3 s3) (fun k => ?_) (go _ (by rw [ByteArray.size_append, ByteArray.size_append, hx1, ex_right, str1_size]; exact g3))
     rw [spec_l1Cur_spoilt.j1, if_pos rfl, e1]; simp only [Option.bind_some]
     rw [e2]; simp only [Option.bind_some]
     rw [if_pos c0, if_pos c2, e3]; simp only [Option.bind_some]
     rw [if_neg q0, if_pos q1, if_pos hp0, if_pos hp1, ew, Int.toNat_natCast, Int.toNat_natCast, if_pos (by rw [hx1, str1_size]; exact f1), if_pos hp2, if_pos hp3, if_pos (by rw [ByteArray.size_append, hx1, ex_right, str1_size]; exact f3), ed]
    ·refine Tot.step (h := fun k => spec_l1Cur_spoilt.l0 k (x.extract 0 p ++ x.extract (p + 1) x.size) y d l a3 s3) (fun k => ?_) (go _ (by rw [ByteArray.size_append, hx1, ex_right]; exact g4))
     rw [spec_l1Cur_spoilt.j1, if_pos rfl, e1]; simp only [Option.bind_some]
     rw [e2]; simp only [Option.bind_some]
     rw [if_pos c0, if_pos c2, e3]; simp only [Option.bind_some]
     rw [if_neg q0, if_neg q1, if_pos hp0, if_pos hp1, ew, if_pos hp2, if_pos hp3, Int.toNat_natCast, Int.toNat_natCast, if_pos (by rw [hx1, ex_right]; exact f4), ed]
  ·refine Tot.step (h := fun k => spec_l1Cur_spoilt.j1 k x y ((d + 1 : Nat) : Int) false l a s) (fun k => by rw [spec_l1Cur_spoilt.l0, if_pos (by omega), decide_eq_false (by omega)]) (out x _ a s _ _ (by omega))
theorem spoiltf_tot (l : List Int) (hl : Bytes l) (y : ByteArray) (hy : 1 ≤ y.size) (x : ByteArray) (hx : x.size ≤ 900) (a s : Int) (ha : 0 ≤ a ∧ a ≤ 700000) :
  Tot (fun k => spec_l1Cur_spoilt.f k l a s x y) (fun r => r.1.size ≤ x.size + 2 ∧ a ≤ r.2.1 ∧ r.2.1 ≤ a + 14) := by
 obtain ⟨v1, a1, s1, e1, b0, b1, l1, u1⟩ := pick_ok l hl a s (by omega) 2
 have b2 := b1 (by omega)
 clear b1
 obtain ⟨p, rfl⟩ : ∃ p : Nat, v1 = p := ⟨v1.toNat, by omega⟩
 refine Tot.congr (h := fun k => spec_l1Cur_spoilt.l0 k x y ((p + 1 : Nat) : Int) l a1 s1) (fun k => by unfold spec_l1Cur_spoilt.f; rw [e1]; simp only [Option.bind_some]; rw [w64 (by omega), show (1 : Int) + (p : Int) = ((p + 1 : Nat) : Int) by omega]) ?_
 exact Tot.weak (spoilt_tot l hl y hy (p + 1) x a1 s1 (by omega) (by omega) (by omega)) (fun r hr => ⟨by have := hr.1; omega, by omega, by omega⟩)
def SmallScan (l : List ByteArray) : Prop := l.length ≤ 100 ∧ ∀ s ∈ l, s.size ≤ 1000
theorem rows_small {R n : Nat} {l : List ByteArray} (h : Rows R n l) (hR : R ≤ 100) (hn : n ≤ 1000) : SmallScan l := ⟨by rw [h.1]; exact hR, fun s hs => by rw [h.2 s hs]; exact hn⟩
theorem set_small {l : List ByteArray} (h : SmallScan l) (i : Nat) (t : ByteArray) (ht : t.size ≤ 1000) : SmallScan (l.set i t) :=
 ⟨by rw [List.length_set]; exact h.1, fun s hs => (List.mem_or_eq_of_mem_set hs).elim (fun h2 => h.2 s h2) (fun e => by rw [e]; exact ht)⟩
theorem set_rows {R n : Nat} {l : List ByteArray} (h : Rows R n l) (i : Nat) (t : ByteArray) (ht : t.size = n) : Rows R n (l.set i t) :=
 ⟨by rw [List.length_set]; exact h.1, fun s hs => (List.mem_or_eq_of_mem_set hs).elim (fun h2 => h.2 s h2) (fun e => by rw [e]; exact ht)⟩
theorem scan_end (l : List Int) (hl : Bytes l) (R n : Nat) (hR : 1 ≤ R ∧ R ≤ 60) (hn : n ≤ 20) (x : List ByteArray) (hx : Rows R n x) (a s : Int) (ha : 0 ≤ a ∧ a ≤ 600000) :
  Tot (fun k => spec_l1Cur_scan.l0 k n R x ((0 : Nat) : Int) l a s) (fun r => SmallScan r.1 ∧ a ≤ r.2.1 ∧ r.2.1 ≤ a + 20) := by
 have hxl := hx.1
 have hsm := rows_small hx (by omega) (by omega)
 obtain ⟨v1, a1, s1, e1, b0, b1, l1, u1⟩ := pick_ok l hl a s (by omega) 30
 clear b1
 have hz : ∀ i (h : i < x.length), (x[i]).size = n := fun i h => hx.2 _ (List.getElem_mem h)
 have hlt : (0 : Int) < (x.length : Int) := by omega
 by_cases q0 : v1 = 0
 ·obtain ⟨v2, a2, s2, e2, c0, c1, l2, u2⟩ := pick_ok l hl a1 s1 (by omega) (R : Int)
  have c2 := c1 (by omega)
  clear c1
  obtain ⟨p, rfl⟩ : ∃ p : Nat, v2 = p := ⟨v2.toNat, by omega⟩
  have hp : p < x.length := by omega
  have hp1 : (p : Int) < (x.length : Int) := by omega
  have hp0 : (0 : Int) ≤ (p : Int) := by omega
  have hn1 : n + 1 ≤ 9223372036854775807 := by omega
  have hn2 : n + 1 ≤ 1000 := by omega
  have hcur : a ≤ a2 ∧ a2 ≤ a + 20 := by omega
  have hsz := hz p hp
  have h1 : (⟨#[46]⟩ : ByteArray).size = 1 := rfl
  refine Tot.step (h := fun _ => some (x.set p (x[p] ++ (⟨#[46]⟩ : ByteArray)), a2, s2)) (fun k => ?_) (Tot.now _ (fun _ => rfl) ⟨set_small hsm p (x[p] ++ (⟨#[46]⟩ : ByteArray)) (by rw [ByteArray.size_append, hsz, h1]; exact hn2), hcur.1, hcur.2⟩)
  rw [spec_l1Cur_scan.l0, if_neg (by simp), e1]
  simp only [Option.bind_some]
  rw [if_pos q0, e2]
  simp only [Option.bind_some]
  rw [if_pos hp0, if_pos hp1, rdB_get x p hp, hsz, if_pos hn1, Int.toNat_natCast]
 ·by_cases q1 : v1 = 1
  ·have h0 : 0 < x.length := by omega
   have hsz := hz 0 h0
   have hr0 : rdOf ByteArray.empty x 0 = x[0] := rdB_get x 0 h0
   refine Tot.step (h := fun k => (spec_l1Cur_spoilt.f k l a1 s1 x[0] (⟨#[120, 79, 32]⟩ : ByteArray)).bind fun bt => some (x.set 0 bt.1, bt.2.1, bt.2.2)) (fun k => ?_) ?_
   ·rw [spec_l1Cur_scan.l0, if_neg (by simp), e1]
    simp only [Option.bind_some]
    rw [if_neg q0, if_pos q1, if_pos hlt, hr0]
    rfl
   ·refine Tot.bind (spoiltf_tot l hl (⟨#[120, 79, 32]⟩ : ByteArray) (by decide) x[0] (by omega) a1 s1 (by omega)) (fun bt hb => ?_)
    obtain ⟨h1, h2, h3⟩ := hb
    have h4 : bt.1.size ≤ 1000 := by omega
    exact Tot.now _ (fun _ => rfl) ⟨set_small hsm 0 _ h4, by simp only []; omega, by simp only []; omega⟩
  ·by_cases q2 : v1 = 2
   ·exact Tot.step (h := fun _ => some ([], a1, s1)) (fun k => by rw [spec_l1Cur_scan.l0, if_neg (by simp), e1]; simp only [Option.bind_some]; rw [if_neg q0, if_neg q1, if_pos q2]) (Tot.now _ (fun _ => rfl) ⟨⟨by simp, fun s hs => by simp at hs⟩, by simp only []; omega, by simp only []; omega⟩)
   ·by_cases q3 : v1 = 3
    ·obtain ⟨v2, a2, s2, e2, c0, c1, l2, u2⟩ := pick_ok l hl a1 s1 (by omega) 2
     have c2 := c1 (by omega)
     clear c1
     obtain ⟨p, rfl⟩ : ∃ p : Nat, v2 = p := ⟨v2.toNat, by omega⟩
     refine Tot.step (h := fun k => (spec_scMake.f k [] ((3 : Nat) : Int) ((60 + p : Nat) : Int)).bind fun t => some (t, a2, s2)) (fun k => ?_) ?_
     ·rw [spec_l1Cur_scan.l0, if_neg (by simp), e1]
      simp only [Option.bind_some]
      rw [if_neg q0, if_neg q1, if_neg q2, if_pos q3, e2]
      simp only [Option.bind_some]
      rw [w64 (by omega), show (60 : Int) + (p : Int) = ((60 + p : Nat) : Int) by omega]
      rfl
     ·exact Tot.bind (mk_tot [] (by simp) (60 + p) 3 (by omega) (by omega)) (fun t ht => Tot.now _ (fun _ => rfl) ⟨rows_small ht (by omega) (by omega), by simp only []; omega, by simp only []; omega⟩)
    ·by_cases q4 : v1 = 4
     ·obtain ⟨v2, a2, s2, e2, c0, c1, l2, u2⟩ := pick_ok l hl a1 s1 (by omega) 2
      have c2 := c1 (by omega)
      clear c1
      obtain ⟨p, rfl⟩ : ∃ p : Nat, v2 = p := ⟨v2.toNat, by omega⟩
      refine Tot.step (h := fun k => (spec_scMake.f k [] ((20 + p : Nat) : Int) ((2 : Nat) : Int)).bind fun t => some (t, a2, s2)) (fun k => ?_) ?_
      ·rw [spec_l1Cur_scan.l0, if_neg (by simp), e1]
       simp only [Option.bind_some]
       rw [if_neg q0, if_neg q1, if_neg q2, if_neg q3, if_pos q4, e2]
       simp only [Option.bind_some]
       rw [w64 (by omega), show (20 : Int) + (p : Int) = ((20 + p : Nat) : Int) by omega]
       rfl
      ·exact Tot.bind (mk_tot [] (by simp) 2 (20 + p) (by omega) (by omega)) (fun t ht => Tot.now _ (fun _ => rfl) ⟨rows_small ht (by omega) (by omega), by simp only []; omega, by simp only []; omega⟩)
     ·exact Tot.step (h := fun _ => some (x, a1, s1)) (fun k => by rw [spec_l1Cur_scan.l0, if_neg (by simp), e1]; simp only [Option.bind_some]; rw [if_neg q0, if_neg q1, if_neg q2, if_neg q3, if_neg q4]) (Tot.now _ (fun _ => rfl) ⟨hsm, by simp only []; omega, by simp only []; omega⟩)
theorem scan_loop (l : List Int) (hl : Bytes l) (R n : Nat) (hR : 1 ≤ R ∧ R ≤ 60) (hn : n ≤ 20) (d : Nat) : ∀ (x : List ByteArray) (a s : Int), d ≤ 10 → Rows R n x → 0 ≤ a → a + 20 * d ≤ 600000 →
  Tot (fun k => spec_l1Cur_scan.l0 k n R x d l a s) (fun r => SmallScan r.1 ∧ a ≤ r.2.1 ∧ r.2.1 ≤ a + 20 * d + 20) := by
 induction d with
 | zero =>
  intro x a s _ hx h0 ha
  exact Tot.weak (scan_end l hl R n hR hn x hx a s (by omega)) (fun r hr => ⟨hr.1, by omega, by omega⟩)
 | succ d ih =>
  intro x a s hd hx h0 ha
  have hxl := hx.1
  obtain ⟨v1, a1, s1, e1, b0, b1, l1, u1⟩ := pick_ok l hl a s (by omega) (R : Int)
  have b2 := b1 (by omega)
  clear b1
  obtain ⟨p, rfl⟩ : ∃ p : Nat, v1 = p := ⟨v1.toNat, by omega⟩
  have hp : p < x.length := by omega
  have hsz : x[p].size = n := hx.2 _ (List.getElem_mem hp)
  have ed : wrap64 (((d + 1 : Nat) : Int) - 1) = (d : Int) := by rw [w64 (by omega)]; omega
  have hp1 : (p : Int) < (x.length : Int) := by omega
  have hp0 : (0 : Int) ≤ (p : Int) := by omega
  have hpos : ((d + 1 : Nat) : Int) > 0 := by omega
  have hxs : x[p].size ≤ 900 := by omega
  have ha1 : 0 ≤ a1 ∧ a1 ≤ 700000 := by omega
  refine Tot.step (h := fun k => (spec_l1Cur_spoilt.f k l a1 s1 x[p] (⟨#[46, 111, 63]⟩ : ByteArray)).bind fun bt => if ((rdOf ByteArray.empty (x.set p bt.1) (p : Int)).size : Int) = (n : Int) then spec_l1Cur_scan.l0 k n R (x.set p bt.1) d l bt.2.1 bt.2.2
   else (spec_scMake.f k [] n ((1 : Nat) : Int)).bind fun t => if 0 < (t.length : Int) then spec_l1Cur_scan.l0 k n R ((x.set p bt.1).set p (rdOf ByteArray.empty t 0)) d l bt.2.1 bt.2.2 else none) (fun k => ?_) ?_
  ·rw [spec_l1Cur_scan.l0, if_pos hpos, e1]
   simp only [Option.bind_some]
   rw [if_pos hp0, if_pos hp1, rdB_get x p hp, Int.toNat_natCast, ed]
   rfl
  ·refine Tot.bind (spoiltf_tot l hl (⟨#[46, 111, 63]⟩ : ByteArray) (by decide) x[p] hxs a1 s1 ha1) (fun bt hb => ?_)
   obtain ⟨-, h2, h3⟩ := hb
   have hset : rdOf ByteArray.empty (x.set p bt.1) (p : Int) = bt.1 := by rw [rdB_get _ p (by rw [List.length_set]; exact hp), List.getElem_set_self]
   by_cases q : ((rdOf ByteArray.empty (x.set p bt.1) (p : Int)).size : Int) = (n : Int)
   ·have q' : bt.1.size = n := by rw [hset] at q; exact Int.ofNat.inj q
    refine Tot.congr (h := fun k => spec_l1Cur_scan.l0 k n R (x.set p bt.1) d l bt.2.1 bt.2.2) (fun k => if_pos q) ?_
    clear q hset
    exact Tot.weak (ih (x.set p bt.1) bt.2.1 bt.2.2 (by omega) (set_rows hx p bt.1 q') (by omega) (by omega)) (fun r hr => ⟨hr.1, by omega, by omega⟩)
   ·refine Tot.congr (h := fun k => (spec_scMake.f k [] n ((1 : Nat) : Int)).bind fun t => if 0 < (t.length : Int) then spec_l1Cur_scan.l0 k n R ((x.set p bt.1).set p (rdOf ByteArray.empty t 0)) d l bt.2.1 bt.2.2 else none) (fun k => if_neg q) ?_
    clear q hset
    refine Tot.bind (mk_tot [] (by simp) 1 n (by omega) (by omega)) (fun t ht => ?_)
    have htl := ht.1
    have h0t : 0 < t.length := by omega
    have ht0 : rdOf ByteArray.empty t 0 = t[0] := rdB_get t 0 h0t
    have hts : (t[0]).size = n := ht.2 _ (List.getElem_mem h0t)
    refine Tot.congr (h := fun k => spec_l1Cur_scan.l0 k n R (x.set p t[0]) d l bt.2.1 bt.2.2) (fun k => by rw [if_pos (by omega), ht0, List.set_set]) ?_
    exact Tot.weak (ih (x.set p t[0]) bt.2.1 bt.2.2 (by omega) (set_rows hx p _ hts) (by omega) (by omega)) (fun r hr => ⟨hr.1, by omega, by omega⟩)
theorem scan_tot (l : List Int) (hl : Bytes l) (a s : Int) (ha : 0 ≤ a ∧ a ≤ 500000) : Tot (fun k => spec_l1Cur_scan.f k l a s) (fun r => SmallScan r.1 ∧ a ≤ r.2.1 ∧ r.2.1 ≤ a + 2000) := by
 obtain ⟨v1, a1, s1, e1, b0, b1, l1, u1⟩ := pick_ok l hl a s (by omega) 8
 have b2 := b1 (by omega)
 clear b1
 obtain ⟨v2, a2, s2, e2, c0, c1, l2, u2⟩ := pick_ok l hl a1 s1 (by omega) 10
 have c2 := c1 (by omega)
 clear c1
 obtain ⟨v3, a3, s3, e3, l3, u3⟩ := one_ok l hl a2 s2 (by omega) 20
 have key : ∀ (n R : Nat), 1 ≤ R ∧ R ≤ 60 → n ≤ 20 → Tot (fun k => spec_l1Cur_scan.j0 k n R l a3 s3) (fun r => SmallScan r.1 ∧ a ≤ r.2.1 ∧ r.2.1 ≤ a + 2000) := fun n R hR hn => by
  refine Tot.step (h := fun k => (spec_l1Cur_sheet.f k l a3 s3).bind fun bt => (spec_scMake.f k bt.1 n R).bind fun t => (spec_l1Cur_pick.f l bt.2.1 bt.2.2 4).bind fun bp => spec_l1Cur_scan.l0 k n R t bp.1 l bp.2.1 bp.2.2) (fun k => by rw [spec_l1Cur_scan.j0]) ?_
  refine Tot.bind (sheet_tot l hl a3 s3 (by omega)) (fun bt hb => ?_)
  obtain ⟨h1, h2, h3⟩ := hb
  refine Tot.bind (mk_tot bt.1 (by omega) R n (by omega) (by omega)) (fun t ht => ?_)
  obtain ⟨v4, a4, s4, e4, d0, d1, l4, u4⟩ := pick_ok l hl bt.2.1 bt.2.2 (by omega) 4
  have d2 := d1 (by omega)
  clear d1
  obtain ⟨p, rfl⟩ : ∃ p : Nat, v4 = p := ⟨v4.toNat, by omega⟩
  refine Tot.congr (h := fun k => spec_l1Cur_scan.l0 k n R t p l a4 s4) (fun k => by rw [e4]; rfl) ?_
  exact Tot.weak (scan_loop l hl R n hR hn p t a4 s4 (by omega) ht (by omega) (by omega)) (fun r hr => ⟨hr.1, by omega, by omega⟩)
 by_cases h : v3 = true
 ·refine Tot.congr (h := fun k => spec_l1Cur_scan.j0 k ((20 : Nat) : Int) ((60 : Nat) : Int) l a3 s3) (fun k => ?_) (key 20 60 (by omega) (by omega))
  unfold spec_l1Cur_scan.f
  rw [e1]; simp only [Option.bind_some]
  rw [e2]; simp only [Option.bind_some]
  rw [e3]; simp only [Option.bind_some]
  rw [if_pos h]; rfl
 ·obtain ⟨p, rfl⟩ : ∃ p : Nat, v1 = p := ⟨v1.toNat, by omega⟩
  obtain ⟨q, rfl⟩ : ∃ q : Nat, v2 = q := ⟨v2.toNat, by omega⟩
  refine Tot.congr (h := fun k => spec_l1Cur_scan.j0 k ((1 + p : Nat) : Int) ((1 + q : Nat) : Int) l a3 s3) (fun k => ?_) (key (1 + p) (1 + q) (by omega) (by omega))
  unfold spec_l1Cur_scan.f
  rw [e1]; simp only [Option.bind_some]
  rw [e2]; simp only [Option.bind_some]
  rw [e3]; simp only [Option.bind_some]
  rw [if_neg h, w64 (by omega), w64 (by omega), show (1 : Int) + (p : Int) = ((1 + p : Nat) : Int) by omega, show (1 : Int) + (q : Int) = ((1 + q : Nat) : Int) by omega]
theorem bytes_range (s : ByteArray) : (List.range s.size).map (fun c : Nat => bt s (c : Int)) = bytesOf s := by
 apply List.ext_getElem
 ·simp [bytesOf_length]
 ·intro i h1 h2
  have hi : i < s.size := by simpa using h1
  rw [List.getElem_map, List.getElem_range]
  exact bt_get s i hi
theorem str_bytes (s : ByteArray) : strOfNums (bytesOf s) = s := by
 apply ByteArray.ext
 apply Array.ext'
 unfold strOfNums bytesOf
 simp only [List.map_map]
 have h : s.data.toList.map ((fun n : Int => n.toNat.toUInt8) ∘ fun b : UInt8 => ((b.toNat : Nat) : Int)) = s.data.toList.map id := by
  apply List.map_congr_left
  intro b _
  simp
 rw [List.map_id] at h
 simpa using h
theorem dRow_self (s : ByteArray) (n : Nat) (h : s.size = n) (f : Nat → Int) (hf : ∀ c, c < n → f c = bt s (c : Int)) : dRow f n = s := by
 rw [dRow_congr f (fun c : Nat => bt s (c : Int)) n hf]
 unfold dRow
 rw [← h, bytes_range, str_bytes]
def AtB (a b : Int) : Prop := a = b ∨ a = 63 ∨ b = 63
theorem rowFaults_zero (f h : Nat → Int) (l : List Nat) : rowFaults (l.map f) (l.map h) = 0 ↔ ∀ c ∈ l, AtB (f c) (h c) := by
 induction l with
 | nil => simp [rowFaults]
 | cons c l ih =>
  have hb := rowFaults_bounds (l.map f) (l.map h)
  rw [List.map_cons, List.map_cons, rowFaults, List.forall_mem_cons, ← ih]
  unfold AtB
  repeat' split
  all_goals (constructor <;> intro q <;> omega)
theorem faults_zero (g h : Nat → Nat → Int) (n : Nat) (l : List Nat) (hg : ∀ r c, r ∈ l → c < n → 0 ≤ g r c ∧ g r c ≤ 255) (hh : ∀ r c, r ∈ l → c < n → 0 ≤ h r c ∧ h r c ≤ 255) :
  0 ≤ faults (l.map fun r => dRow (g r) n) (l.map fun r => dRow (h r) n) ∧ (faults (l.map fun r => dRow (g r) n) (l.map fun r => dRow (h r) n) = 0 ↔ ∀ r ∈ l, ∀ c, c < n → AtB (g r c) (h r c)) := by
 induction l with
 | nil => simp [faults]
 | cons r l ih =>
  obtain ⟨i0, i1⟩ := ih (fun r c hr => hg r c (List.mem_cons_of_mem _ hr)) (fun r c hr => hh r c (List.mem_cons_of_mem _ hr))
  have hb := rowFaults_bounds (cs (dRow (g r) n)) (cs (dRow (h r) n))
  have hz := rowFaults_zero (g r) (h r) (List.range n)
  rw [← cs_dRow (g r) n (fun c hc => hg r c (by simp) hc), ← cs_dRow (h r) n (fun c hc => hh r c (by simp) hc)] at hz
  simp only [List.mem_range] at hz
  rw [List.map_cons, List.map_cons, faults, List.forall_mem_cons, ← i1, ← hz]
  refine ⟨by omega, ?_⟩
  constructor <;> intro q <;> omega
theorem cnt_le (f h : Nat → Int) (l : List Nat) (e : ∀ c ∈ l, f c = 63 → h c = 63) : cnt 63 (l.map f) ≤ cnt 63 (l.map h) := by
 induction l with
 | nil => simp [cnt]
 | cons c l ih =>
  have i := ih (fun x hx => e x (List.mem_cons_of_mem _ hx))
  have e0 := e c (by simp)
  rw [List.map_cons, List.map_cons, cnt_cons, cnt_cons]
  by_cases q : f c = 63
  ·rw [if_pos q, if_pos (e0 q)]; omega
  ·rw [if_neg q]
   split <;> omega
theorem total_le (g h : Nat → Nat → Int) (n : Nat) (l : List Nat) (hg : ∀ r c, r ∈ l → c < n → 0 ≤ g r c ∧ g r c ≤ 255) (hh : ∀ r c, r ∈ l → c < n → 0 ≤ h r c ∧ h r c ≤ 255)
  (e : ∀ r c, r ∈ l → c < n → g r c = 63 → h r c = 63) : total 63 (l.map fun r => dRow (g r) n) ≤ total 63 (l.map fun r => dRow (h r) n) := by
 induction l with
 | nil => simp [total]
 | cons r l ih =>
  have i := ih (fun r c hr => hg r c (List.mem_cons_of_mem _ hr)) (fun r c hr => hh r c (List.mem_cons_of_mem _ hr)) (fun r c hr => e r c (List.mem_cons_of_mem _ hr))
  have q := cnt_le (g r) (h r) (List.range n) (fun c hc => e r c (by simp) (List.mem_range.1 hc))
  rw [← cs_dRow (g r) n (fun c hc => hg r c (by simp) hc), ← cs_dRow (h r) n (fun c hc => hh r c (by simp) hc)] at q
  rw [List.map_cons, List.map_cons, total, total]
  omega
def plc (l : List ByteArray) (r c : Nat) : Int := bt (rdOf ByteArray.empty l (r : Int)) c
theorem same_texts (l : List ByteArray) (hl : l.length ≤ 1000) (d : Nat) : ∀ (i : Nat), i + d = l.length → ∀ k, d < k → laws_pSameTexts.l0 k l l l.length i = some true := by
 induction d with
 | zero =>
  intro i hi k hk
  obtain ⟨k, rfl⟩ : ∃ j, k = j + 1 := ⟨k - 1, by omega⟩
  rw [laws_pSameTexts.l0, if_neg (by omega)]
 | succ d ih =>
  intro i hi k hk
  obtain ⟨k, rfl⟩ : ∃ j, k = j + 1 := ⟨k - 1, by omega⟩
  rw [laws_pSameTexts.l0, if_pos (by omega), if_pos (by omega), if_pos (by omega), if_pos (by omega), if_pos rfl, w_next i (by omega)]
  exact ih (i + 1) (by omega) k (by omega)
theorem pSameTexts_self (l : List ByteArray) (hl : l.length ≤ 1000) (k : Nat) (hk : 1001 ≤ k) : laws_pSameTexts.f k l l = some true := by
 unfold laws_pSameTexts.f
 rw [if_pos rfl]
 exact same_texts l hl l.length 0 (by omega) k (by omega)
theorem grid_self {l : List ByteArray} (h : Grid chS 1 60 20 l = true) : dRows (plc l) l.length (wid l) = l := by
 obtain ⟨g1, g2, g3, g4, g5⟩ := grid_facts h
 apply List.ext_getElem
 ·rw [dRows_length]
 ·intro i h1 h2
  have e : (dRows (plc l) l.length (wid l))[i] = dRow (plc l i) (wid l) := by simp [dRows]
  rw [e]
  exact dRow_self _ _ (g5 _ (List.getElem_mem h2)).1 _ (fun c hc => by unfold plc; rw [rdB_get l i h2])
theorem plc_range {l : List ByteArray} (h : Grid chS 1 60 20 l = true) (r c : Nat) (hr : r < l.length) (hc : c < wid l) : 0 ≤ plc l r c ∧ plc l r c ≤ 255 := by
 rcases chS_cases (grid_at h r c hr hc) with e | e | e <;> (unfold plc; rw [e]; omega)
theorem ch_range {x : Int} (h : chS x = true) : 0 ≤ x ∧ x ≤ 255 := by
 rcases chS_cases h with e | e | e <;> omega
theorem faults_places {a b : List ByteArray} (h : Two a b = true) : 0 ≤ faults a b ∧ (faults a b = 0 ↔ ∀ r c, r < a.length → c < wid a → AtB (plc a r c) (plc b r c)) := by
 obtain ⟨ga, gb, e1, e2⟩ := two_facts h
 have ea := grid_self ga
 have eb := grid_self gb
 rw [← e1, ← e2] at eb
 have z := faults_zero (plc a) (plc b) (wid a) (List.range a.length) (fun r c hr hc => plc_range ga r c (List.mem_range.1 hr) hc) (fun r c hr hc => plc_range gb r c (by rw [← e1]; exact List.mem_range.1 hr) (by rw [← e2]; exact hc))
 have z1 : (List.range a.length).map (fun r => dRow (plc a r) (wid a)) = a := ea
 have z2 : (List.range a.length).map (fun r => dRow (plc b r) (wid a)) = b := eb
 rw [z1, z2] at z
 refine ⟨z.1, z.2.trans ⟨fun q r c hr hc => q r (List.mem_range.2 hr) c hc, fun q r hr c hc => q r c (List.mem_range.1 hr) hc⟩⟩
theorem drawn_small (g : Nat → Nat → Int) (R n : Nat) (hR : R ≤ 100) (hn : n ≤ 1000) : SmallScan (dRows g R n) := by
 refine ⟨by rw [dRows_length]; exact hR, fun s hs => ?_⟩
 unfold dRows at hs
 obtain ⟨r, _, rfl⟩ := List.mem_map.1 hs
 rw [dRow_size]
 exact hn
theorem small_big {l : List ByteArray} (h : SmallScan l) : l.length ≤ 1048576 ∧ ∀ s ∈ l, s.size ≤ 1048576 := ⟨by have := h.1; omega, fun s hs => by have := h.2 s hs; omega⟩
theorem grid_small {l : List ByteArray} (h : Grid chS 1 60 20 l = true) : SmallScan l := by
 obtain ⟨g1, g2, g3, g4, g5⟩ := grid_facts h
 exact ⟨by omega, fun s hs => by rw [(g5 s hs).1]; omega⟩
theorem fillB_size (m s : ByteArray) (hm : m.data.toList.length = 1) : (fillB m s).size = s.size := by
 show (fillL _ _).toArray.size = s.size
 rw [List.size_toArray, fillL_length _ _ hm, data_length]
theorem small_fuel {l : List ByteArray} (h : SmallScan l) : fuelR l ≤ 200000 := by
 have e := fuelR_bound l 1000 h.2
 have := Nat.mul_le_mul_right (1000 + 2) h.1
 omega
theorem plc_drawn (g : Nat → Nat → Int) (R n : Nat) (hg : ∀ r c, r < R → c < n → chS (g r c) = true) (r c : Nat) (hr : r < R) (hc : c < n) : plc (dRows g R n) r c = g r c := by
 unfold plc
 rw [row_dRows g R n r hr]
 exact bt_dRow (g r) n (fun c hc => ch_range (hg r c hr hc)) c hc
theorem implAgree_eq (a b : List ByteArray) (ha : a.length ≤ 1048576) (hsa : ∀ s ∈ a, s.size ≤ 1048576) (hb : b.length ≤ 1048576) (hsb : ∀ s ∈ b, s.size ≤ 1048576) (k : Nat) (hk : fuelR a < k ∧ fuelR b < k) :
  impl_AgreeScans.f k a b = some (if Two a b then (faults a b == 0, true) else (false, false)) := by
 unfold impl_AgreeScans.f
 rw [sameSize_eq a b ha hsa hb hsb k hk]
 simp only [Option.bind_some]
 by_cases h : Two a b = true
 ·obtain ⟨h1, h2, h3⟩ := two_sizes h
  rw [if_pos h, if_pos h, implFaults_eq a b (by omega) h2 (fun i hi => ⟨by have := (h3 i hi).1; omega, (h3 i hi).2⟩) k (by omega)]
  rfl
 ·rw [if_neg h, if_neg h]
theorem chk_holes (l : List S55) : ∀ p, chkSheet p l = true → ∀ x ∈ l, HoleOK x = true := by
 induction l with
 | nil => intro p _ x hx; simp at hx
 | cons y r ih =>
  intro p h x hx
  unfold chkSheet at h
  simp only [Bool.and_eq_true] at h
  rcases List.mem_cons.1 hx with e | e
  ·rw [e]; exact h.1.1.1
  ·exact ih _ h.2 x e
theorem sheet_holes (l : List S55) (h : SheetB l = true) : (∀ x ∈ l, 0 ≤ x.f1 ∧ x.f1 < x.f2 ∧ x.f2 ≤ 2000) ∧ l.length ≤ 60 := by
 unfold SheetB at h
 simp only [Bool.and_eq_true, decide_eq_true_eq] at h
 refine ⟨fun x hx => ?_, h.2⟩
 have := chk_holes l [] h.1 x hx
 unfold HoleOK at this
 simp only [decide_eq_true_eq] at this
 exact ⟨this.2.2.1, this.2.2.2.1, this.2.2.2.2⟩
def isAt (r c : Int) (x : S55) : Bool := decide (x.f0 = c ∧ x.f1 ≤ r ∧ r < x.f2)
def soG (l : List S55) (r c : Nat) : Int := if l.any (isAt (r : Int) (c : Int)) = true then 111 else 46
theorem closure_loop (l : List S55) (hl : l.length ≤ 1000) (r c : Int) (d : Nat) : ∀ (k i : Nat), i + d = l.length → d < k →
  impl_ScanOf_1.l0 k r c l l.length i = some (if (l.drop i).any (isAt r c) = true then 111 else 46) := by
 induction d with
 | zero =>
  intro k i hi hk
  obtain ⟨k, rfl⟩ : ∃ j, k = j + 1 := ⟨k - 1, by omega⟩
  rw [impl_ScanOf_1.l0, if_neg (by omega), List.drop_of_length_le (by omega)]
  rfl
 | succ d ih =>
  intro k i hi hk
  obtain ⟨k, rfl⟩ : ∃ j, k = j + 1 := ⟨k - 1, by omega⟩
  have e := ih k (i + 1) (by omega) (by omega)
  have hi' : i < l.length := by omega
  have hk1 : wrap64 ((i : Int) + 1) = ((i + 1 : Nat) : Int) := w_succ i (by omega)
  rw [impl_ScanOf_1.l0, if_pos (by omega), if_pos (by omega), if_pos (by omega), rdH_get l i hi', hk1, e, drop_get l i hi', List.any_cons]
  clear e hk1
  generalize l[i] = x
  unfold impl_isOpen.f isAt
  by_cases h1 : x.f0 = c
  ·rw [if_pos h1]
   by_cases h2 : x.f1 ≤ r
   ·rw [if_pos h2]
    simp only [Option.bind_some, decide_eq_true_eq]
    by_cases h3 : r < x.f2
    ·rw [if_pos h3, decide_eq_true (show x.f0 = c ∧ x.f1 ≤ r ∧ r < x.f2 from ⟨h1, h2, h3⟩)]
     rfl
    ·rw [if_neg h3, decide_eq_false (show ¬ (x.f0 = c ∧ x.f1 ≤ r ∧ r < x.f2) from fun h => h3 h.2.2), Bool.false_or]
   ·rw [if_neg h2, decide_eq_false (show ¬ (x.f0 = c ∧ x.f1 ≤ r ∧ r < x.f2) from fun h => h2 h.2.1), Bool.false_or]
    rfl
  ·rw [if_neg h1, decide_eq_false (show ¬ (x.f0 = c ∧ x.f1 ≤ r ∧ r < x.f2) from fun h => h1 h.1), Bool.false_or]
theorem closure_eq (l : List S55) (hl : l.length ≤ 1000) (r c : Nat) (k : Nat) (hk : l.length < k) : impl_ScanOf_1.f k (r : Int) (c : Int) l = some (soG l r c) := by
 unfold impl_ScanOf_1.f soG
 have := closure_loop l hl r c l.length k 0 (by omega) hk
 exact this
theorem put_loop (l : List Int) (hl : l.length ≤ 1000) (n : Int) (d : Nat) : ∀ (k i : Nat), i + d = l.length → d < k →
  ∃ ys, spec_l1Put.l0 k l n i = some ys ∧ ys.length ≤ l.length + 1 ∧ ∀ t, t ∈ ys ↔ t ∈ l ∨ t = n := by
 induction d with
 | zero =>
  intro k i hi hk
  obtain ⟨k, rfl⟩ : ∃ j, k = j + 1 := ⟨k - 1, by omega⟩
  rw [spec_l1Put.l0, if_neg (by omega)]
  simp only [Option.bind_some, Int.toNat_natCast, List.nil_append, List.length_nil, Nat.zero_add]
  have e1 : (l.take i).length = i := by rw [List.length_take]; omega
  have e2 : (l.drop i).length = 0 := by rw [List.length_drop]; omega
  rw [if_pos (by omega), if_pos (by omega), if_pos (by omega), if_pos (by omega)]
  simp only [List.length_append, List.length_singleton, e1, e2]
  rw [if_pos (by omega)]
  refine ⟨_, rfl, by simp only [List.length_append, List.length_singleton, e1, e2]; omega, fun t => ?_⟩
  have hm : t ∈ l ↔ t ∈ l.take i ∨ t ∈ l.drop i := by rw [← List.mem_append, List.take_append_drop]
  rw [hm]
  simp only [List.mem_append, List.mem_singleton]
  constructor
  ·rintro ((h | h) | h)
   ·exact .inl (.inl h)
   ·exact .inr h
   ·exact .inl (.inr h)
  ·rintro ((h | h) | h)
   ·exact .inl (.inl h)
   ·exact .inr h
   ·exact .inl (.inr h)
 | succ d ih =>
  intro k i hi hk
  obtain ⟨k, rfl⟩ : ∃ j, k = j + 1 := ⟨k - 1, by omega⟩
  have hi' : i < l.length := by omega
  have e := ih k (i + 1) (by omega) (by omega)
  have e1 : (l.take i).length = i := by rw [List.length_take]; omega
  have e2 : (l.drop i).length = l.length - i := by rw [List.length_drop]
  have hm : ∀ t, t ∈ l ↔ t ∈ l.take i ∨ t ∈ l.drop i := fun t => by rw [← List.mem_append, List.take_append_drop]
  rw [spec_l1Put.l0, if_pos (by omega), if_pos (by omega), rd_get l i hi', w_succ i (by omega)]
  by_cases h1 : l[i] < n
  ·rw [if_pos h1]; exact e
  ·rw [if_neg h1]
   by_cases h2 : l[i] = n
   ·rw [if_pos h2]
    refine ⟨l, rfl, by omega, fun t => ⟨fun h => .inl h, ?_⟩⟩
    rintro (h | h)
    ·exact h
    ·rw [h, ← h2]; exact List.getElem_mem hi'
   ·rw [if_neg h2]
    simp only [Option.bind_some, Int.toNat_natCast, List.nil_append, List.length_nil, Nat.zero_add]
    rw [if_pos (by omega), if_pos (by omega), if_pos (by omega)]
    simp only [List.length_append, List.length_singleton, e1, e2]
    rw [if_pos (by omega)]
    refine ⟨_, rfl, by simp only [List.length_append, List.length_singleton, e1, e2]; omega, fun t => ?_⟩
    rw [hm]
    simp only [List.mem_append, List.mem_singleton]
    constructor
    ·rintro ((h | h) | h)
     ·exact .inl (.inl h)
     ·exact .inr h
     ·exact .inl (.inr h)
    ·rintro ((h | h) | h)
     ·exact .inl (.inl h)
     ·exact .inr h
     ·exact .inl (.inr h)
theorem put_eq (l : List Int) (hl : l.length ≤ 1000) (n : Int) (k : Nat) (hk : l.length < k) :
  ∃ ys, spec_l1Put.f k l n = some ys ∧ ys.length ≤ l.length + 1 ∧ ∀ t, t ∈ ys ↔ t ∈ l ∨ t = n := by
 unfold spec_l1Put.f
 exact put_loop l hl n l.length k 0 (by omega) hk
theorem has_loop (l : List Int) (hl : l.length ≤ 1000) (n : Int) (d : Nat) : ∀ (k i : Nat), i + d = l.length → d < k → spec_l1Has.l0 k n l l.length i = some (decide (n ∈ l.drop i)) := by
 induction d with
 | zero =>
  intro k i hi hk
  obtain ⟨k, rfl⟩ : ∃ j, k = j + 1 := ⟨k - 1, by omega⟩
  rw [spec_l1Has.l0, if_neg (by omega), List.drop_of_length_le (by omega)]
  simp
 | succ d ih =>
  intro k i hi hk
  obtain ⟨k, rfl⟩ : ∃ j, k = j + 1 := ⟨k - 1, by omega⟩
  have hi' : i < l.length := by omega
  have e := ih k (i + 1) (by omega) (by omega)
  rw [spec_l1Has.l0, if_pos (by omega), if_pos (by omega), if_pos (by omega), rd_get l i hi', w_succ i (by omega), e, drop_get l i hi']
  by_cases h : l[i] = n
  ·rw [if_pos h]
   congr 1
   rw [eq_comm, decide_eq_true_eq]
   rw [h]; exact List.mem_cons_self
  ·rw [if_neg h]
   congr 1
   rw [decide_eq_decide, List.mem_cons]
   exact ⟨fun h' => .inr h', fun h' => h'.elim (fun e => absurd e.symm h) id⟩
theorem has_eq (l : List Int) (hl : l.length ≤ 1000) (n : Int) (k : Nat) (hk : l.length < k) : spec_l1Has.f k l n = some (decide (n ∈ l)) := by
 unfold spec_l1Has.f
 have := has_loop l hl n l.length k 0 (by omega) hk
 exact this
theorem open_loop (l : List S55) (hl : l.length ≤ 60) (hh : ∀ x ∈ l, 0 ≤ x.f1 ∧ x.f1 < x.f2 ∧ x.f2 ≤ 2000) (r : Int) (d : Nat) : ∀ (k i : Nat) (xs : List Int), i + d = l.length → d + 500 < k → xs.length ≤ i →
  (∃ ys, spec_shOpen.l0 k r xs l l.length i = some ys ∧ ys.length ≤ l.length ∧ ∀ c, c ∈ ys ↔ c ∈ xs ∨ (l.drop i).any (isAt r c) = true) := by
 induction d with
 | zero =>
  intro k i xs hi hk hx
  obtain ⟨k, rfl⟩ : ∃ j, k = j + 1 := ⟨k - 1, by omega⟩
  rw [spec_shOpen.l0, if_neg (by omega)]
  refine ⟨xs, rfl, by omega, fun c => ?_⟩
  rw [List.drop_of_length_le (by omega)]
  simp
 | succ d ih =>
  intro k i xs hi hk hx
  obtain ⟨k, rfl⟩ : ∃ j, k = j + 1 := ⟨k - 1, by omega⟩
  have hi' : i < l.length := by omega
  obtain ⟨b1, b2, b3⟩ := hh _ (List.getElem_mem hi')
  have e1 := ih k (i + 1) xs (by omega) (by omega) (by omega)
  obtain ⟨ys, hy, hyl, hym⟩ := put_eq xs (by omega) (l[i].f0) k (by omega)
  have e2 := ih k (i + 1) ys (by omega) (by omega) (by omega)
  have wp : wrap64 (l[i].f2 - 1) = l[i].f2 - 1 := w64 (by omega)
  rw [spec_shOpen.l0, if_pos (by omega), if_pos (by omega), if_pos (by omega), rdH_get l i hi', wp, in_eq, w_succ i (by omega), drop_get l i hi']
  simp only [Option.bind_some, decide_eq_true_eq]
  clear wp
  by_cases h : l[i].f1 ≤ r ∧ r ≤ l[i].f2 - 1
  ·rw [if_pos h, hy]
   simp only [Option.bind_some]
   obtain ⟨zs, hz, hzl, hzm⟩ := e2
   refine ⟨zs, hz, hzl, fun c => ?_⟩
   rw [hzm, hym, List.any_cons]
   have hc : isAt r c l[i] = decide (l[i].f0 = c) := by
    unfold isAt
    rw [decide_eq_decide]
    exact ⟨fun h' => h'.1, fun h' => ⟨h', h.1, by have := h.2; omega⟩⟩
   rw [hc, Bool.or_eq_true, decide_eq_true_eq]
   constructor
   ·rintro ((q | q) | q)
    ·exact .inl q
    ·exact .inr (.inl q.symm)
    ·exact .inr (.inr q)
   ·rintro (q | q | q)
    ·exact .inl (.inl q)
    ·exact .inl (.inr q.symm)
    ·exact .inr q
  ·rw [if_neg h]
   obtain ⟨zs, hz, hzl, hzm⟩ := e1
   refine ⟨zs, hz, hzl, fun c => ?_⟩
   have hc : isAt r c l[i] = false := by
    unfold isAt
    rw [decide_eq_false_iff_not]
    exact fun h' => h ⟨h'.2.1, by have := h'.2.2; omega⟩
   rw [hzm, List.any_cons, hc, Bool.false_or]
theorem open_eq (l : List S55) (hl : l.length ≤ 60) (hh : ∀ x ∈ l, 0 ≤ x.f1 ∧ x.f1 < x.f2 ∧ x.f2 ≤ 2000) (r : Int) (k : Nat) (hk : 1000 < k) :
  ∃ ys, spec_shOpen.f k l r = some ys ∧ ys.length ≤ l.length ∧ ∀ c, c ∈ ys ↔ l.any (isAt r c) = true := by
 obtain ⟨ys, h1, h2, h3⟩ := open_loop l hl hh r l.length k 0 [] (by omega) (by omega) (by simp)
 refine ⟨ys, h1, h2, fun c => ?_⟩
 rw [h3]
 simp
theorem str111 : strOfNums [(111 : Int)] = (⟨#[111]⟩ : ByteArray) := rfl
theorem str46 : strOfNums [(46 : Int)] = (⟨#[46]⟩ : ByteArray) := rfl
theorem soRow (l : List S55) (ys : List Int) (hy : ys.length ≤ 60) (R n r : Nat) (hn : n ≤ 1000) (hr : r ≤ 1000) (hm : ∀ c, c ∈ ys ↔ l.any (isAt (r : Int) c) = true) (acc : List ByteArray) (hacc : acc.length ≤ 1000) (d : Nat) :
  ∀ (k c : Nat), c + d = n → d + 200 < k → spec_scMake.l1 k l n R acc r ys (dRow (soG l r) c) c = spec_scMake.l0 (k - d - 1) l n R (acc ++ [dRow (soG l r) n]) ((r + 1 : Nat) : Int) := by
 induction d with
 | zero =>
  intro k c hc hk
  obtain ⟨k, rfl⟩ : ∃ j, k = j + 1 := ⟨k - 1, by omega⟩
  rw [spec_scMake.l1, if_neg (by omega), if_pos (by omega), w64 (by omega), show c = n by omega]
  rfl
 | succ d ih =>
  intro k c hc hk
  obtain ⟨k, rfl⟩ : ∃ j, k = j + 1 := ⟨k - 1, by omega⟩
  have e := ih k (c + 1) (by omega) (by omega)
  rw [dRow_succ] at e
  have hk' : k + 1 - (d + 1) - 1 = k - d - 1 := by omega
  have hlt : (c : Int) < (n : Int) := by omega
  have h3 : c + 1 ≤ 9223372036854775807 := by omega
  have hh := has_eq ys (by omega) (c : Int) k (by omega)
  have ec := w_succ c (by omega)
  rw [hk', ← e, spec_scMake.l1, if_pos hlt, hh]
  clear e ih
  simp only [Option.bind_some, decide_eq_true_eq]
  rw [ec, dRow_size, if_pos h3, if_pos h3]
  by_cases hA : (c : Int) ∈ ys
  ·have hG : soG l r c = 111 := by unfold soG; rw [if_pos ((hm _).1 hA)]
   rw [if_pos hA, hG, str111]
  ·have hG : soG l r c = 46 := by unfold soG; rw [if_neg (fun h => hA ((hm _).2 h))]
   rw [if_neg hA, hG, str46]
theorem soRows (l : List S55) (hl : l.length ≤ 60) (hh : ∀ x ∈ l, 0 ≤ x.f1 ∧ x.f1 < x.f2 ∧ x.f2 ≤ 2000) (R n : Nat) (hn : n ≤ 1000) (hR : R ≤ 1000) (d : Nat) :
  ∀ (k r : Nat), r + d = R → d * (n + 2) + 1200 < k → spec_scMake.l0 k l n R (dRows (soG l) r n) r = some (dRows (soG l) R n) := by
 induction d with
 | zero =>
  intro k r hr hk
  obtain ⟨k, rfl⟩ : ∃ j, k = j + 1 := ⟨k - 1, by omega⟩
  rw [spec_scMake.l0, if_neg (by omega), show r = R by omega]
 | succ d ih =>
  intro k r hr hk
  obtain ⟨k, rfl⟩ : ∃ j, k = j + 1 := ⟨k - 1, by omega⟩
  rw [Nat.succ_mul] at hk
  obtain ⟨ys, h1, h2, h3⟩ := open_eq l hl hh (r : Int) k (by omega)
  rw [spec_scMake.l0, if_pos (by omega), h1]
  simp only [Option.bind_some]
  have e := soRow l ys (by omega) R n r hn (by omega) h3 (dRows (soG l) r n) (by rw [dRows_length]; omega) n k 0 (by omega) (by omega)
  rw [dRow_zero, show ((0 : Nat) : Int) = 0 from rfl] at e
  rw [e, ← dRows_succ]
  exact ih (k - n - 1) (r + 1) (by omega) (by omega)
def soGood (l : List S55) (w r : Int) : Bool := SheetB l && decide ((1 ≤ w ∧ w ≤ 20) ∧ (1 ≤ r ∧ r ≤ 60))
def soOut (l : List S55) (w r : Int) : List ByteArray × Bool := if soGood l w r = true then (dRows (soG l) r.toNat w.toNat, true) else ([], false)
theorem so_both (l : List S55) (w r : Int) (hl : l.length ≤ 1048576) (k : Nat) (hk : fuelH 0 l.length + 20000 ≤ k) : spec_ScanOf.f k l w r = some (soOut l w r) ∧ impl_ScanOf.f k l w r = some (soOut l w r) := by
 unfold spec_ScanOf.f impl_ScanOf.f soOut soGood
 rw [shGood_eq l hl k (by omega), isSheet_eq l hl k (by omega)]
 simp only [Option.bind_some]
 cases hg : SheetB l with
 | false =>
  simp only [Bool.false_and, Bool.false_eq_true, if_false]
  exact ⟨trivial, trivial⟩
 | true =>
  obtain ⟨hh, hn⟩ := sheet_holes l hg
  simp only [if_true, Bool.true_and, decide_eq_true_eq]
  rw [in_eq, in_eq]
  simp only [Option.bind_some, decide_eq_true_eq]
  by_cases c1 : 1 ≤ w ∧ w ≤ 20
  ·rw [if_pos c1, if_neg (show ¬ w < 1 by omega), if_neg (show ¬ w > 20 by omega)]
   by_cases c2 : 1 ≤ r ∧ r ≤ 60
   ·obtain ⟨W, rfl⟩ : ∃ n : Nat, w = n := ⟨w.toNat, by omega⟩
    obtain ⟨R, rfl⟩ : ∃ n : Nat, r = n := ⟨r.toNat, by omega⟩
    rw [if_pos c2, if_neg (show ¬ (R : Int) < 1 by omega), if_neg (show ¬ (R : Int) > 60 by omega), if_pos ⟨c1, c2⟩, Int.toNat_natCast, Int.toNat_natCast]
    refine ⟨?_, ?_⟩
    ·unfold spec_scMake.f
     have e := soRows l hn hh R W (by omega) (by omega) R k 0 (by omega) (by
      have : R * (W + 2) ≤ 60 * 22 := Nat.mul_le_mul (by omega) (by omega)
      omega)
     have e' : spec_scMake.l0 k l W R ([] : List ByteArray) 0 = some (dRows (soG l) R W) := e
     rw [e']
     rfl
    ·rw [drawn_eq _ R W (by omega) (by omega) (soG l) (fun a b _ _ => closure_eq l (by omega) a b k (by omega)) k (by omega)]
     rfl
   ·rw [if_neg c2, if_neg (show ¬ ((1 ≤ w ∧ w ≤ 20) ∧ (1 ≤ r ∧ r ≤ 60)) from fun h => c2 h.2)]
    refine ⟨rfl, ?_⟩
    by_cases h : r < 1
    ·rw [if_pos h]
    ·rw [if_neg h, if_pos (by omega)]
  ·rw [if_neg c1, if_neg (show ¬ ((1 ≤ w ∧ w ≤ 20) ∧ (1 ≤ r ∧ r ≤ 60)) from fun h => c1 h.1)]
   refine ⟨rfl, ?_⟩
   by_cases h : w < 1
   ·rw [if_pos h]
   ·rw [if_neg h, if_pos (by omega)]
theorem out_length (l : List S55) (w r : Int) : (soOut l w r).1.length ≤ 1000 := by
 unfold soOut
 by_cases h : soGood l w r = true
 ·rw [if_pos h, dRows_length]
  unfold soGood at h
  simp only [Bool.and_eq_true, decide_eq_true_eq] at h
  omega
 ·rw [if_neg h]; simp
def opnB (r : Int) (x : S55) : Bool := decide (x.f1 ≤ r ∧ r < x.f2)
def openAt (l : List S55) (r : Int) : List Int := (l.filter (opnB r)).map (·.f0)
def openL (l : List S55) (r : Int) : List Int := (openAt l r).mergeSort fun x y => decide (x ≤ y)
theorem strict_unique : ∀ (L M : List Int), L.Pairwise (· < ·) → M.Pairwise (· < ·) → (∀ t, t ∈ L ↔ t ∈ M) → L = M
 | [], [], _, _, _ => rfl
 | [], b :: M, _, _, h => absurd ((h b).2 List.mem_cons_self) (by simp)
 | a :: L, [], _, _, h => absurd ((h a).1 List.mem_cons_self) (by simp)
 | a :: L, b :: M, hL, hM, h => by
  rw [List.pairwise_cons] at hL hM
  have e : a = b := by
   rcases List.mem_cons.1 ((h a).1 List.mem_cons_self) with e | e
   ·exact e
   ·rcases List.mem_cons.1 ((h b).2 List.mem_cons_self) with e2 | e2
    ·exact e2.symm
    ·have h1 := hM.1 a e
     have h2 := hL.1 b e2
     omega
  subst e
  rw [strict_unique L M hL.2 hM.2 (fun t => ?_)]
  have ht := h t
  rw [List.mem_cons, List.mem_cons] at ht
  constructor
  ·intro m
   rcases ht.1 (.inr m) with e | e
   ·have := hL.1 t m; omega
   ·exact e
  ·intro m
   rcases ht.2 (.inr m) with e | e
   ·have := hM.1 t m; omega
   ·exact e
def Gap (y x : S55) : Prop := x.f0 = y.f0 → y.f2 < x.f1
theorem chk_gaps (l : List S55) : ∀ p, chkSheet p l = true → l.Pairwise Gap ∧ ∀ y ∈ p, ∀ x ∈ l, Gap y x := by
 induction l with
 | nil => intro p _; exact ⟨List.Pairwise.nil, fun y _ x hx => by simp at hx⟩
 | cons z r ih =>
  intro p h
  unfold chkSheet at h
  simp only [Bool.and_eq_true] at h
  obtain ⟨i1, i2⟩ := ih _ h.2
  have ha := h.1.2
  unfold apartOK at ha
  rw [List.all_eq_true] at ha
  refine ⟨List.pairwise_cons.2 ⟨fun x hx => i2 z (by simp) x hx, i1⟩, fun y hy x hx => ?_⟩
  rcases List.mem_cons.1 hx with e | e
  ·subst e
   intro e0
   have := ha y hy
   simp only [Bool.not_eq_true', Bool.and_eq_false_iff, decide_eq_false_iff_not] at this
   rcases this with q | q
   ·exact absurd e0 q
   ·omega
  ·exact i2 y (by simp [hy]) x e
theorem open_mem (l : List S55) (r c : Int) : c ∈ openL l r ↔ l.any (isAt r c) = true := by
 unfold openL
 rw [List.mem_mergeSort]
 unfold openAt isAt opnB
 rw [List.mem_map, List.any_eq_true]
 constructor
 ·rintro ⟨x, hx, rfl⟩
  rw [List.mem_filter, decide_eq_true_eq] at hx
  exact ⟨x, hx.1, decide_eq_true ⟨rfl, hx.2⟩⟩
 ·rintro ⟨x, hx, hd⟩
  have := of_decide_eq_true hd
  exact ⟨x, List.mem_filter.2 ⟨hx, decide_eq_true this.2⟩, this.1⟩
theorem open_strict (l : List S55) (h : SheetB l = true) (r : Int) : (openL l r).Pairwise (· < ·) := by
 unfold SheetB at h
 simp only [Bool.and_eq_true, decide_eq_true_eq] at h
 have g := (chk_gaps l [] h.1).1
 have nd : (openAt l r).Pairwise (fun a b => a ≠ b) := by
  unfold openAt
  rw [List.pairwise_map]
  refine List.Pairwise.imp_of_mem ?_ (g.filter (opnB r))
  intro a b ha hb hg e
  rw [List.mem_filter] at ha hb
  have h1 := of_decide_eq_true ha.2
  have h2 := of_decide_eq_true hb.2
  have := hg e.symm
  omega
 have hp : (openL l r).Perm (openAt l r) := List.mergeSort_perm _ _
 have nd2 : (openL l r).Pairwise (fun a b => a ≠ b) := hp.symm.pairwise nd (fun h => h.symm)
 have so : (openL l r).Pairwise (fun a b => decide (a ≤ b) = true) := by
  unfold openL
  exact List.pairwise_mergeSort (fun a b c h1 h2 => by simp only [decide_eq_true_eq] at *; omega) (fun a b => by simp only [Bool.or_eq_true, decide_eq_true_eq]; omega) _
 refine List.Pairwise.imp ?_ (nd2.and so)
 intro a b hab
 have := of_decide_eq_true hab.2
 have := hab.1
 omega
theorem openAt_cons (x : S55) (l : List S55) (r : Int) : openAt (x :: l) r = if opnB r x = true then x.f0 :: openAt l r else openAt l r := by
 unfold openAt
 rw [List.filter_cons]
 split <;> rfl
theorem implOpen_loop (l : List S55) (hl : l.length ≤ 60) (r : Int) (d : Nat) : ∀ (k i : Nat) (xs : List Int), i + d = l.length → d < k → xs.length ≤ i →
  impl_OpenTracks.l0 k r xs l l.length i = some ((xs ++ openAt (l.drop i) r).mergeSort fun x y => decide (x ≤ y), true) := by
 induction d with
 | zero =>
  intro k i xs hi hk hx
  obtain ⟨k, rfl⟩ : ∃ j, k = j + 1 := ⟨k - 1, by omega⟩
  rw [impl_OpenTracks.l0, if_neg (by omega), List.drop_of_length_le (by omega)]
  unfold impl_sortInts.f
  rw [if_pos (by omega), show openAt [] r = [] from rfl, List.append_nil]
  rfl
 | succ d ih =>
  intro k i xs hi hk hx
  obtain ⟨k, rfl⟩ : ∃ j, k = j + 1 := ⟨k - 1, by omega⟩
  have hi' : i < l.length := by omega
  have e1 := ih k (i + 1) xs (by omega) (by omega) (by omega)
  have e2 := ih k (i + 1) (xs ++ [l[i].f0]) (by omega) (by omega) (by simp; omega)
  rw [List.append_assoc] at e2
  have ho : impl_isOpen.f l[i].f0 l[i].f1 l[i].f2 r = some (opnB r l[i]) := by
   unfold impl_isOpen.f opnB
   by_cases h : l[i].f1 ≤ r
   ·rw [if_pos h]
    exact someD (by omega)
   ·rw [if_neg h, decide_eq_false (fun q => h q.1)]
  rw [impl_OpenTracks.l0, if_pos (by omega), if_pos (by omega), if_pos (by omega), rdH_get l i hi', ho, w_succ i (by omega), drop_get l i hi', openAt_cons]
  simp only [Option.bind_some]
  by_cases h : opnB r l[i] = true
  ·rw [if_pos h, if_pos h, if_pos (by omega), e2]
   rfl
  ·rw [if_neg h, if_neg h, e1]
theorem put_strict (l : List Int) (hl : l.length ≤ 1000) (hs : l.Pairwise (· < ·)) (n : Int) (d : Nat) : ∀ (k i : Nat), i + d = l.length → d < k → (∀ j (h : j < l.length), j < i → l[j] < n) →
  ∃ ys, spec_l1Put.l0 k l n i = some ys ∧ ys.Pairwise (· < ·) := by
 have fin : ∀ i, i ≤ l.length → (∀ j (h : j < l.length), j < i → l[j] < n) → (∀ j (h : j < l.length), i ≤ j → n < l[j]) → ((l.take i ++ [n]) ++ l.drop i).Pairwise (· < ·) := by
  intro i hi h1 h2
  rw [List.append_assoc, List.pairwise_append]
  refine ⟨hs.sublist (List.take_sublist _ _), ?_, ?_⟩
  ·rw [List.singleton_append, List.pairwise_cons]
   refine ⟨fun y hy => ?_, hs.sublist (List.drop_sublist _ _)⟩
   obtain ⟨j, hj, rfl⟩ := List.mem_iff_getElem.1 hy
   rw [List.length_drop] at hj
   rw [List.getElem_drop]
   exact h2 (i + j) (by omega) (by omega)
  ·intro a ha y hy
   obtain ⟨j, hj, rfl⟩ := List.mem_iff_getElem.1 ha
   rw [List.length_take] at hj
   rw [List.getElem_take]
   have hb := h1 j (by omega) (by omega)
   rcases List.mem_cons.1 (by simpa using hy) with rfl | hy
   ·exact hb
   ·obtain ⟨q, hq, rfl⟩ := List.mem_iff_getElem.1 hy
    rw [List.length_drop] at hq
    rw [List.getElem_drop]
    exact (List.pairwise_iff_getElem.1 hs) j (i + q) (by omega) (by omega) (by omega)
 induction d with
 | zero =>
  intro k i hi hk hb
  obtain ⟨k, rfl⟩ : ∃ j, k = j + 1 := ⟨k - 1, by omega⟩
  have hf := fin i (by omega) hb (fun j h q => by omega)
  rw [spec_l1Put.l0, if_neg (by omega)]
  simp only [Option.bind_some, Int.toNat_natCast, List.nil_append, List.length_nil, Nat.zero_add]
  have e1 : (l.take i).length = i := by rw [List.length_take]; omega
  have e2 : (l.drop i).length = 0 := by rw [List.length_drop]; omega
  rw [if_pos (by omega), if_pos (by omega), if_pos (by omega), if_pos (by omega)]
  simp only [List.length_append, List.length_singleton, e1, e2]
  rw [if_pos (by omega)]
  exact ⟨_, rfl, hf⟩
 | succ d ih =>
  intro k i hi hk hb
  obtain ⟨k, rfl⟩ : ∃ j, k = j + 1 := ⟨k - 1, by omega⟩
  have hi' : i < l.length := by omega
  have e1 : (l.take i).length = i := by rw [List.length_take]; omega
  have e2 : (l.drop i).length = l.length - i := by rw [List.length_drop]
  rw [spec_l1Put.l0, if_pos (by omega), if_pos (by omega), rd_get l i hi', w_succ i (by omega)]
  by_cases h1 : l[i] < n
  ·rw [if_pos h1]
   exact ih k (i + 1) (by omega) (by omega) (fun j h q => by
    by_cases e : j = i
    ·subst e; exact h1
    ·exact hb j h (by omega))
  ·rw [if_neg h1]
   by_cases h2 : l[i] = n
   ·rw [if_pos h2]
    exact ⟨l, rfl, hs⟩
   ·rw [if_neg h2]
    have hf := fin i (by omega) hb (fun j h q => by
     by_cases e : j = i
     ·subst e; omega
     ·have := (List.pairwise_iff_getElem.1 hs) i j hi' h (by omega)
      omega)
    simp only [Option.bind_some, Int.toNat_natCast, List.nil_append, List.length_nil, Nat.zero_add]
    rw [if_pos (by omega), if_pos (by omega), if_pos (by omega)]
    simp only [List.length_append, List.length_singleton, e1, e2]
    rw [if_pos (by omega)]
    exact ⟨_, rfl, hf⟩
theorem openS_loop (l : List S55) (hl : l.length ≤ 60) (hh : ∀ x ∈ l, 0 ≤ x.f1 ∧ x.f1 < x.f2 ∧ x.f2 ≤ 2000) (r : Int) (d : Nat) : ∀ (k i : Nat) (xs : List Int), i + d = l.length → d + 500 < k → xs.length ≤ i → xs.Pairwise (· < ·) →
  (∃ ys, spec_shOpen.l0 k r xs l l.length i = some ys ∧ ys.Pairwise (· < ·)) := by
 induction d with
 | zero =>
  intro k i xs hi hk hx hs
  obtain ⟨k, rfl⟩ : ∃ j, k = j + 1 := ⟨k - 1, by omega⟩
  rw [spec_shOpen.l0, if_neg (by omega)]
  exact ⟨xs, rfl, hs⟩
 | succ d ih =>
  intro k i xs hi hk hx hs
  obtain ⟨k, rfl⟩ : ∃ j, k = j + 1 := ⟨k - 1, by omega⟩
  have hi' : i < l.length := by omega
  obtain ⟨b1, b2, b3⟩ := hh _ (List.getElem_mem hi')
  obtain ⟨ys, hy, hyl, -⟩ := put_eq xs (by omega) (l[i].f0) k (by omega)
  obtain ⟨zs, hz, hzs⟩ := put_strict xs (by omega) hs (l[i].f0) xs.length k 0 (by omega) (by omega) (fun j h q => by omega)
  have ez : zs = ys := by
   have : spec_l1Put.f k xs l[i].f0 = some zs := hz
   rw [hy] at this
   exact (Option.some.inj this).symm
  subst ez
  have wp : wrap64 (l[i].f2 - 1) = l[i].f2 - 1 := w64 (by omega)
  rw [spec_shOpen.l0, if_pos (by omega), if_pos (by omega), if_pos (by omega), rdH_get l i hi', wp, in_eq, w_succ i (by omega)]
  simp only [Option.bind_some, decide_eq_true_eq]
  by_cases h : l[i].f1 ≤ r ∧ r ≤ l[i].f2 - 1
  ·rw [if_pos h, hy]
   exact ih k (i + 1) zs (by omega) (by omega) (by omega) hzs
  ·rw [if_neg h]
   exact ih k (i + 1) xs (by omega) (by omega) (by omega) hs
theorem specOpen_eq (l : List S55) (hg : SheetB l = true) (r : Int) (k : Nat) (hk : 1000 < k) : spec_shOpen.f k l r = some (openL l r) := by
 obtain ⟨hh, hn⟩ := sheet_holes l hg
 obtain ⟨ys, h1, -, h3⟩ := open_eq l hn hh r k hk
 obtain ⟨zs, h4, h5⟩ := openS_loop l hn hh r l.length k 0 [] (by omega) (by omega) (by simp) List.Pairwise.nil
 have e : spec_shOpen.f k l r = some zs := h4
 rw [h1] at e
 obtain rfl := Option.some.inj e
 rw [h1, strict_unique ys (openL l r) h5 (open_strict l hg r) (fun t => by rw [h3, open_mem])]
theorem openTracks_both (l : List S55) (hg : SheetB l = true) (r : Nat) (hr : r < 60) (k : Nat) (hk : fuelH 0 l.length + 2000 ≤ k) :
  spec_OpenTracks.f k l (r : Int) = some (openL l r, true) ∧ impl_OpenTracks.f k l (r : Int) = some (openL l r, true) := by
 obtain ⟨hh, hn⟩ := sheet_holes l hg
 have hl : l.length ≤ 1048576 := by omega
 unfold spec_OpenTracks.f impl_OpenTracks.f
 rw [shGood_eq l hl k (by omega), isSheet_eq l hl k (by omega), hg]
 simp only [Option.bind_some, if_true]
 constructor
 ·unfold spec_shStep.f
  rw [in_eq]
  simp only [Option.bind_some, decide_eq_true_eq]
  rw [if_pos (by omega), specOpen_eq l hg r k (by omega)]
  rfl
 ·obtain ⟨k, rfl⟩ : ∃ j, k = j + 1 := ⟨k - 1, by omega⟩
  rw [if_neg (by omega), impl_OpenTracks.j0, decide_eq_false (by omega), if_neg (by decide)]
  have := implOpen_loop l hn r l.length k 0 [] (by omega) (by omega) (by simp)
  exact this
theorem total_zero (m : Int) : ∀ l : List ByteArray, 0 ≤ total m l ∧ (total m l = 0 → ∀ s ∈ l, ∀ c ∈ cs s, c ≠ m) ∧ (0 < total m l → ∃ s ∈ l, m ∈ cs s)
 | [] => ⟨Int.le_refl _, fun _ s hs => by simp at hs, fun h => absurd h (by show ¬ (0 : Int) < 0; omega)⟩
 | s :: r => by
  obtain ⟨h1, h2, h3⟩ := total_zero m r
  have hb := cnt_bounds m (cs s)
  have e : total m (s :: r) = cnt m (cs s) + total m r := rfl
  rw [e]
  refine ⟨by omega, fun h x hx c hc => ?_, fun h => ?_⟩
  ·rcases List.mem_cons.1 hx with rfl | hx
   ·intro ec
    have h0 : cnt m (cs x) = 0 := by omega
    unfold cnt at h0
    have := List.countP_eq_zero.1 (by omega : (cs x).countP (fun c => c == m) = 0) c hc
    simp [ec] at this
   ·exact h2 (by omega) x hx c hc
  ·by_cases h0 : 0 < cnt m (cs s)
   ·unfold cnt at h0
    obtain ⟨c, hc, e2⟩ := List.countP_pos_iff.1 (by omega : 0 < (cs s).countP (fun c => c == m))
    have : c = m := by simpa using e2
    subst this
    exact ⟨s, List.mem_cons_self, hc⟩
   ·obtain ⟨x, hx, hm⟩ := h3 (by omega)
    exact ⟨x, List.mem_cons_of_mem _ hx, hm⟩
theorem last_rd (I : List S55) (h : S55) : rd_T55 (I ++ [h]) (I.length : Int) = h := by
 rw [rdH_get _ I.length (by simp), List.getElem_append_right (by omega)]; simp
theorem last_set (I : List S55) (h v : S55) : (I ++ [h]).set I.length v = I ++ [v] := by
 rw [List.set_append_right _ _ (by omega), Nat.sub_self, List.set_cons_zero]
theorem mg_nil (t a b : Int) : mg [] t a b = [⟨t, a, b⟩] := rfl
theorem mg_last (I : List S55) (h : S55) (t a b : Int) : mg (I ++ [h]) t a b = if h.f0 = t ∧ a ≤ h.f2 then I ++ [⟨h.f0, h.f1, mx h.f2 b⟩] else I ++ [h] ++ [⟨t, a, b⟩] := by
 unfold mg
 rw [List.getLast?_concat]
 simp only [List.dropLast_concat]
def Opn (l : List ByteArray) (w : Nat) (t s : Int) : Prop := 0 ≤ t ∧ t < w ∧ ∃ r : Nat, ∃ h : r < l.length, s = r ∧ bt (l[r]'h) t = 111
def Clean (l : List ByteArray) (w : Nat) : Prop := ∀ (r : Nat) (h : r < l.length) (c : Nat), c < w → bt (l[r]'h) (c : Int) = 46 ∨ bt (l[r]'h) (c : Int) = 111
def AllOf (l : List ByteArray) (w : Nat) : Prop := l.length ≤ 60 ∧ 0 < l.length ∧ w ≤ 20 ∧ ∀ s ∈ l, s.size = w
section
variable {l : List ByteArray} {w : Nat} (ha : AllOf l w)
include ha
theorem size_at (r : Nat) (h : r < l.length) : l[r].size = w := ha.2.2.2 _ (List.getElem_mem h)
theorem spec_hole (out : List S55) (c r : Nat) (hc : c < w) (hr : r < l.length) (ho : out.length ≤ 1048576) (h1 : bt l[r] (c : Int) = 111) (h2 : ∀ h ∈ out, h.f0 < (c : Int) ∨ (h.f0 = (c : Int) ∧ h.f2 ≤ r)) (k : Nat) :
  spec_scHoles.l1 (k + 1) l out c l l.length r = spec_scHoles.l1 k l (mg out c r ((r : Int) + 1)) c l l.length ((r + 1 : Nat) : Int) := by
 have hl := ha.1
 have hw := ha.2.2.1
 have er : wrap64 ((r : Int) + 1) = ((r + 1 : Nat) : Int) := by rw [w64 (by omega)]; omega
 rw [spec_scHoles.l1, if_pos (by omega), if_pos (by omega), if_pos (by omega), if_pos (by omega), rdB_get l r hr, size_at ha r hr, if_pos (by omega), h1, if_neg (by decide), if_neg (by decide), er]
 rcases List.eq_nil_or_concat out with rfl | ⟨I, h, e⟩
 ·rw [if_neg (by simp), if_pos (by simp), mg_nil]
  rfl
 ·rw [List.concat_eq_append] at e
  subst e
  have hh := h2 h (List.mem_append_right _ (List.mem_singleton.2 rfl))
  have el : wrap64 (((I ++ [h]).length : Int) - 1) = (I.length : Int) := by rw [List.length_append, List.length_singleton, w64 (by simp at ho; omega)]; omega
  rw [if_pos (by rw [List.length_append, List.length_singleton]; omega), el, if_pos (by omega), if_pos (by rw [List.length_append, List.length_singleton]; omega), last_rd, mg_last]
  by_cases h3 : h.f0 = (c : Int)
  ·rw [if_pos h3]
   by_cases h4 : h.f2 = (r : Int)
   ·have em : mx h.f2 ((r : Int) + 1) = ((r + 1 : Nat) : Int) := by unfold mx; omega
    rw [if_pos h4, Int.toNat_natCast, last_set, if_pos ⟨h3, by omega⟩, em]
   ·rw [if_neg h4, if_pos (by omega), if_neg (fun g => h4 (by omega))]
    rfl
  ·rw [if_neg h3, if_pos (by omega), if_neg (fun g => h3 g.1)]
   rfl
theorem spec_paper (out : List S55) (c r : Nat) (hc : c < w) (hr : r < l.length) (h1 : bt l[r] (c : Int) = 46) (k : Nat) :
  spec_scHoles.l1 (k + 1) l out c l l.length r = spec_scHoles.l1 k l out c l l.length ((r + 1 : Nat) : Int) := by
 have hl := ha.1
 have hw := ha.2.2.1
 have er : wrap64 ((r : Int) + 1) = ((r + 1 : Nat) : Int) := by rw [w64 (by omega)]; omega
 rw [spec_scHoles.l1, if_pos (by omega), if_pos (by omega), if_pos (by omega), if_pos (by omega), rdB_get l r hr, size_at ha r hr, if_pos (by omega), h1, if_neg (by decide), if_pos rfl, er]
theorem spec_stain (out : List S55) (c r : Nat) (hc : c < w) (hr : r < l.length) (h1 : bt l[r] (c : Int) = 63) (k : Nat) :
  spec_scHoles.l1 (k + 1) l out c l l.length r = some ([], false) := by
 have hl := ha.1
 have hw := ha.2.2.1
 rw [spec_scHoles.l1, if_pos (by omega), if_pos (by omega), if_pos (by omega), if_pos (by omega), rdB_get l r hr, size_at ha r hr, if_pos (by omega), h1, if_pos rfl]
theorem spec_col_end (out : List S55) (c : Nat) (hc : c < w) (k : Nat) :
  spec_scHoles.l1 (k + 1) l out c l l.length l.length = spec_scHoles.l0 k l out ((c + 1 : Nat) : Int) := by
 have hw := ha.2.2.1
 rw [spec_scHoles.l1, if_neg (by omega), w64 (by omega)]
 rfl
theorem width_eq : ((rdOf ByteArray.empty l 0).size : Int) = (w : Int) := by
 have h0 := ha.2.1
 have e : rdOf ByteArray.empty l 0 = l[0] := rdB_get l 0 h0
 rw [e, size_at ha 0 h0]
theorem spec_col (hcl : Clean l w) (c : Nat) (hc : c < w) {R : List S55 × Bool}
  (hk : ∀ out, Norm out → (∀ t s, Cov out t s ↔ t < ((c + 1 : Nat) : Int) ∧ Opn l w t s) → (∀ h ∈ out, h.f0 < ((c + 1 : Nat) : Int)) → out.length ≤ 61 * (c + 1) → Evn (fun k => spec_scHoles.l0 k l out ((c + 1 : Nat) : Int)) R) (d : Nat) :
  ∀ (r : Nat) (out : List S55), r + d = l.length → Norm out → (∀ t s, Cov out t s ↔ (t < (c : Int) ∨ (t = (c : Int) ∧ s < (r : Int))) ∧ Opn l w t s) → (∀ h ∈ out, h.f0 < (c : Int) ∨ (h.f0 = (c : Int) ∧ h.f2 ≤ r)) → out.length ≤ 61 * c + r →
  Evn (fun k => spec_scHoles.l1 k l out c l l.length r) R := by
 have hl := ha.1
 have hw := ha.2.2.1
 induction d with
 | zero =>
  intro r out hr hn hcv hb hlen
  obtain rfl : r = l.length := by omega
  refine Evn.step (h := fun k => spec_scHoles.l0 k l out ((c + 1 : Nat) : Int)) (fun k => spec_col_end ha out c hc k) (hk out hn (fun t s => ?_) (fun h hh => by have := hb h hh; omega) (by omega))
  rw [hcv]
  constructor
  ·rintro ⟨h1, h2⟩; exact ⟨by omega, h2⟩
  ·rintro ⟨h1, h2⟩
   refine ⟨?_, h2⟩
   obtain ⟨_, _, q, hq, e, _⟩ := h2
   omega
 | succ d ih =>
  intro r out hr hn hcv hb hlen
  have hr' : r < l.length := by omega
  rcases hcl r hr' c hc with h1 | h1
  ·refine Evn.step (fun k => spec_paper ha out c r hc hr' h1 k) (ih (r + 1) out (by omega) hn (fun t s => ?_) (fun h hh => by have := hb h hh; omega) (by omega))
   rw [hcv]
   constructor
   ·rintro ⟨g1, g2⟩; exact ⟨by omega, g2⟩
   ·rintro ⟨g1, g2⟩
    refine ⟨?_, g2⟩
    obtain ⟨_, _, q, hq, e, e2⟩ := g2
    by_cases hx : t = (c : Int) ∧ q = r
    ·obtain ⟨rfl, rfl⟩ := hx
     rw [h1] at e2; exact absurd e2 (by decide)
    ·omega
  ·obtain ⟨m1, m2, m3, m4⟩ := mg_ok out c r ((r : Int) + 1) hn (by omega) (fun h hh => by have := hb h hh; have := hn.2 h hh; omega)
   refine Evn.step (fun k => spec_hole ha out c r hc hr' (by omega) h1 hb k) (ih (r + 1) _ (by omega) m1 (fun t s => ?_) (fun h hh => ?_) (by omega))
   ·rw [m2, hcv]
    constructor
    ·rintro (⟨g1, g2⟩ | ⟨g1, g2, g3⟩)
     ·exact ⟨by omega, g2⟩
     ·obtain rfl : s = (r : Int) := by omega
      subst g1
      exact ⟨by omega, by omega, by omega, r, hr', rfl, h1⟩
    ·rintro ⟨g1, g2⟩
     by_cases hx : t = (c : Int) ∧ s = (r : Int)
     ·exact Or.inr ⟨hx.1.symm, by omega, by omega⟩
     ·exact Or.inl ⟨by omega, g2⟩
   ·have hx3 := m3 h hh
    have hx2 : h.f0 = (c : Int) → h.f2 ≤ ((r + 1 : Nat) : Int) := by
     intro e
     rcases Int.lt_or_le ((r + 1 : Nat) : Int) h.f2 with g | g
     ·exfalso
      have cc := (m2 (c : Int) ((r + 1 : Nat) : Int)).1 ⟨h, hh, e, by have := m1.2 h hh; omega, g⟩
      rcases cc with ⟨y, hy, e1, e2, e3⟩ | cc
      ·have := hb y hy; omega
      ·omega
     ·exact g
    omega
theorem spec_cols (hcl : Clean l w) (L : List S55) (hL : Norm L) (hLl : L.length ≤ 1220) (hLc : ∀ t s, Cov L t s ↔ Opn l w t s) (d : Nat) : ∀ (c : Nat) (out : List S55), c + d = w → Norm out → (∀ t s, Cov out t s ↔ t < (c : Int) ∧ Opn l w t s) → (∀ h ∈ out, h.f0 < (c : Int)) → out.length ≤ 61 * c →
  Evn (fun k => spec_scHoles.l0 k l out c) (shOf L) := by
 have hw := ha.2.2.1
 have h0 := ha.2.1
 induction d with
 | zero =>
  intro c out hc hn hcv hb hlen
  have e : out = L := norm_unique out L hn hL (fun t s => by
   rw [hcv, hLc]
   constructor
   ·exact fun h => h.2
   ·intro h
    have := h.2.1
    exact ⟨by omega, h⟩)
  subst e
  refine Evn.step (h := fun k => (spec_shSorted.f k out).bind fun bt => some (bt.1, bt.2)) (fun k => by rw [spec_scHoles.l0, if_pos (by omega), width_eq ha, if_neg (by omega)]) ?_
  exact Evn.bind (shSorted_eq hn (by omega)) (Evn.const (fun k => rfl))
 | succ d ih =>
  intro c out hc hn hcv hb hlen
  refine Evn.step (h := fun k => spec_scHoles.l1 k l out c l l.length ((0 : Nat) : Int)) (fun k => by rw [spec_scHoles.l0, if_pos (by omega), width_eq ha, if_pos (by omega)]; rfl) ?_
  refine spec_col ha hcl c (by omega) (fun out' a1 a2 a3 a4 => ih (c + 1) out' (by omega) a1 a2 a3 a4) l.length 0 out (by omega) hn (fun t s => ?_) (fun h hh => Or.inl (hb h hh)) (by omega)
  rw [hcv]
  constructor
  ·rintro ⟨g1, g2⟩; exact ⟨Or.inl g1, g2⟩
  ·rintro ⟨g1, g2⟩
   refine ⟨?_, g2⟩
   obtain ⟨_, _, q, hq, e, _⟩ := g2
   omega
theorem spec_bad (hch : ∀ (r : Nat) (h : r < l.length) (c : Nat), c < w → bt l[r] (c : Int) = 46 ∨ bt l[r] (c : Int) = 111 ∨ bt l[r] (c : Int) = 63)
  (d : Nat) : ∀ (e c r : Nat) (out : List S55), c + d = w → r + e = l.length → out.length ≤ 61 * c + r → (∀ h ∈ out, h.f0 < (c : Int) ∨ (h.f0 = (c : Int) ∧ h.f2 ≤ r)) → (∃ (r' : Nat) (h : r' < l.length) (c' : Nat), c' < w ∧ bt l[r'] (c' : Int) = 63 ∧ (c < c' ∨ (c = c' ∧ r ≤ r'))) → 0 < d →
  Evn (fun k => spec_scHoles.l1 k l out c l l.length r) (([] : List S55), false) := by
 have hl := ha.1
 have hw := ha.2.2.1
 have h0 := ha.2.1
 induction d with
 | zero => intro e c r out _ _ _ _ _ hd; exact absurd hd (by omega)
 | succ d ihd =>
  intro e
  induction e with
  | zero =>
   intro c r out hc hr hlen hb hex hd
   obtain rfl : r = l.length := by omega
   obtain ⟨r', hr', c', hc', e1, e2⟩ := hex
   refine Evn.step (fun k => spec_col_end ha out c (by omega) k) (Evn.step (h := fun k => spec_scHoles.l1 k l out ((c + 1 : Nat) : Int) l l.length ((0 : Nat) : Int)) (fun k => ?_) (ihd l.length (c + 1) 0 out (by omega) (by omega) (by omega) (fun h hh => by have := hb h hh; omega) ⟨r', hr', c', hc', e1, by omega⟩ (by omega)))
   rw [spec_scHoles.l0, if_pos (by omega), width_eq ha, if_pos (by omega)]
   rfl
  | succ e ihe =>
   intro c r out hc hr hlen hb hex hd
   have hr' : r < l.length := by omega
   obtain ⟨r1, hr1, c1, hc1, e1, e2⟩ := hex
   rcases hch r hr' c (by omega) with h1 | h1 | h1
   ·refine Evn.step (fun k => spec_paper ha out c r (by omega) hr' h1 k) (ihe c (r + 1) out hc (by omega) (by omega) (fun h hh => by have := hb h hh; omega) ⟨r1, hr1, c1, hc1, e1, ?_⟩ hd)
    by_cases hx : c = c1 ∧ r = r1
    ·obtain ⟨rfl, rfl⟩ := hx
     rw [h1] at e1; exact absurd e1 (by decide)
    ·omega
   ·refine Evn.step (fun k => spec_hole ha out c r (by omega) hr' (by omega) h1 hb k) (ihe c (r + 1) _ hc (by omega) ?_ (fun h hh => ?_) ⟨r1, hr1, c1, hc1, e1, ?_⟩ hd)
    ·unfold mg
     rcases List.eq_nil_or_concat out with rfl | ⟨I, h, ee⟩
     ·simp; omega
     ·rw [List.concat_eq_append] at ee
      subst ee
      rw [List.getLast?_concat]
      simp only [List.dropLast_concat]
      split <;> simp at * <;> omega
    ·unfold mg at hh
     rcases List.eq_nil_or_concat out with rfl | ⟨I, y, ee⟩
     ·simp only [List.getLast?_nil] at hh
      obtain rfl := List.mem_singleton.1 hh
      exact Or.inr ⟨rfl, by simp only; omega⟩
     ·rw [List.concat_eq_append] at ee
      subst ee
      rw [List.getLast?_concat] at hh
      simp only [List.dropLast_concat] at hh
      have hy := hb y (List.mem_append_right _ (List.mem_singleton.2 rfl))
      split at hh
      ·rcases List.mem_append.1 hh with hh | hh
       ·have := hb h (List.mem_append_left _ hh); omega
       ·obtain rfl := List.mem_singleton.1 hh
        have : mx y.f2 ((r : Int) + 1) = y.f2 ∧ (r : Int) + 1 ≤ y.f2 ∨ mx y.f2 ((r : Int) + 1) = (r : Int) + 1 := by unfold mx; omega
        simp only
        omega
      ·rcases List.mem_append.1 hh with hh | hh
       ·have := hb h hh; omega
       ·obtain rfl := List.mem_singleton.1 hh
        exact Or.inr ⟨rfl, by simp only; omega⟩
    ·by_cases hx : c = c1 ∧ r = r1
     ·obtain ⟨rfl, rfl⟩ := hx
      rw [h1] at e1; exact absurd e1 (by decide)
     ·omega
   ·exact Evn.step (h := fun _ => some (([] : List S55), false)) (fun k => spec_stain ha out c r (by omega) hr' h1 k) (Evn.const (fun _ => rfl))
theorem impl_round (out : List S55) (c r : Nat) (from_ : Int) (hc : c < w) (hr : r ≤ l.length) (ho : out.length ≤ 1048576) (hf : from_ = -1 ∨ 0 ≤ from_) (open_ : Bool) (hop : open_ = true ↔ Opn l w c r) (k : Nat) :
  impl_HolesIn.l1 (k + 1 + 1 + 1) l out c from_ r w c = if open_ then impl_HolesIn.l1 k l out c (if from_ < 0 then (r : Int) else from_) ((r + 1 : Nat) : Int) w c
   else if from_ ≥ 0 then impl_HolesIn.l1 k l (out ++ [⟨c, from_, r⟩]) c (-1) ((r + 1 : Nat) : Int) w c else impl_HolesIn.l1 k l out c from_ ((r + 1 : Nat) : Int) w c := by
 have hl := ha.1
 have hw := ha.2.2.1
 have er : wrap64 ((r : Int) + 1) = ((r + 1 : Nat) : Int) := by rw [w64 (by omega)]; omega
 have e1 : impl_HolesIn.l1 (k + 1 + 1 + 1) l out c from_ r w c = impl_HolesIn.j3 (k + 1 + 1) l out c from_ r open_ w c := by
  rw [impl_HolesIn.l1, if_pos (by omega)]
  by_cases h : r < l.length
  ·have eo : (bt l[r] (c : Int) == 111) = open_ := by
    rw [Bool.eq_iff_iff, hop, beq_iff_eq]
    constructor
    ·intro g; exact ⟨by omega, by omega, r, h, rfl, g⟩
    ·rintro ⟨_, _, q, hq, e, g⟩
     obtain rfl : q = r := by omega
     exact g
   rw [if_pos (by omega), if_pos (by omega), if_pos (by omega), rdB_get l r h, size_at ha r h, if_pos (by omega), eo]
  ·have eo : open_ = false := by
    rw [Bool.eq_false_iff]
    intro g
    obtain ⟨_, _, q, hq, e, _⟩ := hop.1 g
    omega
   rw [if_neg (by omega), eo]
 rw [e1, impl_HolesIn.j3]
 cases open_ with
 | true =>
  rw [if_pos rfl, if_pos rfl, impl_HolesIn.j4]
  by_cases hx : from_ < 0
  ·rw [if_pos (decide_eq_true hx), if_pos rfl, if_pos hx, er]
  ·rw [if_neg (by simpa using hx), if_pos rfl, if_neg hx, er]
 | false =>
  rw [if_neg (by decide), if_neg (by decide), impl_HolesIn.j4, if_neg (by decide), if_neg (by decide)]
  by_cases hx : from_ ≥ 0
  ·rw [if_pos hx, if_pos (by omega), if_pos hx, er]
  ·rw [if_neg hx, if_neg hx, er]
theorem impl_col (c : Nat) (hc : c < w) {R : List S55 × Bool}
  (hk : ∀ out, Norm out → (∀ t s, Cov out t s ↔ t < ((c + 1 : Nat) : Int) ∧ Opn l w t s) → (∀ h ∈ out, h.f0 < ((c + 1 : Nat) : Int)) → out.length ≤ 61 * (c + 1) → Evn (fun k => impl_HolesIn.l0 k l out w ((c + 1 : Nat) : Int)) R) (d : Nat) :
  ∀ (r : Nat) (out : List S55) (from_ p : Int), r + d = l.length + 1 → Norm out → (from_ = -1 ∧ p = r ∨ 0 ≤ from_ ∧ from_ < r ∧ p = from_ ∧ r ≤ l.length ∧ ∀ s, from_ ≤ s → s < r → Opn l w c s) → (∀ t s, Cov out t s ↔ (t < (c : Int) ∨ (t = (c : Int) ∧ s < p)) ∧ Opn l w t s) → (∀ h ∈ out, h.f0 < (c : Int) ∨ (h.f0 = (c : Int) ∧ h.f2 < p)) → out.length ≤ 61 * c + r →
  Evn (fun k => impl_HolesIn.l1 k l out c from_ r w c) R := by
 have hl := ha.1
 have hw := ha.2.2.1
 induction d with
 | zero =>
  intro r out from_ p hr hn hf hcv hb hlen
  obtain rfl : r = l.length + 1 := by omega
  refine Evn.step (h := fun k => impl_HolesIn.l0 k l out w ((c + 1 : Nat) : Int)) (fun k => ?_) (hk out hn (fun t s => ?_) (fun h hh => by have := hb h hh; omega) (by omega))
  ·rw [impl_HolesIn.l1, if_neg (by omega), w64 (by omega)]
   rfl
  ·rw [hcv]
   constructor
   ·rintro ⟨h1, h2⟩; exact ⟨by omega, h2⟩
   ·rintro ⟨h1, h2⟩
    refine ⟨?_, h2⟩
    obtain ⟨_, _, q, hq, e, _⟩ := h2
    omega
 | succ d ih =>
  intro r out from_ p hr hn hf hcv hb hlen
  obtain ⟨open_, hop⟩ : ∃ b : Bool, b = true ↔ Opn l w c r := ⟨@decide (Opn l w c r) (Classical.propDecidable _), by simp⟩
  have hstep := impl_round ha out c r from_ hc (by omega) (by omega) (by omega) open_ hop
  suffices h : Evn (fun k => if open_ then impl_HolesIn.l1 k l out c (if from_ < 0 then (r : Int) else from_) ((r + 1 : Nat) : Int) w c
   else if from_ ≥ 0 then impl_HolesIn.l1 k l (out ++ [⟨c, from_, r⟩]) c (-1) ((r + 1 : Nat) : Int) w c else impl_HolesIn.l1 k l out c from_ ((r + 1 : Nat) : Int) w c) R by
   obtain ⟨K, hK⟩ := h
   refine ⟨K + 3, fun k hk' => ?_⟩
   obtain ⟨q, rfl⟩ : ∃ q, k = q + 1 + 1 + 1 := ⟨k - 3, by omega⟩
   simp only []
   rw [hstep q]
   exact hK q (by omega)
  cases hb0 : open_ with
  | true =>
   have hO := hop.1 hb0
   obtain ⟨_, _, q, hq, eq, _⟩ := id hO
   simp only [if_true]
   refine ih (r + 1) out (if from_ < 0 then (r : Int) else from_) p (by omega) hn (Or.inr ?_) hcv hb (by omega)
   rcases hf with ⟨f1, f2⟩ | ⟨f1, f2, f3, f4, f5⟩
   ·rw [if_pos (by omega)]
    refine ⟨by omega, by omega, f2, by omega, fun s h1 h2 => ?_⟩
    obtain rfl : s = (r : Int) := by omega
    exact hO
   ·rw [if_neg (by omega)]
    refine ⟨f1, by omega, f3, by omega, fun s h1 h2 => ?_⟩
    by_cases e : s = (r : Int)
    ·rw [e]; exact hO
    ·exact f5 s h1 (by omega)
  | false =>
   have hO : ¬ Opn l w c r := fun h => by have := hop.2 h; rw [hb0] at this; cases this
   simp only [Bool.false_eq_true, if_false]
   rcases hf with ⟨f1, f2⟩ | ⟨f1, f2, f3, f4, f5⟩
   ·simp only [if_neg (show ¬ from_ ≥ 0 by omega)]
    refine ih (r + 1) out from_ ((r + 1 : Nat) : Int) (by omega) hn (Or.inl ⟨f1, rfl⟩) (fun t s => ?_) (fun h hh => by have := hb h hh; omega) (by omega)
    rw [hcv]
    constructor
    ·rintro ⟨g1, g2⟩; exact ⟨by omega, g2⟩
    ·rintro ⟨g1, g2⟩
     refine ⟨?_, g2⟩
     by_cases hx : t = (c : Int) ∧ s = (r : Int)
     ·obtain ⟨rfl, rfl⟩ := hx; exact absurd g2 hO
     ·omega
   ·simp only [if_pos (show from_ ≥ 0 from f1)]
    refine ih (r + 1) (out ++ [⟨c, from_, r⟩]) (-1) ((r + 1 : Nat) : Int) (by omega) (norm_append.2 ⟨hn, fun h hh => ?_, by simp only; omega⟩) (Or.inl ⟨rfl, rfl⟩) (fun t s => ?_) (fun h hh => ?_) (by rw [List.length_append, List.length_singleton]; omega)
    ·unfold Apart
     have := hb h hh
     simp only
     omega
    ·rw [cov_append, cov_cons, hcv]
     simp only [cov_nil, or_false]
     constructor
     ·rintro (⟨g1, g2⟩ | ⟨g1, g2, g3⟩)
      ·exact ⟨by omega, g2⟩
      ·subst g1
       exact ⟨by omega, f5 s g2 g3⟩
     ·rintro ⟨g1, g2⟩
      by_cases hx : t = (c : Int) ∧ from_ ≤ s
      ·refine Or.inr ⟨hx.1.symm, hx.2, ?_⟩
       by_cases e : s = (r : Int)
       ·exfalso; rw [hx.1, e] at g2; exact hO g2
       ·omega
      ·exact Or.inl ⟨by omega, g2⟩
    ·rcases List.mem_append.1 hh with hh | hh
     ·have := hb h hh; omega
     ·obtain rfl := List.mem_singleton.1 hh
      exact Or.inr ⟨rfl, by simp only; omega⟩
theorem impl_cols (d : Nat) : ∀ (c : Nat) (out : List S55), c + d = w → Norm out → (∀ t s, Cov out t s ↔ t < (c : Int) ∧ Opn l w t s) → (∀ h ∈ out, h.f0 < (c : Int)) → out.length ≤ 61 * c →
  ∃ L, Norm L ∧ L.length ≤ 1220 ∧ (∀ t s, Cov L t s ↔ Opn l w t s) ∧ Evn (fun k => impl_HolesIn.l0 k l out w c) (shOf L) := by
 have hw := ha.2.2.1
 induction d with
 | zero =>
  intro c out hc hn hcv hb hlen
  refine ⟨out, hn, by omega, fun t s => ?_, ?_⟩
  ·rw [hcv]
   constructor
   ·exact fun h => h.2
   ·intro h
    have := h.2.1
    exact ⟨by omega, h⟩
  ·refine Evn.step (h := fun k => (impl_sheetOf.f k out).bind fun bt => some (bt.1, bt.2)) (fun k => by rw [impl_HolesIn.l0, if_neg (by omega)]) ?_
   exact ⟨fuelH 0 out.length, fun k hk => by simp only []; rw [sheetOf_eq hn (by omega) k hk]; rfl⟩
 | succ d ih =>
  intro c out hc hn hcv hb hlen
  have key : ∀ out', Norm out' → (∀ t s, Cov out' t s ↔ t < ((c + 1 : Nat) : Int) ∧ Opn l w t s) → (∀ h ∈ out', h.f0 < ((c + 1 : Nat) : Int)) → out'.length ≤ 61 * (c + 1) → ∃ L, Norm L ∧ L.length ≤ 1220 ∧ (∀ t s, Cov L t s ↔ Opn l w t s) ∧ Evn (fun k => impl_HolesIn.l0 k l out' w ((c + 1 : Nat) : Int)) (shOf L) :=
   fun out' a1 a2 a3 a4 => ih (c + 1) out' (by omega) a1 a2 a3 a4
  have hex : ∃ L, Norm L ∧ L.length ≤ 1220 ∧ (∀ t s, Cov L t s ↔ Opn l w t s) := by
   by_cases h : ∃ out', Norm out' ∧ (∀ t s, Cov out' t s ↔ t < ((c + 1 : Nat) : Int) ∧ Opn l w t s) ∧ (∀ h ∈ out', h.f0 < ((c + 1 : Nat) : Int)) ∧ out'.length ≤ 61 * (c + 1)
   ·obtain ⟨o, a1, a2, a3, a4⟩ := h
    obtain ⟨L, b1, b2, b3, _⟩ := key o a1 a2 a3 a4
    exact ⟨L, b1, b2, b3⟩
   ·exfalso
    have hE : Evn (fun k => impl_HolesIn.l1 k l out c (-1) ((0 : Nat) : Int) w c) (([] : List S55), false) := impl_col ha c (by omega) (fun o a1 a2 a3 a4 => absurd ⟨o, a1, a2, a3, a4⟩ h) (l.length + 1) 0 out (-1) 0 (by omega) hn (Or.inl ⟨rfl, rfl⟩) (fun t s => by
     rw [hcv]
     constructor
     ·rintro ⟨g1, g2⟩; exact ⟨Or.inl g1, g2⟩
     ·rintro ⟨g1, g2⟩
      refine ⟨?_, g2⟩
      obtain ⟨_, _, q, hq, e, _⟩ := g2
      omega) (fun h hh => Or.inl (hb h hh)) (by omega)
    have hE2 : Evn (fun k => impl_HolesIn.l1 k l out c (-1) ((0 : Nat) : Int) w c) (([] : List S55), true) := impl_col ha c (by omega) (fun o a1 a2 a3 a4 => absurd ⟨o, a1, a2, a3, a4⟩ h) (l.length + 1) 0 out (-1) 0 (by omega) hn (Or.inl ⟨rfl, rfl⟩) (fun t s => by
     rw [hcv]
     constructor
     ·rintro ⟨g1, g2⟩; exact ⟨Or.inl g1, g2⟩
     ·rintro ⟨g1, g2⟩
      refine ⟨?_, g2⟩
      obtain ⟨_, _, q, hq, e, _⟩ := g2
      omega) (fun h hh => Or.inl (hb h hh)) (by omega)
    obtain ⟨K, hK⟩ := Evn.both hE hE2
    have := hK K (Nat.le_refl _)
    rw [this.1] at this
    exact absurd this.2 (by simp)
  obtain ⟨L, b1, b2, b3⟩ := hex
  refine ⟨L, b1, b2, b3, ?_⟩
  refine Evn.step (h := fun k => impl_HolesIn.l1 k l out c (-1) ((0 : Nat) : Int) w c) (fun k => by rw [impl_HolesIn.l0, if_pos (by omega)]; rfl) ?_
  refine impl_col ha c (by omega) (fun out' a1 a2 a3 a4 => ?_) (l.length + 1) 0 out (-1) 0 (by omega) hn (Or.inl ⟨rfl, rfl⟩) (fun t s => ?_) (fun h hh => Or.inl (hb h hh)) (by omega)
  ·obtain ⟨M, d1, d2, d3, d4⟩ := key out' a1 a2 a3 a4
   have e := norm_unique M L d1 b1 (fun t s => by rw [d3, b3])
   subst e
   exact d4
  ·rw [hcv]
   constructor
   ·rintro ⟨g1, g2⟩; exact ⟨Or.inl g1, g2⟩
   ·rintro ⟨g1, g2⟩
    refine ⟨?_, g2⟩
    obtain ⟨_, _, q, hq, e, _⟩ := g2
    omega
end
theorem perm_cov {L M : List S55} (h : L.Perm M) (t s : Int) : Cov L t s ↔ Cov M t s := by
 unfold Cov
 constructor
 ·rintro ⟨x, hx, q⟩; exact ⟨x, h.mem_iff.1 hx, q⟩
 ·rintro ⟨x, hx, q⟩; exact ⟨x, h.mem_iff.2 hx, q⟩
theorem holes_full (l : List ByteArray) (hl : l.length ≤ 1048576) (hs : ∀ s ∈ l, s.size ≤ 1048576) : ∃ R : List S55 × Bool, R.1.length ≤ 1220 ∧
  (R.2 = true → Grid chS 1 60 20 l = true ∧ SheetB R.1 = true ∧ Clean l (wid l) ∧ ∀ t s, Cov R.1 t s ↔ Opn l (wid l) t s) ∧ ∃ K, ∀ k, K ≤ k → spec_HolesIn.f k l = some R ∧ impl_HolesIn.f k l = some R := by
 cases hg : Grid chS 1 60 20 l with
 | false =>
  refine ⟨([], false), by simp, fun h => by simp at h, fuelR l + 71, fun k hk => ?_⟩
  obtain ⟨k, rfl⟩ : ∃ j, k = j + 1 := ⟨k - 1, by omega⟩
  unfold spec_HolesIn.f impl_HolesIn.f
  rw [scGood_eq l hl hs _ (by omega), (countStains_eq l hl hs _ (by omega)).2, hg]
  simp only [Option.bind_some, Bool.false_eq_true, if_false]
  rw [impl_HolesIn.j0, if_pos rfl]
  exact ⟨trivial, rfl⟩
 | true =>
  obtain ⟨g1, g2, g3, g4, g5⟩ := grid_facts hg
  have ha : AllOf l (wid l) := ⟨g2, by omega, g4, fun s h => (g5 s h).1⟩
  obtain ⟨t1, t2, t3⟩ := total_zero 63 l
  have hch : ∀ (r : Nat) (h : r < l.length) (c : Nat), c < wid l → bt l[r] (c : Int) = 46 ∨ bt l[r] (c : Int) = 111 ∨ bt l[r] (c : Int) = 63 := fun r h c hc => by
   have hm := List.getElem_mem h
   rw [bt_get _ c (by rw [(g5 _ hm).1]; exact hc)]
   exact chS_cases ((g5 _ hm).2 _ (List.getElem_mem _))
  by_cases h0 : total 63 l > 0
  ·obtain ⟨s, hs', hm⟩ := t3 h0
   obtain ⟨r, hr, rfl⟩ := List.mem_iff_getElem.1 hs'
   obtain ⟨c, hc, e⟩ := List.mem_iff_getElem.1 hm
   rw [cs_length] at hc
   have hcw : c < wid l := by rw [← (g5 _ hs').1]; exact hc
   have hE := spec_bad ha hch (wid l) l.length 0 0 [] (by omega) (by omega) (by simp) (fun h hh => by simp at hh) ⟨r, hr, c, hcw, by rw [bt_get _ c hc]; exact e, by omega⟩ (by omega)
   obtain ⟨K, hK⟩ := Evn.step (g := fun k => spec_scHoles.l0 k l [] ((0 : Nat) : Int)) (fun k => by rw [spec_scHoles.l0, if_pos (by omega), width_eq ha, if_pos (by omega)]; rfl) hE
   refine ⟨([], false), by simp, fun h => by simp at h, K + fuelR l + 71, fun k hk => ?_⟩
   obtain ⟨k, rfl⟩ : ∃ j, k = j + 1 := ⟨k - 1, by omega⟩
   unfold spec_HolesIn.f impl_HolesIn.f spec_scHoles.f
   rw [scGood_eq l hl hs _ (by omega), (countStains_eq l hl hs _ (by omega)).2, hg]
   simp only [Option.bind_some, if_true]
   have e0 := hK (k + 1) (by omega)
   simp only [] at e0
   rw [show (0 : Int) = ((0 : Nat) : Int) from rfl, e0, impl_HolesIn.j0, if_pos (by simpa using h0)]
   exact ⟨rfl, rfl⟩
  ·have hcl : Clean l (wid l) := fun r h c hc => by
    rcases hch r h c hc with g | g | g
    ·exact Or.inl g
    ·exact Or.inr g
    ·exfalso
     have hm := List.getElem_mem h
     rw [bt_get _ c (by rw [(g5 _ hm).1]; exact hc)] at g
     exact t2 (by omega) _ hm _ (List.getElem_mem _) g
   obtain ⟨L, b1, b2, b3, b4⟩ := impl_cols ha (wid l) 0 [] (by omega) norm_nil (fun t s => ⟨fun h => absurd h (cov_nil _ _), fun h => by have := h.2.1; omega⟩) (fun h hh => by simp at hh) (by simp)
   have b5 := spec_cols ha hcl L b1 b2 b3 (wid l) 0 [] (by omega) norm_nil (fun t s => ⟨fun h => absurd h (cov_nil _ _), fun h => by have := h.2.1; omega⟩) (fun h hh => by simp at hh) (by simp)
   obtain ⟨K, hK⟩ := Evn.both b5 b4
   refine ⟨shOf L, ?_, ?_, K + fuelR l + 72, fun k hk => ?_⟩
   ·unfold shOf
    split
    ·rw [inOrder_length]; exact b2
    ·simp
   ·unfold shOf
    split
    ·rename_i q
     exact fun _ => ⟨rfl, q, hcl, fun t s => (perm_cov (List.mergeSort_perm _ _) t s).trans (b3 t s)⟩
    ·intro h; simp at h
   obtain ⟨k, rfl⟩ : ∃ j, k = j + 1 := ⟨k - 1, by omega⟩
   unfold spec_HolesIn.f impl_HolesIn.f spec_scHoles.f
   rw [scGood_eq l hl hs _ (by omega), (countStains_eq l hl hs _ (by omega)).2, hg]
   simp only [Option.bind_some, if_true]
   have e0 := (hK (k + 1) (by omega)).1
   have e1 := (hK k (by omega)).2
   rw [show (0 : Int) = ((0 : Nat) : Int) from rfl, e0, impl_HolesIn.j0, if_neg (by simpa using h0), if_pos (by omega), width_eq ha]
   rw [show (0 : Int) = ((0 : Nat) : Int) from rfl, e1]
   exact ⟨rfl, rfl⟩
theorem least_both (l : List ByteArray) (b1 : l.length ≤ 1048576) (b2 : ∀ s ∈ l, s.size ≤ 1048576) (k : Nat) (hk : fuelR l + 20000 ≤ k) :
  spec_LeastHoles.f k l = some (fillOut ⟨#[46]⟩ l) ∧ impl_LeastHoles.f k l = some (fillOut ⟨#[46]⟩ l) := by
 unfold spec_LeastHoles.f impl_LeastHoles.f fillOut
 rw [scGood_eq l b1 b2 k (by omega), isScan_eq l b1 b2 k (by omega)]
 simp only [Option.bind_some]
 by_cases hg : Grid chS 1 60 20 l = true
 ·obtain ⟨g1, g2, g3, g4, g5⟩ := grid_facts hg
  have e1 : spec_scFill.f k l (⟨#[46]⟩ : ByteArray) = some (l.map (fillB ⟨#[46]⟩)) := by
   unfold spec_scFill.f
   have := fill_rows ⟨#[46]⟩ rfl l (by omega) (wid l) (by omega) (fun s hs => (g5 s hs).1) l.length k 0 (by omega) (by
    have : l.length * (wid l + 2) ≤ 60 * 22 := Nat.mul_le_mul g2 (by omega)
    omega)
   simpa using this
  have e2 : impl_filledScan.f k l (⟨#[46]⟩ : ByteArray) = some (l.map (fillB ⟨#[46]⟩)) := by
   unfold impl_filledScan.f
   have := filled_rows ⟨#[46]⟩ rfl (by decide) l (by omega) (wid l) (by omega) (fun s hs => (g5 s hs).1) l.length k 0 (by omega) (by omega)
   simpa using this
  rw [if_pos hg, if_pos hg, if_pos hg, e1, e2]
  exact ⟨rfl, rfl⟩
 ·rw [if_neg hg, if_neg hg, if_neg hg]
  exact ⟨rfl, rfl⟩
theorem most_both (l : List ByteArray) (b1 : l.length ≤ 1048576) (b2 : ∀ s ∈ l, s.size ≤ 1048576) (k : Nat) (hk : fuelR l + 20000 ≤ k) :
  spec_MostHoles.f k l = some (fillOut ⟨#[111]⟩ l) ∧ impl_MostHoles.f k l = some (fillOut ⟨#[111]⟩ l) := by
 unfold spec_MostHoles.f impl_MostHoles.f fillOut
 rw [scGood_eq l b1 b2 k (by omega), isScan_eq l b1 b2 k (by omega)]
 simp only [Option.bind_some]
 by_cases hg : Grid chS 1 60 20 l = true
 ·obtain ⟨g1, g2, g3, g4, g5⟩ := grid_facts hg
  have e1 : spec_scFill.f k l (⟨#[111]⟩ : ByteArray) = some (l.map (fillB ⟨#[111]⟩)) := by
   unfold spec_scFill.f
   have := fill_rows ⟨#[111]⟩ rfl l (by omega) (wid l) (by omega) (fun s hs => (g5 s hs).1) l.length k 0 (by omega) (by
    have : l.length * (wid l + 2) ≤ 60 * 22 := Nat.mul_le_mul g2 (by omega)
    omega)
   simpa using this
  have e2 : impl_filledScan.f k l (⟨#[111]⟩ : ByteArray) = some (l.map (fillB ⟨#[111]⟩)) := by
   unfold impl_filledScan.f
   have := filled_rows ⟨#[111]⟩ rfl (by decide) l (by omega) (wid l) (by omega) (fun s hs => (g5 s hs).1) l.length k 0 (by omega) (by omega)
   simpa using this
  rw [if_pos hg, if_pos hg, if_pos hg, e1, e2]
  exact ⟨rfl, rfl⟩
 ·rw [if_neg hg, if_neg hg, if_neg hg]
  exact ⟨rfl, rfl⟩
theorem fillL_map (b : UInt8) (s : List UInt8) : fillL [b] s = s.map fun c => if c = 63 then b else c := by
 induction s with
 | nil => rfl
 | cons c s ih =>
  rw [fillL, ih, List.map_cons]
  split <;> rfl
theorem cs_fill (b : UInt8) (s : ByteArray) : cs (fillB ⟨#[b]⟩ s) = (cs s).map fun c => if c = 63 then (b.toNat : Int) else c := by
 unfold cs bytesOf fillB
 show List.map _ (fillL [b] s.data.toList) = _
 rw [fillL_map, List.map_map, List.map_map]
 apply List.map_congr_left
 intro c _
 simp only [Function.comp]
 by_cases h : c = 63
 ·subst h; rfl
 ·have : ¬ ((c.toNat : Int) = 63) := fun e => h (UInt8.toNat_inj.1 (by have : (63 : UInt8).toNat = 63 := rfl; omega))
  rw [if_neg h, if_neg this]
def flG (m : Int) (l : List ByteArray) (r c : Nat) : Int := if plc l r c = 63 then m else plc l r c
theorem fill_rowsG (b : UInt8) {l : List ByteArray} (h : Grid chS 1 60 20 l = true) : l.map (fillB ⟨#[b]⟩) = dRows (flG (b.toNat : Int) l) l.length (wid l) := by
 obtain ⟨g1, g2, g3, g4, g5⟩ := grid_facts h
 apply List.ext_getElem
 ·rw [dRows_length, List.length_map]
 ·intro i h1 h2
  rw [List.length_map] at h1
  have e : (dRows (flG (b.toNat : Int) l) l.length (wid l))[i] = dRow (flG (b.toNat : Int) l i) (wid l) := by simp [dRows]
  rw [e, List.getElem_map]
  have hz := (g5 _ (List.getElem_mem h1)).1
  refine (dRow_self _ _ ((fillB_size _ _ rfl).trans hz) _ (fun c hc => ?_)).symm
  rw [bt_get _ c (by rw [fillB_size _ _ rfl, hz]; exact hc)]
  simp only [cs_fill, List.getElem_map]
  unfold flG plc
  rw [rdB_get l i h1, bt_get _ c (by rw [hz]; exact hc)]
theorem fl_chars (b : UInt8) (hb : chS (b.toNat : Int) = true) {l : List ByteArray} (h : Grid chS 1 60 20 l = true) (r c : Nat) (hr : r < l.length) (hc : c < wid l) : chS (flG (b.toNat : Int) l r c) = true := by
 unfold flG
 split
 ·exact hb
 ·exact grid_at h r c hr hc
theorem fl_facts (b : UInt8) (hb : chS (b.toNat : Int) = true) {l : List ByteArray} (h : Grid chS 1 60 20 l = true) :
  Grid chS 1 60 20 (l.map (fillB ⟨#[b]⟩)) = true ∧ wid (l.map (fillB ⟨#[b]⟩)) = wid l ∧ ∀ r c, r < l.length → c < wid l → plc (l.map (fillB ⟨#[b]⟩)) r c = flG (b.toNat : Int) l r c := by
 obtain ⟨g1, g2, g3, g4, g5⟩ := grid_facts h
 rw [fill_rowsG b h]
 exact ⟨grid_dRows _ _ _ ⟨g1, g2⟩ ⟨g3, g4⟩ (fl_chars b hb h), wid_dRows _ _ _ g1, plc_drawn _ _ _ (fl_chars b hb h)⟩
theorem total_plc {l : List ByteArray} (h : Grid chS 1 60 20 l = true) : total 63 l = 0 ↔ ∀ r c, r < l.length → c < wid l → ¬ plc l r c = 63 := by
 obtain ⟨g1, g2, g3, g4, g5⟩ := grid_facts h
 obtain ⟨t1, t2, t3⟩ := total_zero 63 l
 constructor
 ·intro h0 r c hr hc
  have hz := (g5 _ (List.getElem_mem hr)).1
  unfold plc
  rw [rdB_get l r hr, bt_get _ c (by rw [hz]; exact hc)]
  exact t2 h0 _ (List.getElem_mem hr) _ (List.getElem_mem _)
 ·intro q
  by_cases h0 : 0 < total 63 l
  ·exfalso
   obtain ⟨s, hs, hm⟩ := t3 h0
   obtain ⟨r, hr, rfl⟩ := List.mem_iff_getElem.1 hs
   obtain ⟨c, hc, e⟩ := List.mem_iff_getElem.1 hm
   have hz := (g5 _ (List.getElem_mem hr)).1
   rw [cs_length] at hc
   refine q r c hr (by omega) ?_
   unfold plc
   rw [rdB_get l r hr, bt_get _ c hc]
   exact e
  ·omega
theorem fill_two {l : List ByteArray} (h : Grid chS 1 60 20 l = true) (a b : UInt8) (ha : chS (a.toNat : Int) = true) (hb : chS (b.toNat : Int) = true) :
  Two (l.map (fillB ⟨#[a]⟩)) l = true ∧ Two l (l.map (fillB ⟨#[b]⟩)) = true ∧ Two (l.map (fillB ⟨#[a]⟩)) (l.map (fillB ⟨#[b]⟩)) = true := by
 obtain ⟨a1, a2, -⟩ := fl_facts a ha h
 obtain ⟨b1, b2, -⟩ := fl_facts b hb h
 unfold Two
 rw [a1, a2, b1, b2, h, List.length_map, List.length_map]
 simp
theorem fill_agree {l : List ByteArray} (h : Grid chS 1 60 20 l = true) :
  faults (l.map (fillB ⟨#[46]⟩)) l = 0 ∧ faults l (l.map (fillB ⟨#[111]⟩)) = 0 ∧ (faults (l.map (fillB ⟨#[46]⟩)) (l.map (fillB ⟨#[111]⟩)) = 0 ↔ total 63 l = 0) := by
 obtain ⟨a1, a2, a3⟩ := fl_facts 46 rfl h
 obtain ⟨b1, b2, b3⟩ := fl_facts 111 rfl h
 obtain ⟨t1, t2, t3⟩ := fill_two h 46 111 rfl rfl
 have e46 : (((46 : UInt8).toNat : Nat) : Int) = 46 := rfl
 have e111 : (((111 : UInt8).toNat : Nat) : Int) = 111 := rfl
 refine ⟨(faults_places t1).2.2 (fun r c hr hc => ?_), (faults_places t2).2.2 (fun r c hr hc => ?_), ?_⟩
 ·rw [List.length_map] at hr
  rw [a2] at hc
  rw [a3 r c hr hc]
  unfold flG AtB
  split
  ·rename_i q; exact .inr (.inr q)
  ·exact .inl rfl
 ·rw [b3 r c hr hc]
  unfold flG AtB
  split
  ·rename_i q; exact .inr (.inl q)
  ·exact .inl rfl
 ·rw [(faults_places t3).2, total_plc h, a2, List.length_map]
  constructor
  ·intro q r c hr hc e
   have := q r c hr hc
   rw [a3 r c hr hc, b3 r c hr hc] at this
   unfold flG AtB at this
   rw [if_pos e, if_pos e, e46, e111] at this
   omega
  ·intro q r c hr hc
   rw [a3 r c hr hc, b3 r c hr hc]
   unfold flG AtB
   rw [if_neg (q r c hr hc), if_neg (q r c hr hc)]
   exact .inl rfl
theorem pIn_loop (l : List Int) (hl : l.length ≤ 1000) (n : Int) (d : Nat) : ∀ (k i : Nat), i + d = l.length → d < k → laws_pIn.l0 k n l l.length i = some (decide (n ∈ l.drop i)) := by
 induction d with
 | zero =>
  intro k i hi hk
  obtain ⟨k, rfl⟩ : ∃ j, k = j + 1 := ⟨k - 1, by omega⟩
  rw [laws_pIn.l0, if_neg (by omega), List.drop_of_length_le (by omega)]
  simp
 | succ d ih =>
  intro k i hi hk
  obtain ⟨k, rfl⟩ : ∃ j, k = j + 1 := ⟨k - 1, by omega⟩
  have hi' : i < l.length := by omega
  have e := ih k (i + 1) (by omega) (by omega)
  rw [laws_pIn.l0, if_pos (by omega), if_pos (by omega), if_pos (by omega), rd_get l i hi', w_succ i (by omega), e, drop_get l i hi']
  by_cases h : l[i] = n
  ·rw [if_pos h]
   congr 1
   rw [eq_comm, decide_eq_true_eq]
   rw [h]; exact List.mem_cons_self
  ·rw [if_neg h]
   congr 1
   rw [decide_eq_decide, List.mem_cons]
   exact ⟨fun h' => .inr h', fun h' => h'.elim (fun e => absurd e.symm h) id⟩
theorem pIn_eq (l : List Int) (hl : l.length ≤ 1000) (n : Int) (k : Nat) (hk : l.length < k) : laws_pIn.f k l n = some (decide (n ∈ l)) := by
 unfold laws_pIn.f
 have := pIn_loop l hl n l.length k 0 (by omega) hk
 exact this
theorem pSameH_loop (l : List S55) (hl : l.length ≤ 1048576) (d : Nat) : ∀ (k i : Nat), i + d = l.length → d < k → laws_pSameHoles.l0 k l l l.length i = some true := by
 induction d with
 | zero =>
  intro k i hi hk
  obtain ⟨k, rfl⟩ : ∃ j, k = j + 1 := ⟨k - 1, by omega⟩
  rw [laws_pSameHoles.l0, if_neg (by omega)]
 | succ d ih =>
  intro k i hi hk
  obtain ⟨k, rfl⟩ : ∃ j, k = j + 1 := ⟨k - 1, by omega⟩
  rw [laws_pSameHoles.l0, if_pos (by omega), if_pos (by omega), if_pos (by omega), if_pos (by omega), if_neg (by simp), w64 (by omega), show ((i : Int) + 1) = ((i + 1 : Nat) : Int) by omega]
  exact ih k (i + 1) (by omega) (by omega)
theorem pSameHoles_self (l : List S55) (hl : l.length ≤ 1048576) (k : Nat) (hk : l.length < k) : laws_pSameHoles.f k l l = some true := by
 unfold laws_pSameHoles.f
 rw [if_pos rfl]
 exact pSameH_loop l hl l.length k 0 (by omega) hk
theorem sameI_loop (l : List Int) (hl : l.length ≤ 1048576) (d : Nat) : ∀ (k i : Nat), i + d = l.length → d < k → laws_sameInts.l0 k l l l.length i = some true := by
 induction d with
 | zero =>
  intro k i hi hk
  obtain ⟨k, rfl⟩ : ∃ j, k = j + 1 := ⟨k - 1, by omega⟩
  rw [laws_sameInts.l0, if_neg (by omega)]
 | succ d ih =>
  intro k i hi hk
  obtain ⟨k, rfl⟩ : ∃ j, k = j + 1 := ⟨k - 1, by omega⟩
  rw [laws_sameInts.l0, if_pos (by omega), if_pos (by omega), if_pos (by omega), if_pos (by omega), if_pos rfl, w64 (by omega), show ((i : Int) + 1) = ((i + 1 : Nat) : Int) by omega]
  exact ih k (i + 1) (by omega) (by omega)
theorem sameI_self (l : List Int) (hl : l.length ≤ 1048576) (k : Nat) (hk : l.length < k) : laws_sameInts.f k l l = some true := by
 unfold laws_sameInts.f
 rw [if_pos rfl]
 exact sameI_loop l hl l.length k 0 (by omega) hk
theorem drawScanOf_tot (l : List Int) (hl : Bytes l) : Tot (fun k => spec_DrawScanOf.f k l) (fun r => r.1.length ≤ 61) := by
 refine Tot.congr (fun k => by unfold spec_DrawScanOf.f; rfl) ?_
 refine Tot.bind (anySheet_tot l hl 0 0 (by omega)) (fun b hb => ?_)
 obtain ⟨x, a, s⟩ := b
 obtain ⟨hx, h1, h2⟩ := hb
 simp only at hx h1 h2
 obtain ⟨v1, a1, s1, e1, l1, u1⟩ := among_ok l hl a s (by omega) [0, 21] (by simp)
 obtain ⟨v2, a2, s2, e2, l2, u2⟩ := among_ok l hl a1 s1 (by omega) [1, 4, 6, 20, v1] (by simp)
 obtain ⟨v3, a3, s3, e3, l3, u3⟩ := among_ok l hl a2 s2 (by omega) [0, 61] (by simp)
 obtain ⟨v4, a4, s4, e4, l4, u4⟩ := among_ok l hl a3 s3 (by omega) [1, 8, 30, 60, v3] (by simp)
 refine Tot.now (x, v2, v4) (fun k => ?_) hx
 simp only [e1, e2, e3, e4, Option.bind_some]
theorem drawLeast_tot (l : List Int) (hl : Bytes l) : Tot (fun k => spec_DrawLeastHoles.f k l) SmallScan := by
 refine Tot.congr (fun k => by unfold spec_DrawLeastHoles.f spec_DrawIsScan.f; rfl) ?_
 refine Tot.bind (Q := SmallScan) ?_ (fun b hb => Tot.now b (fun _ => rfl) hb)
 exact Tot.bind (scan_tot l hl 0 0 (by omega)) (fun b hb => Tot.now b.1 (fun _ => rfl) hb.1)
theorem drawHoles_tot (l : List Int) (hl : Bytes l) : Tot (fun k => spec_DrawHolesIn.f k l) SmallScan := by
 refine Tot.congr (fun k => by unfold spec_DrawHolesIn.f; rfl) ?_
 refine Tot.bind (scan_tot l hl 0 0 (by omega)) (fun b hb => ?_)
 obtain ⟨x, a, s⟩ := b
 obtain ⟨hx, h1, h2⟩ := hb
 simp only at hx h1 h2
 obtain ⟨b1, b2⟩ := small_big hx
 have fx := small_fuel hx
 refine Tot.bind (Q := fun t => t = Grid chS 1 60 20 x) (Tot.ge _ 200000 (fun k hk => scGood_eq x b1 b2 k (by omega)) rfl) (fun t ht => ?_)
 subst ht
 by_cases hg : Grid chS 1 60 20 x = true
 ·obtain ⟨v1, a1, s1, e1, l1, u1⟩ := one_ok l hl a s (by omega) 3
  refine Tot.congr (h := fun k => spec_DrawHolesIn.j0 k x (!v1) l a1 s1) (fun k => (if_pos hg).trans (by rw [e1]; rfl)) ?_
  refine Tot.step (fun k => by rw [spec_DrawHolesIn.j0]) ?_
  by_cases h : (!v1) = true
  ·obtain ⟨v2, a2, s2, e2, c0, c1, l2, u2⟩ := pick_ok l hl a1 s1 (by omega) 2
   have c2 := c1 (by omega)
   have hv : v2 = 0 ∨ v2 = 1 := by omega
   have ho : ∃ m : ByteArray, m.data.toList.length = 1 ∧ spec_l1Cur_of.f l a1 s1 ([(⟨#[46]⟩ : ByteArray), (⟨#[111]⟩ : ByteArray)]) = some (m, a2, s2) := by
    unfold spec_l1Cur_of.f
    rw [show (([(⟨#[46]⟩ : ByteArray), (⟨#[111]⟩ : ByteArray)]).length : Int) = 2 from rfl, e2]
    simp only [Option.bind_some]
    rw [if_pos c0, if_pos c2]
    rcases hv with e | e
    ·subst e; exact ⟨⟨#[46]⟩, rfl, rfl⟩
    ·subst e; exact ⟨⟨#[111]⟩, rfl, rfl⟩
   obtain ⟨m, hm, ho⟩ := ho
   obtain ⟨g1, g2, g3, g4, g5⟩ := grid_facts hg
   refine Tot.ge (x.map (fillB m)) 3000 (fun k hk => ?_) ⟨by rw [List.length_map]; omega, fun y hy => ?_⟩
   ·rw [if_pos h, ho]
    simp only [Option.bind_some]
    have ef : spec_scFill.f k x m = some (x.map (fillB m)) := by
     unfold spec_scFill.f
     have := fill_rows m hm x (by omega) (wid x) (by omega) (fun s hs => (g5 s hs).1) x.length k 0 (by omega) (by
      have : x.length * (wid x + 2) ≤ 60 * 22 := Nat.mul_le_mul g2 (by omega)
      omega)
     simpa using this
    rw [ef]
    rfl
   ·obtain ⟨z, hz, rfl⟩ := List.mem_map.1 hy
    rw [fillB_size _ _ hm]
    exact hx.2 z hz
  ·exact Tot.now x (fun k => if_neg h) hx
 ·refine Tot.congr (fun k => if_neg hg) ?_
  exact Tot.step (h := fun _ => some x) (fun k => by dsimp only; rw [spec_DrawHolesIn.j0, if_neg (by decide)]) (Tot.now x (fun _ => rfl) hx)
theorem law_j8 {v : List ByteArray} (hg : Grid chS 1 60 20 v = true) (hv : SmallScan v) (k : Nat) (hk : 300000 ≤ k) :
  laws_FnScans.j8 (k + 1) v (v.map (fillB ⟨#[46]⟩)) true (v.map (fillB ⟨#[111]⟩)) (total 63 v) false = some true := by
 obtain ⟨a1, -, -⟩ := fl_facts 46 rfl hg
 obtain ⟨b1, -, -⟩ := fl_facts 111 rfl hg
 obtain ⟨t1, t2, t3⟩ := fill_two hg 46 111 rfl rfl
 obtain ⟨f1, f2, f3⟩ := fill_agree hg
 have s1 := grid_small a1
 have s2 := grid_small b1
 obtain ⟨v1, v2⟩ := small_big hv
 obtain ⟨x1, x2⟩ := small_big s1
 obtain ⟨y1, y2⟩ := small_big s2
 have u1 := small_fuel hv
 have u2 := small_fuel s1
 have u3 := small_fuel s2
 rw [laws_FnScans.j8, if_neg (by decide), if_pos rfl, implAgree_eq _ _ x1 x2 v1 v2 k (by omega), implAgree_eq _ _ v1 v2 y1 y2 k (by omega), implAgree_eq _ _ x1 x2 y1 y2 k (by omega), if_pos t1, if_pos t2, if_pos t3, f1, f2]
 simp only [Option.bind_some, if_true, beq_self_eq_true]
 rw [if_neg]
 intro h
 by_cases z : total 63 v = 0
 ·rw [f3.2 z, z] at h; exact absurd h (by decide)
 ·have z2 : ¬ faults (v.map (fillB ⟨#[46]⟩)) (v.map (fillB ⟨#[111]⟩)) = 0 := fun q => z (f3.1 q)
  rw [beq_eq_false_iff_ne.2 z, beq_eq_false_iff_ne.2 z2] at h
  exact absurd h (by decide)
theorem fillOut_len (m : ByteArray) {l : List ByteArray} (h : SmallScan l) : (fillOut m l).1.length ≤ 1000 := by
 unfold fillOut
 have := h.1
 split
 ·rw [List.length_map]; omega
 ·simp
theorem law_j7 (l : List Int) (hl : Bytes l) : Tot (fun k => laws_FnScans.j7 k l) (fun r => r = true) := by
 refine Tot.step (fun k => by rw [laws_FnScans.j7]) ?_
 refine Tot.bind (drawLeast_tot l hl) (fun v hv => ?_)
 obtain ⟨b1, b2⟩ := small_big hv
 have hf := small_fuel hv
 have m1 := fillOut_len ⟨#[46]⟩ hv
 have m2 := fillOut_len ⟨#[111]⟩ hv
 refine Tot.ge true 500001 (fun k hk => ?_) rfl
 obtain ⟨k, rfl⟩ : ∃ j, k = j + 1 := ⟨k - 1, by omega⟩
 rw [(least_both v b1 b2 (k + 1) (by omega)).1, (least_both v b1 b2 (k + 1) (by omega)).2, (most_both v b1 b2 (k + 1) (by omega)).1, (most_both v b1 b2 (k + 1) (by omega)).2, (countStains_eq v b1 b2 (k + 1) (by omega)).1, (countStains_eq v b1 b2 (k + 1) (by omega)).2]
 simp only [Option.bind_some]
 rw [if_neg (by simp), pSameTexts_self _ m1 (k + 1) (by omega)]
 simp only [Option.bind_some, if_true]
 rw [if_neg (by simp), pSameTexts_self _ m2 (k + 1) (by omega)]
 simp only [Option.bind_some, if_true]
 rw [if_neg (by simp)]
 simp only [isScan_eq v b1 b2 (k + 1) (by omega), Option.bind_some]
 unfold fillOut
 by_cases hg : Grid chS 1 60 20 v = true
 ·rw [if_pos hg, if_pos hg, if_pos hg]
  dsimp only
  rw [if_neg (by decide), if_neg (by decide), hg]
  exact law_j8 hg hv k (by omega)
 ·rw [if_neg hg, if_neg hg, if_neg hg]
  dsimp only
  rw [if_neg (by decide), if_neg (by decide), Bool.eq_false_iff.2 hg, laws_FnScans.j8, if_neg (by decide), if_neg (by decide)]
theorem scan_again {u : List ByteArray} {h : List S55} (hg : Grid chS 1 60 20 u = true) (hs : SheetB h = true) (hc : Clean u (wid u)) (hv : ∀ t s, Cov h t s ↔ Opn u (wid u) t s) : soOut h (wid u : Int) (u.length : Int) = (u, true) := by
 obtain ⟨g1, g2, g3, g4, g5⟩ := grid_facts hg
 unfold soOut soGood
 rw [hs, decide_eq_true (by omega), if_pos (show (true && true) = true from rfl), Int.toNat_natCast, Int.toNat_natCast]
 have e : dRows (soG h) u.length (wid u) = u := by
  refine Eq.trans (dRows_congr _ (plc u) _ _ (fun r c hr hcw => ?_)) (grid_self hg)
  have hany : h.any (isAt (r : Int) (c : Int)) = true ↔ plc u r c = 111 := by
   have h1 : h.any (isAt (r : Int) (c : Int)) = true ↔ Cov h c r := by
    rw [List.any_eq_true]
    unfold Cov isAt
    constructor
    ·rintro ⟨x, hx, q⟩; exact ⟨x, hx, of_decide_eq_true q⟩
    ·rintro ⟨x, hx, q⟩; exact ⟨x, hx, decide_eq_true q⟩
   rw [h1, hv]
   unfold Opn plc
   rw [rdB_get u r hr]
   constructor
   ·rintro ⟨_, _, r', hr', e, q⟩
    have : r = r' := by omega
    subst this
    exact q
   ·intro q; exact ⟨by omega, by omega, r, hr, rfl, q⟩
  unfold soG
  by_cases q : h.any (isAt (r : Int) (c : Int)) = true
  ·rw [if_pos q, hany.1 q]
  ·rw [if_neg q]
   have hx := hc r hr c hcw
   have hp : plc u r c = bt u[r] (c : Int) := by unfold plc; rw [rdB_get u r hr]
   rcases hx with x | x
   ·rw [hp, x]
   ·exact absurd (hany.2 (hp.trans x)) q
 rw [e]
theorem law_j6 (l : List Int) (hl : Bytes l) {u : List ByteArray} (hu : SmallScan u) (R : List S55 × Bool) (hR : R.1.length ≤ 1220)
  (hq : R.2 = true → Grid chS 1 60 20 u = true ∧ SheetB R.1 = true ∧ Clean u (wid u) ∧ ∀ t s, Cov R.1 t s ↔ Opn u (wid u) t s) :
  Tot (fun k => laws_FnScans.j6 k l u R.1 R.2 false) (fun r => r = true) := by
 refine Tot.step (fun k => by rw [laws_FnScans.j6, if_neg (by decide)]) ?_
 by_cases h : R.2 = true
 ·obtain ⟨hg, hs, hc, hv⟩ := hq h
  obtain ⟨g1, g2, g3, g4, g5⟩ := grid_facts hg
  refine Tot.congr (fun k => (if_pos h).trans (if_pos (by omega))) ?_
  have hw : ((rdOf ByteArray.empty u 0).size : Int) = (wid u : Int) := by
   rw [wid_get u (by omega)]
   exact congrArg (fun b : ByteArray => (b.size : Int)) (rdB_get u 0 (by omega))
  rw [hw]
  refine Tot.bind (Q := fun r => r = (u, true)) (Tot.ge (u, true) (fuelH 0 R.1.length + 20000) (fun k hk => ?_) rfl) (fun r hr => ?_)
  ·have := (so_both R.1 (wid u : Int) (u.length : Int) (by omega) k (by omega)).2
   rw [scan_again hg hs hc hv] at this
   exact this
  ·subst hr
   refine Tot.congr (fun k => if_pos rfl) ?_
   refine Tot.bind (Q := fun r => r = true) (Tot.ge true 1001 (fun k hk => pSameTexts_self u (by have := hu.1; omega) k hk) rfl) (fun r hr => ?_)
   subst hr
   exact Tot.congr (fun k => if_pos rfl) (law_j7 l hl)
 ·exact Tot.congr (fun k => if_neg h) (law_j7 l hl)
theorem law_j5 (l : List Int) (hl : Bytes l) : Tot (fun k => laws_FnScans.j5 k l) (fun r => r = true) := by
 refine Tot.step (fun k => by rw [laws_FnScans.j5]) ?_
 refine Tot.bind (drawHoles_tot l hl) (fun u hu => ?_)
 obtain ⟨b1, b2⟩ := small_big hu
 obtain ⟨R, hR, hq, K, hK⟩ := holes_full u b1 b2
 refine Tot.bind (Q := fun r => r = R) (Tot.ge R K (fun k hk => (hK k hk).2) rfl) (fun r hr => ?_)
 subst hr
 refine Tot.bind (Q := fun q => q = r) (Tot.ge r K (fun k hk => (hK k hk).1) rfl) (fun q hqq => ?_)
 subst hqq
 refine Tot.congr (fun k => if_neg (by simp)) ?_
 refine Tot.bind (Q := fun t => t = true) (Tot.ge true 1300 (fun k hk => pSameHoles_self _ (by omega) k (by omega)) rfl) (fun t ht => ?_)
 subst ht
 exact law_j6 l hl hu q hR hq
theorem openL_len (h : List S55) (r : Int) : (openL h r).length ≤ h.length := by
 unfold openL openAt
 rw [List.length_mergeSort, List.length_map]
 exact List.length_filter_le _ _
theorem soG_byte (h : List S55) (r c : Nat) : 0 ≤ soG h r c ∧ soG h r c ≤ 255 := by
 unfold soG
 split <;> omega
theorem law_l1 (x1 : List Int) (h : List S55) (hg : SheetB h = true) (W r : Nat) (hW : W ≤ 20) (hr : r < 60) (f5 : List ByteArray) (jS : Int) {Q : Bool → Prop}
  (e : Tot (fun k => laws_FnScans.l0 k x1 h W f5 jS ((r + 1 : Nat) : Int)) Q) (d : Nat) : ∀ c : Nat, c + d = W → Tot (fun k => laws_FnScans.l1 k x1 h W (dRow (soG h r) W) (openL h r) c f5 jS r) Q := by
 have hlen : (openL h r).length ≤ 60 := Nat.le_trans (openL_len h r) (sheet_holes h hg).2
 induction d with
 | zero =>
  intro c hc
  exact Tot.step (h := fun k => laws_FnScans.l0 k x1 h W f5 jS ((r + 1 : Nat) : Int)) (fun k => by rw [laws_FnScans.l1, if_neg (by omega), w_succ r (by omega)]) e
 | succ d ih =>
  intro c hc
  have hcW : c < W := by omega
  refine Tot.step (h := fun k => (laws_pIn.f k (openL h r) c).bind fun fL => (if (((bt (dRow (soG h r) W) c) == 111) != fL) = true then (some false) else (laws_FnScans.l1 k x1 h W (dRow (soG h r) W) (openL h r) ((c + 1 : Nat) : Int) f5 jS r))) (fun k => by rw [laws_FnScans.l1, if_pos (by omega), if_pos (by omega), dRow_size, if_pos (by omega), w_succ c (by omega)]) ?_
  refine Tot.bind (Q := fun t => t = decide ((c : Int) ∈ openL h r)) (Tot.ge _ 100 (fun k hk => pIn_eq _ (by omega) _ k (by omega)) rfl) (fun t ht => ?_)
  subst ht
  refine Tot.congr (fun k => if_neg ?_) (ih (c + 1) (by omega))
  rw [bt_dRow _ _ (fun c _ => soG_byte h r c) c hcW]
  unfold soG
  by_cases q : h.any (isAt (r : Int) (c : Int)) = true
  ·rw [if_pos q, decide_eq_true ((open_mem h r c).2 q)]; decide
  ·rw [if_neg q, decide_eq_false (fun m => q ((open_mem h r c).1 m))]; decide
theorem law_l0 (x1 : List Int) (hx : Bytes x1) (h : List S55) (hg : SheetB h = true) (W R : Nat) (hW : W ≤ 20) (hR : R ≤ 60) (d : Nat) : ∀ r : Nat, r + d = R →
  Tot (fun k => laws_FnScans.l0 k x1 h W (dRows (soG h) R W) R r) (fun r => r = true) := by
 induction d with
 | zero =>
  intro r hr
  exact Tot.step (h := fun k => laws_FnScans.j5 k x1) (fun k => by rw [laws_FnScans.l0, if_neg (by omega)]) (law_j5 x1 hx)
 | succ d ih =>
  intro r hr
  have hlen : (openL h r).length ≤ 60 := Nat.le_trans (openL_len h r) (sheet_holes h hg).2
  refine Tot.step (fun k => by rw [laws_FnScans.l0, if_pos (by omega), if_pos (by omega), dRows_length, if_pos (by omega), row_dRows _ _ _ r (by omega)]) ?_
  refine Tot.bind (Q := fun t => t = (openL h r, true)) (Tot.ge _ (fuelH 0 h.length + 2000) (fun k hk => (openTracks_both h hg r (by omega) k hk).2) rfl) (fun t ht => ?_)
  subst ht
  refine Tot.bind (Q := fun t => t = (openL h r, true)) (Tot.ge _ (fuelH 0 h.length + 2000) (fun k hk => (openTracks_both h hg r (by omega) k hk).1) rfl) (fun t ht => ?_)
  subst ht
  refine Tot.congr (fun k => (if_pos rfl).trans (if_pos rfl)) ?_
  refine Tot.bind (Q := fun t => t = true) (Tot.ge true 100 (fun k hk => sameI_self (openL h r) (by omega) k (by omega)) rfl) (fun t ht => ?_)
  subst ht
  refine Tot.congr (fun k => if_pos rfl) ?_
  refine Tot.step (h := fun k => laws_FnScans.l1 k x1 h W (dRow (soG h r) W) (openL h r) ((0 : Nat) : Int) (dRows (soG h) R W) R r) (fun k => by dsimp only; rw [laws_FnScans.j3, dRow_size, if_neg (by simp)]; rfl) ?_
  exact law_l1 x1 h hg W r hW (by omega) _ _ (ih (r + 1) (by omega)) W 0 (by omega)
theorem law_j0 (x1 : List Int) (hx : Bytes x1) (h : List S55) (w r : Int) : Tot (fun k => laws_FnScans.j0 k x1 h w r (soOut h w r).1 (soOut h w r).2 (soOut h w r).1 false) (fun r => r = true) := by
 refine Tot.step (fun k => by rw [laws_FnScans.j0, if_neg (by decide)]) ?_
 unfold soOut
 by_cases hs : soGood h w r = true
 ·rw [if_pos hs]
  unfold soGood at hs
  rw [Bool.and_eq_true, decide_eq_true_eq] at hs
  obtain ⟨hg, q1, q2⟩ := hs
  obtain ⟨W, rfl⟩ : ∃ n : Nat, w = n := ⟨w.toNat, by omega⟩
  obtain ⟨R, rfl⟩ : ∃ n : Nat, r = n := ⟨r.toNat, by omega⟩
  rw [Int.toNat_natCast, Int.toNat_natCast]
  dsimp only
  have hch : ∀ a b, a < R → b < W → chS (soG h a b) = true := fun a b _ _ => by
   unfold soG
   split <;> rfl
  have gg := grid_dRows (soG h) R W (by omega) (by omega) hch
  have sm := grid_small gg
  obtain ⟨b1, b2⟩ := small_big sm
  have hf := small_fuel sm
  have hw := wid_dRows (soG h) R W (by omega)
  have z : total 63 (dRows (soG h) R W) = 0 := (total_plc gg).2 (fun a b ha hb => by
   rw [dRows_length] at ha
   rw [hw] at hb
   rw [plc_drawn _ _ _ hch a b ha hb]
   unfold soG
   split <;> omega)
  refine Tot.congr (fun k => if_pos rfl) ?_
  refine Tot.bind (Q := fun t => t = ((0 : Int), true)) (Tot.ge _ 300000 (fun k hk => ?_) rfl) (fun t ht => ?_)
  ·rw [(countStains_eq _ b1 b2 k (by omega)).2, if_pos gg, z]
  ·subst ht
   refine Tot.congr (fun k => (if_pos rfl).trans ((if_pos rfl).trans (if_pos (by rw [dRows_length])))) ?_
   refine Tot.bind (Q := fun t => t = true) (Tot.ge true 300000 (fun k hk => by rw [isScan_eq _ b1 b2 k (by omega), gg]) rfl) (fun t ht => ?_)
   subst ht
   refine Tot.step (h := fun k => laws_FnScans.l0 k x1 h W (dRows (soG h) R W) R ((0 : Nat) : Int)) (fun k => by rw [laws_FnScans.j1, if_neg (by decide), dRows_length]; rfl) ?_
   exact law_l0 x1 hx h hg W R (by omega) (by omega) R 0 (by omega)
 ·rw [if_neg hs]
  exact Tot.congr (fun k => if_neg (by decide)) (law_j5 x1 hx)
theorem u8_wf (l : List Int) (h : ∀ x ∈ l, (Lit.int .u8 x).wf = true) : ∀ x ∈ l, 0 ≤ x ∧ x ≤ 255 := fun x hx => by
 have := h x hx
 simpa [Lit.wf, IntKind.min, IntKind.max, IntKind.signed, IntKind.bits] using this
theorem FnScans : laws_FnScans.Pure := by
 intro l0 l1 m0 _ w0 m1 _ w1
 unfold maxLen at m0 m1
 by_cases hb : (l0.length : Int) > 1048576
 ·refine ⟨0, ?_⟩
  unfold laws_FnScans.f laws_big.f
  rw [if_pos hb]
  rfl
 ·by_cases hc : (l1.length : Int) > wrap64 (1048576 - (l0.length : Int))
  ·refine ⟨0, ?_⟩
   unfold laws_FnScans.f laws_big.f
   rw [if_neg hb]
   simp only [Option.bind_some]
   rw [if_pos (decide_eq_true hc)]
  ·have hc' := hc
   rw [w64 (by omega)] at hc'
   have b0 : Bytes l0 := ⟨by omega, u8_wf l0 w0⟩
   have b1 : Bytes l1 := ⟨by omega, u8_wf l1 w1⟩
   have key : Tot (fun k => laws_FnScans.f k l0 l1) (fun r => r = true) := by
    refine Tot.congr (h := fun k => (spec_DrawScanOf.f k l0).bind fun ca => ((impl_ScanOf.f k ca.1 ca.2.1 ca.2.2).bind fun ef => ((spec_ScanOf.f k ca.1 ca.2.1 ca.2.2).bind fun gw => (if (ef.2 != gw.2) = true then (laws_FnScans.j0 k l1 ca.1 ca.2.1 ca.2.2 ef.1 ef.2 gw.1 true) else ((laws_pSameTexts.f k ef.1 gw.1).bind fun m5 => (laws_FnScans.j0 k l1 ca.1 ca.2.1 ca.2.2 ef.1 ef.2 gw.1 (!m5))))))) (fun k => ?_) ?_
    ·unfold laws_FnScans.f laws_big.f
     rw [if_neg hb]
     simp only [Option.bind_some]
     rw [if_neg (by simpa using hc)]
    refine Tot.bind (drawScanOf_tot l0 b0) (fun q hq => ?_)
    obtain ⟨x, w, r⟩ := q
    have hx : x.length ≤ 61 := hq
    have hso := out_length x w r
    refine Tot.bind (Q := fun t => t = soOut x w r) (Tot.ge _ (fuelH 0 x.length + 20000) (fun k hk => (so_both x w r (by omega) k hk).2) rfl) (fun t ht => ?_)
    subst ht
    refine Tot.bind (Q := fun t => t = soOut x w r) (Tot.ge _ (fuelH 0 x.length + 20000) (fun k hk => (so_both x w r (by omega) k hk).1) rfl) (fun t ht => ?_)
    subst ht
    refine Tot.congr (fun k => if_neg (by simp)) ?_
    refine Tot.bind (Q := fun t => t = true) (Tot.ge true 1001 (fun k hk => pSameTexts_self _ (by omega) k hk) rfl) (fun t ht => ?_)
    subst ht
    exact law_j0 l1 b1 x w r
   obtain ⟨r, hr, K, hK⟩ := key
   exact ⟨K, (hK K (Nat.le_refl _)).trans (by rw [hr])⟩
end Go.Proofs.YtcpbncljimmkfaaGreatDoor.Pure
