/- FnStains: the law of stains holds for all bytes. No condition. -/
import Derived.Test.YtmnnmddfmmaohaaPFnStainsx18
namespace Go.Proofs.Ytmnnmddfmmaohaa.Pure
open Go.RowKit Go.Proofs.Ytmnnmddfmmaohaa.PFnStains Go.Proofs.YtmnnmddfmmaohaaW.PrintWords Go.Proofs.YtmnnmddfmmaohaaW.PrintLast

set_option linter.unusedVariables false
set_option linter.unusedSimpArgs false

theorem w64 {x : Int} (h : -9223372036854775808 ≤ x ∧ x ≤ 9223372036854775807) : wrap64 x = x := by
  unfold wrap64; omega
theorem someF {p : Prop} [Decidable p] (h : ¬ p) : some false = some (decide p) := by rw [decide_eq_false h]
theorem someD {q p : Prop} [Decidable q] [Decidable p] (h : q ↔ p) : some (decide q) = some (decide p) := by rw [decide_eq_decide.2 h]

theorem in_eq (a b c : Int) : spec_l1In.f a b c = some (decide (b ≤ a ∧ a ≤ c)) := by
  unfold spec_l1In.f
  by_cases h : a ≥ b
  · rw [if_pos h]; congr 1; simp [show b ≤ a from h]
  · rw [if_neg h]; congr 1; simp; omega

theorem fill_step {α : Type} (l : List α) (z : α) (i : Nat) (h : i < l.length) :
    (l.take i ++ List.replicate (l.length - i) z).set i (l[i]'h) = l.take (i + 1) ++ List.replicate (l.length - (i + 1)) z := by
  have hl : (l.take i).length = i := by rw [List.length_take]; omega
  rw [List.set_append_right _ _ (by omega), hl, Nat.sub_self, show l.length - i = (l.length - (i + 1)) + 1 by omega, List.replicate_succ, List.set_cons_zero, List.take_succ_eq_append_getElem h, List.append_assoc]
  rfl
theorem fill_length {α : Type} (l : List α) (z : α) (i : Nat) (h : i ≤ l.length) : (l.take i ++ List.replicate (l.length - i) z).length = l.length := by
  simp; omega

theorem rd_get (l : List Int) (i : Nat) (h : i < l.length) : rd l (i : Int) = l[i] := by
  unfold rd; rw [Int.toNat_natCast, List.getD_eq_getElem?_getD, List.getElem?_eq_getElem h]; rfl

/-- what is drawn out of bytes is always there -/
theorem tmod_range (x n : Int) (hx : 0 ≤ x) (hn : 1 ≤ n) : 0 ≤ Int.tmod x n ∧ Int.tmod x n < n := by
  rw [Int.tmod_eq_emod_of_nonneg hx]
  exact ⟨Int.emod_nonneg _ (by omega), Int.emod_lt_of_pos _ (by omega)⟩
theorem u64_range (x : Int) : 0 ≤ IntKind.u64.wrap x ∧ IntKind.u64.wrap x < 18446744073709551616 := by
  simp only [IntKind.wrap, IntKind.bits, IntKind.signed, Bool.false_and, Bool.false_eq_true, if_false]
  exact ⟨Int.emod_nonneg _ (by decide), Int.emod_lt_of_pos _ (by decide)⟩
theorem u64_keeps (n : Int) (h0 : 0 ≤ n) (h1 : n < 2 ^ 64) : IntKind.u64.wrap n = n := by
  simp only [IntKind.wrap, IntKind.bits, IntKind.signed, Bool.false_and, Bool.false_eq_true, if_false]
  exact Int.emod_eq_of_lt h0 h1
theorem low_byte (x : Int) : ∃ v, wrap64 (Go.bits .and .u64 ((IntKind.u64.wrap x) / 1099511627776) 255) = v ∧ 0 ≤ v ∧ v ≤ 255 := by
  obtain ⟨h0, h1⟩ := u64_range x
  have hd0 : 0 ≤ IntKind.u64.wrap x / 1099511627776 := by omega
  have hd1 : IntKind.u64.wrap x / 1099511627776 < 2 ^ 64 := by omega
  have e := bits_mask .u64 64 (by decide) (fun n a b => u64_keeps n a b) 8 (by decide) _ hd0 hd1
  rw [show (255 : Int) = 2 ^ 8 - 1 by decide, e]
  generalize IntKind.u64.wrap x / 1099511627776 = y at hd0 hd1
  have : 0 ≤ y % 2 ^ 8 ∧ y % 2 ^ 8 ≤ 255 := by omega
  exact ⟨_, w64 (by omega), this.1, this.2⟩
def Bytes (l : List Int) : Prop := l.length ≤ 1048576 ∧ ∀ x ∈ l, 0 ≤ x ∧ x ≤ 255
theorem next_ok (l : List Int) (hl : Bytes l) (a s : Int) (ha : 0 ≤ a ∧ a ≤ 1000000) : ∃ v s', spec_l1Cur_next.f l a s = some (v, a + 1, s') ∧ 0 ≤ v ∧ v ≤ 255 := by
  have wa : wrap64 (a + 1) = a + 1 := w64 (by omega)
  unfold spec_l1Cur_next.f
  rw [wa]
  clear wa
  by_cases h : a < (l.length : Int)
  · obtain ⟨n, rfl⟩ : ∃ n : Nat, a = n := ⟨a.toNat, by omega⟩
    have hn : n < l.length := by omega
    rw [if_pos h, if_pos ha.1]
    have hb := hl.2 _ (List.getElem_mem hn)
    by_cases h2 : (n : Int) + 1 ≤ (l.length : Int)
    · rw [if_pos h2]
      refine ⟨_, _, rfl, ?_⟩
      rw [rd_get l n hn, w64 (by omega)]
      exact hb
    · omega
  · rw [if_neg h]
    by_cases h2 : a + 1 ≤ (l.length : Int)
    · rw [if_pos h2]
      exact ⟨_, _, rfl, by omega, by omega⟩
    · rw [if_neg h2]
      obtain ⟨v, e, h0, h1⟩ := low_byte (IntKind.u64.wrap (IntKind.u64.wrap (s * 6364136223846793005)) + 1442695040888963407)
      exact ⟨v, IntKind.u64.wrap (IntKind.u64.wrap (IntKind.u64.wrap (s * 6364136223846793005)) + 1442695040888963407), by rw [e], h0, h1⟩
theorem pick_ok (l : List Int) (hl : Bytes l) (a s : Int) (ha : 0 ≤ a ∧ a ≤ 900000) (n : Int) :
    ∃ v a' s', spec_l1Cur_pick.f l a s n = some (v, a', s') ∧ 0 ≤ v ∧ (1 ≤ n → v < n) ∧ a ≤ a' ∧ a' ≤ a + 2 := by
  unfold spec_l1Cur_pick.f
  by_cases h : n ≤ 1
  · rw [if_pos h]
    exact ⟨0, a, s, rfl, by omega, by omega, by omega, by omega⟩
  · rw [if_neg h]
    obtain ⟨v, s1, e1, h0, h1⟩ := next_ok l hl a s (by omega)
    rw [e1]
    simp only [Option.bind_some]
    by_cases h2 : n > 200
    · obtain ⟨u, s2, e2, g0, g1⟩ := next_ok l hl (a + 1) s1 (by omega)
      rw [if_pos h2, e2]
      simp only [Option.bind_some]
      rw [if_neg (by omega), w64 (x := v * 256) (by omega), w64 (by omega)]
      have r := tmod_range (v * 256 + u) n (by omega) (by omega)
      exact ⟨_, _, _, rfl, r.1, fun _ => r.2, by omega, by omega⟩
    · rw [if_neg h2, if_neg (by omega)]
      have r := tmod_range v n h0 (by omega)
      exact ⟨_, _, _, rfl, r.1, fun _ => r.2, by omega, by omega⟩
theorem one_ok (l : List Int) (hl : Bytes l) (a s : Int) (ha : 0 ≤ a ∧ a ≤ 900000) (n : Int) :
    ∃ v a' s', spec_l1Cur_one.f l a s n = some (v, a', s') ∧ a ≤ a' ∧ a' ≤ a + 2 := by
  obtain ⟨v, a', s', e, _, _, h1, h2⟩ := pick_ok l hl a s ha n
  unfold spec_l1Cur_one.f
  rw [e]
  exact ⟨_, _, _, rfl, h1, h2⟩
theorem among_ok (l : List Int) (hl : Bytes l) (a s : Int) (ha : 0 ≤ a ∧ a ≤ 900000) (xs : List Int) (hx : 1 ≤ xs.length) :
    ∃ v a' s', spec_l1Cur_among.f l a s xs = some (v, a', s') ∧ a ≤ a' ∧ a' ≤ a + 2 := by
  obtain ⟨v, a', s', e, h0, h1, h2, h3⟩ := pick_ok l hl a s ha (xs.length : Int)
  unfold spec_l1Cur_among.f
  rw [e]
  simp only [Option.bind_some]
  rw [if_pos h0, if_pos (h1 (by omega))]
  exact ⟨_, _, _, rfl, h2, h3⟩

theorem rdB_get (l : List ByteArray) (i : Nat) (h : i < l.length) : rdOf ByteArray.empty l (i : Int) = l[i] := by
  unfold rdOf; rw [Int.toNat_natCast, List.getD_eq_getElem?_getD, List.getElem?_eq_getElem h]; rfl
theorem drop_get {α : Type} (l : List α) (i : Nat) (h : i < l.length) : l.drop i = l[i] :: l.drop (i + 1) := List.drop_eq_getElem_cons h
/-- the bytes of a string -/
abbrev cs (s : ByteArray) : List Int := bytesOf s
theorem cs_length (s : ByteArray) : (cs s).length = s.size := bytesOf_length s
theorem bt_get (s : ByteArray) (i : Nat) (h : i < s.size) : bt s (i : Int) = (cs s)[i]'(by rw [cs_length]; exact h) := by
  rw [← rd_bytesOf, rd_get _ _ (by rw [bytesOf_length]; exact h)]

theorem rdH_get (l : List S90) (i : Nat) (h : i < l.length) : rd_T90 l (i : Int) = l[i] := by
  unfold rd_T90; rw [Int.toNat_natCast, List.getD_eq_getElem?_getD, List.getElem?_eq_getElem h]; rfl

/-- sheets: holes in order, none of a track touching an earlier one -/
def HoleOK (x : S90) : Bool := decide (0 ≤ x.f0 ∧ x.f0 ≤ 19 ∧ 0 ≤ x.f1 ∧ x.f1 < x.f2 ∧ x.f2 ≤ 2000)
def hBefore (a b : S90) : Bool := decide (a.f1 < b.f1 ∨ (a.f1 = b.f1 ∧ a.f0 < b.f0))
def lastOK (p : List S90) (x : S90) : Bool := match p.getLast? with
  | none => true
  | some y => hBefore y x
def apartOK (p : List S90) (x : S90) : Bool := p.all fun y => !(decide (x.f0 = y.f0) && decide (y.f2 ≥ x.f1))
def chkSheet (p : List S90) : List S90 → Bool
  | [] => true
  | x :: r => HoleOK x && lastOK p x && apartOK p x && chkSheet (p ++ [x]) r
def SheetB (l : List S90) : Bool := chkSheet [] l && decide (l.length ≤ 60)
def fuelH (i : Nat) : Nat → Nat
  | 0 => 1
  | d + 1 => i + 3 + fuelH (i + 1) d
theorem lastOK_take (l : List S90) (i : Nat) (h : i + 1 < l.length) : lastOK (l.take (i + 1)) l[i + 1] = hBefore l[i] l[i + 1] := by
  unfold lastOK
  rw [List.take_succ_eq_append_getElem (show i < l.length by omega), List.getLast?_concat]

theorem specSheet_row (l : List S90) (x7 : List S90) (x8 x9 a b c : Int) (p : List S90) (hp : p.length ≤ 1048576) (x : S90) (hx : x = ⟨a, b, c⟩) (d : Nat) : ∀ (k j : Nat), j + d = p.length →
    spec_shGood.l1 (k + d + 1) l x7 x8 x9 p p.length j a b c = if apartOK (p.drop j) x then spec_shGood.l0 k l x7 x8 (wrap64 (x9 + 1)) else some false := by
  induction d with
  | zero =>
    intro k j hj
    rw [spec_shGood.l1, if_neg (by omega), List.drop_of_length_le (by omega)]
    rfl
  | succ d ih =>
    intro k j hj
    subst hx
    rw [spec_shGood.l1, if_pos (by omega), if_pos (by omega), if_pos (by omega), rdH_get p j (by omega), drop_get p j (by omega), w64 (by omega), show k + (d + 1) = k + d + 1 by omega, show ((j : Int) + 1) = ((j + 1 : Nat) : Int) by omega, ih k (j + 1) (by omega)]
    unfold apartOK
    rw [List.all_cons]
    by_cases h1 : a = p[j].f0
    · by_cases h2 : p[j].f2 ≥ b
      · rw [if_pos (by omega), if_pos h2]; simp [h1, h2]
      · rw [if_pos (by omega), if_neg h2]; simp [h1, h2]
    · rw [if_neg (by omega)]; simp [h1]
theorem shHole_eq (a b c : Int) : spec_shHole.f a b c = some (HoleOK ⟨a, b, c⟩) := by
  unfold spec_shHole.f HoleOK
  simp only [in_eq, Option.bind_some, decide_eq_true_eq]
  split
  · split
    · rw [w64 (by omega)]; exact someD (by omega)
    · exact someF (by omega)
  · exact someF (by omega)
theorem shBefore_eq (a b c a' b' c' : Int) : spec_shBefore.f a b c a' b' c' = some (hBefore ⟨a, b, c⟩ ⟨a', b', c'⟩) := by
  unfold spec_shBefore.f hBefore
  simp only []
  split
  · rw [decide_eq_true (by omega)]
  · split
    · exact someD (by omega)
    · exact someF (by omega)
theorem specSheet_loop (l : List S90) (hl : l.length ≤ 1048576) (d : Nat) : ∀ (k i : Nat), i + d = l.length → fuelH i d ≤ k →
    spec_shGood.l0 k l l l.length i = some (chkSheet (l.take i) (l.drop i) && decide (l.length ≤ 60)) := by
  induction d with
  | zero =>
    intro k i hi hk
    unfold fuelH at hk
    obtain ⟨k, rfl⟩ : ∃ j, k = j + 1 := ⟨k - 1, by omega⟩
    rw [spec_shGood.l0, if_neg (by omega), List.drop_of_length_le (by omega)]
    unfold chkSheet
    rw [Bool.true_and]
    exact someD (by omega)
  | succ d ih =>
    intro k i hi hk
    unfold fuelH at hk
    obtain ⟨j, rfl⟩ : ∃ j, k = j + i + 1 + 1 + 1 := ⟨k - i - 3, by omega⟩
    have ht : (l.take i).length = i := by rw [List.length_take]; omega
    have e2 : wrap64 ((i : Int) + 1) = ((i + 1 : Nat) : Int) := by rw [w64 (by omega)]; omega
    rw [spec_shGood.l0, if_pos (by omega), if_pos (by omega), if_pos (by omega), rdH_get l i (by omega), shHole_eq, drop_get l i (by omega), chkSheet]
    simp only [Option.bind_some]
    have hj : ∀ flag : Bool, spec_shGood.j1 (j + i + 1 + 1) l i l l.length i flag l[i].f0 l[i].f1 l[i].f2 = if flag then some false else if apartOK (l.take i) l[i] then spec_shGood.l0 j l l l.length ((i + 1 : Nat) : Int) else some false := by
      intro flag
      rw [spec_shGood.j1]
      cases flag
      · simp only [Bool.false_eq_true, if_false]
        rw [if_pos (by omega), if_pos (by omega), Int.toNat_natCast]
        simp only [Option.bind_some]
        have := specSheet_row l l l.length i l[i].f0 l[i].f1 l[i].f2 (l.take i) (by omega) l[i] rfl i j 0 (by omega)
        rw [List.drop_zero, e2] at this
        exact this
      · simp only [if_true]
    have hrec := ih j (i + 1) (by omega) (by omega)
    rw [List.take_succ_eq_append_getElem (show i < l.length by omega)] at hrec
    by_cases h1 : HoleOK l[i] = true
    · rw [if_pos h1, h1]
      rcases Nat.eq_zero_or_pos i with h0 | h0
      · subst h0
        rw [if_neg (by omega), hj false]
        simp only [Bool.false_eq_true, if_false]
        rw [hrec]
        simp [lastOK, apartOK]
      · obtain ⟨m, rfl⟩ : ∃ m, i = m + 1 := ⟨i - 1, by omega⟩
        have e1 : wrap64 (((m + 1 : Nat) : Int) - 1) = (m : Int) := by rw [w64 (by omega)]; omega
        rw [if_pos (by omega), e1, if_pos (by omega), if_pos (by omega), rdH_get l m (by omega), shBefore_eq]
        simp only [Option.bind_some]
        rw [hj, hrec, lastOK_take l m (by omega)]
        cases hb : hBefore l[m] l[m + 1]
        · simp [hb]
        · cases ha : apartOK (l.take (m + 1)) l[m + 1] <;> simp [hb]
    · rw [if_neg h1, Bool.eq_false_iff.2 h1, hj]; simp
theorem shGood_eq (l : List S90) (hl : l.length ≤ 1048576) (k : Nat) (hk : fuelH 0 l.length ≤ k) : spec_shGood.f k l = some (SheetB l) := by
  unfold spec_shGood.f SheetB
  have := specSheet_loop l hl l.length k 0 (by omega) hk
  rw [List.drop_zero, List.take_zero] at this
  exact this

/-- with enough rounds there is an answer, and it is as Q says -/
def Tot {α : Type} (g : Nat → Option α) (Q : α → Prop) : Prop := ∃ r, Q r ∧ ∃ K, ∀ k, K ≤ k → g k = some r
theorem Tot.now {α : Type} {g : Nat → Option α} {Q : α → Prop} (r : α) (h : ∀ k, g k = some r) (q : Q r) : Tot g Q := ⟨r, q, 0, fun k _ => h k⟩
theorem Tot.ge {α : Type} {g : Nat → Option α} {Q : α → Prop} (r : α) (K : Nat) (h : ∀ k, K ≤ k → g k = some r) (q : Q r) : Tot g Q := ⟨r, q, K, h⟩
theorem Tot.step {α : Type} {g h : Nat → Option α} {Q : α → Prop} (hs : ∀ k, g (k + 1) = h k) (e : Tot h Q) : Tot g Q := by
  obtain ⟨r, q, K, hK⟩ := e
  refine ⟨r, q, K + 1, fun k hk => ?_⟩
  obtain ⟨j, rfl⟩ : ∃ j, k = j + 1 := ⟨k - 1, by omega⟩
  rw [hs]
  exact hK j (by omega)
theorem Tot.congr {α : Type} {g h : Nat → Option α} {Q : α → Prop} (hs : ∀ k, g k = h k) (e : Tot h Q) : Tot g Q := by
  obtain ⟨r, q, K, hK⟩ := e
  exact ⟨r, q, K, fun k hk => by rw [hs]; exact hK k hk⟩
theorem Tot.bind {α β : Type} {g : Nat → Option α} {Q : α → Prop} {h : Nat → α → Option β} {R : β → Prop} (e : Tot g Q) (e2 : ∀ a, Q a → Tot (fun k => h k a) R) : Tot (fun k => (g k).bind (h k)) R := by
  obtain ⟨a, q, K, hK⟩ := e
  obtain ⟨r, p, M, hM⟩ := e2 a q
  refine ⟨r, p, K + M, fun k hk => ?_⟩
  simp only []
  rw [hK k (by omega), Option.bind_some]
  exact hM k (by omega)
theorem Tot.weak {α : Type} {g : Nat → Option α} {Q R : α → Prop} (e : Tot g Q) (h : ∀ a, Q a → R a) : Tot g R := by
  obtain ⟨r, q, K, hK⟩ := e
  exact ⟨r, h r q, K, hK⟩
theorem Tot.mono {α : Type} {g : Nat → Option α} {Q : α → Prop} (e : Tot g Q) : ∃ r, Q r ∧ ∃ K, ∀ k, K ≤ k → g k = some r := e

/-- rectangles of some characters: the rows are as long as the first, and hold those characters alone -/
def RowOK (ch : Int → Bool) (n : Nat) (s : ByteArray) : Bool := s.size == n && (cs s).all ch
def wid (l : List ByteArray) : Nat := (l.headD ByteArray.empty).size
def Grid (ch : Int → Bool) (least rows width : Nat) (l : List ByteArray) : Bool :=
  decide (least ≤ l.length) && decide (l.length ≤ rows) && decide (least ≤ wid l) && decide (wid l ≤ width) && l.all (RowOK ch (wid l))
def fuelR : List ByteArray → Nat
  | [] => 1
  | s :: r => s.size + 2 + fuelR r
theorem wid_get (l : List ByteArray) (h : 0 < l.length) : wid l = (l[0]'h).size := by
  cases l with
  | nil => simp at h
  | cons a r => rfl
theorem indexByte_found (l : List UInt8) (c : UInt8) : (Go.Lib.indexByte l c < 0) ↔ c ∉ l := by
  induction l with
  | nil => simp [Go.Lib.indexByte]
  | cons b r ih =>
    have hge : ∀ l : List UInt8, -1 ≤ Go.Lib.indexByte l c := by
      intro l
      induction l with
      | nil => simp [Go.Lib.indexByte]
      | cons b r ih => unfold Go.Lib.indexByte; split; omega; split <;> omega
    have hr := hge r
    unfold Go.Lib.indexByte
    by_cases h : b = c
    · subst h; simp
    · have h1 : (b == c) = false := by simpa using h
      have h2 : c ≠ b := fun e => h e.symm
      rw [h1]
      simp only [Bool.false_eq_true, if_false, List.mem_cons, not_or]
      by_cases h3 : Go.Lib.indexByte r c = -1
      · have h4 : (Go.Lib.indexByte r c == -1) = true := by simpa using h3
        rw [h4]; simp only [if_true]
        exact ⟨fun _ => ⟨h2, ih.1 (by omega)⟩, fun _ => by omega⟩
      · have h4 : (Go.Lib.indexByte r c == -1) = false := by simpa using h3
        rw [h4]; simp only [Bool.false_eq_true, if_false]
        exact ⟨fun h => by omega, fun h => absurd (ih.2 h.2) (by omega)⟩

def chS (c : Int) : Bool := c == 46 || c == 111 || c == 63

theorem scGood_row (x0 : List ByteArray) (s : ByteArray) (hs : s.size ≤ 1048576) (x6 : List ByteArray) (x7 x8 : Int) (d : Nat) : ∀ (k i : Nat), i + d = s.size →
    spec_scGood.l1 (k + d + 1) x0 s i x6 x7 x8 = if ((cs s).drop i).all chS then spec_scGood.l0 k x0 x6 x7 (wrap64 (x8 + 1)) else some false := by
  induction d with
  | zero =>
    intro k i hi
    rw [spec_scGood.l1, if_neg (by omega), List.drop_of_length_le (by rw [cs_length]; omega)]
    simp
  | succ d ih =>
    intro k i hi
    rw [spec_scGood.l1, if_pos (by omega), if_pos (by omega), bt_get s i (by omega), drop_get (cs s) i (by rw [cs_length]; omega), List.all_cons, w64 (by omega), show k + (d + 1) = k + d + 1 by omega, show ((i : Int) + 1) = ((i + 1 : Nat) : Int) by omega, ih k (i + 1) (by omega)]
    generalize (cs s)[i]'_ = c
    unfold chS
    by_cases h1 : c = 46
    · simp [h1]
    · by_cases h2 : c = 111
      · simp [h2]
      · by_cases h3 : c = 63
        · simp [h3]
        · simp [h1, h2, h3]
theorem scGood_loop (l : List ByteArray) (hl : l.length ≤ 1048576) (hs : ∀ s ∈ l, s.size ≤ 1048576) (d : Nat) : ∀ (k i : Nat), i + d = l.length → fuelR (l.drop i) ≤ k →
    spec_scGood.l0 k l l l.length i = if (l.drop i).all (RowOK chS (wid l)) then
      (if 1 ≤ l.length ∧ l.length ≤ 60 then (if 0 < (l.length : Int) then some (decide (1 ≤ wid l ∧ wid l ≤ 20)) else none) else some false) else some false := by
  induction d with
  | zero =>
    intro k i hi hk
    rw [List.drop_of_length_le (by omega)] at hk ⊢
    obtain ⟨k, rfl⟩ : ∃ j, k = j + 1 := ⟨k - 1, by unfold fuelR at hk; omega⟩
    rw [spec_scGood.l0, if_neg (by omega), in_eq]
    simp only [Option.bind_some, decide_eq_true_eq, List.all_nil, if_true]
    by_cases h0 : 0 < l.length
    · rw [if_pos (show 0 < (l.length : Int) by omega), show ((0 : Int)) = ((0 : Nat) : Int) from rfl, rdB_get l 0 h0, in_eq, wid_get l h0]
      simp only [Option.bind_some]
      split
      · rw [if_pos (by omega), if_pos (by omega)]; exact someD (by omega)
      · rw [if_neg (by omega)]
    · rw [if_neg (by omega), if_neg (by omega)]
  | succ d ih =>
    intro k i hi hk
    have hx : l[i].size ≤ 1048576 := hs _ (List.getElem_mem _)
    rw [drop_get l i (by omega)] at hk ⊢
    unfold fuelR at hk
    obtain ⟨j, hj⟩ : ∃ j, k = j + l[i].size + 1 + 1 := ⟨k - l[i].size - 2, by omega⟩
    rw [hj]
    have h0 : 0 < l.length := by omega
    rw [spec_scGood.l0, if_pos (by omega), if_pos (by omega), if_pos (by omega), if_pos (by omega), rdB_get l i (by omega)]
    rw [show rdOf ByteArray.empty l 0 = l[0] from rdB_get l 0 h0, ← wid_get l h0, List.all_cons]
    by_cases h1 : (l[i].size : Int) = (wid l : Int)
    · have h1' : (l[i].size == wid l) = true := by simp; omega
      rw [if_pos h1, show (0 : Int) = ((0 : Nat) : Int) from rfl, scGood_row l l[i] hx l _ _ l[i].size j 0 (by omega), List.drop_zero, w64 (by omega), show ((i : Int) + 1) = ((i + 1 : Nat) : Int) by omega, ih j (i + 1) (by omega) (by omega)]
      unfold RowOK
      rw [h1', Bool.true_and]
      by_cases h2 : (cs l[i]).all chS = true
      · rw [if_pos h2, h2, Bool.true_and]
        rfl
      · rw [if_neg h2, Bool.eq_false_iff.2 h2, Bool.false_and, if_neg (by decide)]
    · have h1' : (l[i].size == wid l) = false := by simp; omega
      rw [if_neg h1]
      unfold RowOK
      rw [h1', Bool.false_and, Bool.false_and, if_neg (by decide)]
theorem scGood_eq (l : List ByteArray) (hl : l.length ≤ 1048576) (hs : ∀ s ∈ l, s.size ≤ 1048576) (k : Nat) (hk : fuelR l ≤ k) : spec_scGood.f k l = some (Grid chS 1 60 20 l) := by
  unfold spec_scGood.f
  have := scGood_loop l hl hs l.length k 0 (by omega) (by simpa using hk)
  rw [List.drop_zero] at this
  rw [show (0 : Int) = ((0 : Nat) : Int) from rfl, this]
  unfold Grid
  by_cases h : l.all (RowOK chS (wid l)) = true
  · rw [if_pos h, h, Bool.and_true]
    by_cases h1 : 1 ≤ l.length ∧ l.length ≤ 60
    · rw [if_pos h1, if_pos (by omega), decide_eq_true h1.1, decide_eq_true h1.2]
      by_cases h2 : 1 ≤ wid l <;> by_cases h3 : wid l ≤ 20 <;> simp [h2, h3]
    · rw [if_neg h1]
      by_cases h2 : 1 ≤ l.length <;> by_cases h3 : l.length ≤ 60
      · exact absurd ⟨h2, h3⟩ h1
      all_goals simp [h2, h3]
  · rw [if_neg h, Bool.eq_false_iff.2 h, Bool.and_false]

def chIn (chars : ByteArray) (c : Int) : Bool := decide (c.toNat.toUInt8 ∈ chars.data.toList)
theorem isGrid_row (x0 : List ByteArray) (ch s : ByteArray) (hs : s.size ≤ 1048576) (x40 : List ByteArray) (x41 x42 : Int) (d : Nat) : ∀ (k i : Nat), i + d = s.size →
    impl_isGridOf.l1 (k + d + 1) x0 ch s i x40 x41 x42 = if ((cs s).drop i).all (chIn ch) then impl_isGridOf.l0 k x0 ch x40 x41 (wrap64 (x42 + 1)) else some false := by
  induction d with
  | zero =>
    intro k i hi
    rw [impl_isGridOf.l1, if_neg (by omega), List.drop_of_length_le (by rw [cs_length]; omega)]
    simp
  | succ d ih =>
    intro k i hi
    rw [impl_isGridOf.l1, if_pos (by omega), if_pos (by omega), bt_get s i (by omega), drop_get (cs s) i (by rw [cs_length]; omega), List.all_cons, w64 (by omega), show k + (d + 1) = k + d + 1 by omega, show ((i : Int) + 1) = ((i + 1 : Nat) : Int) by omega, ih k (i + 1) (by omega)]
    generalize (cs s)[i]'_ = c
    unfold strings_IndexByte.f chIn
    simp only [Option.bind_some]
    have hf := indexByte_found ch.data.toList c.toNat.toUInt8
    by_cases h : c.toNat.toUInt8 ∈ ch.data.toList
    · rw [if_neg (fun h' => hf.1 h' h), decide_eq_true h, Bool.true_and]
    · rw [if_pos (hf.2 h), decide_eq_false h, Bool.false_and, if_neg (by decide)]
theorem isGrid_loop (l : List ByteArray) (ch : ByteArray) (hl : l.length ≤ 1048576) (hs : ∀ s ∈ l, s.size ≤ 1048576) (d : Nat) : ∀ (k i : Nat), i + d = l.length → fuelR (l.drop i) ≤ k →
    impl_isGridOf.l0 k l ch l l.length i = some ((l.drop i).all (RowOK (chIn ch) (wid l))) := by
  induction d with
  | zero =>
    intro k i hi hk
    rw [List.drop_of_length_le (by omega)] at hk ⊢
    obtain ⟨k, rfl⟩ : ∃ j, k = j + 1 := ⟨k - 1, by unfold fuelR at hk; omega⟩
    rw [impl_isGridOf.l0, if_neg (by omega)]
    rfl
  | succ d ih =>
    intro k i hi hk
    have hx : l[i].size ≤ 1048576 := hs _ (List.getElem_mem _)
    rw [drop_get l i (by omega)] at hk ⊢
    unfold fuelR at hk
    obtain ⟨j, hj⟩ : ∃ j, k = j + l[i].size + 1 + 1 := ⟨k - l[i].size - 2, by omega⟩
    rw [hj]
    have h0 : 0 < l.length := by omega
    rw [impl_isGridOf.l0, if_pos (by omega), if_pos (by omega), if_pos (by omega), if_pos (by omega), rdB_get l i (by omega)]
    rw [show rdOf ByteArray.empty l 0 = l[0] from rdB_get l 0 h0, ← wid_get l h0, List.all_cons]
    by_cases h1 : (l[i].size : Int) = (wid l : Int)
    · have h1' : (l[i].size == wid l) = true := by simp; omega
      rw [if_pos h1, show (0 : Int) = ((0 : Nat) : Int) from rfl, isGrid_row l ch l[i] hx l _ _ l[i].size j 0 (by omega), List.drop_zero, w64 (by omega), show ((i : Int) + 1) = ((i + 1 : Nat) : Int) by omega, ih j (i + 1) (by omega) (by omega)]
      unfold RowOK
      rw [h1', Bool.true_and]
      by_cases h2 : (cs l[i]).all (chIn ch) = true
      · rw [if_pos h2, h2, Bool.true_and]
      · rw [if_neg h2, Bool.eq_false_iff.2 h2, Bool.false_and]
    · have h1' : (l[i].size == wid l) = false := by simp; omega
      rw [if_neg h1]
      unfold RowOK
      rw [h1', Bool.false_and, Bool.false_and]
theorem isGrid_eq (l : List ByteArray) (hl : l.length ≤ 1048576) (hs : ∀ s ∈ l, s.size ≤ 1048576) (least rows width : Nat) (h1 : 1 ≤ least) (ch : ByteArray) (k : Nat) (hk : fuelR l < k) :
    impl_isGridOf.f k l least rows width ch = some (Grid (chIn ch) least rows width l) := by
  obtain ⟨k, rfl⟩ : ∃ j, k = j + 1 := ⟨k - 1, by omega⟩
  unfold impl_isGridOf.f Grid
  simp only [impl_isGridOf.j0, if_true]
  by_cases h2 : least ≤ l.length
  · by_cases h3 : l.length ≤ rows
    · have h0 : 0 < l.length := by omega
      rw [if_neg (by omega), if_neg (by omega), if_pos (by omega), show rdOf ByteArray.empty l 0 = l[0] from rdB_get l 0 h0, ← wid_get l h0, decide_eq_true h2, decide_eq_true h3]
      by_cases h4 : least ≤ wid l
      · rw [if_neg (by omega), decide_eq_true h4]
        by_cases h5 : wid l ≤ width
        · have := isGrid_loop l ch hl hs l.length k 0 (by omega) (by simpa using (by omega : fuelR l ≤ k))
          rw [List.drop_zero] at this
          rw [if_neg (by simp; omega), decide_eq_true h5, show (0 : Int) = ((0 : Nat) : Int) from rfl, this]
          simp
        · rw [if_pos (by simp; omega), decide_eq_false h5]; simp
      · rw [if_pos (by omega), decide_eq_false h4]; simp
    · rw [if_neg (by omega), if_pos (by omega), decide_eq_false h3]; simp
  · rw [if_pos (by omega), decide_eq_false h2]; simp

theorem chIn_scan (c : Int) (hc : 0 ≤ c ∧ c ≤ 255) : chIn ⟨#[46, 111, 63]⟩ c = chS c := by
  unfold chIn chS
  obtain ⟨n, rfl⟩ : ∃ n : Nat, c = n := ⟨c.toNat, by omega⟩
  have hn : n < 256 := by omega
  rw [Int.toNat_natCast]
  have key : ∀ m : Fin 256, decide (m.val.toUInt8 ∈ [(46 : UInt8), 111, 63]) = ((m.val : Int) == 46 || (m.val : Int) == 111 || (m.val : Int) == 63) := by decide +kernel
  exact key ⟨n, hn⟩
theorem cs_range (s : ByteArray) : ∀ c ∈ cs s, 0 ≤ c ∧ c ≤ 255 := by
  intro c hc
  unfold cs bytesOf at hc
  obtain ⟨b, _, rfl⟩ := List.mem_map.1 hc
  have := b.toNat_lt
  omega
theorem all_congr' {α : Type} (l : List α) (p q : α → Bool) (h : ∀ x ∈ l, p x = q x) : l.all p = l.all q := by
  induction l with
  | nil => rfl
  | cons a r ih => rw [List.all_cons, List.all_cons, h a (by simp), ih (fun x hx => h x (List.mem_cons_of_mem _ hx))]
theorem rowOK_scan (n : Nat) (s : ByteArray) : RowOK (chIn ⟨#[46, 111, 63]⟩) n s = RowOK chS n s := by
  unfold RowOK
  rw [all_congr' _ _ _ (fun c hc => chIn_scan c (cs_range s c hc))]
theorem grid_scan (least rows width : Nat) (l : List ByteArray) : Grid (chIn ⟨#[46, 111, 63]⟩) least rows width l = Grid chS least rows width l := by
  unfold Grid
  rw [all_congr' _ _ _ (fun s _ => rowOK_scan (wid l) s)]

theorem grid_facts {ch : Int → Bool} {least rows width : Nat} {l : List ByteArray} (h : Grid ch least rows width l = true) :
    least ≤ l.length ∧ l.length ≤ rows ∧ least ≤ wid l ∧ wid l ≤ width ∧ ∀ s ∈ l, s.size = wid l ∧ ∀ c ∈ cs s, ch c = true := by
  unfold Grid at h
  simp only [Bool.and_eq_true, decide_eq_true_eq, List.all_eq_true] at h
  obtain ⟨⟨⟨⟨h1, h2⟩, h3⟩, h4⟩, h5⟩ := h
  refine ⟨h1, h2, h3, h4, fun s hs => ?_⟩
  have := h5 s hs
  unfold RowOK at this
  simp only [Bool.and_eq_true, beq_iff_eq, List.all_eq_true] at this
  exact this
theorem chS_cases {c : Int} (h : chS c = true) : c = 46 ∨ c = 111 ∨ c = 63 := by
  unfold chS at h
  simp only [Bool.or_eq_true, beq_iff_eq] at h
  omega
theorem fuelR_bound (l : List ByteArray) (n : Nat) (h : ∀ s ∈ l, s.size ≤ n) : fuelR l ≤ l.length * (n + 2) + 1 := by
  induction l with
  | nil => simp [fuelR]
  | cons s r ih =>
    have h1 := ih (fun x hx => h x (List.mem_cons_of_mem _ hx))
    have h2 := h s (by simp)
    unfold fuelR
    rw [List.length_cons, Nat.add_mul]
    omega

/-- how many bytes of a kind -/
def cnt (m : Int) (l : List Int) : Int := (l.countP (fun c => c == m) : Nat)
theorem cnt_cons (m c : Int) (l : List Int) : cnt m (c :: l) = (if c = m then 1 else 0) + cnt m l := by
  unfold cnt
  rw [List.countP_cons]
  by_cases h : c = m
  · simp [h]; omega
  · simp [h]
theorem cnt_bounds (m : Int) (l : List Int) : 0 ≤ cnt m l ∧ cnt m l ≤ l.length := by
  unfold cnt
  have := List.countP_le_length (p := fun c => c == m) (l := l)
  omega
theorem cnt_append (m : Int) (a b : List Int) : cnt m (a ++ b) = cnt m a + cnt m b := by
  unfold cnt; rw [List.countP_append]; omega

/-- at how many places two scans differ without a stain -/
def rowFaults : List Int → List Int → Int
  | x :: xs, y :: ys => (if x = y then 0 else if x = 63 then 0 else if y = 63 then 0 else 1) + rowFaults xs ys
  | _, _ => 0
def faults : List ByteArray → List ByteArray → Int
  | s :: r, t :: q => rowFaults (cs s) (cs t) + faults r q
  | _, _ => 0
theorem rowFaults_bounds (a b : List Int) : 0 ≤ rowFaults a b ∧ rowFaults a b ≤ a.length := by
  induction a generalizing b with
  | nil => simp [rowFaults]
  | cons x xs ih =>
    cases b with
    | nil => simp [rowFaults]; omega
    | cons y ys =>
      have := ih ys
      rw [rowFaults, List.length_cons]
      repeat' split
      all_goals omega
theorem faults_bounds (a b : List ByteArray) (n : Nat) (h : ∀ s ∈ a, s.size ≤ n) : 0 ≤ faults a b ∧ faults a b ≤ a.length * n := by
  induction a generalizing b with
  | nil => simp [faults]
  | cons s r ih =>
    cases b with
    | nil => simp only [faults, Int.le_refl, true_and]; exact Int.mul_nonneg (by omega) (by omega)
    | cons t q =>
      have h1 := ih q (fun x hx => h x (List.mem_cons_of_mem _ hx))
      have h2 := h s (by simp)
      have h3 := rowFaults_bounds (cs s) (cs t)
      rw [cs_length] at h3
      rw [faults, List.length_cons, show (((r.length + 1 : Nat) : Int) * (n : Int)) = (r.length : Int) * n + n by rw [Int.natCast_add, Int.add_mul]; simp]
      omega

theorem specFaults_row (x1 : List ByteArray) (s t : ByteArray) (hs : s.size ≤ 1000) (ht : t.size = s.size) (x10 : List ByteArray) (x11 x12 : Int) (d : Nat) : ∀ (k i : Nat) (n : Int), i + d = s.size → 0 ≤ n ∧ n + d ≤ 1000000000 →
    spec_scApart.l1 (k + d + 1) x1 n s t i x10 x11 x12 = spec_scApart.l0 k x1 (n + rowFaults ((cs s).drop i) ((cs t).drop i)) x10 x11 (wrap64 (x12 + 1)) := by
  induction d with
  | zero =>
    intro k i n hi hn
    rw [spec_scApart.l1, if_neg (by omega), List.drop_of_length_le (by rw [cs_length]; omega)]
    simp [rowFaults]
  | succ d ih =>
    intro k i n hi hn
    rw [spec_scApart.l1, if_pos (by omega), if_pos (by omega), if_pos (by omega), bt_get s i (by omega), bt_get t i (by omega), drop_get (cs s) i (by rw [cs_length]; omega), drop_get (cs t) i (by rw [cs_length]; omega), rowFaults, w64 (x := (i : Int) + 1) (by omega), show k + (d + 1) = k + d + 1 by omega, show ((i : Int) + 1) = ((i + 1 : Nat) : Int) by omega]
    split
    · rw [ih k (i + 1) n (by omega) (by omega), Int.zero_add]
    · split
      · rw [ih k (i + 1) n (by omega) (by omega), Int.zero_add]
      · split
        · rw [ih k (i + 1) n (by omega) (by omega), Int.zero_add]
        · rw [w64 (by omega), ih k (i + 1) (n + 1) (by omega) (by omega), Int.add_assoc]
theorem specFaults_loop (a b : List ByteArray) (ha : a.length ≤ 1000) (hab : b.length = a.length) (hs : ∀ i (h : i < a.length), a[i].size ≤ 1000 ∧ (b[i]'(by omega)).size = a[i].size) (d : Nat) :
    ∀ (k i : Nat) (n : Int), i + d = a.length → fuelR (a.drop i) ≤ k → 0 ≤ n ∧ n + 1000 * d ≤ 100000000 →
    spec_scApart.l0 k b n a a.length i = some (n + faults (a.drop i) (b.drop i)) := by
  induction d with
  | zero =>
    intro k i n hi hk hn
    rw [List.drop_of_length_le (by omega)] at hk ⊢
    obtain ⟨k, rfl⟩ : ∃ j, k = j + 1 := ⟨k - 1, by unfold fuelR at hk; omega⟩
    rw [spec_scApart.l0, if_neg (by omega)]
    simp [faults]
  | succ d ih =>
    intro k i n hi hk hn
    obtain ⟨h1, h2⟩ := hs i (by omega)
    rw [drop_get a i (by omega)] at hk ⊢
    unfold fuelR at hk
    obtain ⟨j, hj⟩ : ∃ j, k = j + a[i].size + 1 + 1 := ⟨k - a[i].size - 2, by omega⟩
    have hb := rowFaults_bounds (cs a[i]) (cs (b[i]'(by omega)))
    rw [cs_length] at hb
    rw [hj, spec_scApart.l0, if_pos (by omega), if_pos (by omega), if_pos (by omega), if_pos (by omega), rdB_get a i (by omega), rdB_get b i (by omega), drop_get b i (by omega), faults, show (0 : Int) = ((0 : Nat) : Int) from rfl, specFaults_row b a[i] _ h1 h2 a a.length i a[i].size j 0 n (by omega) (by omega), List.drop_zero, List.drop_zero, w64 (by omega), show ((i : Int) + 1) = ((i + 1 : Nat) : Int) by omega, ih j (i + 1) _ (by omega) (by omega) (by omega), Int.add_assoc]
theorem specFaults_eq (a b : List ByteArray) (ha : a.length ≤ 1000) (hab : b.length = a.length) (hs : ∀ i (h : i < a.length), a[i].size ≤ 1000 ∧ (b[i]'(by omega)).size = a[i].size) (k : Nat) (hk : fuelR a ≤ k) :
    spec_scApart.f k a b = some (faults a b) := by
  unfold spec_scApart.f
  have := specFaults_loop a b ha hab hs a.length k 0 0 (by omega) (by simpa using hk) (by omega)
  rw [List.drop_zero, List.drop_zero, Int.zero_add] at this
  exact this

theorem implFaults_row (a b : List ByteArray) (r : Nat) (hr : r < a.length) (hb : b.length = a.length) (hs : a[r].size ≤ 1000) (ht : (b[r]'(by omega)).size = a[r].size) (x9 x10 : Int) (d : Nat) : ∀ (k i : Nat) (n : Int), i + d = a[r].size → 0 ≤ n ∧ n + d ≤ 1000000000 →
    impl_scanFaults.l1 (k + d + 1) a b n r x9 x10 a[r].size i = impl_scanFaults.l0 k a b (n + rowFaults ((cs a[r]).drop i) ((cs (b[r]'(by omega))).drop i)) x9 (wrap64 (x10 + 1)) := by
  induction d with
  | zero =>
    intro k i n hi hn
    rw [impl_scanFaults.l1, if_neg (by omega), List.drop_of_length_le (by rw [cs_length]; omega)]
    simp [rowFaults]
  | succ d ih =>
    intro k i n hi hn
    rw [impl_scanFaults.l1, if_pos (by omega), if_pos (by omega), if_pos (by omega), if_pos (by omega), rdB_get a r hr, rdB_get b r (by omega), if_pos (by omega), if_pos (by omega), if_pos (by omega), bt_get a[r] i (by omega), bt_get (b[r]'(by omega)) i (by omega), drop_get (cs a[r]) i (by rw [cs_length]; omega), drop_get (cs (b[r]'(by omega))) i (by rw [cs_length]; omega), rowFaults, w64 (x := (i : Int) + 1) (by omega), show k + (d + 1) = k + d + 1 by omega, show ((i : Int) + 1) = ((i + 1 : Nat) : Int) by omega]
    split
    · rw [ih k (i + 1) n (by omega) (by omega), Int.zero_add]
    · split
      · rw [ih k (i + 1) n (by omega) (by omega), Int.zero_add]
      · split
        · rw [ih k (i + 1) n (by omega) (by omega), Int.zero_add]
        · rw [w64 (by omega), ih k (i + 1) (n + 1) (by omega) (by omega), Int.add_assoc]
theorem implFaults_loop (a b : List ByteArray) (ha : a.length ≤ 1000) (hab : b.length = a.length) (hs : ∀ i (h : i < a.length), a[i].size ≤ 1000 ∧ (b[i]'(by omega)).size = a[i].size) (d : Nat) :
    ∀ (k i : Nat) (n : Int), i + d = a.length → fuelR (a.drop i) ≤ k → 0 ≤ n ∧ n + 1000 * d ≤ 100000000 →
    impl_scanFaults.l0 k a b n a.length i = some (n + faults (a.drop i) (b.drop i)) := by
  induction d with
  | zero =>
    intro k i n hi hk hn
    rw [List.drop_of_length_le (by omega)] at hk ⊢
    obtain ⟨k, rfl⟩ : ∃ j, k = j + 1 := ⟨k - 1, by unfold fuelR at hk; omega⟩
    rw [impl_scanFaults.l0, if_neg (by omega)]
    simp [faults]
  | succ d ih =>
    intro k i n hi hk hn
    obtain ⟨h1, h2⟩ := hs i (by omega)
    rw [drop_get a i (by omega)] at hk ⊢
    unfold fuelR at hk
    obtain ⟨j, hj⟩ : ∃ j, k = j + a[i].size + 1 + 1 := ⟨k - a[i].size - 2, by omega⟩
    have hb := rowFaults_bounds (cs a[i]) (cs (b[i]'(by omega)))
    rw [cs_length] at hb
    rw [hj, impl_scanFaults.l0, if_pos (by omega), if_pos (by omega), if_pos (by omega), rdB_get a i (by omega), drop_get b i (by omega), faults, show (0 : Int) = ((0 : Nat) : Int) from rfl, implFaults_row a b i (by omega) hab h1 h2 a.length i a[i].size j 0 n (by omega) (by omega), List.drop_zero, List.drop_zero, w64 (by omega), show ((i : Int) + 1) = ((i + 1 : Nat) : Int) by omega, ih j (i + 1) _ (by omega) (by omega) (by omega), Int.add_assoc]
theorem implFaults_eq (a b : List ByteArray) (ha : a.length ≤ 1000) (hab : b.length = a.length) (hs : ∀ i (h : i < a.length), a[i].size ≤ 1000 ∧ (b[i]'(by omega)).size = a[i].size) (k : Nat) (hk : fuelR a ≤ k) :
    impl_scanFaults.f k a b = some (faults a b) := by
  unfold impl_scanFaults.f
  have := implFaults_loop a b ha hab hs a.length k 0 0 (by omega) (by simpa using hk) (by omega)
  rw [List.drop_zero, List.drop_zero, Int.zero_add] at this
  exact this

theorem isScan_eq (l : List ByteArray) (hl : l.length ≤ 1048576) (hs : ∀ s ∈ l, s.size ≤ 1048576) (k : Nat) (hk : fuelR l < k) : impl_IsScan.f k l = some (Grid chS 1 60 20 l) := by
  unfold impl_IsScan.f
  rw [show (1 : Int) = ((1 : Nat) : Int) from rfl, show (60 : Int) = ((60 : Nat) : Int) from rfl, show (20 : Int) = ((20 : Nat) : Int) from rfl, isGrid_eq l hl hs 1 60 20 (by omega) _ _ hk, grid_scan]
  rfl

def total (m : Int) (l : List ByteArray) : Int := match l with
  | [] => 0
  | s :: r => cnt m (cs s) + total m r
theorem countByte_eq (s : ByteArray) : ((Go.Lib.countByte s.data.toList 63 : Nat) : Int) = cnt 63 (cs s) := by
  unfold cs bytesOf Go.Lib.countByte cnt
  generalize s.data.toList = x
  induction x with
  | nil => rfl
  | cons b r ih =>
    rw [List.map_cons, List.countP_cons, List.count_cons]
    have hb : (b == 63) = (((b.toNat : Nat) : Int) == 63) := by
      have key : ∀ m : Fin 256, (UInt8.ofNat m.val == 63) = (((m.val : Nat) : Int) == 63) := by decide +kernel
      have := key ⟨b.toNat, b.toNat_lt⟩
      simpa using this
    rw [← hb]
    simp only [Int.natCast_add]
    rw [ih]
theorem countChar_loop (l : List ByteArray) (hs : ∀ s ∈ l, s.size ≤ 20) (hl : l.length ≤ 60) (d : Nat) : ∀ (k i : Nat) (n : Int), i + d = l.length → d < k → 0 ≤ n ∧ n + 20 * d ≤ 1200 →
    impl_countChar.l0 k (⟨#[63]⟩ : ByteArray) n l l.length i = some (n + total 63 (l.drop i)) := by
  induction d with
  | zero =>
    intro k i n hi hk hn
    obtain ⟨k, rfl⟩ : ∃ j, k = j + 1 := ⟨k - 1, by omega⟩
    rw [List.drop_of_length_le (by omega)]
    rw [impl_countChar.l0, if_neg (by omega), show total 63 [] = 0 from rfl, Int.add_zero]
  | succ d ih =>
    intro k i n hi hk hn
    obtain ⟨k, rfl⟩ : ∃ j, k = j + 1 := ⟨k - 1, by omega⟩
    have hx : l[i].size ≤ 20 := hs _ (List.getElem_mem _)
    have hb := cnt_bounds 63 (cs l[i])
    rw [cs_length] at hb
    have hc : strings_Count.f l[i] (⟨#[63]⟩ : ByteArray) = some (cnt 63 (cs l[i])) := by
      rw [← countByte_eq]; rfl
    rw [drop_get l i (by omega), impl_countChar.l0, if_pos (by omega), if_pos (by omega), if_pos (by omega), rdB_get l i (by omega), hc]
    simp only [Option.bind_some]
    rw [w64 (x := n + _) (by omega), w64 (by omega), show ((i : Int) + 1) = ((i + 1 : Nat) : Int) by omega, ih k (i + 1) _ (by omega) (by omega) (by omega), show total 63 (l[i] :: l.drop (i + 1)) = cnt 63 (cs l[i]) + total 63 (l.drop (i + 1)) from rfl, Int.add_assoc]
theorem implStains_eq (l : List ByteArray) (hl : l.length ≤ 1048576) (hs : ∀ s ∈ l, s.size ≤ 1048576) (k : Nat) (hk : fuelR l + 70 ≤ k) :
    impl_CountStains.f k l = some (if Grid chS 1 60 20 l then (total 63 l, true) else (0, false)) := by
  unfold impl_CountStains.f
  rw [isScan_eq l hl hs k (by omega)]
  simp only [Option.bind_some]
  by_cases hg : Grid chS 1 60 20 l = true
  · obtain ⟨g1, g2, g3, g4, g5⟩ := grid_facts hg
    have hs' : ∀ s ∈ l, s.size ≤ 20 := fun s h => by have := (g5 s h).1; omega
    rw [if_pos hg, if_pos hg]
    have e2 := countChar_loop l hs' (by omega) l.length k 0 0 (by omega) (by omega) (by omega)
    rw [List.drop_zero, Int.zero_add] at e2
    unfold impl_countChar.f
    rw [show (0 : Int) = ((0 : Nat) : Int) from rfl] at e2 ⊢
    rw [e2]
    rfl
  · rw [if_neg hg, if_neg hg]

/-- two scans of one size -/
def Two (a b : List ByteArray) : Bool := Grid chS 1 60 20 a && Grid chS 1 60 20 b && decide (a.length = b.length) && decide (wid a = wid b)
theorem two_facts {a b : List ByteArray} (h : Two a b = true) : Grid chS 1 60 20 a = true ∧ Grid chS 1 60 20 b = true ∧ a.length = b.length ∧ wid a = wid b := by
  unfold Two at h
  simp only [Bool.and_eq_true, decide_eq_true_eq] at h
  exact ⟨h.1.1.1, h.1.1.2, h.1.2, h.2⟩
theorem two_sizes {a b : List ByteArray} (h : Two a b = true) : a.length ≤ 60 ∧ b.length = a.length ∧ ∀ i (hi : i < a.length), a[i].size ≤ 20 ∧ (b[i]'(by have := (two_facts h).2.2.1; omega)).size = a[i].size := by
  obtain ⟨h1, h2, h3, h4⟩ := two_facts h
  obtain ⟨a1, a2, a3, a4, a5⟩ := grid_facts h1
  obtain ⟨b1, b2, b3, b4, b5⟩ := grid_facts h2
  refine ⟨a2, h3.symm, fun i hi => ?_⟩
  have e1 := (a5 _ (List.getElem_mem hi)).1
  have e2 := (b5 _ (List.getElem_mem (show i < b.length by omega))).1
  omega

theorem specTwo_eq (a b : List ByteArray) (ha : a.length ≤ 1048576) (hsa : ∀ s ∈ a, s.size ≤ 1048576) (hb : b.length ≤ 1048576) (hsb : ∀ s ∈ b, s.size ≤ 1048576) (k : Nat) (hk : fuelR a < k ∧ fuelR b < k) : spec_scTwo.f k a b = some (Two a b) := by
  unfold spec_scTwo.f Two
  rw [scGood_eq a ha hsa _ (by omega), scGood_eq b hb hsb _ (by omega)]
  simp only [Option.bind_some]
  by_cases h1 : Grid chS 1 60 20 a = true
  · by_cases h2 : Grid chS 1 60 20 b = true
    · have a1 := (grid_facts h1).1
      have b1 := (grid_facts h2).1
      rw [if_pos h1, if_pos h2, h1, h2, show rdOf ByteArray.empty a 0 = a[0] from rdB_get a 0 (by omega), show rdOf ByteArray.empty b 0 = b[0] from rdB_get b 0 (by omega), ← wid_get a (by omega), ← wid_get b (by omega)]
      by_cases h3 : a.length = b.length
      · rw [if_pos (by omega), if_pos (by omega), if_pos (by omega), decide_eq_true h3]
        by_cases h4 : wid a = wid b
        · simp [h4]
        · have : ((wid a : Int) == (wid b : Int)) = false := by simp; omega
          rw [this, decide_eq_false h4]; rfl
      · rw [if_neg (by omega), decide_eq_false h3]; rfl
    · rw [if_pos h1, if_neg h2, h1, Bool.eq_false_iff.2 h2]; rfl
  · rw [if_neg h1, Bool.eq_false_iff.2 h1]; rfl
theorem sameSize_eq (a b : List ByteArray) (ha : a.length ≤ 1048576) (hsa : ∀ s ∈ a, s.size ≤ 1048576) (hb : b.length ≤ 1048576) (hsb : ∀ s ∈ b, s.size ≤ 1048576) (k : Nat) (hk : fuelR a < k ∧ fuelR b < k) : impl_sameSize.f k a b = some (Two a b) := by
  unfold impl_sameSize.f Two
  rw [isScan_eq a ha hsa _ (by omega), isScan_eq b hb hsb _ (by omega)]
  simp only [Option.bind_some]
  by_cases h1 : Grid chS 1 60 20 a = true
  · by_cases h2 : Grid chS 1 60 20 b = true
    · have a1 := (grid_facts h1).1
      have b1 := (grid_facts h2).1
      rw [if_pos h1, if_pos h2, h1, h2, show rdOf ByteArray.empty a 0 = a[0] from rdB_get a 0 (by omega), show rdOf ByteArray.empty b 0 = b[0] from rdB_get b 0 (by omega), ← wid_get a (by omega), ← wid_get b (by omega)]
      by_cases h3 : a.length = b.length
      · rw [if_pos (by omega), if_pos (by omega), if_pos (by omega), decide_eq_true h3]
        by_cases h4 : wid a = wid b
        · simp [h4]
        · have : ((wid a : Int) == (wid b : Int)) = false := by simp; omega
          rw [this, decide_eq_false h4]; rfl
      · rw [if_neg (by omega), decide_eq_false h3]; rfl
    · rw [if_pos h1, if_neg h2, h1, Bool.eq_false_iff.2 h2]; rfl
  · rw [if_neg h1, Bool.eq_false_iff.2 h1]; rfl

theorem w_succ (c : Nat) (h : c ≤ 1000000) : wrap64 ((c : Int) + 1) = ((c + 1 : Nat) : Int) := by rw [w64 (by omega)]; omega
theorem w_pred (n : Nat) (h : n ≤ 1000000) : wrap64 ((n : Int) - 1) = (n : Int) - 1 := w64 (by omega)
/-- rows that a function draws -/
def dRow (f : Nat → Int) (n : Nat) : ByteArray := strOfNums ((List.range n).map f)
def dRows (g : Nat → Nat → Int) (R n : Nat) : List ByteArray := (List.range R).map fun r => dRow (g r) n
theorem strN_append (a b : List Int) : strOfNums (a ++ b) = strOfNums a ++ strOfNums b := by
  unfold strOfNums
  apply ByteArray.ext
  simp
theorem dRow_succ (f : Nat → Int) (n : Nat) : dRow f (n + 1) = dRow f n ++ strOfNums [f n] := by
  unfold dRow
  rw [List.range_succ, List.map_append, strN_append]
  rfl
theorem dRow_zero (f : Nat → Int) : dRow f 0 = ⟨#[]⟩ := rfl
theorem dRow_size (f : Nat → Int) (n : Nat) : (dRow f n).size = n := by
  unfold dRow strOfNums
  show (List.map _ ((List.range n).map f)).toArray.size = n
  simp
theorem dRows_succ (g : Nat → Nat → Int) (R n : Nat) : dRows g (R + 1) n = dRows g R n ++ [dRow (g R) n] := by
  unfold dRows
  rw [List.range_succ, List.map_append]
  rfl
theorem dRows_length (g : Nat → Nat → Int) (R n : Nat) : (dRows g R n).length = R := by simp [dRows]
theorem dRow_congr (f h : Nat → Int) (n : Nat) (e : ∀ c, c < n → f c = h c) : dRow f n = dRow h n := by
  unfold dRow
  congr 1
  apply List.map_congr_left
  intro c hc
  exact e c (List.mem_range.1 hc)
theorem dRows_congr (g h : Nat → Nat → Int) (R n : Nat) (e : ∀ r c, r < R → c < n → g r c = h r c) : dRows g R n = dRows h R n := by
  unfold dRows
  apply List.map_congr_left
  intro r hr
  exact dRow_congr _ _ _ (fun c hc => e r c (List.mem_range.1 hr) hc)
/-- one character of a string -/
theorem extract_one (s : ByteArray) (i : Nat) (h : i < s.size) : s.extract i (i + 1) = strOfNums [bt s i] := by
  rw [bt_get s i h]
  have hd : i < s.data.toList.length := by rw [data_length]; exact h
  apply ByteArray.ext
  apply Array.ext'
  unfold strOfNums cs bytesOf
  simp only [ByteArray.data_extract, Array.toList_extract, List.extract_eq_take_drop]
  rw [show i + 1 - i = 1 by omega, List.drop_eq_getElem_cons hd]
  simp
theorem str1_size (x : Int) : (strOfNums [x]).size = 1 := rfl

theorem drawn_l1 (F : Int → Int → Option Int) (r n : Nat) (f : Nat → Int) (hF : ∀ c, c < n → F (r : Int) (c : Int) = some (f c)) (hn : n ≤ 100000) (hr : r ≤ 100000) (x0 x1 : Int) (acc : List ByteArray) (ha : acc.length ≤ 100000) (d : Nat) :
    ∀ (k c : Nat), c + d = n → d < k → impl_drawn.l1 F k x0 x1 acc r ((List.range c).map f ++ List.replicate d 0) n c = impl_drawn.l0 F (k - d - 1) x0 x1 (acc ++ [dRow f n]) ((r + 1 : Nat) : Int) := by
  induction d with
  | zero =>
    intro k c hc hk
    obtain ⟨k, rfl⟩ : ∃ j, k = j + 1 := ⟨k - 1, by omega⟩
    rw [impl_drawn.l1, if_neg (by omega), if_pos (by omega), w64 (by omega), List.replicate_zero, List.append_nil, show c = n by omega]
    rfl
  | succ d ih =>
    intro k c hc hk
    obtain ⟨k, rfl⟩ : ∃ j, k = j + 1 := ⟨k - 1, by omega⟩
    rw [impl_drawn.l1, if_pos (by omega), hF c (by omega)]
    simp only [Option.bind_some]
    have hl : ((List.range c).map f).length = c := by simp
    rw [if_pos (by omega), if_pos (by rw [List.length_append, hl, List.length_replicate]; omega), Int.toNat_natCast, List.set_append_right _ _ (by omega), hl, Nat.sub_self, List.replicate_succ, List.set_cons_zero, w64 (by omega),
      show (List.range c).map f ++ f c :: List.replicate d 0 = (List.range (c + 1)).map f ++ List.replicate d 0 by rw [List.range_succ, List.map_append, List.append_assoc]; rfl]
    have := ih k (c + 1) (by omega) (by omega)
    rw [show k + 1 - (d + 1) - 1 = k - d - 1 by omega]
    exact this
theorem drawn_l0 (F : Int → Int → Option Int) (R n : Nat) (hR : R ≤ 100000) (hn : n ≤ 100000) (g : Nat → Nat → Int) (hF : ∀ r c, r < R → c < n → F (r : Int) (c : Int) = some (g r c)) (d : Nat) :
    ∀ (k r : Nat), r + d = R → d * (n + 2) < k → impl_drawn.l0 F k R n (dRows g r n) r = some (dRows g R n) := by
  induction d with
  | zero =>
    intro k r hr hk
    obtain ⟨k, rfl⟩ : ∃ j, k = j + 1 := ⟨k - 1, by omega⟩
    rw [impl_drawn.l0, if_neg (by omega), show r = R by omega]
  | succ d ih =>
    intro k r hr hk
    obtain ⟨k, rfl⟩ : ∃ j, k = j + 1 := ⟨k - 1, by omega⟩
    rw [Nat.succ_mul] at hk
    rw [impl_drawn.l0, if_pos (by omega), if_pos (by omega), if_pos (by omega)]
    simp only [Option.bind_some, List.length_replicate, Int.toNat_natCast]
    have h1 := drawn_l1 F r n (g r) (fun c hc => hF r c (by omega) hc) hn (by omega) R n (dRows g r n) (by rw [dRows_length]; omega) n k 0 (by omega) (by omega)
    rw [show ((0 : Nat) : Int) = 0 from rfl] at h1
    rw [show List.replicate n (0 : Int) = (List.range 0).map (g r) ++ List.replicate n 0 from rfl, h1, ← dRows_succ]
    exact ih (k - n - 1) (r + 1) (by omega) (by omega)
theorem drawn_eq (F : Int → Int → Option Int) (R n : Nat) (hR : R ≤ 100) (hn : n ≤ 100) (g : Nat → Nat → Int) (hF : ∀ r c, r < R → c < n → F (r : Int) (c : Int) = some (g r c)) (k : Nat) (hk : 10200 < k) :
    impl_drawnW.f k R n F = some (dRows g R n) := by
  unfold impl_drawnW.f impl_drawn.f
  have h := drawn_l0 F R n (by omega) (by omega) g hF R k 0 (by omega) (by
    have : R * (n + 2) ≤ 100 * 102 := Nat.mul_le_mul hR (by omega)
    omega)
  exact h

theorem cs_dRow (f : Nat → Int) (n : Nat) (h : ∀ c, c < n → 0 ≤ f c ∧ f c ≤ 255) : cs (dRow f n) = (List.range n).map f := by
  unfold cs bytesOf dRow strOfNums
  simp only [List.map_map]
  apply List.map_congr_left
  intro c hc
  have hb := h c (List.mem_range.1 hc)
  simp only [Function.comp]
  show (((f c).toNat.toUInt8).toNat : Int) = f c
  rw [Nat.toUInt8_eq, UInt8.toNat_ofNat']
  omega
theorem bt_dRow (f : Nat → Int) (n : Nat) (h : ∀ c, c < n → 0 ≤ f c ∧ f c ≤ 255) (c : Nat) (hc : c < n) : bt (dRow f n) (c : Int) = f c := by
  rw [bt_get _ c (by rw [dRow_size]; exact hc)]
  simp only [cs_dRow f n h]
  simp
theorem wid_dRows (g : Nat → Nat → Int) (R n : Nat) (hR : 1 ≤ R) : wid (dRows g R n) = n := by
  unfold wid
  obtain ⟨R, rfl⟩ : ∃ j, R = j + 1 := ⟨R - 1, by omega⟩
  unfold dRows
  rw [List.range_succ_eq_map, List.map_cons]
  exact dRow_size _ _
theorem row_dRows (g : Nat → Nat → Int) (R n r : Nat) (hr : r < R) : rdOf ByteArray.empty (dRows g R n) (r : Int) = dRow (g r) n := by
  rw [rdB_get _ r (by rw [dRows_length]; exact hr)]
  simp [dRows]
/-- rows drawn with a scan's characters alone are a scan -/
theorem grid_dRows (g : Nat → Nat → Int) (R n : Nat) (hR : 1 ≤ R ∧ R ≤ 60) (hn : 1 ≤ n ∧ n ≤ 20) (h : ∀ r c, r < R → c < n → chS (g r c) = true) : Grid chS 1 60 20 (dRows g R n) = true := by
  have hb : ∀ r c, r < R → c < n → 0 ≤ g r c ∧ g r c ≤ 255 := fun r c hr hc => by
    rcases chS_cases (h r c hr hc) with e | e | e <;> rw [e] <;> omega
  unfold Grid
  rw [wid_dRows g R n hR.1, dRows_length]
  simp only [Bool.and_eq_true, decide_eq_true_eq, List.all_eq_true]
  refine ⟨⟨⟨⟨hR.1, hR.2⟩, hn.1⟩, hn.2⟩, fun s hs => ?_⟩
  unfold dRows at hs
  obtain ⟨r, hr, rfl⟩ := List.mem_map.1 hs
  have hr' := List.mem_range.1 hr
  unfold RowOK
  rw [dRow_size, cs_dRow _ _ (fun c hc => hb r c hr' hc)]
  simp only [Bool.and_eq_true, beq_iff_eq, List.all_eq_true, true_and]
  intro x hx
  obtain ⟨c, hc, rfl⟩ := List.mem_map.1 hx
  exact h r c hr' (List.mem_range.1 hc)
/-- a scan's character at a place -/
theorem grid_at {l : List ByteArray} (h : Grid chS 1 60 20 l = true) (r c : Nat) (hr : r < l.length) (hc : c < wid l) : chS (bt (rdOf ByteArray.empty l (r : Int)) c) = true := by
  obtain ⟨_, _, _, _, g5⟩ := grid_facts h
  obtain ⟨e1, e2⟩ := g5 l[r] (List.getElem_mem hr)
  rw [rdB_get l r hr, bt_get _ c (by rw [e1]; exact hc)]
  exact e2 _ (List.getElem_mem _)

theorem floors (x : Int) (hx : -1000000 ≤ x ∧ x ≤ 1000000) : spec_scFloor.f x = some (x / 10) ∧ impl_floorDiv.f x 10 = some (x / 10) := by
  unfold spec_scFloor.f impl_floorDiv.f
  rw [if_neg (show ¬ (10 : Int) = 0 by omega)]
  by_cases h : 0 ≤ x
  · have w : wrap64 (x / 10) = x / 10 := w64 (by omega)
    rw [Int.tmod_eq_emod_of_nonneg h, Int.tdiv_eq_ediv_of_nonneg h, w, if_neg (show ¬ x % 10 < 0 by omega), decide_eq_false (show ¬ x < 0 by omega), decide_eq_false (show ¬ (10 : Int) < 0 by omega)]
    refine ⟨rfl, ?_⟩
    simp
  · obtain ⟨y, rfl⟩ : ∃ y : Int, x = -y := ⟨-x, by omega⟩
    have hy : 0 ≤ y := by omega
    have e1 : 0 ≤ y % 10 := by omega
    have e4 : -y % 10 = 0 ↔ y % 10 = 0 := by omega
    have e2 : y % 10 = 0 → -(y / 10) = -y / 10 := by omega
    have e3 : ¬ y % 10 = 0 → -(y / 10) - 1 = -y / 10 := by omega
    have w : wrap64 (-(y / 10)) = -(y / 10) := w64 (by omega)
    have w2 : wrap64 (-(y / 10) - 1) = -(y / 10) - 1 := w64 (by omega)
    rw [Int.neg_tmod, Int.neg_tdiv, Int.tmod_eq_emod_of_nonneg hy, Int.tdiv_eq_ediv_of_nonneg hy, w, w2, decide_eq_true (show -y < 0 by omega), decide_eq_false (show ¬ (10 : Int) < 0 by omega)]
    clear w w2
    by_cases hz : y % 10 = 0
    · rw [if_neg (show ¬ -(y % 10) < 0 by omega), if_pos (show -(y % 10) = 0 by omega), e2 hz]
      exact ⟨rfl, rfl⟩
    · rw [if_pos (show -(y % 10) < 0 by omega), if_neg (show ¬ -(y % 10) = 0 by omega), if_pos (by decide), e3 hz]
      exact ⟨rfl, rfl⟩
/-- from which row a place is seen -/
def skFrom (p : Int) (r c : Nat) : Int := (r : Int) + ((c : Int) * p) / 10
def skG (l : List ByteArray) (p : Int) (r c : Nat) : Int :=
  if 0 ≤ skFrom p r c ∧ skFrom p r c ≤ (l.length : Int) - 1 then bt (rdOf ByteArray.empty l (skFrom p r c)) c else 63
theorem mul_bound (c : Nat) (p : Int) (hc : c ≤ 1000) (hp : -10 ≤ p ∧ p ≤ 10) : -10000 ≤ (c : Int) * p ∧ (c : Int) * p ≤ 10000 := by
  have h1 : (c : Int) * p ≤ (c : Int) * 10 := Int.mul_le_mul_of_nonneg_left hp.2 (by omega)
  have h2 : (c : Int) * (-10) ≤ (c : Int) * p := Int.mul_le_mul_of_nonneg_left hp.1 (by omega)
  omega
theorem skFrom_bound (p : Int) (hp : -10 ≤ p ∧ p ≤ 10) (r c : Nat) (hr : r ≤ 1000) (hc : c ≤ 1000) : -2000 ≤ skFrom p r c ∧ skFrom p r c ≤ 2000 := by
  have := mul_bound c p hc hp
  unfold skFrom
  generalize (c : Int) * p = x at this ⊢
  omega
theorem sk_wrap (p : Int) (hp : -10 ≤ p ∧ p ≤ 10) (r c : Nat) (hr : r ≤ 1000) (hc : c ≤ 1000) :
    spec_scFloor.f (wrap64 ((c : Int) * p)) = some (((c : Int) * p) / 10) ∧ impl_floorDiv.f (wrap64 ((c : Int) * p)) 10 = some (((c : Int) * p) / 10) ∧ wrap64 ((r : Int) + ((c : Int) * p) / 10) = skFrom p r c := by
  have h := mul_bound c p hc hp
  have hb := skFrom_bound p hp r c hr hc
  unfold skFrom at hb ⊢
  generalize (c : Int) * p = x at h hb ⊢
  have f := floors x (by omega)
  refine ⟨?_, ?_, w64 (by omega)⟩
  · rw [w64 (by omega)]; exact f.1
  · rw [w64 (by omega)]; exact f.2
theorem rd_size (l : List ByteArray) (n : Nat) (hs : ∀ s ∈ l, s.size = n) (x : Int) (h0 : 0 ≤ x) (h1 : x ≤ (l.length : Int) - 1) : (rdOf ByteArray.empty l x).size = n := by
  obtain ⟨m, rfl⟩ : ∃ m : Nat, x = m := ⟨x.toNat, by omega⟩
  rw [rdB_get l m (by omega)]
  exact hs _ (List.getElem_mem _)
theorem skClosure_eq (l : List ByteArray) (p : Int) (hp : -10 ≤ p ∧ p ≤ 10) (hl : l.length ≤ 1000) (n : Nat) (hn : n ≤ 1000) (hs : ∀ s ∈ l, s.size = n) (r c : Nat) (hr : r < l.length) (hc : c < n) :
    impl_skewScan_1.f (r : Int) (c : Int) p l = some (skG l p r c) := by
  obtain ⟨_, e2, e3⟩ := sk_wrap p hp r c (by omega) (by omega)
  unfold impl_skewScan_1.f skG
  rw [e2]
  simp only [Option.bind_some]
  rw [e3]
  clear e2 e3
  generalize skFrom p r c = x
  by_cases h1 : x < 0
  · rw [if_pos h1, if_neg (by omega)]
  · rw [if_neg h1]
    by_cases h2 : x ≥ (l.length : Int)
    · rw [if_pos h2, if_neg (by omega)]
    · have hz := rd_size l n hs x (by omega) (by omega)
      rw [if_neg h2, if_pos (by omega), if_pos (by omega), if_pos (by omega), hz, if_pos (by omega), if_pos (by omega)]
theorem skSpecRow (l : List ByteArray) (p : Int) (hp : -10 ≤ p ∧ p ≤ 10) (hl : l.length ≤ 1000) (n : Nat) (hn : n ≤ 1000) (hs : ∀ s ∈ l, s.size = n) (r : Nat) (s : ByteArray) (hz : s.size = n) (hr : r < l.length) (acc : List ByteArray) (ha : acc.length ≤ 1000) (d : Nat) :
    ∀ (k c : Nat), c + d = n → d < k → spec_scSkew.l1 k l p acc r s (dRow (skG l p r) c) c l l.length r
      = spec_scSkew.l0 (k - d - 1) l p (acc ++ [dRow (skG l p r) n]) l l.length ((r + 1 : Nat) : Int) := by
  induction d with
  | zero =>
    intro k c hc hk
    obtain ⟨k, rfl⟩ : ∃ j, k = j + 1 := ⟨k - 1, by omega⟩
    rw [spec_scSkew.l1, if_neg (by omega), if_pos (by omega), w64 (by omega), show c = n by omega]
    rfl
  | succ d ih =>
    intro k c hc hk
    obtain ⟨k, rfl⟩ : ∃ j, k = j + 1 := ⟨k - 1, by omega⟩
    have e := ih k (c + 1) (by omega) (by omega)
    rw [dRow_succ] at e
    have h0 : (0 : Int) ≤ (c : Int) := by omega
    have h1' : (c : Int) ≤ ((c + 1 : Nat) : Int) := by omega
    have h2' : ((c + 1 : Nat) : Int) ≤ (n : Int) := by omega
    have h3' : c + 1 ≤ 9223372036854775807 := by omega
    have hk' : k + 1 - (d + 1) - 1 = k - d - 1 := by omega
    have hlt : (c : Int) < (s.size : Int) := by omega
    have hcn : c < n := by omega
    have hc1 : c ≤ 1000 := by omega
    have hr1 : r ≤ 1000 := by omega
    obtain ⟨e1, _, e3⟩ := sk_wrap p hp r c hr1 hc1
    have hlw := w_pred l.length (Nat.le_trans hl (by decide))
    have ec := w_succ c (Nat.le_trans hc1 (by decide))
    rw [hk', ← e, spec_scSkew.l1, if_pos hlt, e1]
    clear e ih
    simp only [Option.bind_some]
    rw [e3, hlw, in_eq]
    simp only [Option.bind_some, decide_eq_true_eq]
    rw [ec, Int.toNat_natCast, Int.toNat_natCast]
    clear e1 e3 hlw ec
    by_cases hA : 0 ≤ skFrom p r c ∧ skFrom p r c ≤ (l.length : Int) - 1
    · have hzz := rd_size l n hs _ hA.1 hA.2
      have hx : (rdOf ByteArray.empty l (skFrom p r c)).extract c (c + 1) = strOfNums [bt (rdOf ByteArray.empty l (skFrom p r c)) c] := extract_one _ c (by rw [hzz]; exact hcn)
      have hG : skG l p r c = bt (rdOf ByteArray.empty l (skFrom p r c)) c := by unfold skG; rw [if_pos hA]
      have hB : skFrom p r c < (l.length : Int) := Int.lt_of_le_sub_one hA.2
      rw [if_pos hA, if_pos hA.1, if_pos hB, if_pos h0, if_pos h1', hzz, if_pos h2', dRow_size, hx, str1_size, if_pos h3', hG]
    · have hG : skG l p r c = 63 := by unfold skG; rw [if_neg hA]
      rw [if_neg hA, dRow_size, if_pos h3', hG]
      rfl
theorem skSpecRows (l : List ByteArray) (p : Int) (hp : -10 ≤ p ∧ p ≤ 10) (hl : l.length ≤ 1000) (n : Nat) (hn : n ≤ 1000) (hs : ∀ s ∈ l, s.size = n) (d : Nat) :
    ∀ (k r : Nat), r + d = l.length → d * (n + 2) < k → spec_scSkew.l0 k l p (dRows (skG l p) r n) l l.length r = some (dRows (skG l p) l.length n) := by
  induction d with
  | zero =>
    intro k r hr hk
    obtain ⟨k, rfl⟩ : ∃ j, k = j + 1 := ⟨k - 1, by omega⟩
    rw [spec_scSkew.l0, if_neg (by omega), show r = l.length by omega]
  | succ d ih =>
    intro k r hr hk
    obtain ⟨k, rfl⟩ : ∃ j, k = j + 1 := ⟨k - 1, by omega⟩
    rw [Nat.succ_mul] at hk
    rw [spec_scSkew.l0, if_pos (by omega), if_pos (by omega), if_pos (by omega)]
    have e := skSpecRow l p hp hl n hn hs r (rdOf ByteArray.empty l (r : Int)) (by rw [rdB_get l r (by omega)]; exact hs _ (List.getElem_mem _)) (by omega) (dRows (skG l p) r n) (by rw [dRows_length]; omega) n k 0 (by omega) (by omega)
    rw [dRow_zero, show ((0 : Nat) : Int) = 0 from rfl] at e
    rw [e, ← dRows_succ]
    exact ih (k - n - 1) (r + 1) (by omega) (by omega)
/-- both programs' skewed scan -/
theorem skBoth (l : List ByteArray) (p : Int) (hp : -10 ≤ p ∧ p ≤ 10) (hg : Grid chS 1 60 20 l = true) (k : Nat) (hk : 20000 ≤ k) :
    spec_scSkew.f k l p = some (dRows (skG l p) l.length (wid l)) ∧ impl_skewScan.f k l p = some (dRows (skG l p) l.length (wid l)) := by
  obtain ⟨g1, g2, g3, g4, g5⟩ := grid_facts hg
  have hw : (rdOf ByteArray.empty l 0).size = wid l := by rw [wid_get l (by omega)]; exact congrArg _ (rdB_get l 0 (by omega))
  unfold spec_scSkew.f impl_skewScan.f
  refine ⟨?_, ?_⟩
  · have e := skSpecRows l p hp (by omega) (wid l) (by omega) (fun s hs => (g5 s hs).1) l.length k 0 (by omega) (by
      have : l.length * (wid l + 2) ≤ 60 * 22 := Nat.mul_le_mul g2 (by omega)
      omega)
    exact e
  · rw [if_pos (by omega), hw, drawn_eq _ l.length (wid l) (by omega) (by omega) (skG l p) (fun r c hr hc => skClosure_eq l p hp (by omega) (wid l) (by omega) (fun s hs => (g5 s hs).1) r c hr hc) k (by omega)]
    rfl

/-- one byte of a row put in the place of each '?' -/
def fillL (m : List UInt8) : List UInt8 → List UInt8
  | [] => []
  | c :: s => (if c = 63 then m else [c]) ++ fillL m s
theorem fillL_append (m a b : List UInt8) : fillL m (a ++ b) = fillL m a ++ fillL m b := by
  induction a with
  | nil => rfl
  | cons c a ih => simp [fillL, ih]
/-- a row filled -/
def fillB (m s : ByteArray) : ByteArray := ⟨(fillL m.data.toList s.data.toList).toArray⟩
def fillTo (m s : ByteArray) (n : Nat) : ByteArray := ⟨(fillL m.data.toList (s.data.toList.take n)).toArray⟩
theorem fillL_length (m s : List UInt8) (hm : m.length = 1) : (fillL m s).length = s.length := by
  induction s with
  | nil => rfl
  | cons c s ih =>
    unfold fillL
    split <;> simp [ih, hm] <;> omega
theorem fillTo_size (m s : ByteArray) (hm : m.data.toList.length = 1) (n : Nat) : (fillTo m s n).size ≤ n := by
  show (fillL _ _).toArray.size ≤ n
  rw [List.size_toArray, fillL_length _ _ hm, List.length_take]
  omega
theorem fillTo_all (m s : ByteArray) : fillTo m s s.size = fillB m s := by
  unfold fillTo fillB
  rw [List.take_of_length_le (by simp)]
theorem fillTo_succ (m s : ByteArray) (c : Nat) (h : c < s.size) : fillTo m s (c + 1) = if bt s (c : Int) = 63 then fillTo m s c ++ m else fillTo m s c ++ s.extract c (c + 1) := by
  have hb : bt s (c : Int) = ((s[c]'h).toNat : Int) := by unfold bt; rw [dif_pos (by simpa using h)]; rfl
  have hl : c < s.data.toList.length := by rw [data_length]; exact h
  have e1 : s.data.toList.take (c + 1) = s.data.toList.take c ++ [s[c]'h] := by
    rw [List.take_add_one, List.getElem?_eq_getElem hl]
    rfl
  have e2 : (s.extract c (c + 1)).data.toList = [s[c]'h] := by
    simp only [ByteArray.data_extract, Array.toList_extract, List.extract]
    rw [List.drop_eq_getElem_cons hl, show c + 1 - c = 1 by omega]
    rfl
  have hx : (bt s (c : Int) = 63) ↔ (s[c]'h = 63) := by
    rw [hb]
    constructor
    · intro h1
      apply UInt8.toNat_inj.1
      have : (63 : UInt8).toNat = 63 := rfl
      omega
    · intro h1; rw [h1]; rfl
  split
  · rename_i h1
    rw [hx] at h1
    apply ByteArray.ext; apply Array.ext'
    unfold fillTo
    rw [e1, fillL_append, h1]
    simp [fillL]
  · rename_i h1
    rw [hx] at h1
    apply ByteArray.ext; apply Array.ext'
    unfold fillTo
    rw [e1, fillL_append]
    rw [ByteArray.data_append, Array.toList_append, e2]
    simp [fillL, h1]
theorem fill_row (m : ByteArray) (hm : m.data.toList.length = 1) (l : List ByteArray) (hl : l.length ≤ 1000) (s : ByteArray) (hs : s.size ≤ 1000) (acc : List ByteArray) (ha : acc.length ≤ 1000) (r : Nat) (hr : r < l.length) (d : Nat) :
    ∀ (k c : Nat), c + d = s.size → d < k → spec_scFill.l1 k m acc s (fillTo m s c) c l l.length r = spec_scFill.l0 (k - d - 1) m (acc ++ [fillB m s]) l l.length ((r + 1 : Nat) : Int) := by
  have hm1 : m.size = 1 := (data_length m).symm.trans hm
  induction d with
  | zero =>
    intro k c hc hk
    obtain ⟨k, rfl⟩ : ∃ j, k = j + 1 := ⟨k - 1, by omega⟩
    rw [spec_scFill.l1, if_neg (by omega), if_pos (by omega), w64 (by omega), show c = s.size by omega, fillTo_all, show k + 1 - 0 - 1 = k by omega, show (r : Int) + 1 = ((r + 1 : Nat) : Int) by omega]
  | succ d ih =>
    intro k c hc hk
    obtain ⟨k, rfl⟩ : ∃ j, k = j + 1 := ⟨k - 1, by omega⟩
    have e := ih k (c + 1) (by omega) (by omega)
    have ec : wrap64 ((c : Int) + 1) = ((c + 1 : Nat) : Int) := by rw [w64 (by omega)]; omega
    have hx : (s.extract c (c + 1)).size = 1 := by rw [ByteArray.size_extract]; omega
    have h0 : (0 : Int) ≤ (c : Int) := by omega
    have h1' : (c : Int) ≤ ((c + 1 : Nat) : Int) := by omega
    have h2' : ((c + 1 : Nat) : Int) ≤ (s.size : Int) := by omega
    have hlt : (c : Int) < (s.size : Int) := by omega
    have hcs : c < s.size := by omega
    have hkk : k + 1 - (d + 1) - 1 = k - d - 1 := by omega
    have h3' : (fillTo m s c).size + 1 ≤ 9223372036854775807 := Nat.le_trans (Nat.succ_le_succ (fillTo_size m s hm c)) (show c + 1 ≤ 9223372036854775807 by omega)
    rw [hkk, ← e]
    clear e ih
    rw [spec_scFill.l1, if_pos hlt, if_pos h0, ec, Int.toNat_natCast, Int.toNat_natCast, fillTo_succ m s c hcs]
    by_cases hb : bt s (c : Int) = 63
    · rw [if_pos hb, if_pos hb, hm1, if_pos h3']
    · rw [if_neg hb, if_neg hb, if_pos h1', if_pos h2', hx, if_pos h3']
theorem fill_rows (m : ByteArray) (hm : m.data.toList.length = 1) (l : List ByteArray) (hl : l.length ≤ 1000) (n : Nat) (hn : n ≤ 1000) (hs : ∀ s ∈ l, s.size = n) (d : Nat) :
    ∀ (k r : Nat), r + d = l.length → d * (n + 2) < k → spec_scFill.l0 k m ((l.take r).map (fillB m)) l l.length r = some (l.map (fillB m)) := by
  induction d with
  | zero =>
    intro k r hr hk
    obtain ⟨k, rfl⟩ : ∃ j, k = j + 1 := ⟨k - 1, by omega⟩
    rw [spec_scFill.l0, if_neg (by omega), List.take_of_length_le (by omega)]
  | succ d ih =>
    intro k r hr hk
    obtain ⟨k, rfl⟩ : ∃ j, k = j + 1 := ⟨k - 1, by omega⟩
    rw [Nat.succ_mul] at hk
    have hz : l[r].size = n := hs _ (List.getElem_mem _)
    rw [spec_scFill.l0, if_pos (by omega), if_pos (by omega), if_pos (by omega), rdB_get l r (by omega)]
    have e := fill_row m hm l hl l[r] (by omega) ((l.take r).map (fillB m)) (by simp; omega) r (by omega) n k 0 (by omega) (by omega)
    have e0 : fillTo m l[r] 0 = ⟨#[]⟩ := rfl
    rw [e0, show ((0 : Nat) : Int) = 0 from rfl] at e
    rw [e]
    have := ih (k - n - 1) (r + 1) (by omega) (by omega)
    rw [List.take_add_one, List.getElem?_eq_getElem (by omega), List.map_append] at this
    exact this

/-- what is drawn at a place -/
def stG (l : List ByteArray) (p1 p2 p3 : Int) (r c : Nat) : Int :=
  if mx ((r : Int) - p1) (p1 - (r : Int)) < p3 then (if mx ((c : Int) - p2) (p2 - (c : Int)) < p3 then 63 else bt (rdOf ByteArray.empty l (r : Int)) c) else bt (rdOf ByteArray.empty l (r : Int)) c
theorem distance_eq (a b : Int) (ha : 0 ≤ a ∧ a ≤ 1000000) (hb : 0 ≤ b ∧ b ≤ 1000000) : impl_distance.f a b = some (mx (a - b) (b - a)) := by
  unfold impl_distance.f
  rw [w64 (x := a - b) (by omega), w64 (x := b - a) (by omega)]
theorem abs_eq (a b : Int) (ha : 0 ≤ a ∧ a ≤ 1000000) (hb : 0 ≤ b ∧ b ≤ 1000000) : spec_l1Abs.f (wrap64 (a - b)) = some (mx (a - b) (b - a)) := by
  rw [w64 (x := a - b) (by omega)]
  unfold spec_l1Abs.f spec_l1Most.f mx
  rw [w64 (x := -(a - b)) (by omega)]
  by_cases h : a - b > -(a - b)
  · rw [if_pos h, if_neg (by omega)]; rfl
  · rw [if_neg h]
    by_cases h2 : a - b < b - a
    · rw [if_pos h2]; simp only [Option.bind_some]; congr 1; omega
    · rw [if_neg h2]; simp only [Option.bind_some]; congr 1; omega
theorem st_closure_eq (l : List ByteArray) (p1 p2 p3 : Int) (h1 : 0 ≤ p1 ∧ p1 ≤ 1000) (h2 : 0 ≤ p2 ∧ p2 ≤ 1000) (hl : l.length ≤ 1000) (n : Nat) (hn : n ≤ 1000) (hs : ∀ s ∈ l, s.size = n) (r c : Nat) (hr : r < l.length) (hc : c < n) :
    impl_StainScan_1.f (r : Int) (c : Int) p1 p3 p2 l = some (stG l p1 p2 p3 r c) := by
  have hz : (rdOf ByteArray.empty l (r : Int)).size = n := by rw [rdB_get l r hr]; exact hs _ (List.getElem_mem hr)
  unfold impl_StainScan_1.f stG
  rw [distance_eq _ _ (by omega) (by omega)]
  simp only [Option.bind_some]
  rw [if_pos (show (0 : Int) ≤ (r : Int) by omega), if_pos (show (r : Int) < (l.length : Int) by omega), if_pos (show (0 : Int) ≤ (c : Int) by omega), if_pos (show (c : Int) < ((rdOf ByteArray.empty l (r : Int)).size : Int) by omega)]
  rw [distance_eq _ _ (by omega) (by omega)]
  simp only [Option.bind_some]
  split
  · split <;> rfl
  · rfl
theorem stG_a (l : List ByteArray) (p1 p2 p3 : Int) (r c : Nat) (hA : mx ((r : Int) - p1) (p1 - (r : Int)) < p3) (hB : mx ((c : Int) - p2) (p2 - (c : Int)) < p3) : stG l p1 p2 p3 r c = 63 := by
  unfold stG; rw [if_pos hA, if_pos hB]
theorem stG_b (l : List ByteArray) (p1 p2 p3 : Int) (r c : Nat) (hA : mx ((r : Int) - p1) (p1 - (r : Int)) < p3) (hB : ¬ mx ((c : Int) - p2) (p2 - (c : Int)) < p3) : stG l p1 p2 p3 r c = bt (rdOf ByteArray.empty l (r : Int)) c := by
  unfold stG; rw [if_pos hA, if_neg hB]
theorem stG_c (l : List ByteArray) (p1 p2 p3 : Int) (r c : Nat) (hA : ¬ mx ((r : Int) - p1) (p1 - (r : Int)) < p3) : stG l p1 p2 p3 r c = bt (rdOf ByteArray.empty l (r : Int)) c := by
  unfold stG; rw [if_neg hA]
theorem str63 : strOfNums [(63 : Int)] = (⟨#[63]⟩ : ByteArray) := rfl
theorem st_specRow (l : List ByteArray) (p1 p2 p3 : Int) (h1 : 0 ≤ p1 ∧ p1 ≤ 1000) (h2 : 0 ≤ p2 ∧ p2 ≤ 1000) (hl : l.length ≤ 1000) (n : Nat) (hn : n ≤ 1000) (r : Nat) (s : ByteArray) (hsr : rdOf ByteArray.empty l (r : Int) = s) (hz : s.size = n) (hr : r < l.length) (acc : List ByteArray) (ha : acc.length ≤ 1000) (d : Nat) :
    ∀ (k c : Nat), c + d = n → d < k → spec_StainScan.l1 k p1 p2 p3 acc r s (dRow (stG l p1 p2 p3 r) c) c l l.length r
      = spec_StainScan.l0 (k - d - 1) p1 p2 p3 (acc ++ [dRow (stG l p1 p2 p3 r) n]) l l.length ((r + 1 : Nat) : Int) := by
  induction d with
  | zero =>
    intro k c hc hk
    obtain ⟨k, rfl⟩ : ∃ j, k = j + 1 := ⟨k - 1, by omega⟩
    rw [spec_StainScan.l1, if_neg (by omega), if_pos (by omega), w64 (by omega), show c = n by omega]
    rfl
  | succ d ih =>
    intro k c hc hk
    obtain ⟨k, rfl⟩ : ∃ j, k = j + 1 := ⟨k - 1, by omega⟩
    have e := ih k (c + 1) (by omega) (by omega)
    rw [dRow_succ] at e
    have h0 : (0 : Int) ≤ (c : Int) := by omega
    have h1' : (c : Int) ≤ ((c + 1 : Nat) : Int) := by omega
    have h2' : ((c + 1 : Nat) : Int) ≤ (s.size : Int) := by omega
    have h3' : c + 1 ≤ 9223372036854775807 := by omega
    have a1 := abs_eq (r : Int) p1 (by omega) (by omega)
    have a2 := abs_eq (c : Int) p2 (by omega) (by omega)
    have hk' : k + 1 - (d + 1) - 1 = k - d - 1 := by omega
    have hlt : (c : Int) < (s.size : Int) := by omega
    have hcs : c < s.size := by omega
    have ec : wrap64 ((c : Int) + 1) = ((c + 1 : Nat) : Int) := by rw [w64 (by omega)]; omega
    have hx : s.extract c (c + 1) = strOfNums [bt s c] := extract_one _ c hcs
    have hxs : (strOfNums [bt s c]).size = 1 := str1_size _
    rw [hk', ← e, spec_StainScan.l1, if_pos hlt, a1]
    clear e ih
    simp only [Option.bind_some]
    rw [ec, Int.toNat_natCast, Int.toNat_natCast, hx]
    by_cases hA : mx ((r : Int) - p1) (p1 - (r : Int)) < p3
    · rw [if_pos hA, a2]
      simp only [Option.bind_some]
      by_cases hB : mx ((c : Int) - p2) (p2 - (c : Int)) < p3
      · rw [if_pos hB, dRow_size, if_pos h3', stG_a l p1 p2 p3 r c hA hB, str63]
      · rw [if_neg hB, if_pos h0, if_pos h1', if_pos h2', dRow_size, hxs, if_pos h3', stG_b l p1 p2 p3 r c hA hB, hsr]
    · rw [if_neg hA, if_pos h0, if_pos h1', if_pos h2', dRow_size, hxs, if_pos h3', stG_c l p1 p2 p3 r c hA, hsr]
theorem st_specRows (l : List ByteArray) (p1 p2 p3 : Int) (h1 : 0 ≤ p1 ∧ p1 ≤ 1000) (h2 : 0 ≤ p2 ∧ p2 ≤ 1000) (hl : l.length ≤ 1000) (n : Nat) (hn : n ≤ 1000) (hs : ∀ s ∈ l, s.size = n) (d : Nat) :
    ∀ (k r : Nat), r + d = l.length → d * (n + 2) < k → spec_StainScan.l0 k p1 p2 p3 (dRows (stG l p1 p2 p3) r n) l l.length r = some (dRows (stG l p1 p2 p3) l.length n, true) := by
  induction d with
  | zero =>
    intro k r hr hk
    obtain ⟨k, rfl⟩ : ∃ j, k = j + 1 := ⟨k - 1, by omega⟩
    rw [spec_StainScan.l0, if_neg (by omega), show r = l.length by omega]
  | succ d ih =>
    intro k r hr hk
    obtain ⟨k, rfl⟩ : ∃ j, k = j + 1 := ⟨k - 1, by omega⟩
    rw [Nat.succ_mul] at hk
    rw [spec_StainScan.l0, if_pos (by omega), if_pos (by omega), if_pos (by omega)]
    have e := st_specRow l p1 p2 p3 h1 h2 hl n hn r _ rfl (by rw [rdB_get l r (by omega)]; exact hs _ (List.getElem_mem _)) (by omega) (dRows (stG l p1 p2 p3) r n) (by rw [dRows_length]; omega) n k 0 (by omega) (by omega)
    rw [dRow_zero, show ((0 : Nat) : Int) = 0 from rfl] at e
    rw [e, ← dRows_succ]
    exact ih (k - n - 1) (r + 1) (by omega) (by omega)
def stGood (l : List ByteArray) (p1 p2 p3 : Int) : Bool := Grid chS 1 60 20 l && decide ((0 ≤ p1 ∧ p1 ≤ (l.length : Int) - 1) ∧ (0 ≤ p2 ∧ p2 ≤ (wid l : Int) - 1) ∧ (1 ≤ p3 ∧ p3 ≤ 10))
def stOut (l : List ByteArray) (p1 p2 p3 : Int) : List ByteArray × Bool := if stGood l p1 p2 p3 = true then (dRows (stG l p1 p2 p3) l.length (wid l), true) else ([], false)
theorem st_spec_j0_bad (l : List ByteArray) (p1 p2 p3 : Int) (k : Nat) (hk : 0 < k) : spec_StainScan.j0 k l p1 p2 p3 true = some ([], false) := by
  obtain ⟨k, rfl⟩ : ∃ j, k = j + 1 := ⟨k - 1, by omega⟩
  rw [spec_StainScan.j0, if_pos rfl]
theorem st_both (l : List ByteArray) (p1 p2 p3 : Int) (b1 : l.length ≤ 1048576) (b2 : ∀ s ∈ l, s.size ≤ 1048576) (k : Nat) (hk : fuelR l + 20000 ≤ k) :
    spec_StainScan.f k l p1 p2 p3 = some (stOut l p1 p2 p3) ∧ impl_StainScan.f k l p1 p2 p3 = some (stOut l p1 p2 p3) := by
  unfold spec_StainScan.f impl_StainScan.f stOut stGood
  rw [scGood_eq l b1 b2 k (by omega), isScan_eq l b1 b2 k (by omega)]
  simp only [Option.bind_some]
  cases hg : Grid chS 1 60 20 l with
  | false =>
    simp only [Bool.false_and, Bool.false_eq_true, if_false]
    exact ⟨st_spec_j0_bad l p1 p2 p3 k (by omega), trivial⟩
  | true =>
    obtain ⟨g1, g2, g3, g4, g5⟩ := grid_facts hg
    have hw : (rdOf ByteArray.empty l 0).size = wid l := by rw [wid_get l (by omega)]; exact congrArg _ (rdB_get l 0 (by omega))
    have hp : (0 : Int) < (l.length : Int) := by omega
    simp only [if_true, Bool.true_and, decide_eq_true_eq]
    rw [in_eq, hw, w64 (x := (l.length : Int) - 1) (by omega), w64 (x := (wid l : Int) - 1) (by omega), if_pos (show (0 : Int) < (l.length : Int) by omega)]
    simp only [Option.bind_some, decide_eq_true_eq]
    by_cases c1 : 0 ≤ p1 ∧ p1 ≤ (l.length : Int) - 1
    · rw [if_pos c1, if_neg (show ¬ p1 < 0 by omega), if_neg (show ¬ p1 ≥ (l.length : Int) by omega), in_eq]
      simp only [Option.bind_some, decide_eq_true_eq]
      by_cases c2 : 0 ≤ p2 ∧ p2 ≤ (wid l : Int) - 1
      · rw [if_pos c2, if_neg (show ¬ p2 < 0 by omega), if_neg (show ¬ p2 ≥ (wid l : Int) by omega), in_eq]
        simp only [Option.bind_some]
        by_cases c3 : 1 ≤ p3 ∧ p3 ≤ 10
        · rw [if_neg (show ¬ p3 < 1 by omega), if_neg (show ¬ p3 > 10 by omega), if_pos ⟨c1, c2, c3⟩, decide_eq_true c3]
          obtain ⟨k, rfl⟩ : ∃ j, k = j + 1 := ⟨k - 1, by omega⟩
          refine ⟨?_, ?_⟩
          · rw [spec_StainScan.j0, if_neg (by decide)]
            have e := st_specRows l p1 p2 p3 (by omega) (by omega) (by omega) (wid l) (by omega) (fun s hs => (g5 s hs).1) l.length k 0 (by omega) (by
              have : l.length * (wid l + 2) ≤ 60 * 22 := Nat.mul_le_mul g2 (by omega)
              omega)
            exact e
          · rw [drawn_eq _ l.length (wid l) (by omega) (by omega) (stG l p1 p2 p3) (fun r c hr hc => st_closure_eq l p1 p2 p3 (by omega) (by omega) (by omega) (wid l) (by omega) (fun s hs => (g5 s hs).1) r c hr hc) (k + 1) (by omega), if_pos hp]
            rfl
        · rw [if_neg (show ¬ ((0 ≤ p1 ∧ p1 ≤ (l.length : Int) - 1) ∧ (0 ≤ p2 ∧ p2 ≤ (wid l : Int) - 1) ∧ (1 ≤ p3 ∧ p3 ≤ 10)) from fun h => c3 h.2.2), decide_eq_false c3]
          refine ⟨st_spec_j0_bad l p1 p2 p3 k (by omega), ?_⟩
          by_cases h : p3 < 1
          · rw [if_pos h, if_pos hp]
          · rw [if_neg h, if_pos (show p3 > 10 by omega), if_pos hp]
      · rw [if_neg c2, if_neg (show ¬ ((0 ≤ p1 ∧ p1 ≤ (l.length : Int) - 1) ∧ (0 ≤ p2 ∧ p2 ≤ (wid l : Int) - 1) ∧ (1 ≤ p3 ∧ p3 ≤ 10)) from fun h => c2 h.2.1)]
        refine ⟨st_spec_j0_bad l p1 p2 p3 k (by omega), ?_⟩
        by_cases h : p2 < 0
        · rw [if_pos h]
        · rw [if_neg h, if_pos hp, if_pos (by omega)]
    · rw [if_neg c1, if_neg (show ¬ ((0 ≤ p1 ∧ p1 ≤ (l.length : Int) - 1) ∧ (0 ≤ p2 ∧ p2 ≤ (wid l : Int) - 1) ∧ (1 ≤ p3 ∧ p3 ≤ 10)) from fun h => c1 h.1)]
      refine ⟨st_spec_j0_bad l p1 p2 p3 k (by omega), ?_⟩
      by_cases h : p1 < 0
      · rw [if_pos h]
      · rw [if_neg h, if_pos (by omega)]

theorem w_next (n : Nat) (h : n ≤ 1000000) : wrap64 ((n : Int) + 1) = ((n + 1 : Nat) : Int) := by rw [w64 (by omega)]; omega

theorem put_tot (l : List Int) (x : Int) (hl : l.length ≤ 1000) (d : Nat) : ∀ (i : Nat), i + d = l.length → Tot (fun k => spec_l1Put.l0 k l x i) (fun r => r.length ≤ l.length + 1) := by
  induction d with
  | zero =>
    intro i hi
    refine Tot.step (h := fun _ => some (l.take i ++ [x] ++ l.drop i)) (fun k => ?_) (Tot.now _ (fun _ => rfl) (by simp; omega))
    rw [spec_l1Put.l0, if_neg (by omega)]
    simp only [Option.bind_some, Int.toNat_natCast, List.nil_append]
    rw [if_pos (by omega), if_pos (by omega), if_pos (by simp; omega), if_pos (by simp; omega), if_pos (by simp; omega)]
  | succ d ih =>
    intro i hi
    have hp : 0 ≤ (i : Int) := by omega
    have hq : (i : Int) < (l.length : Int) := by omega
    by_cases h1 : rd l (i : Int) < x
    · exact Tot.step (h := fun k => spec_l1Put.l0 k l x ((i + 1 : Nat) : Int)) (fun k => by rw [spec_l1Put.l0, if_pos hq, if_pos hp, if_pos h1, w_next i (by omega)]) (ih (i + 1) (by omega))
    · by_cases h2 : rd l (i : Int) = x
      · exact Tot.step (h := fun _ => some l) (fun k => by rw [spec_l1Put.l0, if_pos hq, if_pos hp, if_neg h1, if_pos h2]) (Tot.now _ (fun _ => rfl) (by omega))
      · refine Tot.step (h := fun _ => some (l.take i ++ [x] ++ l.drop i)) (fun k => ?_) (Tot.now _ (fun _ => rfl) (by simp; omega))
        rw [spec_l1Put.l0, if_pos hq, if_pos hp, if_neg h1, if_neg h2]
        simp only [Option.bind_some, Int.toNat_natCast, List.nil_append]
        rw [if_pos (by omega), if_pos (by simp; omega), if_pos (by simp; omega), if_pos (by simp; omega)]
theorem open_tot (l : List S90) (hl : l.length ≤ 100) (s : Int) (d : Nat) : ∀ (i : Nat) (out : List Int), i + d = l.length → out.length ≤ i → Tot (fun k => spec_shOpen.l0 k s out l l.length i) (fun r => r.length ≤ 100) := by
  induction d with
  | zero =>
    intro i out hi ho
    exact Tot.step (h := fun _ => some out) (fun k => by rw [spec_shOpen.l0, if_neg (by omega)]) (Tot.now _ (fun _ => rfl) (by omega))
  | succ d ih =>
    intro i out hi ho
    have hp : 0 ≤ (i : Int) := by omega
    have hq : (i : Int) < (l.length : Int) := by omega
    have e : ∀ a b c : Int, ∃ t, spec_l1In.f a b c = some t := fun a b c => by rw [in_eq]; exact ⟨_, rfl⟩
    obtain ⟨t, ht⟩ := e s ((rd_T90 l i).f1) (wrap64 (((rd_T90 l i).f2) - 1))
    cases t with
    | false => exact Tot.step (h := fun k => spec_shOpen.l0 k s out l l.length ((i + 1 : Nat) : Int)) (fun k => by rw [spec_shOpen.l0, if_pos hq, if_pos hp, if_pos hq, ht]; simp only [Option.bind_some, Bool.false_eq_true, if_false]; rw [w_next i (by omega)]) (ih (i + 1) out (by omega) (by omega))
    | true =>
      refine Tot.step (h := fun k => (spec_l1Put.f k out ((rd_T90 l i).f0)).bind fun t156 => spec_shOpen.l0 k s t156 l l.length ((i + 1 : Nat) : Int)) (fun k => by rw [spec_shOpen.l0, if_pos hq, if_pos hp, if_pos hq, ht]; simp only [Option.bind_some, if_true]; rw [w_next i (by omega)]) ?_
      refine Tot.bind (Q := fun r => r.length ≤ out.length + 1) ?_ (fun r hr => ih (i + 1) r (by omega) (by omega))
      exact put_tot out _ (by omega) out.length 0 (by omega)
theorem has_tot (l : List Int) (hl : l.length ≤ 1000) (x : Int) (d : Nat) : ∀ (i : Nat), i + d = l.length → Tot (fun k => spec_l1Has.l0 k x l l.length i) (fun _ => True) := by
  induction d with
  | zero =>
    intro i hi
    exact Tot.step (h := fun _ => some false) (fun k => by rw [spec_l1Has.l0, if_neg (by omega)]) (Tot.now _ (fun _ => rfl) trivial)
  | succ d ih =>
    intro i hi
    have hp : 0 ≤ (i : Int) := by omega
    have hq : (i : Int) < (l.length : Int) := by omega
    by_cases h : rd l (i : Int) = x
    · exact Tot.step (h := fun _ => some true) (fun k => by rw [spec_l1Has.l0, if_pos hq, if_pos hp, if_pos hq, if_pos h]) (Tot.now _ (fun _ => rfl) trivial)
    · exact Tot.step (h := fun k => spec_l1Has.l0 k x l l.length ((i + 1 : Nat) : Int)) (fun k => by rw [spec_l1Has.l0, if_pos hq, if_pos hp, if_pos hq, if_neg h, w_next i (by omega)]) (ih (i + 1) (by omega))
/-- a drawn scan: rows of one width -/
def Rows (R n : Nat) (l : List ByteArray) : Prop := l.length = R ∧ ∀ s ∈ l, s.size = n
theorem makeRow_tot (l : List S90) (R n : Nat) (hn : n ≤ 1000) (out : List ByteArray) (ho : out.length ≤ 1000) (r : Int) (op : List Int) (hop : op.length ≤ 1000) {Q : List ByteArray → Prop}
    (hk : ∀ t : ByteArray, t.size = n → Tot (fun k => spec_scMake.l0 k l n R (out ++ [t]) (wrap64 (r + 1))) Q) (d : Nat) : ∀ (c : Nat) (t : ByteArray), c + d = n → t.size = c → Tot (fun k => spec_scMake.l1 k l n R out r op t c) Q := by
  induction d with
  | zero =>
    intro c t hc ht
    exact Tot.step (h := fun k => spec_scMake.l0 k l n R (out ++ [t]) (wrap64 (r + 1))) (fun k => by rw [spec_scMake.l1, if_neg (by omega), if_pos (by omega)]) (hk t (by omega))
  | succ d ih =>
    intro c t hc ht
    have hq : (c : Int) < (n : Int) := by omega
    have hz : t.size + 1 ≤ 9223372036854775807 := by omega
    refine Tot.step (h := fun k => (spec_l1Has.f k op c).bind fun b => if b = true then spec_scMake.l1 k l n R out r op (t ++ (⟨#[111]⟩ : ByteArray)) ((c + 1 : Nat) : Int) else spec_scMake.l1 k l n R out r op (t ++ (⟨#[46]⟩ : ByteArray)) ((c + 1 : Nat) : Int))
      (fun k => by rw [spec_scMake.l1, if_pos hq]; congr 1; funext b; rw [if_pos hz, if_pos hz, w_next c (by omega)]) ?_
    refine Tot.bind (Q := fun _ => True) (has_tot op hop c op.length 0 (by omega)) (fun b _ => ?_)
    cases b with
    | true => exact Tot.congr (fun k => if_pos rfl) (ih (c + 1) _ (by omega) (by rw [ByteArray.size_append, ht]; rfl))
    | false => exact Tot.congr (fun k => if_neg (by decide)) (ih (c + 1) _ (by omega) (by rw [ByteArray.size_append, ht]; rfl))
theorem make_tot (l : List S90) (hl : l.length ≤ 100) (R n : Nat) (hR : R ≤ 100) (hn : n ≤ 1000) (d : Nat) : ∀ (r : Nat) (out : List ByteArray), r + d = R → Rows r n out → Tot (fun k => spec_scMake.l0 k l n R out r) (Rows R n) := by
  induction d with
  | zero =>
    intro r out hr ho
    obtain rfl : r = R := by omega
    exact Tot.step (h := fun _ => some out) (fun k => by rw [spec_scMake.l0, if_neg (by omega)]) (Tot.now _ (fun _ => rfl) ho)
  | succ d ih =>
    intro r out hr ho
    have h1 := ho.1
    refine Tot.step (h := fun k => (spec_shOpen.f k l r).bind fun op => spec_scMake.l1 k l n R out r op (⟨#[]⟩ : ByteArray) ((0 : Nat) : Int)) (fun k => by rw [spec_scMake.l0, if_pos (by omega)]; rfl) ?_
    refine Tot.bind (Q := fun q : List Int => q.length ≤ 100) (show Tot (fun k => spec_shOpen.f k l r) _ from open_tot l hl r l.length 0 [] (by omega) (by simp)) (fun op hop => ?_)
    refine makeRow_tot l R n hn out (by omega) r op (by omega) (fun t ht => ?_) n 0 _ (by omega) rfl
    rw [w_next r (by omega)]
    refine ih (r + 1) (out ++ [t]) (by omega) ⟨by simp; omega, fun s hs => ?_⟩
    rcases List.mem_append.1 hs with h | h
    · exact ho.2 s h
    · rw [List.mem_singleton.1 h]; exact ht
theorem mk_tot (l : List S90) (hl : l.length ≤ 100) (R n : Nat) (hR : R ≤ 100) (hn : n ≤ 1000) : Tot (fun k => spec_scMake.f k l n R) (Rows R n) :=
  make_tot l hl R n hR hn R 0 [] (by omega) ⟨rfl, fun s hs => by simp at hs⟩
theorem place_tot (out l : List S90) (hl : out.length ≤ 1000) (a b c : Int) (n i : Int) {Q : List S90 × Bool → Prop}
    (hk : ∀ o : List S90, o.length = out.length + 1 → Tot (fun k => spec_shSorted.l0 k o l n (wrap64 (i + 1))) Q) :
    ∀ p, p ≤ out.length → Tot (fun k => spec_shSorted.l1 k out p l n i a b c) Q := by
  intro p
  induction p with
  | zero =>
    intro hp
    refine Tot.step (h := fun k => spec_shSorted.l0 k (out.take 0 ++ [(⟨a, b, c⟩ : S90)] ++ out.drop 0) l n (wrap64 (i + 1))) (fun k => ?_) (hk _ (by simp))
    rw [spec_shSorted.l1, if_neg (by simp)]
    simp only [Option.bind_some]
    rw [if_pos (by omega), if_pos (by omega)]
    simp only [Int.toNat_natCast, List.nil_append]
    rw [if_pos (by simp), if_pos (by simp), if_pos (by simp; omega)]
  | succ p ih =>
    intro hp
    have e1 : wrap64 (((p + 1 : Nat) : Int) - 1) = (p : Int) := by rw [w64 (by omega)]; omega
    by_cases hb : hBefore (⟨a, b, c⟩ : S90) (out[p]'(by omega)) = true
    · refine Tot.step (h := fun k => spec_shSorted.l1 k out p l n i a b c) (fun k => ?_) (ih (by omega))
      rw [spec_shSorted.l1, if_pos (by omega), e1, if_pos (by omega), if_pos (by omega), rdH_get out p (by omega), shBefore_eq]
      simp only [Option.bind_some]
      rw [hb, if_pos rfl]
    · have hb' : hBefore (⟨a, b, c⟩ : S90) (out[p]'(by omega)) = false := Bool.eq_false_iff.2 hb
      refine Tot.step (h := fun k => spec_shSorted.l0 k (out.take (p + 1) ++ [(⟨a, b, c⟩ : S90)] ++ out.drop (p + 1)) l n (wrap64 (i + 1))) (fun k => ?_) (hk _ (by simp; omega))
      rw [spec_shSorted.l1, if_pos (by omega), e1, if_pos (by omega), if_pos (by omega), rdH_get out p (by omega), shBefore_eq]
      simp only [Option.bind_some]
      rw [hb', if_neg (by decide), if_pos (by omega), if_pos (by omega)]
      simp only [Int.toNat_natCast, List.nil_append]
      rw [if_pos (by simp; omega), if_pos (by simp; omega), if_pos (by simp; omega)]
theorem sorted_tot (l : List S90) (hl : l.length ≤ 100) (d : Nat) : ∀ (i : Nat) (out : List S90), i + d = l.length → out.length = i → Tot (fun k => spec_shSorted.l0 k out l l.length i) (fun r => r.1.length ≤ l.length) := by
  induction d with
  | zero =>
    intro i out hi ho
    refine Tot.step (h := fun k => (spec_shGood.f k out).bind fun t => if t = true then some (out, true) else some ([], false)) (fun k => by rw [spec_shSorted.l0, if_neg (by omega)]) ?_
    refine Tot.bind (Q := fun _ => True) (Tot.ge _ (fuelH 0 out.length) (fun k hk => shGood_eq out (by omega) k hk) trivial) (fun t _ => ?_)
    cases t with
    | true => exact Tot.now _ (fun k => if_pos rfl) (by simp; omega)
    | false => exact Tot.now _ (fun k => if_neg (by decide)) (by simp)
  | succ d ih =>
    intro i out hi ho
    refine Tot.step (h := fun k => spec_shSorted.l1 k out (out.length : Nat) l l.length i ((rd_T90 l i).f0) ((rd_T90 l i).f1) ((rd_T90 l i).f2)) (fun k => by rw [spec_shSorted.l0, if_pos (by omega), if_pos (by omega), if_pos (by omega)]) ?_
    refine place_tot out l (by omega) _ _ _ _ _ (fun o ho' => ?_) out.length (Nat.le_refl _)
    rw [w_next i (by omega)]
    exact ih (i + 1) o (by omega) (by omega)
theorem with_tot (l : List S90) (hl : l.length ≤ 90) (a b c : Int) : Tot (fun k => spec_shWith.f k l a b c) (fun r => r.1.length ≤ l.length + 1) := by
  refine Tot.congr (h := fun k => (spec_shSorted.f k (l ++ [(⟨a, b, c⟩ : S90)])).bind fun bt => some (bt.1, bt.2)) (fun k => ?_) ?_
  · unfold spec_shWith.f
    simp only [Option.bind_some, List.nil_append]
    rw [if_pos (by simp; omega), if_pos (by simp; omega)]
  · have hs : Tot (fun k => spec_shSorted.f k (l ++ [(⟨a, b, c⟩ : S90)])) (fun r => r.1.length ≤ (l ++ [(⟨a, b, c⟩ : S90)]).length) := sorted_tot (l ++ [(⟨a, b, c⟩ : S90)]) (by simp; omega) (l ++ [(⟨a, b, c⟩ : S90)]).length 0 [] (by omega) rfl
    exact Tot.bind hs (fun r hr => Tot.now _ (fun _ => rfl) (by simpa using hr))
theorem hole_ok (l : List Int) (hl : Bytes l) (a s : Int) (ha : 0 ≤ a ∧ a ≤ 800000) : ∃ t f e a' s', spec_l1Cur_hole.f l a s = some (t, f, e, a', s') ∧ a ≤ a' ∧ a' ≤ a + 12 := by
  unfold spec_l1Cur_hole.f
  obtain ⟨v1, a1, s1, e1, _, _, l1, u1⟩ := pick_ok l hl a s (by omega) 40
  rw [e1]; simp only [Option.bind_some]
  obtain ⟨v2, a2, s2, e2, _, _, l2, u2⟩ := pick_ok l hl a1 s1 (by omega) 60
  rw [e2]; simp only [Option.bind_some]
  obtain ⟨v3, a3, s3, e3, l3, u3⟩ := among_ok l hl a2 s2 (by omega) [0, 2, 5, v1, v2, 1990] (by simp)
  rw [e3]; simp only [Option.bind_some]
  obtain ⟨v4, a4, s4, e4, _, _, l4, u4⟩ := pick_ok l hl a3 s3 (by omega) 20
  rw [e4]; simp only [Option.bind_some]
  obtain ⟨v5, a5, s5, e5, l5, u5⟩ := among_ok l hl a4 s4 (by omega) [0, 1, 2, 3, 5, v4] (by simp)
  rw [e5]; simp only [Option.bind_some]
  obtain ⟨v6, a6, s6, e6, l6, u6⟩ := among_ok l hl a5 s5 (by omega) [1, 2, 3, 4, 10] (by simp)
  rw [e6]; simp only [Option.bind_some]
  exact ⟨_, _, _, a6, s6, rfl, by omega, by omega⟩
def CurIn (a : Int) (n : Int) (x : Int) : Prop := a ≤ x ∧ x ≤ a + n
theorem sheet0_tot (l : List Int) (hl : Bytes l) (d : Nat) : ∀ (x : List S90) (a s : Int), x.length + d = 60 → 0 ≤ a → a + 2 * d ≤ 800000 →
    Tot (fun k => spec_l1Cur_sheet.l0 k x l a s) (fun r => r.1.length ≤ 60 ∧ a ≤ r.2.1 ∧ r.2.1 ≤ a + 2 * d) := by
  induction d with
  | zero =>
    intro x a s hx h0 ha
    exact Tot.step (h := fun _ => some (x, a, s)) (fun k => by rw [spec_l1Cur_sheet.l0, if_neg (by omega)]) (Tot.now _ (fun _ => rfl) ⟨by simp only []; omega, by simp only []; omega, by simp only []; omega⟩)
  | succ d ih =>
    intro x a s hx h0 ha
    obtain ⟨v1, a1, s1, e1, _, _, l1, u1⟩ := pick_ok l hl a s (by omega) 5
    refine Tot.step (h := fun k => spec_l1Cur_sheet.l0 k (x ++ [_]) l a1 s1) (fun k => by rw [spec_l1Cur_sheet.l0, if_pos (by omega), e1]; simp only [Option.bind_some]; rw [if_pos (by omega)]) ?_
    exact Tot.weak (ih (x ++ [_]) a1 s1 (by simp; omega) (by omega) (by omega)) (fun r hr => ⟨hr.1, by omega, by omega⟩)
theorem sheet2_tot (l : List Int) (hl : Bytes l) (n : Int) (hn : n ≤ 60) (d : Nat) : ∀ (x : List S90) (i : Nat) (a s : Int), i + d = 60 → x.length ≤ 60 → 0 ≤ a → a + 12 * d ≤ 800000 →
    Tot (fun k => spec_l1Cur_sheet.l1 k x n i l a s) (fun r => r.1.length ≤ 60 ∧ a ≤ r.2.1 ∧ r.2.1 ≤ a + 12 * d) := by
  have out : ∀ (x : List S90) (i a s : Int) (m : Int), x.length ≤ 60 → 0 ≤ m → Tot (fun k => spec_l1Cur_sheet.j2 k x n i false l a s) (fun r => r.1.length ≤ 60 ∧ a ≤ r.2.1 ∧ r.2.1 ≤ a + m) := fun x i a s m hx hm =>
    Tot.step (h := fun _ => some (x, a, s)) (fun k => by rw [spec_l1Cur_sheet.j2, if_neg (by decide)]) (Tot.now _ (fun _ => rfl) ⟨hx, by simp only []; omega, by simp only []; omega⟩)
  induction d with
  | zero =>
    intro x i a s hi hx h0 ha
    by_cases h : (x.length : Int) < n
    · exact Tot.step (h := fun k => spec_l1Cur_sheet.j2 k x n i false l a s) (fun k => by rw [spec_l1Cur_sheet.l1, if_pos h, decide_eq_false (by omega)]) (out x i a s _ hx (by omega))
    · exact Tot.step (h := fun k => spec_l1Cur_sheet.j2 k x n i false l a s) (fun k => by rw [spec_l1Cur_sheet.l1, if_neg h]) (out x i a s _ hx (by omega))
  | succ d ih =>
    intro x i a s hi hx h0 ha
    by_cases h : (x.length : Int) < n
    · refine Tot.step (h := fun k => spec_l1Cur_sheet.j2 k x n i true l a s) (fun k => by rw [spec_l1Cur_sheet.l1, if_pos h, decide_eq_true (by omega)]) ?_
      obtain ⟨t, f, e, a1, s1, e1, l1, u1⟩ := hole_ok l hl a s (by omega)
      refine Tot.step (h := fun k => (spec_shWith.f k x t f e).bind fun bt => if bt.2 = true then spec_l1Cur_sheet.l1 k bt.1 n ((i + 1 : Nat) : Int) l a1 s1 else spec_l1Cur_sheet.l1 k x n ((i + 1 : Nat) : Int) l a1 s1)
        (fun k => by rw [spec_l1Cur_sheet.j2, if_pos rfl, e1]; simp only [Option.bind_some]; rw [w_next i (by omega)]) ?_
      refine Tot.bind (with_tot x (by omega) t f e) (fun bt hb => ?_)
      by_cases h2 : bt.2 = true
      · exact (Tot.congr (fun k => if_pos h2) (ih bt.1 (i + 1) a1 s1 (by omega) (by omega) (by omega) (by omega))).weak (fun r hr => ⟨hr.1, by omega, by omega⟩)
      · exact (Tot.congr (fun k => if_neg h2) (ih x (i + 1) a1 s1 (by omega) hx (by omega) (by omega))).weak (fun r hr => ⟨hr.1, by omega, by omega⟩)
    · exact Tot.step (h := fun k => spec_l1Cur_sheet.j2 k x n i false l a s) (fun k => by rw [spec_l1Cur_sheet.l1, if_neg h]) (out x i a s _ hx (by omega))
theorem sheet_tot (l : List Int) (hl : Bytes l) (a s : Int) (ha : 0 ≤ a ∧ a ≤ 700000) : Tot (fun k => spec_l1Cur_sheet.f k l a s) (fun r => r.1.length ≤ 60 ∧ a ≤ r.2.1 ∧ r.2.1 ≤ a + 1000) := by
  obtain ⟨v1, a1, s1, e1, l1, u1⟩ := one_ok l hl a s (by omega) 24
  by_cases h : v1 = true
  · refine Tot.congr (h := fun k => spec_l1Cur_sheet.l0 k [] l a1 s1) (fun k => by unfold spec_l1Cur_sheet.f; rw [e1]; simp only [Option.bind_some]; rw [if_pos h]) ?_
    exact Tot.weak (sheet0_tot l hl 60 [] a1 s1 (by simp) (by omega) (by omega)) (fun r hr => ⟨hr.1, by omega, by omega⟩)
  · obtain ⟨v2, a2, s2, e2, b0, b1, l2, u2⟩ := pick_ok l hl a1 s1 (by omega) 9
    refine Tot.congr (h := fun k => spec_l1Cur_sheet.l1 k [] v2 ((0 : Nat) : Int) l a2 s2) (fun k => by unfold spec_l1Cur_sheet.f; rw [e1]; simp only [Option.bind_some]; rw [if_neg h, e2]; rfl) ?_
    have b2 := b1 (by omega)
    exact (sheet2_tot l hl v2 (by omega) 60 [] 0 a2 s2 (by omega) (by simp) (by omega) (by omega)).weak (fun r hr => ⟨hr.1, by omega, by omega⟩)

theorem spoilt_nums (p n : Nat) (h : p < n) (hn : n ≤ 1000) : p + 1 ≤ 9223372036854775807 ∧ p + 1 + (n - p) ≤ 9223372036854775807 ∧ p + 1 + (n - (p + 1)) ≤ 9223372036854775807 ∧ p + (n - (p + 1)) ≤ 9223372036854775807 ∧
    p + 1 + (n - p) ≤ n + 1 ∧ p + 1 + (n - (p + 1)) ≤ n + 1 ∧ p + (n - (p + 1)) ≤ n + 1 := ⟨by omega, by omega, by omega, by omega, by omega, by omega, by omega⟩
theorem ex_left (x : ByteArray) (p : Nat) (h : p ≤ x.size) : (x.extract 0 p).size = p := by rw [ByteArray.size_extract]; omega
theorem ex_right (x : ByteArray) (p : Nat) : (x.extract p x.size).size = x.size - p := by rw [ByteArray.size_extract]; omega
theorem spoilt_tot (l : List Int) (hl : Bytes l) (y : ByteArray) (hy : 1 ≤ y.size) (d : Nat) : ∀ (x : ByteArray) (a s : Int), x.size + d ≤ 1000 → 0 ≤ a → a + 6 * d ≤ 800000 →
    Tot (fun k => spec_l1Cur_spoilt.l0 k x y d l a s) (fun r => r.1.size ≤ x.size + d ∧ a ≤ r.2.1 ∧ r.2.1 ≤ a + 6 * d) := by
  have out : ∀ (x : ByteArray) (i a s : Int) (m : Int) (p : Nat), 0 ≤ m → Tot (fun k => spec_l1Cur_spoilt.j1 k x y i false l a s) (fun r => r.1.size ≤ x.size + p ∧ a ≤ r.2.1 ∧ r.2.1 ≤ a + m) := fun x i a s m p hm =>
    Tot.step (h := fun _ => some (x, a, s)) (fun k => by rw [spec_l1Cur_spoilt.j1, if_neg (by decide)]) (Tot.now _ (fun _ => rfl) ⟨by simp only []; omega, by simp only []; omega, by simp only []; omega⟩)
  induction d with
  | zero =>
    intro x a s hx h0 ha
    exact Tot.step (h := fun k => spec_l1Cur_spoilt.j1 k x y ((0 : Nat) : Int) false l a s) (fun k => by rw [spec_l1Cur_spoilt.l0, if_neg (by omega)]) (out x _ a s _ _ (by omega))
  | succ d ih =>
    intro x a s hx h0 ha
    by_cases h : 0 < x.size
    · refine Tot.step (h := fun k => spec_l1Cur_spoilt.j1 k x y ((d + 1 : Nat) : Int) true l a s) (fun k => by rw [spec_l1Cur_spoilt.l0, if_pos (by omega), decide_eq_true (by omega)]) ?_
      obtain ⟨v1, a1, s1, e1, b0, b1, l1, u1⟩ := pick_ok l hl a s (by omega) (x.size : Int)
      have b2 := b1 (by omega)
      clear b1
      obtain ⟨v2, a2, s2, e2, c0, c1, l2, u2⟩ := pick_ok l hl a1 s1 (by omega) (y.size : Int)
      have c2 := c1 (by omega)
      clear c1
      obtain ⟨v3, a3, s3, e3, -, -, l3, u3⟩ := pick_ok l hl a2 s2 (by omega) 3
      obtain ⟨p, rfl⟩ : ∃ p : Nat, v1 = p := ⟨v1.toNat, by omega⟩
      have ew : wrap64 ((p : Int) + 1) = ((p + 1 : Nat) : Int) := w_next p (by omega)
      have ed : wrap64 (((d + 1 : Nat) : Int) - 1) = (d : Int) := by rw [w64 (by omega)]; omega
      have hp0 : (0 : Int) ≤ (p : Int) := by omega
      have hp1 : (p : Int) ≤ (x.size : Int) := by omega
      have hp2 : (0 : Int) ≤ ((p + 1 : Nat) : Int) := by omega
      have hp3 : ((p + 1 : Nat) : Int) ≤ (x.size : Int) := by omega
      have go : ∀ z : ByteArray, z.size ≤ x.size + 1 → Tot (fun k => spec_l1Cur_spoilt.l0 k z y d l a3 s3) (fun r => r.1.size ≤ x.size + (d + 1) ∧ a ≤ r.2.1 ∧ r.2.1 ≤ a + 6 * ((d + 1 : Nat) : Int)) := fun z hz =>
        (ih z a3 s3 (by omega) (by omega) (by omega)).weak (fun r hr => ⟨by have := hr.1; omega, by omega, by omega⟩)
      obtain ⟨f1, f2, f3, f4, g2, g3, g4⟩ := spoilt_nums p x.size (by omega) (by omega)
      have hx1 := ex_left x p (Nat.le_of_lt (by clear f1 f2 f3 f4 g2 g3 g4; omega))
      by_cases q0 : v3 = 0
      · refine Tot.step (h := fun k => spec_l1Cur_spoilt.l0 k (x.extract 0 p ++ strOfNums [bt y v2] ++ x.extract p x.size) y d l a3 s3) (fun k => ?_) (go _ (by rw [ByteArray.size_append, ByteArray.size_append, hx1, ex_right, str1_size]; exact g2))
        rw [spec_l1Cur_spoilt.j1, if_pos rfl, e1]; simp only [Option.bind_some]
        rw [e2]; simp only [Option.bind_some]
        rw [if_pos c0, if_pos c2, e3]; simp only [Option.bind_some]
        rw [if_pos q0, if_pos hp0, if_pos hp1, Int.toNat_natCast, if_pos (by rw [hx1, str1_size]; exact f1), if_pos (by rw [ByteArray.size_append, hx1, ex_right, str1_size]; exact f2), ed]
      · by_cases q1 : v3 = 1
        · refine Tot.step (h := fun k => spec_l1Cur_spoilt.l0 k (x.extract 0 p ++ strOfNums [bt y v2] ++ x.extract (p + 1) x.size) y d l a3 s3) (fun k => ?_) (go _ (by rw [ByteArray.size_append, ByteArray.size_append, hx1, ex_right, str1_size]; exact g3))
          rw [spec_l1Cur_spoilt.j1, if_pos rfl, e1]; simp only [Option.bind_some]
          rw [e2]; simp only [Option.bind_some]
          rw [if_pos c0, if_pos c2, e3]; simp only [Option.bind_some]
          rw [if_neg q0, if_pos q1, if_pos hp0, if_pos hp1, ew, Int.toNat_natCast, Int.toNat_natCast, if_pos (by rw [hx1, str1_size]; exact f1), if_pos hp2, if_pos hp3, if_pos (by rw [ByteArray.size_append, hx1, ex_right, str1_size]; exact f3), ed]
        · refine Tot.step (h := fun k => spec_l1Cur_spoilt.l0 k (x.extract 0 p ++ x.extract (p + 1) x.size) y d l a3 s3) (fun k => ?_) (go _ (by rw [ByteArray.size_append, hx1, ex_right]; exact g4))
          rw [spec_l1Cur_spoilt.j1, if_pos rfl, e1]; simp only [Option.bind_some]
          rw [e2]; simp only [Option.bind_some]
          rw [if_pos c0, if_pos c2, e3]; simp only [Option.bind_some]
          rw [if_neg q0, if_neg q1, if_pos hp0, if_pos hp1, ew, if_pos hp2, if_pos hp3, Int.toNat_natCast, Int.toNat_natCast, if_pos (by rw [hx1, ex_right]; exact f4), ed]
    · refine Tot.step (h := fun k => spec_l1Cur_spoilt.j1 k x y ((d + 1 : Nat) : Int) false l a s) (fun k => by rw [spec_l1Cur_spoilt.l0, if_pos (by omega), decide_eq_false (by omega)]) (out x _ a s _ _ (by omega))

theorem spoiltf_tot (l : List Int) (hl : Bytes l) (y : ByteArray) (hy : 1 ≤ y.size) (x : ByteArray) (hx : x.size ≤ 900) (a s : Int) (ha : 0 ≤ a ∧ a ≤ 700000) :
    Tot (fun k => spec_l1Cur_spoilt.f k l a s x y) (fun r => r.1.size ≤ x.size + 2 ∧ a ≤ r.2.1 ∧ r.2.1 ≤ a + 14) := by
  obtain ⟨v1, a1, s1, e1, b0, b1, l1, u1⟩ := pick_ok l hl a s (by omega) 2
  have b2 := b1 (by omega)
  clear b1
  obtain ⟨p, rfl⟩ : ∃ p : Nat, v1 = p := ⟨v1.toNat, by omega⟩
  refine Tot.congr (h := fun k => spec_l1Cur_spoilt.l0 k x y ((p + 1 : Nat) : Int) l a1 s1) (fun k => by unfold spec_l1Cur_spoilt.f; rw [e1]; simp only [Option.bind_some]; rw [w64 (by omega), show (1 : Int) + (p : Int) = ((p + 1 : Nat) : Int) by omega]) ?_
  exact Tot.weak (spoilt_tot l hl y hy (p + 1) x a1 s1 (by omega) (by omega) (by omega)) (fun r hr => ⟨by have := hr.1; omega, by omega, by omega⟩)
/-- what a drawn scan is like -/
def SmallScan (l : List ByteArray) : Prop := l.length ≤ 100 ∧ ∀ s ∈ l, s.size ≤ 1000
theorem rows_small {R n : Nat} {l : List ByteArray} (h : Rows R n l) (hR : R ≤ 100) (hn : n ≤ 1000) : SmallScan l := ⟨by rw [h.1]; exact hR, fun s hs => by rw [h.2 s hs]; exact hn⟩
theorem set_small {l : List ByteArray} (h : SmallScan l) (i : Nat) (t : ByteArray) (ht : t.size ≤ 1000) : SmallScan (l.set i t) :=
  ⟨by rw [List.length_set]; exact h.1, fun s hs => (List.mem_or_eq_of_mem_set hs).elim (fun h2 => h.2 s h2) (fun e => by rw [e]; exact ht)⟩
theorem set_rows {R n : Nat} {l : List ByteArray} (h : Rows R n l) (i : Nat) (t : ByteArray) (ht : t.size = n) : Rows R n (l.set i t) :=
  ⟨by rw [List.length_set]; exact h.1, fun s hs => (List.mem_or_eq_of_mem_set hs).elim (fun h2 => h.2 s h2) (fun e => by rw [e]; exact ht)⟩
theorem scan_end (l : List Int) (hl : Bytes l) (R n : Nat) (hR : 1 ≤ R ∧ R ≤ 60) (hn : n ≤ 20) (x : List ByteArray) (hx : Rows R n x) (a s : Int) (ha : 0 ≤ a ∧ a ≤ 600000) :
    Tot (fun k => spec_l1Cur_scan.l0 k n R x ((0 : Nat) : Int) l a s) (fun r => SmallScan r.1 ∧ a ≤ r.2.1 ∧ r.2.1 ≤ a + 20) := by
  have hxl := hx.1
  have hsm := rows_small hx (by omega) (by omega)
  obtain ⟨v1, a1, s1, e1, b0, b1, l1, u1⟩ := pick_ok l hl a s (by omega) 30
  clear b1
  have hz : ∀ i (h : i < x.length), (x[i]).size = n := fun i h => hx.2 _ (List.getElem_mem h)
  have hlt : (0 : Int) < (x.length : Int) := by omega
  by_cases q0 : v1 = 0
  · obtain ⟨v2, a2, s2, e2, c0, c1, l2, u2⟩ := pick_ok l hl a1 s1 (by omega) (R : Int)
    have c2 := c1 (by omega)
    clear c1
    obtain ⟨p, rfl⟩ : ∃ p : Nat, v2 = p := ⟨v2.toNat, by omega⟩
    have hp : p < x.length := by omega
    have hp1 : (p : Int) < (x.length : Int) := by omega
    have hp0 : (0 : Int) ≤ (p : Int) := by omega
    have hn1 : n + 1 ≤ 9223372036854775807 := by omega
    have hn2 : n + 1 ≤ 1000 := by omega
    have hcur : a ≤ a2 ∧ a2 ≤ a + 20 := by omega
    have hsz := hz p hp
    have h1 : (⟨#[46]⟩ : ByteArray).size = 1 := rfl
    refine Tot.step (h := fun _ => some (x.set p (x[p] ++ (⟨#[46]⟩ : ByteArray)), a2, s2)) (fun k => ?_) (Tot.now _ (fun _ => rfl) ⟨set_small hsm p (x[p] ++ (⟨#[46]⟩ : ByteArray)) (by rw [ByteArray.size_append, hsz, h1]; exact hn2), hcur.1, hcur.2⟩)
    rw [spec_l1Cur_scan.l0, if_neg (by simp), e1]
    simp only [Option.bind_some]
    rw [if_pos q0, e2]
    simp only [Option.bind_some]
    rw [if_pos hp0, if_pos hp1, rdB_get x p hp, hsz, if_pos hn1, Int.toNat_natCast]
  · by_cases q1 : v1 = 1
    · have h0 : 0 < x.length := by omega
      have hsz := hz 0 h0
      have hr0 : rdOf ByteArray.empty x 0 = x[0] := rdB_get x 0 h0
      refine Tot.step (h := fun k => (spec_l1Cur_spoilt.f k l a1 s1 x[0] (⟨#[120, 79, 32]⟩ : ByteArray)).bind fun bt => some (x.set 0 bt.1, bt.2.1, bt.2.2)) (fun k => ?_) ?_
      · rw [spec_l1Cur_scan.l0, if_neg (by simp), e1]
        simp only [Option.bind_some]
        rw [if_neg q0, if_pos q1, if_pos hlt, hr0]
        rfl
      · refine Tot.bind (spoiltf_tot l hl (⟨#[120, 79, 32]⟩ : ByteArray) (by decide) x[0] (by omega) a1 s1 (by omega)) (fun bt hb => ?_)
        obtain ⟨h1, h2, h3⟩ := hb
        have h4 : bt.1.size ≤ 1000 := by omega
        exact Tot.now _ (fun _ => rfl) ⟨set_small hsm 0 _ h4, by simp only []; omega, by simp only []; omega⟩
    · by_cases q2 : v1 = 2
      · exact Tot.step (h := fun _ => some ([], a1, s1)) (fun k => by rw [spec_l1Cur_scan.l0, if_neg (by simp), e1]; simp only [Option.bind_some]; rw [if_neg q0, if_neg q1, if_pos q2]) (Tot.now _ (fun _ => rfl) ⟨⟨by simp, fun s hs => by simp at hs⟩, by simp only []; omega, by simp only []; omega⟩)
      · by_cases q3 : v1 = 3
        · obtain ⟨v2, a2, s2, e2, c0, c1, l2, u2⟩ := pick_ok l hl a1 s1 (by omega) 2
          have c2 := c1 (by omega)
          clear c1
          obtain ⟨p, rfl⟩ : ∃ p : Nat, v2 = p := ⟨v2.toNat, by omega⟩
          refine Tot.step (h := fun k => (spec_scMake.f k [] ((3 : Nat) : Int) ((60 + p : Nat) : Int)).bind fun t => some (t, a2, s2)) (fun k => ?_) ?_
          · rw [spec_l1Cur_scan.l0, if_neg (by simp), e1]
            simp only [Option.bind_some]
            rw [if_neg q0, if_neg q1, if_neg q2, if_pos q3, e2]
            simp only [Option.bind_some]
            rw [w64 (by omega), show (60 : Int) + (p : Int) = ((60 + p : Nat) : Int) by omega]
            rfl
          · exact Tot.bind (mk_tot [] (by simp) (60 + p) 3 (by omega) (by omega)) (fun t ht => Tot.now _ (fun _ => rfl) ⟨rows_small ht (by omega) (by omega), by simp only []; omega, by simp only []; omega⟩)
        · by_cases q4 : v1 = 4
          · obtain ⟨v2, a2, s2, e2, c0, c1, l2, u2⟩ := pick_ok l hl a1 s1 (by omega) 2
            have c2 := c1 (by omega)
            clear c1
            obtain ⟨p, rfl⟩ : ∃ p : Nat, v2 = p := ⟨v2.toNat, by omega⟩
            refine Tot.step (h := fun k => (spec_scMake.f k [] ((20 + p : Nat) : Int) ((2 : Nat) : Int)).bind fun t => some (t, a2, s2)) (fun k => ?_) ?_
            · rw [spec_l1Cur_scan.l0, if_neg (by simp), e1]
              simp only [Option.bind_some]
              rw [if_neg q0, if_neg q1, if_neg q2, if_neg q3, if_pos q4, e2]
              simp only [Option.bind_some]
              rw [w64 (by omega), show (20 : Int) + (p : Int) = ((20 + p : Nat) : Int) by omega]
              rfl
            · exact Tot.bind (mk_tot [] (by simp) 2 (20 + p) (by omega) (by omega)) (fun t ht => Tot.now _ (fun _ => rfl) ⟨rows_small ht (by omega) (by omega), by simp only []; omega, by simp only []; omega⟩)
          · exact Tot.step (h := fun _ => some (x, a1, s1)) (fun k => by rw [spec_l1Cur_scan.l0, if_neg (by simp), e1]; simp only [Option.bind_some]; rw [if_neg q0, if_neg q1, if_neg q2, if_neg q3, if_neg q4]) (Tot.now _ (fun _ => rfl) ⟨hsm, by simp only []; omega, by simp only []; omega⟩)
theorem scan_loop (l : List Int) (hl : Bytes l) (R n : Nat) (hR : 1 ≤ R ∧ R ≤ 60) (hn : n ≤ 20) (d : Nat) : ∀ (x : List ByteArray) (a s : Int), d ≤ 10 → Rows R n x → 0 ≤ a → a + 20 * d ≤ 600000 →
    Tot (fun k => spec_l1Cur_scan.l0 k n R x d l a s) (fun r => SmallScan r.1 ∧ a ≤ r.2.1 ∧ r.2.1 ≤ a + 20 * d + 20) := by
  induction d with
  | zero =>
    intro x a s _ hx h0 ha
    exact Tot.weak (scan_end l hl R n hR hn x hx a s (by omega)) (fun r hr => ⟨hr.1, by omega, by omega⟩)
  | succ d ih =>
    intro x a s hd hx h0 ha
    have hxl := hx.1
    obtain ⟨v1, a1, s1, e1, b0, b1, l1, u1⟩ := pick_ok l hl a s (by omega) (R : Int)
    have b2 := b1 (by omega)
    clear b1
    obtain ⟨p, rfl⟩ : ∃ p : Nat, v1 = p := ⟨v1.toNat, by omega⟩
    have hp : p < x.length := by omega
    have hsz : x[p].size = n := hx.2 _ (List.getElem_mem hp)
    have ed : wrap64 (((d + 1 : Nat) : Int) - 1) = (d : Int) := by rw [w64 (by omega)]; omega
    have hp1 : (p : Int) < (x.length : Int) := by omega
    have hp0 : (0 : Int) ≤ (p : Int) := by omega
    have hpos : ((d + 1 : Nat) : Int) > 0 := by omega
    have hxs : x[p].size ≤ 900 := by omega
    have ha1 : 0 ≤ a1 ∧ a1 ≤ 700000 := by omega
    refine Tot.step (h := fun k => (spec_l1Cur_spoilt.f k l a1 s1 x[p] (⟨#[46, 111, 63]⟩ : ByteArray)).bind fun bt => if ((rdOf ByteArray.empty (x.set p bt.1) (p : Int)).size : Int) = (n : Int) then spec_l1Cur_scan.l0 k n R (x.set p bt.1) d l bt.2.1 bt.2.2
      else (spec_scMake.f k [] n ((1 : Nat) : Int)).bind fun t => if 0 < (t.length : Int) then spec_l1Cur_scan.l0 k n R ((x.set p bt.1).set p (rdOf ByteArray.empty t 0)) d l bt.2.1 bt.2.2 else none) (fun k => ?_) ?_
    · rw [spec_l1Cur_scan.l0, if_pos hpos, e1]
      simp only [Option.bind_some]
      rw [if_pos hp0, if_pos hp1, rdB_get x p hp, Int.toNat_natCast, ed]
      rfl
    · refine Tot.bind (spoiltf_tot l hl (⟨#[46, 111, 63]⟩ : ByteArray) (by decide) x[p] hxs a1 s1 ha1) (fun bt hb => ?_)
      obtain ⟨-, h2, h3⟩ := hb
      have hset : rdOf ByteArray.empty (x.set p bt.1) (p : Int) = bt.1 := by rw [rdB_get _ p (by rw [List.length_set]; exact hp), List.getElem_set_self]
      by_cases q : ((rdOf ByteArray.empty (x.set p bt.1) (p : Int)).size : Int) = (n : Int)
      · have q' : bt.1.size = n := by rw [hset] at q; exact Int.ofNat.inj q
        refine Tot.congr (h := fun k => spec_l1Cur_scan.l0 k n R (x.set p bt.1) d l bt.2.1 bt.2.2) (fun k => if_pos q) ?_
        clear q hset
        exact Tot.weak (ih (x.set p bt.1) bt.2.1 bt.2.2 (by omega) (set_rows hx p bt.1 q') (by omega) (by omega)) (fun r hr => ⟨hr.1, by omega, by omega⟩)
      · refine Tot.congr (h := fun k => (spec_scMake.f k [] n ((1 : Nat) : Int)).bind fun t => if 0 < (t.length : Int) then spec_l1Cur_scan.l0 k n R ((x.set p bt.1).set p (rdOf ByteArray.empty t 0)) d l bt.2.1 bt.2.2 else none) (fun k => if_neg q) ?_
        clear q hset
        refine Tot.bind (mk_tot [] (by simp) 1 n (by omega) (by omega)) (fun t ht => ?_)
        have htl := ht.1
        have h0t : 0 < t.length := by omega
        have ht0 : rdOf ByteArray.empty t 0 = t[0] := rdB_get t 0 h0t
        have hts : (t[0]).size = n := ht.2 _ (List.getElem_mem h0t)
        refine Tot.congr (h := fun k => spec_l1Cur_scan.l0 k n R (x.set p t[0]) d l bt.2.1 bt.2.2) (fun k => by rw [if_pos (by omega), ht0, List.set_set]) ?_
        exact Tot.weak (ih (x.set p t[0]) bt.2.1 bt.2.2 (by omega) (set_rows hx p _ hts) (by omega) (by omega)) (fun r hr => ⟨hr.1, by omega, by omega⟩)
/-- a drawn scan is small -/
theorem scan_tot (l : List Int) (hl : Bytes l) (a s : Int) (ha : 0 ≤ a ∧ a ≤ 500000) : Tot (fun k => spec_l1Cur_scan.f k l a s) (fun r => SmallScan r.1 ∧ a ≤ r.2.1 ∧ r.2.1 ≤ a + 2000) := by
  obtain ⟨v1, a1, s1, e1, b0, b1, l1, u1⟩ := pick_ok l hl a s (by omega) 8
  have b2 := b1 (by omega)
  clear b1
  obtain ⟨v2, a2, s2, e2, c0, c1, l2, u2⟩ := pick_ok l hl a1 s1 (by omega) 10
  have c2 := c1 (by omega)
  clear c1
  obtain ⟨v3, a3, s3, e3, l3, u3⟩ := one_ok l hl a2 s2 (by omega) 20
  have key : ∀ (n R : Nat), 1 ≤ R ∧ R ≤ 60 → n ≤ 20 → Tot (fun k => spec_l1Cur_scan.j0 k n R l a3 s3) (fun r => SmallScan r.1 ∧ a ≤ r.2.1 ∧ r.2.1 ≤ a + 2000) := fun n R hR hn => by
    refine Tot.step (h := fun k => (spec_l1Cur_sheet.f k l a3 s3).bind fun bt => (spec_scMake.f k bt.1 n R).bind fun t => (spec_l1Cur_pick.f l bt.2.1 bt.2.2 4).bind fun bp => spec_l1Cur_scan.l0 k n R t bp.1 l bp.2.1 bp.2.2) (fun k => by rw [spec_l1Cur_scan.j0]) ?_
    refine Tot.bind (sheet_tot l hl a3 s3 (by omega)) (fun bt hb => ?_)
    obtain ⟨h1, h2, h3⟩ := hb
    refine Tot.bind (mk_tot bt.1 (by omega) R n (by omega) (by omega)) (fun t ht => ?_)
    obtain ⟨v4, a4, s4, e4, d0, d1, l4, u4⟩ := pick_ok l hl bt.2.1 bt.2.2 (by omega) 4
    have d2 := d1 (by omega)
    clear d1
    obtain ⟨p, rfl⟩ : ∃ p : Nat, v4 = p := ⟨v4.toNat, by omega⟩
    refine Tot.congr (h := fun k => spec_l1Cur_scan.l0 k n R t p l a4 s4) (fun k => by rw [e4]; rfl) ?_
    exact Tot.weak (scan_loop l hl R n hR hn p t a4 s4 (by omega) ht (by omega) (by omega)) (fun r hr => ⟨hr.1, by omega, by omega⟩)
  by_cases h : v3 = true
  · refine Tot.congr (h := fun k => spec_l1Cur_scan.j0 k ((20 : Nat) : Int) ((60 : Nat) : Int) l a3 s3) (fun k => ?_) (key 20 60 (by omega) (by omega))
    unfold spec_l1Cur_scan.f
    rw [e1]; simp only [Option.bind_some]
    rw [e2]; simp only [Option.bind_some]
    rw [e3]; simp only [Option.bind_some]
    rw [if_pos h]; rfl
  · obtain ⟨p, rfl⟩ : ∃ p : Nat, v1 = p := ⟨v1.toNat, by omega⟩
    obtain ⟨q, rfl⟩ : ∃ q : Nat, v2 = q := ⟨v2.toNat, by omega⟩
    refine Tot.congr (h := fun k => spec_l1Cur_scan.j0 k ((1 + p : Nat) : Int) ((1 + q : Nat) : Int) l a3 s3) (fun k => ?_) (key (1 + p) (1 + q) (by omega) (by omega))
    unfold spec_l1Cur_scan.f
    rw [e1]; simp only [Option.bind_some]
    rw [e2]; simp only [Option.bind_some]
    rw [e3]; simp only [Option.bind_some]
    rw [if_neg h, w64 (by omega), w64 (by omega), show (1 : Int) + (p : Int) = ((1 + p : Nat) : Int) by omega, show (1 : Int) + (q : Int) = ((1 + q : Nat) : Int) by omega]

theorem st_grid (l : List ByteArray) (p1 p2 p3 : Int) (h : Grid chS 1 60 20 l = true) : Grid chS 1 60 20 (dRows (stG l p1 p2 p3) l.length (wid l)) = true := by
  obtain ⟨g1, g2, g3, g4, _⟩ := grid_facts h
  refine grid_dRows _ _ _ ⟨g1, g2⟩ ⟨g3, g4⟩ (fun r c hr hc => ?_)
  unfold stG
  split
  · split
    · rfl
    · exact grid_at h r c hr hc
  · exact grid_at h r c hr hc
theorem sk_grid (l : List ByteArray) (p : Int) (h : Grid chS 1 60 20 l = true) : Grid chS 1 60 20 (dRows (skG l p) l.length (wid l)) = true := by
  obtain ⟨g1, g2, g3, g4, g5⟩ := grid_facts h
  refine grid_dRows _ _ _ ⟨g1, g2⟩ ⟨g3, g4⟩ (fun r c hr hc => ?_)
  unfold skG
  split
  · rename_i hs
    obtain ⟨q, hq⟩ : ∃ q : Nat, skFrom p r c = q := ⟨(skFrom p r c).toNat, by omega⟩
    rw [hq]
    rw [hq] at hs
    exact grid_at h q c (by omega) hc
  · rfl
theorem grid_small {l : List ByteArray} (h : Grid chS 1 60 20 l = true) : SmallScan l := by
  obtain ⟨g1, g2, g3, g4, g5⟩ := grid_facts h
  exact ⟨by omega, fun s hs => by rw [(g5 s hs).1]; omega⟩
theorem fillB_size (m s : ByteArray) (hm : m.data.toList.length = 1) : (fillB m s).size = s.size := by
  show (fillL _ _).toArray.size = s.size
  rw [List.size_toArray, fillL_length _ _ hm, data_length]
theorem small_fuel {l : List ByteArray} (h : SmallScan l) : fuelR l ≤ 200000 := by
  have e := fuelR_bound l 1000 h.2
  have := Nat.mul_le_mul_right (1000 + 2) h.1
  omega
/-- the second of two drawn scans -/
theorem two_end (l : List Int) (hl : Bytes l) (x4 x5 : List ByteArray) (hg : Grid chS 1 60 20 x5 = true) (a s : Int) (ha : 0 ≤ a ∧ a ≤ 600000) :
    Tot (fun k => spec_l1Cur_scansTwo.l0 k x4 x5 ((0 : Nat) : Int) l a s) (fun r => r.1 = x4 ∧ SmallScan r.2.1) := by
  obtain ⟨v1, a1, s1, e1, l1, u1⟩ := one_ok l hl a s (by omega) 4
  obtain ⟨g1, g2, g3, g4, g5⟩ := grid_facts hg
  by_cases h : v1 = true
  · obtain ⟨v2, a2, s2, e2, b0, b1, l2, u2⟩ := pick_ok l hl a1 s1 (by omega) 2
    have b2 := b1 (by omega)
    clear b1
    have hm : ∃ m : ByteArray, m.data.toList.length = 1 ∧ spec_l1Cur_of.f l a1 s1 [(⟨#[46]⟩ : ByteArray), (⟨#[111]⟩ : ByteArray)] = some (m, a2, s2) := by
      unfold spec_l1Cur_of.f
      have e2' : spec_l1Cur_pick.f l a1 s1 ((([(⟨#[46]⟩ : ByteArray), (⟨#[111]⟩ : ByteArray)] : List ByteArray).length : Nat) : Int) = some (v2, a2, s2) := e2
      have b2' : v2 < ((([(⟨#[46]⟩ : ByteArray), (⟨#[111]⟩ : ByteArray)] : List ByteArray).length : Nat) : Int) := b2
      rw [e2']
      simp only [Option.bind_some]
      rw [if_pos b0, if_pos b2']
      have hv : v2 = 0 ∨ v2 = 1 := by omega
      rcases hv with rfl | rfl
      · exact ⟨_, rfl, rfl⟩
      · exact ⟨_, rfl, rfl⟩
    obtain ⟨m, hm1, em⟩ := hm
    refine Tot.step (h := fun k => (spec_scFill.f k x5 m).bind fun t => some (x4, t, a2, s2)) (fun k => ?_) ?_
    · rw [spec_l1Cur_scansTwo.l0, if_neg (by simp), e1]
      simp only [Option.bind_some]
      rw [if_pos h, em]
      rfl
    · have hK : x5.length * (wid x5 + 2) < 2000 := by
        have : x5.length * (wid x5 + 2) ≤ 60 * 22 := Nat.mul_le_mul g2 (by omega)
        omega
      refine Tot.bind (Q := fun t => t = x5.map (fillB m)) (Tot.ge _ 2000 (fun k hk => ?_) rfl) (fun t ht => Tot.now _ (fun _ => rfl) ⟨rfl, ?_⟩)
      · unfold spec_scFill.f
        have := fill_rows m hm1 x5 (by omega) (wid x5) (by omega) (fun s hs => (g5 s hs).1) x5.length k 0 (by omega) (by omega)
        simpa using this
      · subst ht
        refine ⟨by rw [List.length_map]; omega, fun s hs => ?_⟩
        obtain ⟨q, hq, rfl⟩ := List.mem_map.1 hs
        rw [fillB_size m q hm1, (g5 q hq).1]
        omega
  · exact Tot.step (h := fun _ => some (x4, x5, a1, s1)) (fun k => by rw [spec_l1Cur_scansTwo.l0, if_neg (by simp), e1]; simp only [Option.bind_some]; rw [if_neg h]) (Tot.now _ (fun _ => rfl) ⟨rfl, grid_small hg⟩)
theorem two_loop (l : List Int) (hl : Bytes l) (x4 : List ByteArray) (d : Nat) : ∀ (x5 : List ByteArray) (a s : Int), d ≤ 10 → Grid chS 1 60 20 x5 = true → 0 ≤ a → a + 10 * d ≤ 600000 →
    Tot (fun k => spec_l1Cur_scansTwo.l0 k x4 x5 d l a s) (fun r => r.1 = x4 ∧ SmallScan r.2.1) := by
  induction d with
  | zero => intro x5 a s _ hg h0 ha; exact two_end l hl x4 x5 hg a s (by omega)
  | succ d ih =>
    intro x5 a s hd hg h0 ha
    obtain ⟨g1, g2, g3, g4, g5⟩ := grid_facts hg
    obtain ⟨v1, a1, s1, e1, b0, b1, l1, u1⟩ := pick_ok l hl a s (by omega) (x5.length : Int)
    have b2 := b1 (by omega)
    clear b1
    obtain ⟨v2, a2, s2, e2, c0, c1, l2, u2⟩ := pick_ok l hl a1 s1 (by omega) (wid x5 : Int)
    have c2 := c1 (by omega)
    clear c1
    obtain ⟨v3, a3, s3, e3, d0, d1, l3, u3⟩ := pick_ok l hl a2 s2 (by omega) 2
    have d2 := d1 (by omega)
    clear d1
    have hw : (rdOf ByteArray.empty x5 0).size = wid x5 := by rw [wid_get x5 (by omega)]; exact congrArg _ (rdB_get x5 0 (by omega))
    have ed : wrap64 (((d + 1 : Nat) : Int) - 1) = (d : Int) := by rw [w64 (by omega)]; omega
    have ew : wrap64 (1 + v3) = 1 + v3 := w64 (by omega)
    have hgood : stGood x5 v1 v2 (1 + v3) = true := by
      unfold stGood
      rw [hg, Bool.true_and, decide_eq_true_eq]
      omega
    have hfu := small_fuel (grid_small hg)
    refine Tot.step (h := fun k => (spec_StainScan.f k x5 v1 v2 (1 + v3)).bind fun bt => spec_l1Cur_scansTwo.l0 k x4 bt.1 d l a3 s3) (fun k => ?_) ?_
    · rw [spec_l1Cur_scansTwo.l0, if_pos (by omega), e1]
      simp only [Option.bind_some]
      rw [if_pos (by omega), hw, e2]
      simp only [Option.bind_some]
      rw [e3]
      simp only [Option.bind_some]
      rw [ew, ed]
    · refine Tot.bind (Q := fun bt => bt.1 = dRows (stG x5 v1 v2 (1 + v3)) x5.length (wid x5)) (Tot.ge (stOut x5 v1 v2 (1 + v3)) 300000 (fun k hk => (st_both x5 v1 v2 (1 + v3) (by omega) (fun s hs => by rw [(g5 s hs).1]; omega) k (by omega)).1) (by unfold stOut; rw [if_pos hgood])) (fun bt hb => ?_)
      rw [hb]
      exact ih _ a3 s3 (by omega) (st_grid x5 _ _ _ hg) (by omega) (by omega)
theorem two_tot (l : List Int) (hl : Bytes l) : Tot (fun k => spec_l1Cur_scansTwo.f k l 0 0) (fun r => SmallScan r.1 ∧ SmallScan r.2.1) := by
  refine Tot.congr (fun k => by unfold spec_l1Cur_scansTwo.f; rfl) ?_
  refine Tot.bind (scan_tot l hl 0 0 (by omega)) (fun b hb => ?_)
  obtain ⟨x, a, s⟩ := b
  obtain ⟨hx, h1, h2⟩ := hb
  simp only at hx h1 h2
  have hfu := small_fuel hx
  have hxl := hx.1
  refine Tot.bind (Q := fun t => t = Grid chS 1 60 20 x) (Tot.ge _ 300000 (fun k hk => scGood_eq x (by omega) (fun s hs => by have := hx.2 s hs; omega) k (by omega)) rfl) (fun t ht => ?_)
  have first : ∀ (a s : Int), 0 ≤ a ∧ a ≤ 100000 → Tot (fun k => spec_l1Cur_scansTwo.j0 k x true l a s) (fun r => SmallScan r.1 ∧ SmallScan r.2.1) := fun a s ha => by
    refine Tot.step (h := fun k => (spec_l1Cur_scan.f k l a s).bind fun bt => some (x, bt.1, bt.2.1, bt.2.2)) (fun k => by rw [spec_l1Cur_scansTwo.j0, if_pos rfl]) ?_
    exact Tot.bind (scan_tot l hl a s (by omega)) (fun b hb => Tot.now _ (fun _ => rfl) ⟨hx, hb.1⟩)
  by_cases hg : t = true
  · rw [ht] at hg
    obtain ⟨v1, a1, s1, e1, l1, u1⟩ := one_ok l hl a s (by omega) 8
    refine Tot.congr (h := fun k => spec_l1Cur_scansTwo.j0 k x v1 l a1 s1) (fun k => by rw [if_pos (ht.trans hg), e1]; rfl) ?_
    cases v1 with
    | true => exact first a1 s1 (by omega)
    | false =>
      have rest : ∀ (y : List ByteArray) (a s : Int), Grid chS 1 60 20 y = true → 0 ≤ a ∧ a ≤ 100000 → Tot (fun k => spec_l1Cur_scansTwo.j1 k x y l a s) (fun r => SmallScan r.1 ∧ SmallScan r.2.1) := fun y a s hy ha => by
        obtain ⟨v2, a2, s2, e2, b0, b1, l2, u2⟩ := pick_ok l hl a s (by omega) 3
        have b2 := b1 (by omega)
        clear b1
        obtain ⟨p, rfl⟩ : ∃ p : Nat, v2 = p := ⟨v2.toNat, by omega⟩
        refine Tot.step (h := fun k => spec_l1Cur_scansTwo.l0 k x y p l a2 s2) (fun k => by rw [spec_l1Cur_scansTwo.j1, e2]; rfl) ?_
        exact Tot.weak (two_loop l hl x p y a2 s2 (by omega) hy (by omega) (by omega)) (fun r hr => ⟨by rw [hr.1]; exact hx, hr.2⟩)
      obtain ⟨v3, a3, s3, e3, l3, u3⟩ := one_ok l hl a1 s1 (by omega) 3
      by_cases h3 : v3 = true
      · obtain ⟨v4, a4, s4, e4, c0, c1, l4, u4⟩ := pick_ok l hl a3 s3 (by omega) 21
        have c2 := c1 (by omega)
        clear c1
        refine Tot.step (h := fun k => (spec_scSkew.f k x (v4 - 10)).bind fun t => spec_l1Cur_scansTwo.j1 k x t l a4 s4) (fun k => ?_) ?_
        · rw [spec_l1Cur_scansTwo.j0, if_neg (by decide)]
          simp only [Option.bind_some, List.nil_append]
          rw [if_pos (by simp; omega), e3]
          simp only [Option.bind_some]
          rw [if_pos h3, e4]
          simp only [Option.bind_some]
          rw [w64 (by omega)]
        · refine Tot.bind (Q := fun t => t = dRows (skG x (v4 - 10)) x.length (wid x)) (Tot.ge _ 20000 (fun k hk => (skBoth x (v4 - 10) (by omega) hg k hk).1) rfl) (fun t ht => ?_)
          rw [ht]
          exact rest _ a4 s4 (sk_grid x _ hg) (by omega)
      · refine Tot.step (h := fun k => spec_l1Cur_scansTwo.j1 k x x l a3 s3) (fun k => ?_) (rest x a3 s3 hg (by omega))
        rw [spec_l1Cur_scansTwo.j0, if_neg (by decide)]
        simp only [Option.bind_some, List.nil_append]
        rw [if_pos (by simp; omega), e3]
        simp only [Option.bind_some]
        rw [if_neg h3]
  · refine Tot.congr (h := fun k => spec_l1Cur_scansTwo.j0 k x true l a s) (fun k => by rw [if_neg hg]) (first a s (by omega))

theorem drawStain_tot (l : List Int) (hl : Bytes l) : Tot (fun k => spec_DrawStainScan.f k l) (fun r => SmallScan r.1) := by
  refine Tot.congr (fun k => by unfold spec_DrawStainScan.f; rfl) ?_
  refine Tot.bind (scan_tot l hl 0 0 (by omega)) (fun b hb => ?_)
  obtain ⟨x, a, s⟩ := b
  obtain ⟨hx, h1, h2⟩ := hb
  simp only at hx h1 h2
  obtain ⟨v1, a1, s1, e1, -, -, l1, u1⟩ := pick_ok l hl a s (by omega) 16
  obtain ⟨v2, a2, s2, e2, -, -, l2, u2⟩ := pick_ok l hl a1 s1 (by omega) (wrap64 ((x.length : Int) + (wrap64 (Int.tdiv v1 15))))
  obtain ⟨v3, a3, s3, e3, -, -, l3, u3⟩ := pick_ok l hl a2 s2 (by omega) 24
  obtain ⟨v4, a4, s4, e4, -, -, l4, u4⟩ := pick_ok l hl a3 s3 (by omega) 9
  obtain ⟨v5, a5, s5, e5, -, -, l5, u5⟩ := pick_ok l hl a4 s4 (by omega) 24
  obtain ⟨v6, a6, s6, e6, l6, u6⟩ := among_ok l hl a5 s5 (by omega) [0, 11] (by simp)
  obtain ⟨v7, a7, s7, e7, l7, u7⟩ := among_ok l hl a6 s6 (by omega) [1, 2, 3, 10, v6] (by simp)
  refine Tot.now (x, wrap64 (v2 - wrap64 (Int.tdiv v3 23)), wrap64 (v4 - wrap64 (Int.tdiv v5 23)), v7) (fun k => ?_) hx
  simp only [e1, e2, e3, e4, e5, e6, e7, Option.bind_some]
theorem drawAgree_tot (l : List Int) (hl : Bytes l) : Tot (fun k => spec_DrawAgreeScans.f k l) (fun r => SmallScan r.1 ∧ SmallScan r.2) := by
  refine Tot.congr (fun k => by unfold spec_DrawAgreeScans.f; rfl) ?_
  exact Tot.bind (two_tot l hl) (fun b hb => Tot.now _ (fun _ => rfl) hb)
theorem drawMeet_tot (l : List Int) (hl : Bytes l) : Tot (fun k => spec_DrawMeetScans.f k l) (fun r => SmallScan r.1 ∧ SmallScan r.2) := by
  refine Tot.congr (fun k => by unfold spec_DrawMeetScans.f; rfl) ?_
  exact Tot.bind (drawAgree_tot l hl) (fun b hb => Tot.now _ (fun _ => rfl) hb)
theorem drawBest_tot (l : List Int) (hl : Bytes l) : Tot (fun k => spec_DrawBestSkew.f k l) (fun r => SmallScan r.1 ∧ SmallScan r.2) := by
  refine Tot.congr (fun k => by unfold spec_DrawBestSkew.f; rfl) ?_
  exact Tot.bind (drawAgree_tot l hl) (fun b hb => Tot.now _ (fun _ => rfl) ⟨hb.2, hb.1⟩)
theorem drawSkew_tot (l : List Int) (hl : Bytes l) : Tot (fun k => spec_DrawSkewScan.f k l) (fun r => SmallScan r.1) := by
  refine Tot.congr (fun k => by unfold spec_DrawSkewScan.f; rfl) ?_
  refine Tot.bind (scan_tot l hl 0 0 (by omega)) (fun b hb => ?_)
  obtain ⟨x, a, s⟩ := b
  obtain ⟨hx, h1, h2⟩ := hb
  simp only at hx h1 h2
  obtain ⟨v6, a6, s6, e6, l6, u6⟩ := among_ok l hl a s (by omega) [11, (-11)] (by simp)
  obtain ⟨v7, a7, s7, e7, l7, u7⟩ := among_ok l hl a6 s6 (by omega) [0, 1, (-1), 3, (-5), 10, (-10), v6] (by simp)
  refine Tot.now (x, v7) (fun k => ?_) hx
  simp only [e6, e7, Option.bind_some]

/-- scans by their places -/
def AtB (a b : Int) : Prop := a = b ∨ a = 63 ∨ b = 63
theorem rowFaults_zero (f h : Nat → Int) (l : List Nat) : rowFaults (l.map f) (l.map h) = 0 ↔ ∀ c ∈ l, AtB (f c) (h c) := by
  induction l with
  | nil => simp [rowFaults]
  | cons c l ih =>
    have hb := rowFaults_bounds (l.map f) (l.map h)
    rw [List.map_cons, List.map_cons, rowFaults, List.forall_mem_cons, ← ih]
    unfold AtB
    repeat' split
    all_goals (constructor <;> intro q <;> omega)
theorem faults_zero (g h : Nat → Nat → Int) (n : Nat) (l : List Nat) (hg : ∀ r c, r ∈ l → c < n → 0 ≤ g r c ∧ g r c ≤ 255) (hh : ∀ r c, r ∈ l → c < n → 0 ≤ h r c ∧ h r c ≤ 255) :
    0 ≤ faults (l.map fun r => dRow (g r) n) (l.map fun r => dRow (h r) n) ∧ (faults (l.map fun r => dRow (g r) n) (l.map fun r => dRow (h r) n) = 0 ↔ ∀ r ∈ l, ∀ c, c < n → AtB (g r c) (h r c)) := by
  induction l with
  | nil => simp [faults]
  | cons r l ih =>
    obtain ⟨i0, i1⟩ := ih (fun r c hr => hg r c (List.mem_cons_of_mem _ hr)) (fun r c hr => hh r c (List.mem_cons_of_mem _ hr))
    have hb := rowFaults_bounds (cs (dRow (g r) n)) (cs (dRow (h r) n))
    have hz := rowFaults_zero (g r) (h r) (List.range n)
    rw [← cs_dRow (g r) n (fun c hc => hg r c (by simp) hc), ← cs_dRow (h r) n (fun c hc => hh r c (by simp) hc)] at hz
    simp only [List.mem_range] at hz
    rw [List.map_cons, List.map_cons, faults, List.forall_mem_cons, ← i1, ← hz]
    refine ⟨by omega, ?_⟩
    constructor <;> intro q <;> omega
theorem cnt_le (f h : Nat → Int) (l : List Nat) (e : ∀ c ∈ l, f c = 63 → h c = 63) : cnt 63 (l.map f) ≤ cnt 63 (l.map h) := by
  induction l with
  | nil => simp [cnt]
  | cons c l ih =>
    have i := ih (fun x hx => e x (List.mem_cons_of_mem _ hx))
    have e0 := e c (by simp)
    rw [List.map_cons, List.map_cons, cnt_cons, cnt_cons]
    by_cases q : f c = 63
    · rw [if_pos q, if_pos (e0 q)]; omega
    · rw [if_neg q]
      split <;> omega
theorem total_le (g h : Nat → Nat → Int) (n : Nat) (l : List Nat) (hg : ∀ r c, r ∈ l → c < n → 0 ≤ g r c ∧ g r c ≤ 255) (hh : ∀ r c, r ∈ l → c < n → 0 ≤ h r c ∧ h r c ≤ 255)
    (e : ∀ r c, r ∈ l → c < n → g r c = 63 → h r c = 63) : total 63 (l.map fun r => dRow (g r) n) ≤ total 63 (l.map fun r => dRow (h r) n) := by
  induction l with
  | nil => simp [total]
  | cons r l ih =>
    have i := ih (fun r c hr => hg r c (List.mem_cons_of_mem _ hr)) (fun r c hr => hh r c (List.mem_cons_of_mem _ hr)) (fun r c hr => e r c (List.mem_cons_of_mem _ hr))
    have q := cnt_le (g r) (h r) (List.range n) (fun c hc => e r c (by simp) (List.mem_range.1 hc))
    rw [← cs_dRow (g r) n (fun c hc => hg r c (by simp) hc), ← cs_dRow (h r) n (fun c hc => hh r c (by simp) hc)] at q
    rw [List.map_cons, List.map_cons, total, total]
    omega
/-- a scan is what is read off its places -/
def plc (l : List ByteArray) (r c : Nat) : Int := bt (rdOf ByteArray.empty l (r : Int)) c
theorem same_texts (l : List ByteArray) (hl : l.length ≤ 1000) (d : Nat) : ∀ (i : Nat), i + d = l.length → ∀ k, d < k → laws_pSameTexts.l0 k l l l.length i = some true := by
  induction d with
  | zero =>
    intro i hi k hk
    obtain ⟨k, rfl⟩ : ∃ j, k = j + 1 := ⟨k - 1, by omega⟩
    rw [laws_pSameTexts.l0, if_neg (by omega)]
  | succ d ih =>
    intro i hi k hk
    obtain ⟨k, rfl⟩ : ∃ j, k = j + 1 := ⟨k - 1, by omega⟩
    rw [laws_pSameTexts.l0, if_pos (by omega), if_pos (by omega), if_pos (by omega), if_pos (by omega), if_pos rfl, w_next i (by omega)]
    exact ih (i + 1) (by omega) k (by omega)
theorem pSameTexts_self (l : List ByteArray) (hl : l.length ≤ 1000) (k : Nat) (hk : 1001 ≤ k) : laws_pSameTexts.f k l l = some true := by
  unfold laws_pSameTexts.f
  rw [if_pos rfl]
  exact same_texts l hl l.length 0 (by omega) k (by omega)

def skGood (l : List ByteArray) (p : Int) : Bool := Grid chS 1 60 20 l && decide (-10 ≤ p ∧ p ≤ 10)
def skOut (l : List ByteArray) (p : Int) : List ByteArray × Bool := if skGood l p = true then (dRows (skG l p) l.length (wid l), true) else ([], false)
theorem sk_both (l : List ByteArray) (p : Int) (b1 : l.length ≤ 1048576) (b2 : ∀ s ∈ l, s.size ≤ 1048576) (k : Nat) (hk : fuelR l + 20000 ≤ k) :
    spec_SkewScan.f k l p = some (skOut l p) ∧ impl_SkewScan.f k l p = some (skOut l p) := by
  unfold spec_SkewScan.f impl_SkewScan.f skOut skGood
  rw [scGood_eq l b1 b2 k (by omega), isScan_eq l b1 b2 k (by omega)]
  simp only [Option.bind_some]
  cases hg : Grid chS 1 60 20 l with
  | false =>
    simp only [Bool.false_and, Bool.false_eq_true, if_false]
    exact ⟨trivial, trivial⟩
  | true =>
    simp only [if_true, Bool.true_and, decide_eq_true_eq]
    rw [in_eq]
    simp only [Option.bind_some, decide_eq_true_eq]
    by_cases c1 : -10 ≤ p ∧ p ≤ 10
    · obtain ⟨e1, e2⟩ := skBoth l p c1 hg k (by omega)
      rw [if_pos c1, if_pos c1, if_neg (show ¬ p < -10 by omega), if_neg (show ¬ p > 10 by omega), e1, e2]
      exact ⟨rfl, rfl⟩
    · rw [if_neg c1, if_neg c1]
      refine ⟨rfl, ?_⟩
      by_cases h : p < -10
      · rw [if_pos h]
      · rw [if_neg h, if_pos (by omega)]

theorem bytes_range (s : ByteArray) : (List.range s.size).map (fun c : Nat => bt s (c : Int)) = bytesOf s := by
  apply List.ext_getElem
  · simp [bytesOf_length]
  · intro i h1 h2
    have hi : i < s.size := by simpa using h1
    rw [List.getElem_map, List.getElem_range]
    exact bt_get s i hi
theorem str_bytes (s : ByteArray) : strOfNums (bytesOf s) = s := by
  apply ByteArray.ext
  apply Array.ext'
  unfold strOfNums bytesOf
  simp only [List.map_map]
  have h : s.data.toList.map ((fun n : Int => n.toNat.toUInt8) ∘ fun b : UInt8 => ((b.toNat : Nat) : Int)) = s.data.toList.map id := by
    apply List.map_congr_left
    intro b _
    simp
  rw [List.map_id] at h
  simpa using h
theorem dRow_self (s : ByteArray) (n : Nat) (h : s.size = n) (f : Nat → Int) (hf : ∀ c, c < n → f c = bt s (c : Int)) : dRow f n = s := by
  rw [dRow_congr f (fun c : Nat => bt s (c : Int)) n hf]
  unfold dRow
  rw [← h, bytes_range, str_bytes]

theorem drawn_small (g : Nat → Nat → Int) (R n : Nat) (hR : R ≤ 100) (hn : n ≤ 1000) : SmallScan (dRows g R n) := by
  refine ⟨by rw [dRows_length]; exact hR, fun s hs => ?_⟩
  unfold dRows at hs
  obtain ⟨r, _, rfl⟩ := List.mem_map.1 hs
  rw [dRow_size]
  exact hn
theorem small_big {l : List ByteArray} (h : SmallScan l) : l.length ≤ 1048576 ∧ ∀ s ∈ l, s.size ≤ 1048576 := ⟨by have := h.1; omega, fun s hs => by have := h.2 s hs; omega⟩
theorem skOut_small (l : List ByteArray) (p : Int) : SmallScan (skOut l p).1 := by
  unfold skOut
  split
  · rename_i h
    unfold skGood at h
    rw [Bool.and_eq_true] at h
    obtain ⟨g1, g2, g3, g4, _⟩ := grid_facts h.1
    exact drawn_small _ _ _ (by omega) (by omega)
  · exact ⟨by simp, fun s hs => by simp at hs⟩
theorem sk_zero (a : List ByteArray) (n : Nat) (hs : ∀ s ∈ a, s.size = n) : dRows (skG a 0) a.length n = a := by
  apply List.ext_getElem
  · rw [dRows_length]
  · intro i h1 h2
    have e : (dRows (skG a 0) a.length n)[i] = dRow (skG a 0 i) n := by simp [dRows]
    rw [e]
    refine dRow_self _ n (hs _ (List.getElem_mem h2)) _ (fun c hc => ?_)
    have hf : skFrom 0 i c = (i : Int) := by unfold skFrom; rw [Int.mul_zero]; omega
    unfold skG
    rw [hf, if_pos (by omega), rdB_get a i h2]
theorem law_j5 (l : List Int) (hl : Bytes l) : Tot (fun k => laws_FnStains.j5 k l) (fun r => r = true) := by
  refine Tot.step (fun k => by rw [laws_FnStains.j5]) ?_
  refine Tot.bind (drawSkew_tot l hl) (fun b hb => ?_)
  obtain ⟨x, p⟩ := b
  have hx : SmallScan x := hb
  obtain ⟨b1, b2⟩ := small_big hx
  have hfu := small_fuel hx
  have hso := skOut_small x p
  have hboth : ∀ k, 300000 ≤ k → spec_SkewScan.f k x p = some (skOut x p) ∧ impl_SkewScan.f k x p = some (skOut x p) := fun k hk => sk_both x p b1 b2 k (by omega)
  refine Tot.bind (Q := fun r => r = skOut x p) (Tot.ge _ 300000 (fun k hk => (hboth k hk).2) rfl) (fun r hr => ?_)
  refine Tot.bind (Q := fun r => r = skOut x p) (Tot.ge _ 300000 (fun k hk => (hboth k hk).1) rfl) (fun q hq => ?_)
  subst hr hq
  have hle := hso.1
  refine Tot.ge true 300000 (fun k hk => ?_) rfl
  simp only [beq_self_eq_true, if_true]
  rw [pSameTexts_self _ (by omega) k (by omega)]
  simp only [Option.bind_some, if_true]
  by_cases h1 : (skOut x p).2 = true
  · rw [if_pos h1]
    by_cases h0 : p = 0
    · rw [if_pos h0]
      have e : (skOut x p).1 = x := by
        unfold skOut at h1 ⊢
        by_cases hg : skGood x p = true
        · rw [if_pos hg, h0]
          unfold skGood at hg
          rw [Bool.and_eq_true] at hg
          obtain ⟨_, _, _, _, g5⟩ := grid_facts hg.1
          exact sk_zero x (wid x) (fun s hs => (g5 s hs).1)
        · rw [if_neg hg] at h1; exact absurd h1 (by decide)
      rw [e, pSameTexts_self x (by have := hx.1; omega) k (by omega)]
      rfl
    · rw [if_neg h0]
  · rw [if_neg h1]

theorem specAgree_eq (a b : List ByteArray) (ha : a.length ≤ 1048576) (hsa : ∀ s ∈ a, s.size ≤ 1048576) (hb : b.length ≤ 1048576) (hsb : ∀ s ∈ b, s.size ≤ 1048576) (k : Nat) (hk : fuelR a < k ∧ fuelR b < k) :
    spec_AgreeScans.f k a b = some (if Two a b then (faults a b == 0, true) else (false, false)) := by
  unfold spec_AgreeScans.f
  rw [specTwo_eq a b ha hsa hb hsb k hk]
  simp only [Option.bind_some]
  by_cases h : Two a b = true
  · obtain ⟨h1, h2, h3⟩ := two_sizes h
    rw [if_pos h, if_pos h, specFaults_eq a b (by omega) h2 (fun i hi => ⟨by have := (h3 i hi).1; omega, (h3 i hi).2⟩) k (by omega)]
    rfl
  · rw [if_neg h, if_neg h]
theorem implAgree_eq (a b : List ByteArray) (ha : a.length ≤ 1048576) (hsa : ∀ s ∈ a, s.size ≤ 1048576) (hb : b.length ≤ 1048576) (hsb : ∀ s ∈ b, s.size ≤ 1048576) (k : Nat) (hk : fuelR a < k ∧ fuelR b < k) :
    impl_AgreeScans.f k a b = some (if Two a b then (faults a b == 0, true) else (false, false)) := by
  unfold impl_AgreeScans.f
  rw [sameSize_eq a b ha hsa hb hsb k hk]
  simp only [Option.bind_some]
  by_cases h : Two a b = true
  · obtain ⟨h1, h2, h3⟩ := two_sizes h
    rw [if_pos h, if_pos h, implFaults_eq a b (by omega) h2 (fun i hi => ⟨by have := (h3 i hi).1; omega, (h3 i hi).2⟩) k (by omega)]
    rfl
  · rw [if_neg h, if_neg h]

/-- the faults behind a skew -/
def bsE (a b : List ByteArray) (p : Int) : Int := faults (dRows (skG a p) a.length (wid a)) b
theorem dRows_get (g : Nat → Nat → Int) (R n i : Nat) (h : i < (dRows g R n).length) : (dRows g R n)[i] = dRow (g i) n := by
  simp [dRows]
theorem skew_zero (a : List ByteArray) (n : Nat) (hs : ∀ s ∈ a, s.size = n) : dRows (skG a 0) a.length n = a := by
  apply List.ext_getElem
  · rw [dRows_length]
  · intro i h1 h2
    rw [dRows_get]
    refine dRow_self _ n (hs _ (List.getElem_mem h2)) _ (fun c hc => ?_)
    have hf : skFrom 0 i c = (i : Int) := by unfold skFrom; rw [Int.mul_zero]; omega
    unfold skG
    rw [hf, if_pos (by omega), rdB_get a i h2]
theorem bs_sizes (a b : List ByteArray) (p : Int) (ha : a.length ≤ 60) (hw : wid a ≤ 20) (hab : b.length = a.length) (hb : ∀ s ∈ b, s.size = wid a) :
    ∀ i (h : i < (dRows (skG a p) a.length (wid a)).length), (dRows (skG a p) a.length (wid a))[i].size ≤ 1000 ∧ (b[i]'(by rw [dRows_length] at h; omega)).size = (dRows (skG a p) a.length (wid a))[i].size := by
  intro i h
  have h' := h
  rw [dRows_length] at h'
  rw [dRows_get, dRow_size]
  exact ⟨by omega, hb _ (List.getElem_mem _)⟩
theorem fuelR_drawn (g : Nat → Nat → Int) (R n : Nat) (hR : R ≤ 60) (hn : n ≤ 20) : fuelR (dRows g R n) ≤ 2000 := by
  have h := fuelR_bound (dRows g R n) n (by
    intro s hs
    unfold dRows at hs
    obtain ⟨r, _, rfl⟩ := List.mem_map.1 hs
    rw [dRow_size]; exact Nat.le_refl _)
  rw [dRows_length] at h
  have : R * (n + 2) ≤ 60 * 22 := Nat.mul_le_mul hR (by omega)
  omega
theorem bs_loss (a b : List ByteArray) (ga : Grid chS 1 60 20 a = true) (hab : b.length = a.length) (hb : ∀ s ∈ b, s.size = wid a) (p : Int) (hp : -10 ≤ p ∧ p ≤ 10) (k : Nat) (hk : 20000 ≤ k) :
    ((spec_scSkew.f k a p).bind fun t => spec_scApart.f k t b) = some (bsE a b p) ∧ impl_BestSkew_1.f k p a b = some (bsE a b p) := by
  obtain ⟨g1, g2, g3, g4, g5⟩ := grid_facts ga
  obtain ⟨e1, e2⟩ := skBoth a p hp ga k hk
  have hf := fuelR_drawn (skG a p) a.length (wid a) g2 g4
  have hs := bs_sizes a b p g2 g4 hab hb
  have hl := dRows_length (skG a p) a.length (wid a)
  unfold impl_BestSkew_1.f bsE
  rw [e1, e2]
  simp only [Option.bind_some]
  refine ⟨specFaults_eq _ b (by omega) (by omega) hs k (by omega), ?_⟩
  rw [implFaults_eq _ b (by omega) (by omega) hs k (by omega)]
  rfl
/-- one step of the search -/
def bsStep (E : Int → Int) (s : Int × Int) (p : Int) : Int × Int := if E p < s.2 then (p, E p) else s
def bsRun (E : Int → Int) : Nat → Int → Int × Int → Int × Int
  | 0, _, s => s
  | n + 1, d, s => bsRun E n (d + 1) (bsStep E (bsStep E s (-d)) d)
theorem rd_two0 (x y : Int) : rd [x, y] 0 = x := rfl
theorem rd_two1 (x y : Int) : rd [x, y] 1 = y := rfl
theorem w01 : wrap64 ((0 : Int) + 1) = 1 := by rw [w64 (by omega)]; rfl
theorem w12 : wrap64 ((1 : Int) + 1) = 2 := by rw [w64 (by omega)]; rfl
theorem spec_l1_eq (a b : List ByteArray) (E : Int → Int) (d : Int) (hd : 1 ≤ d ∧ d ≤ 10) (k : Nat) (hE : ∀ p, -10 ≤ p ∧ p ≤ 10 → ∀ j, k ≤ j → ((spec_scSkew.f j a p).bind fun t => spec_scApart.f j t b) = some (E p)) (s : Int × Int) :
    spec_BestSkew.l1 (k + 3) a b s.1 s.2 d [-d, d] 2 0 = spec_BestSkew.l0 k a b (bsStep E (bsStep E s (-d)) d).1 (bsStep E (bsStep E s (-d)) d).2 (d + 1) := by
  have st : ∀ (k' : Nat) (hk' : k ≤ k') (i : Int) (hi : 0 ≤ i ∧ i < 2) (p : Int) (hp : rd [-d, d] i = p) (hb : -10 ≤ p ∧ p ≤ 10) (s : Int × Int),
      spec_BestSkew.l1 (k' + 1) a b s.1 s.2 d [-d, d] 2 i = spec_BestSkew.l1 k' a b (bsStep E s p).1 (bsStep E s p).2 d [-d, d] 2 (wrap64 (i + 1)) := by
    intro k' hk' i hi p hp hb s
    have e := hE p hb k' hk'
    rw [spec_BestSkew.l1, if_pos hi.2, if_pos hi.1, if_pos (by simpa using hi.2), hp]
    obtain ⟨t, ht, e'⟩ := Option.bind_eq_some_iff.1 e
    rw [ht]
    simp only [Option.bind_some]
    rw [e']
    simp only [Option.bind_some]
    unfold bsStep
    by_cases h : E p < s.2
    · rw [if_pos h, if_pos h]
    · rw [if_neg h, if_neg h]
  rw [st (k + 2) (by omega) 0 (by omega) (-d) rfl (by omega) s, w01, st (k + 1) (by omega) 1 (by omega) d rfl (by omega), w12]
  have w : wrap64 (d + 1) = d + 1 := w64 (by omega)
  rw [spec_BestSkew.l1, if_neg (by omega), w]
theorem spec_l0_eq (a b : List ByteArray) (E : Int → Int) (K : Nat) (hE : ∀ p, -10 ≤ p ∧ p ≤ 10 → ∀ j, K ≤ j → ((spec_scSkew.f j a p).bind fun t => spec_scApart.f j t b) = some (E p)) (n : Nat) :
    ∀ (k : Nat) (d : Int) (s : Int × Int), d + n = 11 → 1 ≤ d → K + 4 * n < k → spec_BestSkew.l0 k a b s.1 s.2 d = some ((bsRun E n d s).1, (bsRun E n d s).2, true) := by
  induction n with
  | zero =>
    intro k d s hd h1 hk
    obtain ⟨k, rfl⟩ : ∃ j, k = j + 1 := ⟨k - 1, by omega⟩
    rw [spec_BestSkew.l0, if_neg (by omega)]
    rfl
  | succ n ih =>
    intro k d s hd h1 hk
    obtain ⟨k, rfl⟩ : ∃ j, k = j + 3 + 1 := ⟨k - 4, by omega⟩
    have e := spec_l1_eq a b E d (by omega) k (fun p hp j hj => hE p hp j (by omega)) s
    have e2 := ih k (d + 1) (bsStep E (bsStep E s (-d)) d) (by omega) (by omega) (by omega)
    have w : wrap64 (-d) = -d := w64 (by omega)
    rw [spec_BestSkew.l0, if_pos (by omega), w]
    simp only [Option.bind_some]
    show spec_BestSkew.l1 (k + 3) a b s.1 s.2 d [-d, d] 2 0 = _
    rw [e, e2]
    rfl
theorem impl_l1_eq (F : Int → Option Int) (E : Int → Int) (x0 d : Int) (hd : 1 ≤ d ∧ d ≤ 10) (hE : ∀ p, -10 ≤ p ∧ p ≤ 10 → F p = some (E p)) (k : Nat) (s : Int × Int) :
    impl_bestBy.l1 F (k + 3) x0 s.1 s.2 d [-d, d] 2 0 = impl_bestBy.l0 F k x0 (bsStep E (bsStep E s (-d)) d).1 (bsStep E (bsStep E s (-d)) d).2 (d + 1) := by
  have st : ∀ (k' : Nat) (i : Int) (hi : 0 ≤ i ∧ i < 2) (p : Int) (hp : rd [-d, d] i = p) (hb : -10 ≤ p ∧ p ≤ 10) (s : Int × Int),
      impl_bestBy.l1 F (k' + 1) x0 s.1 s.2 d [-d, d] 2 i = impl_bestBy.l1 F k' x0 (bsStep E s p).1 (bsStep E s p).2 d [-d, d] 2 (wrap64 (i + 1)) := by
    intro k' i hi p hp hb s
    rw [impl_bestBy.l1, if_pos hi.2, if_pos hi.1, if_pos (by simpa using hi.2), hp, hE p hb]
    simp only [Option.bind_some]
    unfold bsStep
    by_cases h : E p < s.2
    · rw [if_pos h, if_pos h]
    · rw [if_neg h, if_neg h]
  rw [st (k + 2) 0 (by omega) (-d) rfl (by omega) s, w01, st (k + 1) 1 (by omega) d rfl (by omega), w12]
  have w : wrap64 (d + 1) = d + 1 := w64 (by omega)
  rw [impl_bestBy.l1, if_neg (by omega), w]
theorem impl_l0_eq (F : Int → Option Int) (E : Int → Int) (hE : ∀ p, -10 ≤ p ∧ p ≤ 10 → F p = some (E p)) (n : Nat) :
    ∀ (k : Nat) (d : Int) (s : Int × Int), d + n = 11 → 1 ≤ d → 4 * n < k → impl_bestBy.l0 F k 10 s.1 s.2 d = some (bsRun E n d s) := by
  induction n with
  | zero =>
    intro k d s hd h1 hk
    obtain ⟨k, rfl⟩ : ∃ j, k = j + 1 := ⟨k - 1, by omega⟩
    rw [impl_bestBy.l0, if_neg (by omega)]
    rfl
  | succ n ih =>
    intro k d s hd h1 hk
    obtain ⟨k, rfl⟩ : ∃ j, k = j + 3 + 1 := ⟨k - 4, by omega⟩
    have e := impl_l1_eq F E 10 d (by omega) hE k s
    have e2 := ih k (d + 1) (bsStep E (bsStep E s (-d)) d) (by omega) (by omega) (by omega)
    have w : wrap64 (-d) = -d := w64 (by omega)
    rw [impl_bestBy.l0, if_pos (by omega), w]
    simp only [Option.bind_some]
    show impl_bestBy.l1 F (k + 3) 10 s.1 s.2 d [-d, d] 2 0 = _
    rw [e, e2]
    rfl
def bsOut (a b : List ByteArray) : Int × Int × Bool := if Two a b = true then ((bsRun (bsE a b) 10 1 (0, bsE a b 0)).1, (bsRun (bsE a b) 10 1 (0, bsE a b 0)).2, true) else (0, 0, false)
theorem bs_both (a b : List ByteArray) (ha : a.length ≤ 1048576) (hsa : ∀ s ∈ a, s.size ≤ 1048576) (hb : b.length ≤ 1048576) (hsb : ∀ s ∈ b, s.size ≤ 1048576) (k : Nat) (hk : fuelR a + fuelR b + 30000 ≤ k) :
    spec_BestSkew.f k a b = some (bsOut a b) ∧ impl_BestSkew.f k a b = some (bsOut a b) := by
  unfold spec_BestSkew.f impl_BestSkew.f bsOut
  rw [specTwo_eq a b ha hsa hb hsb k (by omega), sameSize_eq a b ha hsa hb hsb k (by omega)]
  simp only [Option.bind_some]
  cases ht : Two a b with
  | false =>
    simp only [Bool.false_eq_true, if_false]
    exact ⟨trivial, trivial⟩
  | true =>
    obtain ⟨ga, gb, hab, hw⟩ := two_facts ht
    obtain ⟨g1, g2, g3, g4, g5⟩ := grid_facts ga
    obtain ⟨q1, q2, q3, q4, q5⟩ := grid_facts gb
    have hss : ∀ i (h : i < a.length), a[i].size ≤ 1000 ∧ (b[i]'(by omega)).size = a[i].size := by
      intro i h
      have h1 := (g5 _ (List.getElem_mem h)).1
      have h2 := (q5 _ (List.getElem_mem (show i < b.length by omega))).1
      exact ⟨by omega, by omega⟩
    have hbw : ∀ s ∈ b, s.size = wid a := fun s hs => by have := (q5 s hs).1; omega
    have hL := fun p hp k hk => bs_loss a b ga (by omega) hbw p hp k hk
    have h0 : faults a b = bsE a b 0 := by unfold bsE; rw [skew_zero a (wid a) (fun s hs => (g5 s hs).1)]
    simp only [if_true]
    rw [specFaults_eq a b (by omega) (by omega) hss k (by omega), h0]
    simp only [Option.bind_some]
    refine ⟨?_, ?_⟩
    · exact spec_l0_eq a b (bsE a b) 20000 (fun p hp j hj => (hL p hp j hj).1) 10 k 1 (0, bsE a b 0) (by omega) (by omega) (by omega)
    · unfold impl_bestByW.f impl_bestBy.f
      have hF : ∀ p, -10 ≤ p ∧ p ≤ 10 → (fun a0_ => impl_BestSkew_1.f k a0_ a b) p = some (bsE a b p) := fun p hp => (hL p hp k (by omega)).2
      have e := impl_l0_eq _ _ hF 10 k 1 (0, bsE a b 0) (by omega) (by omega) (by omega)
      rw [hF 0 (by omega)]
      simp only [Option.bind_some]
      have e' : impl_bestBy.l0 (fun a0_ => impl_BestSkew_1.f k a0_ a b) k 10 0 (bsE a b 0) 1 = some (bsRun (bsE a b) 10 1 (0, bsE a b 0)) := e
      rw [e']
      rfl

theorem bsStep_inv (E : Int → Int) (s : Int × Int) (p : Int) (hp : -10 ≤ p ∧ p ≤ 10) (h : (-10 ≤ s.1 ∧ s.1 ≤ 10) ∧ s.2 = E s.1) : (-10 ≤ (bsStep E s p).1 ∧ (bsStep E s p).1 ≤ 10) ∧ (bsStep E s p).2 = E (bsStep E s p).1 := by
  unfold bsStep
  split
  · exact ⟨hp, rfl⟩
  · exact h
theorem bsRun_inv (E : Int → Int) (n : Nat) : ∀ (d : Int) (s : Int × Int), 1 ≤ d → d + n ≤ 11 → (-10 ≤ s.1 ∧ s.1 ≤ 10) ∧ s.2 = E s.1 → (-10 ≤ (bsRun E n d s).1 ∧ (bsRun E n d s).1 ≤ 10) ∧ (bsRun E n d s).2 = E (bsRun E n d s).1 := by
  induction n with
  | zero => intro d s _ _ h; exact h
  | succ n ih =>
    intro d s h1 h2 h
    rw [bsRun]
    exact ih (d + 1) _ (by omega) (by omega) (bsStep_inv E _ _ (by omega) (bsStep_inv E _ _ (by omega) h))
theorem two_drawn (a b : List ByteArray) (h : Two a b = true) (g : Nat → Nat → Int) (hg : Grid chS 1 60 20 (dRows g a.length (wid a)) = true) : Two (dRows g a.length (wid a)) b = true := by
  obtain ⟨ga, gb, e1, e2⟩ := two_facts h
  obtain ⟨g1, g2, g3, g4, g5⟩ := grid_facts ga
  unfold Two
  rw [hg, gb, dRows_length, wid_dRows g _ _ g1]
  simp only [Bool.true_and, Bool.and_eq_true, decide_eq_true_eq, beq_iff_eq]
  first | exact ⟨e1, e2⟩ | (constructor <;> omega)
theorem law_j4 (l : List Int) (hl : Bytes l) (a b : List ByteArray) (ha : SmallScan a) (hb : SmallScan b) (ok : Bool) (p n : Int) (h : ok = true → Two a b = true ∧ (-10 ≤ p ∧ p ≤ 10) ∧ n = bsE a b p) :
    Tot (fun k => laws_FnStains.j4 k l a b ok p n false) (fun r => r = true) := by
  cases ok with
  | false => exact Tot.step (h := fun k => laws_FnStains.j5 k l) (fun k => by rw [laws_FnStains.j4, if_neg (by decide), if_neg (by decide)]) (law_j5 l hl)
  | true =>
    obtain ⟨h2, hp, hn⟩ := h rfl
    obtain ⟨ga, gb, e1, e2⟩ := two_facts h2
    obtain ⟨b1, b2⟩ := small_big ha
    obtain ⟨c1, c2⟩ := small_big hb
    have hfu := small_fuel ha
    have hfb := small_fuel hb
    have hgood : skGood a p = true := by unfold skGood; rw [ga, Bool.true_and, decide_eq_true_eq]; exact hp
    have hout : skOut a p = (dRows (skG a p) a.length (wid a), true) := by unfold skOut; rw [if_pos hgood]
    have hgs := sk_grid a p ga
    have hsm := grid_small hgs
    obtain ⟨d1, d2⟩ := small_big hsm
    have hfd := small_fuel hsm
    have ht := two_drawn a b h2 (skG a p) hgs
    obtain ⟨r, hr, K, hK⟩ := law_j5 l hl
    subst hr
    refine Tot.ge true (K + 300001) (fun k hk => ?_) rfl
    obtain ⟨k, rfl⟩ : ∃ j, k = j + 1 := ⟨k - 1, by omega⟩
    show laws_FnStains.j4 (k + 1) l a b true p n false = some true
    rw [laws_FnStains.j4, if_neg (by decide), if_pos rfl, (sk_both a p b1 b2 k (by omega)).2]
    simp only [Option.bind_some]
    rw [hout]
    dsimp only
    rw [implAgree_eq _ b d1 d2 c1 c2 k (by omega), if_pos ht]
    simp only [Option.bind_some, if_true]
    have e : faults (dRows (skG a p) a.length (wid a)) b = n := by rw [hn]; rfl
    rw [e, if_neg (by simp)]
    exact hK k (by omega)
theorem law_j3 (l : List Int) (hl : Bytes l) : Tot (fun k => laws_FnStains.j3 k l) (fun r => r = true) := by
  refine Tot.step (fun k => by rw [laws_FnStains.j3]) ?_
  refine Tot.bind (drawBest_tot l hl) (fun q hq => ?_)
  obtain ⟨a, b⟩ := q
  obtain ⟨ha, hb⟩ : SmallScan a ∧ SmallScan b := hq
  obtain ⟨b1, b2⟩ := small_big ha
  obtain ⟨c1, c2⟩ := small_big hb
  have hfu := small_fuel ha
  have hfb := small_fuel hb
  have hboth : ∀ k, 500000 ≤ k → spec_BestSkew.f k a b = some (bsOut a b) ∧ impl_BestSkew.f k a b = some (bsOut a b) := fun k hk => bs_both a b b1 b2 c1 c2 k (by omega)
  refine Tot.bind (Q := fun r => r = bsOut a b) (Tot.ge _ 500000 (fun k hk => (hboth k hk).2) rfl) (fun r hr => ?_)
  refine Tot.bind (Q := fun r => r = bsOut a b) (Tot.ge _ 500000 (fun k hk => (hboth k hk).1) rfl) (fun q hq => ?_)
  subst hr hq
  refine Tot.congr (fun k => by rw [if_neg (by simp), if_pos rfl, if_pos rfl]) ?_
  have hinv := bsRun_inv (bsE a b) 10 1 (0, bsE a b 0) (by omega) (by omega) ⟨by simp, rfl⟩
  by_cases h2 : Two a b = true
  · have hout : bsOut a b = ((bsRun (bsE a b) 10 1 (0, bsE a b 0)).1, (bsRun (bsE a b) 10 1 (0, bsE a b 0)).2, true) := by unfold bsOut; rw [if_pos h2]
    rw [hout]
    generalize bsRun (bsE a b) 10 1 (0, bsE a b 0) = s at hinv
    obtain ⟨i1, i2⟩ := hinv
    have hnn : 0 ≤ s.2 := by
      rw [i2]
      unfold bsE
      exact (faults_bounds _ b 1000 (drawn_small _ _ _ ha.1 (by
        obtain ⟨_, _, _, g4, _⟩ := grid_facts (two_facts h2).1
        omega)).2).1
    refine Tot.congr (h := fun k => laws_FnStains.j4 k l a b true s.1 s.2 false) (fun k => ?_) (law_j4 l hl a b ha hb true s.1 s.2 (fun _ => ⟨h2, i1, i2⟩))
    dsimp only
    rw [if_pos rfl, if_neg (by omega), if_neg (by omega), decide_eq_false (by omega)]
  · have hout : bsOut a b = (0, 0, false) := by unfold bsOut; rw [if_neg h2]
    rw [hout]
    exact Tot.congr (h := fun k => laws_FnStains.j4 k l a b false 0 0 false) (fun k => by rw [if_neg (by decide)]) (law_j4 l hl a b ha hb false 0 0 (fun h => by cases h))

/-- what is drawn at a place -/
def mtG (a b : List ByteArray) (r c : Nat) : Int :=
  if bt (rdOf ByteArray.empty a (r : Int)) c = 63 then bt (rdOf ByteArray.empty b (r : Int)) c else bt (rdOf ByteArray.empty a (r : Int)) c
theorem mtG_a (a b : List ByteArray) (r c : Nat) (h : bt (rdOf ByteArray.empty a (r : Int)) c = 63) : mtG a b r c = bt (rdOf ByteArray.empty b (r : Int)) c := by
  unfold mtG; rw [if_pos h]
theorem mtG_b (a b : List ByteArray) (r c : Nat) (h : ¬ bt (rdOf ByteArray.empty a (r : Int)) c = 63) : mtG a b r c = bt (rdOf ByteArray.empty a (r : Int)) c := by
  unfold mtG; rw [if_neg h]
theorem mtClosure_eq (a b : List ByteArray) (n : Nat) (r c : Nat) (ha : r < a.length) (hb : r < b.length) (sa : (rdOf ByteArray.empty a (r : Int)).size = n) (sb : (rdOf ByteArray.empty b (r : Int)).size = n) (hc : c < n) :
    impl_MeetScans_1.f (r : Int) (c : Int) a b = some (mtG a b r c) := by
  have h0 : (0 : Int) ≤ (r : Int) := by omega
  have h1 : (r : Int) < (a.length : Int) := by omega
  have h2 : (r : Int) < (b.length : Int) := by omega
  have h3 : (0 : Int) ≤ (c : Int) := by omega
  have h4 : (c : Int) < (n : Int) := by omega
  unfold impl_MeetScans_1.f mtG
  rw [if_pos h0, if_pos h1, if_pos h3, sa, if_pos h4]
  by_cases h : bt (rdOf ByteArray.empty a (r : Int)) c = 63
  · rw [if_pos h, if_pos h2, sb, if_pos h4, if_pos h]
  · rw [if_neg h, if_neg h]
theorem mtRow (a b : List ByteArray) (n : Nat) (hn : n ≤ 1000) (hl : a.length ≤ 1000) (r : Nat) (s u : ByteArray) (hsr : rdOf ByteArray.empty a (r : Int) = s) (hur : rdOf ByteArray.empty b (r : Int) = u) (hz : s.size = n) (hu : u.size = n) (hr : r < a.length) (hrb : r < b.length) (acc : List ByteArray) (hacc : acc.length ≤ 1000) (d : Nat) :
    ∀ (k c : Nat), c + d = n → d < k → spec_MeetScans.l1 k b acc r s (dRow (mtG a b r) c) c a a.length r
      = spec_MeetScans.l0 (k - d - 1) b (acc ++ [dRow (mtG a b r) n]) a a.length ((r + 1 : Nat) : Int) := by
  induction d with
  | zero =>
    intro k c hc hk
    obtain ⟨k, rfl⟩ : ∃ j, k = j + 1 := ⟨k - 1, by omega⟩
    rw [spec_MeetScans.l1, if_neg (by omega), if_pos (by omega), w64 (by omega), show c = n by omega]
    rfl
  | succ d ih =>
    intro k c hc hk
    obtain ⟨k, rfl⟩ : ∃ j, k = j + 1 := ⟨k - 1, by omega⟩
    have e := ih k (c + 1) (by omega) (by omega)
    rw [dRow_succ] at e
    have h0 : (0 : Int) ≤ (c : Int) := by omega
    have h1' : (c : Int) ≤ ((c + 1 : Nat) : Int) := by omega
    have h2' : ((c + 1 : Nat) : Int) ≤ (n : Int) := by omega
    have h3' : c + 1 ≤ 9223372036854775807 := by omega
    have h4' : (0 : Int) ≤ (r : Int) := by omega
    have h5' : (r : Int) < (b.length : Int) := by omega
    have hk' : k + 1 - (d + 1) - 1 = k - d - 1 := by omega
    have hlt : (c : Int) < (n : Int) := by omega
    have hcs : c < s.size := by omega
    have hcu : c < u.size := by omega
    have hc1 : c ≤ 1000 := by omega
    have hx : s.extract c (c + 1) = strOfNums [bt s c] := extract_one _ c hcs
    have hxu : u.extract c (c + 1) = strOfNums [bt u c] := extract_one _ c hcu
    have ec := w_succ c (Nat.le_trans hc1 (by decide))
    rw [hk', ← e, spec_MeetScans.l1, hz, if_pos hlt, if_pos h0, ec, Int.toNat_natCast, Int.toNat_natCast, hur, hx, hxu]
    by_cases hA : bt s c = 63
    · have hA' : bt (rdOf ByteArray.empty a (r : Int)) c = 63 := by rw [hsr]; exact hA
      rw [if_pos hA, if_pos h4', if_pos h5', if_pos h1', hu, if_pos h2', dRow_size, str1_size, if_pos h3', mtG_a a b r c hA', hur]
    · have hA' : ¬ bt (rdOf ByteArray.empty a (r : Int)) c = 63 := by rw [hsr]; exact hA
      rw [if_neg hA, if_pos h1', if_pos h2', dRow_size, str1_size, if_pos h3', mtG_b a b r c hA', hsr]
theorem mtRows (a b : List ByteArray) (hl : a.length ≤ 1000) (hab : b.length = a.length) (n : Nat) (hn : n ≤ 1000) (hs : ∀ s ∈ a, s.size = n) (hsb : ∀ s ∈ b, s.size = n) (d : Nat) :
    ∀ (k r : Nat), r + d = a.length → d * (n + 2) < k → spec_MeetScans.l0 k b (dRows (mtG a b) r n) a a.length r = some (dRows (mtG a b) a.length n, true) := by
  induction d with
  | zero =>
    intro k r hr hk
    obtain ⟨k, rfl⟩ : ∃ j, k = j + 1 := ⟨k - 1, by omega⟩
    rw [spec_MeetScans.l0, if_neg (by omega), show r = a.length by omega]
  | succ d ih =>
    intro k r hr hk
    obtain ⟨k, rfl⟩ : ∃ j, k = j + 1 := ⟨k - 1, by omega⟩
    rw [Nat.succ_mul] at hk
    rw [spec_MeetScans.l0, if_pos (by omega), if_pos (by omega), if_pos (by omega)]
    have e := mtRow a b n hn hl r _ _ rfl rfl (by rw [rdB_get a r (by omega)]; exact hs _ (List.getElem_mem _)) (by rw [rdB_get b r (by omega)]; exact hsb _ (List.getElem_mem _)) (by omega) (by omega) (dRows (mtG a b) r n) (by rw [dRows_length]; omega) n k 0 (by omega) (by omega)
    rw [dRow_zero, show ((0 : Nat) : Int) = 0 from rfl] at e
    rw [e, ← dRows_succ]
    exact ih (k - n - 1) (r + 1) (by omega) (by omega)
def mtGood (a b : List ByteArray) : Bool := Two a b && decide (¬ 0 < faults a b)
def mtOut (a b : List ByteArray) : List ByteArray × Bool := if mtGood a b = true then (dRows (mtG a b) a.length (wid a), true) else ([], false)
theorem mt_both (a b : List ByteArray) (ha : a.length ≤ 1048576) (hsa : ∀ s ∈ a, s.size ≤ 1048576) (hb : b.length ≤ 1048576) (hsb : ∀ s ∈ b, s.size ≤ 1048576) (k : Nat) (hk : fuelR a + fuelR b + 20000 ≤ k) :
    spec_MeetScans.f k a b = some (mtOut a b) ∧ impl_MeetScans.f k a b = some (mtOut a b) := by
  unfold spec_MeetScans.f impl_MeetScans.f mtOut mtGood
  rw [specTwo_eq a b ha hsa hb hsb k (by omega), sameSize_eq a b ha hsa hb hsb k (by omega)]
  simp only [Option.bind_some]
  obtain ⟨k, rfl⟩ : ∃ j, k = j + 1 := ⟨k - 1, by omega⟩
  cases ht : Two a b with
  | false =>
    simp only [Bool.false_and, Bool.false_eq_true, if_false]
    exact ⟨by rw [spec_MeetScans.j0, if_pos rfl], trivial⟩
  | true =>
    obtain ⟨ga, gb, hab, hw⟩ := two_facts ht
    obtain ⟨g1, g2, g3, g4, g5⟩ := grid_facts ga
    obtain ⟨q1, q2, q3, q4, q5⟩ := grid_facts gb
    have hwz : (rdOf ByteArray.empty a 0).size = wid a := by rw [wid_get a (by omega)]; exact congrArg _ (rdB_get a 0 (by omega))
    have hss : ∀ i (h : i < a.length), a[i].size ≤ 1000 ∧ (b[i]'(by omega)).size = a[i].size := by
      intro i h
      have h1 := (g5 _ (List.getElem_mem h)).1
      have h2 := (q5 _ (List.getElem_mem (show i < b.length by omega))).1
      exact ⟨by omega, by omega⟩
    simp only [if_true, Bool.true_and, decide_eq_true_eq]
    rw [specFaults_eq a b (by omega) (by omega) hss (k + 1) (by omega), implFaults_eq a b (by omega) (by omega) hss (k + 1) (by omega)]
    simp only [Option.bind_some]
    have hp : (0 : Int) < (a.length : Int) := by omega
    by_cases hf : 0 < faults a b
    · rw [if_pos hf, if_neg (fun h => h hf), decide_eq_true (show faults a b > 0 from hf)]
      exact ⟨by rw [spec_MeetScans.j0, if_pos rfl], rfl⟩
    · rw [if_neg hf, if_pos hf, decide_eq_false (show ¬ faults a b > 0 from hf), if_pos hp, hwz]
      refine ⟨?_, ?_⟩
      · rw [spec_MeetScans.j0, if_neg (by decide)]
        have e := mtRows a b (by omega) (by omega) (wid a) (by omega) (fun s hs => (g5 s hs).1) (fun s hs => by have := (q5 s hs).1; omega) a.length k 0 (by omega) (by
          have : a.length * (wid a + 2) ≤ 60 * 22 := Nat.mul_le_mul g2 (by omega)
          omega)
        exact e
      · rw [drawn_eq _ a.length (wid a) (by omega) (by omega) (mtG a b) (fun r c hr hc => mtClosure_eq a b (wid a) r c hr (by omega) (by rw [rdB_get a r hr]; exact (g5 _ (List.getElem_mem hr)).1) (by rw [rdB_get b r (by omega)]; have := (q5 _ (List.getElem_mem (show r < b.length by omega))).1; omega) hc) (k + 1) (by omega)]
        rfl

theorem grid_self {l : List ByteArray} (h : Grid chS 1 60 20 l = true) : dRows (plc l) l.length (wid l) = l := by
  obtain ⟨g1, g2, g3, g4, g5⟩ := grid_facts h
  apply List.ext_getElem
  · rw [dRows_length]
  · intro i h1 h2
    have e : (dRows (plc l) l.length (wid l))[i] = dRow (plc l i) (wid l) := by simp [dRows]
    rw [e]
    exact dRow_self _ _ (g5 _ (List.getElem_mem h2)).1 _ (fun c hc => by unfold plc; rw [rdB_get l i h2])
theorem plc_range {l : List ByteArray} (h : Grid chS 1 60 20 l = true) (r c : Nat) (hr : r < l.length) (hc : c < wid l) : 0 ≤ plc l r c ∧ plc l r c ≤ 255 := by
  rcases chS_cases (grid_at h r c hr hc) with e | e | e <;> (unfold plc; rw [e]; omega)
theorem ch_range {x : Int} (h : chS x = true) : 0 ≤ x ∧ x ≤ 255 := by
  rcases chS_cases h with e | e | e <;> omega
theorem faults_places {a b : List ByteArray} (h : Two a b = true) : 0 ≤ faults a b ∧ (faults a b = 0 ↔ ∀ r c, r < a.length → c < wid a → AtB (plc a r c) (plc b r c)) := by
  obtain ⟨ga, gb, e1, e2⟩ := two_facts h
  have ea := grid_self ga
  have eb := grid_self gb
  rw [← e1, ← e2] at eb
  have z := faults_zero (plc a) (plc b) (wid a) (List.range a.length) (fun r c hr hc => plc_range ga r c (List.mem_range.1 hr) hc) (fun r c hr hc => plc_range gb r c (by rw [← e1]; exact List.mem_range.1 hr) (by rw [← e2]; exact hc))
  have z1 : (List.range a.length).map (fun r => dRow (plc a r) (wid a)) = a := ea
  have z2 : (List.range a.length).map (fun r => dRow (plc b r) (wid a)) = b := eb
  rw [z1, z2] at z
  refine ⟨z.1, z.2.trans ⟨fun q r c hr hc => q r (List.mem_range.2 hr) c hc, fun q r hr c hc => q r c (List.mem_range.1 hr) hc⟩⟩
theorem total_places {l : List ByteArray} (hl : Grid chS 1 60 20 l = true) (g : Nat → Nat → Int) (hg : ∀ r c, r < l.length → c < wid l → chS (g r c) = true) :
    ((∀ r c, r < l.length → c < wid l → g r c = 63 → plc l r c = 63) → total 63 (dRows g l.length (wid l)) ≤ total 63 l) ∧ ((∀ r c, r < l.length → c < wid l → plc l r c = 63 → g r c = 63) → total 63 l ≤ total 63 (dRows g l.length (wid l))) := by
  have e := grid_self hl
  have z1 : (List.range l.length).map (fun r => dRow (plc l r) (wid l)) = l := e
  have hp : ∀ r c, r ∈ List.range l.length → c < wid l → 0 ≤ plc l r c ∧ plc l r c ≤ 255 := fun r c hr hc => plc_range hl r c (List.mem_range.1 hr) hc
  have hq : ∀ r c, r ∈ List.range l.length → c < wid l → 0 ≤ g r c ∧ g r c ≤ 255 := fun r c hr hc => ch_range (hg r c (List.mem_range.1 hr) hc)
  constructor
  · intro q
    have := total_le g (plc l) (wid l) (List.range l.length) hq hp (fun r c hr hc => q r c (List.mem_range.1 hr) hc)
    rw [z1] at this
    exact this
  · intro q
    have := total_le (plc l) g (wid l) (List.range l.length) hp hq (fun r c hr hc => q r c (List.mem_range.1 hr) hc)
    rw [z1] at this
    exact this
theorem mtG_plc (a b : List ByteArray) (r c : Nat) : mtG a b r c = if plc a r c = 63 then plc b r c else plc a r c := rfl
theorem two_symm {a b : List ByteArray} (h : Two a b = true) : Two b a = true := by
  obtain ⟨ga, gb, e1, e2⟩ := two_facts h
  unfold Two
  rw [ga, gb]
  simp only [Bool.true_and, Bool.and_eq_true, decide_eq_true_eq]
  exact ⟨e1.symm, e2.symm⟩
theorem AtB.symm {x y : Int} (h : AtB x y) : AtB y x := by unfold AtB at *; omega
theorem faults_symm {a b : List ByteArray} (h : Two a b = true) (z : faults a b = 0) : faults b a = 0 := by
  obtain ⟨ga, gb, e1, e2⟩ := two_facts h
  exact (faults_places (two_symm h)).2.2 (fun r c hr hc => ((faults_places h).2.1 z r c (by omega) (by omega)).symm)
theorem mt_symm {a b : List ByteArray} (h : Two a b = true) (z : faults a b = 0) : dRows (mtG b a) b.length (wid b) = dRows (mtG a b) a.length (wid a) := by
  obtain ⟨ga, gb, e1, e2⟩ := two_facts h
  rw [← e1, ← e2]
  refine dRows_congr _ _ _ _ (fun r c hr hc => ?_)
  have q := (faults_places h).2.1 z r c hr hc
  rw [mtG_plc, mtG_plc]
  unfold AtB at q
  repeat' split
  all_goals omega
theorem mt_chars {a b : List ByteArray} (h : Two a b = true) (r c : Nat) (hr : r < a.length) (hc : c < wid a) : chS (mtG a b r c) = true := by
  obtain ⟨ga, gb, e1, e2⟩ := two_facts h
  rw [mtG_plc]
  split
  · exact grid_at gb r c (by omega) (by omega)
  · exact grid_at ga r c hr hc

theorem mt_good {a b : List ByteArray} (h2 : Two a b = true) : mtGood a b = (faults a b == 0) := by
  have := (faults_places h2).1
  unfold mtGood
  rw [h2, Bool.true_and]
  by_cases z : faults a b = 0
  · rw [z]; rfl
  · rw [decide_eq_false (by omega)]
    exact (beq_eq_false_iff_ne.2 z).symm
theorem law_j2 (l : List Int) (hl : Bytes l) (a b : List ByteArray) (ha : SmallScan a) (hb : SmallScan b) :
    Tot (fun k => laws_FnStains.j2 k l a b (mtOut a b).1 (mtOut a b).2 (mtOut a b).1 false) (fun r => r = true) := by
  obtain ⟨r, hr, K, hK⟩ := law_j3 l hl
  subst hr
  by_cases hg : mtGood a b = true
  · have h2 : Two a b = true := by unfold mtGood at hg; rw [Bool.and_eq_true] at hg; exact hg.1
    have z : faults a b = 0 := by rw [mt_good h2] at hg; exact beq_iff_eq.1 hg
    obtain ⟨ga, gb, e1, e2⟩ := two_facts h2
    have h2' := two_symm h2
    have hg' : mtGood b a = true := by rw [mt_good h2', faults_symm h2 z]; rfl
    have o1 : mtOut a b = (dRows (mtG a b) a.length (wid a), true) := by unfold mtOut; rw [if_pos hg]
    have o2 : mtOut b a = (dRows (mtG a b) a.length (wid a), true) := by unfold mtOut; rw [if_pos hg', mt_symm h2 z]
    obtain ⟨g1, g2, g3, g4, _⟩ := grid_facts ga
    have gm : Grid chS 1 60 20 (dRows (mtG a b) a.length (wid a)) = true := grid_dRows _ _ _ ⟨g1, g2⟩ ⟨g3, g4⟩ (fun r c hr hc => mt_chars h2 r c hr hc)
    have sm := grid_small gm
    obtain ⟨b1, b2⟩ := small_big ha
    obtain ⟨c1, c2⟩ := small_big hb
    obtain ⟨d1, d2⟩ := small_big sm
    have fa := small_fuel ha
    have fb := small_fuel hb
    have fm := small_fuel sm
    have ta : total 63 (dRows (mtG a b) a.length (wid a)) ≤ total 63 a := (total_places ga (mtG a b) (fun r c hr hc => mt_chars h2 r c hr hc)).1 (fun r c hr hc q => by
      rw [mtG_plc] at q
      split at q
      · assumption
      · exact q)
    have tb : total 63 (dRows (mtG a b) a.length (wid a)) ≤ total 63 b := by
      rw [e1, e2]
      refine (total_places gb (mtG a b) (fun r c hr hc => mt_chars h2 r c (by omega) (by omega))).1 (fun r c hr hc q => ?_)
      rw [mtG_plc] at q
      split at q
      · exact q
      · rename_i n; exact absurd q n
    have hml := sm.1
    rw [o1]
    refine Tot.ge true (K + 500001) (fun k hk => ?_) rfl
    obtain ⟨k, rfl⟩ : ∃ j, k = j + 1 := ⟨k - 1, by omega⟩
    dsimp only
    rw [laws_FnStains.j2, if_neg (by decide), if_pos rfl, (mt_both b a c1 c2 b1 b2 k (by omega)).2, o2]
    simp only [Option.bind_some]
    rw [implStains_eq _ d1 d2 k (by omega), implStains_eq a b1 b2 k (by omega), implStains_eq b c1 c2 k (by omega), if_pos gm, if_pos ga, if_pos gb]
    simp only [Option.bind_some, if_true]
    rw [pSameTexts_self _ (by omega) k (by omega)]
    simp only [Option.bind_some, if_true]
    rw [if_neg (by omega), if_neg (by omega)]
    exact hK k (by omega)
  · have o1 : mtOut a b = ([], false) := by unfold mtOut; rw [if_neg hg]
    rw [o1]
    refine Tot.ge true (K + 1) (fun k hk => ?_) rfl
    obtain ⟨k, rfl⟩ : ∃ j, k = j + 1 := ⟨k - 1, by omega⟩
    dsimp only
    rw [laws_FnStains.j2, if_neg (by decide), if_neg (by decide)]
    exact hK k (by omega)

theorem mtOut_snd (a b : List ByteArray) : (mtOut a b).2 = mtGood a b := by
  unfold mtOut
  by_cases h : mtGood a b = true
  · rw [if_pos h, h]
  · rw [if_neg h]; exact (Bool.eq_false_iff.2 h).symm
theorem mtOut_small {a b : List ByteArray} (ha : SmallScan a) : SmallScan (mtOut a b).1 := by
  unfold mtOut
  split
  · rename_i h
    unfold mtGood at h
    rw [Bool.and_eq_true] at h
    obtain ⟨g1, g2, g3, g4, _⟩ := grid_facts (two_facts h.1).1
    exact drawn_small _ _ _ (by omega) (by omega)
  · exact ⟨by simp, fun s hs => by simp at hs⟩
theorem law_j1 (l : List Int) (hl : Bytes l) : Tot (fun k => laws_FnStains.j1 k l) (fun r => r = true) := by
  refine Tot.step (fun k => by rw [laws_FnStains.j1]) ?_
  refine Tot.bind (drawMeet_tot l hl) (fun q hq => ?_)
  obtain ⟨a, b⟩ := q
  obtain ⟨ha, hb⟩ : SmallScan a ∧ SmallScan b := hq
  obtain ⟨b1, b2⟩ := small_big ha
  obtain ⟨c1, c2⟩ := small_big hb
  have hfu := small_fuel ha
  have hfb := small_fuel hb
  have hmt : ∀ k, 500000 ≤ k → spec_MeetScans.f k a b = some (mtOut a b) ∧ impl_MeetScans.f k a b = some (mtOut a b) := fun k hk => mt_both a b b1 b2 c1 c2 k (by omega)
  have hms := (mtOut_small (b := b) ha).1
  obtain ⟨r, hr, K, hK⟩ := law_j2 l hl a b ha hb
  subst hr
  refine Tot.ge true (K + 500001) (fun k hk => ?_) rfl
  dsimp only
  rw [(hmt k (by omega)).2, (hmt k (by omega)).1, implAgree_eq a b b1 b2 c1 c2 k (by omega), specAgree_eq a b b1 b2 c1 c2 k (by omega)]
  simp only [Option.bind_some]
  rw [if_neg (by simp), pSameTexts_self _ (by omega) k (by omega)]
  simp only [Option.bind_some, if_true]
  by_cases h2 : Two a b = true
  · rw [if_pos h2]
    have e : (mtOut a b).2 = (faults a b == 0) := (mtOut_snd a b).trans (mt_good h2)
    dsimp only
    rw [if_neg (by simp), if_neg (by simp), if_pos rfl, show ((mtOut a b).2 != (faults a b == 0)) = false by rw [e]; simp]
    exact hK k (by omega)
  · rw [if_neg h2]
    have e : (mtOut a b).2 = false := by
      rw [mtOut_snd]
      unfold mtGood
      rw [Bool.eq_false_iff.2 h2]; rfl
    dsimp only
    rw [if_neg (by simp), if_neg (by simp), if_neg (by decide), show ((mtOut a b).2 != false) = false by rw [e]; rfl]
    exact hK k (by omega)

theorem stG_or (x : List ByteArray) (p1 p2 p3 : Int) (r c : Nat) : stG x p1 p2 p3 r c = 63 ∨ stG x p1 p2 p3 r c = plc x r c := by
  unfold stG plc
  split
  · split
    · exact .inl rfl
    · exact .inr rfl
  · exact .inr rfl
theorem plc_drawn (g : Nat → Nat → Int) (R n : Nat) (hg : ∀ r c, r < R → c < n → chS (g r c) = true) (r c : Nat) (hr : r < R) (hc : c < n) : plc (dRows g R n) r c = g r c := by
  unfold plc
  rw [row_dRows g R n r hr]
  exact bt_dRow (g r) n (fun c hc => ch_range (hg r c hr hc)) c hc
theorem law_j0 (l : List Int) (hl : Bytes l) (x : List ByteArray) (hx : SmallScan x) (p1 p2 p3 : Int) :
    Tot (fun k => laws_FnStains.j0 k l x p1 p2 (stOut x p1 p2 p3).1 (stOut x p1 p2 p3).2 (stOut x p1 p2 p3).1 false) (fun r => r = true) := by
  obtain ⟨r, hr, K, hK⟩ := law_j1 l hl
  subst hr
  by_cases hg : stGood x p1 p2 p3 = true
  · have o1 : stOut x p1 p2 p3 = (dRows (stG x p1 p2 p3) x.length (wid x), true) := by unfold stOut; rw [if_pos hg]
    unfold stGood at hg
    rw [Bool.and_eq_true, decide_eq_true_eq] at hg
    obtain ⟨gx, q1, q2, q3⟩ := hg
    obtain ⟨g1, g2, g3, g4, _⟩ := grid_facts gx
    have gs := st_grid x p1 p2 p3 gx
    have hch : ∀ r c, r < x.length → c < wid x → chS (stG x p1 p2 p3 r c) = true := fun r c hr hc => by
      rcases stG_or x p1 p2 p3 r c with e | e
      · rw [e]; rfl
      · rw [e]; exact grid_at gx r c hr hc
    have hpl := plc_drawn (stG x p1 p2 p3) x.length (wid x) hch
    have h2 : Two x (dRows (stG x p1 p2 p3) x.length (wid x)) = true := by
      unfold Two
      rw [gx, gs, dRows_length, wid_dRows _ _ _ g1]
      simp
    have h2' := two_symm h2
    have z : faults x (dRows (stG x p1 p2 p3) x.length (wid x)) = 0 := (faults_places h2).2.2 (fun r c hr hc => by
      rw [hpl r c hr hc]
      rcases stG_or x p1 p2 p3 r c with e | e
      · exact .inr (.inr e)
      · exact .inl e.symm)
    have om : mtOut (dRows (stG x p1 p2 p3) x.length (wid x)) x = (x, true) := by
      unfold mtOut
      rw [if_pos (by rw [mt_good h2', faults_symm h2 z]; rfl), dRows_length, wid_dRows _ _ _ g1]
      have e : dRows (mtG (dRows (stG x p1 p2 p3) x.length (wid x)) x) x.length (wid x) = x := by
        refine Eq.trans (dRows_congr _ (plc x) _ _ (fun r c hr hc => ?_)) (grid_self gx)
        rw [mtG_plc, hpl r c hr hc]
        rcases stG_or x p1 p2 p3 r c with e | e
        · rw [if_pos e]
        · rw [e]; split <;> rfl
      rw [e]
    have tt : total 63 x ≤ total 63 (dRows (stG x p1 p2 p3) x.length (wid x)) := (total_places gx (stG x p1 p2 p3) hch).2 (fun r c hr hc q => by
      rcases stG_or x p1 p2 p3 r c with e | e
      · exact e
      · rw [e]; exact q)
    obtain ⟨n1, rfl⟩ : ∃ n : Nat, p1 = n := ⟨p1.toNat, by omega⟩
    obtain ⟨n2, rfl⟩ : ∃ n : Nat, p2 = n := ⟨p2.toNat, by omega⟩
    have hst : stG x n1 n2 p3 n1 n2 = 63 := stG_a x n1 n2 p3 n1 n2 (by unfold mx; split <;> omega) (by unfold mx; split <;> omega)
    have hat : bt (rdOf ByteArray.empty (dRows (stG x n1 n2 p3) x.length (wid x)) (n1 : Int)) (n2 : Int) = 63 := (hpl n1 n2 (by omega) (by omega)).trans hst
    have hsz : (rdOf ByteArray.empty (dRows (stG x n1 n2 p3) x.length (wid x)) (n1 : Int)).size = wid x := by rw [row_dRows _ _ _ _ (by omega), dRow_size]
    obtain ⟨b1, b2⟩ := small_big hx
    have sm := grid_small gs
    obtain ⟨d1, d2⟩ := small_big sm
    have fx := small_fuel hx
    have fs := small_fuel sm
    have hxl := hx.1
    rw [o1]
    refine Tot.ge true (K + 500001) (fun k hk => ?_) rfl
    obtain ⟨k, rfl⟩ : ∃ j, k = j + 1 := ⟨k - 1, by omega⟩
    dsimp only
    rw [laws_FnStains.j0, if_neg (by decide), if_pos rfl, implAgree_eq x _ b1 b2 d1 d2 k (by omega), if_pos h2, z, (mt_both _ x d1 d2 b1 b2 k (by omega)).2, om]
    simp only [Option.bind_some]
    rw [implStains_eq _ d1 d2 k (by omega), implStains_eq x b1 b2 k (by omega), if_pos gs, if_pos gx]
    simp only [Option.bind_some, if_true, beq_self_eq_true]
    rw [pSameTexts_self x (by omega) k (by omega)]
    simp only [Option.bind_some, if_true]
    rw [if_neg (by omega), if_pos (by omega), dRows_length, if_pos (by omega), if_pos (by omega), hsz, if_pos (by omega), hat, if_pos rfl]
    exact hK k (by omega)
  · have o1 : stOut x p1 p2 p3 = ([], false) := by unfold stOut; rw [if_neg hg]
    rw [o1]
    refine Tot.ge true (K + 1) (fun k hk => ?_) rfl
    obtain ⟨k, rfl⟩ : ∃ j, k = j + 1 := ⟨k - 1, by omega⟩
    dsimp only
    rw [laws_FnStains.j0, if_neg (by decide), if_neg (by decide)]
    exact hK k (by omega)

theorem u8_wf (l : List Int) (h : ∀ x ∈ l, (Lit.int .u8 x).wf = true) : ∀ x ∈ l, 0 ≤ x ∧ x ≤ 255 := fun x hx => by
  have := h x hx
  simpa [Lit.wf, IntKind.min, IntKind.max, IntKind.signed, IntKind.bits] using this
theorem FnStains : laws_FnStains.Pure := by
  intro l0 l1 m0 _ w0 m1 _ w1
  unfold maxLen at m0 m1
  by_cases hb : (l0.length : Int) > 1048576
  · refine ⟨0, ?_⟩
    unfold laws_FnStains.f laws_big.f
    rw [if_pos hb]
    rfl
  · by_cases hc : (l1.length : Int) > wrap64 (1048576 - (l0.length : Int))
    · refine ⟨0, ?_⟩
      unfold laws_FnStains.f laws_big.f
      rw [if_neg hb]
      simp only [Option.bind_some]
      rw [if_pos (decide_eq_true hc)]
    · have hc' := hc
      rw [w64 (by omega)] at hc'
      have b0 : Bytes l0 := ⟨by omega, u8_wf l0 w0⟩
      have b1 : Bytes l1 := ⟨by omega, u8_wf l1 w1⟩
      have key : Tot (fun k => laws_FnStains.f k l0 l1) (fun r => r = true) := by
        refine Tot.congr (h := fun k => (spec_DrawStainScan.f k l0).bind fun bt651 => ((impl_StainScan.f k bt651.1 bt651.2.1 bt651.2.2.1 bt651.2.2.2).bind fun bt657 => ((spec_StainScan.f k bt651.1 bt651.2.1 bt651.2.2.1 bt651.2.2.2).bind fun bt661 => (if (bt657.2 != bt661.2) = true then (laws_FnStains.j0 k l1 bt651.1 bt651.2.1 bt651.2.2.1 bt657.1 bt657.2 bt661.1 true) else ((laws_pSameTexts.f k bt657.1 bt661.1).bind fun t665 => (laws_FnStains.j0 k l1 bt651.1 bt651.2.1 bt651.2.2.1 bt657.1 bt657.2 bt661.1 (!t665))))))) (fun k => ?_) ?_
        · unfold laws_FnStains.f laws_big.f
          rw [if_neg hb]
          simp only [Option.bind_some]
          rw [if_neg (by simpa using hc)]
        refine Tot.bind (drawStain_tot l0 b0) (fun q hq => ?_)
        obtain ⟨x, p1, p2, p3⟩ := q
        have hx : SmallScan x := hq
        obtain ⟨c1, c2⟩ := small_big hx
        have fx := small_fuel hx
        obtain ⟨r, hr, K, hK⟩ := law_j0 l1 b1 x hx p1 p2 p3
        subst hr
        have hso : (stOut x p1 p2 p3).1.length ≤ 100 := by
          unfold stOut
          split
          · rw [dRows_length]; exact hx.1
          · simp
        refine Tot.ge true (K + 500001) (fun k hk => ?_) rfl
        dsimp only
        rw [(st_both x p1 p2 p3 c1 c2 k (by omega)).2, (st_both x p1 p2 p3 c1 c2 k (by omega)).1]
        simp only [Option.bind_some]
        rw [if_neg (by simp), pSameTexts_self _ (by omega) k (by omega)]
        exact hK k (by omega)
      obtain ⟨r, hr, K, hK⟩ := key
      exact ⟨K, (hK K (Nat.le_refl _)).trans (by rw [hr])⟩
end Go.Proofs.Ytmnnmddfmmaohaa.Pure
