import Derived.Test.YtmnnmddfmmaohaaGreatPFnHeadx17
namespace Go.Proofs.YtmnnmddfmmaohaaGreat.Pure
open Go.RowKit Go.Proofs.YtmnnmddfmmaohaaGreat.PFnHead Go.Proofs.YtmnnmddfmmaohaaGreatW.PrintWords Go.Proofs.YtmnnmddfmmaohaaGreatW.PrintLast
set_option linter.unusedVariables false
set_option linter.unusedSimpArgs false
theorem w64 {x : Int} (h : -9223372036854775808 ≤ x ∧ x ≤ 9223372036854775807) : wrap64 x = x := by
  unfold wrap64; omega
theorem someF {p : Prop} [Decidable p] (h : ¬ p) : some false = some (decide p) := by rw [decide_eq_false h]
theorem someD {q p : Prop} [Decidable q] [Decidable p] (h : q ↔ p) : some (decide q) = some (decide p) := by rw [decide_eq_decide.2 h]
theorem in_eq (a b c : Int) : spec_l1In.f a b c = some (decide (b ≤ a ∧ a ≤ c)) := by
  unfold spec_l1In.f
  by_cases h : a ≥ b
  · rw [if_pos h]; congr 1; simp [show b ≤ a from h]
  · rw [if_neg h]; congr 1; simp; omega
theorem rd_get (l : List Int) (i : Nat) (h : i < l.length) : rd l (i : Int) = l[i] := by
  unfold rd; rw [Int.toNat_natCast, List.getD_eq_getElem?_getD, List.getElem?_eq_getElem h]; rfl
theorem tmod_range (x n : Int) (hx : 0 ≤ x) (hn : 1 ≤ n) : 0 ≤ Int.tmod x n ∧ Int.tmod x n < n := by
  rw [Int.tmod_eq_emod_of_nonneg hx]
  exact ⟨Int.emod_nonneg _ (by omega), Int.emod_lt_of_pos _ (by omega)⟩
theorem u64_range (x : Int) : 0 ≤ IntKind.u64.wrap x ∧ IntKind.u64.wrap x < 18446744073709551616 := by
  simp only [IntKind.wrap, IntKind.bits, IntKind.signed, Bool.false_and, Bool.false_eq_true, if_false]
  exact ⟨Int.emod_nonneg _ (by decide), Int.emod_lt_of_pos _ (by decide)⟩
theorem u64_keeps (n : Int) (h0 : 0 ≤ n) (h1 : n < 2 ^ 64) : IntKind.u64.wrap n = n := by
  simp only [IntKind.wrap, IntKind.bits, IntKind.signed, Bool.false_and, Bool.false_eq_true, if_false]
  exact Int.emod_eq_of_lt h0 h1
theorem low_byte (x : Int) : ∃ v, wrap64 (Go.bits .and .u64 ((IntKind.u64.wrap x) / 1099511627776) 255) = v ∧ 0 ≤ v ∧ v ≤ 255 := by
  obtain ⟨h0, h1⟩ := u64_range x
  have hd0 : 0 ≤ IntKind.u64.wrap x / 1099511627776 := by omega
  have hd1 : IntKind.u64.wrap x / 1099511627776 < 2 ^ 64 := by omega
  have e := bits_mask .u64 64 (by decide) (fun n a b => u64_keeps n a b) 8 (by decide) _ hd0 hd1
  rw [show (255 : Int) = 2 ^ 8 - 1 by decide, e]
  generalize IntKind.u64.wrap x / 1099511627776 = y at hd0 hd1
  have : 0 ≤ y % 2 ^ 8 ∧ y % 2 ^ 8 ≤ 255 := by omega
  exact ⟨_, w64 (by omega), this.1, this.2⟩
def Bytes (l : List Int) : Prop := l.length ≤ 1048576 ∧ ∀ x ∈ l, 0 ≤ x ∧ x ≤ 255
theorem next_ok (l : List Int) (hl : Bytes l) (a s : Int) (ha : 0 ≤ a ∧ a ≤ 1000000) : ∃ v s', spec_l1Cur_next.f l a s = some (v, a + 1, s') ∧ 0 ≤ v ∧ v ≤ 255 := by
  have wa : wrap64 (a + 1) = a + 1 := w64 (by omega)
  unfold spec_l1Cur_next.f
  rw [wa]
  clear wa
  by_cases h : a < (l.length : Int)
  · obtain ⟨n, rfl⟩ : ∃ n : Nat, a = n := ⟨a.toNat, by omega⟩
    have hn : n < l.length := by omega
    rw [if_pos h, if_pos ha.1]
    have hb := hl.2 _ (List.getElem_mem hn)
    by_cases h2 : (n : Int) + 1 ≤ (l.length : Int)
    · rw [if_pos h2]
      refine ⟨_, _, rfl, ?_⟩
      rw [rd_get l n hn, w64 (by omega)]
      exact hb
    · omega
  · rw [if_neg h]
    by_cases h2 : a + 1 ≤ (l.length : Int)
    · rw [if_pos h2]
      exact ⟨_, _, rfl, by omega, by omega⟩
    · rw [if_neg h2]
      obtain ⟨v, e, h0, h1⟩ := low_byte (IntKind.u64.wrap (IntKind.u64.wrap (s * 6364136223846793005)) + 1442695040888963407)
      exact ⟨v, IntKind.u64.wrap (IntKind.u64.wrap (IntKind.u64.wrap (s * 6364136223846793005)) + 1442695040888963407), by rw [e], h0, h1⟩
theorem pick_ok (l : List Int) (hl : Bytes l) (a s : Int) (ha : 0 ≤ a ∧ a ≤ 900000) (n : Int) :
    ∃ v a' s', spec_l1Cur_pick.f l a s n = some (v, a', s') ∧ 0 ≤ v ∧ (1 ≤ n → v < n) ∧ a ≤ a' ∧ a' ≤ a + 2 := by
  unfold spec_l1Cur_pick.f
  by_cases h : n ≤ 1
  · rw [if_pos h]
    exact ⟨0, a, s, rfl, by omega, by omega, by omega, by omega⟩
  · rw [if_neg h]
    obtain ⟨v, s1, e1, h0, h1⟩ := next_ok l hl a s (by omega)
    rw [e1]
    simp only [Option.bind_some]
    by_cases h2 : n > 200
    · obtain ⟨u, s2, e2, g0, g1⟩ := next_ok l hl (a + 1) s1 (by omega)
      rw [if_pos h2, e2]
      simp only [Option.bind_some]
      rw [if_neg (by omega), w64 (x := v * 256) (by omega), w64 (by omega)]
      have r := tmod_range (v * 256 + u) n (by omega) (by omega)
      exact ⟨_, _, _, rfl, r.1, fun _ => r.2, by omega, by omega⟩
    · rw [if_neg h2, if_neg (by omega)]
      have r := tmod_range v n h0 (by omega)
      exact ⟨_, _, _, rfl, r.1, fun _ => r.2, by omega, by omega⟩
theorem one_ok (l : List Int) (hl : Bytes l) (a s : Int) (ha : 0 ≤ a ∧ a ≤ 900000) (n : Int) :
    ∃ v a' s', spec_l1Cur_one.f l a s n = some (v, a', s') ∧ a ≤ a' ∧ a' ≤ a + 2 := by
  obtain ⟨v, a', s', e, _, _, h1, h2⟩ := pick_ok l hl a s ha n
  unfold spec_l1Cur_one.f
  rw [e]
  exact ⟨_, _, _, rfl, h1, h2⟩
theorem among_ok (l : List Int) (hl : Bytes l) (a s : Int) (ha : 0 ≤ a ∧ a ≤ 900000) (xs : List Int) (hx : 1 ≤ xs.length) :
    ∃ v a' s', spec_l1Cur_among.f l a s xs = some (v, a', s') ∧ a ≤ a' ∧ a' ≤ a + 2 := by
  obtain ⟨v, a', s', e, h0, h1, h2, h3⟩ := pick_ok l hl a s ha (xs.length : Int)
  unfold spec_l1Cur_among.f
  rw [e]
  simp only [Option.bind_some]
  rw [if_pos h0, if_pos (h1 (by omega))]
  exact ⟨_, _, _, rfl, h2, h3⟩
theorem drop_get {α : Type} (l : List α) (i : Nat) (h : i < l.length) : l.drop i = l[i] :: l.drop (i + 1) := List.drop_eq_getElem_cons h
theorem rdH_get (l : List S76) (i : Nat) (h : i < l.length) : rd_T76 l (i : Int) = l[i] := by
  unfold rd_T76; rw [Int.toNat_natCast, List.getD_eq_getElem?_getD, List.getElem?_eq_getElem h]; rfl
theorem rdS_get (l : List S30) (i : Nat) (h : i < l.length) : rd_T30 l (i : Int) = l[i] := by
  unfold rd_T30; rw [Int.toNat_natCast, List.getD_eq_getElem?_getD, List.getElem?_eq_getElem h]; rfl
def HoleOK (x : S76) : Bool := decide (0 ≤ x.f0 ∧ x.f0 ≤ 19 ∧ 0 ≤ x.f1 ∧ x.f1 < x.f2 ∧ x.f2 ≤ 2000)
def hBefore (a b : S76) : Bool := decide (a.f1 < b.f1 ∨ (a.f1 = b.f1 ∧ a.f0 < b.f0))
def lastOK (p : List S76) (x : S76) : Bool := match p.getLast? with
  | none => true
  | some y => hBefore y x
def apartOK (p : List S76) (x : S76) : Bool := p.all fun y => !(decide (x.f0 = y.f0) && decide (y.f2 ≥ x.f1))
def chkSheet (p : List S76) : List S76 → Bool
  | [] => true
  | x :: r => HoleOK x && lastOK p x && apartOK p x && chkSheet (p ++ [x]) r
def SheetB (l : List S76) : Bool := chkSheet [] l && decide (l.length ≤ 60)
def fuelH (i : Nat) : Nat → Nat
  | 0 => 1
  | d + 1 => i + 3 + fuelH (i + 1) d
theorem lastOK_take (l : List S76) (i : Nat) (h : i + 1 < l.length) : lastOK (l.take (i + 1)) l[i + 1] = hBefore l[i] l[i + 1] := by
  unfold lastOK
  rw [List.take_succ_eq_append_getElem (show i < l.length by omega), List.getLast?_concat]
theorem specSheet_row (l : List S76) (x7 : List S76) (x8 x9 a b c : Int) (p : List S76) (hp : p.length ≤ 1048576) (x : S76) (hx : x = ⟨a, b, c⟩) (d : Nat) : ∀ (k j : Nat), j + d = p.length →
    spec_shGood.l1 (k + d + 1) l x7 x8 x9 p p.length j a b c = if apartOK (p.drop j) x then spec_shGood.l0 k l x7 x8 (wrap64 (x9 + 1)) else some false := by
  induction d with
  | zero =>
    intro k j hj
    rw [spec_shGood.l1, if_neg (by omega), List.drop_of_length_le (by omega)]
    rfl
  | succ d ih =>
    intro k j hj
    subst hx
    rw [spec_shGood.l1, if_pos (by omega), if_pos (by omega), if_pos (by omega), rdH_get p j (by omega), drop_get p j (by omega), w64 (by omega), show k + (d + 1) = k + d + 1 by omega, show ((j : Int) + 1) = ((j + 1 : Nat) : Int) by omega, ih k (j + 1) (by omega)]
    unfold apartOK
    rw [List.all_cons]
    by_cases h1 : a = p[j].f0
    · by_cases h2 : p[j].f2 ≥ b
      · rw [if_pos (by omega), if_pos h2]; simp [h1, h2]
      · rw [if_pos (by omega), if_neg h2]; simp [h1, h2]
    · rw [if_neg (by omega)]; simp [h1]
theorem shHole_eq (a b c : Int) : spec_shHole.f a b c = some (HoleOK ⟨a, b, c⟩) := by
  unfold spec_shHole.f HoleOK
  simp only [in_eq, Option.bind_some, decide_eq_true_eq]
  split
  · split
    · rw [w64 (by omega)]; exact someD (by omega)
    · exact someF (by omega)
  · exact someF (by omega)
theorem shBefore_eq (a b c a' b' c' : Int) : spec_shBefore.f a b c a' b' c' = some (hBefore ⟨a, b, c⟩ ⟨a', b', c'⟩) := by
  unfold spec_shBefore.f hBefore
  simp only []
  split
  · rw [decide_eq_true (by omega)]
  · split
    · exact someD (by omega)
    · exact someF (by omega)
theorem specSheet_loop (l : List S76) (hl : l.length ≤ 1048576) (d : Nat) : ∀ (k i : Nat), i + d = l.length → fuelH i d ≤ k →
    spec_shGood.l0 k l l l.length i = some (chkSheet (l.take i) (l.drop i) && decide (l.length ≤ 60)) := by
  induction d with
  | zero =>
    intro k i hi hk
    unfold fuelH at hk
    obtain ⟨k, rfl⟩ : ∃ j, k = j + 1 := ⟨k - 1, by omega⟩
    rw [spec_shGood.l0, if_neg (by omega), List.drop_of_length_le (by omega)]
    unfold chkSheet
    rw [Bool.true_and]
    exact someD (by omega)
  | succ d ih =>
    intro k i hi hk
    unfold fuelH at hk
    obtain ⟨j, rfl⟩ : ∃ j, k = j + i + 1 + 1 + 1 := ⟨k - i - 3, by omega⟩
    have ht : (l.take i).length = i := by rw [List.length_take]; omega
    have e2 : wrap64 ((i : Int) + 1) = ((i + 1 : Nat) : Int) := by rw [w64 (by omega)]; omega
    rw [spec_shGood.l0, if_pos (by omega), if_pos (by omega), if_pos (by omega), rdH_get l i (by omega), shHole_eq, drop_get l i (by omega), chkSheet]
    simp only [Option.bind_some]
    have hj : ∀ flag : Bool, spec_shGood.j1 (j + i + 1 + 1) l i l l.length i flag l[i].f0 l[i].f1 l[i].f2 = if flag then some false else if apartOK (l.take i) l[i] then spec_shGood.l0 j l l l.length ((i + 1 : Nat) : Int) else some false := by
      intro flag
      rw [spec_shGood.j1]
      cases flag
      · simp only [Bool.false_eq_true, if_false]
        rw [if_pos (by omega), if_pos (by omega), Int.toNat_natCast]
        simp only [Option.bind_some]
        have := specSheet_row l l l.length i l[i].f0 l[i].f1 l[i].f2 (l.take i) (by omega) l[i] rfl i j 0 (by omega)
        rw [List.drop_zero, e2] at this
        exact this
      · simp only [if_true]
    have hrec := ih j (i + 1) (by omega) (by omega)
    rw [List.take_succ_eq_append_getElem (show i < l.length by omega)] at hrec
    by_cases h1 : HoleOK l[i] = true
    · rw [if_pos h1, h1]
      rcases Nat.eq_zero_or_pos i with h0 | h0
      · subst h0
        rw [if_neg (by omega), hj false]
        simp only [Bool.false_eq_true, if_false]
        rw [hrec]
        simp [lastOK, apartOK]
      · obtain ⟨m, rfl⟩ : ∃ m, i = m + 1 := ⟨i - 1, by omega⟩
        have e1 : wrap64 (((m + 1 : Nat) : Int) - 1) = (m : Int) := by rw [w64 (by omega)]; omega
        rw [if_pos (by omega), e1, if_pos (by omega), if_pos (by omega), rdH_get l m (by omega), shBefore_eq]
        simp only [Option.bind_some]
        rw [hj, hrec, lastOK_take l m (by omega)]
        cases hb : hBefore l[m] l[m + 1]
        · simp [hb]
        · cases ha : apartOK (l.take (m + 1)) l[m + 1] <;> simp [hb]
    · rw [if_neg h1, Bool.eq_false_iff.2 h1, hj]; simp
theorem shGood_eq (l : List S76) (hl : l.length ≤ 1048576) (k : Nat) (hk : fuelH 0 l.length ≤ k) : spec_shGood.f k l = some (SheetB l) := by
  unfold spec_shGood.f SheetB
  have := specSheet_loop l hl l.length k 0 (by omega) hk
  rw [List.drop_zero, List.take_zero] at this
  exact this
def StrokeOK (x : S30) : Prop := 0 ≤ x.f0 ∧ x.f0 ≤ 19 ∧ 0 ≤ x.f1 ∧ x.f1 ≤ 1999
instance (x : S30) : Decidable (StrokeOK x) := by unfold StrokeOK; infer_instance
def StrokesOK (l : List S30) : Prop := (∀ x ∈ l, StrokeOK x) ∧ l.length ≤ 200
instance (l : List S30) : Decidable (StrokesOK l) := by unfold StrokesOK; infer_instance
theorem puStroke_eq (a b : Int) : spec_puStroke.f a b = some (decide (StrokeOK ⟨a, b⟩)) := by
  unfold spec_puStroke.f spec_shStep.f
  simp only [in_eq, Option.bind_some, decide_eq_true_eq]
  split
  · exact someD (by unfold StrokeOK; simp only []; omega)
  · exact someF (by unfold StrokeOK; simp only []; omega)
theorem puGood_loop (l : List S30) (hl : l.length ≤ 1048576) (d : Nat) : ∀ (k i : Nat), i + d = l.length → d < k →
    spec_puGood.l0 k l l l.length i = some (decide ((∀ x ∈ l.drop i, StrokeOK x) ∧ l.length ≤ 200)) := by
  induction d with
  | zero =>
    intro k i hi hk
    obtain ⟨k, rfl⟩ : ∃ j, k = j + 1 := ⟨k - 1, by omega⟩
    rw [spec_puGood.l0, if_neg (by omega), List.drop_of_length_le (by omega)]
    exact someD (by simp; omega)
  | succ d ih =>
    intro k i hi hk
    obtain ⟨k, rfl⟩ : ∃ j, k = j + 1 := ⟨k - 1, by omega⟩
    rw [spec_puGood.l0, if_pos (by omega), if_pos (by omega), if_pos (by omega), rdS_get l i (by omega), puStroke_eq, w64 (by omega), drop_get l i (by omega)]
    simp only [Option.bind_some, decide_eq_true_eq]
    split
    · rename_i h
      rw [show ((i : Int) + 1) = ((i + 1 : Nat) : Int) by omega, ih k (i + 1) (by omega) (by omega)]
      exact someD (by rw [List.forall_mem_cons]; exact ⟨fun h' => ⟨⟨h, h'.1⟩, h'.2⟩, fun h' => ⟨h'.1.2, h'.2⟩⟩)
    · rename_i h
      exact someF (by rw [List.forall_mem_cons]; exact fun h' => h h'.1.1)
theorem puGood_eq (l : List S30) (hl : l.length ≤ 1048576) (k : Nat) (hk : l.length < k) : spec_puGood.f k l = some (decide (StrokesOK l)) := by
  unfold spec_puGood.f StrokesOK
  have := puGood_loop l hl l.length k 0 (by omega) hk
  rw [List.drop_zero] at this
  exact this
theorem areStrokes_loop (l : List S30) (hl : l.length ≤ 1048576) (d : Nat) : ∀ (k i : Nat), i + d = l.length → d < k →
    impl_AreStrokes.l0 k l l l.length i = some (decide ((∀ x ∈ l.drop i, StrokeOK x) ∧ l.length ≤ 200)) := by
  induction d with
  | zero =>
    intro k i hi hk
    obtain ⟨k, rfl⟩ : ∃ j, k = j + 1 := ⟨k - 1, by omega⟩
    rw [impl_AreStrokes.l0, if_neg (by omega), List.drop_of_length_le (by omega)]
    exact someD (by simp; omega)
  | succ d ih =>
    intro k i hi hk
    obtain ⟨k, rfl⟩ : ∃ j, k = j + 1 := ⟨k - 1, by omega⟩
    have ht : impl_isTrack.f l[i].f0 = some (decide (0 ≤ l[i].f0 ∧ l[i].f0 ≤ 19)) := by
      unfold impl_isTrack.f
      split
      · exact someD (by omega)
      · exact someF (by omega)
    rw [impl_AreStrokes.l0, if_pos (by omega), if_pos (by omega), if_pos (by omega), rdS_get l i (by omega), ht, w64 (by omega), drop_get l i (by omega)]
    simp only [Option.bind_some, decide_eq_true_eq]
    by_cases h : StrokeOK l[i]
    · have h' := h
      unfold StrokeOK at h'
      rw [if_pos (by omega), if_neg (by omega), if_neg (by omega), show ((i : Int) + 1) = ((i + 1 : Nat) : Int) by omega, ih k (i + 1) (by omega) (by omega)]
      exact someD (by rw [List.forall_mem_cons]; exact ⟨fun h' => ⟨⟨h, h'.1⟩, h'.2⟩, fun h' => ⟨h'.1.2, h'.2⟩⟩)
    · have h' := h
      unfold StrokeOK at h'
      have hF : ∀ (p : Prop) [Decidable p], ¬ (p) → some false = some (decide p) := fun p _ hp => someF hp
      have hn : ¬ ((∀ x ∈ l[i] :: l.drop (i + 1), StrokeOK x) ∧ l.length ≤ 200) := by rw [List.forall_mem_cons]; exact fun h' => h h'.1.1
      split
      · split
        · exact someF hn
        · split
          · exact someF hn
          · omega
      · exact someF hn
theorem areStrokes_eq (l : List S30) (hl : l.length ≤ 1048576) (k : Nat) (hk : l.length < k) : impl_AreStrokes.f k l = some (decide (StrokesOK l)) := by
  unfold impl_AreStrokes.f StrokesOK
  have := areStrokes_loop l hl l.length k 0 (by omega) hk
  rw [List.drop_zero] at this
  exact this
def absd (a b : Int) : Int := if a ≤ b then b - a else a - b
def way (ac : Int) (a b : S30) : Int := absd a.f1 b.f1 + ac * absd a.f0 b.f0
def ways (ac : Int) : List S30 → Int
  | a :: b :: r => way ac a b + ways ac (b :: r)
  | _ => 0
theorem way_bounds {ac : Int} (hac : 1 ≤ ac ∧ ac ≤ 50) {a b : S30} (ha : StrokeOK a) (hb : StrokeOK b) : 0 ≤ ac * absd a.f0 b.f0 ∧ ac * absd a.f0 b.f0 ≤ 950 ∧ 0 ≤ way ac a b ∧ way ac a b ≤ 3000 := by
  unfold StrokeOK at ha hb
  have h0 : 0 ≤ absd a.f0 b.f0 ∧ absd a.f0 b.f0 ≤ 19 := by unfold absd; split <;> omega
  have h1 : 0 ≤ absd a.f1 b.f1 ∧ absd a.f1 b.f1 ≤ 1999 := by unfold absd; split <;> omega
  have h2 : 0 ≤ ac * absd a.f0 b.f0 := Int.mul_nonneg (by omega) h0.1
  have h3 : ac * absd a.f0 b.f0 ≤ 50 * 19 := Int.mul_le_mul hac.2 h0.2 h0.1 (by omega)
  unfold way; omega
theorem ways_bounds {ac : Int} (hac : 1 ≤ ac ∧ ac ≤ 50) (l : List S30) (h : ∀ x ∈ l, StrokeOK x) : 0 ≤ ways ac l ∧ ways ac l ≤ 3000 * l.length := by
  induction l with
  | nil => simp [ways]
  | cons a r ih =>
    cases r with
    | nil => simp [ways]
    | cons b r =>
      have h1 := ih (fun x hx => h x (List.mem_cons_of_mem _ hx))
      have h2 := way_bounds hac (h a (by simp)) (h b (by simp))
      rw [ways]
      simp only [List.length_cons] at h1 ⊢
      omega
theorem abs_eq {a b : Int} (ha : 0 ≤ a ∧ a ≤ 5000) (hb : 0 ≤ b ∧ b ≤ 5000) : spec_l1Abs.f (wrap64 (a - b)) = some (absd a b) := by
  unfold spec_l1Abs.f spec_l1Most.f absd
  rw [w64 (x := a - b) (by omega), w64 (by omega)]
  by_cases h : a - b > -(a - b)
  · rw [if_pos h, if_neg (by omega)]; rfl
  · rw [if_neg h]
    split
    · simp; omega
    · omega
theorem specWay_eq {ac : Int} (hac : 1 ≤ ac ∧ ac ≤ 50) {a b : S30} (ha : StrokeOK a) (hb : StrokeOK b) : spec_puWay.f a.f0 a.f1 b.f0 b.f1 ac = some (way ac a b) := by
  have hw := way_bounds hac ha hb
  unfold StrokeOK at ha hb
  unfold spec_puWay.f
  rw [abs_eq (by omega) (by omega), abs_eq (by omega) (by omega)]
  simp only [Option.bind_some]
  unfold way at hw ⊢
  rw [w64 (x := ac * absd a.f0 b.f0) (by omega), w64 (by omega)]
theorem dist_eq {a b : Int} (ha : 0 ≤ a ∧ a ≤ 5000) (hb : 0 ≤ b ∧ b ≤ 5000) : impl_distance.f a b = some (absd a b) := by
  unfold impl_distance.f absd mx
  rw [w64 (x := a - b) (by omega), w64 (by omega)]
  congr 1
  split <;> split <;> omega
theorem implWay_eq {ac : Int} (hac : 1 ≤ ac ∧ ac ≤ 50) {a b : S30} (ha : StrokeOK a) (hb : StrokeOK b) : impl_headWay.f a.f0 a.f1 b.f0 b.f1 ac = some (way ac a b) := by
  have hw := way_bounds hac ha hb
  unfold StrokeOK at ha hb
  unfold impl_headWay.f
  rw [dist_eq (by omega) (by omega), dist_eq (by omega) (by omega)]
  simp only [Option.bind_some]
  unfold way at hw ⊢
  rw [w64 (x := ac * absd a.f0 b.f0) (by omega), w64 (by omega)]
theorem specWays_loop {ac : Int} (hac : 1 ≤ ac ∧ ac ≤ 50) (l : List S30) (hok : StrokesOK l) (d : Nat) : ∀ (k i : Nat) (n : Int), i + d = l.length → d < k → 1 ≤ i → 0 ≤ n ∧ n ≤ 3000 * i →
    spec_puSum.l0 k l ac n i = some (n + ways ac (l.drop (i - 1))) := by
  have hl := hok.2
  induction d with
  | zero =>
    intro k i n hi hk h1 hn
    obtain ⟨k, rfl⟩ : ∃ j, k = j + 1 := ⟨k - 1, by omega⟩
    rw [spec_puSum.l0, if_neg (by omega), drop_get l (i - 1) (by omega), List.drop_of_length_le (by omega)]
    simp [ways]
  | succ d ih =>
    intro k i n hi hk h1 hn
    obtain ⟨k, rfl⟩ : ∃ j, k = j + 1 := ⟨k - 1, by omega⟩
    obtain ⟨j, rfl⟩ : ∃ j, i = j + 1 := ⟨i - 1, by omega⟩
    have e1 : wrap64 (((j + 1 : Nat) : Int) - 1) = (j : Int) := by rw [w64 (by omega)]; omega
    have e2 : wrap64 (((j + 1 : Nat) : Int) + 1) = ((j + 1 + 1 : Nat) : Int) := by rw [w64 (by omega)]; omega
    have ha : StrokeOK l[j] := hok.1 _ (List.getElem_mem _)
    have hb : StrokeOK l[j + 1] := hok.1 _ (List.getElem_mem _)
    have hw := way_bounds hac ha hb
    rw [spec_puSum.l0, if_pos (by omega), e1, e2, if_pos (by omega), if_pos (by omega), if_pos (by omega), rdS_get l (j + 1) (by omega), rdS_get l j (by omega), specWay_eq hac ha hb, Nat.add_sub_cancel, drop_get l j (by omega), drop_get l (j + 1) (by omega), ways, ← drop_get l (j + 1) (by omega)]
    simp only [Option.bind_some]
    rw [w64 (by omega), ih k (j + 1 + 1) _ (by omega) (by omega) (by omega) (by omega), Nat.add_sub_cancel]
    congr 1; omega
theorem specWays_eq {ac : Int} (hac : 1 ≤ ac ∧ ac ≤ 50) (l : List S30) (hok : StrokesOK l) (k : Nat) (hk : 202 < k) : spec_puSum.f k l ac = some (ways ac l) := by
  have hl := hok.2
  unfold spec_puSum.f
  by_cases h : l.length = 0
  · obtain ⟨k, rfl⟩ : ∃ j, k = j + 1 := ⟨k - 1, by omega⟩
    rw [spec_puSum.l0, if_neg (by omega), List.length_eq_zero_iff.1 h]; rfl
  · have := specWays_loop hac l hok (l.length - 1) k 1 0 (by omega) (by omega) (by omega) (by omega)
    simpa using this
theorem implWays_loop {ac : Int} (hac : 1 ≤ ac ∧ ac ≤ 50) (l : List S30) (hok : StrokesOK l) (d : Nat) : ∀ (k i : Nat) (n : Int), i + d = l.length → d < k → 1 ≤ i → 0 ≤ n ∧ n ≤ 3000 * i →
    impl_wayOfHead.l0 k l ac n i = some (n + ways ac (l.drop (i - 1))) := by
  have hl := hok.2
  induction d with
  | zero =>
    intro k i n hi hk h1 hn
    obtain ⟨k, rfl⟩ : ∃ j, k = j + 1 := ⟨k - 1, by omega⟩
    rw [impl_wayOfHead.l0, if_neg (by omega), drop_get l (i - 1) (by omega), List.drop_of_length_le (by omega)]
    simp [ways]
  | succ d ih =>
    intro k i n hi hk h1 hn
    obtain ⟨k, rfl⟩ : ∃ j, k = j + 1 := ⟨k - 1, by omega⟩
    obtain ⟨j, rfl⟩ : ∃ j, i = j + 1 := ⟨i - 1, by omega⟩
    have e1 : wrap64 (((j + 1 : Nat) : Int) - 1) = (j : Int) := by rw [w64 (by omega)]; omega
    have e2 : wrap64 (((j + 1 : Nat) : Int) + 1) = ((j + 1 + 1 : Nat) : Int) := by rw [w64 (by omega)]; omega
    have ha : StrokeOK l[j] := hok.1 _ (List.getElem_mem _)
    have hb : StrokeOK l[j + 1] := hok.1 _ (List.getElem_mem _)
    have hw := way_bounds hac ha hb
    rw [impl_wayOfHead.l0, if_pos (by omega), e1, e2, if_pos (by omega), if_pos (by omega), if_pos (by omega), rdS_get l (j + 1) (by omega), rdS_get l j (by omega), implWay_eq hac ha hb, Nat.add_sub_cancel, drop_get l j (by omega), drop_get l (j + 1) (by omega), ways, ← drop_get l (j + 1) (by omega)]
    simp only [Option.bind_some]
    rw [w64 (by omega), ih k (j + 1 + 1) _ (by omega) (by omega) (by omega) (by omega), Nat.add_sub_cancel]
    congr 1; omega
theorem implWays_eq {ac : Int} (hac : 1 ≤ ac ∧ ac ≤ 50) (l : List S30) (hok : StrokesOK l) (k : Nat) (hk : 202 < k) : impl_wayOfHead.f k l ac = some (ways ac l) := by
  have hl := hok.2
  unfold impl_wayOfHead.f
  by_cases h : l.length = 0
  · obtain ⟨k, rfl⟩ : ∃ j, k = j + 1 := ⟨k - 1, by omega⟩
    rw [impl_wayOfHead.l0, if_neg (by omega), List.length_eq_zero_iff.1 h]; rfl
  · have := implWays_loop hac l hok (l.length - 1) k 1 0 (by omega) (by omega) (by omega) (by omega)
    simpa using this
theorem isAcross_eq (ac : Int) : impl_isAcross.f ac = some (decide (1 ≤ ac ∧ ac ≤ 50)) := by
  unfold impl_isAcross.f
  split
  · exact someD (by omega)
  · exact someF (by omega)
def swp (l : List S30) (i k : Int) : List S30 := (l.set i.toNat (rd_T30 l k)).set k.toNat (rd_T30 l i)
theorem swp_length (l : List S30) (i k : Int) : (swp l i k).length = l.length := by
  unfold swp; simp
theorem rdS_mem (l : List S30) (i : Int) (h0 : 0 ≤ i) (h1 : i < l.length) : rd_T30 l i ∈ l := by
  obtain ⟨n, rfl⟩ : ∃ n : Nat, i = n := ⟨i.toNat, by omega⟩
  rw [rdS_get l n (by omega)]
  exact List.getElem_mem _
theorem swp_ok (l : List S30) (i k : Int) (hi : 0 ≤ i ∧ i < l.length) (hk : 0 ≤ k ∧ k < l.length) (h : StrokesOK l) : StrokesOK (swp l i k) := by
  refine ⟨fun x hx => ?_, by rw [swp_length]; exact h.2⟩
  unfold swp at hx
  rcases List.mem_or_eq_of_mem_set hx with hx | rfl
  · rcases List.mem_or_eq_of_mem_set hx with hx | rfl
    · exact h.1 x hx
    · exact h.1 _ (rdS_mem l k hk.1 hk.2)
  · exact h.1 _ (rdS_mem l i hi.1 hi.2)
def GainOK (l : List S30) (i k ac : Int) : Prop := StrokesOK l ∧ (1 ≤ ac ∧ ac ≤ 50) ∧ (0 ≤ i ∧ i < l.length) ∧ (0 ≤ k ∧ k < l.length)
instance (l : List S30) (i k ac : Int) : Decidable (GainOK l i k ac) := by unfold GainOK; infer_instance
def gainOf (l : List S30) (i k ac : Int) : Int × Bool := if GainOK l i k ac then (ways ac l - ways ac (swp l i k), true) else (0, false)
theorem specSwapGain_eq (l : List S30) (hl : l.length ≤ 1048576) (i k ac : Int) (n : Nat) (hn : l.length + 300 < n) : spec_SwapGain.f n l i k ac = some (gainOf l i k ac) := by
  obtain ⟨n, rfl⟩ : ∃ j, n = j + 1 := ⟨n - 1, by omega⟩
  unfold spec_SwapGain.f spec_puAcross.f gainOf
  rw [puGood_eq l hl _ (by omega)]
  simp only [Option.bind_some, decide_eq_true_eq, in_eq]
  by_cases h : StrokesOK l
  · have hl2 := h.2
    have e : wrap64 ((l.length : Int) - 1) = (l.length : Int) - 1 := w64 (by omega)
    rw [if_pos h]
    by_cases hm : 1 ≤ ac ∧ ac ≤ 50
    · rw [if_pos hm, e]
      by_cases hi : 0 ≤ i ∧ i ≤ (l.length : Int) - 1
      · rw [if_pos hi]
        by_cases hk : 0 ≤ k ∧ k ≤ (l.length : Int) - 1
        · rw [if_pos (show GainOK l i k ac from ⟨h, hm, by omega, by omega⟩), decide_eq_true hk, spec_SwapGain.j0, if_neg (by simp)]
          simp only [Option.bind_some, List.nil_append, List.length_nil, Nat.zero_add]
          rw [if_pos (by omega), if_pos (by omega), if_pos (by omega), if_pos (by omega), if_pos (by omega), if_pos (by omega), if_pos (by omega)]
          have hs := swp_ok l i k (by omega) (by omega) h
          have b1 := ways_bounds hm l h.1
          have b2 := ways_bounds hm _ hs.1
          rw [swp_length] at b2
          rw [specWays_eq hm l h n (by omega)]
          have := specWays_eq hm _ hs n (by omega)
          show ((some (ways ac l)).bind fun a => (spec_puSum.f n (swp l i k) ac).bind fun b => some (wrap64 (a - b), true)) = _
          rw [this]
          simp only [Option.bind_some]
          rw [w64 (by omega)]
        · rw [decide_eq_false hk, spec_SwapGain.j0, if_pos (by simp), if_neg (fun hh => hk ⟨hh.2.2.2.1, by have := hh.2.2.2.2; omega⟩)]
      · rw [if_neg hi, spec_SwapGain.j0, if_pos rfl, if_neg (fun hh => hi ⟨hh.2.2.1.1, by have := hh.2.2.1.2; omega⟩)]
    · rw [if_neg hm, spec_SwapGain.j0, if_pos rfl, if_neg (fun hh => hm hh.2.1)]
  · rw [if_neg h, spec_SwapGain.j0, if_pos rfl, if_neg (fun hh => h hh.1)]
theorem implSwapGain_eq (l : List S30) (hl : l.length ≤ 1048576) (i k ac : Int) (n : Nat) (hn : l.length + 300 < n) : impl_SwapGain.f n l i k ac = some (gainOf l i k ac) := by
  obtain ⟨n, rfl⟩ : ∃ j, n = j + 1 := ⟨n - 1, by omega⟩
  unfold impl_SwapGain.f gainOf
  rw [areStrokes_eq l hl _ (by omega), isAcross_eq]
  simp only [Option.bind_some, decide_eq_true_eq]
  by_cases h : StrokesOK l
  · have hl2 := h.2
    rw [if_pos h]
    by_cases hm : 1 ≤ ac ∧ ac ≤ 50
    · rw [if_pos hm]
      by_cases hi0 : i < 0
      · rw [if_pos hi0, impl_SwapGain.j0, if_pos rfl, if_neg (fun hh => by have := hh.2.2.1; omega)]
      · by_cases hi1 : i ≥ l.length
        · rw [if_neg hi0, if_pos hi1, impl_SwapGain.j0, if_pos rfl, if_neg (fun hh => by have := hh.2.2.1; omega)]
        · by_cases hk0 : k < 0
          · rw [if_neg hi0, if_neg hi1, if_pos hk0, impl_SwapGain.j0, if_pos rfl, if_neg (fun hh => by have := hh.2.2.2; omega)]
          · by_cases hk1 : k ≥ l.length
            · rw [if_neg hi0, if_neg hi1, if_neg hk0, decide_eq_true hk1, impl_SwapGain.j0, if_pos rfl, if_neg (fun hh => by have := hh.2.2.2; omega)]
            · rw [if_neg hi0, if_neg hi1, if_neg hk0, decide_eq_false hk1, impl_SwapGain.j0, if_neg (by decide), if_pos (show GainOK l i k ac from ⟨h, hm, by omega, by omega⟩)]
              unfold slices_Clone_Stroke.f
              rw [if_pos (by omega)]
              simp only [Option.bind_some]
              rw [if_pos (by omega), if_pos (by omega), if_pos (by omega), if_pos (by omega)]
              have hs := swp_ok l i k (by omega) (by omega) h
              have b1 := ways_bounds hm l h.1
              have b2 := ways_bounds hm _ hs.1
              rw [swp_length] at b2
              rw [implWays_eq hm l h n (by omega)]
              have := implWays_eq hm _ hs n (by omega)
              show ((some (ways ac l)).bind fun a => (impl_wayOfHead.f n (swp l i k) ac).bind fun b => some (wrap64 (a - b), true)) = _
              rw [this]
              simp only [Option.bind_some]
              rw [w64 (by omega)]
    · rw [if_neg hm, impl_SwapGain.j0, if_pos rfl, if_neg (fun hh => hm hh.2.1)]
  · rw [if_neg h, impl_SwapGain.j0, if_pos rfl, if_neg (fun hh => h hh.1)]
theorem specWayOfHead_eq (l : List S30) (hl : l.length ≤ 1048576) (ac : Int) (k : Nat) (hk : l.length + 300 < k) : spec_WayOfHead.f k l ac = some (if StrokesOK l ∧ 1 ≤ ac ∧ ac ≤ 50 then (ways ac l, true) else (0, false)) := by
  unfold spec_WayOfHead.f spec_puAcross.f
  rw [puGood_eq l hl _ (by omega)]
  simp only [Option.bind_some, decide_eq_true_eq, in_eq]
  by_cases h : StrokesOK l
  · by_cases hm : 1 ≤ ac ∧ ac ≤ 50
    · rw [if_pos h, if_pos hm, if_pos ⟨h, hm⟩, specWays_eq hm l h k (by omega)]; rfl
    · rw [if_pos h, if_neg hm, if_neg (fun h => hm h.2)]
  · rw [if_neg h, if_neg (fun h' => h h'.1)]
theorem implWayOfHead_eq (l : List S30) (hl : l.length ≤ 1048576) (ac : Int) (k : Nat) (hk : l.length + 300 < k) : impl_WayOfHead.f k l ac = some (if StrokesOK l ∧ 1 ≤ ac ∧ ac ≤ 50 then (ways ac l, true) else (0, false)) := by
  unfold impl_WayOfHead.f
  rw [areStrokes_eq l hl _ (by omega), isAcross_eq]
  simp only [Option.bind_some, decide_eq_true_eq]
  by_cases h : StrokesOK l
  · by_cases hm : 1 ≤ ac ∧ ac ≤ 50
    · rw [if_pos h, if_pos hm, if_pos ⟨h, hm⟩, implWays_eq hm l h k (by omega)]; rfl
    · rw [if_pos h, if_neg hm, if_neg (fun h => hm h.2)]
  · rw [if_neg h, if_neg (fun h' => h h'.1)]
def changes (m : Int) : List S30 → Int
  | a :: b :: r => (if Int.tmod b.f0 m = Int.tmod a.f0 m then 0 else 1) + changes m (b :: r)
  | _ => 0
theorem changes_bounds (m : Int) (l : List S30) : 0 ≤ changes m l ∧ changes m l ≤ l.length := by
  induction l with
  | nil => simp [changes]
  | cons a r ih =>
    cases r with
    | nil => simp [changes]
    | cons b r =>
      rw [changes]
      simp only [List.length_cons] at ih ⊢
      split <;> omega
theorem specChanges_loop (l : List S30) (hl : l.length ≤ 1048576) (m : Int) (hm : m ≠ 0) (d : Nat) : ∀ (k i : Nat) (n : Int), i + d = l.length → d < k → 1 ≤ i → 0 ≤ n ∧ n ≤ i →
    spec_ToolChanges.l0 k l m n i = some (n + changes m (l.drop (i - 1)), true) := by
  induction d with
  | zero =>
    intro k i n hi hk h1 hn
    obtain ⟨k, rfl⟩ : ∃ j, k = j + 1 := ⟨k - 1, by omega⟩
    rw [spec_ToolChanges.l0, if_neg (by omega), drop_get l (i - 1) (by omega), List.drop_of_length_le (by omega)]
    simp [changes]
  | succ d ih =>
    intro k i n hi hk h1 hn
    obtain ⟨k, rfl⟩ : ∃ j, k = j + 1 := ⟨k - 1, by omega⟩
    obtain ⟨j, rfl⟩ : ∃ j, i = j + 1 := ⟨i - 1, by omega⟩
    have e1 : wrap64 (((j + 1 : Nat) : Int) - 1) = (j : Int) := by rw [w64 (by omega)]; omega
    have e2 : wrap64 (((j + 1 : Nat) : Int) + 1) = ((j + 1 + 1 : Nat) : Int) := by rw [w64 (by omega)]; omega
    rw [spec_ToolChanges.l0, if_pos (by omega), if_pos (by omega), if_neg hm, e1, e2, if_pos (by omega), if_pos (by omega), rdS_get l (j + 1) (by omega), rdS_get l j (by omega), Nat.add_sub_cancel, drop_get l j (by omega), drop_get l (j + 1) (by omega), changes, ← drop_get l (j + 1) (by omega)]
    split
    · rw [ih k (j + 1 + 1) n (by omega) (by omega) (by omega) (by omega), Nat.add_sub_cancel]; simp
    · rw [w64 (by omega), ih k (j + 1 + 1) (n + 1) (by omega) (by omega) (by omega) (by omega), Nat.add_sub_cancel]; simp; omega
theorem specChanges_eq (l : List S30) (hl : l.length ≤ 1048576) (m : Int) (hm : m ≠ 0) (k : Nat) (hk : l.length + 1 < k) : spec_ToolChanges.l0 k l m 0 1 = some (changes m l, true) := by
  by_cases h : l.length = 0
  · obtain ⟨k, rfl⟩ : ∃ j, k = j + 1 := ⟨k - 1, by omega⟩
    rw [spec_ToolChanges.l0, if_neg (by omega), List.length_eq_zero_iff.1 h]; rfl
  · have := specChanges_loop l hl m hm (l.length - 1) k 1 0 (by omega) (by omega) (by omega) (by omega)
    simpa using this
theorem specToolChanges_eq (l : List S30) (hl : l.length ≤ 1048576) (m : Int) (k : Nat) (hk : l.length + 3 < k) : spec_ToolChanges.f k l m = some (if StrokesOK l ∧ 1 ≤ m ∧ m ≤ 5 then (changes m l, true) else (0, false)) := by
  obtain ⟨k, rfl⟩ : ∃ j, k = j + 1 := ⟨k - 1, by omega⟩
  unfold spec_ToolChanges.f spec_puTools.f
  rw [puGood_eq l hl _ (by omega)]
  simp only [Option.bind_some, decide_eq_true_eq, in_eq, spec_ToolChanges.j0]
  by_cases h : StrokesOK l
  · by_cases hm : 1 ≤ m ∧ m ≤ 5
    · rw [if_pos h, if_neg (by simp [hm]), if_pos ⟨h, hm⟩, specChanges_eq l hl m (by omega) k (by omega)]
    · rw [if_pos h, if_pos (by simp; omega), if_neg (fun h => hm h.2)]
  · rw [if_neg h, if_pos trivial, if_neg (fun h' => h h'.1)]
theorem implChanges_loop (l : List S30) (hl : l.length ≤ 1048576) (m : Int) (hm : m ≠ 0) (d : Nat) : ∀ (k i : Nat) (n : Int), i + d = l.length → d < k → 1 ≤ i → 0 ≤ n ∧ n ≤ i →
    impl_ToolChanges.l0 k l m n i = some (n + changes m (l.drop (i - 1)), true) := by
  induction d with
  | zero =>
    intro k i n hi hk h1 hn
    obtain ⟨k, rfl⟩ : ∃ j, k = j + 1 := ⟨k - 1, by omega⟩
    rw [impl_ToolChanges.l0, if_neg (by omega), drop_get l (i - 1) (by omega), List.drop_of_length_le (by omega)]
    simp [changes]
  | succ d ih =>
    intro k i n hi hk h1 hn
    obtain ⟨k, rfl⟩ : ∃ j, k = j + 1 := ⟨k - 1, by omega⟩
    obtain ⟨j, rfl⟩ : ∃ j, i = j + 1 := ⟨i - 1, by omega⟩
    have e1 : wrap64 (((j + 1 : Nat) : Int) - 1) = (j : Int) := by rw [w64 (by omega)]; omega
    have e2 : wrap64 (((j + 1 : Nat) : Int) + 1) = ((j + 1 + 1 : Nat) : Int) := by rw [w64 (by omega)]; omega
    rw [impl_ToolChanges.l0, if_pos (by omega), if_pos (by omega), if_neg hm, e1, e2, if_pos (by omega), if_pos (by omega), rdS_get l (j + 1) (by omega), rdS_get l j (by omega), Nat.add_sub_cancel, drop_get l j (by omega), drop_get l (j + 1) (by omega), changes, ← drop_get l (j + 1) (by omega)]
    split
    · rw [ih k (j + 1 + 1) n (by omega) (by omega) (by omega) (by omega), Nat.add_sub_cancel]; simp
    · rw [w64 (by omega), ih k (j + 1 + 1) (n + 1) (by omega) (by omega) (by omega) (by omega), Nat.add_sub_cancel]; simp; omega
theorem implChanges_eq (l : List S30) (hl : l.length ≤ 1048576) (m : Int) (hm : m ≠ 0) (k : Nat) (hk : l.length + 1 < k) : impl_ToolChanges.l0 k l m 0 1 = some (changes m l, true) := by
  by_cases h : l.length = 0
  · obtain ⟨k, rfl⟩ : ∃ j, k = j + 1 := ⟨k - 1, by omega⟩
    rw [impl_ToolChanges.l0, if_neg (by omega), List.length_eq_zero_iff.1 h]; rfl
  · have := implChanges_loop l hl m hm (l.length - 1) k 1 0 (by omega) (by omega) (by omega) (by omega)
    simpa using this
theorem implToolChanges_eq (l : List S30) (hl : l.length ≤ 1048576) (m : Int) (k : Nat) (hk : l.length + 3 < k) : impl_ToolChanges.f k l m = some (if StrokesOK l ∧ 1 ≤ m ∧ m ≤ 5 then (changes m l, true) else (0, false)) := by
  obtain ⟨k, rfl⟩ : ∃ j, k = j + 1 := ⟨k - 1, by omega⟩
  have ht : impl_isTools.f m = some (decide (1 ≤ m ∧ m ≤ 5)) := by
    unfold impl_isTools.f
    split
    · exact someD (by omega)
    · exact someF (by omega)
  unfold impl_ToolChanges.f
  rw [areStrokes_eq l hl _ (by omega), ht]
  simp only [Option.bind_some, decide_eq_true_eq, impl_ToolChanges.j0]
  by_cases h : StrokesOK l
  · by_cases hm : 1 ≤ m ∧ m ≤ 5
    · rw [if_pos h, if_neg (by simp [hm]), if_pos ⟨h, hm⟩, implChanges_eq l hl m (by omega) k (by omega)]
    · rw [if_pos h, if_pos (by simp; omega), if_neg (fun h => hm h.2)]
  · rw [if_neg h, if_pos trivial, if_neg (fun h' => h h'.1)]
def wearStep (m : Int) (out : List Int) (x : S30) : List Int := out.set (Int.tmod x.f0 m).toNat (rd out (Int.tmod x.f0 m) + 1)
def wear (m : Int) (l : List S30) : List Int := l.foldl (wearStep m) (List.replicate m.toNat 0)
theorem rd_bound {out : List Int} {n : Int} (hn : 0 ≤ n) (h : ∀ x ∈ out, 0 ≤ x ∧ x ≤ n) (i : Int) : 0 ≤ rd out i ∧ rd out i ≤ n := by
  unfold rd
  rw [List.getD_eq_getElem?_getD]
  cases he : out[i.toNat]? with
  | none => simp; omega
  | some v => exact h v (List.mem_of_getElem? he)
theorem wearStep_bound {m : Int} {out : List Int} {n : Int} (hn : 0 ≤ n) (h : ∀ x ∈ out, 0 ≤ x ∧ x ≤ n) (x : S30) : ∀ y ∈ wearStep m out x, 0 ≤ y ∧ y ≤ n + 1 := by
  intro y hy
  unfold wearStep at hy
  have hb := rd_bound hn h (Int.tmod x.f0 m)
  rcases List.mem_or_eq_of_mem_set hy with hy | hy
  · have := h y hy; omega
  · omega
theorem wearStep_length (m : Int) (out : List Int) (x : S30) : (wearStep m out x).length = out.length := by
  unfold wearStep; simp
theorem specWear_loop {m : Int} (hm : 1 ≤ m ∧ m ≤ 5) (l : List S30) (hok : StrokesOK l) (d : Nat) : ∀ (k i : Nat) (out : List Int), i + d = l.length → d < k → out.length = m.toNat → (∀ x ∈ out, 0 ≤ x ∧ x ≤ (i : Int)) →
    spec_WearOf.l0 k m out l l.length i = some ((l.drop i).foldl (wearStep m) out, true) := by
  have hl := hok.2
  induction d with
  | zero =>
    intro k i out hi hk ho hb
    obtain ⟨k, rfl⟩ : ∃ j, k = j + 1 := ⟨k - 1, by omega⟩
    rw [spec_WearOf.l0, if_neg (by omega), List.drop_of_length_le (by omega)]
    rfl
  | succ d ih =>
    intro k i out hi hk ho hb
    obtain ⟨k, rfl⟩ : ∃ j, k = j + 1 := ⟨k - 1, by omega⟩
    have hx : StrokeOK l[i] := hok.1 _ (List.getElem_mem _)
    have hx' := hx
    unfold StrokeOK at hx'
    have ht : Int.tmod l[i].f0 m = l[i].f0 % m := Int.tmod_eq_emod_of_nonneg hx'.1
    have t0 := Int.emod_nonneg l[i].f0 (show m ≠ 0 by omega)
    have t1 := Int.emod_lt_of_pos l[i].f0 (show 0 < m by omega)
    have hr := rd_bound (by omega) hb (Int.tmod l[i].f0 m)
    rw [spec_WearOf.l0, if_pos (by omega), if_pos (by omega), if_pos (by omega), if_neg (by omega), rdS_get l i (by omega), if_pos (by omega), if_pos (by omega), w64 (by omega), w64 (by omega), drop_get l i (by omega), List.foldl_cons]
    rw [show ((i : Int) + 1) = ((i + 1 : Nat) : Int) by omega]
    refine ih k (i + 1) _ (by omega) (by omega) (by rw [List.length_set]; exact ho) ?_
    have := wearStep_bound (m := m) (by omega) hb l[i]
    unfold wearStep at this
    intro x hx
    have := this x hx
    omega
theorem specWearOf_eq (l : List S30) (hl : l.length ≤ 1048576) (m : Int) (k : Nat) (hk : l.length + 300 < k) : spec_WearOf.f k l m = some (if StrokesOK l ∧ 1 ≤ m ∧ m ≤ 5 then (wear m l, true) else ([], false)) := by
  obtain ⟨k, rfl⟩ : ∃ j, k = j + 1 := ⟨k - 1, by omega⟩
  unfold spec_WearOf.f spec_puTools.f
  rw [puGood_eq l hl _ (by omega)]
  simp only [Option.bind_some, decide_eq_true_eq, in_eq, spec_WearOf.j0]
  by_cases h : StrokesOK l
  · by_cases hm : 1 ≤ m ∧ m ≤ 5
    · have := specWear_loop hm l h l.length k 0 (List.replicate m.toNat 0) (by omega) (by omega) (by simp) (fun x hx => by rw [List.eq_of_mem_replicate hx]; simp)
      rw [if_pos h, if_neg (by simp [hm]), if_pos (by omega), if_pos (by omega), if_pos ⟨h, hm⟩]
      rw [List.drop_zero] at this
      exact this
    · rw [if_pos h, if_pos (by simp; omega), if_neg (fun h => hm h.2)]
  · rw [if_neg h, if_pos trivial, if_neg (fun h' => h h'.1)]
theorem implWear_loop {m : Int} (hm : 1 ≤ m ∧ m ≤ 5) (l : List S30) (hok : StrokesOK l) (d : Nat) : ∀ (k i : Nat) (out : List Int), i + d = l.length → d < k → out.length = m.toNat → (∀ x ∈ out, 0 ≤ x ∧ x ≤ (i : Int)) →
    impl_WearOf.l0 k m out l l.length i = some ((l.drop i).foldl (wearStep m) out, true) := by
  have hl := hok.2
  induction d with
  | zero =>
    intro k i out hi hk ho hb
    obtain ⟨k, rfl⟩ : ∃ j, k = j + 1 := ⟨k - 1, by omega⟩
    rw [impl_WearOf.l0, if_neg (by omega), List.drop_of_length_le (by omega)]
    rfl
  | succ d ih =>
    intro k i out hi hk ho hb
    obtain ⟨k, rfl⟩ : ∃ j, k = j + 1 := ⟨k - 1, by omega⟩
    have hx : StrokeOK l[i] := hok.1 _ (List.getElem_mem _)
    have hx' := hx
    unfold StrokeOK at hx'
    have ht : Int.tmod l[i].f0 m = l[i].f0 % m := Int.tmod_eq_emod_of_nonneg hx'.1
    have t0 := Int.emod_nonneg l[i].f0 (show m ≠ 0 by omega)
    have t1 := Int.emod_lt_of_pos l[i].f0 (show 0 < m by omega)
    have hr := rd_bound (by omega) hb (Int.tmod l[i].f0 m)
    rw [impl_WearOf.l0, if_pos (by omega), if_pos (by omega), if_pos (by omega), if_neg (by omega), rdS_get l i (by omega), if_pos (by omega), if_pos (by omega), w64 (by omega), w64 (by omega), drop_get l i (by omega), List.foldl_cons]
    rw [show ((i : Int) + 1) = ((i + 1 : Nat) : Int) by omega]
    refine ih k (i + 1) _ (by omega) (by omega) (by rw [List.length_set]; exact ho) ?_
    have := wearStep_bound (m := m) (by omega) hb l[i]
    unfold wearStep at this
    intro x hx
    have := this x hx
    omega
theorem implWearOf_eq (l : List S30) (hl : l.length ≤ 1048576) (m : Int) (k : Nat) (hk : l.length + 300 < k) : impl_WearOf.f k l m = some (if StrokesOK l ∧ 1 ≤ m ∧ m ≤ 5 then (wear m l, true) else ([], false)) := by
  obtain ⟨k, rfl⟩ : ∃ j, k = j + 1 := ⟨k - 1, by omega⟩
  have ht : impl_isTools.f m = some (decide (1 ≤ m ∧ m ≤ 5)) := by
    unfold impl_isTools.f
    split
    · exact someD (by omega)
    · exact someF (by omega)
  unfold impl_WearOf.f
  rw [areStrokes_eq l hl _ (by omega), ht]
  simp only [Option.bind_some, decide_eq_true_eq, impl_WearOf.j0]
  by_cases h : StrokesOK l
  · by_cases hm : 1 ≤ m ∧ m ≤ 5
    · have := implWear_loop hm l h l.length k 0 (List.replicate m.toNat 0) (by omega) (by omega) (by simp) (fun x hx => by rw [List.eq_of_mem_replicate hx]; simp)
      rw [if_pos h, if_neg (by simp [hm]), if_pos (by omega), if_pos (by omega), if_pos ⟨h, hm⟩]
      rw [List.drop_zero] at this
      exact this
    · rw [if_pos h, if_pos (by simp; omega), if_neg (fun h => hm h.2)]
  · rw [if_neg h, if_pos trivial, if_neg (fun h' => h h'.1)]
theorem wear_length (m : Int) (l : List S30) : (wear m l).length = m.toNat := by
  unfold wear
  have : ∀ (l : List S30) (out : List Int), (l.foldl (wearStep m) out).length = out.length := by
    intro l
    induction l with
    | nil => intro out; rfl
    | cons x r ih => intro out; rw [List.foldl_cons, ih, wearStep_length]
  rw [this]; simp
def Tot {α : Type} (g : Nat → Option α) (Q : α → Prop) : Prop := ∃ r, Q r ∧ ∃ K, ∀ k, K ≤ k → g k = some r
theorem Tot.now {α : Type} {g : Nat → Option α} {Q : α → Prop} (r : α) (h : ∀ k, g k = some r) (q : Q r) : Tot g Q := ⟨r, q, 0, fun k _ => h k⟩
theorem Tot.ge {α : Type} {g : Nat → Option α} {Q : α → Prop} (r : α) (K : Nat) (h : ∀ k, K ≤ k → g k = some r) (q : Q r) : Tot g Q := ⟨r, q, K, h⟩
theorem Tot.step {α : Type} {g h : Nat → Option α} {Q : α → Prop} (hs : ∀ k, g (k + 1) = h k) (e : Tot h Q) : Tot g Q := by
  obtain ⟨r, q, K, hK⟩ := e
  refine ⟨r, q, K + 1, fun k hk => ?_⟩
  obtain ⟨j, rfl⟩ : ∃ j, k = j + 1 := ⟨k - 1, by omega⟩
  rw [hs]
  exact hK j (by omega)
theorem Tot.congr {α : Type} {g h : Nat → Option α} {Q : α → Prop} (hs : ∀ k, g k = h k) (e : Tot h Q) : Tot g Q := by
  obtain ⟨r, q, K, hK⟩ := e
  exact ⟨r, q, K, fun k hk => by rw [hs]; exact hK k hk⟩
theorem Tot.bind {α β : Type} {g : Nat → Option α} {Q : α → Prop} {h : Nat → α → Option β} {R : β → Prop} (e : Tot g Q) (e2 : ∀ a, Q a → Tot (fun k => h k a) R) : Tot (fun k => (g k).bind (h k)) R := by
  obtain ⟨a, q, K, hK⟩ := e
  obtain ⟨r, p, M, hM⟩ := e2 a q
  refine ⟨r, p, K + M, fun k hk => ?_⟩
  simp only []
  rw [hK k (by omega), Option.bind_some]
  exact hM k (by omega)
theorem Tot.weak {α : Type} {g : Nat → Option α} {Q R : α → Prop} (e : Tot g Q) (h : ∀ a, Q a → R a) : Tot g R := by
  obtain ⟨r, q, K, hK⟩ := e
  exact ⟨r, h r q, K, hK⟩
theorem Tot.mono {α : Type} {g : Nat → Option α} {Q : α → Prop} (e : Tot g Q) : ∃ r, Q r ∧ ∃ K, ∀ k, K ≤ k → g k = some r := e
theorem w_next (n : Nat) (h : n ≤ 1000000) : wrap64 ((n : Int) + 1) = ((n + 1 : Nat) : Int) := by rw [w64 (by omega)]; omega
def HV (n : Int) (x : S76) : Prop := -2000 ≤ x.f1 ∧ x.f1 ≤ n ∧ -2000 ≤ x.f2 ∧ x.f2 ≤ n
theorem HV.mono {n m : Int} (h : n ≤ m) {x : S76} (hx : HV n x) : HV m x := by unfold HV at *; omega
theorem ins_mem {α : Type} (out : List α) (n : α) (p : Nat) : ∀ x ∈ out.take p ++ [n] ++ out.drop p, x ∈ out ∨ x = n := by
  intro x hx
  rcases List.mem_append.1 hx with h | h
  · rcases List.mem_append.1 h with h | h
    · exact Or.inl (List.mem_of_mem_take h)
    · exact Or.inr (List.mem_singleton.1 h)
  · exact Or.inl (List.mem_of_mem_drop h)
theorem rdH_mem (l : List S76) (i : Int) (h0 : 0 ≤ i) (h1 : i < l.length) : rd_T76 l i ∈ l := by
  obtain ⟨n, rfl⟩ : ∃ n : Nat, i = n := ⟨i.toNat, by omega⟩
  rw [rdH_get l n (by omega)]
  exact List.getElem_mem _
theorem among_in (l : List Int) (hl : Bytes l) (a s : Int) (ha : 0 ≤ a ∧ a ≤ 900000) (xs : List Int) (hx : 1 ≤ xs.length) :
    ∃ v a' s', spec_l1Cur_among.f l a s xs = some (v, a', s') ∧ a ≤ a' ∧ a' ≤ a + 2 ∧ v ∈ xs := by
  obtain ⟨v, a', s', e, h0, h1, h2, h3⟩ := pick_ok l hl a s ha (xs.length : Int)
  have h4 := h1 (by omega)
  unfold spec_l1Cur_among.f
  rw [e]
  simp only [Option.bind_some]
  rw [if_pos h0, if_pos h4]
  refine ⟨_, _, _, rfl, h2, h3, ?_⟩
  obtain ⟨n, rfl⟩ : ∃ n : Nat, v = n := ⟨v.toNat, by omega⟩
  rw [rd_get xs n (by omega)]
  exact List.getElem_mem _
theorem place_tot (out l : List S76) (hl : out.length ≤ 1000) (a b c : Int) (n i : Int) {Q : List S76 × Bool → Prop}
    (hk : ∀ o : List S76, o.length = out.length + 1 → (∀ x ∈ o, x ∈ out ∨ x = (⟨a, b, c⟩ : S76)) → Tot (fun k => spec_shSorted.l0 k o l n (wrap64 (i + 1))) Q) :
    ∀ p, p ≤ out.length → Tot (fun k => spec_shSorted.l1 k out p l n i a b c) Q := by
  intro p
  induction p with
  | zero =>
    intro hp
    refine Tot.step (h := fun k => spec_shSorted.l0 k (out.take 0 ++ [(⟨a, b, c⟩ : S76)] ++ out.drop 0) l n (wrap64 (i + 1))) (fun k => ?_) (hk _ (by simp) (fun x hx => ins_mem out _ 0 x hx))
    rw [spec_shSorted.l1, if_neg (by simp)]
    simp only [Option.bind_some]
    rw [if_pos (by omega), if_pos (by omega)]
    simp only [Int.toNat_natCast, List.nil_append]
    rw [if_pos (by simp), if_pos (by simp), if_pos (by simp; omega)]
  | succ p ih =>
    intro hp
    have e1 : wrap64 (((p + 1 : Nat) : Int) - 1) = (p : Int) := by rw [w64 (by omega)]; omega
    by_cases hb : hBefore (⟨a, b, c⟩ : S76) (out[p]'(by omega)) = true
    · refine Tot.step (h := fun k => spec_shSorted.l1 k out p l n i a b c) (fun k => ?_) (ih (by omega))
      rw [spec_shSorted.l1, if_pos (by omega), e1, if_pos (by omega), if_pos (by omega), rdH_get out p (by omega), shBefore_eq]
      simp only [Option.bind_some]
      rw [hb, if_pos rfl]
    · have hb' : hBefore (⟨a, b, c⟩ : S76) (out[p]'(by omega)) = false := Bool.eq_false_iff.2 hb
      refine Tot.step (h := fun k => spec_shSorted.l0 k (out.take (p + 1) ++ [(⟨a, b, c⟩ : S76)] ++ out.drop (p + 1)) l n (wrap64 (i + 1))) (fun k => ?_) (hk _ (by simp; omega) (fun x hx => ins_mem out _ (p + 1) x hx))
      rw [spec_shSorted.l1, if_pos (by omega), e1, if_pos (by omega), if_pos (by omega), rdH_get out p (by omega), shBefore_eq]
      simp only [Option.bind_some]
      rw [hb', if_neg (by decide), if_pos (by omega), if_pos (by omega)]
      simp only [Int.toNat_natCast, List.nil_append]
      rw [if_pos (by simp; omega), if_pos (by simp; omega), if_pos (by simp; omega)]
theorem sorted_tot (l : List S76) (hl : l.length ≤ 100) (d : Nat) : ∀ (i : Nat) (out : List S76), i + d = l.length → out.length = i → (∀ x ∈ out, x ∈ l) → Tot (fun k => spec_shSorted.l0 k out l l.length i) (fun r => r.1.length ≤ l.length ∧ ∀ x ∈ r.1, x ∈ l) := by
  induction d with
  | zero =>
    intro i out hi ho hin
    refine Tot.step (h := fun k => (spec_shGood.f k out).bind fun t => if t = true then some (out, true) else some ([], false)) (fun k => by rw [spec_shSorted.l0, if_neg (by omega)]) ?_
    refine Tot.bind (Q := fun _ => True) (Tot.ge _ (fuelH 0 out.length) (fun k hk => shGood_eq out (by omega) k hk) trivial) (fun t _ => ?_)
    cases t with
    | true => exact Tot.now _ (fun k => if_pos rfl) ⟨by simp; omega, hin⟩
    | false => exact Tot.now _ (fun k => if_neg (by decide)) ⟨by simp, by simp⟩
  | succ d ih =>
    intro i out hi ho hin
    refine Tot.step (h := fun k => spec_shSorted.l1 k out (out.length : Nat) l l.length i ((rd_T76 l i).f0) ((rd_T76 l i).f1) ((rd_T76 l i).f2)) (fun k => by rw [spec_shSorted.l0, if_pos (by omega), if_pos (by omega), if_pos (by omega)]) ?_
    refine place_tot out l (by omega) _ _ _ _ _ (fun o ho' hm => ?_) out.length (Nat.le_refl _)
    rw [w_next i (by omega)]
    refine ih (i + 1) o (by omega) (by omega) (fun x hx => ?_)
    rcases hm x hx with h | h
    · exact hin x h
    · rw [h, rdH_get l i (by omega)]
      exact List.getElem_mem _
theorem with_tot (l : List S76) (hl : l.length ≤ 90) (a b c : Int) : Tot (fun k => spec_shWith.f k l a b c) (fun r => r.1.length ≤ l.length + 1 ∧ ∀ x ∈ r.1, x ∈ l ∨ x = (⟨a, b, c⟩ : S76)) := by
  refine Tot.congr (h := fun k => (spec_shSorted.f k (l ++ [(⟨a, b, c⟩ : S76)])).bind fun bt => some (bt.1, bt.2)) (fun k => ?_) ?_
  · unfold spec_shWith.f
    simp only [Option.bind_some, List.nil_append]
    rw [if_pos (by simp; omega), if_pos (by simp; omega)]
  · have hs : Tot (fun k => spec_shSorted.f k (l ++ [(⟨a, b, c⟩ : S76)])) (fun r => r.1.length ≤ (l ++ [(⟨a, b, c⟩ : S76)]).length ∧ ∀ x ∈ r.1, x ∈ l ++ [(⟨a, b, c⟩ : S76)]) := sorted_tot (l ++ [(⟨a, b, c⟩ : S76)]) (by simp; omega) (l ++ [(⟨a, b, c⟩ : S76)]).length 0 [] (by omega) rfl (fun x hx => by cases hx)
    exact Tot.bind hs (fun r hr => Tot.now _ (fun _ => rfl) ⟨by simpa using hr.1, fun x hx => by simpa using hr.2 x hx⟩)
theorem hole_ok (l : List Int) (hl : Bytes l) (a s : Int) (ha : 0 ≤ a ∧ a ≤ 800000) : ∃ t f e a' s', spec_l1Cur_hole.f l a s = some (t, f, e, a', s') ∧ a ≤ a' ∧ a' ≤ a + 12 ∧ HV 2100 ⟨t, f, e⟩ := by
  unfold spec_l1Cur_hole.f
  obtain ⟨v1, a1, s1, e1, b1, c1, l1, u1⟩ := pick_ok l hl a s (by omega) 40
  rw [e1]; simp only [Option.bind_some]
  obtain ⟨v2, a2, s2, e2, b2, c2, l2, u2⟩ := pick_ok l hl a1 s1 (by omega) 60
  rw [e2]; simp only [Option.bind_some]
  obtain ⟨v3, a3, s3, e3, l3, u3, m3⟩ := among_in l hl a2 s2 (by omega) [0, 2, 5, v1, v2, 1990] (by simp)
  rw [e3]; simp only [Option.bind_some]
  obtain ⟨v4, a4, s4, e4, _, _, l4, u4⟩ := pick_ok l hl a3 s3 (by omega) 20
  rw [e4]; simp only [Option.bind_some]
  obtain ⟨v5, a5, s5, e5, l5, u5⟩ := among_ok l hl a4 s4 (by omega) [0, 1, 2, 3, 5, v4] (by simp)
  rw [e5]; simp only [Option.bind_some]
  obtain ⟨v6, a6, s6, e6, l6, u6, m6⟩ := among_in l hl a5 s5 (by omega) [1, 2, 3, 4, 10] (by simp)
  rw [e6]; simp only [Option.bind_some]
  have c1' := c1 (by omega)
  have c2' := c2 (by omega)
  have h3 : 0 ≤ v3 ∧ v3 ≤ 1990 := by
    simp only [List.mem_cons, List.not_mem_nil, or_false] at m3
    rcases m3 with h | h | h | h | h | h <;> omega
  have h6 : 1 ≤ v6 ∧ v6 ≤ 10 := by
    simp only [List.mem_cons, List.not_mem_nil, or_false] at m6
    rcases m6 with h | h | h | h | h <;> omega
  refine ⟨_, _, _, a6, s6, rfl, by omega, by omega, ?_⟩
  unfold HV
  simp only
  rw [w64 (by omega)]
  omega
theorem sheet0_tot (l : List Int) (hl : Bytes l) (d : Nat) : ∀ (x : List S76) (a s : Int), x.length + d = 60 → 0 ≤ a → a + 2 * d ≤ 800000 →
    (∀ y ∈ x, HV 2100 y) → Tot (fun k => spec_l1Cur_sheet.l0 k x l a s) (fun r => r.1.length ≤ 60 ∧ a ≤ r.2.1 ∧ r.2.1 ≤ a + 2 * d ∧ ∀ y ∈ r.1, HV 2100 y) := by
  induction d with
  | zero =>
    intro x a s hx h0 ha hv
    exact Tot.step (h := fun _ => some (x, a, s)) (fun k => by rw [spec_l1Cur_sheet.l0, if_neg (by omega)]) (Tot.now _ (fun _ => rfl) ⟨by simp only []; omega, by simp only []; omega, by simp only []; omega, hv⟩)
  | succ d ih =>
    intro x a s hx h0 ha hv
    obtain ⟨v1, a1, s1, e1, b1, c1, l1, u1⟩ := pick_ok l hl a s (by omega) 5
    refine Tot.step (h := fun k => spec_l1Cur_sheet.l0 k (x ++ [_]) l a1 s1) (fun k => by rw [spec_l1Cur_sheet.l0, if_pos (by omega), e1]; simp only [Option.bind_some]; rw [if_pos (by omega)]) ?_
    refine Tot.weak (ih (x ++ [_]) a1 s1 (by simp; omega) (by omega) (by omega) (fun y hy => ?_)) (fun r hr => ⟨hr.1, by omega, by omega, hr.2.2.2⟩)
    rcases List.mem_append.1 hy with h | h
    · exact hv y h
    · rw [List.mem_singleton.1 h]
      have c1' := c1 (by omega)
      have e5 : wrap64 ((x.length : Int) / 5) = (x.length : Int) / 5 := w64 (by omega)
      unfold HV
      simp only
      rw [e5, w64 (x := 6 * ((x.length : Int) / 5)) (by omega), w64 (x := 6 * ((x.length : Int) / 5) + 1) (by omega), w64 (by omega)]
      omega
theorem sheet2_tot (l : List Int) (hl : Bytes l) (n : Int) (hn : n ≤ 60) (d : Nat) : ∀ (x : List S76) (i : Nat) (a s : Int), i + d = 60 → x.length ≤ 60 → 0 ≤ a → a + 12 * d ≤ 800000 → (∀ y ∈ x, HV 2100 y) →
    Tot (fun k => spec_l1Cur_sheet.l1 k x n i l a s) (fun r => r.1.length ≤ 60 ∧ a ≤ r.2.1 ∧ r.2.1 ≤ a + 12 * d ∧ ∀ y ∈ r.1, HV 2100 y) := by
  have out : ∀ (x : List S76) (i a s : Int) (m : Int), x.length ≤ 60 → 0 ≤ m → (∀ y ∈ x, HV 2100 y) → Tot (fun k => spec_l1Cur_sheet.j2 k x n i false l a s) (fun r => r.1.length ≤ 60 ∧ a ≤ r.2.1 ∧ r.2.1 ≤ a + m ∧ ∀ y ∈ r.1, HV 2100 y) := fun x i a s m hx hm hv =>
    Tot.step (h := fun _ => some (x, a, s)) (fun k => by rw [spec_l1Cur_sheet.j2, if_neg (by decide)]) (Tot.now _ (fun _ => rfl) ⟨hx, by simp only []; omega, by simp only []; omega, hv⟩)
  induction d with
  | zero =>
    intro x i a s hi hx h0 ha hv
    by_cases h : (x.length : Int) < n
    · exact Tot.step (h := fun k => spec_l1Cur_sheet.j2 k x n i false l a s) (fun k => by rw [spec_l1Cur_sheet.l1, if_pos h, decide_eq_false (by omega)]) (out x i a s _ hx (by omega) hv)
    · exact Tot.step (h := fun k => spec_l1Cur_sheet.j2 k x n i false l a s) (fun k => by rw [spec_l1Cur_sheet.l1, if_neg h]) (out x i a s _ hx (by omega) hv)
  | succ d ih =>
    intro x i a s hi hx h0 ha hv
    by_cases h : (x.length : Int) < n
    · refine Tot.step (h := fun k => spec_l1Cur_sheet.j2 k x n i true l a s) (fun k => by rw [spec_l1Cur_sheet.l1, if_pos h, decide_eq_true (by omega)]) ?_
      obtain ⟨t, f, e, a1, s1, e1, l1, u1, hvn⟩ := hole_ok l hl a s (by omega)
      refine Tot.step (h := fun k => (spec_shWith.f k x t f e).bind fun bt => if bt.2 = true then spec_l1Cur_sheet.l1 k bt.1 n ((i + 1 : Nat) : Int) l a1 s1 else spec_l1Cur_sheet.l1 k x n ((i + 1 : Nat) : Int) l a1 s1)
        (fun k => by rw [spec_l1Cur_sheet.j2, if_pos rfl, e1]; simp only [Option.bind_some]; rw [w_next i (by omega)]) ?_
      refine Tot.bind (with_tot x (by omega) t f e) (fun bt hb => ?_)
      by_cases h2 : bt.2 = true
      · exact (Tot.congr (fun k => if_pos h2) (ih bt.1 (i + 1) a1 s1 (by omega) (by omega) (by omega) (by omega) (fun y hy => (hb.2 y hy).elim (hv y) (fun h => h ▸ hvn)))).weak (fun r hr => ⟨hr.1, by omega, by omega, hr.2.2.2⟩)
      · exact (Tot.congr (fun k => if_neg h2) (ih x (i + 1) a1 s1 (by omega) hx (by omega) (by omega) hv)).weak (fun r hr => ⟨hr.1, by omega, by omega, hr.2.2.2⟩)
    · exact Tot.step (h := fun k => spec_l1Cur_sheet.j2 k x n i false l a s) (fun k => by rw [spec_l1Cur_sheet.l1, if_neg h]) (out x i a s _ hx (by omega) hv)
theorem sheet_tot (l : List Int) (hl : Bytes l) (a s : Int) (ha : 0 ≤ a ∧ a ≤ 700000) : Tot (fun k => spec_l1Cur_sheet.f k l a s) (fun r => r.1.length ≤ 60 ∧ a ≤ r.2.1 ∧ r.2.1 ≤ a + 1000 ∧ ∀ y ∈ r.1, HV 2100 y) := by
  obtain ⟨v1, a1, s1, e1, l1, u1⟩ := one_ok l hl a s (by omega) 24
  by_cases h : v1 = true
  · refine Tot.congr (h := fun k => spec_l1Cur_sheet.l0 k [] l a1 s1) (fun k => by unfold spec_l1Cur_sheet.f; rw [e1]; simp only [Option.bind_some]; rw [if_pos h]) ?_
    exact Tot.weak (sheet0_tot l hl 60 [] a1 s1 (by simp) (by omega) (by omega) (fun y hy => by cases hy)) (fun r hr => ⟨hr.1, by omega, by omega, hr.2.2.2⟩)
  · obtain ⟨v2, a2, s2, e2, b0, b1, l2, u2⟩ := pick_ok l hl a1 s1 (by omega) 9
    refine Tot.congr (h := fun k => spec_l1Cur_sheet.l1 k [] v2 ((0 : Nat) : Int) l a2 s2) (fun k => by unfold spec_l1Cur_sheet.f; rw [e1]; simp only [Option.bind_some]; rw [if_neg h, e2]; rfl) ?_
    have b2 := b1 (by omega)
    exact (sheet2_tot l hl v2 (by omega) 60 [] 0 a2 s2 (by omega) (by simp) (by omega) (by omega) (fun y hy => by cases hy)).weak (fun r hr => ⟨hr.1, by omega, by omega, hr.2.2.2⟩)
theorem anyHole_ok (l : List Int) (hl : Bytes l) (a s : Int) (ha : 0 ≤ a ∧ a ≤ 700000) : ∃ t f e a' s', spec_l1Cur_anyHole.f l a s = some (t, f, e, a', s') ∧ a ≤ a' ∧ a' ≤ a + 20 ∧ HV 2100 ⟨t, f, e⟩ := by
  unfold spec_l1Cur_anyHole.f
  obtain ⟨t, f, e, a1, s1, e1, l1, u1, hvn⟩ := hole_ok l hl a s (by omega)
  unfold HV at hvn ⊢
  simp only at hvn
  obtain ⟨v, a2, s2, e2, _, _, l2, u2⟩ := pick_ok l hl a1 s1 (by omega) 24
  rw [e1]; simp only [Option.bind_some]; rw [e2]; simp only [Option.bind_some]
  by_cases h0 : v = 0
  · obtain ⟨w, a3, s3, e3, l3, u3, m3⟩ := among_in l hl a2 s2 (by omega) [-1, 19, 20] (by simp)
    rw [if_pos h0, e3]; exact ⟨_, _, _, a3, s3, rfl, by omega, by omega, hvn⟩
  · rw [if_neg h0]
    by_cases h1 : v = 1
    · obtain ⟨w, a3, s3, e3, l3, u3, m3⟩ := among_in l hl a2 s2 (by omega) [-1, e] (by simp)
      rw [if_pos h1, e3]; exact ⟨_, _, _, a3, s3, rfl, by omega, by omega, by simp only [List.mem_cons, List.not_mem_nil, or_false] at m3; simp only; rcases m3 with h | h <;> omega⟩
    · rw [if_neg h1]
      by_cases h2 : v = 2
      · obtain ⟨w, a3, s3, e3, l3, u3, m3⟩ := among_in l hl a2 s2 (by omega) [f, 2000, 2001] (by simp)
        rw [if_pos h2, e3]; exact ⟨_, _, _, a3, s3, rfl, by omega, by omega, by simp only [List.mem_cons, List.not_mem_nil, or_false] at m3; simp only; rcases m3 with h | h | h <;> omega⟩
      · rw [if_neg h2]; exact ⟨_, _, _, a2, s2, rfl, by omega, by omega, hvn⟩
theorem any61_tot (l : List Int) (a s : Int) (d : Nat) : ∀ (x : List S76), x.length + d = 61 → (∀ y ∈ x, HV 2200 y) → Tot (fun k => spec_l1Cur_anySheet.l0 k x l a s) (fun r => r.1.length ≤ 61 ∧ a ≤ r.2.1 ∧ r.2.1 ≤ a ∧ ∀ y ∈ r.1, HV 2200 y) := by
  induction d with
  | zero =>
    intro x hx hv
    exact Tot.step (h := fun _ => some (x, a, s)) (fun k => by rw [spec_l1Cur_anySheet.l0, if_neg (by omega)]) (Tot.now _ (fun _ => rfl) ⟨by simp only []; omega, by simp only []; omega, by simp only []; omega, hv⟩)
  | succ d ih =>
    intro x hx hv
    exact Tot.step (h := fun k => spec_l1Cur_anySheet.l0 k (x ++ [_]) l a s) (fun k => by rw [spec_l1Cur_anySheet.l0, if_pos (by omega), if_pos (by omega)]) (ih (x ++ [_]) (by simp; omega) (fun y hy => by
      rcases List.mem_append.1 hy with h | h
      · exact hv y h
      · rw [List.mem_singleton.1 h]
        unfold HV
        simp only
        rw [w64 (x := 3 * (x.length : Int)) (by omega), w64 (by omega)]
        omega))
def ShOut (a n : Int) (r : List S76 × Int × Int) : Prop := r.1.length ≤ 61 ∧ a ≤ r.2.1 ∧ r.2.1 ≤ a + n ∧ ∀ y ∈ r.1, HV 2200 y
theorem anySheet_tot (l : List Int) (hl : Bytes l) (a s : Int) (ha : 0 ≤ a ∧ a ≤ 600000) : Tot (fun k => spec_l1Cur_anySheet.f k l a s) (ShOut a 1100) := by
  refine Tot.bind (sheet_tot l hl a s (by omega)) (fun bt hb => ?_)
  obtain ⟨x, a1, s1⟩ := bt
  simp only at hb
  have hv : ∀ y ∈ x, HV 2200 y := fun y hy => (hb.2.2.2 y hy).mono (by omega)
  by_cases h : (x.length : Int) > 0
  · obtain ⟨v, a2, s2, e2, b0, b1, l2, u2⟩ := pick_ok l hl a1 s1 (by omega) (x.length : Int)
    obtain ⟨v3, a3, s3, e3, _, _, l3, u3⟩ := pick_ok l hl a2 s2 (by omega) 30
    have b2 := b1 (by omega)
    refine Tot.congr (h := fun k => if v3 = 0 then ((spec_l1Cur_anyHole.f l a3 s3).bind fun bt288 => (if 0 ≤ v then (if v < (x.length : Int) then (some ((x.set (v : Int).toNat (⟨bt288.1, bt288.2.1, bt288.2.2.1⟩ : S76)), bt288.2.2.2.1, bt288.2.2.2.2)) else (none)) else (none))) else (if v3 = 1 then (some ((x ++ [(⟨(rd_T76 x v).f0, (rd_T76 x v).f1, (rd_T76 x v).f2⟩ : S76)]), a3, s3)) else (if v3 = 2 then (some ((x ++ [(⟨(rd_T76 x v).f0, (rd_T76 x v).f2, wrap64 (((rd_T76 x v).f2) + 2)⟩ : S76)]), a3, s3)) else (if v3 = 3 then (spec_l1Cur_anySheet.l0 k ([] : List (S76)) l a3 s3) else (some (x, a3, s3)))))) (fun k => ?_) ?_
    · dsimp only
      rw [if_pos h, e2]; simp only [Option.bind_some]; rw [e3]; simp only [Option.bind_some]
      simp only [if_pos b0, if_pos b2, if_pos (show x.length < 5864062014805 by omega)]
    · by_cases c0 : v3 = 0
      · obtain ⟨t, f, e, a4, s4, e4, l4, u4, hvn⟩ := anyHole_ok l hl a3 s3 (by omega)
        refine Tot.now (x.set (v : Int).toNat ⟨t, f, e⟩, a4, s4) (fun k => ?_) ⟨by simp only [List.length_set]; omega, by simp only []; omega, by simp only []; omega, fun y hy => (List.mem_or_eq_of_mem_set hy).elim (hv y) (fun h => h ▸ hvn.mono (by omega))⟩
        rw [if_pos c0, e4]; simp only [Option.bind_some]; rw [if_pos b0, if_pos b2]
      · by_cases c1 : v3 = 1
        · exact Tot.now _ (fun k => (if_neg c0).trans (if_pos c1)) ⟨by simp only [List.length_append, List.length_cons, List.length_nil]; omega, by simp only []; omega, by simp only []; omega, fun y hy => (List.mem_append.1 hy).elim (hv y) (fun h => by rw [List.mem_singleton.1 h]; exact hv _ (rdH_mem x v b0 b2))⟩
        · by_cases c2 : v3 = 2
          · exact Tot.now _ (fun k => (if_neg c0).trans ((if_neg c1).trans (if_pos c2))) ⟨by simp only [List.length_append, List.length_cons, List.length_nil]; omega, by simp only []; omega, by simp only []; omega, fun y hy => (List.mem_append.1 hy).elim (hv y) (fun h => by
              have h9 := hb.2.2.2 _ (rdH_mem x v b0 b2)
              rw [List.mem_singleton.1 h]
              unfold HV at h9 ⊢
              simp only
              rw [w64 (by omega)]
              omega)⟩
          · by_cases c3 : v3 = 3
            · exact (Tot.congr (fun k => (if_neg c0).trans ((if_neg c1).trans ((if_neg c2).trans (if_pos c3)))) (any61_tot l a3 s3 61 [] (by simp) (fun y hy => by cases hy))).weak (fun r hr => ⟨hr.1, by omega, by omega, hr.2.2.2⟩)
            · exact Tot.now _ (fun k => (if_neg c0).trans ((if_neg c1).trans ((if_neg c2).trans (if_neg c3)))) ⟨by simp only []; omega, by simp only []; omega, by simp only []; omega, hv⟩
  · exact Tot.now _ (fun k => if_neg h) ⟨by simp only []; omega, by simp only []; omega, by simp only []; omega, hv⟩
theorem made0_tot (l : List Int) (hl : Bytes l) (a s : Int) (ha : 0 ≤ a ∧ a ≤ 600000) (d : Nat) : ∀ (x : List S76), x.length + d = 20 → (∀ y ∈ x, HV 100 y) → Tot (fun k => spec_l1Cur_madeSheet.l0 k x l a s) (ShOut a 2000) := by
  induction d with
  | zero =>
    intro x hx hv
    obtain ⟨v, a2, s2, e2, b0, b1, l2, u2⟩ := pick_ok l hl a s (by omega) 2
    have b2 := b1 (by omega)
    have h9 := hv _ (rdH_mem x 19 (by omega) (by omega))
    exact Tot.step (h := fun _ => some (x.set (19 : Int).toNat (⟨(rd_T76 x 19).f0, (rd_T76 x 19).f1, wrap64 (((rd_T76 x 19).f2) + v)⟩ : S76), a2, s2)) (fun k => by rw [spec_l1Cur_madeSheet.l0, if_neg (by omega), if_pos (by omega), e2]; rfl) (Tot.now _ (fun _ => rfl) ⟨by simp only [List.length_set]; omega, by simp only []; omega, by simp only []; omega, fun y hy => (List.mem_or_eq_of_mem_set hy).elim (fun h => (hv y h).mono (by omega)) (fun h => by
      rw [h]
      unfold HV at h9 ⊢
      simp only
      rw [w64 (by omega)]
      omega)⟩)
  | succ d ih =>
    intro x hx hv
    exact Tot.step (h := fun k => spec_l1Cur_madeSheet.l0 k (x ++ [_]) l a s) (fun k => by rw [spec_l1Cur_madeSheet.l0, if_pos (by omega), if_pos (by omega)]) (ih (x ++ [_]) (by simp; omega) (fun y hy => (List.mem_append.1 hy).elim (hv y) (fun h => by rw [List.mem_singleton.1 h]; unfold HV; simp only; omega)))
theorem made1_tot (l : List Int) (hl : Bytes l) (x30 : List S76) (h30 : x30.length ≤ 60) (v30 : ∀ y ∈ x30, HV 2100 y) (d : Nat) : ∀ (x : List S76) (i : Nat) (a s : Int), i + d = x30.length → x.length ≤ i → 0 ≤ a → a + 4 * d ≤ 500000 → (∀ y ∈ x, HV 2200 y) →
    Tot (fun k => spec_l1Cur_madeSheet.l1 k x x30 x30.length i l a s) (fun r => r.1.length ≤ 61 ∧ a ≤ r.2.1 ∧ r.2.1 ≤ a + 4 * d + 1110 ∧ ∀ y ∈ r.1, HV 2200 y) := by
  induction d with
  | zero =>
    intro x i a s hi hx h0 ha hv
    obtain ⟨v, a1, s1, e1, l1, u1⟩ := one_ok l hl a s (by omega) 16
    by_cases h : v = true
    · refine Tot.step (h := fun k => (spec_l1Cur_anySheet.f k l a1 s1).bind fun bt => some (bt.1, bt.2.1, bt.2.2)) (fun k => by rw [spec_l1Cur_madeSheet.l1, if_neg (by omega), e1]; simp only [Option.bind_some]; rw [if_pos h]) ?_
      exact Tot.bind (anySheet_tot l hl a1 s1 (by omega)) (fun r hr => Tot.now _ (fun _ => rfl) ⟨hr.1, by have := hr.2.1; simp only []; omega, by have := hr.2.2.1; simp only []; omega, hr.2.2.2⟩)
    · exact Tot.step (h := fun _ => some (x, a1, s1)) (fun k => by rw [spec_l1Cur_madeSheet.l1, if_neg (by omega), e1]; simp only [Option.bind_some]; rw [if_neg h]) (Tot.now _ (fun _ => rfl) ⟨by simp only []; omega, by simp only []; omega, by simp only []; omega, hv⟩)
  | succ d ih =>
    intro x i a s hi hx h0 ha hv
    have hp : 0 ≤ (i : Int) := by omega
    have hq : (i : Int) < (x30.length : Int) := by omega
    have key : ∀ (b : Bool) (a1 s1 t f e : Int), a ≤ a1 → a1 ≤ a + 2 → HV 2100 ⟨t, f, e⟩ → Tot (fun k => spec_l1Cur_madeSheet.j2 k x x30 x30.length i b l a1 s1 t f e) (fun r => r.1.length ≤ 61 ∧ a ≤ r.2.1 ∧ r.2.1 ≤ a + 4 * ((d + 1 : Nat) : Int) + 1110 ∧ ∀ y ∈ r.1, HV 2200 y) := by
      intro b a1 s1 t f e g1 g2 gv
      have fin : ∀ (o : List S76) (a2 s2 : Int), o.length ≤ i + 1 → a1 ≤ a2 → a2 ≤ a1 + 2 → (∀ y ∈ o, HV 2200 y) → Tot (fun k => spec_l1Cur_madeSheet.l1 k o x30 x30.length ((i + 1 : Nat) : Int) l a2 s2) (fun r => r.1.length ≤ 61 ∧ a ≤ r.2.1 ∧ r.2.1 ≤ a + 4 * ((d + 1 : Nat) : Int) + 1110 ∧ ∀ y ∈ r.1, HV 2200 y) := fun o a2 s2 ho q1 q2 ov =>
        (ih o (i + 1) a2 s2 (by omega) ho (by omega) (by omega) ov).weak (fun r hr => ⟨hr.1, by omega, by omega, hr.2.2.2⟩)
      have goon : ∀ (c : Int) (a2 s2 : Int), a1 ≤ a2 → a2 ≤ a1 + 2 → HV 2200 ⟨t, f, c⟩ → Tot (fun k => (spec_shWith.f k x t f c).bind fun bt => if bt.2 = true then spec_l1Cur_madeSheet.l1 k bt.1 x30 x30.length ((i + 1 : Nat) : Int) l a2 s2 else spec_l1Cur_madeSheet.l1 k x x30 x30.length ((i + 1 : Nat) : Int) l a2 s2) (fun r => r.1.length ≤ 61 ∧ a ≤ r.2.1 ∧ r.2.1 ≤ a + 4 * ((d + 1 : Nat) : Int) + 1110 ∧ ∀ y ∈ r.1, HV 2200 y) := fun c a2 s2 q1 q2 cv => by
        refine Tot.bind (with_tot x (by omega) t f c) (fun bt hb => ?_)
        by_cases h2 : bt.2 = true
        · exact Tot.congr (fun k => if_pos h2) (fin bt.1 a2 s2 (by omega) q1 q2 (fun y hy => (hb.2 y hy).elim (hv y) (fun h => h ▸ cv)))
        · exact Tot.congr (fun k => if_neg h2) (fin x a2 s2 (by omega) q1 q2 hv)
      cases b with
      | true =>
        obtain ⟨v2, a2, s2, e2, b2, c2, l2, u2⟩ := pick_ok l hl a1 s1 (by omega) 5
        have c2' := c2 (by omega)
        refine Tot.step (h := fun k => (spec_shWith.f k x t f (wrap64 ((wrap64 (f + 4)) + v2))).bind fun bt => if bt.2 = true then spec_l1Cur_madeSheet.l1 k bt.1 x30 x30.length ((i + 1 : Nat) : Int) l a2 s2 else spec_l1Cur_madeSheet.l1 k x x30 x30.length ((i + 1 : Nat) : Int) l a2 s2) (fun k => ?_) (goon _ a2 s2 l2 u2 (by unfold HV at gv ⊢; simp only at gv ⊢; rw [w64 (x := f + 4) (by omega), w64 (by omega)]; omega))
        rw [spec_l1Cur_madeSheet.j2, if_pos rfl, e2]; simp only [Option.bind_some]; rw [w_next i (by omega)]
      | false =>
        refine Tot.step (h := fun k => (spec_shWith.f k x t f e).bind fun bt => if bt.2 = true then spec_l1Cur_madeSheet.l1 k bt.1 x30 x30.length ((i + 1 : Nat) : Int) l a1 s1 else spec_l1Cur_madeSheet.l1 k x x30 x30.length ((i + 1 : Nat) : Int) l a1 s1) (fun k => ?_) (goon _ a1 s1 (by omega) (by omega) (gv.mono (by omega)))
        rw [spec_l1Cur_madeSheet.j2, if_neg (by decide), w_next i (by omega)]
    by_cases h : (wrap64 (((rd_T76 x30 i).f2) - ((rd_T76 x30 i).f1))) < 4
    · obtain ⟨v, a1, s1, e1, l1, u1⟩ := one_ok l hl a s (by omega) 20
      exact Tot.step (h := fun k => spec_l1Cur_madeSheet.j2 k x x30 x30.length i (!v) l a1 s1 _ _ _) (fun k => by rw [spec_l1Cur_madeSheet.l1, if_pos hq, if_pos hp, if_pos hq, if_pos h, e1]; rfl) (key _ a1 s1 ((rd_T76 x30 i).f0) ((rd_T76 x30 i).f1) ((rd_T76 x30 i).f2) l1 u1 (v30 _ (rdH_mem x30 i hp hq)))
    · exact Tot.step (h := fun k => spec_l1Cur_madeSheet.j2 k x x30 x30.length i false l a s _ _ _) (fun k => by rw [spec_l1Cur_madeSheet.l1, if_pos hq, if_pos hp, if_pos hq, if_neg h]) (key _ a s ((rd_T76 x30 i).f0) ((rd_T76 x30 i).f1) ((rd_T76 x30 i).f2) (by omega) (by omega) (v30 _ (rdH_mem x30 i hp hq)))
theorem madeSheet_tot (l : List Int) (hl : Bytes l) (a s : Int) (ha : 0 ≤ a ∧ a ≤ 400000) : Tot (fun k => spec_l1Cur_madeSheet.f k l a s) (ShOut a 4000) := by
  obtain ⟨v1, a1, s1, e1, l1, u1⟩ := one_ok l hl a s (by omega) 20
  by_cases h : v1 = true
  · refine Tot.congr (h := fun k => spec_l1Cur_madeSheet.l0 k [] l a1 s1) (fun k => by unfold spec_l1Cur_madeSheet.f; rw [e1]; simp only [Option.bind_some]; rw [if_pos h]) ?_
    exact Tot.weak (made0_tot l hl a1 s1 (by omega) 20 [] (by simp) (fun y hy => by cases hy)) (fun r hr => ⟨hr.1, by have := hr.2.1; omega, by have := hr.2.2.1; omega, hr.2.2.2⟩)
  · refine Tot.congr (h := fun k => (spec_l1Cur_sheet.f k l a1 s1).bind fun bt => spec_l1Cur_madeSheet.l1 k [] bt.1 (bt.1.length : Int) 0 l bt.2.1 bt.2.2) (fun k => by unfold spec_l1Cur_madeSheet.f; rw [e1]; simp only [Option.bind_some]; rw [if_neg h]) ?_
    refine Tot.bind (sheet_tot l hl a1 s1 (by omega)) (fun bt hb => ?_)
    exact (made1_tot l hl bt.1 hb.1 hb.2.2.2 bt.1.length [] 0 bt.2.1 bt.2.2 (by omega) (by simp) (by omega) (by omega) (fun y hy => by cases hy)).weak (fun r hr => ⟨hr.1, by omega, by omega, hr.2.2.2⟩)
theorem puHole_tot (a b c : Int) (hb : -2000 ≤ b ∧ b ≤ 2200) (hc : -2000 ≤ c ∧ c ≤ 2200) (d : Nat) : ∀ (pos : Int) (t : List S30), b ≤ pos → pos ≤ 5000 → c - 4 < pos + 4 * d → t.length + d ≤ 3000 → Tot (fun k => spec_puHole.l0 k t pos a b c) (fun r => r.length ≤ 3001) := by
  have fin : ∀ (pos : Int) (t : List S30), c - 4 < pos → t.length ≤ 3000 → Tot (fun k => spec_puHole.l0 k t pos a b c) (fun r => r.length ≤ 3001) := by
    intro pos t h1 h2
    have e0 : wrap64 (c - 4) = c - 4 := w64 (by omega)
    by_cases h : (t.length : Int) > 0
    · have e1 : wrap64 ((t.length : Int) - 1) = ((t.length - 1 : Nat) : Int) := by rw [w64 (by omega)]; omega
      by_cases h3 : (rd_T30 t ((t.length - 1 : Nat) : Int)).f1 < c - 4
      · exact Tot.step (h := fun _ => some (t ++ [_])) (fun k => by rw [spec_puHole.l0, e0, if_neg (by omega), if_pos h, e1, if_pos (by omega), if_pos (by omega), if_pos h3, if_pos (by omega)]) (Tot.now _ (fun _ => rfl) (by simp only [List.length_append, List.length_cons, List.length_nil]; omega))
      · exact Tot.step (h := fun _ => some t) (fun k => by rw [spec_puHole.l0, e0, if_neg (by omega), if_pos h, e1, if_pos (by omega), if_pos (by omega), if_neg h3]) (Tot.now _ (fun _ => rfl) (by omega))
    · exact Tot.step (h := fun _ => some t) (fun k => by rw [spec_puHole.l0, e0, if_neg (by omega), if_neg h]) (Tot.now _ (fun _ => rfl) (by omega))
  induction d with
  | zero => intro pos t h0 h1 h2 h3; exact fin pos t (by omega) (by omega)
  | succ d ih =>
    intro pos t h0 h1 h2 h3
    have e0 : wrap64 (c - 4) = c - 4 := w64 (by omega)
    by_cases h : pos ≤ c - 4
    · exact Tot.step (h := fun k => spec_puHole.l0 k (t ++ [_]) (pos + 4) a b c) (fun k => by rw [spec_puHole.l0, e0, if_pos h, if_pos (by omega), w64 (x := pos + 4) (by omega)]) (ih (pos + 4) (t ++ [_]) (by omega) (by omega) (by omega) (by simp only [List.length_append, List.length_cons, List.length_nil]; omega))
    · exact fin pos t (by omega) (by omega)
theorem puStrokes_tot (l : List S76) (hl : l.length ≤ 100) (hv : ∀ x ∈ l, HV 2200 x) (d : Nat) : ∀ (i : Nat) (t : List S30), i + d = l.length → t.length ≤ 4000 * i → Tot (fun k => spec_puStrokes.l0 k t l l.length i) (fun r => r.1.length ≤ 200) := by
  induction d with
  | zero =>
    intro i t hi ht
    by_cases h : (t.length : Int) > 200
    · exact Tot.step (h := fun _ => some ([], false)) (fun k => by rw [spec_puStrokes.l0, if_neg (by omega), if_pos h]) (Tot.now _ (fun _ => rfl) (by simp))
    · exact Tot.step (h := fun _ => some (t, true)) (fun k => by rw [spec_puStrokes.l0, if_neg (by omega), if_neg h]) (Tot.now _ (fun _ => rfl) (by simp only; omega))
  | succ d ih =>
    intro i t hi ht
    have hp : 0 ≤ (i : Int) := by omega
    have hq : (i : Int) < (l.length : Int) := by omega
    have h9 := hv _ (rdH_mem l i hp hq)
    unfold HV at h9
    refine Tot.step (h := fun k => (spec_puHole.f k ((rd_T76 l i).f0) ((rd_T76 l i).f1) ((rd_T76 l i).f2)).bind fun t118 => (if (t118.length : Int) = 0 then (some (([] : List (S30)), false)) else (if t.length + t118.length < 8796093022208 then (spec_puStrokes.l0 k (t ++ t118) l l.length ((i + 1 : Nat) : Int)) else (none)))) (fun k => by rw [spec_puStrokes.l0, if_pos hq, if_pos hp, if_pos hq, w_next i (by omega)]) ?_
    refine Tot.bind (Q := fun r : List S30 => r.length ≤ 3001) (show Tot (fun k => spec_puHole.f k _ _ _) _ from puHole_tot _ _ _ (by omega) (by omega) 1100 _ [] (by omega) (by omega) (by omega) (by simp)) (fun r hr => ?_)
    by_cases h : (r.length : Int) = 0
    · exact Tot.now _ (fun k => if_pos h) (by simp)
    · exact Tot.congr (fun k => (if_neg h).trans (if_pos (by omega))) (ih (i + 1) (t ++ r) (by omega) (by rw [List.length_append]; omega))
def StOut (a n : Int) (r : List S30 × Int × Int) : Prop := r.1.length ≤ 202 ∧ a ≤ r.2.1 ∧ r.2.1 ≤ a + n
theorem st1_tot (l : List Int) (a s : Int) (n : Int) (hn : n ≤ 202) (d : Nat) : ∀ x : List S30, x.length ≤ 202 → n ≤ (x.length : Int) + d → Tot (fun k => spec_l1Cur_strokes.l1 k x n l a s) (StOut a 0) := by
  have fin : ∀ x : List S30, x.length ≤ 202 → ¬ ((x.length : Int) < n) → Tot (fun k => spec_l1Cur_strokes.l1 k x n l a s) (StOut a 0) := fun x hx h =>
    Tot.step (h := fun _ => some (x, a, s)) (fun k => by rw [spec_l1Cur_strokes.l1, if_neg h]) (Tot.now _ (fun _ => rfl) ⟨hx, by simp only []; omega, by simp only []; omega⟩)
  induction d with
  | zero => intro x hx h; exact fin x hx (by omega)
  | succ d ih =>
    intro x hx h
    by_cases h2 : (x.length : Int) < n
    · exact Tot.step (h := fun k => spec_l1Cur_strokes.l1 k (x ++ [_]) n l a s) (fun k => by rw [spec_l1Cur_strokes.l1, if_pos h2, if_pos (by omega)]) (ih (x ++ [_]) (by simp only [List.length_append, List.length_cons, List.length_nil]; omega) (by simp only [List.length_append, List.length_cons, List.length_nil]; omega))
    · exact fin x hx h2
theorem st2_tot (l : List Int) (hl : Bytes l) (x : List S30) (hx : x.length ≤ 202) (a s : Int) (ha : 0 ≤ a ∧ a ≤ 300000) : Tot (fun k => spec_l1Cur_strokes.j2 k x l a s) (StOut a 20) := by
  by_cases h : (x.length : Int) > 0
  · obtain ⟨v, a2, s2, e2, b0, b1, l2, u2⟩ := pick_ok l hl a s (by omega) (x.length : Int)
    obtain ⟨v3, a3, s3, e3, _, _, l3, u3⟩ := pick_ok l hl a2 s2 (by omega) 30
    have b2 := b1 (by omega)
    have hd : ∀ k, spec_l1Cur_strokes.j2 (k + 1) x l a s = (if v3 = 0 then ((spec_l1Cur_among.f l a3 s3 (([(-1), 19, 20] : List Int))).bind fun bt403 => (some ((x.set (v : Int).toNat (⟨bt403.1, (rd_T30 x v).f1⟩ : S30)), bt403.2.1, bt403.2.2))) else (if v3 = 1 then ((spec_l1Cur_among.f l a3 s3 (([(-1), 1999, 2000] : List Int))).bind fun bt410 => (some ((x.set (v : Int).toNat (⟨(rd_T30 x v).f0, bt410.1⟩ : S30)), bt410.2.1, bt410.2.2))) else (if v3 = 2 then ((spec_l1Cur_pick.f l a3 s3 2).bind fun bt414 => (spec_l1Cur_strokes.l1 k x (wrap64 (200 + bt414.1)) l bt414.2.1 bt414.2.2)) else (some (x, a3, s3))))) := by
      intro k
      rw [spec_l1Cur_strokes.j2, if_pos h, e2]; simp only [Option.bind_some]; rw [if_pos b0, if_pos b2, e3]; rfl
    by_cases c0 : v3 = 0
    · obtain ⟨v4, a4, s4, e4, l4, u4⟩ := among_ok l hl a3 s3 (by omega) [-1, 19, 20] (by simp)
      exact Tot.step (h := fun _ => some (x.set (v : Int).toNat ⟨v4, (rd_T30 x v).f1⟩, a4, s4)) (fun k => by rw [hd, if_pos c0, e4]; rfl) (Tot.now _ (fun _ => rfl) ⟨by simp only [List.length_set]; omega, by simp only []; omega, by simp only []; omega⟩)
    · by_cases c1 : v3 = 1
      · obtain ⟨v4, a4, s4, e4, l4, u4⟩ := among_ok l hl a3 s3 (by omega) [-1, 1999, 2000] (by simp)
        exact Tot.step (h := fun _ => some (x.set (v : Int).toNat ⟨(rd_T30 x v).f0, v4⟩, a4, s4)) (fun k => by rw [hd, if_neg c0, if_pos c1, e4]; rfl) (Tot.now _ (fun _ => rfl) ⟨by simp only [List.length_set]; omega, by simp only []; omega, by simp only []; omega⟩)
      · by_cases c2 : v3 = 2
        · obtain ⟨v4, a4, s4, e4, d0, d1, l4, u4⟩ := pick_ok l hl a3 s3 (by omega) 2
          have d2 := d1 (by omega)
          refine Tot.step (h := fun k => spec_l1Cur_strokes.l1 k x (wrap64 (200 + v4)) l a4 s4) (fun k => by rw [hd, if_neg c0, if_neg c1, if_pos c2, e4]; rfl) ?_
          rw [w64 (by omega)]
          exact (st1_tot l a4 s4 (200 + v4) (by omega) 300 x hx (by omega)).weak (fun r hr => ⟨hr.1, by have := hr.2.1; omega, by have := hr.2.2; omega⟩)
        · exact Tot.step (h := fun _ => some (x, a3, s3)) (fun k => by rw [hd, if_neg c0, if_neg c1, if_neg c2]) (Tot.now _ (fun _ => rfl) ⟨by simp only []; omega, by simp only []; omega, by simp only []; omega⟩)
  · exact Tot.step (h := fun _ => some (x, a, s)) (fun k => by rw [spec_l1Cur_strokes.j2, if_neg h]) (Tot.now _ (fun _ => rfl) ⟨by simp only []; omega, by simp only []; omega, by simp only []; omega⟩)
theorem st0_tot (l : List Int) (hl : Bytes l) (d : Nat) : ∀ (x : List S30) (n a s : Int), n ≤ d → d ≤ 7 → x.length + d ≤ 20 → 0 ≤ a → a + 6 * d ≤ 290000 → Tot (fun k => spec_l1Cur_strokes.l0 k x n l a s) (StOut a (6 * d + 20)) := by
  induction d with
  | zero =>
    intro x n a s hn hd hx h0 ha
    exact Tot.step (h := fun k => spec_l1Cur_strokes.j2 k x l a s) (fun k => by rw [spec_l1Cur_strokes.l0, if_neg (by omega)]) ((st2_tot l hl x (by omega) a s (by omega)).weak (fun r hr => ⟨hr.1, hr.2.1, by have := hr.2.2; omega⟩))
  | succ d ih =>
    intro x n a s hn hd hx h0 ha
    by_cases h : n > 0
    · obtain ⟨v1, a1, s1, e1, _, _, l1, u1⟩ := pick_ok l hl a s (by omega) 5
      obtain ⟨v2, a2, s2, e2, _, _, l2, u2⟩ := pick_ok l hl a1 s1 (by omega) 30
      obtain ⟨v3, a3, s3, e3, l3, u3⟩ := among_ok l hl a2 s2 (by omega) [0, 3, 4, v2, 1998] (by simp)
      refine Tot.step (h := fun k => spec_l1Cur_strokes.l0 k (x ++ [(⟨v1, v3⟩ : S30)]) (wrap64 (n - 1)) l a3 s3) (fun k => by rw [spec_l1Cur_strokes.l0, if_pos h, e1]; simp only [Option.bind_some]; rw [e2]; simp only [Option.bind_some]; rw [e3]; simp only [Option.bind_some]; rw [if_pos (by omega)]) ?_
      rw [w64 (by omega)]
      exact (ih (x ++ [(⟨v1, v3⟩ : S30)]) (n - 1) a3 s3 (by omega) (by omega) (by simp only [List.length_append, List.length_cons, List.length_nil]; omega) (by omega) (by omega)).weak (fun r hr => ⟨hr.1, by have := hr.2.1; omega, by have := hr.2.2; omega⟩)
    · exact Tot.step (h := fun k => spec_l1Cur_strokes.j2 k x l a s) (fun k => by rw [spec_l1Cur_strokes.l0, if_neg h]) ((st2_tot l hl x (by omega) a s (by omega)).weak (fun r hr => ⟨hr.1, hr.2.1, by have := hr.2.2; omega⟩))
theorem stj_tot (l : List Int) (hl : Bytes l) (x : List S30) (hx : x.length ≤ 202) (b : Bool) (a s : Int) (ha : 0 ≤ a ∧ a ≤ 200000) : Tot (fun k => spec_l1Cur_strokes.j0 k x b l a s) (StOut a 100) := by
  cases b with
  | true =>
    obtain ⟨v1, a1, s1, e1, b0, b1, l1, u1⟩ := pick_ok l hl a s (by omega) 7
    have b2 := b1 (by omega)
    exact Tot.step (h := fun k => spec_l1Cur_strokes.l0 k [] v1 l a1 s1) (fun k => by rw [spec_l1Cur_strokes.j0, if_pos rfl, e1]; rfl) ((st0_tot l hl 7 [] v1 a1 s1 (by omega) (by omega) (by simp) (by omega) (by omega)).weak (fun r hr => ⟨hr.1, by have := hr.2.1; omega, by have := hr.2.2; omega⟩))
  | false => exact Tot.step (h := fun k => spec_l1Cur_strokes.j2 k x l a s) (fun k => by rw [spec_l1Cur_strokes.j0, if_neg (by decide)]) ((st2_tot l hl x hx a s (by omega)).weak (fun r hr => ⟨hr.1, hr.2.1, by have := hr.2.2; omega⟩))
theorem strokes_tot (l : List Int) (hl : Bytes l) : Tot (fun k => spec_l1Cur_strokes.f k l 0 0) (StOut 0 6000) := by
  refine Tot.bind (madeSheet_tot l hl 0 0 (by omega)) (fun bt hb => ?_)
  have g1 := hb.2.1
  have g2 := hb.2.2.1
  refine Tot.bind (Q := fun r : List S30 × Bool => r.1.length ≤ 200) (show Tot (fun k => spec_puStrokes.f k bt.1) _ from puStrokes_tot bt.1 (by have := hb.1; omega) hb.2.2.2 bt.1.length 0 [] (by omega) (by simp)) (fun r hr => ?_)
  by_cases h : r.2 = true
  · obtain ⟨v1, a1, s1, e1, l1, u1⟩ := one_ok l hl bt.2.1 bt.2.2 (by omega) 3
    refine Tot.congr (h := fun k => spec_l1Cur_strokes.j0 k r.1 v1 l a1 s1) (fun k => by rw [if_pos h, e1]; rfl) ?_
    exact (stj_tot l hl r.1 (by omega) v1 a1 s1 (by omega)).weak (fun q hq => ⟨hq.1, by have := hq.2.1; omega, by have := hq.2.2; omega⟩)
  · exact (Tot.congr (fun k => if_neg h) (stj_tot l hl r.1 (by omega) true bt.2.1 bt.2.2 (by omega))).weak (fun q hq => ⟨hq.1, by have := hq.2.1; omega, by have := hq.2.2; omega⟩)
theorem tools_ok (l : List Int) (hl : Bytes l) (a s : Int) (ha : 0 ≤ a ∧ a ≤ 700000) : ∃ v a' s', spec_l1Cur_tools.f l a s = some (v, a', s') := by
  unfold spec_l1Cur_tools.f
  obtain ⟨v1, a1, s1, e1, l1, u1⟩ := among_ok l hl a s (by omega) [0, 6] (by simp)
  rw [e1]; simp only [Option.bind_some]
  obtain ⟨v2, a2, s2, e2, l2, u2⟩ := among_ok l hl a1 s1 (by omega) [1, 2, 3, 5, v1] (by simp)
  rw [e2]
  exact ⟨_, _, _, rfl⟩
theorem across_ok (l : List Int) (hl : Bytes l) (a s : Int) (ha : 0 ≤ a ∧ a ≤ 700000) : ∃ v a' s', spec_l1Cur_across.f l a s = some (v, a', s') := by
  unfold spec_l1Cur_across.f
  obtain ⟨v1, a1, s1, e1, l1, u1⟩ := among_ok l hl a s (by omega) [0, 51] (by simp)
  rw [e1]; simp only [Option.bind_some]
  obtain ⟨v2, a2, s2, e2, l2, u2⟩ := among_ok l hl a1 s1 (by omega) [1, 2, 5, 50, v1] (by simp)
  rw [e2]
  exact ⟨_, _, _, rfl⟩
theorem drawTools_tot (l : List Int) (hl : Bytes l) : Tot (fun k => spec_DrawToolChanges.f k l) (fun r => r.1.length ≤ 202) := by
  refine Tot.bind (Q := fun r : List S30 × Int => r.1.length ≤ 202) (show Tot (fun k => spec_DrawWearOf.f k l) _ from ?_) (fun r hr => Tot.now r (fun _ => rfl) hr)
  refine Tot.bind (strokes_tot l hl) (fun q hq => ?_)
  have g1 := hq.2.1
  have g2 := hq.2.2
  obtain ⟨v, a', s', e⟩ := tools_ok l hl q.2.1 q.2.2 (by omega)
  exact Tot.now (q.1, v) (fun k => by rw [e]; rfl) hq.1
theorem drawWay_tot (l : List Int) (hl : Bytes l) : Tot (fun k => spec_DrawWayOfHead.f k l) (fun r => r.1.length ≤ 202) := by
  refine Tot.bind (strokes_tot l hl) (fun q hq => ?_)
  have g1 := hq.2.1
  have g2 := hq.2.2
  obtain ⟨v, a', s', e⟩ := across_ok l hl q.2.1 q.2.2 (by omega)
  exact Tot.now (q.1, v) (fun k => by rw [e]; rfl) hq.1
theorem drawRow_tot (l : List Int) (hl : Bytes l) : Tot (fun k => spec_DrawRowOrder.f k l) (fun r : List S30 => r.length ≤ 202) := by
  refine Tot.bind (Q := fun r : List S30 => r.length ≤ 202) (show Tot (fun k => spec_DrawAreStrokes.f k l) _ from ?_) (fun r hr => Tot.now r (fun _ => rfl) hr)
  exact Tot.bind (strokes_tot l hl) (fun q hq => Tot.now q.1 (fun _ => rfl) hq.1)
theorem drawGain_tot (l : List Int) (hl : Bytes l) : Tot (fun k => spec_DrawSwapGain.f k l) (fun r => r.1.length ≤ 202) := by
  refine Tot.bind (strokes_tot l hl) (fun q hq => ?_)
  have g1 := hq.2.1
  have g2 := hq.2.2
  obtain ⟨v1, a1, s1, e1, _, _, l1, u1⟩ := pick_ok l hl q.2.1 q.2.2 (by omega) 16
  obtain ⟨v2, a2, s2, e2, _, _, l2, u2⟩ := pick_ok l hl a1 s1 (by omega) (wrap64 ((q.1.length : Int) + (wrap64 (Int.tdiv v1 15))))
  obtain ⟨v3, a3, s3, e3, _, _, l3, u3⟩ := pick_ok l hl a2 s2 (by omega) 24
  obtain ⟨v4, a4, s4, e4, _, _, l4, u4⟩ := pick_ok l hl a3 s3 (by omega) 16
  obtain ⟨v5, a5, s5, e5, _, _, l5, u5⟩ := pick_ok l hl a4 s4 (by omega) (wrap64 ((q.1.length : Int) + (wrap64 (Int.tdiv v4 15))))
  obtain ⟨v6, a6, s6, e6, _, _, l6, u6⟩ := pick_ok l hl a5 s5 (by omega) 24
  obtain ⟨v7, a7, s7, e7⟩ := across_ok l hl a6 s6 (by omega)
  refine Tot.now (q.1, wrap64 (v2 - (wrap64 (Int.tdiv v3 23))), wrap64 (v5 - (wrap64 (Int.tdiv v6 23))), v7) (fun k => ?_) hq.1
  rw [e1]; simp only [Option.bind_some]
  rw [e2]; simp only [Option.bind_some]
  rw [e3]; simp only [Option.bind_some]
  rw [e4]; simp only [Option.bind_some]
  rw [e5]; simp only [Option.bind_some]
  rw [e6]; simp only [Option.bind_some]
  rw [e7]; rfl
theorem compact_inv (d : Array Int) (hs : ∀ i j, i ≤ j → j < d.size → d[i]! ≤ d[j]!) : ∀ m, m ≤ d.size → (Lib.compactUpTo d m).Pairwise (· < ·) ∧ ∀ x, x ∈ Lib.compactUpTo d m ↔ ∃ j, j < m ∧ d[j]! = x := by
  intro m
  induction m with
  | zero => intro _; exact ⟨by simp [Lib.compactUpTo], fun x => by simp [Lib.compactUpTo]⟩
  | succ m ih =>
    intro hm
    obtain ⟨h1, h2⟩ := ih (by omega)
    rw [Lib.compactUpTo_succ]
    cases hk : Lib.keeps d m with
    | true =>
      rw [if_pos rfl]
      have hlt : ∀ x ∈ Lib.compactUpTo d m, x < d[m]! := by
        intro x hx
        obtain ⟨j, hj, rfl⟩ := (h2 x).1 hx
        have e1 := hs j (m - 1) (by omega) (by omega)
        have e2 := hs (m - 1) m (by omega) (by omega)
        have e3 : d[m]! ≠ d[m - 1]! := by
          intro he
          rw [Lib.keeps_neg (by omega) he] at hk
          cases hk
        omega
      refine ⟨List.pairwise_append.2 ⟨h1, List.pairwise_singleton _ _, fun a ha b hb => by rw [List.mem_singleton.1 hb]; exact hlt a ha⟩, fun x => ?_⟩
      rw [List.mem_append, List.mem_singleton, h2]
      constructor
      · rintro (⟨j, hj, rfl⟩ | rfl)
        · exact ⟨j, by omega, rfl⟩
        · exact ⟨m, by omega, rfl⟩
      · rintro ⟨j, hj, rfl⟩
        by_cases h : j = m
        · subst h; exact Or.inr rfl
        · exact Or.inl ⟨j, by omega, rfl⟩
    | false =>
      rw [if_neg (by decide), List.append_nil]
      have hm0 : 0 < m := by
        rcases Nat.eq_zero_or_pos m with h | h
        · subst h; simp [Lib.keeps] at hk
        · exact h
      have he : d[m]! = d[m - 1]! := by
        apply Classical.byContradiction
        intro hne
        rw [Lib.keeps_pos hne] at hk
        cases hk
      refine ⟨h1, fun x => ?_⟩
      rw [h2]
      constructor
      · rintro ⟨j, hj, rfl⟩; exact ⟨j, by omega, rfl⟩
      · rintro ⟨j, hj, rfl⟩
        by_cases h : j = m
        · subst h; exact ⟨j - 1, by omega, he.symm⟩
        · exact ⟨j, by omega, rfl⟩
def sorted1 (l : List Int) : List Int := Lib.compact (l.mergeSort fun x y => decide (x ≤ y))
theorem sorted1_spec (l : List Int) : (sorted1 l).Pairwise (· < ·) ∧ ∀ x, x ∈ sorted1 l ↔ x ∈ l := by
  have hp := List.mergeSort_perm l (fun x y : Int => decide (x ≤ y))
  have hs : (l.mergeSort fun x y => decide (x ≤ y)).Pairwise (fun a b => decide (a ≤ b) = true) := List.pairwise_mergeSort (le := fun x y : Int => decide (x ≤ y)) (fun a b c h1 h2 => by simp at *; omega) (fun a b => by simp; omega) l
  unfold sorted1 Lib.compact
  generalize (l.mergeSort fun x y => decide (x ≤ y)) = z at hp hs
  have hs2 : ∀ i j, i ≤ j → j < z.toArray.size → z.toArray[i]! ≤ z.toArray[j]! := by
    intro i j hij hj
    have hj' : j < z.length := by simpa using hj
    rw [getElem!_pos z.toArray j hj, getElem!_pos z.toArray i (by omega)]
    by_cases h : i = j
    · subst h; exact Int.le_refl _
    · have := List.pairwise_iff_getElem.1 hs i j (by omega) hj' (by omega)
      simpa using this
  obtain ⟨h1, h2⟩ := compact_inv z.toArray hs2 z.length (by simp)
  refine ⟨h1, fun x => ?_⟩
  rw [h2, ← hp.mem_iff]
  constructor
  · rintro ⟨j, hj, rfl⟩
    rw [getElem!_pos z.toArray j (by simpa using hj)]
    simp
  · intro hx
    obtain ⟨j, hj, rfl⟩ := List.mem_iff_getElem.1 hx
    exact ⟨j, hj, by rw [getElem!_pos z.toArray j (by simpa using hj)]; simp⟩
theorem strict_same : ∀ (a b : List Int), a.Pairwise (· < ·) → b.Pairwise (· < ·) → (∀ x, x ∈ a ↔ x ∈ b) → a = b
  | [], [], _, _, _ => rfl
  | [], y :: b, _, _, h => by have := (h y).2 List.mem_cons_self; cases this
  | x :: a, [], _, _, h => by have := (h x).1 List.mem_cons_self; cases this
  | x :: a, y :: b, ha, hb, h => by
    rw [List.pairwise_cons] at ha hb
    have e : x = y := by
      rcases List.mem_cons.1 ((h x).1 List.mem_cons_self) with e | e
      · exact e
      · rcases List.mem_cons.1 ((h y).2 List.mem_cons_self) with e2 | e2
        · exact e2.symm
        · have := hb.1 x e; have := ha.1 y e2; omega
    subst e
    rw [strict_same a b ha.2 hb.2 (fun z => ?_)]
    have hz := h z
    rw [List.mem_cons, List.mem_cons] at hz
    constructor
    · intro hza
      rcases hz.1 (Or.inr hza) with e | e
      · have := ha.1 z hza; omega
      · exact e
    · intro hzb
      rcases hz.2 (Or.inr hzb) with e | e
      · have := hb.1 z hzb; omega
      · exact e
def rowAt (l : List S30) (s : Int) : List S30 := l.filter fun x => decide (x.f1 = s)
def Low (a b : S30) : Prop := a.f0 ≤ b.f0
def rowP (l : List S30) (s : Int) : List S30 := (rowAt l s).mergeSort fun a b => decide (a.f0 ≤ b.f0)
theorem rowAt_step (l : List S30) (s : Int) : ∀ x ∈ rowAt l s, x.f1 = s := fun x hx => by
  have := (List.mem_filter.1 hx).2
  simpa using this
theorem rowAt_length (l : List S30) (s : Int) : (rowAt l s).length ≤ l.length := List.length_filter_le _ _
theorem rowP_perm (l : List S30) (s : Int) : (rowP l s).Perm (rowAt l s) := List.mergeSort_perm _ _
theorem rowP_sorted (l : List S30) (s : Int) : (rowP l s).Pairwise Low := by
  have := List.pairwise_mergeSort (le := fun a b : S30 => decide (a.f0 ≤ b.f0)) (fun a b c h1 h2 => by simp at *; omega) (fun a b => by simp; omega) (rowAt l s)
  exact this.imp (fun h => by simpa [Low] using h)
theorem rowP_length (l : List S30) (s : Int) : (rowP l s).length ≤ l.length := by rw [(rowP_perm l s).length_eq]; exact rowAt_length l s
theorem stroke_same {l : List S30} {s : Int} {a b : S30} (ha : a ∈ rowAt l s) (hb : b ∈ rowAt l s) (h : a.f0 = b.f0) : a = b := by
  have h1 := rowAt_step l s a ha
  have h2 := rowAt_step l s b hb
  obtain ⟨a0, a1⟩ := a
  obtain ⟨b0, b1⟩ := b
  simp only at h h1 h2
  rw [h, h1, h2]
theorem rowP_uniq {l : List S30} {s : Int} {P : List S30} (hp : P.Perm (rowAt l s)) (hs : P.Pairwise Low) : P = rowP l s := by
  refine order_unique Low P (rowP l s) (hp.trans (rowP_perm l s).symm) hs (rowP_sorted l s) (fun a ha b hb h1 h2 => ?_)
  exact stroke_same (hp.mem_iff.1 ha) (hp.mem_iff.1 hb) (Int.le_antisymm h1 h2)
def rowOut (l : List S30) (i : Nat) (s : Int) : List S30 := if i % 2 = 0 then rowP l s else (rowP l s).reverse
def ans (l : List S30) : Nat → List Int → List S30
  | _, [] => []
  | i, s :: r => rowOut l i s ++ ans l (i + 1) r
def stepsOf (l : List S30) : Int → Nat → List Int
  | _, 0 => []
  | s, d + 1 => if (rowAt l s).length = 0 then stepsOf l (s + 1) d else s :: stepsOf l (s + 1) d
theorem rowOut_length (l : List S30) (i : Nat) (s : Int) : (rowOut l i s).length = (rowP l s).length := by
  unfold rowOut
  split
  · rfl
  · rw [List.length_reverse]
theorem stepsOf_spec (l : List S30) (d : Nat) : ∀ s : Int, (stepsOf l s d).Pairwise (· < ·) ∧ ∀ x, x ∈ stepsOf l s d ↔ (s ≤ x ∧ x < s + d ∧ (rowAt l x).length ≠ 0) := by
  induction d with
  | zero => intro s; exact ⟨List.Pairwise.nil, fun x => ⟨fun h => (by cases h), fun h => (by omega)⟩⟩
  | succ d ih =>
    intro s
    obtain ⟨h1, h2⟩ := ih (s + 1)
    unfold stepsOf
    by_cases h : (rowAt l s).length = 0
    · rw [if_pos h]
      refine ⟨h1, fun x => ?_⟩
      rw [h2]
      constructor
      · rintro ⟨a, b, c⟩; exact ⟨by omega, by omega, c⟩
      · rintro ⟨a, b, c⟩
        have : x ≠ s := by rintro rfl; exact c h
        exact ⟨by omega, by omega, c⟩
    · rw [if_neg h]
      refine ⟨List.pairwise_cons.2 ⟨fun x hx => by have := (h2 x).1 hx; omega, h1⟩, fun x => ?_⟩
      rw [List.mem_cons, h2]
      constructor
      · rintro (rfl | ⟨a, b, c⟩)
        · exact ⟨by omega, by omega, h⟩
        · exact ⟨by omega, by omega, c⟩
      · rintro ⟨a, b, c⟩
        by_cases hx : x = s
        · exact Or.inl hx
        · exact Or.inr ⟨by omega, by omega, c⟩
theorem steps_same (l : List S30) (hok : ∀ x ∈ l, StrokeOK x) : sorted1 (l.map fun x => x.f1) = stepsOf l 0 2000 := by
  obtain ⟨a1, a2⟩ := sorted1_spec (l.map fun x => x.f1)
  obtain ⟨b1, b2⟩ := stepsOf_spec l 2000 0
  refine strict_same _ _ a1 b1 (fun x => ?_)
  rw [a2, b2, List.mem_map]
  constructor
  · rintro ⟨y, hy, rfl⟩
    have := hok y hy
    unfold StrokeOK at this
    refine ⟨by omega, by omega, ?_⟩
    have hm : y ∈ rowAt l y.f1 := List.mem_filter.2 ⟨hy, by simp⟩
    have := List.length_pos_of_mem hm
    omega
  · rintro ⟨_, _, h⟩
    obtain ⟨y, hy⟩ := List.exists_mem_of_length_pos (by omega : 0 < (rowAt l x).length)
    exact ⟨y, (List.mem_filter.1 hy).1, rowAt_step l x y hy⟩
theorem rowAt_take (l : List S30) (s : Int) (i : Nat) (h : i < l.length) : rowAt (l.take (i + 1)) s = rowAt (l.take i) s ++ (if l[i].f1 = s then [l[i]] else []) := by
  unfold rowAt
  rw [List.take_succ_eq_append_getElem h, List.filter_append]
  congr 1
  by_cases hc : l[i].f1 = s
  · rw [if_pos hc, List.filter_cons_of_pos (by simpa using hc), List.filter_nil]
  · rw [if_neg hc, List.filter_cons_of_neg (by simpa using hc), List.filter_nil]
theorem sortRow_eq (l : List S30) (hl : l.length ≤ 1000) (i : Nat) (s : Int) : impl_sortRow.f i (rowAt l s) = some (rowOut l i s) := by
  have hc : (rowAt l s).length ≤ 8796093022208 ∧ ∀ a ∈ rowAt l s, ∀ b ∈ rowAt l s, impl_rowLt i a b = false → impl_rowLt i b a = false → a.f0 = b.f0 ∧ a.f1 = b.f1 := by
    refine ⟨by have := rowAt_length l s; omega, fun a ha b hb h1 h2 => ⟨?_, by rw [rowAt_step l s a ha, rowAt_step l s b hb]⟩⟩
    unfold impl_rowLt at h1 h2
    split at h1
    · rename_i hn
      rw [if_pos hn] at h2
      have := of_decide_eq_false h1; have := of_decide_eq_false h2; omega
    · rename_i hn
      rw [if_neg hn] at h2
      have := of_decide_eq_false h1; have := of_decide_eq_false h2; omega
  have hf : impl_sortRow.f i (rowAt l s) = some ((rowAt l s).mergeSort (fun a b => !impl_rowLt i b a)) := by unfold impl_sortRow.f; rw [if_pos hc]
  rw [hf]
  congr 1
  have hmod : Int.tmod (i : Int) 2 = ((i % 2 : Nat) : Int) := by rw [Int.tmod_eq_emod_of_nonneg (by omega)]; omega
  symm
  refine impl_sortRow.uniq hf ?_ ?_
  · unfold rowOut
    split
    · exact rowP_perm l s
    · exact (List.reverse_perm _).trans (rowP_perm l s)
  · unfold rowOut impl_rowLt
    by_cases h : i % 2 = 0
    · rw [if_pos h]
      refine (rowP_sorted l s).imp (fun {a b} hab => ?_)
      unfold Low at hab
      rw [if_pos (by rw [hmod, h]; rfl)]
      exact decide_eq_false (by omega)
    · rw [if_neg h, List.pairwise_reverse]
      refine (rowP_sorted l s).imp (fun {a b} hab => ?_)
      unfold Low at hab
      rw [if_neg (by rw [hmod]; omega)]
      exact decide_eq_false (by omega)
theorem impl_l2 (l : List S30) (hl : l.length ≤ 1000) (out : List S30) (i : Nat) (s : Int) (T : List Int) {Q : List S30 × Bool → Prop} (ho : out.length + l.length ≤ 8000000) (hi : i ≤ 1000000)
    (hk : Tot (fun k => impl_RowOrder.l1 k l (out ++ rowOut l i s) T T.length ((i + 1 : Nat) : Int)) Q) (d : Nat) : ∀ j : Nat, j + d = l.length →
    Tot (fun k => impl_RowOrder.l2 k l out i s (rowAt (l.take j) s) T T.length i l l.length j) Q := by
  induction d with
  | zero =>
    intro j hj
    refine Tot.step (h := fun k => impl_RowOrder.l1 k l (out ++ rowOut l i s) T T.length ((i + 1 : Nat) : Int)) (fun k => ?_) hk
    have hr := rowP_length l s
    have hr2 := rowOut_length l i s
    rw [impl_RowOrder.l2, if_neg (by omega), List.take_of_length_le (by omega), sortRow_eq l hl i s]
    simp only [Option.bind_some]
    rw [if_pos (by omega), w_next i (by omega)]
  | succ d ih =>
    intro j hj
    have hlt : j < l.length := by omega
    have h1 := rowAt_length (l.take j) s
    rw [List.length_take] at h1
    refine Tot.step (h := fun k => impl_RowOrder.l2 k l out i s (rowAt (l.take (j + 1)) s) T T.length i l l.length ((j + 1 : Nat) : Int)) (fun k => ?_) (ih (j + 1) (by omega))
    rw [impl_RowOrder.l2, if_pos (by omega), if_pos (by omega), if_pos (by omega), rdS_get l j hlt, rowAt_take l s j hlt, w_next j (by omega)]
    by_cases hc : l[j].f1 = s
    · rw [if_pos hc, if_pos hc, if_pos (by omega)]
    · rw [if_neg hc, if_neg hc, List.append_nil]
theorem impl_l1 (l : List S30) (hl : l.length ≤ 1000) (T : List Int) (hT : T.length ≤ 2000) (d : Nat) : ∀ (i : Nat) (out : List S30), i + d = T.length → out.length + 1000 * d ≤ 4000000 →
    Tot (fun k => impl_RowOrder.l1 k l out T T.length i) (fun r => r = (out ++ ans l i (T.drop i), true)) := by
  induction d with
  | zero =>
    intro i out hi ho
    refine Tot.step (h := fun _ => some (out, true)) (fun k => by rw [impl_RowOrder.l1, if_neg (by omega)]) (Tot.now _ (fun _ => rfl) ?_)
    rw [List.drop_of_length_le (by omega), ans, List.append_nil]
  | succ d ih =>
    intro i out hi ho
    have hlt : i < T.length := by omega
    have hr := rowP_length l T[i]
    have hr2 := rowOut_length l i T[i]
    refine Tot.step (h := fun k => impl_RowOrder.l2 k l out i T[i] (rowAt (l.take 0) T[i]) T T.length i l l.length ((0 : Nat) : Int)) (fun k => ?_) ?_
    · rw [impl_RowOrder.l1, if_pos (by omega), if_pos (by omega), if_pos (by omega), rd_get T i hlt]
      rfl
    · refine impl_l2 l hl out i T[i] T (by omega) (by omega) ?_ l.length 0 (by omega)
      refine (ih (i + 1) (out ++ rowOut l i T[i]) (by omega) (by rw [List.length_append]; omega)).weak (fun r hr => ?_)
      rw [hr, List.drop_eq_getElem_cons hlt, ans, List.append_assoc]
theorem impl_l0 (l : List S30) (hl : l.length ≤ 1000) {Q : List S30 × Bool → Prop} (hk : Tot (fun k => impl_RowOrder.l1 k l [] (sorted1 (l.map fun x => x.f1)) (sorted1 (l.map fun x => x.f1)).length ((0 : Nat) : Int)) Q) (d : Nat) : ∀ j : Nat, j + d = l.length →
    Tot (fun k => impl_RowOrder.l0 k l ((l.take j).map fun x => x.f1) l l.length j) Q := by
  induction d with
  | zero =>
    intro j hj
    refine Tot.step (fun k => ?_) hk
    rw [impl_RowOrder.l0, if_neg (by omega), List.take_of_length_le (by omega)]
    unfold impl_sortedSet.f slices_Clone_int.f
    rw [if_pos (by rw [List.length_map]; omega)]
    rfl
  | succ d ih =>
    intro j hj
    have hlt : j < l.length := by omega
    refine Tot.step (h := fun k => impl_RowOrder.l0 k l ((l.take (j + 1)).map fun x => x.f1) l l.length ((j + 1 : Nat) : Int)) (fun k => ?_) (ih (j + 1) (by omega))
    rw [impl_RowOrder.l0, if_pos (by omega), if_pos (by omega), if_pos (by omega), if_pos (by rw [List.length_map, List.length_take]; omega), rdS_get l j hlt, w_next j (by omega), List.take_succ_eq_append_getElem hlt, List.map_append]
    rfl
theorem steps_length (l : List S30) (d : Nat) : ∀ s : Int, (stepsOf l s d).length ≤ d := by
  induction d with
  | zero => intro s; exact Nat.le_refl _
  | succ d ih =>
    intro s
    have := ih (s + 1)
    unfold stepsOf
    split
    · omega
    · rw [List.length_cons]; omega
def rowAns (l : List S30) : List S30 × Bool := if StrokesOK l then (ans l 0 (stepsOf l 0 2000), true) else ([], false)
theorem implRow_tot (l : List S30) (hl : l.length ≤ 1048576) : Tot (fun k => impl_RowOrder.f k l) (fun r => r = rowAns l) := by
  refine Tot.bind (Q := fun t => t = decide (StrokesOK l)) (Tot.ge _ (l.length + 1) (fun k hk => areStrokes_eq l hl k (by omega)) rfl) (fun t ht => ?_)
  subst ht
  unfold rowAns
  by_cases h : StrokesOK l
  · rw [if_pos h]
    refine Tot.congr (fun k => if_pos (decide_eq_true h)) ?_
    have hl2 : l.length ≤ 200 := h.2
    refine impl_l0 l (by omega) ?_ l.length 0 (by omega)
    rw [steps_same l h.1]
    have := steps_length l 2000 0
    exact (impl_l1 l (by omega) (stepsOf l 0 2000) this (stepsOf l 0 2000).length 0 [] (by omega) (by rw [List.length_nil]; omega)).weak (fun r hr => by rw [hr, List.drop_zero, List.nil_append])
  · rw [if_neg h]
    exact Tot.now _ (fun k => if_neg (by rw [decide_eq_false h]; decide)) rfl
theorem low_ins {P : List S30} {x : S30} (hP : P.Pairwise Low) (q : Nat) (hq : q ≤ P.length) (h1 : q = 0 ∨ ∃ h : q - 1 < P.length, ¬ (P[q - 1].f0 > x.f0)) (h2 : ∀ j, q ≤ j → (h : j < P.length) → P[j].f0 > x.f0) :
    (P.take q ++ [x] ++ P.drop q).Pairwise Low ∧ (P.take q ++ [x] ++ P.drop q).Perm (P ++ [x]) := by
  have hd : ∀ b ∈ P.drop q, b.f0 > x.f0 := by
    intro b hb
    obtain ⟨j, hj, rfl⟩ := List.mem_iff_getElem.1 hb
    rw [List.getElem_drop]
    rw [List.length_drop] at hj
    exact h2 (q + j) (by omega) (by omega)
  have ht : ∀ a ∈ P.take q, a.f0 ≤ x.f0 := by
    intro a ha
    obtain ⟨j, hj, rfl⟩ := List.mem_iff_getElem.1 ha
    rw [List.length_take] at hj
    rw [List.getElem_take]
    rcases h1 with h0 | ⟨h, hle⟩
    · omega
    · by_cases hjq : j = q - 1
      · subst hjq; omega
      · have := List.pairwise_iff_getElem.1 hP j (q - 1) (by omega) h (by omega)
        unfold Low at this
        omega
  have hs : (P.take q ++ P.drop q).Pairwise Low := by rw [List.take_append_drop]; exact hP
  rw [List.pairwise_append] at hs
  refine ⟨?_, ?_⟩
  · rw [List.append_assoc, List.pairwise_append]
    refine ⟨hs.1, List.pairwise_cons.2 ⟨fun b hb => Int.le_of_lt (hd b hb), hs.2.1⟩, fun a ha b hb => ?_⟩
    rcases List.mem_cons.1 hb with e | e
    · rw [e]; exact ht a ha
    · exact hs.2.2 a ha b e
  · rw [List.append_assoc]
    refine (List.perm_middle (a := x) (l₁ := P.take q) (l₂ := P.drop q)).trans ?_
    rw [List.take_append_drop]
    exact (List.perm_append_singleton x P).symm
theorem spec_l2 (l out : List S30) (fl : Bool) (s : Int) (P : List S30) (hP : P.length ≤ 1000) (n : Int) (i : Int) (a b : Int) {Q : List S30 × Bool → Prop}
    (hk : ∀ q : Nat, q ≤ P.length → (q = 0 ∨ ∃ h : q - 1 < P.length, ¬ (P[q - 1].f0 > a)) → (∀ j, q ≤ j → (h : j < P.length) → P[j].f0 > a) → Tot (fun k => spec_RowOrder.l1 k l out fl s (P.take q ++ [(⟨a, b⟩ : S30)] ++ P.drop q) l n (wrap64 (i + 1))) Q) :
    ∀ p : Nat, p ≤ P.length → (∀ j, p ≤ j → (h : j < P.length) → P[j].f0 > a) → Tot (fun k => spec_RowOrder.l2 k l out fl s P p l n i a b) Q := by
  intro p
  induction p with
  | zero =>
    intro hp h2
    refine Tot.step (h := fun k => spec_RowOrder.l1 k l out fl s (P.take 0 ++ [(⟨a, b⟩ : S30)] ++ P.drop 0) l n (wrap64 (i + 1))) (fun k => ?_) (hk 0 hp (Or.inl rfl) h2)
    rw [spec_RowOrder.l2, if_neg (by simp)]
    simp only [Option.bind_some, List.nil_append, Int.toNat_natCast]
    rw [if_pos (by omega), if_pos (by omega), if_pos (by simp), if_pos (by simp), if_pos (by simp; omega)]
  | succ p ih =>
    intro hp h2
    have e1 : wrap64 (((p + 1 : Nat) : Int) - 1) = (p : Int) := by rw [w64 (by omega)]; omega
    by_cases hc : P[p].f0 > a
    · refine Tot.step (h := fun k => spec_RowOrder.l2 k l out fl s P p l n i a b) (fun k => ?_) (ih (by omega) (fun j hj h => ?_))
      · rw [spec_RowOrder.l2, if_pos (by omega), e1, if_pos (by omega), if_pos (by omega), rdS_get P p (by omega), if_pos hc]
      · by_cases hjp : j = p
        · subst hjp; exact hc
        · exact h2 j (by omega) h
    · refine Tot.step (h := fun k => spec_RowOrder.l1 k l out fl s (P.take (p + 1) ++ [(⟨a, b⟩ : S30)] ++ P.drop (p + 1)) l n (wrap64 (i + 1))) (fun k => ?_) (hk (p + 1) hp (Or.inr ⟨by omega, hc⟩) h2)
      rw [spec_RowOrder.l2, if_pos (by omega), e1, if_pos (by omega), if_pos (by omega), rdS_get P p (by omega), if_neg hc]
      simp only [Option.bind_some, List.nil_append, Int.toNat_natCast]
      rw [if_pos (by omega), if_pos (by omega), if_pos (by simp; omega), if_pos (by simp; omega), if_pos (by simp; omega)]
theorem spec_l1 (l : List S30) (hl : l.length ≤ 1000) (out : List S30) (fl : Bool) (s : Int) {Q : List S30 × Bool → Prop} (hk : Tot (fun k => spec_RowOrder.l3 k l out fl s (rowP l s) (rowP l s).length ((0 : Nat) : Int)) Q) (d : Nat) :
    ∀ (i : Nat) (P : List S30), i + d = l.length → P.Perm (rowAt (l.take i) s) → P.Pairwise Low → Tot (fun k => spec_RowOrder.l1 k l out fl s P l l.length i) Q := by
  induction d with
  | zero =>
    intro i P hi hp hs
    rw [List.take_of_length_le (by omega)] at hp
    obtain rfl := rowP_uniq hp hs
    exact Tot.step (fun k => by rw [spec_RowOrder.l1, if_neg (by omega)]; rfl) hk
  | succ d ih =>
    intro i P hi hp hs
    have hlt : i < l.length := by omega
    have hpl : P.length ≤ 1000 := by rw [hp.length_eq]; have := rowAt_length (l.take i) s; rw [List.length_take] at this; omega
    have hra := rowAt_take l s i hlt
    by_cases hc : l[i].f1 = s
    · rw [if_pos hc] at hra
      refine Tot.step (h := fun k => spec_RowOrder.l2 k l out fl s P P.length l l.length i l[i].f0 l[i].f1) (fun k => by rw [spec_RowOrder.l1, if_pos (by omega), if_pos (by omega), if_pos (by omega), rdS_get l i hlt, if_pos hc]) ?_
      refine spec_l2 l out fl s P hpl l.length i l[i].f0 l[i].f1 (fun q hq h1 h2 => ?_) P.length (Nat.le_refl _) (fun j hj h => by omega)
      have hins := low_ins (x := l[i]) hs q hq h1 h2
      rw [w_next i (by omega)]
      refine ih (i + 1) _ (by omega) ?_ hins.1
      rw [hra]
      exact hins.2.trans (hp.append_right _)
    · rw [if_neg hc, List.append_nil] at hra
      refine Tot.step (h := fun k => spec_RowOrder.l1 k l out fl s P l l.length ((i + 1 : Nat) : Int)) (fun k => by rw [spec_RowOrder.l1, if_pos (by omega), if_pos (by omega), if_pos (by omega), rdS_get l i hlt, if_neg hc, w_next i (by omega)]) (ih (i + 1) P (by omega) (by rw [hra]; exact hp) hs)
def dirP (fl : Bool) (P : List S30) : List S30 := if fl = true then P.reverse else P
theorem dirP_length (fl : Bool) (P : List S30) : (dirP fl P).length = P.length := by unfold dirP; split <;> simp
theorem spec_l3 (l : List S30) (fl : Bool) (s : Int) (P : List S30) (hP : P.length ≤ 1000) (out : List S30) (ho : out.length ≤ 8000000) {Q : List S30 × Bool → Prop}
    (hk : Tot (fun k => spec_RowOrder.l0 k l (out ++ dirP fl P) (if P.length = 0 then fl else !fl) (wrap64 (s + 1))) Q) (d : Nat) : ∀ j : Nat, j + d = P.length → Tot (fun k => spec_RowOrder.l3 k l (out ++ (dirP fl P).take j) fl s P P.length j) Q := by
  have hdl := dirP_length fl P
  induction d with
  | zero =>
    intro j hj
    rw [List.take_of_length_le (by omega)]
    refine Tot.step (fun k => ?_) hk
    rw [spec_RowOrder.l3, if_neg (by omega)]
    by_cases h : P.length = 0
    · rw [if_neg (by omega), if_pos h]
    · rw [if_pos (by omega), if_neg h]
  | succ d ih =>
    intro j hj
    have hlt : j < P.length := by omega
    have hlt2 : j < (dirP fl P).length := by omega
    have hol : (out ++ (dirP fl P).take j).length ≤ 8001000 := by rw [List.length_append, List.length_take]; omega
    refine Tot.step (h := fun k => spec_RowOrder.l3 k l (out ++ (dirP fl P).take (j + 1)) fl s P P.length ((j + 1 : Nat) : Int)) (fun k => ?_) (ih (j + 1) (by omega))
    rw [List.take_succ_eq_append_getElem hlt2, ← List.append_assoc, spec_RowOrder.l3, if_pos (by omega)]
    cases fl with
    | true =>
      have e1 : wrap64 (wrap64 ((P.length : Int) - 1) - j) = ((P.length - 1 - j : Nat) : Int) := by rw [w64 (x := (P.length : Int) - 1) (by omega), w64 (by omega)]; omega
      rw [if_pos rfl, e1, if_pos (by omega), if_pos (by omega)]
      simp only [Option.bind_some]
      rw [if_pos (by rw [List.length_cons, List.length_nil]; omega), w_next j (by omega), rdS_get P (P.length - 1 - j) (by omega)]
      have e2 : (dirP true P)[j] = P[P.length - 1 - j] := by
        simp only [dirP, if_true]
        rw [List.getElem_reverse]
      rw [e2]
    | false =>
      rw [if_neg (by decide), if_pos (by omega), if_pos (by omega)]
      simp only [Option.bind_some]
      rw [if_pos (by rw [List.length_cons, List.length_nil]; omega), w_next j (by omega), rdS_get P j hlt]
      rfl
theorem dir_out (l : List S30) (i : Nat) (s : Int) : dirP (decide (i % 2 = 1)) (rowP l s) = rowOut l i s := by
  unfold dirP rowOut
  by_cases h : i % 2 = 0
  · rw [if_pos h, if_neg (by simp; omega)]
  · rw [if_neg h, if_pos (by simp; omega)]
theorem spec_l0 (l : List S30) (hl : l.length ≤ 1000) (d : Nat) : ∀ (m : Nat) (i : Nat) (out : List S30), m + d = 2000 → out.length + 1000 * d ≤ 4000000 →
    Tot (fun k => spec_RowOrder.l0 k l out (decide (i % 2 = 1)) m) (fun r => r = (out ++ ans l i (stepsOf l m d), true)) := by
  induction d with
  | zero =>
    intro m i out hm ho
    refine Tot.step (h := fun _ => some (out, true)) (fun k => by rw [spec_RowOrder.l0, if_neg (by omega)]) (Tot.now _ (fun _ => rfl) ?_)
    rw [stepsOf, ans, List.append_nil]
  | succ d ih =>
    intro m i out hm ho
    have hpl := rowP_length l m
    have hpe := (rowP_perm l m).length_eq
    refine Tot.step (h := fun k => spec_RowOrder.l1 k l out (decide (i % 2 = 1)) m [] l l.length ((0 : Nat) : Int)) (fun k => by rw [spec_RowOrder.l0, if_pos (by omega)]; rfl) ?_
    refine spec_l1 l hl out (decide (i % 2 = 1)) m ?_ l.length 0 [] (by omega) (by simp [rowAt]) List.Pairwise.nil
    have := spec_l3 l (decide (i % 2 = 1)) m (rowP l m) (by omega) out (by omega) (Q := fun r => r = (out ++ ans l i (stepsOf l m (d + 1)), true)) ?_ (rowP l m).length 0 (by omega)
    · rw [List.take_zero, List.append_nil] at this
      exact this
    · rw [dir_out, w_next m (by omega)]
      have hro := rowOut_length l i m
      by_cases h : (rowP l m).length = 0
      · rw [if_pos h]
        have e1 : rowOut l i m = [] := List.length_eq_zero_iff.1 (by omega)
        rw [e1, List.append_nil]
        refine (ih (m + 1) i out (by omega) (by omega)).weak (fun r hr => ?_)
        rw [hr]
        conv => rhs; rw [stepsOf, if_pos (by omega)]
        rfl
      · rw [if_neg h]
        have e2 : (!decide (i % 2 = 1)) = decide ((i + 1) % 2 = 1) := by
          rcases Nat.mod_two_eq_zero_or_one i with e | e
          · rw [decide_eq_false (by omega), decide_eq_true (by omega)]; rfl
          · rw [decide_eq_true (by omega), decide_eq_false (by omega)]; rfl
        rw [e2]
        refine (ih (m + 1) (i + 1) (out ++ rowOut l i m) (by omega) (by rw [List.length_append]; omega)).weak (fun r hr => ?_)
        rw [hr]
        conv => rhs; rw [stepsOf, if_neg (by omega), ans]
        rw [List.append_assoc]
        rfl
theorem specRow_tot (l : List S30) (hl : l.length ≤ 1048576) : Tot (fun k => spec_RowOrder.f k l) (fun r => r = rowAns l) := by
  refine Tot.bind (Q := fun t => t = decide (StrokesOK l)) (Tot.ge _ (l.length + 1) (fun k hk => puGood_eq l hl k (by omega)) rfl) (fun t ht => ?_)
  subst ht
  unfold rowAns
  by_cases h : StrokesOK l
  · rw [if_pos h]
    refine Tot.congr (fun k => if_pos (decide_eq_true h)) ?_
    have hl2 : l.length ≤ 200 := h.2
    exact (spec_l0 l (by omega) 2000 0 0 [] (by omega) (by rw [List.length_nil]; omega)).weak (fun r hr => by rw [hr, List.nil_append]; rfl)
  · rw [if_neg h]
    exact Tot.now _ (fun k => if_neg (by rw [decide_eq_false h]; decide)) rfl
theorem ans_len (l : List S30) : ∀ (T : List Int) (i : Nat), (ans l i T).length ≤ l.length * T.length
  | [], i => by rw [ans]; simp
  | s :: r, i => by
    have h1 := ans_len l r (i + 1)
    have h2 := rowP_length l s
    have h3 := rowOut_length l i s
    rw [ans, List.length_append, List.length_cons, Nat.mul_add, Nat.mul_one]
    omega
theorem rowAns_length (l : List S30) : (rowAns l).1.length ≤ 400000 := by
  unfold rowAns
  split
  · rename_i h
    have h1 := ans_len l (stepsOf l 0 2000) 0
    have h2 := steps_length l 2000 0
    have h3 : l.length * (stepsOf l 0 2000).length ≤ 200 * 2000 := Nat.mul_le_mul h.2 h2
    simp only
    omega
  · simp
theorem sameInts_loop (l : List Int) (hl : l.length ≤ 1048576) (d : Nat) : ∀ (k i : Nat), i + d = l.length → d < k → laws_sameInts.l0 k l l l.length i = some true := by
  induction d with
  | zero =>
    intro k i hi hk
    obtain ⟨k, rfl⟩ : ∃ j, k = j + 1 := ⟨k - 1, by omega⟩
    rw [laws_sameInts.l0, if_neg (by omega)]
  | succ d ih =>
    intro k i hi hk
    obtain ⟨k, rfl⟩ : ∃ j, k = j + 1 := ⟨k - 1, by omega⟩
    rw [laws_sameInts.l0, if_pos (by omega), if_pos (by omega), if_pos (by omega), if_pos (by omega), if_pos rfl, w64 (by omega), show ((i : Int) + 1) = ((i + 1 : Nat) : Int) by omega]
    exact ih k (i + 1) (by omega) (by omega)
theorem sameInts_self (l : List Int) (hl : l.length ≤ 1048576) (k : Nat) (hk : l.length < k) : laws_sameInts.f k l l = some true := by
  unfold laws_sameInts.f
  rw [if_pos rfl]
  exact sameInts_loop l hl l.length k 0 (by omega) hk
theorem sameSt_loop (l : List S30) (hl : l.length ≤ 1048576) (d : Nat) : ∀ (k i : Nat), i + d = l.length → d < k → laws_pSameStrokes.l0 k l l l.length i = some true := by
  induction d with
  | zero =>
    intro k i hi hk
    obtain ⟨k, rfl⟩ : ∃ j, k = j + 1 := ⟨k - 1, by omega⟩
    rw [laws_pSameStrokes.l0, if_neg (by omega)]
  | succ d ih =>
    intro k i hi hk
    obtain ⟨k, rfl⟩ : ∃ j, k = j + 1 := ⟨k - 1, by omega⟩
    rw [laws_pSameStrokes.l0, if_pos (by omega), if_pos (by omega), if_pos (by omega), if_pos (by omega), if_neg (by simp), w64 (by omega), show ((i : Int) + 1) = ((i + 1 : Nat) : Int) by omega]
    exact ih k (i + 1) (by omega) (by omega)
theorem sameSt_self (l : List S30) (hl : l.length ≤ 1048576) (k : Nat) (hk : l.length < k) : laws_pSameStrokes.f k l l = some true := by
  unfold laws_pSameStrokes.f
  rw [if_pos rfl]
  exact sameSt_loop l hl l.length k 0 (by omega) hk
theorem swp_nat (l : List S30) (n m : Nat) (hn : n < l.length) (hm : m < l.length) : swp l n m = (l.set n l[m]).set m l[n] := by
  unfold swp
  rw [rdS_get l n hn, rdS_get l m hm]
  rfl
theorem swp_swp (l : List S30) (i k : Int) (hi : 0 ≤ i ∧ i < l.length) (hk : 0 ≤ k ∧ k < l.length) : swp (swp l i k) i k = l := by
  obtain ⟨n, rfl⟩ : ∃ n : Nat, i = n := ⟨i.toNat, by omega⟩
  obtain ⟨m, rfl⟩ : ∃ m : Nat, k = m := ⟨k.toNat, by omega⟩
  have hn : n < l.length := by omega
  have hm : m < l.length := by omega
  rw [swp_nat l n m hn hm, swp_nat _ n m (by simp; omega) (by simp; omega)]
  refine List.ext_getElem (by simp) (fun j h1 h2 => ?_)
  simp only [List.getElem_set]
  by_cases a : m = j
  · subst a
    by_cases b : n = m
    · subst b; simp
    · simp [b, Ne.symm b]
  · by_cases b : n = j
    · subst b; simp [a]
    · simp [a, b]
def has (m : Int) (l : List S30) (j : Nat) : Bool := l.any fun x => decide (Int.tmod x.f0 m = (j : Int))
def cls (m : Int) (l : List S30) (n : Nat) : Nat := ((List.range n).filter (has m l)).length
theorem filter_or (p q : Nat → Bool) : ∀ r : List Nat, (r.filter fun j => p j || q j).length ≤ (r.filter p).length + (r.filter q).length
  | [] => Nat.zero_le _
  | x :: r => by
    have := filter_or p q r
    simp only [List.filter_cons]
    cases p x <;> cases q x <;> simp <;> omega
theorem one_class (c : Int) : ∀ n : Nat, ((List.range n).filter fun j : Nat => decide (c = (j : Int))).length ≤ (if 0 ≤ c ∧ c < (n : Int) then 1 else 0)
  | 0 => by simp
  | n + 1 => by
    have := one_class c n
    rw [List.range_succ, List.filter_append, List.length_append]
    by_cases h : c = (n : Int)
    · rw [if_neg (by omega)] at this
      rw [if_pos (by omega)]
      simp only [List.filter_cons, h, decide_true, if_true, List.filter_nil, List.length_cons, List.length_nil] at this ⊢
      omega
    · rw [List.filter_cons_of_neg (by simpa using h), List.filter_nil, List.length_nil]
      by_cases h2 : 0 ≤ c ∧ c < (n : Int)
      · rw [if_pos h2] at this; rw [if_pos (by omega)]; omega
      · rw [if_neg h2] at this; split <;> omega
theorem cls_cons (m : Int) (a : S30) (l : List S30) (n : Nat) : cls m (a :: l) n ≤ cls m l n + 1 := by
  have h1 := filter_or (has m l) (fun j => decide (Int.tmod a.f0 m = (j : Int))) (List.range n)
  have h2 := one_class (Int.tmod a.f0 m) n
  have e : (List.range n).filter (has m (a :: l)) = (List.range n).filter fun j => has m l j || decide (Int.tmod a.f0 m = (j : Int)) := by
    apply List.filter_congr
    intro j _
    unfold has
    rw [List.any_cons, Bool.or_comm]
  unfold cls
  rw [e]
  have h3 : (if 0 ≤ Int.tmod a.f0 m ∧ Int.tmod a.f0 m < (n : Int) then 1 else 0) ≤ 1 := by split <;> omega
  omega
theorem cls_same (m : Int) (a b : S30) (l : List S30) (n : Nat) (h : Int.tmod b.f0 m = Int.tmod a.f0 m) : cls m (a :: b :: l) n = cls m (b :: l) n := by
  unfold cls
  congr 1
  apply List.filter_congr
  intro j _
  unfold has
  rw [List.any_cons, List.any_cons, h, ← Bool.or_assoc, Bool.or_self]
theorem cls_changes (m : Int) (n : Nat) : ∀ l : List S30, l ≠ [] → (cls m l n : Int) ≤ changes m l + 1
  | [], h => absurd rfl h
  | [a], _ => by
    have h1 := cls_cons m a [] n
    have h2 : cls m [] n = 0 := by unfold cls has; simp
    rw [changes.eq_2 _ _ (by simp)]
    omega
  | a :: b :: r, _ => by
    have ih := cls_changes m n (b :: r) (by simp)
    have h1 := cls_cons m a (b :: r) n
    rw [changes]
    split
    · rename_i h
      rw [cls_same m a b r n h]
      omega
    · omega
theorem changes_less (m : Int) : ∀ l : List S30, l ≠ [] → changes m l ≤ (l.length : Int) - 1
  | [], h => absurd rfl h
  | [a], _ => by rw [changes.eq_2 _ _ (by simp)]; simp
  | a :: b :: r, _ => by
    have ih := changes_less m (b :: r) (by simp)
    rw [changes]
    simp only [List.length_cons] at ih ⊢
    split <;> omega
theorem rd_set (out : List Int) (i j : Nat) (v : Int) (hi : i < out.length) (hj : j < out.length) : rd (out.set i v) (j : Int) = if i = j then v else rd out (j : Int) := by
  rw [rd_get _ j (by simpa using hj), rd_get out j hj, List.getElem_set]
theorem wear_pos {m : Int} (hm : 1 ≤ m ∧ m ≤ 5) : ∀ (l : List S30) (out : List Int), (∀ x ∈ l, StrokeOK x) → out.length = m.toNat → (∀ j : Nat, j < out.length → 0 ≤ rd out (j : Int)) →
    (l.foldl (wearStep m) out).length = m.toNat ∧ ∀ j : Nat, j < out.length → 0 ≤ rd (l.foldl (wearStep m) out) (j : Int) ∧ (0 < rd (l.foldl (wearStep m) out) (j : Int) ↔ (0 < rd out (j : Int) ∨ has m l j = true))
  | [], out, _, hl, h0 => ⟨hl, fun j hj => ⟨h0 j hj, by unfold has; simp⟩⟩
  | a :: l, out, hok, hl, h0 => by
    have ha := hok a List.mem_cons_self
    unfold StrokeOK at ha
    have ht := tmod_range a.f0 m (by omega) (by omega)
    obtain ⟨n, hn⟩ : ∃ n : Nat, Int.tmod a.f0 m = (n : Int) := ⟨(Int.tmod a.f0 m).toNat, by omega⟩
    have hnl : n < out.length := by omega
    have hstep : wearStep m out a = out.set n (rd out (n : Int) + 1) := by
      unfold wearStep
      rw [hn, Int.toNat_natCast]
    have hrd : ∀ j : Nat, j < out.length → rd (wearStep m out a) (j : Int) = if n = j then rd out (n : Int) + 1 else rd out (j : Int) := fun j hj => by rw [hstep, rd_set out n j _ hnl hj]
    have hll : (wearStep m out a).length = out.length := wearStep_length m out a
    obtain ⟨h1, h2⟩ := wear_pos hm l (wearStep m out a) (fun x hx => hok x (List.mem_cons_of_mem _ hx)) (by rw [hll, hl]) (fun j hj => by
      rw [hll] at hj
      rw [hrd j hj]
      have := h0 j hj
      have := h0 n hnl
      split <;> omega)
    refine ⟨h1, fun j hj => ?_⟩
    have h3 := h2 j (by rw [hll]; exact hj)
    rw [List.foldl_cons]
    refine ⟨h3.1, h3.2.trans ?_⟩
    rw [hrd j hj]
    have h4 := h0 n hnl
    unfold has
    rw [List.any_cons, Bool.or_eq_true, decide_eq_true_eq, hn]
    by_cases h : n = j
    · subst h
      rw [if_pos rfl]
      exact ⟨fun _ => Or.inr (Or.inl rfl), fun _ => Or.inl (by omega)⟩
    · rw [if_neg h]
      constructor
      · rintro (e | e)
        · exact Or.inl e
        · exact Or.inr (Or.inr e)
      · rintro (e | e | e)
        · exact Or.inl e
        · exact absurd (Int.ofNat_inj.1 e) h
        · exact Or.inr e
theorem wear_has {m : Int} (hm : 1 ≤ m ∧ m ≤ 5) (l : List S30) (hok : StrokesOK l) (j : Nat) (hj : j < m.toNat) : (rd (wear m l) (j : Int) > 0) ↔ has m l j = true := by
  have hz : ∀ j : Nat, j < (List.replicate m.toNat (0 : Int)).length → rd (List.replicate m.toNat (0 : Int)) (j : Int) = 0 := fun j hj => by
    rw [rd_get _ j hj, List.getElem_replicate]
  have := (wear_pos hm l (List.replicate m.toNat 0) hok.1 (by simp) (fun j hj => by rw [hz j hj]; exact Int.le_refl _)).2 j (by simpa using hj)
  rw [hz j (by simpa using hj)] at this
  unfold wear
  exact this.2.trans ⟨fun h => h.elim (fun e => absurd e (Int.lt_irrefl _)) id, Or.inr⟩
theorem cls_nil (m : Int) (n : Nat) : cls m [] n = 0 := by unfold cls has; simp
theorem law_used {m : Int} (hm : 1 ≤ m ∧ m ≤ 5) (l : List S30) (hok : StrokesOK l) (l1 : List Int) (ht : Tot (fun k => laws_FnHead.j4 k l1) (fun r => r = true)) (d : Nat) : ∀ i : Nat, i + d = m.toNat →
    Tot (fun k => laws_FnHead.l0 k l1 l m (changes m l) (wear m l) (cls m l i) (wear m l) (wear m l).length i) (fun r => r = true) := by
  have hwl := wear_length m l
  induction d with
  | zero =>
    intro i hi
    have hcb := changes_bounds m l
    refine Tot.step (fun k => ?_) ht
    rw [laws_FnHead.l0, if_neg (by omega), if_neg (by omega)]
    have hc2 : changes m l > 0 → changes m l ≤ wrap64 ((l.length : Int) - 1) := by
      intro h
      have hne : l ≠ [] := by rintro rfl; simp [changes] at h
      have h1 := changes_less m l hne
      have h2 := hok.2
      rw [w64 (by omega)]
      exact h1
    have hc3 : (cls m l i : Int) > 0 → ¬ (changes m l < wrap64 ((cls m l i : Int) - 1)) := by
      intro h
      have hne : l ≠ [] := by rintro rfl; rw [cls_nil] at h; simp at h
      have h1 := cls_changes m i l hne
      have h2 : cls m l i ≤ i := by unfold cls; exact Nat.le_trans (List.length_filter_le _ _) (by simp)
      rw [w64 (by omega)]
      omega
    have hlen : ((wear m l).length : Int) = m := by omega
    rw [if_pos hlen]
    by_cases h : changes m l > 0
    · rw [if_pos h, if_neg (by have := hc2 h; omega)]
      by_cases h2 : (cls m l i : Int) > 0
      · rw [if_pos h2, if_neg (hc3 h2)]
      · rw [if_neg h2]
    · rw [if_neg h]
      by_cases h2 : (cls m l i : Int) > 0
      · rw [if_pos h2, if_neg (hc3 h2)]
      · rw [if_neg h2]
  | succ d ih =>
    intro i hi
    have h2 : cls m l i ≤ i := by unfold cls; exact Nat.le_trans (List.length_filter_le _ _) (by simp)
    refine Tot.step (h := fun k => laws_FnHead.l0 k l1 l m (changes m l) (wear m l) (cls m l (i + 1)) (wear m l) (wear m l).length ((i + 1 : Nat) : Int)) (fun k => ?_) (ih (i + 1) (by omega))
    rw [laws_FnHead.l0, if_pos (by omega), if_pos (by omega), if_pos (by omega), w_next i (by omega), w_next (cls m l i) (by omega)]
    have hh := wear_has hm l hok i (by omega)
    have hstep : cls m l (i + 1) = cls m l i + (if has m l i = true then 1 else 0) := by
      unfold cls
      rw [List.range_succ, List.filter_append, List.length_append]
      congr 1
      by_cases h : has m l i = true
      · rw [if_pos h, List.filter_cons_of_pos h]; rfl
      · rw [if_neg h, List.filter_cons_of_neg h]; rfl
    by_cases h : has m l i = true
    · rw [if_pos (hh.2 h), hstep, if_pos h]
    · rw [if_neg (fun e => h (hh.1 e)), hstep, if_neg h]
      rfl
theorem ans_sorted (l : List S30) : ∀ (T : List Int) (i : Nat), T.Pairwise (· < ·) → (ans l i T).Pairwise (fun a b => a.f1 ≤ b.f1) ∧ ∀ x ∈ ans l i T, x.f1 ∈ T
  | [], i, _ => ⟨by rw [ans]; exact List.Pairwise.nil, fun x hx => by rw [ans] at hx; cases hx⟩
  | s :: r, i, h => by
    rw [List.pairwise_cons] at h
    obtain ⟨h1, h2⟩ := ans_sorted l r (i + 1) h.2
    have hro : ∀ x ∈ rowOut l i s, x.f1 = s := by
      intro x hx
      have : x ∈ rowP l s := by
        unfold rowOut at hx
        split at hx
        · exact hx
        · exact List.mem_reverse.1 hx
      exact rowAt_step l s x ((rowP_perm l s).mem_iff.1 this)
    rw [ans]
    refine ⟨List.pairwise_append.2 ⟨List.pairwise_iff_getElem.2 (fun a b ha hb _ => ?_), h1, fun a ha b hb => ?_⟩, fun x hx => ?_⟩
    · rw [hro _ (List.getElem_mem ha), hro _ (List.getElem_mem hb)]
      exact Int.le_refl _
    · rw [hro a ha]
      exact Int.le_of_lt (h.1 _ (h2 b hb))
    · rcases List.mem_append.1 hx with e | e
      · rw [hro x e]; exact List.mem_cons_self
      · exact List.mem_cons_of_mem _ (h2 x e)
theorem rowAns_sorted (l : List S30) : (rowAns l).1.Pairwise (fun a b => a.f1 ≤ b.f1) := by
  unfold rowAns
  split
  · exact (ans_sorted l _ 0 (stepsOf_spec l 2000 0).1).1
  · exact List.Pairwise.nil
theorem law_rows (R : List S30) (hR : R.length ≤ 1000000) (hs : R.Pairwise (fun a b => a.f1 ≤ b.f1)) (ok : Bool) (d : Nat) : ∀ i : Nat, 1 ≤ i → R.length ≤ i + d → i ≤ 1000001 → Tot (fun k => laws_FnHead.l1 k ok R i) (fun r => r = true) := by
  have fin : ∀ (i : Nat) (ok : Bool), ¬ (ok = true ∧ i < R.length) → Tot (fun k => laws_FnHead.l1 k ok R i) (fun r => r = true) := by
    intro i ok h
    refine Tot.step (h := fun k => laws_FnHead.j7 k ok R i false) (fun k => ?_) ?_
    · rw [laws_FnHead.l1]
      cases ok with
      | true => rw [if_pos rfl, decide_eq_false (fun e => h ⟨rfl, by omega⟩)]
      | false => rw [if_neg (by decide)]
    · exact Tot.step (h := fun _ => some true) (fun k => by rw [laws_FnHead.j7, if_neg (by decide)]) (Tot.now true (fun _ => rfl) rfl)
  induction d with
  | zero => intro i hi h h9; exact fin i ok (by omega)
  | succ d ih =>
    intro i hi h h9
    by_cases hc : ok = true ∧ i < R.length
    · obtain ⟨rfl, hlt⟩ := hc
      refine Tot.step (h := fun k => laws_FnHead.j7 k true R i true) (fun k => by rw [laws_FnHead.l1, if_pos rfl, decide_eq_true (by omega)]) ?_
      have e1 : wrap64 ((i : Int) - 1) = ((i - 1 : Nat) : Int) := by rw [w64 (by omega)]; omega
      have hle := List.pairwise_iff_getElem.1 hs (i - 1) i (by omega) hlt (by omega)
      refine Tot.step (h := fun k => laws_FnHead.l1 k true R ((i + 1 : Nat) : Int)) (fun k => ?_) (ih (i + 1) (by omega) (by omega) (by omega))
      rw [laws_FnHead.j7, if_pos rfl, e1, if_pos (by omega), if_pos (by omega), if_pos (by omega), if_pos (by omega), rdS_get R (i - 1) (by omega), rdS_get R i hlt, if_neg (by omega), w_next i (by omega)]
    · exact fin i ok hc
def wayAns (l : List S30) (ac : Int) : Int × Bool := if StrokesOK l ∧ 1 ≤ ac ∧ ac ≤ 50 then (ways ac l, true) else (0, false)
theorem law_j4 (l1 : List Int) (b1 : Bytes l1) : Tot (fun k => laws_FnHead.j4 k l1) (fun r => r = true) := by
  refine Tot.step (fun k => by rw [laws_FnHead.j4]) ?_
  refine Tot.bind (drawWay_tot l1 b1) (fun q hq => ?_)
  have hq' : q.1.length ≤ 202 := hq
  refine Tot.bind (Q := fun t => t = wayAns q.1 q.2) (Tot.ge _ (q.1.length + 301) (fun k hk => implWayOfHead_eq q.1 (by omega) q.2 k (by omega)) rfl) (fun t ht => ?_)
  refine Tot.bind (Q := fun t => t = wayAns q.1 q.2) (Tot.ge _ (q.1.length + 301) (fun k hk => specWayOfHead_eq q.1 (by omega) q.2 k (by omega)) rfl) (fun t' ht' => ?_)
  rw [← ht] at ht'
  subst ht'
  refine Tot.bind (drawRow_tot l1 b1) (fun y hy => ?_)
  have hy' : y.length ≤ 202 := hy
  refine Tot.bind (implRow_tot y (by omega)) (fun u hu => ?_)
  refine Tot.bind (specRow_tot y (by omega)) (fun u' hu' => ?_)
  rw [← hu] at hu'
  subst hu'
  have hl := rowAns_length y
  have hs := rowAns_sorted y
  rw [← hu] at hl hs
  refine Tot.congr (fun k => (if_neg (by simp)).trans ((if_pos rfl).trans (if_neg (by simp)))) ?_
  refine Tot.bind (Q := fun t => t = true) (Tot.ge true (u'.1.length + 1) (fun k hk => sameSt_self u'.1 (by omega) k (by omega)) rfl) (fun t h3 => ?_)
  subst h3
  refine Tot.step (h := fun k => laws_FnHead.l1 k u'.2 u'.1 ((1 : Nat) : Int)) (fun k => by rw [laws_FnHead.j5, if_neg (by decide)]; rfl) ?_
  exact law_rows u'.1 (by omega) hs u'.2 u'.1.length 1 (by omega) (by omega) (by omega)
theorem law_j1 (l1 : List Int) (b1 : Bytes l1) : Tot (fun k => laws_FnHead.j1 k l1) (fun r => r = true) := by
  refine Tot.step (fun k => by rw [laws_FnHead.j1]) ?_
  refine Tot.bind (drawTools_tot l1 b1) (fun q hq => ?_)
  obtain ⟨l, m⟩ := q
  have hq' : l.length ≤ 202 := hq
  by_cases h : StrokesOK l ∧ 1 ≤ m ∧ m ≤ 5
  · have e1 := fun k hk => implToolChanges_eq l (by omega) m k hk
    have e2 := fun k hk => specToolChanges_eq l (by omega) m k hk
    have e3 := fun k hk => implWearOf_eq l (by omega) m k hk
    have e4 := fun k hk => specWearOf_eq l (by omega) m k hk
    simp only [if_pos h] at e1 e2 e3 e4
    have hwl := wear_length m l
    refine Tot.bind (Q := fun t => t = (changes m l, true)) (Tot.ge _ (l.length + 4) (fun k hk => e1 k (by omega)) rfl) (fun t ht => ?_)
    subst ht
    refine Tot.bind (Q := fun t => t = (changes m l, true)) (Tot.ge _ (l.length + 4) (fun k hk => e2 k (by omega)) rfl) (fun t ht => ?_)
    subst ht
    refine Tot.bind (Q := fun t => t = (wear m l, true)) (Tot.ge _ (l.length + 301) (fun k hk => e3 k (by omega)) rfl) (fun t ht => ?_)
    subst ht
    refine Tot.bind (Q := fun t => t = (wear m l, true)) (Tot.ge _ (l.length + 301) (fun k hk => e4 k (by omega)) rfl) (fun t ht => ?_)
    subst ht
    refine Tot.congr (fun k => (if_neg (by simp)).trans ((if_pos rfl).trans (if_neg (by simp)))) ?_
    refine Tot.bind (Q := fun t => t = true) (Tot.ge true ((wear m l).length + 1) (fun k hk => sameInts_self (wear m l) (by omega) k (by omega)) rfl) (fun t h3 => ?_)
    subst h3
    refine Tot.congr (fun k => if_pos rfl) ?_
    refine Tot.step (h := fun k => laws_FnHead.l0 k l1 l m (changes m l) (wear m l) (cls m l 0) (wear m l) (wear m l).length ((0 : Nat) : Int)) (fun k => by rw [laws_FnHead.j2, if_neg (by simp), if_pos rfl]; rfl) ?_
    exact law_used h.2 l h.1 l1 (law_j4 l1 b1) m.toNat 0 (by omega)
  · have e1 := fun k hk => implToolChanges_eq l (by omega) m k hk
    have e2 := fun k hk => specToolChanges_eq l (by omega) m k hk
    have e3 := fun k hk => implWearOf_eq l (by omega) m k hk
    have e4 := fun k hk => specWearOf_eq l (by omega) m k hk
    simp only [if_neg h] at e1 e2 e3 e4
    refine Tot.bind (Q := fun t => t = (0, false)) (Tot.ge _ (l.length + 4) (fun k hk => e1 k (by omega)) rfl) (fun t ht => ?_)
    subst ht
    refine Tot.bind (Q := fun t => t = (0, false)) (Tot.ge _ (l.length + 4) (fun k hk => e2 k (by omega)) rfl) (fun t ht => ?_)
    subst ht
    refine Tot.bind (Q := fun t => t = ([], false)) (Tot.ge _ (l.length + 301) (fun k hk => e3 k (by omega)) rfl) (fun t ht => ?_)
    subst ht
    refine Tot.bind (Q := fun t => t = ([], false)) (Tot.ge _ (l.length + 301) (fun k hk => e4 k (by omega)) rfl) (fun t ht => ?_)
    subst ht
    refine Tot.congr (fun k => (if_neg (by simp)).trans ((if_pos rfl).trans (if_neg (by simp)))) ?_
    refine Tot.bind (Q := fun t => t = true) (Tot.ge true 1 (fun k hk => sameInts_self [] (by simp) k (by simp; omega)) rfl) (fun t h3 => ?_)
    subst h3
    refine Tot.congr (fun k => if_pos rfl) ?_
    exact Tot.step (fun k => by rw [laws_FnHead.j2, if_neg (by decide), if_neg (by decide)]) (law_j4 l1 b1)
theorem law_j0 (l1 : List Int) (b1 : Bytes l1) (l : List S30) (hl : l.length ≤ 1000) (i k' ac : Int) : Tot (fun k => laws_FnHead.j0 k l1 l i k' ac (gainOf l i k' ac).2 (gainOf l i k' ac).1 false) (fun r => r = true) := by
  by_cases h : GainOK l i k' ac
  · have hg : gainOf l i k' ac = (ways ac l - ways ac (swp l i k'), true) := by unfold gainOf; rw [if_pos h]
    have hok2 := swp_ok l i k' h.2.2.1 h.2.2.2 h.1
    have hln := swp_length l i k'
    have hG2 : GainOK (swp l i k') i k' ac := ⟨hok2, h.2.1, by rw [hln]; exact h.2.2.1, by rw [hln]; exact h.2.2.2⟩
    have hg2 : gainOf (swp l i k') i k' ac = (ways ac (swp l i k') - ways ac l, true) := by unfold gainOf; rw [if_pos hG2, swp_swp l i k' h.2.2.1 h.2.2.2]
    have wb1 := ways_bounds h.2.1 l h.1.1
    have wb2 := ways_bounds h.2.1 (swp l i k') hok2.1
    have hl2 := h.1.2
    obtain ⟨hi0, hi1⟩ := h.2.2.1
    obtain ⟨hk0, hk1⟩ := h.2.2.2
    rw [hg]
    have e1 := fun k hk => implWayOfHead_eq l (by omega) ac k hk
    have e2 := fun k hk => implWayOfHead_eq (swp l i k') (by omega) ac k hk
    have e3 := fun k hk => implSwapGain_eq (swp l i k') (by omega) i k' ac k hk
    simp only [if_pos (show StrokesOK l ∧ 1 ≤ ac ∧ ac ≤ 50 from ⟨h.1, h.2.1⟩)] at e1
    simp only [if_pos (show StrokesOK (swp l i k') ∧ 1 ≤ ac ∧ ac ≤ 50 from ⟨hok2, h.2.1⟩)] at e2
    simp only [hg2] at e3
    refine Tot.step (h := fun k => (impl_WayOfHead.f k l ac).bind fun bt683 => ((impl_WayOfHead.f k (swp l i k') ac).bind fun bt685 => ((impl_SwapGain.f k (swp l i k') i k' ac).bind fun bt687 => (if bt683.2 = true then (if bt685.2 = true then (if (wrap64 (bt683.1 - bt685.1)) = (ways ac l - ways ac (swp l i k')) then (if bt687.2 = true then (if bt687.1 = (wrap64 (-(ways ac l - ways ac (swp l i k')))) then (laws_FnHead.j1 k l1) else (some false)) else (some false)) else (some false)) else (some false)) else (some false))))) (fun k => ?_) ?_
    · rw [laws_FnHead.j0, if_neg (by decide), if_pos rfl]
      simp only [Option.bind_some, List.nil_append, List.length_nil, Nat.zero_add]
      rw [if_pos (by omega), if_pos hk0, if_pos hk1, if_pos hi0, if_pos hi1, if_pos hi1, if_pos hk1]
      rfl
    · refine Tot.bind (Q := fun t => t = (ways ac l, true)) (Tot.ge _ (l.length + 301) (fun k hk => e1 k (by omega)) rfl) (fun t ht => ?_)
      subst ht
      refine Tot.bind (Q := fun t => t = (ways ac (swp l i k'), true)) (Tot.ge _ (l.length + 301) (fun k hk => e2 k (by omega)) rfl) (fun t ht => ?_)
      subst ht
      refine Tot.bind (Q := fun t => t = (ways ac (swp l i k') - ways ac l, true)) (Tot.ge _ (l.length + 301) (fun k hk => e3 k (by omega)) rfl) (fun t ht => ?_)
      subst ht
      refine Tot.congr (fun k => (if_pos rfl).trans ((if_pos rfl).trans ((if_pos ?_).trans ((if_pos rfl).trans (if_pos ?_))))) (law_j1 l1 b1)
      · rw [w64 (by omega)]
      · rw [w64 (by omega)]; omega
  · have hg : gainOf l i k' ac = (0, false) := by unfold gainOf; rw [if_neg h]
    rw [hg]
    exact Tot.step (fun k => by rw [laws_FnHead.j0, if_neg (by decide), if_neg (by decide)]) (law_j1 l1 b1)
theorem u8_wf (l : List Int) (h : ∀ x ∈ l, (Lit.int .u8 x).wf = true) : ∀ x ∈ l, 0 ≤ x ∧ x ≤ 255 := fun x hx => by
  have := h x hx
  simpa [Lit.wf, IntKind.min, IntKind.max, IntKind.signed, IntKind.bits] using this
theorem FnHead : laws_FnHead.Pure := by
  intro l0 l1 m0 _ w0 m1 _ w1
  unfold maxLen at m0 m1
  by_cases hb : (l0.length : Int) > 1048576
  · exact ⟨0, by unfold laws_FnHead.f laws_big.f; rw [if_pos hb]; rfl⟩
  · by_cases hc : (l1.length : Int) > wrap64 (1048576 - (l0.length : Int))
    · refine ⟨0, ?_⟩
      unfold laws_FnHead.f laws_big.f
      rw [if_neg hb]
      simp only [Option.bind_some]
      rw [if_pos (decide_eq_true hc)]
    · have hc' := hc
      rw [w64 (by omega)] at hc'
      have b0 : Bytes l0 := ⟨by omega, u8_wf l0 w0⟩
      have b1 : Bytes l1 := ⟨by omega, u8_wf l1 w1⟩
      have key : Tot (fun k => laws_FnHead.f k l0 l1) (fun r => r = true) := by
        refine Tot.congr (h := fun k => (spec_DrawSwapGain.f k l0).bind fun bt663 => ((impl_SwapGain.f k bt663.1 bt663.2.1 bt663.2.2.1 bt663.2.2.2).bind fun bt669 => ((spec_SwapGain.f k bt663.1 bt663.2.1 bt663.2.2.1 bt663.2.2.2).bind fun bt671 => (if (bt669.2 != bt671.2) = true then (laws_FnHead.j0 k l1 bt663.1 bt663.2.1 bt663.2.2.1 bt663.2.2.2 bt669.2 bt671.1 true) else (laws_FnHead.j0 k l1 bt663.1 bt663.2.1 bt663.2.2.1 bt663.2.2.2 bt669.2 bt671.1 (bt669.1 != bt671.1)))))) (fun k => ?_) ?_
        · unfold laws_FnHead.f laws_big.f
          rw [if_neg hb]
          simp only [Option.bind_some]
          rw [if_neg (by simpa using hc)]
        refine Tot.bind (drawGain_tot l0 b0) (fun q hq => ?_)
        obtain ⟨l, i, k', ac⟩ := q
        have hl : l.length ≤ 202 := hq
        refine Tot.bind (Q := fun t => t = gainOf l i k' ac) (Tot.ge _ (l.length + 301) (fun k hk => implSwapGain_eq l (by omega) i k' ac k (by omega)) rfl) (fun t ht => ?_)
        refine Tot.bind (Q := fun t => t = gainOf l i k' ac) (Tot.ge _ (l.length + 301) (fun k hk => specSwapGain_eq l (by omega) i k' ac k (by omega)) rfl) (fun t' ht' => ?_)
        subst ht'
        subst ht
        exact Tot.congr (fun k => (if_neg (by simp)).trans (by rw [bne_self_eq_false])) (law_j0 l1 b1 l (by omega) i k' ac)
      obtain ⟨r, hr, K, hK⟩ := key
      exact ⟨K, (hK K (Nat.le_refl _)).trans (by rw [hr])⟩
end Go.Proofs.YtmnnmddfmmaohaaGreat.Pure
