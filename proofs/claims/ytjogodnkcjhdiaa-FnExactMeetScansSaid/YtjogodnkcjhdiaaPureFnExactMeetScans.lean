/- FnExactMeetScans: the program's MeetScans answers as the reference's, for all pairs of slices of strings. No condition. -/
import Derived.Test.YtjogodnkcjhdiaaPFnExactMeetScansx6
namespace Go.Proofs.Ytjogodnkcjhdiaa.Pure
open Go.RowKit Go.Proofs.Ytjogodnkcjhdiaa.PFnExactMeetScans Go.Proofs.YtjogodnkcjhdiaaW.PrintWords Go.Proofs.YtjogodnkcjhdiaaW.PrintLast

set_option linter.unusedVariables false
set_option linter.unusedSimpArgs false

theorem w64 {x : Int} (h : -9223372036854775808 ≤ x ∧ x ≤ 9223372036854775807) : wrap64 x = x := by
  unfold wrap64; omega
theorem someF {p : Prop} [Decidable p] (h : ¬ p) : some false = some (decide p) := by rw [decide_eq_false h]
theorem someD {q p : Prop} [Decidable q] [Decidable p] (h : q ↔ p) : some (decide q) = some (decide p) := by rw [decide_eq_decide.2 h]

theorem in_eq (a b c : Int) : spec_l1In.f a b c = some (decide (b ≤ a ∧ a ≤ c)) := by
  unfold spec_l1In.f
  by_cases h : a ≥ b
  · rw [if_pos h]; congr 1; simp [show b ≤ a from h]
  · rw [if_neg h]; congr 1; simp; omega

theorem fill_step {α : Type} (l : List α) (z : α) (i : Nat) (h : i < l.length) :
    (l.take i ++ List.replicate (l.length - i) z).set i (l[i]'h) = l.take (i + 1) ++ List.replicate (l.length - (i + 1)) z := by
  have hl : (l.take i).length = i := by rw [List.length_take]; omega
  rw [List.set_append_right _ _ (by omega), hl, Nat.sub_self, show l.length - i = (l.length - (i + 1)) + 1 by omega, List.replicate_succ, List.set_cons_zero, List.take_succ_eq_append_getElem h, List.append_assoc]
  rfl
theorem fill_length {α : Type} (l : List α) (z : α) (i : Nat) (h : i ≤ l.length) : (l.take i ++ List.replicate (l.length - i) z).length = l.length := by
  simp; omega

theorem rd_get (l : List Int) (i : Nat) (h : i < l.length) : rd l (i : Int) = l[i] := by
  unfold rd; rw [Int.toNat_natCast, List.getD_eq_getElem?_getD, List.getElem?_eq_getElem h]; rfl

theorem rdB_get (l : List ByteArray) (i : Nat) (h : i < l.length) : rdOf ByteArray.empty l (i : Int) = l[i] := by
  unfold rdOf; rw [Int.toNat_natCast, List.getD_eq_getElem?_getD, List.getElem?_eq_getElem h]; rfl
theorem drop_get {α : Type} (l : List α) (i : Nat) (h : i < l.length) : l.drop i = l[i] :: l.drop (i + 1) := List.drop_eq_getElem_cons h
/-- the bytes of a string -/
abbrev cs (s : ByteArray) : List Int := bytesOf s
theorem cs_length (s : ByteArray) : (cs s).length = s.size := bytesOf_length s
theorem bt_get (s : ByteArray) (i : Nat) (h : i < s.size) : bt s (i : Int) = (cs s)[i]'(by rw [cs_length]; exact h) := by
  rw [← rd_bytesOf, rd_get _ _ (by rw [bytesOf_length]; exact h)]
theorem szStrings_loop (l : List ByteArray) (hl : l.length ≤ 1048576) (hs : ∀ s ∈ l, s.size ≤ maxLen) (d : Nat) : ∀ (k i : Nat) (n : Int), i + d = l.length → d < k → 0 ≤ n ∧ n ≤ 1048576 →
    ∃ r, laws_szStringS.l0 k l n i = some r ∧ (0 ≤ r → r ≤ n ∧ ∀ s ∈ l.drop i, s.size ≤ n) := by
  induction d with
  | zero =>
    intro k i n hi hk hn
    obtain ⟨k, rfl⟩ : ∃ j, k = j + 1 := ⟨k - 1, by omega⟩
    exact ⟨n, by rw [laws_szStringS.l0, if_neg (by omega)], fun _ => ⟨Int.le_refl _, by rw [List.drop_of_length_le (by omega)]; simp⟩⟩
  | succ d ih =>
    intro k i n hi hk hn
    obtain ⟨k, rfl⟩ : ∃ j, k = j + 1 := ⟨k - 1, by omega⟩
    have h1 : l[i].size ≤ maxLen := hs _ (List.getElem_mem _)
    unfold maxLen at h1
    rw [laws_szStringS.l0, if_pos (by omega), if_pos (by omega), rdB_get l i (by omega), w64 (x := n - _) (by omega), w64 (by omega)]
    by_cases h : n - (l[i].size : Int) < 0
    · exact ⟨-1, by rw [if_pos h], fun h' => by omega⟩
    · obtain ⟨r, hr, hb⟩ := ih k (i + 1) (n - l[i].size) (by omega) (by omega) (by omega)
      refine ⟨r, by rw [if_neg h]; exact hr, fun h' => ?_⟩
      obtain ⟨b1, b2⟩ := hb h'
      refine ⟨by omega, ?_⟩
      rw [drop_get l i (by omega), List.forall_mem_cons]
      exact ⟨by omega, fun s hs' => by have := b2 s hs'; omega⟩
/-- the guard on the size of an argument: what it lets through is small -/
theorem szStrings_eq (l : List ByteArray) (hl : l.length ≤ maxLen) (hs : ∀ s ∈ l, s.size ≤ maxLen) (n : Int) (hn : 0 ≤ n ∧ n ≤ 1048576) :
    ∃ r, (∀ k, l.length < k → laws_szStringS.f k l n = some r) ∧ (0 ≤ r → r ≤ n ∧ l.length ≤ 1048576 ∧ ∀ s ∈ l, s.size ≤ 1048576) := by
  have hl' := hl
  unfold maxLen at hl'
  by_cases h : n - (l.length : Int) < 0
  · exact ⟨-1, fun k _ => by unfold laws_szStringS.f; rw [w64 (by omega), if_pos h], fun h' => by omega⟩
  · obtain ⟨r, hr, hb⟩ := szStrings_loop l (by omega) hs l.length (l.length + 1) 0 (n - l.length) (by omega) (by omega) (by omega)
    refine ⟨r, fun k hk => ?_, fun h' => ?_⟩
    · unfold laws_szStringS.f
      rw [w64 (by omega), if_neg h]
      obtain ⟨q, hq, _⟩ := szStrings_loop l (by omega) hs l.length k 0 (n - l.length) (by omega) (by omega) (by omega)
      have := at_rounds (g := fun k => laws_szStringS.l0 k l (n - l.length) ((0 : Nat) : Int)) (fun k => laws_szStringS.mono_l k _ _ _) (show l.length + 1 ≤ k by omega) hr
      exact this
    · obtain ⟨b1, b2⟩ := hb h'
      refine ⟨by omega, by omega, fun s hs' => ?_⟩
      have := b2 s (by simpa using hs')
      omega
theorem toStrings_loop (l : List ByteArray) (hl : l.length ≤ 1048576) (d : Nat) : ∀ (k i : Nat), i + d = l.length → d < k →
    laws_toStringS.l0 k l (l.take i ++ List.replicate (l.length - i) (⟨#[]⟩ : ByteArray)) i = some l := by
  induction d with
  | zero =>
    intro k i hi hk
    obtain ⟨k, rfl⟩ : ∃ j, k = j + 1 := ⟨k - 1, by omega⟩
    rw [laws_toStringS.l0, if_neg (by omega), show l.length - i = 0 by omega, List.replicate_zero, List.append_nil, List.take_of_length_le (by omega)]
  | succ d ih =>
    intro k i hi hk
    obtain ⟨k, rfl⟩ : ∃ j, k = j + 1 := ⟨k - 1, by omega⟩
    rw [laws_toStringS.l0, if_pos (by omega), if_pos (by omega), fill_length _ _ _ (by omega), if_pos (by omega), Int.toNat_natCast, rdB_get l i (by omega), fill_step l _ i (by omega), w64 (by omega)]
    exact ih k (i + 1) (by omega) (by omega)
theorem toStrings_eq (l : List ByteArray) (hl : l.length ≤ 1048576) (k : Nat) (hk : l.length < k) : laws_toStringS.f k l = some l := by
  unfold laws_toStringS.f
  rw [if_pos (by omega), if_pos (by omega), Int.toNat_natCast]
  have := toStrings_loop l hl l.length k 0 (by omega) hk
  simpa using this
theorem eqStrings_loop (l : List ByteArray) (hl : l.length ≤ 1048576) (d : Nat) : ∀ (k i : Nat), i + d = l.length → d < k → laws_eqStringS.l0 k l l i = some true := by
  induction d with
  | zero =>
    intro k i hi hk
    obtain ⟨k, rfl⟩ : ∃ j, k = j + 1 := ⟨k - 1, by omega⟩
    rw [laws_eqStringS.l0, if_neg (by omega)]
  | succ d ih =>
    intro k i hi hk
    obtain ⟨k, rfl⟩ : ∃ j, k = j + 1 := ⟨k - 1, by omega⟩
    rw [laws_eqStringS.l0, if_pos (by omega), if_pos (by omega), if_pos (by omega), if_pos rfl, w64 (by omega)]
    exact ih k (i + 1) (by omega) (by omega)
theorem eqStrings_self (l : List ByteArray) (hl : l.length ≤ 1048576) (k : Nat) (hk : l.length < k) : laws_eqStringS.f k l l = some true := by
  unfold laws_eqStringS.f
  rw [if_pos rfl]
  exact eqStrings_loop l hl l.length k 0 (by omega) hk

/-- rectangles of some characters: the rows are as long as the first, and hold those characters alone -/
def RowOK (ch : Int → Bool) (n : Nat) (s : ByteArray) : Bool := s.size == n && (cs s).all ch
def wid (l : List ByteArray) : Nat := (l.headD ByteArray.empty).size
def Grid (ch : Int → Bool) (least rows width : Nat) (l : List ByteArray) : Bool :=
  decide (least ≤ l.length) && decide (l.length ≤ rows) && decide (least ≤ wid l) && decide (wid l ≤ width) && l.all (RowOK ch (wid l))
def fuelR : List ByteArray → Nat
  | [] => 1
  | s :: r => s.size + 2 + fuelR r
theorem wid_get (l : List ByteArray) (h : 0 < l.length) : wid l = (l[0]'h).size := by
  cases l with
  | nil => simp at h
  | cons a r => rfl
theorem indexByte_found (l : List UInt8) (c : UInt8) : (Go.Lib.indexByte l c < 0) ↔ c ∉ l := by
  induction l with
  | nil => simp [Go.Lib.indexByte]
  | cons b r ih =>
    have hge : ∀ l : List UInt8, -1 ≤ Go.Lib.indexByte l c := by
      intro l
      induction l with
      | nil => simp [Go.Lib.indexByte]
      | cons b r ih => unfold Go.Lib.indexByte; split; omega; split <;> omega
    have hr := hge r
    unfold Go.Lib.indexByte
    by_cases h : b = c
    · subst h; simp
    · have h1 : (b == c) = false := by simpa using h
      have h2 : c ≠ b := fun e => h e.symm
      rw [h1]
      simp only [Bool.false_eq_true, if_false, List.mem_cons, not_or]
      by_cases h3 : Go.Lib.indexByte r c = -1
      · have h4 : (Go.Lib.indexByte r c == -1) = true := by simpa using h3
        rw [h4]; simp only [if_true]
        exact ⟨fun _ => ⟨h2, ih.1 (by omega)⟩, fun _ => by omega⟩
      · have h4 : (Go.Lib.indexByte r c == -1) = false := by simpa using h3
        rw [h4]; simp only [Bool.false_eq_true, if_false]
        exact ⟨fun h => by omega, fun h => absurd (ih.2 h.2) (by omega)⟩

def chS (c : Int) : Bool := c == 46 || c == 111 || c == 63

theorem scGood_row (x0 : List ByteArray) (s : ByteArray) (hs : s.size ≤ 1048576) (x6 : List ByteArray) (x7 x8 : Int) (d : Nat) : ∀ (k i : Nat), i + d = s.size →
    spec_scGood.l1 (k + d + 1) x0 s i x6 x7 x8 = if ((cs s).drop i).all chS then spec_scGood.l0 k x0 x6 x7 (wrap64 (x8 + 1)) else some false := by
  induction d with
  | zero =>
    intro k i hi
    rw [spec_scGood.l1, if_neg (by omega), List.drop_of_length_le (by rw [cs_length]; omega)]
    simp
  | succ d ih =>
    intro k i hi
    rw [spec_scGood.l1, if_pos (by omega), if_pos (by omega), bt_get s i (by omega), drop_get (cs s) i (by rw [cs_length]; omega), List.all_cons, w64 (by omega), show k + (d + 1) = k + d + 1 by omega, show ((i : Int) + 1) = ((i + 1 : Nat) : Int) by omega, ih k (i + 1) (by omega)]
    generalize (cs s)[i]'_ = c
    unfold chS
    by_cases h1 : c = 46
    · simp [h1]
    · by_cases h2 : c = 111
      · simp [h2]
      · by_cases h3 : c = 63
        · simp [h3]
        · simp [h1, h2, h3]
theorem scGood_loop (l : List ByteArray) (hl : l.length ≤ 1048576) (hs : ∀ s ∈ l, s.size ≤ 1048576) (d : Nat) : ∀ (k i : Nat), i + d = l.length → fuelR (l.drop i) ≤ k →
    spec_scGood.l0 k l l l.length i = if (l.drop i).all (RowOK chS (wid l)) then
      (if 1 ≤ l.length ∧ l.length ≤ 60 then (if 0 < (l.length : Int) then some (decide (1 ≤ wid l ∧ wid l ≤ 20)) else none) else some false) else some false := by
  induction d with
  | zero =>
    intro k i hi hk
    rw [List.drop_of_length_le (by omega)] at hk ⊢
    obtain ⟨k, rfl⟩ : ∃ j, k = j + 1 := ⟨k - 1, by unfold fuelR at hk; omega⟩
    rw [spec_scGood.l0, if_neg (by omega), in_eq]
    simp only [Option.bind_some, decide_eq_true_eq, List.all_nil, if_true]
    by_cases h0 : 0 < l.length
    · rw [if_pos (show 0 < (l.length : Int) by omega), show ((0 : Int)) = ((0 : Nat) : Int) from rfl, rdB_get l 0 h0, in_eq, wid_get l h0]
      simp only [Option.bind_some]
      split
      · rw [if_pos (by omega), if_pos (by omega)]; exact someD (by omega)
      · rw [if_neg (by omega)]
    · rw [if_neg (by omega), if_neg (by omega)]
  | succ d ih =>
    intro k i hi hk
    have hx : l[i].size ≤ 1048576 := hs _ (List.getElem_mem _)
    rw [drop_get l i (by omega)] at hk ⊢
    unfold fuelR at hk
    obtain ⟨j, hj⟩ : ∃ j, k = j + l[i].size + 1 + 1 := ⟨k - l[i].size - 2, by omega⟩
    rw [hj]
    have h0 : 0 < l.length := by omega
    rw [spec_scGood.l0, if_pos (by omega), if_pos (by omega), if_pos (by omega), if_pos (by omega), rdB_get l i (by omega)]
    rw [show rdOf ByteArray.empty l 0 = l[0] from rdB_get l 0 h0, ← wid_get l h0, List.all_cons]
    by_cases h1 : (l[i].size : Int) = (wid l : Int)
    · have h1' : (l[i].size == wid l) = true := by simp; omega
      rw [if_pos h1, show (0 : Int) = ((0 : Nat) : Int) from rfl, scGood_row l l[i] hx l _ _ l[i].size j 0 (by omega), List.drop_zero, w64 (by omega), show ((i : Int) + 1) = ((i + 1 : Nat) : Int) by omega, ih j (i + 1) (by omega) (by omega)]
      unfold RowOK
      rw [h1', Bool.true_and]
      by_cases h2 : (cs l[i]).all chS = true
      · rw [if_pos h2, h2, Bool.true_and]
        rfl
      · rw [if_neg h2, Bool.eq_false_iff.2 h2, Bool.false_and, if_neg (by decide)]
    · have h1' : (l[i].size == wid l) = false := by simp; omega
      rw [if_neg h1]
      unfold RowOK
      rw [h1', Bool.false_and, Bool.false_and, if_neg (by decide)]
theorem scGood_eq (l : List ByteArray) (hl : l.length ≤ 1048576) (hs : ∀ s ∈ l, s.size ≤ 1048576) (k : Nat) (hk : fuelR l ≤ k) : spec_scGood.f k l = some (Grid chS 1 60 20 l) := by
  unfold spec_scGood.f
  have := scGood_loop l hl hs l.length k 0 (by omega) (by simpa using hk)
  rw [List.drop_zero] at this
  rw [show (0 : Int) = ((0 : Nat) : Int) from rfl, this]
  unfold Grid
  by_cases h : l.all (RowOK chS (wid l)) = true
  · rw [if_pos h, h, Bool.and_true]
    by_cases h1 : 1 ≤ l.length ∧ l.length ≤ 60
    · rw [if_pos h1, if_pos (by omega), decide_eq_true h1.1, decide_eq_true h1.2]
      by_cases h2 : 1 ≤ wid l <;> by_cases h3 : wid l ≤ 20 <;> simp [h2, h3]
    · rw [if_neg h1]
      by_cases h2 : 1 ≤ l.length <;> by_cases h3 : l.length ≤ 60
      · exact absurd ⟨h2, h3⟩ h1
      all_goals simp [h2, h3]
  · rw [if_neg h, Bool.eq_false_iff.2 h, Bool.and_false]

def chIn (chars : ByteArray) (c : Int) : Bool := decide (c.toNat.toUInt8 ∈ chars.data.toList)
theorem isGrid_row (x0 : List ByteArray) (ch s : ByteArray) (hs : s.size ≤ 1048576) (x40 : List ByteArray) (x41 x42 : Int) (d : Nat) : ∀ (k i : Nat), i + d = s.size →
    impl_isGridOf.l1 (k + d + 1) x0 ch s i x40 x41 x42 = if ((cs s).drop i).all (chIn ch) then impl_isGridOf.l0 k x0 ch x40 x41 (wrap64 (x42 + 1)) else some false := by
  induction d with
  | zero =>
    intro k i hi
    rw [impl_isGridOf.l1, if_neg (by omega), List.drop_of_length_le (by rw [cs_length]; omega)]
    simp
  | succ d ih =>
    intro k i hi
    rw [impl_isGridOf.l1, if_pos (by omega), if_pos (by omega), bt_get s i (by omega), drop_get (cs s) i (by rw [cs_length]; omega), List.all_cons, w64 (by omega), show k + (d + 1) = k + d + 1 by omega, show ((i : Int) + 1) = ((i + 1 : Nat) : Int) by omega, ih k (i + 1) (by omega)]
    generalize (cs s)[i]'_ = c
    unfold strings_IndexByte.f chIn
    simp only [Option.bind_some]
    have hf := indexByte_found ch.data.toList c.toNat.toUInt8
    by_cases h : c.toNat.toUInt8 ∈ ch.data.toList
    · rw [if_neg (fun h' => hf.1 h' h), decide_eq_true h, Bool.true_and]
    · rw [if_pos (hf.2 h), decide_eq_false h, Bool.false_and, if_neg (by decide)]
theorem isGrid_loop (l : List ByteArray) (ch : ByteArray) (hl : l.length ≤ 1048576) (hs : ∀ s ∈ l, s.size ≤ 1048576) (d : Nat) : ∀ (k i : Nat), i + d = l.length → fuelR (l.drop i) ≤ k →
    impl_isGridOf.l0 k l ch l l.length i = some ((l.drop i).all (RowOK (chIn ch) (wid l))) := by
  induction d with
  | zero =>
    intro k i hi hk
    rw [List.drop_of_length_le (by omega)] at hk ⊢
    obtain ⟨k, rfl⟩ : ∃ j, k = j + 1 := ⟨k - 1, by unfold fuelR at hk; omega⟩
    rw [impl_isGridOf.l0, if_neg (by omega)]
    rfl
  | succ d ih =>
    intro k i hi hk
    have hx : l[i].size ≤ 1048576 := hs _ (List.getElem_mem _)
    rw [drop_get l i (by omega)] at hk ⊢
    unfold fuelR at hk
    obtain ⟨j, hj⟩ : ∃ j, k = j + l[i].size + 1 + 1 := ⟨k - l[i].size - 2, by omega⟩
    rw [hj]
    have h0 : 0 < l.length := by omega
    rw [impl_isGridOf.l0, if_pos (by omega), if_pos (by omega), if_pos (by omega), if_pos (by omega), rdB_get l i (by omega)]
    rw [show rdOf ByteArray.empty l 0 = l[0] from rdB_get l 0 h0, ← wid_get l h0, List.all_cons]
    by_cases h1 : (l[i].size : Int) = (wid l : Int)
    · have h1' : (l[i].size == wid l) = true := by simp; omega
      rw [if_pos h1, show (0 : Int) = ((0 : Nat) : Int) from rfl, isGrid_row l ch l[i] hx l _ _ l[i].size j 0 (by omega), List.drop_zero, w64 (by omega), show ((i : Int) + 1) = ((i + 1 : Nat) : Int) by omega, ih j (i + 1) (by omega) (by omega)]
      unfold RowOK
      rw [h1', Bool.true_and]
      by_cases h2 : (cs l[i]).all (chIn ch) = true
      · rw [if_pos h2, h2, Bool.true_and]
      · rw [if_neg h2, Bool.eq_false_iff.2 h2, Bool.false_and]
    · have h1' : (l[i].size == wid l) = false := by simp; omega
      rw [if_neg h1]
      unfold RowOK
      rw [h1', Bool.false_and, Bool.false_and]
theorem isGrid_eq (l : List ByteArray) (hl : l.length ≤ 1048576) (hs : ∀ s ∈ l, s.size ≤ 1048576) (least rows width : Nat) (h1 : 1 ≤ least) (ch : ByteArray) (k : Nat) (hk : fuelR l < k) :
    impl_isGridOf.f k l least rows width ch = some (Grid (chIn ch) least rows width l) := by
  obtain ⟨k, rfl⟩ : ∃ j, k = j + 1 := ⟨k - 1, by omega⟩
  unfold impl_isGridOf.f Grid
  simp only [impl_isGridOf.j0, if_true]
  by_cases h2 : least ≤ l.length
  · by_cases h3 : l.length ≤ rows
    · have h0 : 0 < l.length := by omega
      rw [if_neg (by omega), if_neg (by omega), if_pos (by omega), show rdOf ByteArray.empty l 0 = l[0] from rdB_get l 0 h0, ← wid_get l h0, decide_eq_true h2, decide_eq_true h3]
      by_cases h4 : least ≤ wid l
      · rw [if_neg (by omega), decide_eq_true h4]
        by_cases h5 : wid l ≤ width
        · have := isGrid_loop l ch hl hs l.length k 0 (by omega) (by simpa using (by omega : fuelR l ≤ k))
          rw [List.drop_zero] at this
          rw [if_neg (by simp; omega), decide_eq_true h5, show (0 : Int) = ((0 : Nat) : Int) from rfl, this]
          simp
        · rw [if_pos (by simp; omega), decide_eq_false h5]; simp
      · rw [if_pos (by omega), decide_eq_false h4]; simp
    · rw [if_neg (by omega), if_pos (by omega), decide_eq_false h3]; simp
  · rw [if_pos (by omega), decide_eq_false h2]; simp

theorem chIn_scan (c : Int) (hc : 0 ≤ c ∧ c ≤ 255) : chIn ⟨#[46, 111, 63]⟩ c = chS c := by
  unfold chIn chS
  obtain ⟨n, rfl⟩ : ∃ n : Nat, c = n := ⟨c.toNat, by omega⟩
  have hn : n < 256 := by omega
  rw [Int.toNat_natCast]
  have key : ∀ m : Fin 256, decide (m.val.toUInt8 ∈ [(46 : UInt8), 111, 63]) = ((m.val : Int) == 46 || (m.val : Int) == 111 || (m.val : Int) == 63) := by decide +kernel
  exact key ⟨n, hn⟩
theorem cs_range (s : ByteArray) : ∀ c ∈ cs s, 0 ≤ c ∧ c ≤ 255 := by
  intro c hc
  unfold cs bytesOf at hc
  obtain ⟨b, _, rfl⟩ := List.mem_map.1 hc
  have := b.toNat_lt
  omega
theorem all_congr' {α : Type} (l : List α) (p q : α → Bool) (h : ∀ x ∈ l, p x = q x) : l.all p = l.all q := by
  induction l with
  | nil => rfl
  | cons a r ih => rw [List.all_cons, List.all_cons, h a (by simp), ih (fun x hx => h x (List.mem_cons_of_mem _ hx))]
theorem rowOK_scan (n : Nat) (s : ByteArray) : RowOK (chIn ⟨#[46, 111, 63]⟩) n s = RowOK chS n s := by
  unfold RowOK
  rw [all_congr' _ _ _ (fun c hc => chIn_scan c (cs_range s c hc))]
theorem grid_scan (least rows width : Nat) (l : List ByteArray) : Grid (chIn ⟨#[46, 111, 63]⟩) least rows width l = Grid chS least rows width l := by
  unfold Grid
  rw [all_congr' _ _ _ (fun s _ => rowOK_scan (wid l) s)]

theorem grid_facts {ch : Int → Bool} {least rows width : Nat} {l : List ByteArray} (h : Grid ch least rows width l = true) :
    least ≤ l.length ∧ l.length ≤ rows ∧ least ≤ wid l ∧ wid l ≤ width ∧ ∀ s ∈ l, s.size = wid l ∧ ∀ c ∈ cs s, ch c = true := by
  unfold Grid at h
  simp only [Bool.and_eq_true, decide_eq_true_eq, List.all_eq_true] at h
  obtain ⟨⟨⟨⟨h1, h2⟩, h3⟩, h4⟩, h5⟩ := h
  refine ⟨h1, h2, h3, h4, fun s hs => ?_⟩
  have := h5 s hs
  unfold RowOK at this
  simp only [Bool.and_eq_true, beq_iff_eq, List.all_eq_true] at this
  exact this
theorem chS_cases {c : Int} (h : chS c = true) : c = 46 ∨ c = 111 ∨ c = 63 := by
  unfold chS at h
  simp only [Bool.or_eq_true, beq_iff_eq] at h
  omega
theorem fuelR_bound (l : List ByteArray) (n : Nat) (h : ∀ s ∈ l, s.size ≤ n) : fuelR l ≤ l.length * (n + 2) + 1 := by
  induction l with
  | nil => simp [fuelR]
  | cons s r ih =>
    have h1 := ih (fun x hx => h x (List.mem_cons_of_mem _ hx))
    have h2 := h s (by simp)
    unfold fuelR
    rw [List.length_cons, Nat.add_mul]
    omega

/-- at how many places two scans differ without a stain -/
def rowFaults : List Int → List Int → Int
  | x :: xs, y :: ys => (if x = y then 0 else if x = 63 then 0 else if y = 63 then 0 else 1) + rowFaults xs ys
  | _, _ => 0
def faults : List ByteArray → List ByteArray → Int
  | s :: r, t :: q => rowFaults (cs s) (cs t) + faults r q
  | _, _ => 0
theorem rowFaults_bounds (a b : List Int) : 0 ≤ rowFaults a b ∧ rowFaults a b ≤ a.length := by
  induction a generalizing b with
  | nil => simp [rowFaults]
  | cons x xs ih =>
    cases b with
    | nil => simp [rowFaults]; omega
    | cons y ys =>
      have := ih ys
      rw [rowFaults, List.length_cons]
      repeat' split
      all_goals omega
theorem faults_bounds (a b : List ByteArray) (n : Nat) (h : ∀ s ∈ a, s.size ≤ n) : 0 ≤ faults a b ∧ faults a b ≤ a.length * n := by
  induction a generalizing b with
  | nil => simp [faults]
  | cons s r ih =>
    cases b with
    | nil => simp only [faults, Int.le_refl, true_and]; exact Int.mul_nonneg (by omega) (by omega)
    | cons t q =>
      have h1 := ih q (fun x hx => h x (List.mem_cons_of_mem _ hx))
      have h2 := h s (by simp)
      have h3 := rowFaults_bounds (cs s) (cs t)
      rw [cs_length] at h3
      rw [faults, List.length_cons, show (((r.length + 1 : Nat) : Int) * (n : Int)) = (r.length : Int) * n + n by rw [Int.natCast_add, Int.add_mul]; simp]
      omega

theorem specFaults_row (x1 : List ByteArray) (s t : ByteArray) (hs : s.size ≤ 1000) (ht : t.size = s.size) (x10 : List ByteArray) (x11 x12 : Int) (d : Nat) : ∀ (k i : Nat) (n : Int), i + d = s.size → 0 ≤ n ∧ n + d ≤ 1000000000 →
    spec_scApart.l1 (k + d + 1) x1 n s t i x10 x11 x12 = spec_scApart.l0 k x1 (n + rowFaults ((cs s).drop i) ((cs t).drop i)) x10 x11 (wrap64 (x12 + 1)) := by
  induction d with
  | zero =>
    intro k i n hi hn
    rw [spec_scApart.l1, if_neg (by omega), List.drop_of_length_le (by rw [cs_length]; omega)]
    simp [rowFaults]
  | succ d ih =>
    intro k i n hi hn
    rw [spec_scApart.l1, if_pos (by omega), if_pos (by omega), if_pos (by omega), bt_get s i (by omega), bt_get t i (by omega), drop_get (cs s) i (by rw [cs_length]; omega), drop_get (cs t) i (by rw [cs_length]; omega), rowFaults, w64 (x := (i : Int) + 1) (by omega), show k + (d + 1) = k + d + 1 by omega, show ((i : Int) + 1) = ((i + 1 : Nat) : Int) by omega]
    split
    · rw [ih k (i + 1) n (by omega) (by omega), Int.zero_add]
    · split
      · rw [ih k (i + 1) n (by omega) (by omega), Int.zero_add]
      · split
        · rw [ih k (i + 1) n (by omega) (by omega), Int.zero_add]
        · rw [w64 (by omega), ih k (i + 1) (n + 1) (by omega) (by omega), Int.add_assoc]
theorem specFaults_loop (a b : List ByteArray) (ha : a.length ≤ 1000) (hab : b.length = a.length) (hs : ∀ i (h : i < a.length), a[i].size ≤ 1000 ∧ (b[i]'(by omega)).size = a[i].size) (d : Nat) :
    ∀ (k i : Nat) (n : Int), i + d = a.length → fuelR (a.drop i) ≤ k → 0 ≤ n ∧ n + 1000 * d ≤ 100000000 →
    spec_scApart.l0 k b n a a.length i = some (n + faults (a.drop i) (b.drop i)) := by
  induction d with
  | zero =>
    intro k i n hi hk hn
    rw [List.drop_of_length_le (by omega)] at hk ⊢
    obtain ⟨k, rfl⟩ : ∃ j, k = j + 1 := ⟨k - 1, by unfold fuelR at hk; omega⟩
    rw [spec_scApart.l0, if_neg (by omega)]
    simp [faults]
  | succ d ih =>
    intro k i n hi hk hn
    obtain ⟨h1, h2⟩ := hs i (by omega)
    rw [drop_get a i (by omega)] at hk ⊢
    unfold fuelR at hk
    obtain ⟨j, hj⟩ : ∃ j, k = j + a[i].size + 1 + 1 := ⟨k - a[i].size - 2, by omega⟩
    have hb := rowFaults_bounds (cs a[i]) (cs (b[i]'(by omega)))
    rw [cs_length] at hb
    rw [hj, spec_scApart.l0, if_pos (by omega), if_pos (by omega), if_pos (by omega), if_pos (by omega), rdB_get a i (by omega), rdB_get b i (by omega), drop_get b i (by omega), faults, show (0 : Int) = ((0 : Nat) : Int) from rfl, specFaults_row b a[i] _ h1 h2 a a.length i a[i].size j 0 n (by omega) (by omega), List.drop_zero, List.drop_zero, w64 (by omega), show ((i : Int) + 1) = ((i + 1 : Nat) : Int) by omega, ih j (i + 1) _ (by omega) (by omega) (by omega), Int.add_assoc]
theorem specFaults_eq (a b : List ByteArray) (ha : a.length ≤ 1000) (hab : b.length = a.length) (hs : ∀ i (h : i < a.length), a[i].size ≤ 1000 ∧ (b[i]'(by omega)).size = a[i].size) (k : Nat) (hk : fuelR a ≤ k) :
    spec_scApart.f k a b = some (faults a b) := by
  unfold spec_scApart.f
  have := specFaults_loop a b ha hab hs a.length k 0 0 (by omega) (by simpa using hk) (by omega)
  rw [List.drop_zero, List.drop_zero, Int.zero_add] at this
  exact this

theorem implFaults_row (a b : List ByteArray) (r : Nat) (hr : r < a.length) (hb : b.length = a.length) (hs : a[r].size ≤ 1000) (ht : (b[r]'(by omega)).size = a[r].size) (x9 x10 : Int) (d : Nat) : ∀ (k i : Nat) (n : Int), i + d = a[r].size → 0 ≤ n ∧ n + d ≤ 1000000000 →
    impl_scanFaults.l1 (k + d + 1) a b n r x9 x10 a[r].size i = impl_scanFaults.l0 k a b (n + rowFaults ((cs a[r]).drop i) ((cs (b[r]'(by omega))).drop i)) x9 (wrap64 (x10 + 1)) := by
  induction d with
  | zero =>
    intro k i n hi hn
    rw [impl_scanFaults.l1, if_neg (by omega), List.drop_of_length_le (by rw [cs_length]; omega)]
    simp [rowFaults]
  | succ d ih =>
    intro k i n hi hn
    rw [impl_scanFaults.l1, if_pos (by omega), if_pos (by omega), if_pos (by omega), if_pos (by omega), rdB_get a r hr, rdB_get b r (by omega), if_pos (by omega), if_pos (by omega), if_pos (by omega), bt_get a[r] i (by omega), bt_get (b[r]'(by omega)) i (by omega), drop_get (cs a[r]) i (by rw [cs_length]; omega), drop_get (cs (b[r]'(by omega))) i (by rw [cs_length]; omega), rowFaults, w64 (x := (i : Int) + 1) (by omega), show k + (d + 1) = k + d + 1 by omega, show ((i : Int) + 1) = ((i + 1 : Nat) : Int) by omega]
    split
    · rw [ih k (i + 1) n (by omega) (by omega), Int.zero_add]
    · split
      · rw [ih k (i + 1) n (by omega) (by omega), Int.zero_add]
      · split
        · rw [ih k (i + 1) n (by omega) (by omega), Int.zero_add]
        · rw [w64 (by omega), ih k (i + 1) (n + 1) (by omega) (by omega), Int.add_assoc]
theorem implFaults_loop (a b : List ByteArray) (ha : a.length ≤ 1000) (hab : b.length = a.length) (hs : ∀ i (h : i < a.length), a[i].size ≤ 1000 ∧ (b[i]'(by omega)).size = a[i].size) (d : Nat) :
    ∀ (k i : Nat) (n : Int), i + d = a.length → fuelR (a.drop i) ≤ k → 0 ≤ n ∧ n + 1000 * d ≤ 100000000 →
    impl_scanFaults.l0 k a b n a.length i = some (n + faults (a.drop i) (b.drop i)) := by
  induction d with
  | zero =>
    intro k i n hi hk hn
    rw [List.drop_of_length_le (by omega)] at hk ⊢
    obtain ⟨k, rfl⟩ : ∃ j, k = j + 1 := ⟨k - 1, by unfold fuelR at hk; omega⟩
    rw [impl_scanFaults.l0, if_neg (by omega)]
    simp [faults]
  | succ d ih =>
    intro k i n hi hk hn
    obtain ⟨h1, h2⟩ := hs i (by omega)
    rw [drop_get a i (by omega)] at hk ⊢
    unfold fuelR at hk
    obtain ⟨j, hj⟩ : ∃ j, k = j + a[i].size + 1 + 1 := ⟨k - a[i].size - 2, by omega⟩
    have hb := rowFaults_bounds (cs a[i]) (cs (b[i]'(by omega)))
    rw [cs_length] at hb
    rw [hj, impl_scanFaults.l0, if_pos (by omega), if_pos (by omega), if_pos (by omega), rdB_get a i (by omega), drop_get b i (by omega), faults, show (0 : Int) = ((0 : Nat) : Int) from rfl, implFaults_row a b i (by omega) hab h1 h2 a.length i a[i].size j 0 n (by omega) (by omega), List.drop_zero, List.drop_zero, w64 (by omega), show ((i : Int) + 1) = ((i + 1 : Nat) : Int) by omega, ih j (i + 1) _ (by omega) (by omega) (by omega), Int.add_assoc]
theorem implFaults_eq (a b : List ByteArray) (ha : a.length ≤ 1000) (hab : b.length = a.length) (hs : ∀ i (h : i < a.length), a[i].size ≤ 1000 ∧ (b[i]'(by omega)).size = a[i].size) (k : Nat) (hk : fuelR a ≤ k) :
    impl_scanFaults.f k a b = some (faults a b) := by
  unfold impl_scanFaults.f
  have := implFaults_loop a b ha hab hs a.length k 0 0 (by omega) (by simpa using hk) (by omega)
  rw [List.drop_zero, List.drop_zero, Int.zero_add] at this
  exact this

theorem isScan_eq (l : List ByteArray) (hl : l.length ≤ 1048576) (hs : ∀ s ∈ l, s.size ≤ 1048576) (k : Nat) (hk : fuelR l < k) : impl_IsScan.f k l = some (Grid chS 1 60 20 l) := by
  unfold impl_IsScan.f
  rw [show (1 : Int) = ((1 : Nat) : Int) from rfl, show (60 : Int) = ((60 : Nat) : Int) from rfl, show (20 : Int) = ((20 : Nat) : Int) from rfl, isGrid_eq l hl hs 1 60 20 (by omega) _ _ hk, grid_scan]
  rfl

/-- two scans of one size -/
def Two (a b : List ByteArray) : Bool := Grid chS 1 60 20 a && Grid chS 1 60 20 b && decide (a.length = b.length) && decide (wid a = wid b)
theorem two_facts {a b : List ByteArray} (h : Two a b = true) : Grid chS 1 60 20 a = true ∧ Grid chS 1 60 20 b = true ∧ a.length = b.length ∧ wid a = wid b := by
  unfold Two at h
  simp only [Bool.and_eq_true, decide_eq_true_eq] at h
  exact ⟨h.1.1.1, h.1.1.2, h.1.2, h.2⟩
theorem two_sizes {a b : List ByteArray} (h : Two a b = true) : a.length ≤ 60 ∧ b.length = a.length ∧ ∀ i (hi : i < a.length), a[i].size ≤ 20 ∧ (b[i]'(by have := (two_facts h).2.2.1; omega)).size = a[i].size := by
  obtain ⟨h1, h2, h3, h4⟩ := two_facts h
  obtain ⟨a1, a2, a3, a4, a5⟩ := grid_facts h1
  obtain ⟨b1, b2, b3, b4, b5⟩ := grid_facts h2
  refine ⟨a2, h3.symm, fun i hi => ?_⟩
  have e1 := (a5 _ (List.getElem_mem hi)).1
  have e2 := (b5 _ (List.getElem_mem (show i < b.length by omega))).1
  omega

theorem specTwo_eq (a b : List ByteArray) (ha : a.length ≤ 1048576) (hsa : ∀ s ∈ a, s.size ≤ 1048576) (hb : b.length ≤ 1048576) (hsb : ∀ s ∈ b, s.size ≤ 1048576) (k : Nat) (hk : fuelR a < k ∧ fuelR b < k) : spec_scTwo.f k a b = some (Two a b) := by
  unfold spec_scTwo.f Two
  rw [scGood_eq a ha hsa _ (by omega), scGood_eq b hb hsb _ (by omega)]
  simp only [Option.bind_some]
  by_cases h1 : Grid chS 1 60 20 a = true
  · by_cases h2 : Grid chS 1 60 20 b = true
    · have a1 := (grid_facts h1).1
      have b1 := (grid_facts h2).1
      rw [if_pos h1, if_pos h2, h1, h2, show rdOf ByteArray.empty a 0 = a[0] from rdB_get a 0 (by omega), show rdOf ByteArray.empty b 0 = b[0] from rdB_get b 0 (by omega), ← wid_get a (by omega), ← wid_get b (by omega)]
      by_cases h3 : a.length = b.length
      · rw [if_pos (by omega), if_pos (by omega), if_pos (by omega), decide_eq_true h3]
        by_cases h4 : wid a = wid b
        · simp [h4]
        · have : ((wid a : Int) == (wid b : Int)) = false := by simp; omega
          rw [this, decide_eq_false h4]; rfl
      · rw [if_neg (by omega), decide_eq_false h3]; rfl
    · rw [if_pos h1, if_neg h2, h1, Bool.eq_false_iff.2 h2]; rfl
  · rw [if_neg h1, Bool.eq_false_iff.2 h1]; rfl
theorem sameSize_eq (a b : List ByteArray) (ha : a.length ≤ 1048576) (hsa : ∀ s ∈ a, s.size ≤ 1048576) (hb : b.length ≤ 1048576) (hsb : ∀ s ∈ b, s.size ≤ 1048576) (k : Nat) (hk : fuelR a < k ∧ fuelR b < k) : impl_sameSize.f k a b = some (Two a b) := by
  unfold impl_sameSize.f Two
  rw [isScan_eq a ha hsa _ (by omega), isScan_eq b hb hsb _ (by omega)]
  simp only [Option.bind_some]
  by_cases h1 : Grid chS 1 60 20 a = true
  · by_cases h2 : Grid chS 1 60 20 b = true
    · have a1 := (grid_facts h1).1
      have b1 := (grid_facts h2).1
      rw [if_pos h1, if_pos h2, h1, h2, show rdOf ByteArray.empty a 0 = a[0] from rdB_get a 0 (by omega), show rdOf ByteArray.empty b 0 = b[0] from rdB_get b 0 (by omega), ← wid_get a (by omega), ← wid_get b (by omega)]
      by_cases h3 : a.length = b.length
      · rw [if_pos (by omega), if_pos (by omega), if_pos (by omega), decide_eq_true h3]
        by_cases h4 : wid a = wid b
        · simp [h4]
        · have : ((wid a : Int) == (wid b : Int)) = false := by simp; omega
          rw [this, decide_eq_false h4]; rfl
      · rw [if_neg (by omega), decide_eq_false h3]; rfl
    · rw [if_pos h1, if_neg h2, h1, Bool.eq_false_iff.2 h2]; rfl
  · rw [if_neg h1, Bool.eq_false_iff.2 h1]; rfl

/-- the marks' texts: what counts is that there is one for each number -/
def mtext (n : Int) : ByteArray := (laws_markText.f 100 n).getD ByteArray.empty
theorem markText_loop (d : Nat) : ∀ (k : Nat) (n : Int) (s : ByteArray), 0 ≤ n → n < 10 ^ d → n ≤ 1099511627776 → d < k → s.size + d ≤ 1000 → ∃ t, laws_markText.l0 k n s = some t := by
  induction d with
  | zero =>
    intro k n s h0 h1 h2 hk hs
    obtain ⟨k, rfl⟩ : ∃ j, k = j + 1 := ⟨k - 1, by omega⟩
    simp at h1
    rw [laws_markText.l0, if_neg (by omega), if_pos (by omega)]
    exact ⟨_, rfl⟩
  | succ d ih =>
    intro k n s h0 h1 h2 hk hs
    obtain ⟨k, rfl⟩ : ∃ j, k = j + 1 := ⟨k - 1, by omega⟩
    by_cases h : n > 0
    · rw [laws_markText.l0, if_pos h]
      simp only [Option.bind_some]
      rw [if_pos (by rw [strOfNums_size]; simp; omega)]
      have h10 : Int.tdiv n 10 = n / 10 := Int.tdiv_eq_ediv_of_nonneg h0
      have hd : n / 10 < 10 ^ d := by
        rw [Int.pow_succ] at h1
        exact Int.ediv_lt_of_lt_mul (by omega) (by omega)
      rw [h10, w64 (x := n / 10) (by omega)]
      exact ih k (n / 10) _ (by omega) hd (by omega) (by omega) (by rw [ByteArray.size_append, strOfNums_size]; simp; omega)
    · rw [laws_markText.l0, if_neg h, if_pos (by omega)]
      exact ⟨_, rfl⟩
theorem markText_eq (n : Int) (h0 : 0 ≤ n) (h1 : n ≤ 1099511627776) (k : Nat) (hk : 100 ≤ k) : laws_markText.f k n = some (mtext n) := by
  have h : ∃ t, laws_markText.f 100 n = some t := by
    unfold laws_markText.f
    by_cases h : n ≤ 0
    · rw [if_pos h]; exact ⟨_, rfl⟩
    · rw [if_neg h]
      exact markText_loop 13 100 n _ h0 (by omega) h1 (by omega) (by decide)
  obtain ⟨t, ht⟩ := h
  have e : mtext n = t := by unfold mtext; rw [ht]; rfl
  rw [e]
  exact at_rounds (g := fun k => laws_markText.f k n) (fun k => laws_markText.mono n k) hk ht
def upS (n : Int) : Nat → List ByteArray
  | 0 => []
  | d + 1 => mtext n :: upS (n + 1) d
theorem upS_length (n : Int) (d : Nat) : (upS n d).length = d := by
  induction d generalizing n with
  | zero => rfl
  | succ d ih => simp [upS, ih]
theorem markStrings_loop (d : Nat) : ∀ (k : Nat) (p l : List ByteArray) (n : Int), l.length = d → d + 100 < k → p.length + l.length ≤ 1048576 → 1 ≤ n ∧ n ≤ 10000000 + p.length →
    laws_markStringS.l0 k (p ++ l) n p.length = some (n + d, p ++ upS n d) := by
  induction d with
  | zero =>
    intro k p l n hi hk hl hn
    obtain ⟨k, rfl⟩ : ∃ j, k = j + 1 := ⟨k - 1, by omega⟩
    obtain rfl := List.length_eq_zero_iff.1 hi
    rw [laws_markStringS.l0, if_neg (by simp)]
    simp [upS]
  | succ d ih =>
    intro k p l n hi hk hl hn
    obtain ⟨k, rfl⟩ : ∃ j, k = j + 1 := ⟨k - 1, by omega⟩
    obtain ⟨x, r, rfl⟩ : ∃ x r, l = x :: r := by
      cases l with
      | nil => simp at hi
      | cons x r => exact ⟨x, r, rfl⟩
    simp only [List.length_cons] at hi hl
    rw [laws_markStringS.l0, if_pos (by simp; omega), markText_eq n (by omega) (by omega) k (by omega)]
    simp only [Option.bind_some]
    rw [if_pos (by omega), Int.toNat_natCast, List.set_append_right _ _ (by omega), Nat.sub_self, List.set_cons_zero, w64 (by omega), w64 (by omega)]
    have := ih k (p ++ [mtext n]) r (n + 1) (by omega) (by omega) (by simp; omega) (by simp; omega)
    rw [show p ++ mtext n :: r = (p ++ [mtext n]) ++ r by simp, show ((p.length : Int) + 1) = (((p ++ [mtext n]).length : Nat) : Int) by simp, this, upS]
    simp; omega
theorem markStrings_eq (l : List ByteArray) (hl : l.length ≤ 1048576) (n : Int) (hn : 1 ≤ n ∧ n ≤ 10000000) (k : Nat) (hk : l.length + 100 < k) : laws_markStringS.f k l n = some (n + (l.length : Int), upS n l.length) := by
  unfold laws_markStringS.f
  have := markStrings_loop l.length k [] l n rfl hk (by simpa using hl) (by simp; omega)
  simpa using this
theorem heldStrings_loop (d : Nat) : ∀ (k : Nat) (p : List ByteArray) (n : Int), d + 100 < k → p.length + d ≤ 1048576 → 1 ≤ n ∧ n ≤ 10000000 + p.length →
    laws_heldStringS.l0 k (p ++ upS n d) n p.length = some (n + d) := by
  induction d with
  | zero =>
    intro k p n hk hl hn
    obtain ⟨k, rfl⟩ : ∃ j, k = j + 1 := ⟨k - 1, by omega⟩
    rw [laws_heldStringS.l0, if_neg (by simp [upS])]; simp
  | succ d ih =>
    intro k p n hk hl hn
    obtain ⟨k, rfl⟩ : ∃ j, k = j + 1 := ⟨k - 1, by omega⟩
    rw [upS, laws_heldStringS.l0, if_pos (by simp; omega), if_pos (by omega), markText_eq n (by omega) (by omega) k (by omega), rdB_get _ p.length (by simp), List.getElem_append_right (by omega)]
    simp only [Option.bind_some, Nat.sub_self, List.getElem_cons_zero, if_true]
    rw [w64 (by omega), w64 (by omega)]
    have := ih k (p ++ [mtext n]) (n + 1) (by omega) (by simp; omega) (by simp; omega)
    rw [show p ++ mtext n :: upS (n + 1) d = (p ++ [mtext n]) ++ upS (n + 1) d by simp, show ((p.length : Int) + 1) = (((p ++ [mtext n]).length : Nat) : Int) by simp, this]
    congr 1; omega
theorem heldStrings_eq (d : Nat) (hl : d ≤ 1048576) (n : Int) (hn : 1 ≤ n ∧ n ≤ 10000000) (k : Nat) (hk : d + 100 < k) : laws_heldStringS.f k (upS n d) n = some (n + (d : Int)) := by
  unfold laws_heldStringS.f
  have := heldStrings_loop d k [] n hk (by simpa using hl) (by simp; omega)
  simpa using this

theorem w_succ (c : Nat) (h : c ≤ 1000000) : wrap64 ((c : Int) + 1) = ((c + 1 : Nat) : Int) := by rw [w64 (by omega)]; omega
theorem w_pred (n : Nat) (h : n ≤ 1000000) : wrap64 ((n : Int) - 1) = (n : Int) - 1 := w64 (by omega)
/-- rows that a function draws -/
def dRow (f : Nat → Int) (n : Nat) : ByteArray := strOfNums ((List.range n).map f)
def dRows (g : Nat → Nat → Int) (R n : Nat) : List ByteArray := (List.range R).map fun r => dRow (g r) n
theorem strN_append (a b : List Int) : strOfNums (a ++ b) = strOfNums a ++ strOfNums b := by
  unfold strOfNums
  apply ByteArray.ext
  simp
theorem dRow_succ (f : Nat → Int) (n : Nat) : dRow f (n + 1) = dRow f n ++ strOfNums [f n] := by
  unfold dRow
  rw [List.range_succ, List.map_append, strN_append]
  rfl
theorem dRow_zero (f : Nat → Int) : dRow f 0 = ⟨#[]⟩ := rfl
theorem dRow_size (f : Nat → Int) (n : Nat) : (dRow f n).size = n := by
  unfold dRow strOfNums
  show (List.map _ ((List.range n).map f)).toArray.size = n
  simp
theorem dRows_succ (g : Nat → Nat → Int) (R n : Nat) : dRows g (R + 1) n = dRows g R n ++ [dRow (g R) n] := by
  unfold dRows
  rw [List.range_succ, List.map_append]
  rfl
theorem dRows_length (g : Nat → Nat → Int) (R n : Nat) : (dRows g R n).length = R := by simp [dRows]
theorem dRow_congr (f h : Nat → Int) (n : Nat) (e : ∀ c, c < n → f c = h c) : dRow f n = dRow h n := by
  unfold dRow
  congr 1
  apply List.map_congr_left
  intro c hc
  exact e c (List.mem_range.1 hc)
theorem dRows_congr (g h : Nat → Nat → Int) (R n : Nat) (e : ∀ r c, r < R → c < n → g r c = h r c) : dRows g R n = dRows h R n := by
  unfold dRows
  apply List.map_congr_left
  intro r hr
  exact dRow_congr _ _ _ (fun c hc => e r c (List.mem_range.1 hr) hc)
/-- one character of a string -/
theorem extract_one (s : ByteArray) (i : Nat) (h : i < s.size) : s.extract i (i + 1) = strOfNums [bt s i] := by
  rw [bt_get s i h]
  have hd : i < s.data.toList.length := by rw [data_length]; exact h
  apply ByteArray.ext
  apply Array.ext'
  unfold strOfNums cs bytesOf
  simp only [ByteArray.data_extract, Array.toList_extract, List.extract_eq_take_drop]
  rw [show i + 1 - i = 1 by omega, List.drop_eq_getElem_cons hd]
  simp
theorem str1_size (x : Int) : (strOfNums [x]).size = 1 := rfl
theorem drawn_l1 (F : Int → Int → Option Int) (r n : Nat) (f : Nat → Int) (hF : ∀ c, c < n → F (r : Int) (c : Int) = some (f c)) (hn : n ≤ 100000) (hr : r ≤ 100000) (x0 x1 : Int) (acc : List ByteArray) (ha : acc.length ≤ 100000) (d : Nat) :
    ∀ (k c : Nat), c + d = n → d < k → impl_drawn.l1 F k x0 x1 acc r ((List.range c).map f ++ List.replicate d 0) n c = impl_drawn.l0 F (k - d - 1) x0 x1 (acc ++ [dRow f n]) ((r + 1 : Nat) : Int) := by
  induction d with
  | zero =>
    intro k c hc hk
    obtain ⟨k, rfl⟩ : ∃ j, k = j + 1 := ⟨k - 1, by omega⟩
    rw [impl_drawn.l1, if_neg (by omega), if_pos (by omega), w64 (by omega), List.replicate_zero, List.append_nil, show c = n by omega]
    rfl
  | succ d ih =>
    intro k c hc hk
    obtain ⟨k, rfl⟩ : ∃ j, k = j + 1 := ⟨k - 1, by omega⟩
    rw [impl_drawn.l1, if_pos (by omega), hF c (by omega)]
    simp only [Option.bind_some]
    have hl : ((List.range c).map f).length = c := by simp
    rw [if_pos (by omega), if_pos (by rw [List.length_append, hl, List.length_replicate]; omega), Int.toNat_natCast, List.set_append_right _ _ (by omega), hl, Nat.sub_self, List.replicate_succ, List.set_cons_zero, w64 (by omega),
      show (List.range c).map f ++ f c :: List.replicate d 0 = (List.range (c + 1)).map f ++ List.replicate d 0 by rw [List.range_succ, List.map_append, List.append_assoc]; rfl]
    have := ih k (c + 1) (by omega) (by omega)
    rw [show k + 1 - (d + 1) - 1 = k - d - 1 by omega]
    exact this
theorem drawn_l0 (F : Int → Int → Option Int) (R n : Nat) (hR : R ≤ 100000) (hn : n ≤ 100000) (g : Nat → Nat → Int) (hF : ∀ r c, r < R → c < n → F (r : Int) (c : Int) = some (g r c)) (d : Nat) :
    ∀ (k r : Nat), r + d = R → d * (n + 2) < k → impl_drawn.l0 F k R n (dRows g r n) r = some (dRows g R n) := by
  induction d with
  | zero =>
    intro k r hr hk
    obtain ⟨k, rfl⟩ : ∃ j, k = j + 1 := ⟨k - 1, by omega⟩
    rw [impl_drawn.l0, if_neg (by omega), show r = R by omega]
  | succ d ih =>
    intro k r hr hk
    obtain ⟨k, rfl⟩ : ∃ j, k = j + 1 := ⟨k - 1, by omega⟩
    rw [Nat.succ_mul] at hk
    rw [impl_drawn.l0, if_pos (by omega), if_pos (by omega), if_pos (by omega)]
    simp only [Option.bind_some, List.length_replicate, Int.toNat_natCast]
    have h1 := drawn_l1 F r n (g r) (fun c hc => hF r c (by omega) hc) hn (by omega) R n (dRows g r n) (by rw [dRows_length]; omega) n k 0 (by omega) (by omega)
    rw [show ((0 : Nat) : Int) = 0 from rfl] at h1
    rw [show List.replicate n (0 : Int) = (List.range 0).map (g r) ++ List.replicate n 0 from rfl, h1, ← dRows_succ]
    exact ih (k - n - 1) (r + 1) (by omega) (by omega)
theorem drawn_eq (F : Int → Int → Option Int) (R n : Nat) (hR : R ≤ 100) (hn : n ≤ 100) (g : Nat → Nat → Int) (hF : ∀ r c, r < R → c < n → F (r : Int) (c : Int) = some (g r c)) (k : Nat) (hk : 10200 < k) :
    impl_drawnW.f k R n F = some (dRows g R n) := by
  unfold impl_drawnW.f impl_drawn.f
  have h := drawn_l0 F R n (by omega) (by omega) g hF R k 0 (by omega) (by
    have : R * (n + 2) ≤ 100 * 102 := Nat.mul_le_mul hR (by omega)
    omega)
  exact h

/-- what is drawn at a place -/
def mtG (a b : List ByteArray) (r c : Nat) : Int :=
  if bt (rdOf ByteArray.empty a (r : Int)) c = 63 then bt (rdOf ByteArray.empty b (r : Int)) c else bt (rdOf ByteArray.empty a (r : Int)) c
theorem mtG_a (a b : List ByteArray) (r c : Nat) (h : bt (rdOf ByteArray.empty a (r : Int)) c = 63) : mtG a b r c = bt (rdOf ByteArray.empty b (r : Int)) c := by
  unfold mtG; rw [if_pos h]
theorem mtG_b (a b : List ByteArray) (r c : Nat) (h : ¬ bt (rdOf ByteArray.empty a (r : Int)) c = 63) : mtG a b r c = bt (rdOf ByteArray.empty a (r : Int)) c := by
  unfold mtG; rw [if_neg h]
theorem mtClosure_eq (a b : List ByteArray) (n : Nat) (r c : Nat) (ha : r < a.length) (hb : r < b.length) (sa : (rdOf ByteArray.empty a (r : Int)).size = n) (sb : (rdOf ByteArray.empty b (r : Int)).size = n) (hc : c < n) :
    impl_MeetScans_1.f (r : Int) (c : Int) a b = some (mtG a b r c) := by
  have h0 : (0 : Int) ≤ (r : Int) := by omega
  have h1 : (r : Int) < (a.length : Int) := by omega
  have h2 : (r : Int) < (b.length : Int) := by omega
  have h3 : (0 : Int) ≤ (c : Int) := by omega
  have h4 : (c : Int) < (n : Int) := by omega
  unfold impl_MeetScans_1.f mtG
  rw [if_pos h0, if_pos h1, if_pos h3, sa, if_pos h4]
  by_cases h : bt (rdOf ByteArray.empty a (r : Int)) c = 63
  · rw [if_pos h, if_pos h2, sb, if_pos h4, if_pos h]
  · rw [if_neg h, if_neg h]
theorem mtRow (a b : List ByteArray) (n : Nat) (hn : n ≤ 1000) (hl : a.length ≤ 1000) (r : Nat) (s u : ByteArray) (hsr : rdOf ByteArray.empty a (r : Int) = s) (hur : rdOf ByteArray.empty b (r : Int) = u) (hz : s.size = n) (hu : u.size = n) (hr : r < a.length) (hrb : r < b.length) (acc : List ByteArray) (hacc : acc.length ≤ 1000) (d : Nat) :
    ∀ (k c : Nat), c + d = n → d < k → spec_MeetScans.l1 k b acc r s (dRow (mtG a b r) c) c a a.length r
      = spec_MeetScans.l0 (k - d - 1) b (acc ++ [dRow (mtG a b r) n]) a a.length ((r + 1 : Nat) : Int) := by
  induction d with
  | zero =>
    intro k c hc hk
    obtain ⟨k, rfl⟩ : ∃ j, k = j + 1 := ⟨k - 1, by omega⟩
    rw [spec_MeetScans.l1, if_neg (by omega), if_pos (by omega), w64 (by omega), show c = n by omega]
    rfl
  | succ d ih =>
    intro k c hc hk
    obtain ⟨k, rfl⟩ : ∃ j, k = j + 1 := ⟨k - 1, by omega⟩
    have e := ih k (c + 1) (by omega) (by omega)
    rw [dRow_succ] at e
    have h0 : (0 : Int) ≤ (c : Int) := by omega
    have h1' : (c : Int) ≤ ((c + 1 : Nat) : Int) := by omega
    have h2' : ((c + 1 : Nat) : Int) ≤ (n : Int) := by omega
    have h3' : c + 1 ≤ 9223372036854775807 := by omega
    have h4' : (0 : Int) ≤ (r : Int) := by omega
    have h5' : (r : Int) < (b.length : Int) := by omega
    have hk' : k + 1 - (d + 1) - 1 = k - d - 1 := by omega
    have hlt : (c : Int) < (n : Int) := by omega
    have hcs : c < s.size := by omega
    have hcu : c < u.size := by omega
    have hc1 : c ≤ 1000 := by omega
    have hx : s.extract c (c + 1) = strOfNums [bt s c] := extract_one _ c hcs
    have hxu : u.extract c (c + 1) = strOfNums [bt u c] := extract_one _ c hcu
    have ec := w_succ c (Nat.le_trans hc1 (by decide))
    rw [hk', ← e, spec_MeetScans.l1, hz, if_pos hlt, if_pos h0, ec, Int.toNat_natCast, Int.toNat_natCast, hur, hx, hxu]
    by_cases hA : bt s c = 63
    · have hA' : bt (rdOf ByteArray.empty a (r : Int)) c = 63 := by rw [hsr]; exact hA
      rw [if_pos hA, if_pos h4', if_pos h5', if_pos h1', hu, if_pos h2', dRow_size, str1_size, if_pos h3', mtG_a a b r c hA', hur]
    · have hA' : ¬ bt (rdOf ByteArray.empty a (r : Int)) c = 63 := by rw [hsr]; exact hA
      rw [if_neg hA, if_pos h1', if_pos h2', dRow_size, str1_size, if_pos h3', mtG_b a b r c hA', hsr]
theorem mtRows (a b : List ByteArray) (hl : a.length ≤ 1000) (hab : b.length = a.length) (n : Nat) (hn : n ≤ 1000) (hs : ∀ s ∈ a, s.size = n) (hsb : ∀ s ∈ b, s.size = n) (d : Nat) :
    ∀ (k r : Nat), r + d = a.length → d * (n + 2) < k → spec_MeetScans.l0 k b (dRows (mtG a b) r n) a a.length r = some (dRows (mtG a b) a.length n, true) := by
  induction d with
  | zero =>
    intro k r hr hk
    obtain ⟨k, rfl⟩ : ∃ j, k = j + 1 := ⟨k - 1, by omega⟩
    rw [spec_MeetScans.l0, if_neg (by omega), show r = a.length by omega]
  | succ d ih =>
    intro k r hr hk
    obtain ⟨k, rfl⟩ : ∃ j, k = j + 1 := ⟨k - 1, by omega⟩
    rw [Nat.succ_mul] at hk
    rw [spec_MeetScans.l0, if_pos (by omega), if_pos (by omega), if_pos (by omega)]
    have e := mtRow a b n hn hl r _ _ rfl rfl (by rw [rdB_get a r (by omega)]; exact hs _ (List.getElem_mem _)) (by rw [rdB_get b r (by omega)]; exact hsb _ (List.getElem_mem _)) (by omega) (by omega) (dRows (mtG a b) r n) (by rw [dRows_length]; omega) n k 0 (by omega) (by omega)
    rw [dRow_zero, show ((0 : Nat) : Int) = 0 from rfl] at e
    rw [e, ← dRows_succ]
    exact ih (k - n - 1) (r + 1) (by omega) (by omega)
def mtGood (a b : List ByteArray) : Bool := Two a b && decide (¬ 0 < faults a b)
def mtOut (a b : List ByteArray) : List ByteArray × Bool := if mtGood a b = true then (dRows (mtG a b) a.length (wid a), true) else ([], false)
theorem both (a b : List ByteArray) (ha : a.length ≤ 1048576) (hsa : ∀ s ∈ a, s.size ≤ 1048576) (hb : b.length ≤ 1048576) (hsb : ∀ s ∈ b, s.size ≤ 1048576) (k : Nat) (hk : fuelR a + fuelR b + 20000 ≤ k) :
    spec_MeetScans.f k a b = some (mtOut a b) ∧ impl_MeetScans.f k a b = some (mtOut a b) := by
  unfold spec_MeetScans.f impl_MeetScans.f mtOut mtGood
  rw [specTwo_eq a b ha hsa hb hsb k (by omega), sameSize_eq a b ha hsa hb hsb k (by omega)]
  simp only [Option.bind_some]
  obtain ⟨k, rfl⟩ : ∃ j, k = j + 1 := ⟨k - 1, by omega⟩
  cases ht : Two a b with
  | false =>
    simp only [Bool.false_and, Bool.false_eq_true, if_false]
    exact ⟨by rw [spec_MeetScans.j0, if_pos rfl], trivial⟩
  | true =>
    obtain ⟨ga, gb, hab, hw⟩ := two_facts ht
    obtain ⟨g1, g2, g3, g4, g5⟩ := grid_facts ga
    obtain ⟨q1, q2, q3, q4, q5⟩ := grid_facts gb
    have hwz : (rdOf ByteArray.empty a 0).size = wid a := by rw [wid_get a (by omega)]; exact congrArg _ (rdB_get a 0 (by omega))
    have hss : ∀ i (h : i < a.length), a[i].size ≤ 1000 ∧ (b[i]'(by omega)).size = a[i].size := by
      intro i h
      have h1 := (g5 _ (List.getElem_mem h)).1
      have h2 := (q5 _ (List.getElem_mem (show i < b.length by omega))).1
      exact ⟨by omega, by omega⟩
    simp only [if_true, Bool.true_and, decide_eq_true_eq]
    rw [specFaults_eq a b (by omega) (by omega) hss (k + 1) (by omega), implFaults_eq a b (by omega) (by omega) hss (k + 1) (by omega)]
    simp only [Option.bind_some]
    have hp : (0 : Int) < (a.length : Int) := by omega
    by_cases hf : 0 < faults a b
    · rw [if_pos hf, if_neg (fun h => h hf), decide_eq_true (show faults a b > 0 from hf)]
      exact ⟨by rw [spec_MeetScans.j0, if_pos rfl], rfl⟩
    · rw [if_neg hf, if_pos hf, decide_eq_false (show ¬ faults a b > 0 from hf), if_pos hp, hwz]
      refine ⟨?_, ?_⟩
      · rw [spec_MeetScans.j0, if_neg (by decide)]
        have e := mtRows a b (by omega) (by omega) (wid a) (by omega) (fun s hs => (g5 s hs).1) (fun s hs => by have := (q5 s hs).1; omega) a.length k 0 (by omega) (by
          have : a.length * (wid a + 2) ≤ 60 * 22 := Nat.mul_le_mul g2 (by omega)
          omega)
        exact e
      · rw [drawn_eq _ a.length (wid a) (by omega) (by omega) (mtG a b) (fun r c hr hc => mtClosure_eq a b (wid a) r c hr (by omega) (by rw [rdB_get a r hr]; exact (g5 _ (List.getElem_mem hr)).1) (by rw [rdB_get b r (by omega)]; have := (q5 _ (List.getElem_mem (show r < b.length by omega))).1; omega) hc) (k + 1) (by omega)]
        rfl
theorem deep_eq (a b : List ByteArray) (ha : a.length ≤ 1048576) (hb : b.length ≤ 1048576) (r : List ByteArray) (o : Bool) (hr : r.length ≤ 1048576) (K : Nat) (hi : ∀ k, K ≤ k → impl_MeetScans.f k a b = some (r, o)) (k : Nat) (hk : K + a.length + b.length + r.length + 300 ≤ k) :
    laws_FnExactMeetScans.j0 k a b r o a b r o false = some true := by
  obtain ⟨k, rfl⟩ : ∃ j, k = j + 1 + 1 + 1 := ⟨k - 3, by omega⟩
  rw [laws_FnExactMeetScans.j0, if_neg (by decide), toStrings_eq a ha _ (by omega)]
  simp only [Option.bind_some]
  rw [eqStrings_self a ha _ (by omega)]
  simp only [Option.bind_some, if_true]
  rw [toStrings_eq b hb _ (by omega)]
  simp only [Option.bind_some]
  rw [eqStrings_self b hb _ (by omega)]
  simp only [Option.bind_some, if_true]
  rw [markStrings_eq a ha 1 (by omega) _ (by omega)]
  simp only [Option.bind_some]
  rw [markStrings_eq b hb (1 + (a.length : Int)) (by omega) _ (by omega)]
  simp only [Option.bind_some]
  rw [if_neg (by omega), eqStrings_self r hr _ (by omega)]
  simp only [Option.bind_some, if_true, bne_self_eq_false]
  rw [laws_FnExactMeetScans.j1, if_neg (by decide), markStrings_eq r hr 1 (by omega) _ (by omega)]
  simp only [Option.bind_some]
  rw [heldStrings_eq r.length hr 1 (by omega) _ (by omega)]
  simp only [Option.bind_some]
  rw [if_neg (by omega), if_pos trivial, toStrings_eq a ha _ (by omega)]
  simp only [Option.bind_some]
  rw [toStrings_eq b hb _ (by omega)]
  simp only [Option.bind_some]
  rw [hi _ (by omega)]
  simp only [Option.bind_some]
  rw [eqStrings_self r hr _ (by omega)]
  simp only [Option.bind_some, if_true, bne_self_eq_false]
  rw [laws_FnExactMeetScans.j2, if_neg (by decide), heldStrings_eq r.length hr 1 (by omega) _ (by omega)]
  simp only [Option.bind_some]
  rw [if_neg (by omega), if_pos trivial]
theorem FnExactMeetScans (a b : List ByteArray) (hla : a.length ≤ maxLen) (hsa : ∀ s ∈ a, s.size ≤ maxLen) (hlb : b.length ≤ maxLen) (hsb : ∀ s ∈ b, s.size ≤ maxLen) : ∃ k, laws_FnExactMeetScans.f k a b = some true := by
  obtain ⟨r, hr, hb⟩ := szStrings_eq a hla hsa 1048576 (by omega)
  refine ⟨(fuelR a + fuelR b + 20000) + a.length + b.length + (mtOut a b).1.length + 300, ?_⟩
  unfold laws_FnExactMeetScans.f
  rw [hr _ (by omega)]
  simp only [Option.bind_some]
  by_cases h : r < 0
  · rw [if_pos h]
  · obtain ⟨a1, a2, a3⟩ := hb (by omega)
    obtain ⟨q, hq, hbq⟩ := szStrings_eq b hlb hsb r (by omega)
    rw [if_neg h, hq _ (by omega)]
    simp only [Option.bind_some]
    by_cases h' : q < 0
    · rw [if_pos h']
    · obtain ⟨b1, b2, b3⟩ := hbq (by omega)
      have hr1 : (mtOut a b).1.length ≤ 1048576 := by
        unfold mtOut
        split
        · rw [dRows_length]; exact a2
        · simp
      have hboth := fun k hk => both a b a2 a3 b2 b3 k hk
      generalize hO : mtOut a b = O at hboth hr1 ⊢
      obtain ⟨o1, o2⟩ := O
      obtain ⟨e1, e2⟩ := hboth ((fuelR a + fuelR b + 20000) + a.length + b.length + o1.length + 300) (by omega)
      rw [if_neg h', toStrings_eq a a2 _ (by omega)]
      simp only [Option.bind_some]
      rw [toStrings_eq b b2 _ (by omega)]
      simp only [Option.bind_some]
      rw [e1, e2]
      simp only [Option.bind_some]
      rw [eqStrings_self o1 hr1 _ (by omega)]
      simp only [Option.bind_some, if_true, bne_self_eq_false]
      exact deep_eq a b a2 b2 o1 o2 hr1 (fuelR a + fuelR b + 20000) (fun k hk => (hboth k hk).2) _ (Nat.le_refl _)
end Go.Proofs.Ytjogodnkcjhdiaa.Pure
