/- FnExactCountStains: the program's CountStains answers as the reference's, for all slices of strings. No condition. -/
import Derived.Test.YtlikohjiiakhkaaPFnExactCountStainsx3
namespace Go.Proofs.Ytlikohjiiakhkaa.Pure
open Go.RowKit Go.Proofs.Ytlikohjiiakhkaa.PFnExactCountStains Go.Proofs.YtlikohjiiakhkaaW.PrintWords Go.Proofs.YtlikohjiiakhkaaW.PrintLast

set_option linter.unusedVariables false
set_option linter.unusedSimpArgs false

theorem w64 {x : Int} (h : -9223372036854775808 ≤ x ∧ x ≤ 9223372036854775807) : wrap64 x = x := by
  unfold wrap64; omega
theorem someF {p : Prop} [Decidable p] (h : ¬ p) : some false = some (decide p) := by rw [decide_eq_false h]
theorem someD {q p : Prop} [Decidable q] [Decidable p] (h : q ↔ p) : some (decide q) = some (decide p) := by rw [decide_eq_decide.2 h]

theorem in_eq (a b c : Int) : spec_l1In.f a b c = some (decide (b ≤ a ∧ a ≤ c)) := by
  unfold spec_l1In.f
  by_cases h : a ≥ b
  · rw [if_pos h]; congr 1; simp [show b ≤ a from h]
  · rw [if_neg h]; congr 1; simp; omega

theorem fill_step {α : Type} (l : List α) (z : α) (i : Nat) (h : i < l.length) :
    (l.take i ++ List.replicate (l.length - i) z).set i (l[i]'h) = l.take (i + 1) ++ List.replicate (l.length - (i + 1)) z := by
  have hl : (l.take i).length = i := by rw [List.length_take]; omega
  rw [List.set_append_right _ _ (by omega), hl, Nat.sub_self, show l.length - i = (l.length - (i + 1)) + 1 by omega, List.replicate_succ, List.set_cons_zero, List.take_succ_eq_append_getElem h, List.append_assoc]
  rfl
theorem fill_length {α : Type} (l : List α) (z : α) (i : Nat) (h : i ≤ l.length) : (l.take i ++ List.replicate (l.length - i) z).length = l.length := by
  simp; omega

theorem rd_get (l : List Int) (i : Nat) (h : i < l.length) : rd l (i : Int) = l[i] := by
  unfold rd; rw [Int.toNat_natCast, List.getD_eq_getElem?_getD, List.getElem?_eq_getElem h]; rfl

theorem rdB_get (l : List ByteArray) (i : Nat) (h : i < l.length) : rdOf ByteArray.empty l (i : Int) = l[i] := by
  unfold rdOf; rw [Int.toNat_natCast, List.getD_eq_getElem?_getD, List.getElem?_eq_getElem h]; rfl
theorem drop_get {α : Type} (l : List α) (i : Nat) (h : i < l.length) : l.drop i = l[i] :: l.drop (i + 1) := List.drop_eq_getElem_cons h
/-- the bytes of a string -/
abbrev cs (s : ByteArray) : List Int := bytesOf s
theorem cs_length (s : ByteArray) : (cs s).length = s.size := bytesOf_length s
theorem bt_get (s : ByteArray) (i : Nat) (h : i < s.size) : bt s (i : Int) = (cs s)[i]'(by rw [cs_length]; exact h) := by
  rw [← rd_bytesOf, rd_get _ _ (by rw [bytesOf_length]; exact h)]
theorem szStrings_loop (l : List ByteArray) (hl : l.length ≤ 1048576) (hs : ∀ s ∈ l, s.size ≤ maxLen) (d : Nat) : ∀ (k i : Nat) (n : Int), i + d = l.length → d < k → 0 ≤ n ∧ n ≤ 1048576 →
    ∃ r, laws_szStringS.l0 k l n i = some r ∧ (0 ≤ r → r ≤ n ∧ ∀ s ∈ l.drop i, s.size ≤ n) := by
  induction d with
  | zero =>
    intro k i n hi hk hn
    obtain ⟨k, rfl⟩ : ∃ j, k = j + 1 := ⟨k - 1, by omega⟩
    exact ⟨n, by rw [laws_szStringS.l0, if_neg (by omega)], fun _ => ⟨Int.le_refl _, by rw [List.drop_of_length_le (by omega)]; simp⟩⟩
  | succ d ih =>
    intro k i n hi hk hn
    obtain ⟨k, rfl⟩ : ∃ j, k = j + 1 := ⟨k - 1, by omega⟩
    have h1 : l[i].size ≤ maxLen := hs _ (List.getElem_mem _)
    unfold maxLen at h1
    rw [laws_szStringS.l0, if_pos (by omega), if_pos (by omega), rdB_get l i (by omega), w64 (x := n - _) (by omega), w64 (by omega)]
    by_cases h : n - (l[i].size : Int) < 0
    · exact ⟨-1, by rw [if_pos h], fun h' => by omega⟩
    · obtain ⟨r, hr, hb⟩ := ih k (i + 1) (n - l[i].size) (by omega) (by omega) (by omega)
      refine ⟨r, by rw [if_neg h]; exact hr, fun h' => ?_⟩
      obtain ⟨b1, b2⟩ := hb h'
      refine ⟨by omega, ?_⟩
      rw [drop_get l i (by omega), List.forall_mem_cons]
      exact ⟨by omega, fun s hs' => by have := b2 s hs'; omega⟩
/-- the guard on the size of an argument: what it lets through is small -/
theorem szStrings_eq (l : List ByteArray) (hl : l.length ≤ maxLen) (hs : ∀ s ∈ l, s.size ≤ maxLen) (n : Int) (hn : 0 ≤ n ∧ n ≤ 1048576) :
    ∃ r, (∀ k, l.length < k → laws_szStringS.f k l n = some r) ∧ (0 ≤ r → r ≤ n ∧ l.length ≤ 1048576 ∧ ∀ s ∈ l, s.size ≤ 1048576) := by
  have hl' := hl
  unfold maxLen at hl'
  by_cases h : n - (l.length : Int) < 0
  · exact ⟨-1, fun k _ => by unfold laws_szStringS.f; rw [w64 (by omega), if_pos h], fun h' => by omega⟩
  · obtain ⟨r, hr, hb⟩ := szStrings_loop l (by omega) hs l.length (l.length + 1) 0 (n - l.length) (by omega) (by omega) (by omega)
    refine ⟨r, fun k hk => ?_, fun h' => ?_⟩
    · unfold laws_szStringS.f
      rw [w64 (by omega), if_neg h]
      obtain ⟨q, hq, _⟩ := szStrings_loop l (by omega) hs l.length k 0 (n - l.length) (by omega) (by omega) (by omega)
      have := at_rounds (g := fun k => laws_szStringS.l0 k l (n - l.length) ((0 : Nat) : Int)) (fun k => laws_szStringS.mono_l k _ _ _) (show l.length + 1 ≤ k by omega) hr
      exact this
    · obtain ⟨b1, b2⟩ := hb h'
      refine ⟨by omega, by omega, fun s hs' => ?_⟩
      have := b2 s (by simpa using hs')
      omega
theorem toStrings_loop (l : List ByteArray) (hl : l.length ≤ 1048576) (d : Nat) : ∀ (k i : Nat), i + d = l.length → d < k →
    laws_toStringS.l0 k l (l.take i ++ List.replicate (l.length - i) (⟨#[]⟩ : ByteArray)) i = some l := by
  induction d with
  | zero =>
    intro k i hi hk
    obtain ⟨k, rfl⟩ : ∃ j, k = j + 1 := ⟨k - 1, by omega⟩
    rw [laws_toStringS.l0, if_neg (by omega), show l.length - i = 0 by omega, List.replicate_zero, List.append_nil, List.take_of_length_le (by omega)]
  | succ d ih =>
    intro k i hi hk
    obtain ⟨k, rfl⟩ : ∃ j, k = j + 1 := ⟨k - 1, by omega⟩
    rw [laws_toStringS.l0, if_pos (by omega), if_pos (by omega), fill_length _ _ _ (by omega), if_pos (by omega), Int.toNat_natCast, rdB_get l i (by omega), fill_step l _ i (by omega), w64 (by omega)]
    exact ih k (i + 1) (by omega) (by omega)
theorem toStrings_eq (l : List ByteArray) (hl : l.length ≤ 1048576) (k : Nat) (hk : l.length < k) : laws_toStringS.f k l = some l := by
  unfold laws_toStringS.f
  rw [if_pos (by omega), if_pos (by omega), Int.toNat_natCast]
  have := toStrings_loop l hl l.length k 0 (by omega) hk
  simpa using this
theorem eqStrings_loop (l : List ByteArray) (hl : l.length ≤ 1048576) (d : Nat) : ∀ (k i : Nat), i + d = l.length → d < k → laws_eqStringS.l0 k l l i = some true := by
  induction d with
  | zero =>
    intro k i hi hk
    obtain ⟨k, rfl⟩ : ∃ j, k = j + 1 := ⟨k - 1, by omega⟩
    rw [laws_eqStringS.l0, if_neg (by omega)]
  | succ d ih =>
    intro k i hi hk
    obtain ⟨k, rfl⟩ : ∃ j, k = j + 1 := ⟨k - 1, by omega⟩
    rw [laws_eqStringS.l0, if_pos (by omega), if_pos (by omega), if_pos (by omega), if_pos rfl, w64 (by omega)]
    exact ih k (i + 1) (by omega) (by omega)
theorem eqStrings_self (l : List ByteArray) (hl : l.length ≤ 1048576) (k : Nat) (hk : l.length < k) : laws_eqStringS.f k l l = some true := by
  unfold laws_eqStringS.f
  rw [if_pos rfl]
  exact eqStrings_loop l hl l.length k 0 (by omega) hk

/-- rectangles of some characters: the rows are as long as the first, and hold those characters alone -/
def RowOK (ch : Int → Bool) (n : Nat) (s : ByteArray) : Bool := s.size == n && (cs s).all ch
def wid (l : List ByteArray) : Nat := (l.headD ByteArray.empty).size
def Grid (ch : Int → Bool) (least rows width : Nat) (l : List ByteArray) : Bool :=
  decide (least ≤ l.length) && decide (l.length ≤ rows) && decide (least ≤ wid l) && decide (wid l ≤ width) && l.all (RowOK ch (wid l))
def fuelR : List ByteArray → Nat
  | [] => 1
  | s :: r => s.size + 2 + fuelR r
theorem wid_get (l : List ByteArray) (h : 0 < l.length) : wid l = (l[0]'h).size := by
  cases l with
  | nil => simp at h
  | cons a r => rfl
theorem indexByte_found (l : List UInt8) (c : UInt8) : (Go.Lib.indexByte l c < 0) ↔ c ∉ l := by
  induction l with
  | nil => simp [Go.Lib.indexByte]
  | cons b r ih =>
    have hge : ∀ l : List UInt8, -1 ≤ Go.Lib.indexByte l c := by
      intro l
      induction l with
      | nil => simp [Go.Lib.indexByte]
      | cons b r ih => unfold Go.Lib.indexByte; split; omega; split <;> omega
    have hr := hge r
    unfold Go.Lib.indexByte
    by_cases h : b = c
    · subst h; simp
    · have h1 : (b == c) = false := by simpa using h
      have h2 : c ≠ b := fun e => h e.symm
      rw [h1]
      simp only [Bool.false_eq_true, if_false, List.mem_cons, not_or]
      by_cases h3 : Go.Lib.indexByte r c = -1
      · have h4 : (Go.Lib.indexByte r c == -1) = true := by simpa using h3
        rw [h4]; simp only [if_true]
        exact ⟨fun _ => ⟨h2, ih.1 (by omega)⟩, fun _ => by omega⟩
      · have h4 : (Go.Lib.indexByte r c == -1) = false := by simpa using h3
        rw [h4]; simp only [Bool.false_eq_true, if_false]
        exact ⟨fun h => by omega, fun h => absurd (ih.2 h.2) (by omega)⟩

def chS (c : Int) : Bool := c == 46 || c == 111 || c == 63

theorem scGood_row (x0 : List ByteArray) (s : ByteArray) (hs : s.size ≤ 1048576) (x6 : List ByteArray) (x7 x8 : Int) (d : Nat) : ∀ (k i : Nat), i + d = s.size →
    spec_scGood.l1 (k + d + 1) x0 s i x6 x7 x8 = if ((cs s).drop i).all chS then spec_scGood.l0 k x0 x6 x7 (wrap64 (x8 + 1)) else some false := by
  induction d with
  | zero =>
    intro k i hi
    rw [spec_scGood.l1, if_neg (by omega), List.drop_of_length_le (by rw [cs_length]; omega)]
    simp
  | succ d ih =>
    intro k i hi
    rw [spec_scGood.l1, if_pos (by omega), if_pos (by omega), bt_get s i (by omega), drop_get (cs s) i (by rw [cs_length]; omega), List.all_cons, w64 (by omega), show k + (d + 1) = k + d + 1 by omega, show ((i : Int) + 1) = ((i + 1 : Nat) : Int) by omega, ih k (i + 1) (by omega)]
    generalize (cs s)[i]'_ = c
    unfold chS
    by_cases h1 : c = 46
    · simp [h1]
    · by_cases h2 : c = 111
      · simp [h2]
      · by_cases h3 : c = 63
        · simp [h3]
        · simp [h1, h2, h3]
theorem scGood_loop (l : List ByteArray) (hl : l.length ≤ 1048576) (hs : ∀ s ∈ l, s.size ≤ 1048576) (d : Nat) : ∀ (k i : Nat), i + d = l.length → fuelR (l.drop i) ≤ k →
    spec_scGood.l0 k l l l.length i = if (l.drop i).all (RowOK chS (wid l)) then
      (if 1 ≤ l.length ∧ l.length ≤ 60 then (if 0 < (l.length : Int) then some (decide (1 ≤ wid l ∧ wid l ≤ 20)) else none) else some false) else some false := by
  induction d with
  | zero =>
    intro k i hi hk
    rw [List.drop_of_length_le (by omega)] at hk ⊢
    obtain ⟨k, rfl⟩ : ∃ j, k = j + 1 := ⟨k - 1, by unfold fuelR at hk; omega⟩
    rw [spec_scGood.l0, if_neg (by omega), in_eq]
    simp only [Option.bind_some, decide_eq_true_eq, List.all_nil, if_true]
    by_cases h0 : 0 < l.length
    · rw [if_pos (show 0 < (l.length : Int) by omega), show ((0 : Int)) = ((0 : Nat) : Int) from rfl, rdB_get l 0 h0, in_eq, wid_get l h0]
      simp only [Option.bind_some]
      split
      · rw [if_pos (by omega), if_pos (by omega)]; exact someD (by omega)
      · rw [if_neg (by omega)]
    · rw [if_neg (by omega), if_neg (by omega)]
  | succ d ih =>
    intro k i hi hk
    have hx : l[i].size ≤ 1048576 := hs _ (List.getElem_mem _)
    rw [drop_get l i (by omega)] at hk ⊢
    unfold fuelR at hk
    obtain ⟨j, hj⟩ : ∃ j, k = j + l[i].size + 1 + 1 := ⟨k - l[i].size - 2, by omega⟩
    rw [hj]
    have h0 : 0 < l.length := by omega
    rw [spec_scGood.l0, if_pos (by omega), if_pos (by omega), if_pos (by omega), if_pos (by omega), rdB_get l i (by omega)]
    rw [show rdOf ByteArray.empty l 0 = l[0] from rdB_get l 0 h0, ← wid_get l h0, List.all_cons]
    by_cases h1 : (l[i].size : Int) = (wid l : Int)
    · have h1' : (l[i].size == wid l) = true := by simp; omega
      rw [if_pos h1, show (0 : Int) = ((0 : Nat) : Int) from rfl, scGood_row l l[i] hx l _ _ l[i].size j 0 (by omega), List.drop_zero, w64 (by omega), show ((i : Int) + 1) = ((i + 1 : Nat) : Int) by omega, ih j (i + 1) (by omega) (by omega)]
      unfold RowOK
      rw [h1', Bool.true_and]
      by_cases h2 : (cs l[i]).all chS = true
      · rw [if_pos h2, h2, Bool.true_and]
        rfl
      · rw [if_neg h2, Bool.eq_false_iff.2 h2, Bool.false_and, if_neg (by decide)]
    · have h1' : (l[i].size == wid l) = false := by simp; omega
      rw [if_neg h1]
      unfold RowOK
      rw [h1', Bool.false_and, Bool.false_and, if_neg (by decide)]
theorem scGood_eq (l : List ByteArray) (hl : l.length ≤ 1048576) (hs : ∀ s ∈ l, s.size ≤ 1048576) (k : Nat) (hk : fuelR l ≤ k) : spec_scGood.f k l = some (Grid chS 1 60 20 l) := by
  unfold spec_scGood.f
  have := scGood_loop l hl hs l.length k 0 (by omega) (by simpa using hk)
  rw [List.drop_zero] at this
  rw [show (0 : Int) = ((0 : Nat) : Int) from rfl, this]
  unfold Grid
  by_cases h : l.all (RowOK chS (wid l)) = true
  · rw [if_pos h, h, Bool.and_true]
    by_cases h1 : 1 ≤ l.length ∧ l.length ≤ 60
    · rw [if_pos h1, if_pos (by omega), decide_eq_true h1.1, decide_eq_true h1.2]
      by_cases h2 : 1 ≤ wid l <;> by_cases h3 : wid l ≤ 20 <;> simp [h2, h3]
    · rw [if_neg h1]
      by_cases h2 : 1 ≤ l.length <;> by_cases h3 : l.length ≤ 60
      · exact absurd ⟨h2, h3⟩ h1
      all_goals simp [h2, h3]
  · rw [if_neg h, Bool.eq_false_iff.2 h, Bool.and_false]

def chIn (chars : ByteArray) (c : Int) : Bool := decide (c.toNat.toUInt8 ∈ chars.data.toList)
theorem isGrid_row (x0 : List ByteArray) (ch s : ByteArray) (hs : s.size ≤ 1048576) (x40 : List ByteArray) (x41 x42 : Int) (d : Nat) : ∀ (k i : Nat), i + d = s.size →
    impl_isGridOf.l1 (k + d + 1) x0 ch s i x40 x41 x42 = if ((cs s).drop i).all (chIn ch) then impl_isGridOf.l0 k x0 ch x40 x41 (wrap64 (x42 + 1)) else some false := by
  induction d with
  | zero =>
    intro k i hi
    rw [impl_isGridOf.l1, if_neg (by omega), List.drop_of_length_le (by rw [cs_length]; omega)]
    simp
  | succ d ih =>
    intro k i hi
    rw [impl_isGridOf.l1, if_pos (by omega), if_pos (by omega), bt_get s i (by omega), drop_get (cs s) i (by rw [cs_length]; omega), List.all_cons, w64 (by omega), show k + (d + 1) = k + d + 1 by omega, show ((i : Int) + 1) = ((i + 1 : Nat) : Int) by omega, ih k (i + 1) (by omega)]
    generalize (cs s)[i]'_ = c
    unfold strings_IndexByte.f chIn
    simp only [Option.bind_some]
    have hf := indexByte_found ch.data.toList c.toNat.toUInt8
    by_cases h : c.toNat.toUInt8 ∈ ch.data.toList
    · rw [if_neg (fun h' => hf.1 h' h), decide_eq_true h, Bool.true_and]
    · rw [if_pos (hf.2 h), decide_eq_false h, Bool.false_and, if_neg (by decide)]
theorem isGrid_loop (l : List ByteArray) (ch : ByteArray) (hl : l.length ≤ 1048576) (hs : ∀ s ∈ l, s.size ≤ 1048576) (d : Nat) : ∀ (k i : Nat), i + d = l.length → fuelR (l.drop i) ≤ k →
    impl_isGridOf.l0 k l ch l l.length i = some ((l.drop i).all (RowOK (chIn ch) (wid l))) := by
  induction d with
  | zero =>
    intro k i hi hk
    rw [List.drop_of_length_le (by omega)] at hk ⊢
    obtain ⟨k, rfl⟩ : ∃ j, k = j + 1 := ⟨k - 1, by unfold fuelR at hk; omega⟩
    rw [impl_isGridOf.l0, if_neg (by omega)]
    rfl
  | succ d ih =>
    intro k i hi hk
    have hx : l[i].size ≤ 1048576 := hs _ (List.getElem_mem _)
    rw [drop_get l i (by omega)] at hk ⊢
    unfold fuelR at hk
    obtain ⟨j, hj⟩ : ∃ j, k = j + l[i].size + 1 + 1 := ⟨k - l[i].size - 2, by omega⟩
    rw [hj]
    have h0 : 0 < l.length := by omega
    rw [impl_isGridOf.l0, if_pos (by omega), if_pos (by omega), if_pos (by omega), if_pos (by omega), rdB_get l i (by omega)]
    rw [show rdOf ByteArray.empty l 0 = l[0] from rdB_get l 0 h0, ← wid_get l h0, List.all_cons]
    by_cases h1 : (l[i].size : Int) = (wid l : Int)
    · have h1' : (l[i].size == wid l) = true := by simp; omega
      rw [if_pos h1, show (0 : Int) = ((0 : Nat) : Int) from rfl, isGrid_row l ch l[i] hx l _ _ l[i].size j 0 (by omega), List.drop_zero, w64 (by omega), show ((i : Int) + 1) = ((i + 1 : Nat) : Int) by omega, ih j (i + 1) (by omega) (by omega)]
      unfold RowOK
      rw [h1', Bool.true_and]
      by_cases h2 : (cs l[i]).all (chIn ch) = true
      · rw [if_pos h2, h2, Bool.true_and]
      · rw [if_neg h2, Bool.eq_false_iff.2 h2, Bool.false_and]
    · have h1' : (l[i].size == wid l) = false := by simp; omega
      rw [if_neg h1]
      unfold RowOK
      rw [h1', Bool.false_and, Bool.false_and]
theorem isGrid_eq (l : List ByteArray) (hl : l.length ≤ 1048576) (hs : ∀ s ∈ l, s.size ≤ 1048576) (least rows width : Nat) (h1 : 1 ≤ least) (ch : ByteArray) (k : Nat) (hk : fuelR l < k) :
    impl_isGridOf.f k l least rows width ch = some (Grid (chIn ch) least rows width l) := by
  obtain ⟨k, rfl⟩ : ∃ j, k = j + 1 := ⟨k - 1, by omega⟩
  unfold impl_isGridOf.f Grid
  simp only [impl_isGridOf.j0, if_true]
  by_cases h2 : least ≤ l.length
  · by_cases h3 : l.length ≤ rows
    · have h0 : 0 < l.length := by omega
      rw [if_neg (by omega), if_neg (by omega), if_pos (by omega), show rdOf ByteArray.empty l 0 = l[0] from rdB_get l 0 h0, ← wid_get l h0, decide_eq_true h2, decide_eq_true h3]
      by_cases h4 : least ≤ wid l
      · rw [if_neg (by omega), decide_eq_true h4]
        by_cases h5 : wid l ≤ width
        · have := isGrid_loop l ch hl hs l.length k 0 (by omega) (by simpa using (by omega : fuelR l ≤ k))
          rw [List.drop_zero] at this
          rw [if_neg (by simp; omega), decide_eq_true h5, show (0 : Int) = ((0 : Nat) : Int) from rfl, this]
          simp
        · rw [if_pos (by simp; omega), decide_eq_false h5]; simp
      · rw [if_pos (by omega), decide_eq_false h4]; simp
    · rw [if_neg (by omega), if_pos (by omega), decide_eq_false h3]; simp
  · rw [if_pos (by omega), decide_eq_false h2]; simp

theorem chIn_scan (c : Int) (hc : 0 ≤ c ∧ c ≤ 255) : chIn ⟨#[46, 111, 63]⟩ c = chS c := by
  unfold chIn chS
  obtain ⟨n, rfl⟩ : ∃ n : Nat, c = n := ⟨c.toNat, by omega⟩
  have hn : n < 256 := by omega
  rw [Int.toNat_natCast]
  have key : ∀ m : Fin 256, decide (m.val.toUInt8 ∈ [(46 : UInt8), 111, 63]) = ((m.val : Int) == 46 || (m.val : Int) == 111 || (m.val : Int) == 63) := by decide +kernel
  exact key ⟨n, hn⟩
theorem cs_range (s : ByteArray) : ∀ c ∈ cs s, 0 ≤ c ∧ c ≤ 255 := by
  intro c hc
  unfold cs bytesOf at hc
  obtain ⟨b, _, rfl⟩ := List.mem_map.1 hc
  have := b.toNat_lt
  omega
theorem all_congr' {α : Type} (l : List α) (p q : α → Bool) (h : ∀ x ∈ l, p x = q x) : l.all p = l.all q := by
  induction l with
  | nil => rfl
  | cons a r ih => rw [List.all_cons, List.all_cons, h a (by simp), ih (fun x hx => h x (List.mem_cons_of_mem _ hx))]
theorem rowOK_scan (n : Nat) (s : ByteArray) : RowOK (chIn ⟨#[46, 111, 63]⟩) n s = RowOK chS n s := by
  unfold RowOK
  rw [all_congr' _ _ _ (fun c hc => chIn_scan c (cs_range s c hc))]
theorem grid_scan (least rows width : Nat) (l : List ByteArray) : Grid (chIn ⟨#[46, 111, 63]⟩) least rows width l = Grid chS least rows width l := by
  unfold Grid
  rw [all_congr' _ _ _ (fun s _ => rowOK_scan (wid l) s)]

theorem grid_facts {ch : Int → Bool} {least rows width : Nat} {l : List ByteArray} (h : Grid ch least rows width l = true) :
    least ≤ l.length ∧ l.length ≤ rows ∧ least ≤ wid l ∧ wid l ≤ width ∧ ∀ s ∈ l, s.size = wid l ∧ ∀ c ∈ cs s, ch c = true := by
  unfold Grid at h
  simp only [Bool.and_eq_true, decide_eq_true_eq, List.all_eq_true] at h
  obtain ⟨⟨⟨⟨h1, h2⟩, h3⟩, h4⟩, h5⟩ := h
  refine ⟨h1, h2, h3, h4, fun s hs => ?_⟩
  have := h5 s hs
  unfold RowOK at this
  simp only [Bool.and_eq_true, beq_iff_eq, List.all_eq_true] at this
  exact this
theorem chS_cases {c : Int} (h : chS c = true) : c = 46 ∨ c = 111 ∨ c = 63 := by
  unfold chS at h
  simp only [Bool.or_eq_true, beq_iff_eq] at h
  omega
theorem fuelR_bound (l : List ByteArray) (n : Nat) (h : ∀ s ∈ l, s.size ≤ n) : fuelR l ≤ l.length * (n + 2) + 1 := by
  induction l with
  | nil => simp [fuelR]
  | cons s r ih =>
    have h1 := ih (fun x hx => h x (List.mem_cons_of_mem _ hx))
    have h2 := h s (by simp)
    unfold fuelR
    rw [List.length_cons, Nat.add_mul]
    omega

/-- how many bytes of a kind -/
def cnt (m : Int) (l : List Int) : Int := (l.countP (fun c => c == m) : Nat)
theorem cnt_cons (m c : Int) (l : List Int) : cnt m (c :: l) = (if c = m then 1 else 0) + cnt m l := by
  unfold cnt
  rw [List.countP_cons]
  by_cases h : c = m
  · simp [h]; omega
  · simp [h]
theorem cnt_bounds (m : Int) (l : List Int) : 0 ≤ cnt m l ∧ cnt m l ≤ l.length := by
  unfold cnt
  have := List.countP_le_length (p := fun c => c == m) (l := l)
  omega
theorem cnt_append (m : Int) (a b : List Int) : cnt m (a ++ b) = cnt m a + cnt m b := by
  unfold cnt; rw [List.countP_append]; omega

theorem isScan_eq (l : List ByteArray) (hl : l.length ≤ 1048576) (hs : ∀ s ∈ l, s.size ≤ 1048576) (k : Nat) (hk : fuelR l < k) : impl_IsScan.f k l = some (Grid chS 1 60 20 l) := by
  unfold impl_IsScan.f
  rw [show (1 : Int) = ((1 : Nat) : Int) from rfl, show (60 : Int) = ((60 : Nat) : Int) from rfl, show (20 : Int) = ((20 : Nat) : Int) from rfl, isGrid_eq l hl hs 1 60 20 (by omega) _ _ hk, grid_scan]
  rfl

def total (m : Int) (l : List ByteArray) : Int := match l with
  | [] => 0
  | s :: r => cnt m (cs s) + total m r
theorem stains_row (s : ByteArray) (hs : s.size ≤ 1000) (x11 : List ByteArray) (x12 x13 : Int) (d : Nat) : ∀ (k i : Nat) (n : Int), i + d = s.size → 0 ≤ n ∧ n + d ≤ 1000000 →
    spec_CountStains.l1 (k + d + 1) n s i x11 x12 x13 = spec_CountStains.l0 k (n + cnt 63 ((cs s).drop i)) x11 x12 (wrap64 (x13 + 1)) := by
  induction d with
  | zero =>
    intro k i n hi hn
    rw [spec_CountStains.l1, if_neg (by omega), List.drop_of_length_le (by rw [cs_length]; omega), show cnt 63 [] = 0 from rfl, Int.add_zero]
  | succ d ih =>
    intro k i n hi hn
    rw [spec_CountStains.l1, if_pos (by omega), if_pos (by omega), bt_get s i (by omega), drop_get (cs s) i (by rw [cs_length]; omega), cnt_cons, w64 (x := n + 1) (by omega), w64 (by omega), show k + (d + 1) = k + d + 1 by omega, show ((i : Int) + 1) = ((i + 1 : Nat) : Int) by omega]
    have hb := cnt_bounds 63 ((cs s).drop (i + 1))
    by_cases h : (cs s)[i]'(by rw [cs_length]; omega) = 63
    · rw [if_pos h, if_pos h]
      rw [ih k (i + 1) (n + 1) (by omega) (by omega), show n + 1 + cnt 63 ((cs s).drop (i + 1)) = n + (1 + cnt 63 ((cs s).drop (i + 1))) by omega]
    · rw [if_neg h, if_neg h, ih k (i + 1) n (by omega) (by omega), Int.zero_add]
theorem stains_loop (l : List ByteArray) (hs : ∀ s ∈ l, s.size ≤ 20) (hl : l.length ≤ 60) (d : Nat) : ∀ (k i : Nat) (n : Int), i + d = l.length → fuelR (l.drop i) ≤ k → 0 ≤ n ∧ n + 20 * d ≤ 1200 →
    spec_CountStains.l0 k n l l.length i = some (n + total 63 (l.drop i), true) := by
  induction d with
  | zero =>
    intro k i n hi hk hn
    rw [List.drop_of_length_le (by omega)] at hk ⊢
    obtain ⟨k, rfl⟩ : ∃ j, k = j + 1 := ⟨k - 1, by unfold fuelR at hk; omega⟩
    rw [spec_CountStains.l0, if_neg (by omega), show total 63 [] = 0 from rfl, Int.add_zero]
  | succ d ih =>
    intro k i n hi hk hn
    have hx : l[i].size ≤ 20 := hs _ (List.getElem_mem _)
    rw [drop_get l i (by omega)] at hk ⊢
    unfold fuelR at hk
    obtain ⟨j, hj⟩ : ∃ j, k = j + l[i].size + 1 + 1 := ⟨k - l[i].size - 2, by omega⟩
    have hb := cnt_bounds 63 (cs l[i])
    rw [cs_length] at hb
    rw [hj, spec_CountStains.l0, if_pos (by omega), if_pos (by omega), if_pos (by omega), rdB_get l i (by omega), show (0 : Int) = ((0 : Nat) : Int) from rfl, stains_row l[i] (by omega) l _ _ l[i].size j 0 n (by omega) (by omega), List.drop_zero, w64 (by omega), show ((i : Int) + 1) = ((i + 1 : Nat) : Int) by omega, ih j (i + 1) _ (by omega) (by omega) (by omega), show total 63 (l[i] :: l.drop (i + 1)) = cnt 63 (cs l[i]) + total 63 (l.drop (i + 1)) from rfl, Int.add_assoc]
theorem countByte_eq (s : ByteArray) : ((Go.Lib.countByte s.data.toList 63 : Nat) : Int) = cnt 63 (cs s) := by
  unfold cs bytesOf Go.Lib.countByte cnt
  generalize s.data.toList = x
  induction x with
  | nil => rfl
  | cons b r ih =>
    rw [List.map_cons, List.countP_cons, List.count_cons]
    have hb : (b == 63) = (((b.toNat : Nat) : Int) == 63) := by
      have key : ∀ m : Fin 256, (UInt8.ofNat m.val == 63) = (((m.val : Nat) : Int) == 63) := by decide +kernel
      have := key ⟨b.toNat, b.toNat_lt⟩
      simpa using this
    rw [← hb]
    simp only [Int.natCast_add]
    rw [ih]
theorem countChar_loop (l : List ByteArray) (hs : ∀ s ∈ l, s.size ≤ 20) (hl : l.length ≤ 60) (d : Nat) : ∀ (k i : Nat) (n : Int), i + d = l.length → d < k → 0 ≤ n ∧ n + 20 * d ≤ 1200 →
    impl_countChar.l0 k (⟨#[63]⟩ : ByteArray) n l l.length i = some (n + total 63 (l.drop i)) := by
  induction d with
  | zero =>
    intro k i n hi hk hn
    obtain ⟨k, rfl⟩ : ∃ j, k = j + 1 := ⟨k - 1, by omega⟩
    rw [List.drop_of_length_le (by omega)]
    rw [impl_countChar.l0, if_neg (by omega), show total 63 [] = 0 from rfl, Int.add_zero]
  | succ d ih =>
    intro k i n hi hk hn
    obtain ⟨k, rfl⟩ : ∃ j, k = j + 1 := ⟨k - 1, by omega⟩
    have hx : l[i].size ≤ 20 := hs _ (List.getElem_mem _)
    have hb := cnt_bounds 63 (cs l[i])
    rw [cs_length] at hb
    have hc : strings_Count.f l[i] (⟨#[63]⟩ : ByteArray) = some (cnt 63 (cs l[i])) := by
      rw [← countByte_eq]; rfl
    rw [drop_get l i (by omega), impl_countChar.l0, if_pos (by omega), if_pos (by omega), if_pos (by omega), rdB_get l i (by omega), hc]
    simp only [Option.bind_some]
    rw [w64 (x := n + _) (by omega), w64 (by omega), show ((i : Int) + 1) = ((i + 1 : Nat) : Int) by omega, ih k (i + 1) _ (by omega) (by omega) (by omega), show total 63 (l[i] :: l.drop (i + 1)) = cnt 63 (cs l[i]) + total 63 (l.drop (i + 1)) from rfl, Int.add_assoc]
theorem countStains_eq (l : List ByteArray) (hl : l.length ≤ 1048576) (hs : ∀ s ∈ l, s.size ≤ 1048576) (k : Nat) (hk : fuelR l + 70 ≤ k) :
    spec_CountStains.f k l = some (if Grid chS 1 60 20 l then (total 63 l, true) else (0, false)) ∧ impl_CountStains.f k l = some (if Grid chS 1 60 20 l then (total 63 l, true) else (0, false)) := by
  unfold spec_CountStains.f impl_CountStains.f
  rw [scGood_eq l hl hs k (by omega), isScan_eq l hl hs k (by omega)]
  simp only [Option.bind_some]
  by_cases hg : Grid chS 1 60 20 l = true
  · obtain ⟨g1, g2, g3, g4, g5⟩ := grid_facts hg
    have hs' : ∀ s ∈ l, s.size ≤ 20 := fun s h => by have := (g5 s h).1; omega
    rw [if_pos hg, if_pos hg, if_pos hg]
    have e1 := stains_loop l hs' (by omega) l.length k 0 0 (by omega) (by rw [List.drop_zero]; omega) (by omega)
    have e2 := countChar_loop l hs' (by omega) l.length k 0 0 (by omega) (by omega) (by omega)
    rw [List.drop_zero, Int.zero_add] at e1 e2
    unfold impl_countChar.f
    refine ⟨e1, ?_⟩
    rw [show (0 : Int) = ((0 : Nat) : Int) from rfl] at e2 ⊢
    rw [e2]
    rfl
  · rw [if_neg hg, if_neg hg, if_neg hg]
    exact ⟨rfl, rfl⟩

theorem FnExactCountStains (l : List ByteArray) (hl : l.length ≤ maxLen) (hs : ∀ s ∈ l, s.size ≤ maxLen) : ∃ k, laws_FnExactCountStains.f k l = some true := by
  obtain ⟨r, hr, hb⟩ := szStrings_eq l hl hs 1048576 (by omega)
  refine ⟨l.length + fuelR l + 100 + 1, ?_⟩
  unfold laws_FnExactCountStains.f
  rw [hr _ (by omega)]
  simp only [Option.bind_some]
  by_cases h : r < 0
  · rw [if_pos h]
  · obtain ⟨_, b1, b2⟩ := hb (by omega)
    obtain ⟨e1, e2⟩ := countStains_eq l b1 b2 (l.length + fuelR l + 100 + 1) (by omega)
    rw [if_neg h, toStrings_eq l b1 _ (by omega)]
    simp only [Option.bind_some]
    rw [e1, e2]
    simp only [Option.bind_some, bne_self_eq_false, if_true]
    rw [laws_FnExactCountStains.j0, if_neg (by simp), toStrings_eq l b1 _ (by omega)]
    simp only [Option.bind_some]
    rw [eqStrings_self l b1 _ (by omega)]
    simp
end Go.Proofs.Ytlikohjiiakhkaa.Pure
