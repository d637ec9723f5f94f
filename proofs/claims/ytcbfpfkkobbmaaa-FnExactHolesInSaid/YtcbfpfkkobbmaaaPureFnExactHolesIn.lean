/- FnExactHolesIn: the program's HolesIn answers as the reference's, in memory of its own, for all slices of strings. No condition. -/
import Derived.Test.YtcbfpfkkobbmaaaPFnExactHolesInx10
namespace Go.Proofs.Ytcbfpfkkobbmaaa.Pure
open Go.RowKit Go.Proofs.Ytcbfpfkkobbmaaa.PFnExactHolesIn Go.Proofs.YtcbfpfkkobbmaaaW.PrintWords Go.Proofs.YtcbfpfkkobbmaaaW.PrintLast

set_option linter.unusedVariables false
set_option linter.unusedSimpArgs false

theorem w64 {x : Int} (h : -9223372036854775808 ≤ x ∧ x ≤ 9223372036854775807) : wrap64 x = x := by
  unfold wrap64; omega
theorem someF {p : Prop} [Decidable p] (h : ¬ p) : some false = some (decide p) := by rw [decide_eq_false h]
theorem someD {q p : Prop} [Decidable q] [Decidable p] (h : q ↔ p) : some (decide q) = some (decide p) := by rw [decide_eq_decide.2 h]

theorem in_eq (a b c : Int) : spec_l1In.f a b c = some (decide (b ≤ a ∧ a ≤ c)) := by
  unfold spec_l1In.f
  by_cases h : a ≥ b
  · rw [if_pos h]; congr 1; simp [show b ≤ a from h]
  · rw [if_neg h]; congr 1; simp; omega

theorem fill_step {α : Type} (l : List α) (z : α) (i : Nat) (h : i < l.length) :
    (l.take i ++ List.replicate (l.length - i) z).set i (l[i]'h) = l.take (i + 1) ++ List.replicate (l.length - (i + 1)) z := by
  have hl : (l.take i).length = i := by rw [List.length_take]; omega
  rw [List.set_append_right _ _ (by omega), hl, Nat.sub_self, show l.length - i = (l.length - (i + 1)) + 1 by omega, List.replicate_succ, List.set_cons_zero, List.take_succ_eq_append_getElem h, List.append_assoc]
  rfl
theorem fill_length {α : Type} (l : List α) (z : α) (i : Nat) (h : i ≤ l.length) : (l.take i ++ List.replicate (l.length - i) z).length = l.length := by
  simp; omega

theorem rd_get (l : List Int) (i : Nat) (h : i < l.length) : rd l (i : Int) = l[i] := by
  unfold rd; rw [Int.toNat_natCast, List.getD_eq_getElem?_getD, List.getElem?_eq_getElem h]; rfl

theorem rdB_get (l : List ByteArray) (i : Nat) (h : i < l.length) : rdOf ByteArray.empty l (i : Int) = l[i] := by
  unfold rdOf; rw [Int.toNat_natCast, List.getD_eq_getElem?_getD, List.getElem?_eq_getElem h]; rfl
theorem drop_get {α : Type} (l : List α) (i : Nat) (h : i < l.length) : l.drop i = l[i] :: l.drop (i + 1) := List.drop_eq_getElem_cons h
/-- the bytes of a string -/
abbrev cs (s : ByteArray) : List Int := bytesOf s
theorem cs_length (s : ByteArray) : (cs s).length = s.size := bytesOf_length s
theorem bt_get (s : ByteArray) (i : Nat) (h : i < s.size) : bt s (i : Int) = (cs s)[i]'(by rw [cs_length]; exact h) := by
  rw [← rd_bytesOf, rd_get _ _ (by rw [bytesOf_length]; exact h)]
theorem szStrings_loop (l : List ByteArray) (hl : l.length ≤ 1048576) (hs : ∀ s ∈ l, s.size ≤ maxLen) (d : Nat) : ∀ (k i : Nat) (n : Int), i + d = l.length → d < k → 0 ≤ n ∧ n ≤ 1048576 →
    ∃ r, laws_szStringS.l0 k l n i = some r ∧ (0 ≤ r → r ≤ n ∧ ∀ s ∈ l.drop i, s.size ≤ n) := by
  induction d with
  | zero =>
    intro k i n hi hk hn
    obtain ⟨k, rfl⟩ : ∃ j, k = j + 1 := ⟨k - 1, by omega⟩
    exact ⟨n, by rw [laws_szStringS.l0, if_neg (by omega)], fun _ => ⟨Int.le_refl _, by rw [List.drop_of_length_le (by omega)]; simp⟩⟩
  | succ d ih =>
    intro k i n hi hk hn
    obtain ⟨k, rfl⟩ : ∃ j, k = j + 1 := ⟨k - 1, by omega⟩
    have h1 : l[i].size ≤ maxLen := hs _ (List.getElem_mem _)
    unfold maxLen at h1
    rw [laws_szStringS.l0, if_pos (by omega), if_pos (by omega), rdB_get l i (by omega), w64 (x := n - _) (by omega), w64 (by omega)]
    by_cases h : n - (l[i].size : Int) < 0
    · exact ⟨-1, by rw [if_pos h], fun h' => by omega⟩
    · obtain ⟨r, hr, hb⟩ := ih k (i + 1) (n - l[i].size) (by omega) (by omega) (by omega)
      refine ⟨r, by rw [if_neg h]; exact hr, fun h' => ?_⟩
      obtain ⟨b1, b2⟩ := hb h'
      refine ⟨by omega, ?_⟩
      rw [drop_get l i (by omega), List.forall_mem_cons]
      exact ⟨by omega, fun s hs' => by have := b2 s hs'; omega⟩
/-- the guard on the size of an argument: what it lets through is small -/
theorem szStrings_eq (l : List ByteArray) (hl : l.length ≤ maxLen) (hs : ∀ s ∈ l, s.size ≤ maxLen) (n : Int) (hn : 0 ≤ n ∧ n ≤ 1048576) :
    ∃ r, (∀ k, l.length < k → laws_szStringS.f k l n = some r) ∧ (0 ≤ r → r ≤ n ∧ l.length ≤ 1048576 ∧ ∀ s ∈ l, s.size ≤ 1048576) := by
  have hl' := hl
  unfold maxLen at hl'
  by_cases h : n - (l.length : Int) < 0
  · exact ⟨-1, fun k _ => by unfold laws_szStringS.f; rw [w64 (by omega), if_pos h], fun h' => by omega⟩
  · obtain ⟨r, hr, hb⟩ := szStrings_loop l (by omega) hs l.length (l.length + 1) 0 (n - l.length) (by omega) (by omega) (by omega)
    refine ⟨r, fun k hk => ?_, fun h' => ?_⟩
    · unfold laws_szStringS.f
      rw [w64 (by omega), if_neg h]
      obtain ⟨q, hq, _⟩ := szStrings_loop l (by omega) hs l.length k 0 (n - l.length) (by omega) (by omega) (by omega)
      have := at_rounds (g := fun k => laws_szStringS.l0 k l (n - l.length) ((0 : Nat) : Int)) (fun k => laws_szStringS.mono_l k _ _ _) (show l.length + 1 ≤ k by omega) hr
      exact this
    · obtain ⟨b1, b2⟩ := hb h'
      refine ⟨by omega, by omega, fun s hs' => ?_⟩
      have := b2 s (by simpa using hs')
      omega
theorem toStrings_loop (l : List ByteArray) (hl : l.length ≤ 1048576) (d : Nat) : ∀ (k i : Nat), i + d = l.length → d < k →
    laws_toStringS.l0 k l (l.take i ++ List.replicate (l.length - i) (⟨#[]⟩ : ByteArray)) i = some l := by
  induction d with
  | zero =>
    intro k i hi hk
    obtain ⟨k, rfl⟩ : ∃ j, k = j + 1 := ⟨k - 1, by omega⟩
    rw [laws_toStringS.l0, if_neg (by omega), show l.length - i = 0 by omega, List.replicate_zero, List.append_nil, List.take_of_length_le (by omega)]
  | succ d ih =>
    intro k i hi hk
    obtain ⟨k, rfl⟩ : ∃ j, k = j + 1 := ⟨k - 1, by omega⟩
    rw [laws_toStringS.l0, if_pos (by omega), if_pos (by omega), fill_length _ _ _ (by omega), if_pos (by omega), Int.toNat_natCast, rdB_get l i (by omega), fill_step l _ i (by omega), w64 (by omega)]
    exact ih k (i + 1) (by omega) (by omega)
theorem toStrings_eq (l : List ByteArray) (hl : l.length ≤ 1048576) (k : Nat) (hk : l.length < k) : laws_toStringS.f k l = some l := by
  unfold laws_toStringS.f
  rw [if_pos (by omega), if_pos (by omega), Int.toNat_natCast]
  have := toStrings_loop l hl l.length k 0 (by omega) hk
  simpa using this
theorem eqStrings_loop (l : List ByteArray) (hl : l.length ≤ 1048576) (d : Nat) : ∀ (k i : Nat), i + d = l.length → d < k → laws_eqStringS.l0 k l l i = some true := by
  induction d with
  | zero =>
    intro k i hi hk
    obtain ⟨k, rfl⟩ : ∃ j, k = j + 1 := ⟨k - 1, by omega⟩
    rw [laws_eqStringS.l0, if_neg (by omega)]
  | succ d ih =>
    intro k i hi hk
    obtain ⟨k, rfl⟩ : ∃ j, k = j + 1 := ⟨k - 1, by omega⟩
    rw [laws_eqStringS.l0, if_pos (by omega), if_pos (by omega), if_pos (by omega), if_pos rfl, w64 (by omega)]
    exact ih k (i + 1) (by omega) (by omega)
theorem eqStrings_self (l : List ByteArray) (hl : l.length ≤ 1048576) (k : Nat) (hk : l.length < k) : laws_eqStringS.f k l l = some true := by
  unfold laws_eqStringS.f
  rw [if_pos rfl]
  exact eqStrings_loop l hl l.length k 0 (by omega) hk

/-- rectangles of some characters: the rows are as long as the first, and hold those characters alone -/
def RowOK (ch : Int → Bool) (n : Nat) (s : ByteArray) : Bool := s.size == n && (cs s).all ch
def wid (l : List ByteArray) : Nat := (l.headD ByteArray.empty).size
def Grid (ch : Int → Bool) (least rows width : Nat) (l : List ByteArray) : Bool :=
  decide (least ≤ l.length) && decide (l.length ≤ rows) && decide (least ≤ wid l) && decide (wid l ≤ width) && l.all (RowOK ch (wid l))
def fuelR : List ByteArray → Nat
  | [] => 1
  | s :: r => s.size + 2 + fuelR r
theorem wid_get (l : List ByteArray) (h : 0 < l.length) : wid l = (l[0]'h).size := by
  cases l with
  | nil => simp at h
  | cons a r => rfl
theorem indexByte_found (l : List UInt8) (c : UInt8) : (Go.Lib.indexByte l c < 0) ↔ c ∉ l := by
  induction l with
  | nil => simp [Go.Lib.indexByte]
  | cons b r ih =>
    have hge : ∀ l : List UInt8, -1 ≤ Go.Lib.indexByte l c := by
      intro l
      induction l with
      | nil => simp [Go.Lib.indexByte]
      | cons b r ih => unfold Go.Lib.indexByte; split; omega; split <;> omega
    have hr := hge r
    unfold Go.Lib.indexByte
    by_cases h : b = c
    · subst h; simp
    · have h1 : (b == c) = false := by simpa using h
      have h2 : c ≠ b := fun e => h e.symm
      rw [h1]
      simp only [Bool.false_eq_true, if_false, List.mem_cons, not_or]
      by_cases h3 : Go.Lib.indexByte r c = -1
      · have h4 : (Go.Lib.indexByte r c == -1) = true := by simpa using h3
        rw [h4]; simp only [if_true]
        exact ⟨fun _ => ⟨h2, ih.1 (by omega)⟩, fun _ => by omega⟩
      · have h4 : (Go.Lib.indexByte r c == -1) = false := by simpa using h3
        rw [h4]; simp only [Bool.false_eq_true, if_false]
        exact ⟨fun h => by omega, fun h => absurd (ih.2 h.2) (by omega)⟩

def chS (c : Int) : Bool := c == 46 || c == 111 || c == 63

theorem scGood_row (x0 : List ByteArray) (s : ByteArray) (hs : s.size ≤ 1048576) (x6 : List ByteArray) (x7 x8 : Int) (d : Nat) : ∀ (k i : Nat), i + d = s.size →
    spec_scGood.l1 (k + d + 1) x0 s i x6 x7 x8 = if ((cs s).drop i).all chS then spec_scGood.l0 k x0 x6 x7 (wrap64 (x8 + 1)) else some false := by
  induction d with
  | zero =>
    intro k i hi
    rw [spec_scGood.l1, if_neg (by omega), List.drop_of_length_le (by rw [cs_length]; omega)]
    simp
  | succ d ih =>
    intro k i hi
    rw [spec_scGood.l1, if_pos (by omega), if_pos (by omega), bt_get s i (by omega), drop_get (cs s) i (by rw [cs_length]; omega), List.all_cons, w64 (by omega), show k + (d + 1) = k + d + 1 by omega, show ((i : Int) + 1) = ((i + 1 : Nat) : Int) by omega, ih k (i + 1) (by omega)]
    generalize (cs s)[i]'_ = c
    unfold chS
    by_cases h1 : c = 46
    · simp [h1]
    · by_cases h2 : c = 111
      · simp [h2]
      · by_cases h3 : c = 63
        · simp [h3]
        · simp [h1, h2, h3]
theorem scGood_loop (l : List ByteArray) (hl : l.length ≤ 1048576) (hs : ∀ s ∈ l, s.size ≤ 1048576) (d : Nat) : ∀ (k i : Nat), i + d = l.length → fuelR (l.drop i) ≤ k →
    spec_scGood.l0 k l l l.length i = if (l.drop i).all (RowOK chS (wid l)) then
      (if 1 ≤ l.length ∧ l.length ≤ 60 then (if 0 < (l.length : Int) then some (decide (1 ≤ wid l ∧ wid l ≤ 20)) else none) else some false) else some false := by
  induction d with
  | zero =>
    intro k i hi hk
    rw [List.drop_of_length_le (by omega)] at hk ⊢
    obtain ⟨k, rfl⟩ : ∃ j, k = j + 1 := ⟨k - 1, by unfold fuelR at hk; omega⟩
    rw [spec_scGood.l0, if_neg (by omega), in_eq]
    simp only [Option.bind_some, decide_eq_true_eq, List.all_nil, if_true]
    by_cases h0 : 0 < l.length
    · rw [if_pos (show 0 < (l.length : Int) by omega), show ((0 : Int)) = ((0 : Nat) : Int) from rfl, rdB_get l 0 h0, in_eq, wid_get l h0]
      simp only [Option.bind_some]
      split
      · rw [if_pos (by omega), if_pos (by omega)]; exact someD (by omega)
      · rw [if_neg (by omega)]
    · rw [if_neg (by omega), if_neg (by omega)]
  | succ d ih =>
    intro k i hi hk
    have hx : l[i].size ≤ 1048576 := hs _ (List.getElem_mem _)
    rw [drop_get l i (by omega)] at hk ⊢
    unfold fuelR at hk
    obtain ⟨j, hj⟩ : ∃ j, k = j + l[i].size + 1 + 1 := ⟨k - l[i].size - 2, by omega⟩
    rw [hj]
    have h0 : 0 < l.length := by omega
    rw [spec_scGood.l0, if_pos (by omega), if_pos (by omega), if_pos (by omega), if_pos (by omega), rdB_get l i (by omega)]
    rw [show rdOf ByteArray.empty l 0 = l[0] from rdB_get l 0 h0, ← wid_get l h0, List.all_cons]
    by_cases h1 : (l[i].size : Int) = (wid l : Int)
    · have h1' : (l[i].size == wid l) = true := by simp; omega
      rw [if_pos h1, show (0 : Int) = ((0 : Nat) : Int) from rfl, scGood_row l l[i] hx l _ _ l[i].size j 0 (by omega), List.drop_zero, w64 (by omega), show ((i : Int) + 1) = ((i + 1 : Nat) : Int) by omega, ih j (i + 1) (by omega) (by omega)]
      unfold RowOK
      rw [h1', Bool.true_and]
      by_cases h2 : (cs l[i]).all chS = true
      · rw [if_pos h2, h2, Bool.true_and]
        rfl
      · rw [if_neg h2, Bool.eq_false_iff.2 h2, Bool.false_and, if_neg (by decide)]
    · have h1' : (l[i].size == wid l) = false := by simp; omega
      rw [if_neg h1]
      unfold RowOK
      rw [h1', Bool.false_and, Bool.false_and, if_neg (by decide)]
theorem scGood_eq (l : List ByteArray) (hl : l.length ≤ 1048576) (hs : ∀ s ∈ l, s.size ≤ 1048576) (k : Nat) (hk : fuelR l ≤ k) : spec_scGood.f k l = some (Grid chS 1 60 20 l) := by
  unfold spec_scGood.f
  have := scGood_loop l hl hs l.length k 0 (by omega) (by simpa using hk)
  rw [List.drop_zero] at this
  rw [show (0 : Int) = ((0 : Nat) : Int) from rfl, this]
  unfold Grid
  by_cases h : l.all (RowOK chS (wid l)) = true
  · rw [if_pos h, h, Bool.and_true]
    by_cases h1 : 1 ≤ l.length ∧ l.length ≤ 60
    · rw [if_pos h1, if_pos (by omega), decide_eq_true h1.1, decide_eq_true h1.2]
      by_cases h2 : 1 ≤ wid l <;> by_cases h3 : wid l ≤ 20 <;> simp [h2, h3]
    · rw [if_neg h1]
      by_cases h2 : 1 ≤ l.length <;> by_cases h3 : l.length ≤ 60
      · exact absurd ⟨h2, h3⟩ h1
      all_goals simp [h2, h3]
  · rw [if_neg h, Bool.eq_false_iff.2 h, Bool.and_false]

def chIn (chars : ByteArray) (c : Int) : Bool := decide (c.toNat.toUInt8 ∈ chars.data.toList)
theorem isGrid_row (x0 : List ByteArray) (ch s : ByteArray) (hs : s.size ≤ 1048576) (x40 : List ByteArray) (x41 x42 : Int) (d : Nat) : ∀ (k i : Nat), i + d = s.size →
    impl_isGridOf.l1 (k + d + 1) x0 ch s i x40 x41 x42 = if ((cs s).drop i).all (chIn ch) then impl_isGridOf.l0 k x0 ch x40 x41 (wrap64 (x42 + 1)) else some false := by
  induction d with
  | zero =>
    intro k i hi
    rw [impl_isGridOf.l1, if_neg (by omega), List.drop_of_length_le (by rw [cs_length]; omega)]
    simp
  | succ d ih =>
    intro k i hi
    rw [impl_isGridOf.l1, if_pos (by omega), if_pos (by omega), bt_get s i (by omega), drop_get (cs s) i (by rw [cs_length]; omega), List.all_cons, w64 (by omega), show k + (d + 1) = k + d + 1 by omega, show ((i : Int) + 1) = ((i + 1 : Nat) : Int) by omega, ih k (i + 1) (by omega)]
    generalize (cs s)[i]'_ = c
    unfold strings_IndexByte.f chIn
    simp only [Option.bind_some]
    have hf := indexByte_found ch.data.toList c.toNat.toUInt8
    by_cases h : c.toNat.toUInt8 ∈ ch.data.toList
    · rw [if_neg (fun h' => hf.1 h' h), decide_eq_true h, Bool.true_and]
    · rw [if_pos (hf.2 h), decide_eq_false h, Bool.false_and, if_neg (by decide)]
theorem isGrid_loop (l : List ByteArray) (ch : ByteArray) (hl : l.length ≤ 1048576) (hs : ∀ s ∈ l, s.size ≤ 1048576) (d : Nat) : ∀ (k i : Nat), i + d = l.length → fuelR (l.drop i) ≤ k →
    impl_isGridOf.l0 k l ch l l.length i = some ((l.drop i).all (RowOK (chIn ch) (wid l))) := by
  induction d with
  | zero =>
    intro k i hi hk
    rw [List.drop_of_length_le (by omega)] at hk ⊢
    obtain ⟨k, rfl⟩ : ∃ j, k = j + 1 := ⟨k - 1, by unfold fuelR at hk; omega⟩
    rw [impl_isGridOf.l0, if_neg (by omega)]
    rfl
  | succ d ih =>
    intro k i hi hk
    have hx : l[i].size ≤ 1048576 := hs _ (List.getElem_mem _)
    rw [drop_get l i (by omega)] at hk ⊢
    unfold fuelR at hk
    obtain ⟨j, hj⟩ : ∃ j, k = j + l[i].size + 1 + 1 := ⟨k - l[i].size - 2, by omega⟩
    rw [hj]
    have h0 : 0 < l.length := by omega
    rw [impl_isGridOf.l0, if_pos (by omega), if_pos (by omega), if_pos (by omega), if_pos (by omega), rdB_get l i (by omega)]
    rw [show rdOf ByteArray.empty l 0 = l[0] from rdB_get l 0 h0, ← wid_get l h0, List.all_cons]
    by_cases h1 : (l[i].size : Int) = (wid l : Int)
    · have h1' : (l[i].size == wid l) = true := by simp; omega
      rw [if_pos h1, show (0 : Int) = ((0 : Nat) : Int) from rfl, isGrid_row l ch l[i] hx l _ _ l[i].size j 0 (by omega), List.drop_zero, w64 (by omega), show ((i : Int) + 1) = ((i + 1 : Nat) : Int) by omega, ih j (i + 1) (by omega) (by omega)]
      unfold RowOK
      rw [h1', Bool.true_and]
      by_cases h2 : (cs l[i]).all (chIn ch) = true
      · rw [if_pos h2, h2, Bool.true_and]
      · rw [if_neg h2, Bool.eq_false_iff.2 h2, Bool.false_and]
    · have h1' : (l[i].size == wid l) = false := by simp; omega
      rw [if_neg h1]
      unfold RowOK
      rw [h1', Bool.false_and, Bool.false_and]
theorem isGrid_eq (l : List ByteArray) (hl : l.length ≤ 1048576) (hs : ∀ s ∈ l, s.size ≤ 1048576) (least rows width : Nat) (h1 : 1 ≤ least) (ch : ByteArray) (k : Nat) (hk : fuelR l < k) :
    impl_isGridOf.f k l least rows width ch = some (Grid (chIn ch) least rows width l) := by
  obtain ⟨k, rfl⟩ : ∃ j, k = j + 1 := ⟨k - 1, by omega⟩
  unfold impl_isGridOf.f Grid
  simp only [impl_isGridOf.j0, if_true]
  by_cases h2 : least ≤ l.length
  · by_cases h3 : l.length ≤ rows
    · have h0 : 0 < l.length := by omega
      rw [if_neg (by omega), if_neg (by omega), if_pos (by omega), show rdOf ByteArray.empty l 0 = l[0] from rdB_get l 0 h0, ← wid_get l h0, decide_eq_true h2, decide_eq_true h3]
      by_cases h4 : least ≤ wid l
      · rw [if_neg (by omega), decide_eq_true h4]
        by_cases h5 : wid l ≤ width
        · have := isGrid_loop l ch hl hs l.length k 0 (by omega) (by simpa using (by omega : fuelR l ≤ k))
          rw [List.drop_zero] at this
          rw [if_neg (by simp; omega), decide_eq_true h5, show (0 : Int) = ((0 : Nat) : Int) from rfl, this]
          simp
        · rw [if_pos (by simp; omega), decide_eq_false h5]; simp
      · rw [if_pos (by omega), decide_eq_false h4]; simp
    · rw [if_neg (by omega), if_pos (by omega), decide_eq_false h3]; simp
  · rw [if_pos (by omega), decide_eq_false h2]; simp

theorem chIn_scan (c : Int) (hc : 0 ≤ c ∧ c ≤ 255) : chIn ⟨#[46, 111, 63]⟩ c = chS c := by
  unfold chIn chS
  obtain ⟨n, rfl⟩ : ∃ n : Nat, c = n := ⟨c.toNat, by omega⟩
  have hn : n < 256 := by omega
  rw [Int.toNat_natCast]
  have key : ∀ m : Fin 256, decide (m.val.toUInt8 ∈ [(46 : UInt8), 111, 63]) = ((m.val : Int) == 46 || (m.val : Int) == 111 || (m.val : Int) == 63) := by decide +kernel
  exact key ⟨n, hn⟩
theorem cs_range (s : ByteArray) : ∀ c ∈ cs s, 0 ≤ c ∧ c ≤ 255 := by
  intro c hc
  unfold cs bytesOf at hc
  obtain ⟨b, _, rfl⟩ := List.mem_map.1 hc
  have := b.toNat_lt
  omega
theorem all_congr' {α : Type} (l : List α) (p q : α → Bool) (h : ∀ x ∈ l, p x = q x) : l.all p = l.all q := by
  induction l with
  | nil => rfl
  | cons a r ih => rw [List.all_cons, List.all_cons, h a (by simp), ih (fun x hx => h x (List.mem_cons_of_mem _ hx))]
theorem rowOK_scan (n : Nat) (s : ByteArray) : RowOK (chIn ⟨#[46, 111, 63]⟩) n s = RowOK chS n s := by
  unfold RowOK
  rw [all_congr' _ _ _ (fun c hc => chIn_scan c (cs_range s c hc))]
theorem grid_scan (least rows width : Nat) (l : List ByteArray) : Grid (chIn ⟨#[46, 111, 63]⟩) least rows width l = Grid chS least rows width l := by
  unfold Grid
  rw [all_congr' _ _ _ (fun s _ => rowOK_scan (wid l) s)]

theorem grid_facts {ch : Int → Bool} {least rows width : Nat} {l : List ByteArray} (h : Grid ch least rows width l = true) :
    least ≤ l.length ∧ l.length ≤ rows ∧ least ≤ wid l ∧ wid l ≤ width ∧ ∀ s ∈ l, s.size = wid l ∧ ∀ c ∈ cs s, ch c = true := by
  unfold Grid at h
  simp only [Bool.and_eq_true, decide_eq_true_eq, List.all_eq_true] at h
  obtain ⟨⟨⟨⟨h1, h2⟩, h3⟩, h4⟩, h5⟩ := h
  refine ⟨h1, h2, h3, h4, fun s hs => ?_⟩
  have := h5 s hs
  unfold RowOK at this
  simp only [Bool.and_eq_true, beq_iff_eq, List.all_eq_true] at this
  exact this
theorem chS_cases {c : Int} (h : chS c = true) : c = 46 ∨ c = 111 ∨ c = 63 := by
  unfold chS at h
  simp only [Bool.or_eq_true, beq_iff_eq] at h
  omega
theorem fuelR_bound (l : List ByteArray) (n : Nat) (h : ∀ s ∈ l, s.size ≤ n) : fuelR l ≤ l.length * (n + 2) + 1 := by
  induction l with
  | nil => simp [fuelR]
  | cons s r ih =>
    have h1 := ih (fun x hx => h x (List.mem_cons_of_mem _ hx))
    have h2 := h s (by simp)
    unfold fuelR
    rw [List.length_cons, Nat.add_mul]
    omega

/-- how many bytes of a kind -/
def cnt (m : Int) (l : List Int) : Int := (l.countP (fun c => c == m) : Nat)
theorem cnt_cons (m c : Int) (l : List Int) : cnt m (c :: l) = (if c = m then 1 else 0) + cnt m l := by
  unfold cnt
  rw [List.countP_cons]
  by_cases h : c = m
  · simp [h]; omega
  · simp [h]
theorem cnt_bounds (m : Int) (l : List Int) : 0 ≤ cnt m l ∧ cnt m l ≤ l.length := by
  unfold cnt
  have := List.countP_le_length (p := fun c => c == m) (l := l)
  omega
theorem cnt_append (m : Int) (a b : List Int) : cnt m (a ++ b) = cnt m a + cnt m b := by
  unfold cnt; rw [List.countP_append]; omega

theorem isScan_eq (l : List ByteArray) (hl : l.length ≤ 1048576) (hs : ∀ s ∈ l, s.size ≤ 1048576) (k : Nat) (hk : fuelR l < k) : impl_IsScan.f k l = some (Grid chS 1 60 20 l) := by
  unfold impl_IsScan.f
  rw [show (1 : Int) = ((1 : Nat) : Int) from rfl, show (60 : Int) = ((60 : Nat) : Int) from rfl, show (20 : Int) = ((20 : Nat) : Int) from rfl, isGrid_eq l hl hs 1 60 20 (by omega) _ _ hk, grid_scan]
  rfl

def total (m : Int) (l : List ByteArray) : Int := match l with
  | [] => 0
  | s :: r => cnt m (cs s) + total m r
theorem countByte_eq (s : ByteArray) : ((Go.Lib.countByte s.data.toList 63 : Nat) : Int) = cnt 63 (cs s) := by
  unfold cs bytesOf Go.Lib.countByte cnt
  generalize s.data.toList = x
  induction x with
  | nil => rfl
  | cons b r ih =>
    rw [List.map_cons, List.countP_cons, List.count_cons]
    have hb : (b == 63) = (((b.toNat : Nat) : Int) == 63) := by
      have key : ∀ m : Fin 256, (UInt8.ofNat m.val == 63) = (((m.val : Nat) : Int) == 63) := by decide +kernel
      have := key ⟨b.toNat, b.toNat_lt⟩
      simpa using this
    rw [← hb]
    simp only [Int.natCast_add]
    rw [ih]
theorem countChar_loop (l : List ByteArray) (hs : ∀ s ∈ l, s.size ≤ 20) (hl : l.length ≤ 60) (d : Nat) : ∀ (k i : Nat) (n : Int), i + d = l.length → d < k → 0 ≤ n ∧ n + 20 * d ≤ 1200 →
    impl_countChar.l0 k (⟨#[63]⟩ : ByteArray) n l l.length i = some (n + total 63 (l.drop i)) := by
  induction d with
  | zero =>
    intro k i n hi hk hn
    obtain ⟨k, rfl⟩ : ∃ j, k = j + 1 := ⟨k - 1, by omega⟩
    rw [List.drop_of_length_le (by omega)]
    rw [impl_countChar.l0, if_neg (by omega), show total 63 [] = 0 from rfl, Int.add_zero]
  | succ d ih =>
    intro k i n hi hk hn
    obtain ⟨k, rfl⟩ : ∃ j, k = j + 1 := ⟨k - 1, by omega⟩
    have hx : l[i].size ≤ 20 := hs _ (List.getElem_mem _)
    have hb := cnt_bounds 63 (cs l[i])
    rw [cs_length] at hb
    have hc : strings_Count.f l[i] (⟨#[63]⟩ : ByteArray) = some (cnt 63 (cs l[i])) := by
      rw [← countByte_eq]; rfl
    rw [drop_get l i (by omega), impl_countChar.l0, if_pos (by omega), if_pos (by omega), if_pos (by omega), rdB_get l i (by omega), hc]
    simp only [Option.bind_some]
    rw [w64 (x := n + _) (by omega), w64 (by omega), show ((i : Int) + 1) = ((i + 1 : Nat) : Int) by omega, ih k (i + 1) _ (by omega) (by omega) (by omega), show total 63 (l[i] :: l.drop (i + 1)) = cnt 63 (cs l[i]) + total 63 (l.drop (i + 1)) from rfl, Int.add_assoc]
theorem implStains_eq (l : List ByteArray) (hl : l.length ≤ 1048576) (hs : ∀ s ∈ l, s.size ≤ 1048576) (k : Nat) (hk : fuelR l + 70 ≤ k) :
    impl_CountStains.f k l = some (if Grid chS 1 60 20 l then (total 63 l, true) else (0, false)) := by
  unfold impl_CountStains.f
  rw [isScan_eq l hl hs k (by omega)]
  simp only [Option.bind_some]
  by_cases hg : Grid chS 1 60 20 l = true
  · obtain ⟨g1, g2, g3, g4, g5⟩ := grid_facts hg
    have hs' : ∀ s ∈ l, s.size ≤ 20 := fun s h => by have := (g5 s h).1; omega
    rw [if_pos hg, if_pos hg]
    have e2 := countChar_loop l hs' (by omega) l.length k 0 0 (by omega) (by omega) (by omega)
    rw [List.drop_zero, Int.zero_add] at e2
    unfold impl_countChar.f
    rw [show (0 : Int) = ((0 : Nat) : Int) from rfl] at e2 ⊢
    rw [e2]
    rfl
  · rw [if_neg hg, if_neg hg]

/-- the marks' texts: what counts is that there is one for each number -/
def mtext (n : Int) : ByteArray := (laws_markText.f 100 n).getD ByteArray.empty
theorem markText_loop (d : Nat) : ∀ (k : Nat) (n : Int) (s : ByteArray), 0 ≤ n → n < 10 ^ d → n ≤ 1099511627776 → d < k → s.size + d ≤ 1000 → ∃ t, laws_markText.l0 k n s = some t := by
  induction d with
  | zero =>
    intro k n s h0 h1 h2 hk hs
    obtain ⟨k, rfl⟩ : ∃ j, k = j + 1 := ⟨k - 1, by omega⟩
    simp at h1
    rw [laws_markText.l0, if_neg (by omega), if_pos (by omega)]
    exact ⟨_, rfl⟩
  | succ d ih =>
    intro k n s h0 h1 h2 hk hs
    obtain ⟨k, rfl⟩ : ∃ j, k = j + 1 := ⟨k - 1, by omega⟩
    by_cases h : n > 0
    · rw [laws_markText.l0, if_pos h]
      simp only [Option.bind_some]
      rw [if_pos (by rw [strOfNums_size]; simp; omega)]
      have h10 : Int.tdiv n 10 = n / 10 := Int.tdiv_eq_ediv_of_nonneg h0
      have hd : n / 10 < 10 ^ d := by
        rw [Int.pow_succ] at h1
        exact Int.ediv_lt_of_lt_mul (by omega) (by omega)
      rw [h10, w64 (x := n / 10) (by omega)]
      exact ih k (n / 10) _ (by omega) hd (by omega) (by omega) (by rw [ByteArray.size_append, strOfNums_size]; simp; omega)
    · rw [laws_markText.l0, if_neg h, if_pos (by omega)]
      exact ⟨_, rfl⟩
theorem markText_eq (n : Int) (h0 : 0 ≤ n) (h1 : n ≤ 1099511627776) (k : Nat) (hk : 100 ≤ k) : laws_markText.f k n = some (mtext n) := by
  have h : ∃ t, laws_markText.f 100 n = some t := by
    unfold laws_markText.f
    by_cases h : n ≤ 0
    · rw [if_pos h]; exact ⟨_, rfl⟩
    · rw [if_neg h]
      exact markText_loop 13 100 n _ h0 (by omega) h1 (by omega) (by decide)
  obtain ⟨t, ht⟩ := h
  have e : mtext n = t := by unfold mtext; rw [ht]; rfl
  rw [e]
  exact at_rounds (g := fun k => laws_markText.f k n) (fun k => laws_markText.mono n k) hk ht
def upS (n : Int) : Nat → List ByteArray
  | 0 => []
  | d + 1 => mtext n :: upS (n + 1) d
theorem upS_length (n : Int) (d : Nat) : (upS n d).length = d := by
  induction d generalizing n with
  | zero => rfl
  | succ d ih => simp [upS, ih]
theorem markStrings_loop (d : Nat) : ∀ (k : Nat) (p l : List ByteArray) (n : Int), l.length = d → d + 100 < k → p.length + l.length ≤ 1048576 → 1 ≤ n ∧ n ≤ 10000000 + p.length →
    laws_markStringS.l0 k (p ++ l) n p.length = some (n + d, p ++ upS n d) := by
  induction d with
  | zero =>
    intro k p l n hi hk hl hn
    obtain ⟨k, rfl⟩ : ∃ j, k = j + 1 := ⟨k - 1, by omega⟩
    obtain rfl := List.length_eq_zero_iff.1 hi
    rw [laws_markStringS.l0, if_neg (by simp)]
    simp [upS]
  | succ d ih =>
    intro k p l n hi hk hl hn
    obtain ⟨k, rfl⟩ : ∃ j, k = j + 1 := ⟨k - 1, by omega⟩
    obtain ⟨x, r, rfl⟩ : ∃ x r, l = x :: r := by
      cases l with
      | nil => simp at hi
      | cons x r => exact ⟨x, r, rfl⟩
    simp only [List.length_cons] at hi hl
    rw [laws_markStringS.l0, if_pos (by simp; omega), markText_eq n (by omega) (by omega) k (by omega)]
    simp only [Option.bind_some]
    rw [if_pos (by omega), Int.toNat_natCast, List.set_append_right _ _ (by omega), Nat.sub_self, List.set_cons_zero, w64 (by omega), w64 (by omega)]
    have := ih k (p ++ [mtext n]) r (n + 1) (by omega) (by omega) (by simp; omega) (by simp; omega)
    rw [show p ++ mtext n :: r = (p ++ [mtext n]) ++ r by simp, show ((p.length : Int) + 1) = (((p ++ [mtext n]).length : Nat) : Int) by simp, this, upS]
    simp; omega
theorem markStrings_eq (l : List ByteArray) (hl : l.length ≤ 1048576) (n : Int) (hn : 1 ≤ n ∧ n ≤ 10000000) (k : Nat) (hk : l.length + 100 < k) : laws_markStringS.f k l n = some (n + (l.length : Int), upS n l.length) := by
  unfold laws_markStringS.f
  have := markStrings_loop l.length k [] l n rfl hk (by simpa using hl) (by simp; omega)
  simpa using this

theorem rdH_get (l : List S58) (i : Nat) (h : i < l.length) : rd_T58 l (i : Int) = l[i] := by
  unfold rd_T58; rw [Int.toNat_natCast, List.getD_eq_getElem?_getD, List.getElem?_eq_getElem h]; rfl
theorem eqHoles_loop (l : List S58) (hl : l.length ≤ 1048576) (d : Nat) : ∀ (k i : Nat), i + d = l.length → d < k → laws_eqHoleS.l0 k l l i = some true := by
  induction d with
  | zero =>
    intro k i hi hk
    obtain ⟨k, rfl⟩ : ∃ j, k = j + 1 := ⟨k - 1, by omega⟩
    rw [laws_eqHoleS.l0, if_neg (by omega)]
  | succ d ih =>
    intro k i hi hk
    obtain ⟨k, rfl⟩ : ∃ j, k = j + 1 := ⟨k - 1, by omega⟩
    rw [laws_eqHoleS.l0, if_pos (by omega), if_pos (by omega), if_pos (by omega)]
    unfold laws_eqHole.f
    rw [if_pos rfl, if_pos rfl, if_pos rfl]
    simp only [Option.bind_some, if_true]
    rw [w64 (by omega)]
    exact ih k (i + 1) (by omega) (by omega)
theorem eqHoles_self (l : List S58) (hl : l.length ≤ 1048576) (k : Nat) (hk : l.length < k) : laws_eqHoleS.f k l l = some true := by
  unfold laws_eqHoleS.f
  rw [if_pos rfl]
  exact eqHoles_loop l hl l.length k 0 (by omega) hk

/-- holes with ascending numbers in all their fields -/
def upH (n : Int) : Nat → List S58
  | 0 => []
  | d + 1 => ⟨n, n + 1, n + 2⟩ :: upH (n + 3) d
theorem upH_length (n : Int) (d : Nat) : (upH n d).length = d := by
  induction d generalizing n with
  | zero => rfl
  | succ d ih => simp [upH, ih]
theorem markHoles_loop (d : Nat) : ∀ (k : Nat) (p l : List S58) (n : Int), l.length = d → d < k → p.length + l.length ≤ 1048576 → 1 ≤ n ∧ n ≤ 10000000 + 3 * p.length →
    laws_markHoleS.l0 k (p ++ l) n p.length = some (n + 3 * d, p ++ upH n d) := by
  induction d with
  | zero =>
    intro k p l n hi hk hl hn
    obtain ⟨k, rfl⟩ : ∃ j, k = j + 1 := ⟨k - 1, by omega⟩
    obtain rfl := List.length_eq_zero_iff.1 hi
    rw [laws_markHoleS.l0, if_neg (by simp)]
    simp [upH]
  | succ d ih =>
    intro k p l n hi hk hl hn
    obtain ⟨k, rfl⟩ : ∃ j, k = j + 1 := ⟨k - 1, by omega⟩
    obtain ⟨x, r, rfl⟩ : ∃ x r, l = x :: r := by
      cases l with
      | nil => simp at hi
      | cons x r => exact ⟨x, r, rfl⟩
    simp only [List.length_cons] at hi hl
    have hset : ∀ a b : S58, (p ++ a :: r).set p.length b = p ++ b :: r := fun a b => by
      rw [List.set_append_right _ _ (by omega), Nat.sub_self, List.set_cons_zero]
    have hrd : ∀ a : S58, rd_T58 (p ++ a :: r) (p.length : Int) = a := fun a => by
      rw [rdH_get _ p.length (by simp), List.getElem_append_right (by omega)]; simp
    rw [laws_markHoleS.l0, if_pos (by simp; omega), if_pos (by omega), Int.toNat_natCast]
    simp only [Option.bind_some, hset, hrd]
    rw [w64 (x := n + 1) (by omega), w64 (x := n + 1 + 1) (by omega), w64 (x := n + 1 + 1 + 1) (by omega), w64 (by omega)]
    have := ih k (p ++ [⟨n, n + 1, n + 1 + 1⟩]) r (n + 1 + 1 + 1) (by omega) (by omega) (by simp; omega) (by simp; omega)
    rw [show p ++ (⟨n, n + 1, n + 1 + 1⟩ : S58) :: r = (p ++ [⟨n, n + 1, n + 1 + 1⟩]) ++ r by simp, show ((p.length : Int) + 1) = (((p ++ [(⟨n, n + 1, n + 1 + 1⟩ : S58)]).length : Nat) : Int) by simp, this, upH]
    simp only [List.append_assoc, List.singleton_append]
    rw [show n + 1 + 1 + 1 = n + 3 by omega, show n + 1 + 1 = n + 2 by omega]
    congr 2; omega
theorem markHoles_eq (l : List S58) (hl : l.length ≤ 1048576) (n : Int) (hn : 1 ≤ n ∧ n ≤ 10000000) (k : Nat) (hk : l.length < k) : laws_markHoleS.f k l n = some (n + 3 * (l.length : Int), upH n l.length) := by
  unfold laws_markHoleS.f
  have := markHoles_loop l.length k [] l n rfl hk (by simpa using hl) (by simp; omega)
  simpa using this

theorem heldHoles_loop (d : Nat) : ∀ (k : Nat) (p : List S58) (n : Int), d < k → p.length + d ≤ 1048576 → 1 ≤ n ∧ n ≤ 10000000 + 3 * p.length →
    laws_heldHoleS.l0 k (p ++ upH n d) n p.length = some (n + 3 * d) := by
  induction d with
  | zero =>
    intro k p n hk hl hn
    obtain ⟨k, rfl⟩ : ∃ j, k = j + 1 := ⟨k - 1, by omega⟩
    rw [laws_heldHoleS.l0, if_neg (by simp [upH])]; simp
  | succ d ih =>
    intro k p n hk hl hn
    obtain ⟨k, rfl⟩ : ∃ j, k = j + 1 := ⟨k - 1, by omega⟩
    rw [upH, laws_heldHoleS.l0, if_pos (by simp; omega), if_pos (by omega), rdH_get _ p.length (by simp), List.getElem_append_right (by omega)]
    simp only [Nat.sub_self, List.getElem_cons_zero, if_true]
    rw [w64 (x := n + 1) (by omega), if_pos rfl, w64 (x := n + 1 + 1) (by omega), if_pos (by omega), w64 (x := n + 1 + 1 + 1) (by omega), w64 (by omega)]
    have := ih k (p ++ [⟨n, n + 1, n + 2⟩]) (n + 3) (by omega) (by simp; omega) (by simp; omega)
    rw [show p ++ (⟨n, n + 1, n + 2⟩ : S58) :: upH (n + 3) d = (p ++ [⟨n, n + 1, n + 2⟩]) ++ upH (n + 3) d by simp, show ((p.length : Int) + 1) = (((p ++ [(⟨n, n + 1, n + 2⟩ : S58)]).length : Nat) : Int) by simp, show n + 1 + 1 + 1 = n + 3 by omega, this]
    congr 1; omega
theorem heldHoles_eq (d : Nat) (hl : d ≤ 1048576) (n : Int) (hn : 1 ≤ n ∧ n ≤ 10000000) (k : Nat) (hk : d < k) : laws_heldHoleS.f k (upH n d) n = some (n + 3 * (d : Int)) := by
  unfold laws_heldHoleS.f
  have := heldHoles_loop d k [] n hk (by simpa using hl) (by simp; omega)
  simpa using this

/-- sheets: holes in order, none of a track touching an earlier one -/
def HoleOK (x : S58) : Bool := decide (0 ≤ x.f0 ∧ x.f0 ≤ 19 ∧ 0 ≤ x.f1 ∧ x.f1 < x.f2 ∧ x.f2 ≤ 2000)
def hBefore (a b : S58) : Bool := decide (a.f1 < b.f1 ∨ (a.f1 = b.f1 ∧ a.f0 < b.f0))
def lastOK (p : List S58) (x : S58) : Bool := match p.getLast? with
  | none => true
  | some y => hBefore y x
def apartOK (p : List S58) (x : S58) : Bool := p.all fun y => !(decide (x.f0 = y.f0) && decide (y.f2 ≥ x.f1))
def chkSheet (p : List S58) : List S58 → Bool
  | [] => true
  | x :: r => HoleOK x && lastOK p x && apartOK p x && chkSheet (p ++ [x]) r
def SheetB (l : List S58) : Bool := chkSheet [] l && decide (l.length ≤ 60)
def fuelH (i : Nat) : Nat → Nat
  | 0 => 1
  | d + 1 => i + 3 + fuelH (i + 1) d
theorem lastOK_take (l : List S58) (i : Nat) (h : i + 1 < l.length) : lastOK (l.take (i + 1)) l[i + 1] = hBefore l[i] l[i + 1] := by
  unfold lastOK
  rw [List.take_succ_eq_append_getElem (show i < l.length by omega), List.getLast?_concat]

theorem specSheet_row (l : List S58) (x7 : List S58) (x8 x9 a b c : Int) (p : List S58) (hp : p.length ≤ 1048576) (x : S58) (hx : x = ⟨a, b, c⟩) (d : Nat) : ∀ (k j : Nat), j + d = p.length →
    spec_shGood.l1 (k + d + 1) l x7 x8 x9 p p.length j a b c = if apartOK (p.drop j) x then spec_shGood.l0 k l x7 x8 (wrap64 (x9 + 1)) else some false := by
  induction d with
  | zero =>
    intro k j hj
    rw [spec_shGood.l1, if_neg (by omega), List.drop_of_length_le (by omega)]
    rfl
  | succ d ih =>
    intro k j hj
    subst hx
    rw [spec_shGood.l1, if_pos (by omega), if_pos (by omega), if_pos (by omega), rdH_get p j (by omega), drop_get p j (by omega), w64 (by omega), show k + (d + 1) = k + d + 1 by omega, show ((j : Int) + 1) = ((j + 1 : Nat) : Int) by omega, ih k (j + 1) (by omega)]
    unfold apartOK
    rw [List.all_cons]
    by_cases h1 : a = p[j].f0
    · by_cases h2 : p[j].f2 ≥ b
      · rw [if_pos (by omega), if_pos h2]; simp [h1, h2]
      · rw [if_pos (by omega), if_neg h2]; simp [h1, h2]
    · rw [if_neg (by omega)]; simp [h1]
theorem shHole_eq (a b c : Int) : spec_shHole.f a b c = some (HoleOK ⟨a, b, c⟩) := by
  unfold spec_shHole.f HoleOK
  simp only [in_eq, Option.bind_some, decide_eq_true_eq]
  split
  · split
    · rw [w64 (by omega)]; exact someD (by omega)
    · exact someF (by omega)
  · exact someF (by omega)
theorem shBefore_eq (a b c a' b' c' : Int) : spec_shBefore.f a b c a' b' c' = some (hBefore ⟨a, b, c⟩ ⟨a', b', c'⟩) := by
  unfold spec_shBefore.f hBefore
  simp only []
  split
  · rw [decide_eq_true (by omega)]
  · split
    · exact someD (by omega)
    · exact someF (by omega)
theorem specSheet_loop (l : List S58) (hl : l.length ≤ 1048576) (d : Nat) : ∀ (k i : Nat), i + d = l.length → fuelH i d ≤ k →
    spec_shGood.l0 k l l l.length i = some (chkSheet (l.take i) (l.drop i) && decide (l.length ≤ 60)) := by
  induction d with
  | zero =>
    intro k i hi hk
    unfold fuelH at hk
    obtain ⟨k, rfl⟩ : ∃ j, k = j + 1 := ⟨k - 1, by omega⟩
    rw [spec_shGood.l0, if_neg (by omega), List.drop_of_length_le (by omega)]
    unfold chkSheet
    rw [Bool.true_and]
    exact someD (by omega)
  | succ d ih =>
    intro k i hi hk
    unfold fuelH at hk
    obtain ⟨j, rfl⟩ : ∃ j, k = j + i + 1 + 1 + 1 := ⟨k - i - 3, by omega⟩
    have ht : (l.take i).length = i := by rw [List.length_take]; omega
    have e2 : wrap64 ((i : Int) + 1) = ((i + 1 : Nat) : Int) := by rw [w64 (by omega)]; omega
    rw [spec_shGood.l0, if_pos (by omega), if_pos (by omega), if_pos (by omega), rdH_get l i (by omega), shHole_eq, drop_get l i (by omega), chkSheet]
    simp only [Option.bind_some]
    have hj : ∀ flag : Bool, spec_shGood.j1 (j + i + 1 + 1) l i l l.length i flag l[i].f0 l[i].f1 l[i].f2 = if flag then some false else if apartOK (l.take i) l[i] then spec_shGood.l0 j l l l.length ((i + 1 : Nat) : Int) else some false := by
      intro flag
      rw [spec_shGood.j1]
      cases flag
      · simp only [Bool.false_eq_true, if_false]
        rw [if_pos (by omega), if_pos (by omega), Int.toNat_natCast]
        simp only [Option.bind_some]
        have := specSheet_row l l l.length i l[i].f0 l[i].f1 l[i].f2 (l.take i) (by omega) l[i] rfl i j 0 (by omega)
        rw [List.drop_zero, e2] at this
        exact this
      · simp only [if_true]
    have hrec := ih j (i + 1) (by omega) (by omega)
    rw [List.take_succ_eq_append_getElem (show i < l.length by omega)] at hrec
    by_cases h1 : HoleOK l[i] = true
    · rw [if_pos h1, h1]
      rcases Nat.eq_zero_or_pos i with h0 | h0
      · subst h0
        rw [if_neg (by omega), hj false]
        simp only [Bool.false_eq_true, if_false]
        rw [hrec]
        simp [lastOK, apartOK]
      · obtain ⟨m, rfl⟩ : ∃ m, i = m + 1 := ⟨i - 1, by omega⟩
        have e1 : wrap64 (((m + 1 : Nat) : Int) - 1) = (m : Int) := by rw [w64 (by omega)]; omega
        rw [if_pos (by omega), e1, if_pos (by omega), if_pos (by omega), rdH_get l m (by omega), shBefore_eq]
        simp only [Option.bind_some]
        rw [hj, hrec, lastOK_take l m (by omega)]
        cases hb : hBefore l[m] l[m + 1]
        · simp [hb]
        · cases ha : apartOK (l.take (m + 1)) l[m + 1] <;> simp [hb]
    · rw [if_neg h1, Bool.eq_false_iff.2 h1, hj]; simp
theorem shGood_eq (l : List S58) (hl : l.length ≤ 1048576) (k : Nat) (hk : fuelH 0 l.length ≤ k) : spec_shGood.f k l = some (SheetB l) := by
  unfold spec_shGood.f SheetB
  have := specSheet_loop l hl l.length k 0 (by omega) hk
  rw [List.drop_zero, List.take_zero] at this
  exact this

theorem implSheet_row (l : List S58) (x7 : List S58) (x8 x9 a b c : Int) (p : List S58) (hp : p.length ≤ 1048576) (x : S58) (hx : x = ⟨a, b, c⟩) (d : Nat) : ∀ (k j : Nat), j + d = p.length →
    impl_IsSheet.l1 (k + d + 1) l x7 x8 x9 p p.length j a b c = if apartOK (p.drop j) x then impl_IsSheet.l0 k l x7 x8 (wrap64 (x9 + 1)) else some false := by
  induction d with
  | zero =>
    intro k j hj
    rw [impl_IsSheet.l1, if_neg (by omega), List.drop_of_length_le (by omega)]
    rfl
  | succ d ih =>
    intro k j hj
    subst hx
    rw [impl_IsSheet.l1, if_pos (by omega), if_pos (by omega), if_pos (by omega), rdH_get p j (by omega), drop_get p j (by omega), w64 (by omega), show k + (d + 1) = k + d + 1 by omega, show ((j : Int) + 1) = ((j + 1 : Nat) : Int) by omega, ih k (j + 1) (by omega)]
    unfold apartOK
    rw [List.all_cons]
    by_cases h1 : a = p[j].f0
    · by_cases h2 : p[j].f2 ≥ b
      · rw [if_pos (by omega), if_pos h2]; simp [h1, h2]
      · rw [if_pos (by omega), if_neg h2]; simp [h1, h2]
    · rw [if_neg (by omega)]; simp [h1]
theorem isHole_eq (a b c : Int) : impl_IsHole.f a b c = some (HoleOK ⟨a, b, c⟩) := by
  have ht : impl_isTrack.f a = some (decide (0 ≤ a ∧ a ≤ 19)) := by
    unfold impl_isTrack.f
    split
    · exact someD (by omega)
    · exact someF (by omega)
  unfold impl_IsHole.f HoleOK
  rw [ht]
  simp only [Option.bind_some, decide_eq_true_eq]
  repeat' split
  all_goals first
    | exact someF (by omega)
    | exact someD (by omega)
theorem holeLess_eq (a b c a' b' c' : Int) : impl_holeLess.f a b c a' b' c' = some (hBefore ⟨a, b, c⟩ ⟨a', b', c'⟩) := by
  unfold impl_holeLess.f hBefore
  simp only []
  split
  · exact someD (by omega)
  · exact someD (by omega)
theorem implSheet_loop (l : List S58) (hl : l.length ≤ 1048576) (d : Nat) : ∀ (k i : Nat), i + d = l.length → fuelH i d ≤ k →
    impl_IsSheet.l0 k l l l.length i = some (chkSheet (l.take i) (l.drop i)) := by
  induction d with
  | zero =>
    intro k i hi hk
    unfold fuelH at hk
    obtain ⟨k, rfl⟩ : ∃ j, k = j + 1 := ⟨k - 1, by omega⟩
    rw [impl_IsSheet.l0, if_neg (by omega), List.drop_of_length_le (by omega)]
    rfl
  | succ d ih =>
    intro k i hi hk
    unfold fuelH at hk
    obtain ⟨j, rfl⟩ : ∃ j, k = j + i + 1 + 1 + 1 := ⟨k - i - 3, by omega⟩
    have ht : (l.take i).length = i := by rw [List.length_take]; omega
    have e2 : wrap64 ((i : Int) + 1) = ((i + 1 : Nat) : Int) := by rw [w64 (by omega)]; omega
    rw [impl_IsSheet.l0, if_pos (by omega), if_pos (by omega), if_pos (by omega), rdH_get l i (by omega), isHole_eq, drop_get l i (by omega), chkSheet]
    simp only [Option.bind_some]
    have hj : ∀ flag : Bool, impl_IsSheet.j1 (j + i + 1 + 1) l i l l.length i flag l[i].f0 l[i].f1 l[i].f2 = if flag then some false else if apartOK (l.take i) l[i] then impl_IsSheet.l0 j l l l.length ((i + 1 : Nat) : Int) else some false := by
      intro flag
      rw [impl_IsSheet.j1]
      cases flag
      · simp only [Bool.false_eq_true, if_false]
        rw [if_pos (by omega), if_pos (by omega), Int.toNat_natCast]
        simp only [Option.bind_some]
        have := implSheet_row l l l.length i l[i].f0 l[i].f1 l[i].f2 (l.take i) (by omega) l[i] rfl i j 0 (by omega)
        rw [List.drop_zero, e2] at this
        exact this
      · simp only [if_true]
    have hrec := ih j (i + 1) (by omega) (by omega)
    rw [List.take_succ_eq_append_getElem (show i < l.length by omega)] at hrec
    by_cases h1 : HoleOK l[i] = true
    · rw [if_pos h1, h1]
      rcases Nat.eq_zero_or_pos i with h0 | h0
      · subst h0
        rw [if_neg (by omega), hj false]
        simp only [Bool.false_eq_true, if_false]
        rw [hrec]
        simp [lastOK, apartOK]
      · obtain ⟨m, rfl⟩ : ∃ m, i = m + 1 := ⟨i - 1, by omega⟩
        have e1 : wrap64 (((m + 1 : Nat) : Int) - 1) = (m : Int) := by rw [w64 (by omega)]; omega
        rw [if_pos (by omega), e1, if_pos (by omega), if_pos (by omega), rdH_get l m (by omega), holeLess_eq]
        simp only [Option.bind_some]
        rw [hj, hrec, lastOK_take l m (by omega)]
        cases hb : hBefore l[m] l[m + 1]
        · simp [hb]
        · cases ha : apartOK (l.take (m + 1)) l[m + 1] <;> simp [hb]
    · rw [if_neg h1, Bool.eq_false_iff.2 h1, hj]; simp
theorem isSheet_eq (l : List S58) (hl : l.length ≤ 1048576) (k : Nat) (hk : fuelH 0 l.length ≤ k) : impl_IsSheet.f k l = some (SheetB l) := by
  unfold impl_IsSheet.f SheetB
  by_cases h : l.length ≤ 60
  · have := implSheet_loop l hl l.length k 0 (by omega) hk
    rw [List.drop_zero, List.take_zero] at this
    rw [if_neg (by omega), decide_eq_true h, Bool.and_true]
    exact this
  · rw [if_pos (by omega), decide_eq_false h, Bool.and_false]

/-- with enough rounds the answer is r -/
def Evn {α : Type} (g : Nat → Option α) (r : α) : Prop := ∃ K, ∀ k, K ≤ k → g k = some r
theorem Evn.const {α : Type} {g : Nat → Option α} {r : α} (h : ∀ k, g k = some r) : Evn g r := ⟨0, fun k _ => h k⟩
theorem Evn.ge {α : Type} {g : Nat → Option α} {r : α} (K : Nat) (h : ∀ k, K ≤ k → g k = some r) : Evn g r := ⟨K, h⟩
theorem Evn.step {α : Type} {g h : Nat → Option α} {r : α} (hs : ∀ k, g (k + 1) = h k) (e : Evn h r) : Evn g r := by
  obtain ⟨K, hK⟩ := e
  refine ⟨K + 1, fun k hk => ?_⟩
  obtain ⟨j, rfl⟩ : ∃ j, k = j + 1 := ⟨k - 1, by omega⟩
  rw [hs]
  exact hK j (by omega)
theorem Evn.congr {α : Type} {g h : Nat → Option α} {r : α} (hs : ∀ k, g k = h k) (e : Evn h r) : Evn g r := by
  obtain ⟨K, hK⟩ := e
  exact ⟨K, fun k hk => by rw [hs]; exact hK k hk⟩
theorem Evn.bind {α β : Type} {g : Nat → Option α} {a : α} {h : Nat → α → Option β} {r : β} (e : Evn g a) (e2 : Evn (fun k => h k a) r) : Evn (fun k => (g k).bind (h k)) r := by
  obtain ⟨K, hK⟩ := e
  obtain ⟨M, hM⟩ := e2
  refine ⟨K + M, fun k hk => ?_⟩
  simp only []
  rw [hK k (by omega), Option.bind_some]
  exact hM k (by omega)
theorem Evn.both {α β : Type} {g : Nat → Option α} {h : Nat → Option β} {r : α} {q : β} (e : Evn g r) (f : Evn h q) : ∃ K, ∀ k, K ≤ k → g k = some r ∧ h k = some q := by
  obtain ⟨K, hK⟩ := e
  obtain ⟨M, hM⟩ := f
  exact ⟨K + M, fun k hk => ⟨hK k (by omega), hM k (by omega)⟩⟩

/-- which steps of which tracks holes cover -/
def Cov (L : List S58) (t s : Int) : Prop := ∃ h ∈ L, h.f0 = t ∧ h.f1 ≤ s ∧ s < h.f2
def Apart (a b : S58) : Prop := a.f0 < b.f0 ∨ (a.f0 = b.f0 ∧ a.f2 < b.f1)
/-- holes track after track, none touching another one -/
def Norm (L : List S58) : Prop := L.Pairwise Apart ∧ ∀ h ∈ L, h.f1 < h.f2
theorem norm_nil : Norm [] := ⟨List.Pairwise.nil, fun h hh => by simp at hh⟩
theorem cov_nil (t s : Int) : ¬ Cov [] t s := fun ⟨h, hh, _⟩ => by simp at hh
theorem cov_cons (a : S58) (L : List S58) (t s : Int) : Cov (a :: L) t s ↔ (a.f0 = t ∧ a.f1 ≤ s ∧ s < a.f2) ∨ Cov L t s := by
  unfold Cov
  constructor
  · rintro ⟨h, hh, hc⟩
    rcases List.mem_cons.1 hh with rfl | hh
    · exact Or.inl hc
    · exact Or.inr ⟨h, hh, hc⟩
  · rintro (hc | ⟨h, hh, hc⟩)
    · exact ⟨a, List.mem_cons_self, hc⟩
    · exact ⟨h, List.mem_cons_of_mem _ hh, hc⟩
theorem cov_append (A B : List S58) (t s : Int) : Cov (A ++ B) t s ↔ Cov A t s ∨ Cov B t s := by
  induction A with
  | nil => simp [cov_nil]
  | cons a A ih => rw [List.cons_append, cov_cons, cov_cons, ih, or_assoc]
theorem norm_cons {a : S58} {L : List S58} (h : Norm (a :: L)) : (∀ b ∈ L, Apart a b) ∧ a.f1 < a.f2 ∧ Norm L := by
  obtain ⟨h1, h2⟩ := h
  rw [List.pairwise_cons] at h1
  exact ⟨h1.1, h2 a List.mem_cons_self, h1.2, fun x hx => h2 x (List.mem_cons_of_mem _ hx)⟩
/-- what is covered lies behind the first hole's begin -/
theorem norm_first {a : S58} {L : List S58} (h : Norm (a :: L)) {t s : Int} (hc : Cov (a :: L) t s) : a.f0 < t ∨ (a.f0 = t ∧ a.f1 ≤ s) := by
  obtain ⟨h1, h2, h3⟩ := norm_cons h
  rcases (cov_cons _ _ _ _).1 hc with ⟨e, e1, e2⟩ | ⟨b, hb, e, e1, e2⟩
  · exact Or.inr ⟨e, e1⟩
  · rcases h1 b hb with g | ⟨g1, g2⟩
    · exact Or.inl (by omega)
    · exact Or.inr ⟨by omega, by omega⟩
theorem norm_end {a : S58} {L : List S58} (h : Norm (a :: L)) : ¬ Cov (a :: L) a.f0 a.f2 := by
  obtain ⟨h1, h2, h3⟩ := norm_cons h
  intro hc
  rcases (cov_cons _ _ _ _).1 hc with ⟨e, e1, e2⟩ | ⟨b, hb, e, e1, e2⟩
  · omega
  · rcases h1 b hb with g | ⟨g1, g2⟩
    · omega
    · omega
theorem norm_rest {a : S58} {L : List S58} (h : Norm (a :: L)) (t s : Int) : Cov L t s ↔ Cov (a :: L) t s ∧ ¬ (a.f0 = t ∧ a.f1 ≤ s ∧ s < a.f2) := by
  obtain ⟨h1, h2, h3⟩ := norm_cons h
  rw [cov_cons]
  constructor
  · rintro ⟨b, hb, e, e1, e2⟩
    refine ⟨Or.inr ⟨b, hb, e, e1, e2⟩, ?_⟩
    rcases h1 b hb with g | ⟨g1, g2⟩
    · omega
    · omega
  · rintro ⟨hc | hc, hn⟩
    · exact absurd hc hn
    · exact hc
/-- two such lists that cover the same are the same -/
theorem norm_unique : ∀ (L M : List S58), Norm L → Norm M → (∀ t s, Cov L t s ↔ Cov M t s) → L = M
  | [], [], _, _, _ => rfl
  | [], b :: M, _, hM, hc => by
    have h := norm_cons hM
    exact absurd ((hc b.f0 b.f1).2 ⟨b, List.mem_cons_self, rfl, Int.le_refl _, h.2.1⟩) (cov_nil _ _)
  | a :: L, [], hL, _, hc => by
    have h := norm_cons hL
    exact absurd ((hc a.f0 a.f1).1 ⟨a, List.mem_cons_self, rfl, Int.le_refl _, h.2.1⟩) (cov_nil _ _)
  | a :: L, b :: M, hL, hM, hc => by
    have ha := norm_cons hL
    have hb := norm_cons hM
    have ca : Cov (a :: L) a.f0 a.f1 := ⟨a, List.mem_cons_self, rfl, Int.le_refl _, ha.2.1⟩
    have cb : Cov (b :: M) b.f0 b.f1 := ⟨b, List.mem_cons_self, rfl, Int.le_refl _, hb.2.1⟩
    have l1 := norm_first hM ((hc _ _).1 ca)
    have l2 := norm_first hL ((hc _ _).2 cb)
    have e0 : a.f0 = b.f0 := by omega
    have e1 : a.f1 = b.f1 := by omega
    have e2 : a.f2 = b.f2 := by
      rcases Int.lt_trichotomy a.f2 b.f2 with h | h | h
      · refine absurd ((hc a.f0 a.f2).2 ⟨b, List.mem_cons_self, e0.symm, ?_, h⟩) (norm_end hL)
        have := ha.2.1
        omega
      · exact h
      · refine absurd ((hc b.f0 b.f2).1 ⟨a, List.mem_cons_self, e0, ?_, h⟩) (norm_end hM)
        have := hb.2.1
        omega
    have e : a = b := by
      obtain ⟨a0, a1, a2⟩ := a
      obtain ⟨b0, b1, b2⟩ := b
      simp only at e0 e1 e2
      rw [e0, e1, e2]
    subst e
    rw [norm_unique L M ha.2.2 hb.2.2 (fun t s => by rw [norm_rest hL, norm_rest hM, hc])]
/-- a hole's piece behind what is there: the last hole is made longer, or a new one begins -/
def mg (L : List S58) (t a b : Int) : List S58 := match L.getLast? with
  | none => [⟨t, a, b⟩]
  | some h => if h.f0 = t ∧ a ≤ h.f2 then L.dropLast ++ [⟨h.f0, h.f1, mx h.f2 b⟩] else L ++ [⟨t, a, b⟩]
theorem norm_append {L : List S58} {x : S58} : Norm (L ++ [x]) ↔ Norm L ∧ (∀ h ∈ L, Apart h x) ∧ x.f1 < x.f2 := by
  unfold Norm
  rw [List.pairwise_append]
  constructor
  · rintro ⟨⟨h1, _, h3⟩, h4⟩
    exact ⟨⟨h1, fun h hh => h4 h (List.mem_append_left _ hh)⟩, fun h hh => h3 h hh x (List.mem_singleton.2 rfl), h4 x (List.mem_append_right _ (List.mem_singleton.2 rfl))⟩
  · rintro ⟨⟨h1, h2⟩, h3, h4⟩
    refine ⟨⟨h1, List.pairwise_singleton _ _, fun h hh y hy => by obtain rfl := List.mem_singleton.1 hy; exact h3 h hh⟩, fun h hh => ?_⟩
    rcases List.mem_append.1 hh with hh | hh
    · exact h2 h hh
    · obtain rfl := List.mem_singleton.1 hh; exact h4
theorem mg_ok (L : List S58) (t a b : Int) (hL : Norm L) (hab : a < b) (hb : ∀ h ∈ L, h.f0 < t ∨ (h.f0 = t ∧ h.f1 ≤ a)) :
    Norm (mg L t a b) ∧ (∀ t' s, Cov (mg L t a b) t' s ↔ Cov L t' s ∨ (t = t' ∧ a ≤ s ∧ s < b)) ∧ (∀ h ∈ mg L t a b, h.f0 < t ∨ (h.f0 = t ∧ h.f1 ≤ a)) ∧ (mg L t a b).length ≤ L.length + 1 := by
  unfold mg
  rcases List.eq_nil_or_concat L with rfl | ⟨I, x, hIx⟩
  · rw [List.getLast?_nil]
    refine ⟨⟨List.pairwise_singleton _ _, fun h hh => by obtain rfl := List.mem_singleton.1 hh; exact hab⟩, fun t' s => by rw [cov_cons, or_comm], fun h hh => by obtain rfl := List.mem_singleton.1 hh; exact Or.inr ⟨rfl, Int.le_refl _⟩, by simp⟩
  · rw [List.concat_eq_append] at hIx
    subst hIx
    rw [List.getLast?_concat]
    obtain ⟨n1, n2, n3⟩ := norm_append.1 hL
    have hx := hb x (List.mem_append_right _ (List.mem_singleton.2 rfl))
    have hI : ∀ h ∈ I, h.f0 < t ∨ (h.f0 = t ∧ h.f1 ≤ a) := fun h hh => hb h (List.mem_append_left _ hh)
    by_cases hc : x.f0 = t ∧ a ≤ x.f2
    · simp only [if_pos hc, List.dropLast_concat]
      have hm : mx x.f2 b = x.f2 ∧ b ≤ x.f2 ∨ mx x.f2 b = b ∧ x.f2 ≤ b := by unfold mx; omega
      refine ⟨norm_append.2 ⟨n1, n2, by simp only; omega⟩, fun t' s => ?_, fun h hh => ?_, by simp⟩
      · rw [cov_append, cov_append, cov_cons, cov_cons]
        simp only [cov_nil, or_false]
        constructor
        · rintro (h | h)
          · exact Or.inl (Or.inl h)
          · by_cases g : s < x.f2
            · exact Or.inl (Or.inr ⟨h.1, h.2.1, g⟩)
            · exact Or.inr ⟨by omega, by omega, by omega⟩
        · rintro ((h | h) | h)
          · exact Or.inl h
          · exact Or.inr ⟨h.1, h.2.1, by omega⟩
          · exact Or.inr ⟨by omega, by omega, by omega⟩
      · rcases List.mem_append.1 hh with hh | hh
        · exact hI h hh
        · obtain rfl := List.mem_singleton.1 hh
          simp only
          omega
    · simp only [if_neg hc]
      refine ⟨norm_append.2 ⟨hL, fun h hh => ?_, hab⟩, fun t' s => ?_, fun h hh => ?_, by simp⟩
      · unfold Apart
        simp only
        rcases List.mem_append.1 hh with hh | hh
        · have g1 := hI h hh
          have g2 := n2 h hh
          unfold Apart at g2
          omega
        · obtain rfl := List.mem_singleton.1 hh
          omega
      · rw [cov_append, cov_cons]
        simp only [cov_nil, or_false]
      · rcases List.mem_append.1 hh with hh | hh
        · exact hb h hh
        · obtain rfl := List.mem_singleton.1 hh
          exact Or.inr ⟨rfl, Int.le_refl _⟩

theorem pair_mem {α : Type} {R : α → α → Prop} : ∀ {L : List α}, L.Pairwise R → ∀ a ∈ L, ∀ b ∈ L, a = b ∨ R a b ∨ R b a
  | [], _, a, ha, _, _ => by simp at ha
  | x :: L, h, a, ha, b, hb => by
    rw [List.pairwise_cons] at h
    rcases List.mem_cons.1 ha with e1 | h1
    · rcases List.mem_cons.1 hb with e2 | h2
      · exact Or.inl (e1.trans e2.symm)
      · exact Or.inr (Or.inl (e1 ▸ h.1 b h2))
    · rcases List.mem_cons.1 hb with e2 | h2
      · exact Or.inr (Or.inr (e2 ▸ h.1 a h1))
      · exact pair_mem h.2 a h1 b h2
theorem lt_before (a b : S58) : impl_holeLt a b = hBefore a b := rfl
theorem norm_keys {L : List S58} (h : Norm L) : ∀ a ∈ L, ∀ b ∈ L, impl_holeLt a b = false → impl_holeLt b a = false → a = b := by
  intro a ha b hb h1 h2
  unfold impl_holeLt at h1 h2
  have h1 := of_decide_eq_false h1
  have h2 := of_decide_eq_false h2
  rcases pair_mem h.1 a ha b hb with e | e | e
  · exact e
  · have := h.2 a ha
    unfold Apart at e
    omega
  · have := h.2 b hb
    unfold Apart at e
    omega
/-- holes in order -/
def inOrder (L : List S58) : List S58 := L.mergeSort (fun a b => !impl_holeLt b a)
/-- a sheet of holes, if they are one -/
def shOf (L : List S58) : List S58 × Bool := if SheetB (inOrder L) then (inOrder L, true) else ([], false)
theorem inOrder_length (L : List S58) : (inOrder L).length = L.length := by unfold inOrder; exact (List.mergeSort_perm _ _).length_eq
theorem sortHoles_eq {L : List S58} (h : Norm L) (hl : L.length ≤ 1048576) : impl_sortHoles.f L = some (inOrder L) := by
  unfold impl_sortHoles.f inOrder
  rw [if_pos ⟨by omega, fun a ha b hb h1 h2 => by rw [norm_keys h a ha b hb h1 h2]; exact ⟨rfl, rfl, rfl⟩⟩]
theorem order_facts {L : List S58} (h : Norm L) (hl : L.length ≤ 1048576) {M : List S58} (hp : M.Perm L) (hs : M.Pairwise (fun a b => impl_holeLt b a = false)) : M = inOrder L := impl_sortHoles.uniq (sortHoles_eq h hl) hp hs
theorem short_no (L : List S58) (h : 60 < L.length) : SheetB (inOrder L) = false := by
  unfold SheetB
  rw [inOrder_length, decide_eq_false (by omega), Bool.and_false]
theorem sheetOf_eq {L : List S58} (h : Norm L) (hl : L.length ≤ 1048576) (k : Nat) (hk : fuelH 0 L.length ≤ k) : impl_sheetOf.f k L = some (shOf L) := by
  unfold impl_sheetOf.f shOf
  by_cases h60 : (L.length : Int) > 60
  · rw [if_pos h60, short_no L (by omega)]
    rfl
  · rw [if_neg h60]
    unfold slices_Clone_Hole.f
    rw [if_pos (by omega)]
    simp only [Option.bind_some]
    rw [sortHoles_eq h hl]
    simp only [Option.bind_some]
    rw [isSheet_eq _ (by rw [inOrder_length]; exact hl) k (by rw [inOrder_length]; exact hk)]
    simp only [Option.bind_some]
    cases SheetB (inOrder L) <;> rfl

def NotAfter (a b : S58) : Prop := impl_holeLt b a = false
theorem insert_order {out : List S58} {x : S58} (ho : out.Pairwise NotAfter) (j : Nat) (hj : j ≤ out.length) (h1 : ∀ i, j ≤ i → ∀ h : i < out.length, hBefore x out[i] = true) (h2 : ∀ h : 0 < j, hBefore x (out[j - 1]'(by omega)) = false) :
    (out.take j ++ [x] ++ out.drop j).Pairwise NotAfter := by
  have hO := impl_holeLt.swo
  rw [List.append_assoc, List.pairwise_append]
  refine ⟨ho.sublist (List.take_sublist _ _), ?_, ?_⟩
  · rw [List.singleton_append, List.pairwise_cons]
    refine ⟨fun y hy => ?_, ho.sublist (List.drop_sublist _ _)⟩
    obtain ⟨i, hi, rfl⟩ := List.mem_iff_getElem.1 hy
    rw [List.length_drop] at hi
    rw [List.getElem_drop]
    have := h1 (j + i) (by omega) (by omega)
    unfold NotAfter
    rw [lt_before]
    unfold hBefore at *
    have := of_decide_eq_true this
    exact decide_eq_false (by omega)
  · intro a ha y hy
    obtain ⟨i, hi, rfl⟩ := List.mem_iff_getElem.1 ha
    rw [List.length_take] at hi
    rw [List.getElem_take]
    have hj0 : 0 < j := by omega
    have e2 := h2 hj0
    -- what lies ahead is not after x
    have ea : NotAfter out[i] x := by
      unfold NotAfter
      rw [lt_before]
      by_cases he : i = j - 1
      · subst he; exact e2
      · have := (List.pairwise_iff_getElem.1 ho) i (j - 1) (by omega) (by omega) (by omega)
        exact hO.ntrans _ _ _ e2 this
    rcases List.mem_cons.1 (by simpa using hy) with rfl | hy
    · exact ea
    · obtain ⟨q, hq, rfl⟩ := List.mem_iff_getElem.1 hy
      rw [List.length_drop] at hq
      rw [List.getElem_drop]
      exact (List.pairwise_iff_getElem.1 ho) i (j + q) (by omega) (by omega) (by omega)
theorem insert_perm {α : Type} (out : List α) (x : α) (j : Nat) : (out.take j ++ [x] ++ out.drop j).Perm (out ++ [x]) := by
  rw [List.append_assoc]
  have h1 : (out.take j ++ ([x] ++ out.drop j)).Perm (out.take j ++ (out.drop j ++ [x])) := (List.perm_append_comm).append_left _
  refine h1.trans ?_
  rw [← List.append_assoc, List.take_append_drop]
/-- the place of a further hole -/
theorem place_loop (out l : List S58) (hl : out.length ≤ 1048576) (x : S58) (n i : Int) {r : List S58 × Bool}
    (hk : ∀ j (_hj : j ≤ out.length), (∀ q, j ≤ q → ∀ h : q < out.length, hBefore x out[q] = true) → (∀ h : 0 < j, hBefore x (out[j - 1]'(by omega)) = false) →
      Evn (fun k => spec_shSorted.l0 k (out.take j ++ [x] ++ out.drop j) l n (wrap64 (i + 1))) r) :
    ∀ p, p ≤ out.length → (∀ q, p ≤ q → ∀ h : q < out.length, hBefore x out[q] = true) → Evn (fun k => spec_shSorted.l1 k out p l n i x.f0 x.f1 x.f2) r := by
  intro p
  induction p with
  | zero =>
    intro hp ha
    refine Evn.step (h := fun k => spec_shSorted.l0 k (out.take 0 ++ [x] ++ out.drop 0) l n (wrap64 (i + 1))) (fun k => ?_) (hk 0 (by omega) ha (fun h => absurd h (by omega)))
    rw [spec_shSorted.l1, if_neg (by simp)]
    simp only [Option.bind_some]
    rw [if_pos (by omega), if_pos (by omega)]
    simp only [Int.toNat_natCast, List.nil_append]
    rw [if_pos (by simp), if_pos (by simp), if_pos (by simp; omega)]
  | succ p ih =>
    intro hp ha
    have e1 : wrap64 (((p + 1 : Nat) : Int) - 1) = (p : Int) := by rw [w64 (by omega)]; omega
    by_cases hb : hBefore x (out[p]'(by omega)) = true
    · refine Evn.step (h := fun k => spec_shSorted.l1 k out p l n i x.f0 x.f1 x.f2) (fun k => ?_) (ih (by omega) (fun q hq h => ?_))
      · rw [spec_shSorted.l1, if_pos (by omega), e1, if_pos (by omega), if_pos (by omega), rdH_get out p (by omega), shBefore_eq]
        simp only [Option.bind_some]
        rw [hb, if_pos rfl]
      · by_cases hq' : q = p
        · subst hq'; exact hb
        · exact ha q (by omega) h
    · have hb' : hBefore x (out[p]'(by omega)) = false := Bool.eq_false_iff.2 hb
      refine Evn.step (h := fun k => spec_shSorted.l0 k (out.take (p + 1) ++ [x] ++ out.drop (p + 1)) l n (wrap64 (i + 1))) (fun k => ?_) (hk (p + 1) hp ha (fun _ => hb'))
      rw [spec_shSorted.l1, if_pos (by omega), e1, if_pos (by omega), if_pos (by omega), rdH_get out p (by omega), shBefore_eq]
      simp only [Option.bind_some]
      rw [hb', if_neg (by decide), if_pos (by omega), if_pos (by omega)]
      simp only [Int.toNat_natCast, List.nil_append]
      rw [if_pos (by simp; omega), if_pos (by simp; omega), if_pos (by simp; omega)]
theorem shSorted_loop (l : List S58) (hl : l.length ≤ 1048576) (d : Nat) : ∀ (i : Nat) (out : List S58), i + d = l.length → out.Perm (l.take i) → out.Pairwise NotAfter →
    ∃ M, M.Perm l ∧ M.Pairwise NotAfter ∧ Evn (fun k => spec_shSorted.l0 k out l l.length i) (if SheetB M then (M, true) else ([], false)) := by
  induction d with
  | zero =>
    intro i out hi hp hs
    have hn : l.take i = l := List.take_of_length_le (by omega)
    rw [hn] at hp
    have hol := hp.length_eq
    refine ⟨out, hp, hs, fuelH 0 out.length + 1, fun k hk => ?_⟩
    obtain ⟨k, rfl⟩ : ∃ j, k = j + 1 := ⟨k - 1, by omega⟩
    simp only []
    rw [spec_shSorted.l0, if_neg (by omega), shGood_eq out (by omega) k (by omega)]
    simp only [Option.bind_some]
    cases SheetB out <;> rfl
  | succ d ih =>
    intro i out hi hp hs
    have hol : out.length = i := by rw [hp.length_eq, List.length_take]; omega
    have hi' : i < l.length := by omega
    -- which place it comes to doesn't matter: each is in order
    have ht : l.take (i + 1) = l.take i ++ [l[i]] := List.take_succ_eq_append_getElem hi'
    have hnext : ∀ j (_hj : j ≤ out.length), (∀ q, j ≤ q → ∀ h : q < out.length, hBefore l[i] out[q] = true) → (∀ h : 0 < j, hBefore l[i] (out[j - 1]'(by omega)) = false) →
        (out.take j ++ [l[i]] ++ out.drop j).Perm (l.take (i + 1)) ∧ (out.take j ++ [l[i]] ++ out.drop j).Pairwise NotAfter := fun j hj h1 h2 =>
      ⟨(insert_perm out l[i] j).trans (by rw [ht]; exact hp.append_right _), insert_order hs j hj h1 h2⟩
    obtain ⟨j0, hj0, a0, b0⟩ : ∃ j, ∃ hj : j ≤ out.length, (∀ q, j ≤ q → ∀ h : q < out.length, hBefore l[i] out[q] = true) ∧ (∀ h : 0 < j, hBefore l[i] (out[j - 1]'(by omega)) = false) := by
      have : ∀ p, p ≤ out.length → (∀ q, p ≤ q → ∀ h : q < out.length, hBefore l[i] out[q] = true) → ∃ j, ∃ hj : j ≤ out.length, (∀ q, j ≤ q → ∀ h : q < out.length, hBefore l[i] out[q] = true) ∧ (∀ h : 0 < j, hBefore l[i] (out[j - 1]'(by omega)) = false) := by
        intro p
        induction p with
        | zero => intro hp' ha; exact ⟨0, by omega, ha, fun h => absurd h (by omega)⟩
        | succ p ihp =>
          intro hp' ha
          by_cases hb : hBefore l[i] (out[p]'(by omega)) = true
          · refine ihp (by omega) (fun q hq h => ?_)
            by_cases hq' : q = p
            · subst hq'; exact hb
            · exact ha q (by omega) h
          · exact ⟨p + 1, hp', ha, fun _ => Bool.eq_false_iff.2 hb⟩
      exact this out.length (Nat.le_refl _) (fun q hq h => absurd h (by omega))
    obtain ⟨M, hM1, hM2, hM3⟩ := ih (i + 1) _ (by omega) (hnext j0 hj0 a0 b0).1 (hnext j0 hj0 a0 b0).2
    refine ⟨M, hM1, hM2, ?_⟩
    refine Evn.step (h := fun k => spec_shSorted.l1 k out out.length l l.length i l[i].f0 l[i].f1 l[i].f2) (fun k => ?_) (place_loop out l (by omega) l[i] l.length i (fun j hj h1 h2 => ?_) out.length (Nat.le_refl _) (fun q hq h => absurd h (by omega)))
    · rw [spec_shSorted.l0, if_pos (by omega), if_pos (by omega), if_pos (by omega), rdH_get l i hi']
    · have e : j = j0 := by
        rcases Nat.lt_trichotomy j j0 with h | h | h
        · have x1 := b0 (by omega)
          rw [h1 (j0 - 1) (by omega) (by omega)] at x1; cases x1
        · exact h
        · have x1 := h2 (by omega)
          rw [a0 (j - 1) (by omega) (by omega)] at x1; cases x1
      subst e
      rw [show wrap64 ((i : Int) + 1) = ((i + 1 : Nat) : Int) by rw [w64 (by omega)]; omega]
      exact hM3
theorem shSorted_eq {L : List S58} (h : Norm L) (hl : L.length ≤ 1048576) : Evn (fun k => spec_shSorted.f k L) (shOf L) := by
  obtain ⟨M, h1, h2, h3⟩ := shSorted_loop L hl L.length 0 [] (by omega) (by simp) List.Pairwise.nil
  have e := order_facts h hl h1 h2
  subst e
  exact h3

theorem last_rd (I : List S58) (h : S58) : rd_T58 (I ++ [h]) (I.length : Int) = h := by
  rw [rdH_get _ I.length (by simp), List.getElem_append_right (by omega)]; simp
theorem last_set (I : List S58) (h v : S58) : (I ++ [h]).set I.length v = I ++ [v] := by
  rw [List.set_append_right _ _ (by omega), Nat.sub_self, List.set_cons_zero]
theorem mg_nil (t a b : Int) : mg [] t a b = [⟨t, a, b⟩] := rfl
theorem mg_last (I : List S58) (h : S58) (t a b : Int) : mg (I ++ [h]) t a b = if h.f0 = t ∧ a ≤ h.f2 then I ++ [⟨h.f0, h.f1, mx h.f2 b⟩] else I ++ [h] ++ [⟨t, a, b⟩] := by
  unfold mg
  rw [List.getLast?_concat]
  simp only [List.dropLast_concat]
/-- which places of a scan are holes -/
def Opn (l : List ByteArray) (w : Nat) (t s : Int) : Prop := 0 ≤ t ∧ t < w ∧ ∃ r : Nat, ∃ h : r < l.length, s = r ∧ bt (l[r]'h) t = 111
/-- a scan without stains -/
def Clean (l : List ByteArray) (w : Nat) : Prop := ∀ (r : Nat) (h : r < l.length) (c : Nat), c < w → bt (l[r]'h) (c : Int) = 46 ∨ bt (l[r]'h) (c : Int) = 111
def AllOf (l : List ByteArray) (w : Nat) : Prop := l.length ≤ 60 ∧ 0 < l.length ∧ w ≤ 20 ∧ ∀ s ∈ l, s.size = w
section
variable {l : List ByteArray} {w : Nat} (ha : AllOf l w)
include ha
theorem size_at (r : Nat) (h : r < l.length) : l[r].size = w := ha.2.2.2 _ (List.getElem_mem h)
/-- one row of the reference's walk: a hole -/
theorem spec_hole (out : List S58) (c r : Nat) (hc : c < w) (hr : r < l.length) (ho : out.length ≤ 1048576) (h1 : bt l[r] (c : Int) = 111) (h2 : ∀ h ∈ out, h.f0 < (c : Int) ∨ (h.f0 = (c : Int) ∧ h.f2 ≤ r)) (k : Nat) :
    spec_scHoles.l1 (k + 1) l out c l l.length r = spec_scHoles.l1 k l (mg out c r ((r : Int) + 1)) c l l.length ((r + 1 : Nat) : Int) := by
  have hl := ha.1
  have hw := ha.2.2.1
  have er : wrap64 ((r : Int) + 1) = ((r + 1 : Nat) : Int) := by rw [w64 (by omega)]; omega
  rw [spec_scHoles.l1, if_pos (by omega), if_pos (by omega), if_pos (by omega), if_pos (by omega), rdB_get l r hr, size_at ha r hr, if_pos (by omega), h1, if_neg (by decide), if_neg (by decide), er]
  rcases List.eq_nil_or_concat out with rfl | ⟨I, h, e⟩
  · rw [if_neg (by simp), if_pos (by simp), mg_nil]
    rfl
  · rw [List.concat_eq_append] at e
    subst e
    have hh := h2 h (List.mem_append_right _ (List.mem_singleton.2 rfl))
    have el : wrap64 (((I ++ [h]).length : Int) - 1) = (I.length : Int) := by rw [List.length_append, List.length_singleton, w64 (by simp at ho; omega)]; omega
    rw [if_pos (by rw [List.length_append, List.length_singleton]; omega), el, if_pos (by omega), if_pos (by rw [List.length_append, List.length_singleton]; omega), last_rd, mg_last]
    by_cases h3 : h.f0 = (c : Int)
    · rw [if_pos h3]
      by_cases h4 : h.f2 = (r : Int)
      · have em : mx h.f2 ((r : Int) + 1) = ((r + 1 : Nat) : Int) := by unfold mx; omega
        rw [if_pos h4, Int.toNat_natCast, last_set, if_pos ⟨h3, by omega⟩, em]
      · rw [if_neg h4, if_pos (by omega), if_neg (fun g => h4 (by omega))]
        rfl
    · rw [if_neg h3, if_pos (by omega), if_neg (fun g => h3 g.1)]
      rfl
theorem spec_paper (out : List S58) (c r : Nat) (hc : c < w) (hr : r < l.length) (h1 : bt l[r] (c : Int) = 46) (k : Nat) :
    spec_scHoles.l1 (k + 1) l out c l l.length r = spec_scHoles.l1 k l out c l l.length ((r + 1 : Nat) : Int) := by
  have hl := ha.1
  have hw := ha.2.2.1
  have er : wrap64 ((r : Int) + 1) = ((r + 1 : Nat) : Int) := by rw [w64 (by omega)]; omega
  rw [spec_scHoles.l1, if_pos (by omega), if_pos (by omega), if_pos (by omega), if_pos (by omega), rdB_get l r hr, size_at ha r hr, if_pos (by omega), h1, if_neg (by decide), if_pos rfl, er]
theorem spec_stain (out : List S58) (c r : Nat) (hc : c < w) (hr : r < l.length) (h1 : bt l[r] (c : Int) = 63) (k : Nat) :
    spec_scHoles.l1 (k + 1) l out c l l.length r = some ([], false) := by
  have hl := ha.1
  have hw := ha.2.2.1
  rw [spec_scHoles.l1, if_pos (by omega), if_pos (by omega), if_pos (by omega), if_pos (by omega), rdB_get l r hr, size_at ha r hr, if_pos (by omega), h1, if_pos rfl]
theorem spec_col_end (out : List S58) (c : Nat) (hc : c < w) (k : Nat) :
    spec_scHoles.l1 (k + 1) l out c l l.length l.length = spec_scHoles.l0 k l out ((c + 1 : Nat) : Int) := by
  have hw := ha.2.2.1
  rw [spec_scHoles.l1, if_neg (by omega), w64 (by omega)]
  rfl
theorem width_eq : ((rdOf ByteArray.empty l 0).size : Int) = (w : Int) := by
  have h0 := ha.2.1
  have e : rdOf ByteArray.empty l 0 = l[0] := rdB_get l 0 h0
  rw [e, size_at ha 0 h0]
theorem spec_col (hcl : Clean l w) (c : Nat) (hc : c < w) {R : List S58 × Bool}
    (hk : ∀ out, Norm out → (∀ t s, Cov out t s ↔ t < ((c + 1 : Nat) : Int) ∧ Opn l w t s) → (∀ h ∈ out, h.f0 < ((c + 1 : Nat) : Int)) → out.length ≤ 61 * (c + 1) → Evn (fun k => spec_scHoles.l0 k l out ((c + 1 : Nat) : Int)) R) (d : Nat) :
    ∀ (r : Nat) (out : List S58), r + d = l.length → Norm out → (∀ t s, Cov out t s ↔ (t < (c : Int) ∨ (t = (c : Int) ∧ s < (r : Int))) ∧ Opn l w t s) → (∀ h ∈ out, h.f0 < (c : Int) ∨ (h.f0 = (c : Int) ∧ h.f2 ≤ r)) → out.length ≤ 61 * c + r →
    Evn (fun k => spec_scHoles.l1 k l out c l l.length r) R := by
  have hl := ha.1
  have hw := ha.2.2.1
  induction d with
  | zero =>
    intro r out hr hn hcv hb hlen
    obtain rfl : r = l.length := by omega
    refine Evn.step (h := fun k => spec_scHoles.l0 k l out ((c + 1 : Nat) : Int)) (fun k => spec_col_end ha out c hc k) (hk out hn (fun t s => ?_) (fun h hh => by have := hb h hh; omega) (by omega))
    rw [hcv]
    constructor
    · rintro ⟨h1, h2⟩; exact ⟨by omega, h2⟩
    · rintro ⟨h1, h2⟩
      refine ⟨?_, h2⟩
      obtain ⟨_, _, q, hq, e, _⟩ := h2
      omega
  | succ d ih =>
    intro r out hr hn hcv hb hlen
    have hr' : r < l.length := by omega
    rcases hcl r hr' c hc with h1 | h1
    · refine Evn.step (fun k => spec_paper ha out c r hc hr' h1 k) (ih (r + 1) out (by omega) hn (fun t s => ?_) (fun h hh => by have := hb h hh; omega) (by omega))
      rw [hcv]
      constructor
      · rintro ⟨g1, g2⟩; exact ⟨by omega, g2⟩
      · rintro ⟨g1, g2⟩
        refine ⟨?_, g2⟩
        obtain ⟨_, _, q, hq, e, e2⟩ := g2
        by_cases hx : t = (c : Int) ∧ q = r
        · obtain ⟨rfl, rfl⟩ := hx
          rw [h1] at e2; exact absurd e2 (by decide)
        · omega
    · obtain ⟨m1, m2, m3, m4⟩ := mg_ok out c r ((r : Int) + 1) hn (by omega) (fun h hh => by have := hb h hh; have := hn.2 h hh; omega)
      refine Evn.step (fun k => spec_hole ha out c r hc hr' (by omega) h1 hb k) (ih (r + 1) _ (by omega) m1 (fun t s => ?_) (fun h hh => ?_) (by omega))
      · rw [m2, hcv]
        constructor
        · rintro (⟨g1, g2⟩ | ⟨g1, g2, g3⟩)
          · exact ⟨by omega, g2⟩
          · obtain rfl : s = (r : Int) := by omega
            subst g1
            exact ⟨by omega, by omega, by omega, r, hr', rfl, h1⟩
        · rintro ⟨g1, g2⟩
          by_cases hx : t = (c : Int) ∧ s = (r : Int)
          · exact Or.inr ⟨hx.1.symm, by omega, by omega⟩
          · exact Or.inl ⟨by omega, g2⟩
      · have hx3 := m3 h hh
        have hx2 : h.f0 = (c : Int) → h.f2 ≤ ((r + 1 : Nat) : Int) := by
          intro e
          rcases Int.lt_or_le ((r + 1 : Nat) : Int) h.f2 with g | g
          · exfalso
            have cc := (m2 (c : Int) ((r + 1 : Nat) : Int)).1 ⟨h, hh, e, by have := m1.2 h hh; omega, g⟩
            rcases cc with ⟨y, hy, e1, e2, e3⟩ | cc
            · have := hb y hy; omega
            · omega
          · exact g
        omega
theorem spec_cols (hcl : Clean l w) (L : List S58) (hL : Norm L) (hLl : L.length ≤ 1220) (hLc : ∀ t s, Cov L t s ↔ Opn l w t s) (d : Nat) : ∀ (c : Nat) (out : List S58), c + d = w → Norm out → (∀ t s, Cov out t s ↔ t < (c : Int) ∧ Opn l w t s) → (∀ h ∈ out, h.f0 < (c : Int)) → out.length ≤ 61 * c →
    Evn (fun k => spec_scHoles.l0 k l out c) (shOf L) := by
  have hw := ha.2.2.1
  have h0 := ha.2.1
  induction d with
  | zero =>
    intro c out hc hn hcv hb hlen
    have e : out = L := norm_unique out L hn hL (fun t s => by
      rw [hcv, hLc]
      constructor
      · exact fun h => h.2
      · intro h
        have := h.2.1
        exact ⟨by omega, h⟩)
    subst e
    refine Evn.step (h := fun k => (spec_shSorted.f k out).bind fun bt => some (bt.1, bt.2)) (fun k => by rw [spec_scHoles.l0, if_pos (by omega), width_eq ha, if_neg (by omega)]) ?_
    exact Evn.bind (shSorted_eq hn (by omega)) (Evn.const (fun k => rfl))
  | succ d ih =>
    intro c out hc hn hcv hb hlen
    refine Evn.step (h := fun k => spec_scHoles.l1 k l out c l l.length ((0 : Nat) : Int)) (fun k => by rw [spec_scHoles.l0, if_pos (by omega), width_eq ha, if_pos (by omega)]; rfl) ?_
    refine spec_col ha hcl c (by omega) (fun out' a1 a2 a3 a4 => ih (c + 1) out' (by omega) a1 a2 a3 a4) l.length 0 out (by omega) hn (fun t s => ?_) (fun h hh => Or.inl (hb h hh)) (by omega)
    rw [hcv]
    constructor
    · rintro ⟨g1, g2⟩; exact ⟨Or.inl g1, g2⟩
    · rintro ⟨g1, g2⟩
      refine ⟨?_, g2⟩
      obtain ⟨_, _, q, hq, e, _⟩ := g2
      omega
/-- where a stain is, the reference finds no sheet -/
theorem spec_bad (hch : ∀ (r : Nat) (h : r < l.length) (c : Nat), c < w → bt l[r] (c : Int) = 46 ∨ bt l[r] (c : Int) = 111 ∨ bt l[r] (c : Int) = 63)
    (d : Nat) : ∀ (e c r : Nat) (out : List S58), c + d = w → r + e = l.length → out.length ≤ 61 * c + r → (∀ h ∈ out, h.f0 < (c : Int) ∨ (h.f0 = (c : Int) ∧ h.f2 ≤ r)) → (∃ (r' : Nat) (h : r' < l.length) (c' : Nat), c' < w ∧ bt l[r'] (c' : Int) = 63 ∧ (c < c' ∨ (c = c' ∧ r ≤ r'))) → 0 < d →
    Evn (fun k => spec_scHoles.l1 k l out c l l.length r) (([] : List S58), false) := by
  have hl := ha.1
  have hw := ha.2.2.1
  have h0 := ha.2.1
  induction d with
  | zero => intro e c r out _ _ _ _ _ hd; exact absurd hd (by omega)
  | succ d ihd =>
    intro e
    induction e with
    | zero =>
      intro c r out hc hr hlen hb hex hd
      obtain rfl : r = l.length := by omega
      obtain ⟨r', hr', c', hc', e1, e2⟩ := hex
      refine Evn.step (fun k => spec_col_end ha out c (by omega) k) (Evn.step (h := fun k => spec_scHoles.l1 k l out ((c + 1 : Nat) : Int) l l.length ((0 : Nat) : Int)) (fun k => ?_) (ihd l.length (c + 1) 0 out (by omega) (by omega) (by omega) (fun h hh => by have := hb h hh; omega) ⟨r', hr', c', hc', e1, by omega⟩ (by omega)))
      rw [spec_scHoles.l0, if_pos (by omega), width_eq ha, if_pos (by omega)]
      rfl
    | succ e ihe =>
      intro c r out hc hr hlen hb hex hd
      have hr' : r < l.length := by omega
      obtain ⟨r1, hr1, c1, hc1, e1, e2⟩ := hex
      rcases hch r hr' c (by omega) with h1 | h1 | h1
      · refine Evn.step (fun k => spec_paper ha out c r (by omega) hr' h1 k) (ihe c (r + 1) out hc (by omega) (by omega) (fun h hh => by have := hb h hh; omega) ⟨r1, hr1, c1, hc1, e1, ?_⟩ hd)
        by_cases hx : c = c1 ∧ r = r1
        · obtain ⟨rfl, rfl⟩ := hx
          rw [h1] at e1; exact absurd e1 (by decide)
        · omega
      · refine Evn.step (fun k => spec_hole ha out c r (by omega) hr' (by omega) h1 hb k) (ihe c (r + 1) _ hc (by omega) ?_ (fun h hh => ?_) ⟨r1, hr1, c1, hc1, e1, ?_⟩ hd)
        · unfold mg
          rcases List.eq_nil_or_concat out with rfl | ⟨I, h, ee⟩
          · simp; omega
          · rw [List.concat_eq_append] at ee
            subst ee
            rw [List.getLast?_concat]
            simp only [List.dropLast_concat]
            split <;> simp at * <;> omega
        · unfold mg at hh
          rcases List.eq_nil_or_concat out with rfl | ⟨I, y, ee⟩
          · simp only [List.getLast?_nil] at hh
            obtain rfl := List.mem_singleton.1 hh
            exact Or.inr ⟨rfl, by simp only; omega⟩
          · rw [List.concat_eq_append] at ee
            subst ee
            rw [List.getLast?_concat] at hh
            simp only [List.dropLast_concat] at hh
            have hy := hb y (List.mem_append_right _ (List.mem_singleton.2 rfl))
            split at hh
            · rcases List.mem_append.1 hh with hh | hh
              · have := hb h (List.mem_append_left _ hh); omega
              · obtain rfl := List.mem_singleton.1 hh
                have : mx y.f2 ((r : Int) + 1) = y.f2 ∧ (r : Int) + 1 ≤ y.f2 ∨ mx y.f2 ((r : Int) + 1) = (r : Int) + 1 := by unfold mx; omega
                simp only
                omega
            · rcases List.mem_append.1 hh with hh | hh
              · have := hb h hh; omega
              · obtain rfl := List.mem_singleton.1 hh
                exact Or.inr ⟨rfl, by simp only; omega⟩
        · by_cases hx : c = c1 ∧ r = r1
          · obtain ⟨rfl, rfl⟩ := hx
            rw [h1] at e1; exact absurd e1 (by decide)
          · omega
      · exact Evn.step (h := fun _ => some (([] : List S58), false)) (fun k => spec_stain ha out c r (by omega) hr' h1 k) (Evn.const (fun _ => rfl))
/-- a round of the program's walk down a column -/
theorem impl_round (out : List S58) (c r : Nat) (from_ : Int) (hc : c < w) (hr : r ≤ l.length) (ho : out.length ≤ 1048576) (hf : from_ = -1 ∨ 0 ≤ from_) (open_ : Bool) (hop : open_ = true ↔ Opn l w c r) (k : Nat) :
    impl_HolesIn.l1 (k + 1 + 1 + 1) l out c from_ r w c = if open_ then impl_HolesIn.l1 k l out c (if from_ < 0 then (r : Int) else from_) ((r + 1 : Nat) : Int) w c
      else if from_ ≥ 0 then impl_HolesIn.l1 k l (out ++ [⟨c, from_, r⟩]) c (-1) ((r + 1 : Nat) : Int) w c else impl_HolesIn.l1 k l out c from_ ((r + 1 : Nat) : Int) w c := by
  have hl := ha.1
  have hw := ha.2.2.1
  have er : wrap64 ((r : Int) + 1) = ((r + 1 : Nat) : Int) := by rw [w64 (by omega)]; omega
  have e1 : impl_HolesIn.l1 (k + 1 + 1 + 1) l out c from_ r w c = impl_HolesIn.j3 (k + 1 + 1) l out c from_ r open_ w c := by
    rw [impl_HolesIn.l1, if_pos (by omega)]
    by_cases h : r < l.length
    · have eo : (bt l[r] (c : Int) == 111) = open_ := by
        rw [Bool.eq_iff_iff, hop, beq_iff_eq]
        constructor
        · intro g; exact ⟨by omega, by omega, r, h, rfl, g⟩
        · rintro ⟨_, _, q, hq, e, g⟩
          obtain rfl : q = r := by omega
          exact g
      rw [if_pos (by omega), if_pos (by omega), if_pos (by omega), rdB_get l r h, size_at ha r h, if_pos (by omega), eo]
    · have eo : open_ = false := by
        rw [Bool.eq_false_iff]
        intro g
        obtain ⟨_, _, q, hq, e, _⟩ := hop.1 g
        omega
      rw [if_neg (by omega), eo]
  rw [e1, impl_HolesIn.j3]
  cases open_ with
  | true =>
    rw [if_pos rfl, if_pos rfl, impl_HolesIn.j4]
    by_cases hx : from_ < 0
    · rw [if_pos (decide_eq_true hx), if_pos rfl, if_pos hx, er]
    · rw [if_neg (by simpa using hx), if_pos rfl, if_neg hx, er]
  | false =>
    rw [if_neg (by decide), if_neg (by decide), impl_HolesIn.j4, if_neg (by decide), if_neg (by decide)]
    by_cases hx : from_ ≥ 0
    · rw [if_pos hx, if_pos (by omega), if_pos hx, er]
    · rw [if_neg hx, if_neg hx, er]
theorem impl_col (c : Nat) (hc : c < w) {R : List S58 × Bool}
    (hk : ∀ out, Norm out → (∀ t s, Cov out t s ↔ t < ((c + 1 : Nat) : Int) ∧ Opn l w t s) → (∀ h ∈ out, h.f0 < ((c + 1 : Nat) : Int)) → out.length ≤ 61 * (c + 1) → Evn (fun k => impl_HolesIn.l0 k l out w ((c + 1 : Nat) : Int)) R) (d : Nat) :
    ∀ (r : Nat) (out : List S58) (from_ p : Int), r + d = l.length + 1 → Norm out → (from_ = -1 ∧ p = r ∨ 0 ≤ from_ ∧ from_ < r ∧ p = from_ ∧ r ≤ l.length ∧ ∀ s, from_ ≤ s → s < r → Opn l w c s) → (∀ t s, Cov out t s ↔ (t < (c : Int) ∨ (t = (c : Int) ∧ s < p)) ∧ Opn l w t s) → (∀ h ∈ out, h.f0 < (c : Int) ∨ (h.f0 = (c : Int) ∧ h.f2 < p)) → out.length ≤ 61 * c + r →
    Evn (fun k => impl_HolesIn.l1 k l out c from_ r w c) R := by
  have hl := ha.1
  have hw := ha.2.2.1
  induction d with
  | zero =>
    intro r out from_ p hr hn hf hcv hb hlen
    obtain rfl : r = l.length + 1 := by omega
    refine Evn.step (h := fun k => impl_HolesIn.l0 k l out w ((c + 1 : Nat) : Int)) (fun k => ?_) (hk out hn (fun t s => ?_) (fun h hh => by have := hb h hh; omega) (by omega))
    · rw [impl_HolesIn.l1, if_neg (by omega), w64 (by omega)]
      rfl
    · rw [hcv]
      constructor
      · rintro ⟨h1, h2⟩; exact ⟨by omega, h2⟩
      · rintro ⟨h1, h2⟩
        refine ⟨?_, h2⟩
        obtain ⟨_, _, q, hq, e, _⟩ := h2
        omega
  | succ d ih =>
    intro r out from_ p hr hn hf hcv hb hlen
    obtain ⟨open_, hop⟩ : ∃ b : Bool, b = true ↔ Opn l w c r := ⟨@decide (Opn l w c r) (Classical.propDecidable _), by simp⟩
    have hstep := impl_round ha out c r from_ hc (by omega) (by omega) (by omega) open_ hop
    suffices h : Evn (fun k => if open_ then impl_HolesIn.l1 k l out c (if from_ < 0 then (r : Int) else from_) ((r + 1 : Nat) : Int) w c
      else if from_ ≥ 0 then impl_HolesIn.l1 k l (out ++ [⟨c, from_, r⟩]) c (-1) ((r + 1 : Nat) : Int) w c else impl_HolesIn.l1 k l out c from_ ((r + 1 : Nat) : Int) w c) R by
      obtain ⟨K, hK⟩ := h
      refine ⟨K + 3, fun k hk' => ?_⟩
      obtain ⟨q, rfl⟩ : ∃ q, k = q + 1 + 1 + 1 := ⟨k - 3, by omega⟩
      simp only []
      rw [hstep q]
      exact hK q (by omega)
    cases hb0 : open_ with
    | true =>
      have hO := hop.1 hb0
      obtain ⟨_, _, q, hq, eq, _⟩ := id hO
      simp only [if_true]
      refine ih (r + 1) out (if from_ < 0 then (r : Int) else from_) p (by omega) hn (Or.inr ?_) hcv hb (by omega)
      rcases hf with ⟨f1, f2⟩ | ⟨f1, f2, f3, f4, f5⟩
      · rw [if_pos (by omega)]
        refine ⟨by omega, by omega, f2, by omega, fun s h1 h2 => ?_⟩
        obtain rfl : s = (r : Int) := by omega
        exact hO
      · rw [if_neg (by omega)]
        refine ⟨f1, by omega, f3, by omega, fun s h1 h2 => ?_⟩
        by_cases e : s = (r : Int)
        · rw [e]; exact hO
        · exact f5 s h1 (by omega)
    | false =>
      have hO : ¬ Opn l w c r := fun h => by have := hop.2 h; rw [hb0] at this; cases this
      simp only [Bool.false_eq_true, if_false]
      rcases hf with ⟨f1, f2⟩ | ⟨f1, f2, f3, f4, f5⟩
      · simp only [if_neg (show ¬ from_ ≥ 0 by omega)]
        refine ih (r + 1) out from_ ((r + 1 : Nat) : Int) (by omega) hn (Or.inl ⟨f1, rfl⟩) (fun t s => ?_) (fun h hh => by have := hb h hh; omega) (by omega)
        rw [hcv]
        constructor
        · rintro ⟨g1, g2⟩; exact ⟨by omega, g2⟩
        · rintro ⟨g1, g2⟩
          refine ⟨?_, g2⟩
          by_cases hx : t = (c : Int) ∧ s = (r : Int)
          · obtain ⟨rfl, rfl⟩ := hx; exact absurd g2 hO
          · omega
      · simp only [if_pos (show from_ ≥ 0 from f1)]
        refine ih (r + 1) (out ++ [⟨c, from_, r⟩]) (-1) ((r + 1 : Nat) : Int) (by omega) (norm_append.2 ⟨hn, fun h hh => ?_, by simp only; omega⟩) (Or.inl ⟨rfl, rfl⟩) (fun t s => ?_) (fun h hh => ?_) (by rw [List.length_append, List.length_singleton]; omega)
        · unfold Apart
          have := hb h hh
          simp only
          omega
        · rw [cov_append, cov_cons, hcv]
          simp only [cov_nil, or_false]
          constructor
          · rintro (⟨g1, g2⟩ | ⟨g1, g2, g3⟩)
            · exact ⟨by omega, g2⟩
            · subst g1
              exact ⟨by omega, f5 s g2 g3⟩
          · rintro ⟨g1, g2⟩
            by_cases hx : t = (c : Int) ∧ from_ ≤ s
            · refine Or.inr ⟨hx.1.symm, hx.2, ?_⟩
              by_cases e : s = (r : Int)
              · exfalso; rw [hx.1, e] at g2; exact hO g2
              · omega
            · exact Or.inl ⟨by omega, g2⟩
        · rcases List.mem_append.1 hh with hh | hh
          · have := hb h hh; omega
          · obtain rfl := List.mem_singleton.1 hh
            exact Or.inr ⟨rfl, by simp only; omega⟩
theorem impl_cols (d : Nat) : ∀ (c : Nat) (out : List S58), c + d = w → Norm out → (∀ t s, Cov out t s ↔ t < (c : Int) ∧ Opn l w t s) → (∀ h ∈ out, h.f0 < (c : Int)) → out.length ≤ 61 * c →
    ∃ L, Norm L ∧ L.length ≤ 1220 ∧ (∀ t s, Cov L t s ↔ Opn l w t s) ∧ Evn (fun k => impl_HolesIn.l0 k l out w c) (shOf L) := by
  have hw := ha.2.2.1
  induction d with
  | zero =>
    intro c out hc hn hcv hb hlen
    refine ⟨out, hn, by omega, fun t s => ?_, ?_⟩
    · rw [hcv]
      constructor
      · exact fun h => h.2
      · intro h
        have := h.2.1
        exact ⟨by omega, h⟩
    · refine Evn.step (h := fun k => (impl_sheetOf.f k out).bind fun bt => some (bt.1, bt.2)) (fun k => by rw [impl_HolesIn.l0, if_neg (by omega)]) ?_
      exact ⟨fuelH 0 out.length, fun k hk => by simp only []; rw [sheetOf_eq hn (by omega) k hk]; rfl⟩
  | succ d ih =>
    intro c out hc hn hcv hb hlen
    -- which list it comes to is told by what it covers
    have key : ∀ out', Norm out' → (∀ t s, Cov out' t s ↔ t < ((c + 1 : Nat) : Int) ∧ Opn l w t s) → (∀ h ∈ out', h.f0 < ((c + 1 : Nat) : Int)) → out'.length ≤ 61 * (c + 1) → ∃ L, Norm L ∧ L.length ≤ 1220 ∧ (∀ t s, Cov L t s ↔ Opn l w t s) ∧ Evn (fun k => impl_HolesIn.l0 k l out' w ((c + 1 : Nat) : Int)) (shOf L) :=
      fun out' a1 a2 a3 a4 => ih (c + 1) out' (by omega) a1 a2 a3 a4
    have hex : ∃ L, Norm L ∧ L.length ≤ 1220 ∧ (∀ t s, Cov L t s ↔ Opn l w t s) := by
      by_cases h : ∃ out', Norm out' ∧ (∀ t s, Cov out' t s ↔ t < ((c + 1 : Nat) : Int) ∧ Opn l w t s) ∧ (∀ h ∈ out', h.f0 < ((c + 1 : Nat) : Int)) ∧ out'.length ≤ 61 * (c + 1)
      · obtain ⟨o, a1, a2, a3, a4⟩ := h
        obtain ⟨L, b1, b2, b3, _⟩ := key o a1 a2 a3 a4
        exact ⟨L, b1, b2, b3⟩
      · exfalso
        -- a walk down the column ends in one
        have hE : Evn (fun k => impl_HolesIn.l1 k l out c (-1) ((0 : Nat) : Int) w c) (([] : List S58), false) := impl_col ha c (by omega) (fun o a1 a2 a3 a4 => absurd ⟨o, a1, a2, a3, a4⟩ h) (l.length + 1) 0 out (-1) 0 (by omega) hn (Or.inl ⟨rfl, rfl⟩) (fun t s => by
          rw [hcv]
          constructor
          · rintro ⟨g1, g2⟩; exact ⟨Or.inl g1, g2⟩
          · rintro ⟨g1, g2⟩
            refine ⟨?_, g2⟩
            obtain ⟨_, _, q, hq, e, _⟩ := g2
            omega) (fun h hh => Or.inl (hb h hh)) (by omega)
        have hE2 : Evn (fun k => impl_HolesIn.l1 k l out c (-1) ((0 : Nat) : Int) w c) (([] : List S58), true) := impl_col ha c (by omega) (fun o a1 a2 a3 a4 => absurd ⟨o, a1, a2, a3, a4⟩ h) (l.length + 1) 0 out (-1) 0 (by omega) hn (Or.inl ⟨rfl, rfl⟩) (fun t s => by
          rw [hcv]
          constructor
          · rintro ⟨g1, g2⟩; exact ⟨Or.inl g1, g2⟩
          · rintro ⟨g1, g2⟩
            refine ⟨?_, g2⟩
            obtain ⟨_, _, q, hq, e, _⟩ := g2
            omega) (fun h hh => Or.inl (hb h hh)) (by omega)
        obtain ⟨K, hK⟩ := Evn.both hE hE2
        have := hK K (Nat.le_refl _)
        rw [this.1] at this
        exact absurd this.2 (by simp)
    obtain ⟨L, b1, b2, b3⟩ := hex
    refine ⟨L, b1, b2, b3, ?_⟩
    refine Evn.step (h := fun k => impl_HolesIn.l1 k l out c (-1) ((0 : Nat) : Int) w c) (fun k => by rw [impl_HolesIn.l0, if_pos (by omega)]; rfl) ?_
    refine impl_col ha c (by omega) (fun out' a1 a2 a3 a4 => ?_) (l.length + 1) 0 out (-1) 0 (by omega) hn (Or.inl ⟨rfl, rfl⟩) (fun t s => ?_) (fun h hh => Or.inl (hb h hh)) (by omega)
    · obtain ⟨M, d1, d2, d3, d4⟩ := key out' a1 a2 a3 a4
      have e := norm_unique M L d1 b1 (fun t s => by rw [d3, b3])
      subst e
      exact d4
    · rw [hcv]
      constructor
      · rintro ⟨g1, g2⟩; exact ⟨Or.inl g1, g2⟩
      · rintro ⟨g1, g2⟩
        refine ⟨?_, g2⟩
        obtain ⟨_, _, q, hq, e, _⟩ := g2
        omega
end

theorem total_zero (m : Int) : ∀ l : List ByteArray, 0 ≤ total m l ∧ (total m l = 0 → ∀ s ∈ l, ∀ c ∈ cs s, c ≠ m) ∧ (0 < total m l → ∃ s ∈ l, m ∈ cs s)
  | [] => ⟨Int.le_refl _, fun _ s hs => by simp at hs, fun h => absurd h (by show ¬ (0 : Int) < 0; omega)⟩
  | s :: r => by
    obtain ⟨h1, h2, h3⟩ := total_zero m r
    have hb := cnt_bounds m (cs s)
    have e : total m (s :: r) = cnt m (cs s) + total m r := rfl
    rw [e]
    refine ⟨by omega, fun h x hx c hc => ?_, fun h => ?_⟩
    · rcases List.mem_cons.1 hx with rfl | hx
      · intro ec
        have h0 : cnt m (cs x) = 0 := by omega
        unfold cnt at h0
        have := List.countP_eq_zero.1 (by omega : (cs x).countP (fun c => c == m) = 0) c hc
        simp [ec] at this
      · exact h2 (by omega) x hx c hc
    · by_cases h0 : 0 < cnt m (cs s)
      · unfold cnt at h0
        obtain ⟨c, hc, e2⟩ := List.countP_pos_iff.1 (by omega : 0 < (cs s).countP (fun c => c == m))
        have : c = m := by simpa using e2
        subst this
        exact ⟨s, List.mem_cons_self, hc⟩
      · obtain ⟨x, hx, hm⟩ := h3 (by omega)
        exact ⟨x, List.mem_cons_of_mem _ hx, hm⟩
theorem holes_both (l : List ByteArray) (hl : l.length ≤ 1048576) (hs : ∀ s ∈ l, s.size ≤ 1048576) : ∃ R : List S58 × Bool, R.1.length ≤ 1220 ∧ ∃ K, ∀ k, K ≤ k → spec_HolesIn.f k l = some R ∧ impl_HolesIn.f k l = some R := by
  cases hg : Grid chS 1 60 20 l with
  | false =>
    refine ⟨([], false), by simp, fuelR l + 71, fun k hk => ?_⟩
    obtain ⟨k, rfl⟩ : ∃ j, k = j + 1 := ⟨k - 1, by omega⟩
    unfold spec_HolesIn.f impl_HolesIn.f
    rw [scGood_eq l hl hs _ (by omega), implStains_eq l hl hs _ (by omega), hg]
    simp only [Option.bind_some, Bool.false_eq_true, if_false]
    rw [impl_HolesIn.j0, if_pos rfl]
    exact ⟨trivial, rfl⟩
  | true =>
    obtain ⟨g1, g2, g3, g4, g5⟩ := grid_facts hg
    have ha : AllOf l (wid l) := ⟨g2, by omega, g4, fun s h => (g5 s h).1⟩
    obtain ⟨t1, t2, t3⟩ := total_zero 63 l
    have hch : ∀ (r : Nat) (h : r < l.length) (c : Nat), c < wid l → bt l[r] (c : Int) = 46 ∨ bt l[r] (c : Int) = 111 ∨ bt l[r] (c : Int) = 63 := fun r h c hc => by
      have hm := List.getElem_mem h
      rw [bt_get _ c (by rw [(g5 _ hm).1]; exact hc)]
      exact chS_cases ((g5 _ hm).2 _ (List.getElem_mem _))
    by_cases h0 : total 63 l > 0
    · obtain ⟨s, hs', hm⟩ := t3 h0
      obtain ⟨r, hr, rfl⟩ := List.mem_iff_getElem.1 hs'
      obtain ⟨c, hc, e⟩ := List.mem_iff_getElem.1 hm
      rw [cs_length] at hc
      have hcw : c < wid l := by rw [← (g5 _ hs').1]; exact hc
      have hE := spec_bad ha hch (wid l) l.length 0 0 [] (by omega) (by omega) (by simp) (fun h hh => by simp at hh) ⟨r, hr, c, hcw, by rw [bt_get _ c hc]; exact e, by omega⟩ (by omega)
      obtain ⟨K, hK⟩ := Evn.step (g := fun k => spec_scHoles.l0 k l [] ((0 : Nat) : Int)) (fun k => by rw [spec_scHoles.l0, if_pos (by omega), width_eq ha, if_pos (by omega)]; rfl) hE
      refine ⟨([], false), by simp, K + fuelR l + 71, fun k hk => ?_⟩
      obtain ⟨k, rfl⟩ : ∃ j, k = j + 1 := ⟨k - 1, by omega⟩
      unfold spec_HolesIn.f impl_HolesIn.f spec_scHoles.f
      rw [scGood_eq l hl hs _ (by omega), implStains_eq l hl hs _ (by omega), hg]
      simp only [Option.bind_some, if_true]
      have e0 := hK (k + 1) (by omega)
      simp only [] at e0
      rw [show (0 : Int) = ((0 : Nat) : Int) from rfl, e0, impl_HolesIn.j0, if_pos (by simpa using h0)]
      exact ⟨rfl, rfl⟩
    · have hcl : Clean l (wid l) := fun r h c hc => by
        rcases hch r h c hc with g | g | g
        · exact Or.inl g
        · exact Or.inr g
        · exfalso
          have hm := List.getElem_mem h
          rw [bt_get _ c (by rw [(g5 _ hm).1]; exact hc)] at g
          exact t2 (by omega) _ hm _ (List.getElem_mem _) g
      obtain ⟨L, b1, b2, b3, b4⟩ := impl_cols ha (wid l) 0 [] (by omega) norm_nil (fun t s => ⟨fun h => absurd h (cov_nil _ _), fun h => by have := h.2.1; omega⟩) (fun h hh => by simp at hh) (by simp)
      have b5 := spec_cols ha hcl L b1 b2 b3 (wid l) 0 [] (by omega) norm_nil (fun t s => ⟨fun h => absurd h (cov_nil _ _), fun h => by have := h.2.1; omega⟩) (fun h hh => by simp at hh) (by simp)
      obtain ⟨K, hK⟩ := Evn.both b5 b4
      refine ⟨shOf L, ?_, K + fuelR l + 72, fun k hk => ?_⟩
      · unfold shOf
        split
        · rw [inOrder_length]; exact b2
        · simp
      obtain ⟨k, rfl⟩ : ∃ j, k = j + 1 := ⟨k - 1, by omega⟩
      unfold spec_HolesIn.f impl_HolesIn.f spec_scHoles.f
      rw [scGood_eq l hl hs _ (by omega), implStains_eq l hl hs _ (by omega), hg]
      simp only [Option.bind_some, if_true]
      have e0 := (hK (k + 1) (by omega)).1
      have e1 := (hK k (by omega)).2
      rw [show (0 : Int) = ((0 : Nat) : Int) from rfl, e0, impl_HolesIn.j0, if_neg (by simpa using h0), if_pos (by omega), width_eq ha]
      rw [show (0 : Int) = ((0 : Nat) : Int) from rfl, e1]
      exact ⟨rfl, rfl⟩
theorem FnExactHolesIn (l : List ByteArray) (hl : l.length ≤ maxLen) (hs : ∀ s ∈ l, s.size ≤ maxLen) : ∃ k, laws_FnExactHolesIn.f k l = some true := by
  obtain ⟨r, hr, hb⟩ := szStrings_eq l hl hs 1048576 (by omega)
  by_cases h : r < 0
  · refine ⟨l.length + 100, ?_⟩
    unfold laws_FnExactHolesIn.f
    rw [hr _ (by omega)]
    simp only [Option.bind_some]
    rw [if_pos h]
  · obtain ⟨_, b1, b2⟩ := hb (by omega)
    obtain ⟨R, hR, K, hK⟩ := holes_both l b1 b2
    have hsp := fun k hk => (hK k hk).1
    have him := fun k hk => (hK k hk).2
    clear hK
    refine ⟨K + l.length + 2300 + 1 + 1 + 1, ?_⟩
    unfold laws_FnExactHolesIn.f
    rw [hr _ (by omega)]
    simp only [Option.bind_some]
    rw [if_neg h, toStrings_eq l b1 _ (by omega)]
    simp only [Option.bind_some]
    rw [hsp _ (by omega)]
    simp only [Option.bind_some]
    rw [him _ (by omega)]
    simp only [Option.bind_some]
    rw [eqHoles_self _ (by omega) _ (by omega)]
    simp only [Option.bind_some, bne_self_eq_false, if_true]
    rw [laws_FnExactHolesIn.j0, if_neg (by decide), toStrings_eq l b1 _ (by omega)]
    simp only [Option.bind_some]
    rw [eqStrings_self l b1 _ (by omega)]
    simp only [Option.bind_some, if_true]
    rw [markStrings_eq l b1 1 (by omega) _ (by omega)]
    simp only [Option.bind_some]
    rw [if_neg (by omega), eqHoles_self _ (by omega) _ (by omega)]
    simp only [Option.bind_some, bne_self_eq_false, if_true]
    rw [laws_FnExactHolesIn.j1, if_neg (by decide), markHoles_eq _ (by omega) 1 (by omega) _ (by omega)]
    simp only [Option.bind_some]
    rw [heldHoles_eq _ (by omega) 1 (by omega) _ (by omega)]
    simp only [Option.bind_some]
    rw [if_neg (by omega), if_pos trivial, toStrings_eq l b1 _ (by omega)]
    simp only [Option.bind_some]
    rw [him _ (by omega)]
    simp only [Option.bind_some]
    rw [eqHoles_self _ (by omega) _ (by omega)]
    simp only [Option.bind_some, bne_self_eq_false, if_true]
    rw [laws_FnExactHolesIn.j2, if_neg (by decide), heldHoles_eq _ (by omega) 1 (by omega) _ (by omega)]
    simp only [Option.bind_some]
    rw [if_neg (by omega), if_pos trivial]
end Go.Proofs.Ytcbfpfkkobbmaaa.Pure
