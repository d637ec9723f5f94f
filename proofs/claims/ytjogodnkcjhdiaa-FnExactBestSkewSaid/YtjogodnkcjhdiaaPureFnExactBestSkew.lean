/- FnExactBestSkew: the program's BestSkew answers as the reference's, for all pairs of slices of strings. No condition. -/
import Derived.Test.YtjogodnkcjhdiaaPFnExactBestSkewx5
namespace Go.Proofs.Ytjogodnkcjhdiaa.Pure
open Go.RowKit Go.Proofs.Ytjogodnkcjhdiaa.PFnExactBestSkew Go.Proofs.YtjogodnkcjhdiaaW.PrintWords Go.Proofs.YtjogodnkcjhdiaaW.PrintLast

set_option linter.unusedVariables false
set_option linter.unusedSimpArgs false

theorem w64 {x : Int} (h : -9223372036854775808 ≤ x ∧ x ≤ 9223372036854775807) : wrap64 x = x := by
  unfold wrap64; omega
theorem someF {p : Prop} [Decidable p] (h : ¬ p) : some false = some (decide p) := by rw [decide_eq_false h]
theorem someD {q p : Prop} [Decidable q] [Decidable p] (h : q ↔ p) : some (decide q) = some (decide p) := by rw [decide_eq_decide.2 h]

theorem in_eq (a b c : Int) : spec_l1In.f a b c = some (decide (b ≤ a ∧ a ≤ c)) := by
  unfold spec_l1In.f
  by_cases h : a ≥ b
  · rw [if_pos h]; congr 1; simp [show b ≤ a from h]
  · rw [if_neg h]; congr 1; simp; omega

theorem fill_step {α : Type} (l : List α) (z : α) (i : Nat) (h : i < l.length) :
    (l.take i ++ List.replicate (l.length - i) z).set i (l[i]'h) = l.take (i + 1) ++ List.replicate (l.length - (i + 1)) z := by
  have hl : (l.take i).length = i := by rw [List.length_take]; omega
  rw [List.set_append_right _ _ (by omega), hl, Nat.sub_self, show l.length - i = (l.length - (i + 1)) + 1 by omega, List.replicate_succ, List.set_cons_zero, List.take_succ_eq_append_getElem h, List.append_assoc]
  rfl
theorem fill_length {α : Type} (l : List α) (z : α) (i : Nat) (h : i ≤ l.length) : (l.take i ++ List.replicate (l.length - i) z).length = l.length := by
  simp; omega

theorem rd_get (l : List Int) (i : Nat) (h : i < l.length) : rd l (i : Int) = l[i] := by
  unfold rd; rw [Int.toNat_natCast, List.getD_eq_getElem?_getD, List.getElem?_eq_getElem h]; rfl

theorem rdB_get (l : List ByteArray) (i : Nat) (h : i < l.length) : rdOf ByteArray.empty l (i : Int) = l[i] := by
  unfold rdOf; rw [Int.toNat_natCast, List.getD_eq_getElem?_getD, List.getElem?_eq_getElem h]; rfl
theorem drop_get {α : Type} (l : List α) (i : Nat) (h : i < l.length) : l.drop i = l[i] :: l.drop (i + 1) := List.drop_eq_getElem_cons h
/-- the bytes of a string -/
abbrev cs (s : ByteArray) : List Int := bytesOf s
theorem cs_length (s : ByteArray) : (cs s).length = s.size := bytesOf_length s
theorem bt_get (s : ByteArray) (i : Nat) (h : i < s.size) : bt s (i : Int) = (cs s)[i]'(by rw [cs_length]; exact h) := by
  rw [← rd_bytesOf, rd_get _ _ (by rw [bytesOf_length]; exact h)]
theorem szStrings_loop (l : List ByteArray) (hl : l.length ≤ 1048576) (hs : ∀ s ∈ l, s.size ≤ maxLen) (d : Nat) : ∀ (k i : Nat) (n : Int), i + d = l.length → d < k → 0 ≤ n ∧ n ≤ 1048576 →
    ∃ r, laws_szStringS.l0 k l n i = some r ∧ (0 ≤ r → r ≤ n ∧ ∀ s ∈ l.drop i, s.size ≤ n) := by
  induction d with
  | zero =>
    intro k i n hi hk hn
    obtain ⟨k, rfl⟩ : ∃ j, k = j + 1 := ⟨k - 1, by omega⟩
    exact ⟨n, by rw [laws_szStringS.l0, if_neg (by omega)], fun _ => ⟨Int.le_refl _, by rw [List.drop_of_length_le (by omega)]; simp⟩⟩
  | succ d ih =>
    intro k i n hi hk hn
    obtain ⟨k, rfl⟩ : ∃ j, k = j + 1 := ⟨k - 1, by omega⟩
    have h1 : l[i].size ≤ maxLen := hs _ (List.getElem_mem _)
    unfold maxLen at h1
    rw [laws_szStringS.l0, if_pos (by omega), if_pos (by omega), rdB_get l i (by omega), w64 (x := n - _) (by omega), w64 (by omega)]
    by_cases h : n - (l[i].size : Int) < 0
    · exact ⟨-1, by rw [if_pos h], fun h' => by omega⟩
    · obtain ⟨r, hr, hb⟩ := ih k (i + 1) (n - l[i].size) (by omega) (by omega) (by omega)
      refine ⟨r, by rw [if_neg h]; exact hr, fun h' => ?_⟩
      obtain ⟨b1, b2⟩ := hb h'
      refine ⟨by omega, ?_⟩
      rw [drop_get l i (by omega), List.forall_mem_cons]
      exact ⟨by omega, fun s hs' => by have := b2 s hs'; omega⟩
/-- the guard on the size of an argument: what it lets through is small -/
theorem szStrings_eq (l : List ByteArray) (hl : l.length ≤ maxLen) (hs : ∀ s ∈ l, s.size ≤ maxLen) (n : Int) (hn : 0 ≤ n ∧ n ≤ 1048576) :
    ∃ r, (∀ k, l.length < k → laws_szStringS.f k l n = some r) ∧ (0 ≤ r → r ≤ n ∧ l.length ≤ 1048576 ∧ ∀ s ∈ l, s.size ≤ 1048576) := by
  have hl' := hl
  unfold maxLen at hl'
  by_cases h : n - (l.length : Int) < 0
  · exact ⟨-1, fun k _ => by unfold laws_szStringS.f; rw [w64 (by omega), if_pos h], fun h' => by omega⟩
  · obtain ⟨r, hr, hb⟩ := szStrings_loop l (by omega) hs l.length (l.length + 1) 0 (n - l.length) (by omega) (by omega) (by omega)
    refine ⟨r, fun k hk => ?_, fun h' => ?_⟩
    · unfold laws_szStringS.f
      rw [w64 (by omega), if_neg h]
      obtain ⟨q, hq, _⟩ := szStrings_loop l (by omega) hs l.length k 0 (n - l.length) (by omega) (by omega) (by omega)
      have := at_rounds (g := fun k => laws_szStringS.l0 k l (n - l.length) ((0 : Nat) : Int)) (fun k => laws_szStringS.mono_l k _ _ _) (show l.length + 1 ≤ k by omega) hr
      exact this
    · obtain ⟨b1, b2⟩ := hb h'
      refine ⟨by omega, by omega, fun s hs' => ?_⟩
      have := b2 s (by simpa using hs')
      omega
theorem toStrings_loop (l : List ByteArray) (hl : l.length ≤ 1048576) (d : Nat) : ∀ (k i : Nat), i + d = l.length → d < k →
    laws_toStringS.l0 k l (l.take i ++ List.replicate (l.length - i) (⟨#[]⟩ : ByteArray)) i = some l := by
  induction d with
  | zero =>
    intro k i hi hk
    obtain ⟨k, rfl⟩ : ∃ j, k = j + 1 := ⟨k - 1, by omega⟩
    rw [laws_toStringS.l0, if_neg (by omega), show l.length - i = 0 by omega, List.replicate_zero, List.append_nil, List.take_of_length_le (by omega)]
  | succ d ih =>
    intro k i hi hk
    obtain ⟨k, rfl⟩ : ∃ j, k = j + 1 := ⟨k - 1, by omega⟩
    rw [laws_toStringS.l0, if_pos (by omega), if_pos (by omega), fill_length _ _ _ (by omega), if_pos (by omega), Int.toNat_natCast, rdB_get l i (by omega), fill_step l _ i (by omega), w64 (by omega)]
    exact ih k (i + 1) (by omega) (by omega)
theorem toStrings_eq (l : List ByteArray) (hl : l.length ≤ 1048576) (k : Nat) (hk : l.length < k) : laws_toStringS.f k l = some l := by
  unfold laws_toStringS.f
  rw [if_pos (by omega), if_pos (by omega), Int.toNat_natCast]
  have := toStrings_loop l hl l.length k 0 (by omega) hk
  simpa using this
theorem eqStrings_loop (l : List ByteArray) (hl : l.length ≤ 1048576) (d : Nat) : ∀ (k i : Nat), i + d = l.length → d < k → laws_eqStringS.l0 k l l i = some true := by
  induction d with
  | zero =>
    intro k i hi hk
    obtain ⟨k, rfl⟩ : ∃ j, k = j + 1 := ⟨k - 1, by omega⟩
    rw [laws_eqStringS.l0, if_neg (by omega)]
  | succ d ih =>
    intro k i hi hk
    obtain ⟨k, rfl⟩ : ∃ j, k = j + 1 := ⟨k - 1, by omega⟩
    rw [laws_eqStringS.l0, if_pos (by omega), if_pos (by omega), if_pos (by omega), if_pos rfl, w64 (by omega)]
    exact ih k (i + 1) (by omega) (by omega)
theorem eqStrings_self (l : List ByteArray) (hl : l.length ≤ 1048576) (k : Nat) (hk : l.length < k) : laws_eqStringS.f k l l = some true := by
  unfold laws_eqStringS.f
  rw [if_pos rfl]
  exact eqStrings_loop l hl l.length k 0 (by omega) hk

/-- rectangles of some characters: the rows are as long as the first, and hold those characters alone -/
def RowOK (ch : Int → Bool) (n : Nat) (s : ByteArray) : Bool := s.size == n && (cs s).all ch
def wid (l : List ByteArray) : Nat := (l.headD ByteArray.empty).size
def Grid (ch : Int → Bool) (least rows width : Nat) (l : List ByteArray) : Bool :=
  decide (least ≤ l.length) && decide (l.length ≤ rows) && decide (least ≤ wid l) && decide (wid l ≤ width) && l.all (RowOK ch (wid l))
def fuelR : List ByteArray → Nat
  | [] => 1
  | s :: r => s.size + 2 + fuelR r
theorem wid_get (l : List ByteArray) (h : 0 < l.length) : wid l = (l[0]'h).size := by
  cases l with
  | nil => simp at h
  | cons a r => rfl
theorem indexByte_found (l : List UInt8) (c : UInt8) : (Go.Lib.indexByte l c < 0) ↔ c ∉ l := by
  induction l with
  | nil => simp [Go.Lib.indexByte]
  | cons b r ih =>
    have hge : ∀ l : List UInt8, -1 ≤ Go.Lib.indexByte l c := by
      intro l
      induction l with
      | nil => simp [Go.Lib.indexByte]
      | cons b r ih => unfold Go.Lib.indexByte; split; omega; split <;> omega
    have hr := hge r
    unfold Go.Lib.indexByte
    by_cases h : b = c
    · subst h; simp
    · have h1 : (b == c) = false := by simpa using h
      have h2 : c ≠ b := fun e => h e.symm
      rw [h1]
      simp only [Bool.false_eq_true, if_false, List.mem_cons, not_or]
      by_cases h3 : Go.Lib.indexByte r c = -1
      · have h4 : (Go.Lib.indexByte r c == -1) = true := by simpa using h3
        rw [h4]; simp only [if_true]
        exact ⟨fun _ => ⟨h2, ih.1 (by omega)⟩, fun _ => by omega⟩
      · have h4 : (Go.Lib.indexByte r c == -1) = false := by simpa using h3
        rw [h4]; simp only [Bool.false_eq_true, if_false]
        exact ⟨fun h => by omega, fun h => absurd (ih.2 h.2) (by omega)⟩

def chS (c : Int) : Bool := c == 46 || c == 111 || c == 63

theorem scGood_row (x0 : List ByteArray) (s : ByteArray) (hs : s.size ≤ 1048576) (x6 : List ByteArray) (x7 x8 : Int) (d : Nat) : ∀ (k i : Nat), i + d = s.size →
    spec_scGood.l1 (k + d + 1) x0 s i x6 x7 x8 = if ((cs s).drop i).all chS then spec_scGood.l0 k x0 x6 x7 (wrap64 (x8 + 1)) else some false := by
  induction d with
  | zero =>
    intro k i hi
    rw [spec_scGood.l1, if_neg (by omega), List.drop_of_length_le (by rw [cs_length]; omega)]
    simp
  | succ d ih =>
    intro k i hi
    rw [spec_scGood.l1, if_pos (by omega), if_pos (by omega), bt_get s i (by omega), drop_get (cs s) i (by rw [cs_length]; omega), List.all_cons, w64 (by omega), show k + (d + 1) = k + d + 1 by omega, show ((i : Int) + 1) = ((i + 1 : Nat) : Int) by omega, ih k (i + 1) (by omega)]
    generalize (cs s)[i]'_ = c
    unfold chS
    by_cases h1 : c = 46
    · simp [h1]
    · by_cases h2 : c = 111
      · simp [h2]
      · by_cases h3 : c = 63
        · simp [h3]
        · simp [h1, h2, h3]
theorem scGood_loop (l : List ByteArray) (hl : l.length ≤ 1048576) (hs : ∀ s ∈ l, s.size ≤ 1048576) (d : Nat) : ∀ (k i : Nat), i + d = l.length → fuelR (l.drop i) ≤ k →
    spec_scGood.l0 k l l l.length i = if (l.drop i).all (RowOK chS (wid l)) then
      (if 1 ≤ l.length ∧ l.length ≤ 60 then (if 0 < (l.length : Int) then some (decide (1 ≤ wid l ∧ wid l ≤ 20)) else none) else some false) else some false := by
  induction d with
  | zero =>
    intro k i hi hk
    rw [List.drop_of_length_le (by omega)] at hk ⊢
    obtain ⟨k, rfl⟩ : ∃ j, k = j + 1 := ⟨k - 1, by unfold fuelR at hk; omega⟩
    rw [spec_scGood.l0, if_neg (by omega), in_eq]
    simp only [Option.bind_some, decide_eq_true_eq, List.all_nil, if_true]
    by_cases h0 : 0 < l.length
    · rw [if_pos (show 0 < (l.length : Int) by omega), show ((0 : Int)) = ((0 : Nat) : Int) from rfl, rdB_get l 0 h0, in_eq, wid_get l h0]
      simp only [Option.bind_some]
      split
      · rw [if_pos (by omega), if_pos (by omega)]; exact someD (by omega)
      · rw [if_neg (by omega)]
    · rw [if_neg (by omega), if_neg (by omega)]
  | succ d ih =>
    intro k i hi hk
    have hx : l[i].size ≤ 1048576 := hs _ (List.getElem_mem _)
    rw [drop_get l i (by omega)] at hk ⊢
    unfold fuelR at hk
    obtain ⟨j, hj⟩ : ∃ j, k = j + l[i].size + 1 + 1 := ⟨k - l[i].size - 2, by omega⟩
    rw [hj]
    have h0 : 0 < l.length := by omega
    rw [spec_scGood.l0, if_pos (by omega), if_pos (by omega), if_pos (by omega), if_pos (by omega), rdB_get l i (by omega)]
    rw [show rdOf ByteArray.empty l 0 = l[0] from rdB_get l 0 h0, ← wid_get l h0, List.all_cons]
    by_cases h1 : (l[i].size : Int) = (wid l : Int)
    · have h1' : (l[i].size == wid l) = true := by simp; omega
      rw [if_pos h1, show (0 : Int) = ((0 : Nat) : Int) from rfl, scGood_row l l[i] hx l _ _ l[i].size j 0 (by omega), List.drop_zero, w64 (by omega), show ((i : Int) + 1) = ((i + 1 : Nat) : Int) by omega, ih j (i + 1) (by omega) (by omega)]
      unfold RowOK
      rw [h1', Bool.true_and]
      by_cases h2 : (cs l[i]).all chS = true
      · rw [if_pos h2, h2, Bool.true_and]
        rfl
      · rw [if_neg h2, Bool.eq_false_iff.2 h2, Bool.false_and, if_neg (by decide)]
    · have h1' : (l[i].size == wid l) = false := by simp; omega
      rw [if_neg h1]
      unfold RowOK
      rw [h1', Bool.false_and, Bool.false_and, if_neg (by decide)]
theorem scGood_eq (l : List ByteArray) (hl : l.length ≤ 1048576) (hs : ∀ s ∈ l, s.size ≤ 1048576) (k : Nat) (hk : fuelR l ≤ k) : spec_scGood.f k l = some (Grid chS 1 60 20 l) := by
  unfold spec_scGood.f
  have := scGood_loop l hl hs l.length k 0 (by omega) (by simpa using hk)
  rw [List.drop_zero] at this
  rw [show (0 : Int) = ((0 : Nat) : Int) from rfl, this]
  unfold Grid
  by_cases h : l.all (RowOK chS (wid l)) = true
  · rw [if_pos h, h, Bool.and_true]
    by_cases h1 : 1 ≤ l.length ∧ l.length ≤ 60
    · rw [if_pos h1, if_pos (by omega), decide_eq_true h1.1, decide_eq_true h1.2]
      by_cases h2 : 1 ≤ wid l <;> by_cases h3 : wid l ≤ 20 <;> simp [h2, h3]
    · rw [if_neg h1]
      by_cases h2 : 1 ≤ l.length <;> by_cases h3 : l.length ≤ 60
      · exact absurd ⟨h2, h3⟩ h1
      all_goals simp [h2, h3]
  · rw [if_neg h, Bool.eq_false_iff.2 h, Bool.and_false]

def chIn (chars : ByteArray) (c : Int) : Bool := decide (c.toNat.toUInt8 ∈ chars.data.toList)
theorem isGrid_row (x0 : List ByteArray) (ch s : ByteArray) (hs : s.size ≤ 1048576) (x40 : List ByteArray) (x41 x42 : Int) (d : Nat) : ∀ (k i : Nat), i + d = s.size →
    impl_isGridOf.l1 (k + d + 1) x0 ch s i x40 x41 x42 = if ((cs s).drop i).all (chIn ch) then impl_isGridOf.l0 k x0 ch x40 x41 (wrap64 (x42 + 1)) else some false := by
  induction d with
  | zero =>
    intro k i hi
    rw [impl_isGridOf.l1, if_neg (by omega), List.drop_of_length_le (by rw [cs_length]; omega)]
    simp
  | succ d ih =>
    intro k i hi
    rw [impl_isGridOf.l1, if_pos (by omega), if_pos (by omega), bt_get s i (by omega), drop_get (cs s) i (by rw [cs_length]; omega), List.all_cons, w64 (by omega), show k + (d + 1) = k + d + 1 by omega, show ((i : Int) + 1) = ((i + 1 : Nat) : Int) by omega, ih k (i + 1) (by omega)]
    generalize (cs s)[i]'_ = c
    unfold strings_IndexByte.f chIn
    simp only [Option.bind_some]
    have hf := indexByte_found ch.data.toList c.toNat.toUInt8
    by_cases h : c.toNat.toUInt8 ∈ ch.data.toList
    · rw [if_neg (fun h' => hf.1 h' h), decide_eq_true h, Bool.true_and]
    · rw [if_pos (hf.2 h), decide_eq_false h, Bool.false_and, if_neg (by decide)]
theorem isGrid_loop (l : List ByteArray) (ch : ByteArray) (hl : l.length ≤ 1048576) (hs : ∀ s ∈ l, s.size ≤ 1048576) (d : Nat) : ∀ (k i : Nat), i + d = l.length → fuelR (l.drop i) ≤ k →
    impl_isGridOf.l0 k l ch l l.length i = some ((l.drop i).all (RowOK (chIn ch) (wid l))) := by
  induction d with
  | zero =>
    intro k i hi hk
    rw [List.drop_of_length_le (by omega)] at hk ⊢
    obtain ⟨k, rfl⟩ : ∃ j, k = j + 1 := ⟨k - 1, by unfold fuelR at hk; omega⟩
    rw [impl_isGridOf.l0, if_neg (by omega)]
    rfl
  | succ d ih =>
    intro k i hi hk
    have hx : l[i].size ≤ 1048576 := hs _ (List.getElem_mem _)
    rw [drop_get l i (by omega)] at hk ⊢
    unfold fuelR at hk
    obtain ⟨j, hj⟩ : ∃ j, k = j + l[i].size + 1 + 1 := ⟨k - l[i].size - 2, by omega⟩
    rw [hj]
    have h0 : 0 < l.length := by omega
    rw [impl_isGridOf.l0, if_pos (by omega), if_pos (by omega), if_pos (by omega), if_pos (by omega), rdB_get l i (by omega)]
    rw [show rdOf ByteArray.empty l 0 = l[0] from rdB_get l 0 h0, ← wid_get l h0, List.all_cons]
    by_cases h1 : (l[i].size : Int) = (wid l : Int)
    · have h1' : (l[i].size == wid l) = true := by simp; omega
      rw [if_pos h1, show (0 : Int) = ((0 : Nat) : Int) from rfl, isGrid_row l ch l[i] hx l _ _ l[i].size j 0 (by omega), List.drop_zero, w64 (by omega), show ((i : Int) + 1) = ((i + 1 : Nat) : Int) by omega, ih j (i + 1) (by omega) (by omega)]
      unfold RowOK
      rw [h1', Bool.true_and]
      by_cases h2 : (cs l[i]).all (chIn ch) = true
      · rw [if_pos h2, h2, Bool.true_and]
      · rw [if_neg h2, Bool.eq_false_iff.2 h2, Bool.false_and]
    · have h1' : (l[i].size == wid l) = false := by simp; omega
      rw [if_neg h1]
      unfold RowOK
      rw [h1', Bool.false_and, Bool.false_and]
theorem isGrid_eq (l : List ByteArray) (hl : l.length ≤ 1048576) (hs : ∀ s ∈ l, s.size ≤ 1048576) (least rows width : Nat) (h1 : 1 ≤ least) (ch : ByteArray) (k : Nat) (hk : fuelR l < k) :
    impl_isGridOf.f k l least rows width ch = some (Grid (chIn ch) least rows width l) := by
  obtain ⟨k, rfl⟩ : ∃ j, k = j + 1 := ⟨k - 1, by omega⟩
  unfold impl_isGridOf.f Grid
  simp only [impl_isGridOf.j0, if_true]
  by_cases h2 : least ≤ l.length
  · by_cases h3 : l.length ≤ rows
    · have h0 : 0 < l.length := by omega
      rw [if_neg (by omega), if_neg (by omega), if_pos (by omega), show rdOf ByteArray.empty l 0 = l[0] from rdB_get l 0 h0, ← wid_get l h0, decide_eq_true h2, decide_eq_true h3]
      by_cases h4 : least ≤ wid l
      · rw [if_neg (by omega), decide_eq_true h4]
        by_cases h5 : wid l ≤ width
        · have := isGrid_loop l ch hl hs l.length k 0 (by omega) (by simpa using (by omega : fuelR l ≤ k))
          rw [List.drop_zero] at this
          rw [if_neg (by simp; omega), decide_eq_true h5, show (0 : Int) = ((0 : Nat) : Int) from rfl, this]
          simp
        · rw [if_pos (by simp; omega), decide_eq_false h5]; simp
      · rw [if_pos (by omega), decide_eq_false h4]; simp
    · rw [if_neg (by omega), if_pos (by omega), decide_eq_false h3]; simp
  · rw [if_pos (by omega), decide_eq_false h2]; simp

theorem chIn_scan (c : Int) (hc : 0 ≤ c ∧ c ≤ 255) : chIn ⟨#[46, 111, 63]⟩ c = chS c := by
  unfold chIn chS
  obtain ⟨n, rfl⟩ : ∃ n : Nat, c = n := ⟨c.toNat, by omega⟩
  have hn : n < 256 := by omega
  rw [Int.toNat_natCast]
  have key : ∀ m : Fin 256, decide (m.val.toUInt8 ∈ [(46 : UInt8), 111, 63]) = ((m.val : Int) == 46 || (m.val : Int) == 111 || (m.val : Int) == 63) := by decide +kernel
  exact key ⟨n, hn⟩
theorem cs_range (s : ByteArray) : ∀ c ∈ cs s, 0 ≤ c ∧ c ≤ 255 := by
  intro c hc
  unfold cs bytesOf at hc
  obtain ⟨b, _, rfl⟩ := List.mem_map.1 hc
  have := b.toNat_lt
  omega
theorem all_congr' {α : Type} (l : List α) (p q : α → Bool) (h : ∀ x ∈ l, p x = q x) : l.all p = l.all q := by
  induction l with
  | nil => rfl
  | cons a r ih => rw [List.all_cons, List.all_cons, h a (by simp), ih (fun x hx => h x (List.mem_cons_of_mem _ hx))]
theorem rowOK_scan (n : Nat) (s : ByteArray) : RowOK (chIn ⟨#[46, 111, 63]⟩) n s = RowOK chS n s := by
  unfold RowOK
  rw [all_congr' _ _ _ (fun c hc => chIn_scan c (cs_range s c hc))]
theorem grid_scan (least rows width : Nat) (l : List ByteArray) : Grid (chIn ⟨#[46, 111, 63]⟩) least rows width l = Grid chS least rows width l := by
  unfold Grid
  rw [all_congr' _ _ _ (fun s _ => rowOK_scan (wid l) s)]

theorem grid_facts {ch : Int → Bool} {least rows width : Nat} {l : List ByteArray} (h : Grid ch least rows width l = true) :
    least ≤ l.length ∧ l.length ≤ rows ∧ least ≤ wid l ∧ wid l ≤ width ∧ ∀ s ∈ l, s.size = wid l ∧ ∀ c ∈ cs s, ch c = true := by
  unfold Grid at h
  simp only [Bool.and_eq_true, decide_eq_true_eq, List.all_eq_true] at h
  obtain ⟨⟨⟨⟨h1, h2⟩, h3⟩, h4⟩, h5⟩ := h
  refine ⟨h1, h2, h3, h4, fun s hs => ?_⟩
  have := h5 s hs
  unfold RowOK at this
  simp only [Bool.and_eq_true, beq_iff_eq, List.all_eq_true] at this
  exact this
theorem chS_cases {c : Int} (h : chS c = true) : c = 46 ∨ c = 111 ∨ c = 63 := by
  unfold chS at h
  simp only [Bool.or_eq_true, beq_iff_eq] at h
  omega
theorem fuelR_bound (l : List ByteArray) (n : Nat) (h : ∀ s ∈ l, s.size ≤ n) : fuelR l ≤ l.length * (n + 2) + 1 := by
  induction l with
  | nil => simp [fuelR]
  | cons s r ih =>
    have h1 := ih (fun x hx => h x (List.mem_cons_of_mem _ hx))
    have h2 := h s (by simp)
    unfold fuelR
    rw [List.length_cons, Nat.add_mul]
    omega

/-- at how many places two scans differ without a stain -/
def rowFaults : List Int → List Int → Int
  | x :: xs, y :: ys => (if x = y then 0 else if x = 63 then 0 else if y = 63 then 0 else 1) + rowFaults xs ys
  | _, _ => 0
def faults : List ByteArray → List ByteArray → Int
  | s :: r, t :: q => rowFaults (cs s) (cs t) + faults r q
  | _, _ => 0
theorem rowFaults_bounds (a b : List Int) : 0 ≤ rowFaults a b ∧ rowFaults a b ≤ a.length := by
  induction a generalizing b with
  | nil => simp [rowFaults]
  | cons x xs ih =>
    cases b with
    | nil => simp [rowFaults]; omega
    | cons y ys =>
      have := ih ys
      rw [rowFaults, List.length_cons]
      repeat' split
      all_goals omega
theorem faults_bounds (a b : List ByteArray) (n : Nat) (h : ∀ s ∈ a, s.size ≤ n) : 0 ≤ faults a b ∧ faults a b ≤ a.length * n := by
  induction a generalizing b with
  | nil => simp [faults]
  | cons s r ih =>
    cases b with
    | nil => simp only [faults, Int.le_refl, true_and]; exact Int.mul_nonneg (by omega) (by omega)
    | cons t q =>
      have h1 := ih q (fun x hx => h x (List.mem_cons_of_mem _ hx))
      have h2 := h s (by simp)
      have h3 := rowFaults_bounds (cs s) (cs t)
      rw [cs_length] at h3
      rw [faults, List.length_cons, show (((r.length + 1 : Nat) : Int) * (n : Int)) = (r.length : Int) * n + n by rw [Int.natCast_add, Int.add_mul]; simp]
      omega

theorem specFaults_row (x1 : List ByteArray) (s t : ByteArray) (hs : s.size ≤ 1000) (ht : t.size = s.size) (x10 : List ByteArray) (x11 x12 : Int) (d : Nat) : ∀ (k i : Nat) (n : Int), i + d = s.size → 0 ≤ n ∧ n + d ≤ 1000000000 →
    spec_scApart.l1 (k + d + 1) x1 n s t i x10 x11 x12 = spec_scApart.l0 k x1 (n + rowFaults ((cs s).drop i) ((cs t).drop i)) x10 x11 (wrap64 (x12 + 1)) := by
  induction d with
  | zero =>
    intro k i n hi hn
    rw [spec_scApart.l1, if_neg (by omega), List.drop_of_length_le (by rw [cs_length]; omega)]
    simp [rowFaults]
  | succ d ih =>
    intro k i n hi hn
    rw [spec_scApart.l1, if_pos (by omega), if_pos (by omega), if_pos (by omega), bt_get s i (by omega), bt_get t i (by omega), drop_get (cs s) i (by rw [cs_length]; omega), drop_get (cs t) i (by rw [cs_length]; omega), rowFaults, w64 (x := (i : Int) + 1) (by omega), show k + (d + 1) = k + d + 1 by omega, show ((i : Int) + 1) = ((i + 1 : Nat) : Int) by omega]
    split
    · rw [ih k (i + 1) n (by omega) (by omega), Int.zero_add]
    · split
      · rw [ih k (i + 1) n (by omega) (by omega), Int.zero_add]
      · split
        · rw [ih k (i + 1) n (by omega) (by omega), Int.zero_add]
        · rw [w64 (by omega), ih k (i + 1) (n + 1) (by omega) (by omega), Int.add_assoc]
theorem specFaults_loop (a b : List ByteArray) (ha : a.length ≤ 1000) (hab : b.length = a.length) (hs : ∀ i (h : i < a.length), a[i].size ≤ 1000 ∧ (b[i]'(by omega)).size = a[i].size) (d : Nat) :
    ∀ (k i : Nat) (n : Int), i + d = a.length → fuelR (a.drop i) ≤ k → 0 ≤ n ∧ n + 1000 * d ≤ 100000000 →
    spec_scApart.l0 k b n a a.length i = some (n + faults (a.drop i) (b.drop i)) := by
  induction d with
  | zero =>
    intro k i n hi hk hn
    rw [List.drop_of_length_le (by omega)] at hk ⊢
    obtain ⟨k, rfl⟩ : ∃ j, k = j + 1 := ⟨k - 1, by unfold fuelR at hk; omega⟩
    rw [spec_scApart.l0, if_neg (by omega)]
    simp [faults]
  | succ d ih =>
    intro k i n hi hk hn
    obtain ⟨h1, h2⟩ := hs i (by omega)
    rw [drop_get a i (by omega)] at hk ⊢
    unfold fuelR at hk
    obtain ⟨j, hj⟩ : ∃ j, k = j + a[i].size + 1 + 1 := ⟨k - a[i].size - 2, by omega⟩
    have hb := rowFaults_bounds (cs a[i]) (cs (b[i]'(by omega)))
    rw [cs_length] at hb
    rw [hj, spec_scApart.l0, if_pos (by omega), if_pos (by omega), if_pos (by omega), if_pos (by omega), rdB_get a i (by omega), rdB_get b i (by omega), drop_get b i (by omega), faults, show (0 : Int) = ((0 : Nat) : Int) from rfl, specFaults_row b a[i] _ h1 h2 a a.length i a[i].size j 0 n (by omega) (by omega), List.drop_zero, List.drop_zero, w64 (by omega), show ((i : Int) + 1) = ((i + 1 : Nat) : Int) by omega, ih j (i + 1) _ (by omega) (by omega) (by omega), Int.add_assoc]
theorem specFaults_eq (a b : List ByteArray) (ha : a.length ≤ 1000) (hab : b.length = a.length) (hs : ∀ i (h : i < a.length), a[i].size ≤ 1000 ∧ (b[i]'(by omega)).size = a[i].size) (k : Nat) (hk : fuelR a ≤ k) :
    spec_scApart.f k a b = some (faults a b) := by
  unfold spec_scApart.f
  have := specFaults_loop a b ha hab hs a.length k 0 0 (by omega) (by simpa using hk) (by omega)
  rw [List.drop_zero, List.drop_zero, Int.zero_add] at this
  exact this

theorem implFaults_row (a b : List ByteArray) (r : Nat) (hr : r < a.length) (hb : b.length = a.length) (hs : a[r].size ≤ 1000) (ht : (b[r]'(by omega)).size = a[r].size) (x9 x10 : Int) (d : Nat) : ∀ (k i : Nat) (n : Int), i + d = a[r].size → 0 ≤ n ∧ n + d ≤ 1000000000 →
    impl_scanFaults.l1 (k + d + 1) a b n r x9 x10 a[r].size i = impl_scanFaults.l0 k a b (n + rowFaults ((cs a[r]).drop i) ((cs (b[r]'(by omega))).drop i)) x9 (wrap64 (x10 + 1)) := by
  induction d with
  | zero =>
    intro k i n hi hn
    rw [impl_scanFaults.l1, if_neg (by omega), List.drop_of_length_le (by rw [cs_length]; omega)]
    simp [rowFaults]
  | succ d ih =>
    intro k i n hi hn
    rw [impl_scanFaults.l1, if_pos (by omega), if_pos (by omega), if_pos (by omega), if_pos (by omega), rdB_get a r hr, rdB_get b r (by omega), if_pos (by omega), if_pos (by omega), if_pos (by omega), bt_get a[r] i (by omega), bt_get (b[r]'(by omega)) i (by omega), drop_get (cs a[r]) i (by rw [cs_length]; omega), drop_get (cs (b[r]'(by omega))) i (by rw [cs_length]; omega), rowFaults, w64 (x := (i : Int) + 1) (by omega), show k + (d + 1) = k + d + 1 by omega, show ((i : Int) + 1) = ((i + 1 : Nat) : Int) by omega]
    split
    · rw [ih k (i + 1) n (by omega) (by omega), Int.zero_add]
    · split
      · rw [ih k (i + 1) n (by omega) (by omega), Int.zero_add]
      · split
        · rw [ih k (i + 1) n (by omega) (by omega), Int.zero_add]
        · rw [w64 (by omega), ih k (i + 1) (n + 1) (by omega) (by omega), Int.add_assoc]
theorem implFaults_loop (a b : List ByteArray) (ha : a.length ≤ 1000) (hab : b.length = a.length) (hs : ∀ i (h : i < a.length), a[i].size ≤ 1000 ∧ (b[i]'(by omega)).size = a[i].size) (d : Nat) :
    ∀ (k i : Nat) (n : Int), i + d = a.length → fuelR (a.drop i) ≤ k → 0 ≤ n ∧ n + 1000 * d ≤ 100000000 →
    impl_scanFaults.l0 k a b n a.length i = some (n + faults (a.drop i) (b.drop i)) := by
  induction d with
  | zero =>
    intro k i n hi hk hn
    rw [List.drop_of_length_le (by omega)] at hk ⊢
    obtain ⟨k, rfl⟩ : ∃ j, k = j + 1 := ⟨k - 1, by unfold fuelR at hk; omega⟩
    rw [impl_scanFaults.l0, if_neg (by omega)]
    simp [faults]
  | succ d ih =>
    intro k i n hi hk hn
    obtain ⟨h1, h2⟩ := hs i (by omega)
    rw [drop_get a i (by omega)] at hk ⊢
    unfold fuelR at hk
    obtain ⟨j, hj⟩ : ∃ j, k = j + a[i].size + 1 + 1 := ⟨k - a[i].size - 2, by omega⟩
    have hb := rowFaults_bounds (cs a[i]) (cs (b[i]'(by omega)))
    rw [cs_length] at hb
    rw [hj, impl_scanFaults.l0, if_pos (by omega), if_pos (by omega), if_pos (by omega), rdB_get a i (by omega), drop_get b i (by omega), faults, show (0 : Int) = ((0 : Nat) : Int) from rfl, implFaults_row a b i (by omega) hab h1 h2 a.length i a[i].size j 0 n (by omega) (by omega), List.drop_zero, List.drop_zero, w64 (by omega), show ((i : Int) + 1) = ((i + 1 : Nat) : Int) by omega, ih j (i + 1) _ (by omega) (by omega) (by omega), Int.add_assoc]
theorem implFaults_eq (a b : List ByteArray) (ha : a.length ≤ 1000) (hab : b.length = a.length) (hs : ∀ i (h : i < a.length), a[i].size ≤ 1000 ∧ (b[i]'(by omega)).size = a[i].size) (k : Nat) (hk : fuelR a ≤ k) :
    impl_scanFaults.f k a b = some (faults a b) := by
  unfold impl_scanFaults.f
  have := implFaults_loop a b ha hab hs a.length k 0 0 (by omega) (by simpa using hk) (by omega)
  rw [List.drop_zero, List.drop_zero, Int.zero_add] at this
  exact this

theorem isScan_eq (l : List ByteArray) (hl : l.length ≤ 1048576) (hs : ∀ s ∈ l, s.size ≤ 1048576) (k : Nat) (hk : fuelR l < k) : impl_IsScan.f k l = some (Grid chS 1 60 20 l) := by
  unfold impl_IsScan.f
  rw [show (1 : Int) = ((1 : Nat) : Int) from rfl, show (60 : Int) = ((60 : Nat) : Int) from rfl, show (20 : Int) = ((20 : Nat) : Int) from rfl, isGrid_eq l hl hs 1 60 20 (by omega) _ _ hk, grid_scan]
  rfl

/-- two scans of one size -/
def Two (a b : List ByteArray) : Bool := Grid chS 1 60 20 a && Grid chS 1 60 20 b && decide (a.length = b.length) && decide (wid a = wid b)
theorem two_facts {a b : List ByteArray} (h : Two a b = true) : Grid chS 1 60 20 a = true ∧ Grid chS 1 60 20 b = true ∧ a.length = b.length ∧ wid a = wid b := by
  unfold Two at h
  simp only [Bool.and_eq_true, decide_eq_true_eq] at h
  exact ⟨h.1.1.1, h.1.1.2, h.1.2, h.2⟩
theorem two_sizes {a b : List ByteArray} (h : Two a b = true) : a.length ≤ 60 ∧ b.length = a.length ∧ ∀ i (hi : i < a.length), a[i].size ≤ 20 ∧ (b[i]'(by have := (two_facts h).2.2.1; omega)).size = a[i].size := by
  obtain ⟨h1, h2, h3, h4⟩ := two_facts h
  obtain ⟨a1, a2, a3, a4, a5⟩ := grid_facts h1
  obtain ⟨b1, b2, b3, b4, b5⟩ := grid_facts h2
  refine ⟨a2, h3.symm, fun i hi => ?_⟩
  have e1 := (a5 _ (List.getElem_mem hi)).1
  have e2 := (b5 _ (List.getElem_mem (show i < b.length by omega))).1
  omega

theorem specTwo_eq (a b : List ByteArray) (ha : a.length ≤ 1048576) (hsa : ∀ s ∈ a, s.size ≤ 1048576) (hb : b.length ≤ 1048576) (hsb : ∀ s ∈ b, s.size ≤ 1048576) (k : Nat) (hk : fuelR a < k ∧ fuelR b < k) : spec_scTwo.f k a b = some (Two a b) := by
  unfold spec_scTwo.f Two
  rw [scGood_eq a ha hsa _ (by omega), scGood_eq b hb hsb _ (by omega)]
  simp only [Option.bind_some]
  by_cases h1 : Grid chS 1 60 20 a = true
  · by_cases h2 : Grid chS 1 60 20 b = true
    · have a1 := (grid_facts h1).1
      have b1 := (grid_facts h2).1
      rw [if_pos h1, if_pos h2, h1, h2, show rdOf ByteArray.empty a 0 = a[0] from rdB_get a 0 (by omega), show rdOf ByteArray.empty b 0 = b[0] from rdB_get b 0 (by omega), ← wid_get a (by omega), ← wid_get b (by omega)]
      by_cases h3 : a.length = b.length
      · rw [if_pos (by omega), if_pos (by omega), if_pos (by omega), decide_eq_true h3]
        by_cases h4 : wid a = wid b
        · simp [h4]
        · have : ((wid a : Int) == (wid b : Int)) = false := by simp; omega
          rw [this, decide_eq_false h4]; rfl
      · rw [if_neg (by omega), decide_eq_false h3]; rfl
    · rw [if_pos h1, if_neg h2, h1, Bool.eq_false_iff.2 h2]; rfl
  · rw [if_neg h1, Bool.eq_false_iff.2 h1]; rfl
theorem sameSize_eq (a b : List ByteArray) (ha : a.length ≤ 1048576) (hsa : ∀ s ∈ a, s.size ≤ 1048576) (hb : b.length ≤ 1048576) (hsb : ∀ s ∈ b, s.size ≤ 1048576) (k : Nat) (hk : fuelR a < k ∧ fuelR b < k) : impl_sameSize.f k a b = some (Two a b) := by
  unfold impl_sameSize.f Two
  rw [isScan_eq a ha hsa _ (by omega), isScan_eq b hb hsb _ (by omega)]
  simp only [Option.bind_some]
  by_cases h1 : Grid chS 1 60 20 a = true
  · by_cases h2 : Grid chS 1 60 20 b = true
    · have a1 := (grid_facts h1).1
      have b1 := (grid_facts h2).1
      rw [if_pos h1, if_pos h2, h1, h2, show rdOf ByteArray.empty a 0 = a[0] from rdB_get a 0 (by omega), show rdOf ByteArray.empty b 0 = b[0] from rdB_get b 0 (by omega), ← wid_get a (by omega), ← wid_get b (by omega)]
      by_cases h3 : a.length = b.length
      · rw [if_pos (by omega), if_pos (by omega), if_pos (by omega), decide_eq_true h3]
        by_cases h4 : wid a = wid b
        · simp [h4]
        · have : ((wid a : Int) == (wid b : Int)) = false := by simp; omega
          rw [this, decide_eq_false h4]; rfl
      · rw [if_neg (by omega), decide_eq_false h3]; rfl
    · rw [if_pos h1, if_neg h2, h1, Bool.eq_false_iff.2 h2]; rfl
  · rw [if_neg h1, Bool.eq_false_iff.2 h1]; rfl

theorem w_succ (c : Nat) (h : c ≤ 1000000) : wrap64 ((c : Int) + 1) = ((c + 1 : Nat) : Int) := by rw [w64 (by omega)]; omega
theorem w_pred (n : Nat) (h : n ≤ 1000000) : wrap64 ((n : Int) - 1) = (n : Int) - 1 := w64 (by omega)
/-- rows that a function draws -/
def dRow (f : Nat → Int) (n : Nat) : ByteArray := strOfNums ((List.range n).map f)
def dRows (g : Nat → Nat → Int) (R n : Nat) : List ByteArray := (List.range R).map fun r => dRow (g r) n
theorem strN_append (a b : List Int) : strOfNums (a ++ b) = strOfNums a ++ strOfNums b := by
  unfold strOfNums
  apply ByteArray.ext
  simp
theorem dRow_succ (f : Nat → Int) (n : Nat) : dRow f (n + 1) = dRow f n ++ strOfNums [f n] := by
  unfold dRow
  rw [List.range_succ, List.map_append, strN_append]
  rfl
theorem dRow_zero (f : Nat → Int) : dRow f 0 = ⟨#[]⟩ := rfl
theorem dRow_size (f : Nat → Int) (n : Nat) : (dRow f n).size = n := by
  unfold dRow strOfNums
  show (List.map _ ((List.range n).map f)).toArray.size = n
  simp
theorem dRows_succ (g : Nat → Nat → Int) (R n : Nat) : dRows g (R + 1) n = dRows g R n ++ [dRow (g R) n] := by
  unfold dRows
  rw [List.range_succ, List.map_append]
  rfl
theorem dRows_length (g : Nat → Nat → Int) (R n : Nat) : (dRows g R n).length = R := by simp [dRows]
theorem dRow_congr (f h : Nat → Int) (n : Nat) (e : ∀ c, c < n → f c = h c) : dRow f n = dRow h n := by
  unfold dRow
  congr 1
  apply List.map_congr_left
  intro c hc
  exact e c (List.mem_range.1 hc)
theorem dRows_congr (g h : Nat → Nat → Int) (R n : Nat) (e : ∀ r c, r < R → c < n → g r c = h r c) : dRows g R n = dRows h R n := by
  unfold dRows
  apply List.map_congr_left
  intro r hr
  exact dRow_congr _ _ _ (fun c hc => e r c (List.mem_range.1 hr) hc)
/-- one character of a string -/
theorem extract_one (s : ByteArray) (i : Nat) (h : i < s.size) : s.extract i (i + 1) = strOfNums [bt s i] := by
  rw [bt_get s i h]
  have hd : i < s.data.toList.length := by rw [data_length]; exact h
  apply ByteArray.ext
  apply Array.ext'
  unfold strOfNums cs bytesOf
  simp only [ByteArray.data_extract, Array.toList_extract, List.extract_eq_take_drop]
  rw [show i + 1 - i = 1 by omega, List.drop_eq_getElem_cons hd]
  simp
theorem str1_size (x : Int) : (strOfNums [x]).size = 1 := rfl
theorem drawn_l1 (F : Int → Int → Option Int) (r n : Nat) (f : Nat → Int) (hF : ∀ c, c < n → F (r : Int) (c : Int) = some (f c)) (hn : n ≤ 100000) (hr : r ≤ 100000) (x0 x1 : Int) (acc : List ByteArray) (ha : acc.length ≤ 100000) (d : Nat) :
    ∀ (k c : Nat), c + d = n → d < k → impl_drawn.l1 F k x0 x1 acc r ((List.range c).map f ++ List.replicate d 0) n c = impl_drawn.l0 F (k - d - 1) x0 x1 (acc ++ [dRow f n]) ((r + 1 : Nat) : Int) := by
  induction d with
  | zero =>
    intro k c hc hk
    obtain ⟨k, rfl⟩ : ∃ j, k = j + 1 := ⟨k - 1, by omega⟩
    rw [impl_drawn.l1, if_neg (by omega), if_pos (by omega), w64 (by omega), List.replicate_zero, List.append_nil, show c = n by omega]
    rfl
  | succ d ih =>
    intro k c hc hk
    obtain ⟨k, rfl⟩ : ∃ j, k = j + 1 := ⟨k - 1, by omega⟩
    rw [impl_drawn.l1, if_pos (by omega), hF c (by omega)]
    simp only [Option.bind_some]
    have hl : ((List.range c).map f).length = c := by simp
    rw [if_pos (by omega), if_pos (by rw [List.length_append, hl, List.length_replicate]; omega), Int.toNat_natCast, List.set_append_right _ _ (by omega), hl, Nat.sub_self, List.replicate_succ, List.set_cons_zero, w64 (by omega),
      show (List.range c).map f ++ f c :: List.replicate d 0 = (List.range (c + 1)).map f ++ List.replicate d 0 by rw [List.range_succ, List.map_append, List.append_assoc]; rfl]
    have := ih k (c + 1) (by omega) (by omega)
    rw [show k + 1 - (d + 1) - 1 = k - d - 1 by omega]
    exact this
theorem drawn_l0 (F : Int → Int → Option Int) (R n : Nat) (hR : R ≤ 100000) (hn : n ≤ 100000) (g : Nat → Nat → Int) (hF : ∀ r c, r < R → c < n → F (r : Int) (c : Int) = some (g r c)) (d : Nat) :
    ∀ (k r : Nat), r + d = R → d * (n + 2) < k → impl_drawn.l0 F k R n (dRows g r n) r = some (dRows g R n) := by
  induction d with
  | zero =>
    intro k r hr hk
    obtain ⟨k, rfl⟩ : ∃ j, k = j + 1 := ⟨k - 1, by omega⟩
    rw [impl_drawn.l0, if_neg (by omega), show r = R by omega]
  | succ d ih =>
    intro k r hr hk
    obtain ⟨k, rfl⟩ : ∃ j, k = j + 1 := ⟨k - 1, by omega⟩
    rw [Nat.succ_mul] at hk
    rw [impl_drawn.l0, if_pos (by omega), if_pos (by omega), if_pos (by omega)]
    simp only [Option.bind_some, List.length_replicate, Int.toNat_natCast]
    have h1 := drawn_l1 F r n (g r) (fun c hc => hF r c (by omega) hc) hn (by omega) R n (dRows g r n) (by rw [dRows_length]; omega) n k 0 (by omega) (by omega)
    rw [show ((0 : Nat) : Int) = 0 from rfl] at h1
    rw [show List.replicate n (0 : Int) = (List.range 0).map (g r) ++ List.replicate n 0 from rfl, h1, ← dRows_succ]
    exact ih (k - n - 1) (r + 1) (by omega) (by omega)
theorem drawn_eq (F : Int → Int → Option Int) (R n : Nat) (hR : R ≤ 100) (hn : n ≤ 100) (g : Nat → Nat → Int) (hF : ∀ r c, r < R → c < n → F (r : Int) (c : Int) = some (g r c)) (k : Nat) (hk : 10200 < k) :
    impl_drawnW.f k R n F = some (dRows g R n) := by
  unfold impl_drawnW.f impl_drawn.f
  have h := drawn_l0 F R n (by omega) (by omega) g hF R k 0 (by omega) (by
    have : R * (n + 2) ≤ 100 * 102 := Nat.mul_le_mul hR (by omega)
    omega)
  exact h

theorem floors (x : Int) (hx : -1000000 ≤ x ∧ x ≤ 1000000) : spec_scFloor.f x = some (x / 10) ∧ impl_floorDiv.f x 10 = some (x / 10) := by
  unfold spec_scFloor.f impl_floorDiv.f
  rw [if_neg (show ¬ (10 : Int) = 0 by omega)]
  by_cases h : 0 ≤ x
  · have w : wrap64 (x / 10) = x / 10 := w64 (by omega)
    rw [Int.tmod_eq_emod_of_nonneg h, Int.tdiv_eq_ediv_of_nonneg h, w, if_neg (show ¬ x % 10 < 0 by omega), decide_eq_false (show ¬ x < 0 by omega), decide_eq_false (show ¬ (10 : Int) < 0 by omega)]
    refine ⟨rfl, ?_⟩
    simp
  · obtain ⟨y, rfl⟩ : ∃ y : Int, x = -y := ⟨-x, by omega⟩
    have hy : 0 ≤ y := by omega
    have e1 : 0 ≤ y % 10 := by omega
    have e4 : -y % 10 = 0 ↔ y % 10 = 0 := by omega
    have e2 : y % 10 = 0 → -(y / 10) = -y / 10 := by omega
    have e3 : ¬ y % 10 = 0 → -(y / 10) - 1 = -y / 10 := by omega
    have w : wrap64 (-(y / 10)) = -(y / 10) := w64 (by omega)
    have w2 : wrap64 (-(y / 10) - 1) = -(y / 10) - 1 := w64 (by omega)
    rw [Int.neg_tmod, Int.neg_tdiv, Int.tmod_eq_emod_of_nonneg hy, Int.tdiv_eq_ediv_of_nonneg hy, w, w2, decide_eq_true (show -y < 0 by omega), decide_eq_false (show ¬ (10 : Int) < 0 by omega)]
    clear w w2
    by_cases hz : y % 10 = 0
    · rw [if_neg (show ¬ -(y % 10) < 0 by omega), if_pos (show -(y % 10) = 0 by omega), e2 hz]
      exact ⟨rfl, rfl⟩
    · rw [if_pos (show -(y % 10) < 0 by omega), if_neg (show ¬ -(y % 10) = 0 by omega), if_pos (by decide), e3 hz]
      exact ⟨rfl, rfl⟩
/-- from which row a place is seen -/
def skFrom (p : Int) (r c : Nat) : Int := (r : Int) + ((c : Int) * p) / 10
def skG (l : List ByteArray) (p : Int) (r c : Nat) : Int :=
  if 0 ≤ skFrom p r c ∧ skFrom p r c ≤ (l.length : Int) - 1 then bt (rdOf ByteArray.empty l (skFrom p r c)) c else 63
theorem mul_bound (c : Nat) (p : Int) (hc : c ≤ 1000) (hp : -10 ≤ p ∧ p ≤ 10) : -10000 ≤ (c : Int) * p ∧ (c : Int) * p ≤ 10000 := by
  have h1 : (c : Int) * p ≤ (c : Int) * 10 := Int.mul_le_mul_of_nonneg_left hp.2 (by omega)
  have h2 : (c : Int) * (-10) ≤ (c : Int) * p := Int.mul_le_mul_of_nonneg_left hp.1 (by omega)
  omega
theorem skFrom_bound (p : Int) (hp : -10 ≤ p ∧ p ≤ 10) (r c : Nat) (hr : r ≤ 1000) (hc : c ≤ 1000) : -2000 ≤ skFrom p r c ∧ skFrom p r c ≤ 2000 := by
  have := mul_bound c p hc hp
  unfold skFrom
  generalize (c : Int) * p = x at this ⊢
  omega
theorem sk_wrap (p : Int) (hp : -10 ≤ p ∧ p ≤ 10) (r c : Nat) (hr : r ≤ 1000) (hc : c ≤ 1000) :
    spec_scFloor.f (wrap64 ((c : Int) * p)) = some (((c : Int) * p) / 10) ∧ impl_floorDiv.f (wrap64 ((c : Int) * p)) 10 = some (((c : Int) * p) / 10) ∧ wrap64 ((r : Int) + ((c : Int) * p) / 10) = skFrom p r c := by
  have h := mul_bound c p hc hp
  have hb := skFrom_bound p hp r c hr hc
  unfold skFrom at hb ⊢
  generalize (c : Int) * p = x at h hb ⊢
  have f := floors x (by omega)
  refine ⟨?_, ?_, w64 (by omega)⟩
  · rw [w64 (by omega)]; exact f.1
  · rw [w64 (by omega)]; exact f.2
theorem rd_size (l : List ByteArray) (n : Nat) (hs : ∀ s ∈ l, s.size = n) (x : Int) (h0 : 0 ≤ x) (h1 : x ≤ (l.length : Int) - 1) : (rdOf ByteArray.empty l x).size = n := by
  obtain ⟨m, rfl⟩ : ∃ m : Nat, x = m := ⟨x.toNat, by omega⟩
  rw [rdB_get l m (by omega)]
  exact hs _ (List.getElem_mem _)
theorem skClosure_eq (l : List ByteArray) (p : Int) (hp : -10 ≤ p ∧ p ≤ 10) (hl : l.length ≤ 1000) (n : Nat) (hn : n ≤ 1000) (hs : ∀ s ∈ l, s.size = n) (r c : Nat) (hr : r < l.length) (hc : c < n) :
    impl_skewScan_1.f (r : Int) (c : Int) p l = some (skG l p r c) := by
  obtain ⟨_, e2, e3⟩ := sk_wrap p hp r c (by omega) (by omega)
  unfold impl_skewScan_1.f skG
  rw [e2]
  simp only [Option.bind_some]
  rw [e3]
  clear e2 e3
  generalize skFrom p r c = x
  by_cases h1 : x < 0
  · rw [if_pos h1, if_neg (by omega)]
  · rw [if_neg h1]
    by_cases h2 : x ≥ (l.length : Int)
    · rw [if_pos h2, if_neg (by omega)]
    · have hz := rd_size l n hs x (by omega) (by omega)
      rw [if_neg h2, if_pos (by omega), if_pos (by omega), if_pos (by omega), hz, if_pos (by omega), if_pos (by omega)]
theorem skSpecRow (l : List ByteArray) (p : Int) (hp : -10 ≤ p ∧ p ≤ 10) (hl : l.length ≤ 1000) (n : Nat) (hn : n ≤ 1000) (hs : ∀ s ∈ l, s.size = n) (r : Nat) (s : ByteArray) (hz : s.size = n) (hr : r < l.length) (acc : List ByteArray) (ha : acc.length ≤ 1000) (d : Nat) :
    ∀ (k c : Nat), c + d = n → d < k → spec_scSkew.l1 k l p acc r s (dRow (skG l p r) c) c l l.length r
      = spec_scSkew.l0 (k - d - 1) l p (acc ++ [dRow (skG l p r) n]) l l.length ((r + 1 : Nat) : Int) := by
  induction d with
  | zero =>
    intro k c hc hk
    obtain ⟨k, rfl⟩ : ∃ j, k = j + 1 := ⟨k - 1, by omega⟩
    rw [spec_scSkew.l1, if_neg (by omega), if_pos (by omega), w64 (by omega), show c = n by omega]
    rfl
  | succ d ih =>
    intro k c hc hk
    obtain ⟨k, rfl⟩ : ∃ j, k = j + 1 := ⟨k - 1, by omega⟩
    have e := ih k (c + 1) (by omega) (by omega)
    rw [dRow_succ] at e
    have h0 : (0 : Int) ≤ (c : Int) := by omega
    have h1' : (c : Int) ≤ ((c + 1 : Nat) : Int) := by omega
    have h2' : ((c + 1 : Nat) : Int) ≤ (n : Int) := by omega
    have h3' : c + 1 ≤ 9223372036854775807 := by omega
    have hk' : k + 1 - (d + 1) - 1 = k - d - 1 := by omega
    have hlt : (c : Int) < (s.size : Int) := by omega
    have hcn : c < n := by omega
    have hc1 : c ≤ 1000 := by omega
    have hr1 : r ≤ 1000 := by omega
    obtain ⟨e1, _, e3⟩ := sk_wrap p hp r c hr1 hc1
    have hlw := w_pred l.length (Nat.le_trans hl (by decide))
    have ec := w_succ c (Nat.le_trans hc1 (by decide))
    rw [hk', ← e, spec_scSkew.l1, if_pos hlt, e1]
    clear e ih
    simp only [Option.bind_some]
    rw [e3, hlw, in_eq]
    simp only [Option.bind_some, decide_eq_true_eq]
    rw [ec, Int.toNat_natCast, Int.toNat_natCast]
    clear e1 e3 hlw ec
    by_cases hA : 0 ≤ skFrom p r c ∧ skFrom p r c ≤ (l.length : Int) - 1
    · have hzz := rd_size l n hs _ hA.1 hA.2
      have hx : (rdOf ByteArray.empty l (skFrom p r c)).extract c (c + 1) = strOfNums [bt (rdOf ByteArray.empty l (skFrom p r c)) c] := extract_one _ c (by rw [hzz]; exact hcn)
      have hG : skG l p r c = bt (rdOf ByteArray.empty l (skFrom p r c)) c := by unfold skG; rw [if_pos hA]
      have hB : skFrom p r c < (l.length : Int) := Int.lt_of_le_sub_one hA.2
      rw [if_pos hA, if_pos hA.1, if_pos hB, if_pos h0, if_pos h1', hzz, if_pos h2', dRow_size, hx, str1_size, if_pos h3', hG]
    · have hG : skG l p r c = 63 := by unfold skG; rw [if_neg hA]
      rw [if_neg hA, dRow_size, if_pos h3', hG]
      rfl
theorem skSpecRows (l : List ByteArray) (p : Int) (hp : -10 ≤ p ∧ p ≤ 10) (hl : l.length ≤ 1000) (n : Nat) (hn : n ≤ 1000) (hs : ∀ s ∈ l, s.size = n) (d : Nat) :
    ∀ (k r : Nat), r + d = l.length → d * (n + 2) < k → spec_scSkew.l0 k l p (dRows (skG l p) r n) l l.length r = some (dRows (skG l p) l.length n) := by
  induction d with
  | zero =>
    intro k r hr hk
    obtain ⟨k, rfl⟩ : ∃ j, k = j + 1 := ⟨k - 1, by omega⟩
    rw [spec_scSkew.l0, if_neg (by omega), show r = l.length by omega]
  | succ d ih =>
    intro k r hr hk
    obtain ⟨k, rfl⟩ : ∃ j, k = j + 1 := ⟨k - 1, by omega⟩
    rw [Nat.succ_mul] at hk
    rw [spec_scSkew.l0, if_pos (by omega), if_pos (by omega), if_pos (by omega)]
    have e := skSpecRow l p hp hl n hn hs r (rdOf ByteArray.empty l (r : Int)) (by rw [rdB_get l r (by omega)]; exact hs _ (List.getElem_mem _)) (by omega) (dRows (skG l p) r n) (by rw [dRows_length]; omega) n k 0 (by omega) (by omega)
    rw [dRow_zero, show ((0 : Nat) : Int) = 0 from rfl] at e
    rw [e, ← dRows_succ]
    exact ih (k - n - 1) (r + 1) (by omega) (by omega)
/-- both programs' skewed scan -/
theorem skBoth (l : List ByteArray) (p : Int) (hp : -10 ≤ p ∧ p ≤ 10) (hg : Grid chS 1 60 20 l = true) (k : Nat) (hk : 20000 ≤ k) :
    spec_scSkew.f k l p = some (dRows (skG l p) l.length (wid l)) ∧ impl_skewScan.f k l p = some (dRows (skG l p) l.length (wid l)) := by
  obtain ⟨g1, g2, g3, g4, g5⟩ := grid_facts hg
  have hw : (rdOf ByteArray.empty l 0).size = wid l := by rw [wid_get l (by omega)]; exact congrArg _ (rdB_get l 0 (by omega))
  unfold spec_scSkew.f impl_skewScan.f
  refine ⟨?_, ?_⟩
  · have e := skSpecRows l p hp (by omega) (wid l) (by omega) (fun s hs => (g5 s hs).1) l.length k 0 (by omega) (by
      have : l.length * (wid l + 2) ≤ 60 * 22 := Nat.mul_le_mul g2 (by omega)
      omega)
    exact e
  · rw [if_pos (by omega), hw, drawn_eq _ l.length (wid l) (by omega) (by omega) (skG l p) (fun r c hr hc => skClosure_eq l p hp (by omega) (wid l) (by omega) (fun s hs => (g5 s hs).1) r c hr hc) k (by omega)]
    rfl

/-- the faults behind a skew -/
def bsE (a b : List ByteArray) (p : Int) : Int := faults (dRows (skG a p) a.length (wid a)) b
theorem bytes_range (s : ByteArray) : (List.range s.size).map (fun c : Nat => bt s (c : Int)) = bytesOf s := by
  apply List.ext_getElem
  · simp [bytesOf_length]
  · intro i h1 h2
    have hi : i < s.size := by simpa using h1
    rw [List.getElem_map, List.getElem_range]
    exact bt_get s i hi
theorem str_bytes (s : ByteArray) : strOfNums (bytesOf s) = s := by
  apply ByteArray.ext
  apply Array.ext'
  unfold strOfNums bytesOf
  simp only [List.map_map]
  have h : s.data.toList.map ((fun n : Int => n.toNat.toUInt8) ∘ fun b : UInt8 => ((b.toNat : Nat) : Int)) = s.data.toList.map id := by
    apply List.map_congr_left
    intro b _
    simp
  rw [List.map_id] at h
  simpa using h
theorem dRow_self (s : ByteArray) (n : Nat) (h : s.size = n) (f : Nat → Int) (hf : ∀ c, c < n → f c = bt s (c : Int)) : dRow f n = s := by
  rw [dRow_congr f (fun c : Nat => bt s (c : Int)) n hf]
  unfold dRow
  rw [← h, bytes_range, str_bytes]
theorem dRows_get (g : Nat → Nat → Int) (R n i : Nat) (h : i < (dRows g R n).length) : (dRows g R n)[i] = dRow (g i) n := by
  simp [dRows]
theorem skew_zero (a : List ByteArray) (n : Nat) (hs : ∀ s ∈ a, s.size = n) : dRows (skG a 0) a.length n = a := by
  apply List.ext_getElem
  · rw [dRows_length]
  · intro i h1 h2
    rw [dRows_get]
    refine dRow_self _ n (hs _ (List.getElem_mem h2)) _ (fun c hc => ?_)
    have hf : skFrom 0 i c = (i : Int) := by unfold skFrom; rw [Int.mul_zero]; omega
    unfold skG
    rw [hf, if_pos (by omega), rdB_get a i h2]
theorem bs_sizes (a b : List ByteArray) (p : Int) (ha : a.length ≤ 60) (hw : wid a ≤ 20) (hab : b.length = a.length) (hb : ∀ s ∈ b, s.size = wid a) :
    ∀ i (h : i < (dRows (skG a p) a.length (wid a)).length), (dRows (skG a p) a.length (wid a))[i].size ≤ 1000 ∧ (b[i]'(by rw [dRows_length] at h; omega)).size = (dRows (skG a p) a.length (wid a))[i].size := by
  intro i h
  have h' := h
  rw [dRows_length] at h'
  rw [dRows_get, dRow_size]
  exact ⟨by omega, hb _ (List.getElem_mem _)⟩
theorem fuelR_drawn (g : Nat → Nat → Int) (R n : Nat) (hR : R ≤ 60) (hn : n ≤ 20) : fuelR (dRows g R n) ≤ 2000 := by
  have h := fuelR_bound (dRows g R n) n (by
    intro s hs
    unfold dRows at hs
    obtain ⟨r, _, rfl⟩ := List.mem_map.1 hs
    rw [dRow_size]; exact Nat.le_refl _)
  rw [dRows_length] at h
  have : R * (n + 2) ≤ 60 * 22 := Nat.mul_le_mul hR (by omega)
  omega
theorem bs_loss (a b : List ByteArray) (ga : Grid chS 1 60 20 a = true) (hab : b.length = a.length) (hb : ∀ s ∈ b, s.size = wid a) (p : Int) (hp : -10 ≤ p ∧ p ≤ 10) (k : Nat) (hk : 20000 ≤ k) :
    ((spec_scSkew.f k a p).bind fun t => spec_scApart.f k t b) = some (bsE a b p) ∧ impl_BestSkew_1.f k p a b = some (bsE a b p) := by
  obtain ⟨g1, g2, g3, g4, g5⟩ := grid_facts ga
  obtain ⟨e1, e2⟩ := skBoth a p hp ga k hk
  have hf := fuelR_drawn (skG a p) a.length (wid a) g2 g4
  have hs := bs_sizes a b p g2 g4 hab hb
  have hl := dRows_length (skG a p) a.length (wid a)
  unfold impl_BestSkew_1.f bsE
  rw [e1, e2]
  simp only [Option.bind_some]
  refine ⟨specFaults_eq _ b (by omega) (by omega) hs k (by omega), ?_⟩
  rw [implFaults_eq _ b (by omega) (by omega) hs k (by omega)]
  rfl
/-- one step of the search -/
def bsStep (E : Int → Int) (s : Int × Int) (p : Int) : Int × Int := if E p < s.2 then (p, E p) else s
def bsRun (E : Int → Int) : Nat → Int → Int × Int → Int × Int
  | 0, _, s => s
  | n + 1, d, s => bsRun E n (d + 1) (bsStep E (bsStep E s (-d)) d)
theorem rd_two0 (x y : Int) : rd [x, y] 0 = x := rfl
theorem rd_two1 (x y : Int) : rd [x, y] 1 = y := rfl
theorem w01 : wrap64 ((0 : Int) + 1) = 1 := by rw [w64 (by omega)]; rfl
theorem w12 : wrap64 ((1 : Int) + 1) = 2 := by rw [w64 (by omega)]; rfl
theorem spec_l1_eq (a b : List ByteArray) (E : Int → Int) (d : Int) (hd : 1 ≤ d ∧ d ≤ 10) (k : Nat) (hE : ∀ p, -10 ≤ p ∧ p ≤ 10 → ∀ j, k ≤ j → ((spec_scSkew.f j a p).bind fun t => spec_scApart.f j t b) = some (E p)) (s : Int × Int) :
    spec_BestSkew.l1 (k + 3) a b s.1 s.2 d [-d, d] 2 0 = spec_BestSkew.l0 k a b (bsStep E (bsStep E s (-d)) d).1 (bsStep E (bsStep E s (-d)) d).2 (d + 1) := by
  have st : ∀ (k' : Nat) (hk' : k ≤ k') (i : Int) (hi : 0 ≤ i ∧ i < 2) (p : Int) (hp : rd [-d, d] i = p) (hb : -10 ≤ p ∧ p ≤ 10) (s : Int × Int),
      spec_BestSkew.l1 (k' + 1) a b s.1 s.2 d [-d, d] 2 i = spec_BestSkew.l1 k' a b (bsStep E s p).1 (bsStep E s p).2 d [-d, d] 2 (wrap64 (i + 1)) := by
    intro k' hk' i hi p hp hb s
    have e := hE p hb k' hk'
    rw [spec_BestSkew.l1, if_pos hi.2, if_pos hi.1, if_pos (by simpa using hi.2), hp]
    obtain ⟨t, ht, e'⟩ := Option.bind_eq_some_iff.1 e
    rw [ht]
    simp only [Option.bind_some]
    rw [e']
    simp only [Option.bind_some]
    unfold bsStep
    by_cases h : E p < s.2
    · rw [if_pos h, if_pos h]
    · rw [if_neg h, if_neg h]
  rw [st (k + 2) (by omega) 0 (by omega) (-d) rfl (by omega) s, w01, st (k + 1) (by omega) 1 (by omega) d rfl (by omega), w12]
  have w : wrap64 (d + 1) = d + 1 := w64 (by omega)
  rw [spec_BestSkew.l1, if_neg (by omega), w]
theorem spec_l0_eq (a b : List ByteArray) (E : Int → Int) (K : Nat) (hE : ∀ p, -10 ≤ p ∧ p ≤ 10 → ∀ j, K ≤ j → ((spec_scSkew.f j a p).bind fun t => spec_scApart.f j t b) = some (E p)) (n : Nat) :
    ∀ (k : Nat) (d : Int) (s : Int × Int), d + n = 11 → 1 ≤ d → K + 4 * n < k → spec_BestSkew.l0 k a b s.1 s.2 d = some ((bsRun E n d s).1, (bsRun E n d s).2, true) := by
  induction n with
  | zero =>
    intro k d s hd h1 hk
    obtain ⟨k, rfl⟩ : ∃ j, k = j + 1 := ⟨k - 1, by omega⟩
    rw [spec_BestSkew.l0, if_neg (by omega)]
    rfl
  | succ n ih =>
    intro k d s hd h1 hk
    obtain ⟨k, rfl⟩ : ∃ j, k = j + 3 + 1 := ⟨k - 4, by omega⟩
    have e := spec_l1_eq a b E d (by omega) k (fun p hp j hj => hE p hp j (by omega)) s
    have e2 := ih k (d + 1) (bsStep E (bsStep E s (-d)) d) (by omega) (by omega) (by omega)
    have w : wrap64 (-d) = -d := w64 (by omega)
    rw [spec_BestSkew.l0, if_pos (by omega), w]
    simp only [Option.bind_some]
    show spec_BestSkew.l1 (k + 3) a b s.1 s.2 d [-d, d] 2 0 = _
    rw [e, e2]
    rfl
theorem impl_l1_eq (F : Int → Option Int) (E : Int → Int) (x0 d : Int) (hd : 1 ≤ d ∧ d ≤ 10) (hE : ∀ p, -10 ≤ p ∧ p ≤ 10 → F p = some (E p)) (k : Nat) (s : Int × Int) :
    impl_bestBy.l1 F (k + 3) x0 s.1 s.2 d [-d, d] 2 0 = impl_bestBy.l0 F k x0 (bsStep E (bsStep E s (-d)) d).1 (bsStep E (bsStep E s (-d)) d).2 (d + 1) := by
  have st : ∀ (k' : Nat) (i : Int) (hi : 0 ≤ i ∧ i < 2) (p : Int) (hp : rd [-d, d] i = p) (hb : -10 ≤ p ∧ p ≤ 10) (s : Int × Int),
      impl_bestBy.l1 F (k' + 1) x0 s.1 s.2 d [-d, d] 2 i = impl_bestBy.l1 F k' x0 (bsStep E s p).1 (bsStep E s p).2 d [-d, d] 2 (wrap64 (i + 1)) := by
    intro k' i hi p hp hb s
    rw [impl_bestBy.l1, if_pos hi.2, if_pos hi.1, if_pos (by simpa using hi.2), hp, hE p hb]
    simp only [Option.bind_some]
    unfold bsStep
    by_cases h : E p < s.2
    · rw [if_pos h, if_pos h]
    · rw [if_neg h, if_neg h]
  rw [st (k + 2) 0 (by omega) (-d) rfl (by omega) s, w01, st (k + 1) 1 (by omega) d rfl (by omega), w12]
  have w : wrap64 (d + 1) = d + 1 := w64 (by omega)
  rw [impl_bestBy.l1, if_neg (by omega), w]
theorem impl_l0_eq (F : Int → Option Int) (E : Int → Int) (hE : ∀ p, -10 ≤ p ∧ p ≤ 10 → F p = some (E p)) (n : Nat) :
    ∀ (k : Nat) (d : Int) (s : Int × Int), d + n = 11 → 1 ≤ d → 4 * n < k → impl_bestBy.l0 F k 10 s.1 s.2 d = some (bsRun E n d s) := by
  induction n with
  | zero =>
    intro k d s hd h1 hk
    obtain ⟨k, rfl⟩ : ∃ j, k = j + 1 := ⟨k - 1, by omega⟩
    rw [impl_bestBy.l0, if_neg (by omega)]
    rfl
  | succ n ih =>
    intro k d s hd h1 hk
    obtain ⟨k, rfl⟩ : ∃ j, k = j + 3 + 1 := ⟨k - 4, by omega⟩
    have e := impl_l1_eq F E 10 d (by omega) hE k s
    have e2 := ih k (d + 1) (bsStep E (bsStep E s (-d)) d) (by omega) (by omega) (by omega)
    have w : wrap64 (-d) = -d := w64 (by omega)
    rw [impl_bestBy.l0, if_pos (by omega), w]
    simp only [Option.bind_some]
    show impl_bestBy.l1 F (k + 3) 10 s.1 s.2 d [-d, d] 2 0 = _
    rw [e, e2]
    rfl
def bsOut (a b : List ByteArray) : Int × Int × Bool := if Two a b = true then ((bsRun (bsE a b) 10 1 (0, bsE a b 0)).1, (bsRun (bsE a b) 10 1 (0, bsE a b 0)).2, true) else (0, 0, false)
theorem both (a b : List ByteArray) (ha : a.length ≤ 1048576) (hsa : ∀ s ∈ a, s.size ≤ 1048576) (hb : b.length ≤ 1048576) (hsb : ∀ s ∈ b, s.size ≤ 1048576) (k : Nat) (hk : fuelR a + fuelR b + 30000 ≤ k) :
    spec_BestSkew.f k a b = some (bsOut a b) ∧ impl_BestSkew.f k a b = some (bsOut a b) := by
  unfold spec_BestSkew.f impl_BestSkew.f bsOut
  rw [specTwo_eq a b ha hsa hb hsb k (by omega), sameSize_eq a b ha hsa hb hsb k (by omega)]
  simp only [Option.bind_some]
  cases ht : Two a b with
  | false =>
    simp only [Bool.false_eq_true, if_false]
    exact ⟨trivial, trivial⟩
  | true =>
    obtain ⟨ga, gb, hab, hw⟩ := two_facts ht
    obtain ⟨g1, g2, g3, g4, g5⟩ := grid_facts ga
    obtain ⟨q1, q2, q3, q4, q5⟩ := grid_facts gb
    have hss : ∀ i (h : i < a.length), a[i].size ≤ 1000 ∧ (b[i]'(by omega)).size = a[i].size := by
      intro i h
      have h1 := (g5 _ (List.getElem_mem h)).1
      have h2 := (q5 _ (List.getElem_mem (show i < b.length by omega))).1
      exact ⟨by omega, by omega⟩
    have hbw : ∀ s ∈ b, s.size = wid a := fun s hs => by have := (q5 s hs).1; omega
    have hL := fun p hp k hk => bs_loss a b ga (by omega) hbw p hp k hk
    have h0 : faults a b = bsE a b 0 := by unfold bsE; rw [skew_zero a (wid a) (fun s hs => (g5 s hs).1)]
    simp only [if_true]
    rw [specFaults_eq a b (by omega) (by omega) hss k (by omega), h0]
    simp only [Option.bind_some]
    refine ⟨?_, ?_⟩
    · exact spec_l0_eq a b (bsE a b) 20000 (fun p hp j hj => (hL p hp j hj).1) 10 k 1 (0, bsE a b 0) (by omega) (by omega) (by omega)
    · unfold impl_bestByW.f impl_bestBy.f
      have hF : ∀ p, -10 ≤ p ∧ p ≤ 10 → (fun a0_ => impl_BestSkew_1.f k a0_ a b) p = some (bsE a b p) := fun p hp => (hL p hp k (by omega)).2
      have e := impl_l0_eq _ _ hF 10 k 1 (0, bsE a b 0) (by omega) (by omega) (by omega)
      rw [hF 0 (by omega)]
      simp only [Option.bind_some]
      have e' : impl_bestBy.l0 (fun a0_ => impl_BestSkew_1.f k a0_ a b) k 10 0 (bsE a b 0) 1 = some (bsRun (bsE a b) 10 1 (0, bsE a b 0)) := e
      rw [e']
      rfl
theorem FnExactBestSkew (a b : List ByteArray) (hla : a.length ≤ maxLen) (hsa : ∀ s ∈ a, s.size ≤ maxLen) (hlb : b.length ≤ maxLen) (hsb : ∀ s ∈ b, s.size ≤ maxLen) : ∃ k, laws_FnExactBestSkew.f k a b = some true := by
  obtain ⟨r, hr, hb⟩ := szStrings_eq a hla hsa 1048576 (by omega)
  refine ⟨fuelR a + fuelR b + 30000 + a.length + b.length + 1, ?_⟩
  unfold laws_FnExactBestSkew.f
  rw [hr _ (by omega)]
  simp only [Option.bind_some]
  by_cases h : r < 0
  · rw [if_pos h]
  · obtain ⟨a1, a2, a3⟩ := hb (by omega)
    obtain ⟨q, hq, hbq⟩ := szStrings_eq b hlb hsb r (by omega)
    rw [if_neg h, hq _ (by omega)]
    simp only [Option.bind_some]
    by_cases h' : q < 0
    · rw [if_pos h']
    · obtain ⟨b1, b2, b3⟩ := hbq (by omega)
      obtain ⟨e1, e2⟩ := both a b a2 a3 b2 b3 (fuelR a + fuelR b + 30000 + a.length + b.length + 1) (by omega)
      rw [if_neg h', toStrings_eq a a2 _ (by omega)]
      simp only [Option.bind_some]
      rw [toStrings_eq b b2 _ (by omega)]
      simp only [Option.bind_some]
      rw [e1, e2]
      simp only [Option.bind_some, bne_self_eq_false, if_true]
      rw [laws_FnExactBestSkew.j0, if_neg (by simp), toStrings_eq a a2 _ (by omega)]
      simp only [Option.bind_some]
      rw [eqStrings_self a a2 _ (by omega)]
      simp only [Option.bind_some, if_true]
      rw [toStrings_eq b b2 _ (by omega)]
      simp only [Option.bind_some]
      rw [eqStrings_self b b2 _ (by omega)]
      simp
end Go.Proofs.Ytjogodnkcjhdiaa.Pure
