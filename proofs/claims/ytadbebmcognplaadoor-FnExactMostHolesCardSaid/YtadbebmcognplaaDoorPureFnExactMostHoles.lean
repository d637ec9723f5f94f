/- FnExactMostHoles: the program's MostHoles answers as the reference's, for all slices of strings. No condition. -/
import Derived.Test.YtadbebmcognplaaDoorPFnExactMostHolesx4
namespace Go.Proofs.YtadbebmcognplaaDoor.Pure
open Go.RowKit Go.Proofs.YtadbebmcognplaaDoor.PFnExactMostHoles Go.Proofs.YtadbebmcognplaaDoorW.PrintWords Go.Proofs.YtadbebmcognplaaDoorW.PrintLast

set_option linter.unusedVariables false
set_option linter.unusedSimpArgs false

theorem w64 {x : Int} (h : -9223372036854775808 ≤ x ∧ x ≤ 9223372036854775807) : wrap64 x = x := by
  unfold wrap64; omega
theorem someF {p : Prop} [Decidable p] (h : ¬ p) : some false = some (decide p) := by rw [decide_eq_false h]
theorem someD {q p : Prop} [Decidable q] [Decidable p] (h : q ↔ p) : some (decide q) = some (decide p) := by rw [decide_eq_decide.2 h]

theorem in_eq (a b c : Int) : spec_l1In.f a b c = some (decide (b ≤ a ∧ a ≤ c)) := by
  unfold spec_l1In.f
  by_cases h : a ≥ b
  · rw [if_pos h]; congr 1; simp [show b ≤ a from h]
  · rw [if_neg h]; congr 1; simp; omega

theorem fill_step {α : Type} (l : List α) (z : α) (i : Nat) (h : i < l.length) :
    (l.take i ++ List.replicate (l.length - i) z).set i (l[i]'h) = l.take (i + 1) ++ List.replicate (l.length - (i + 1)) z := by
  have hl : (l.take i).length = i := by rw [List.length_take]; omega
  rw [List.set_append_right _ _ (by omega), hl, Nat.sub_self, show l.length - i = (l.length - (i + 1)) + 1 by omega, List.replicate_succ, List.set_cons_zero, List.take_succ_eq_append_getElem h, List.append_assoc]
  rfl
theorem fill_length {α : Type} (l : List α) (z : α) (i : Nat) (h : i ≤ l.length) : (l.take i ++ List.replicate (l.length - i) z).length = l.length := by
  simp; omega

theorem rd_get (l : List Int) (i : Nat) (h : i < l.length) : rd l (i : Int) = l[i] := by
  unfold rd; rw [Int.toNat_natCast, List.getD_eq_getElem?_getD, List.getElem?_eq_getElem h]; rfl

theorem rdB_get (l : List ByteArray) (i : Nat) (h : i < l.length) : rdOf ByteArray.empty l (i : Int) = l[i] := by
  unfold rdOf; rw [Int.toNat_natCast, List.getD_eq_getElem?_getD, List.getElem?_eq_getElem h]; rfl
theorem drop_get {α : Type} (l : List α) (i : Nat) (h : i < l.length) : l.drop i = l[i] :: l.drop (i + 1) := List.drop_eq_getElem_cons h
/-- the bytes of a string -/
abbrev cs (s : ByteArray) : List Int := bytesOf s
theorem cs_length (s : ByteArray) : (cs s).length = s.size := bytesOf_length s
theorem bt_get (s : ByteArray) (i : Nat) (h : i < s.size) : bt s (i : Int) = (cs s)[i]'(by rw [cs_length]; exact h) := by
  rw [← rd_bytesOf, rd_get _ _ (by rw [bytesOf_length]; exact h)]
theorem szStrings_loop (l : List ByteArray) (hl : l.length ≤ 1048576) (hs : ∀ s ∈ l, s.size ≤ maxLen) (d : Nat) : ∀ (k i : Nat) (n : Int), i + d = l.length → d < k → 0 ≤ n ∧ n ≤ 1048576 →
    ∃ r, laws_szStringS.l0 k l n i = some r ∧ (0 ≤ r → r ≤ n ∧ ∀ s ∈ l.drop i, s.size ≤ n) := by
  induction d with
  | zero =>
    intro k i n hi hk hn
    obtain ⟨k, rfl⟩ : ∃ j, k = j + 1 := ⟨k - 1, by omega⟩
    exact ⟨n, by rw [laws_szStringS.l0, if_neg (by omega)], fun _ => ⟨Int.le_refl _, by rw [List.drop_of_length_le (by omega)]; simp⟩⟩
  | succ d ih =>
    intro k i n hi hk hn
    obtain ⟨k, rfl⟩ : ∃ j, k = j + 1 := ⟨k - 1, by omega⟩
    have h1 : l[i].size ≤ maxLen := hs _ (List.getElem_mem _)
    unfold maxLen at h1
    rw [laws_szStringS.l0, if_pos (by omega), if_pos (by omega), rdB_get l i (by omega), w64 (x := n - _) (by omega), w64 (by omega)]
    by_cases h : n - (l[i].size : Int) < 0
    · exact ⟨-1, by rw [if_pos h], fun h' => by omega⟩
    · obtain ⟨r, hr, hb⟩ := ih k (i + 1) (n - l[i].size) (by omega) (by omega) (by omega)
      refine ⟨r, by rw [if_neg h]; exact hr, fun h' => ?_⟩
      obtain ⟨b1, b2⟩ := hb h'
      refine ⟨by omega, ?_⟩
      rw [drop_get l i (by omega), List.forall_mem_cons]
      exact ⟨by omega, fun s hs' => by have := b2 s hs'; omega⟩
/-- the guard on the size of an argument: what it lets through is small -/
theorem szStrings_eq (l : List ByteArray) (hl : l.length ≤ maxLen) (hs : ∀ s ∈ l, s.size ≤ maxLen) (n : Int) (hn : 0 ≤ n ∧ n ≤ 1048576) :
    ∃ r, (∀ k, l.length < k → laws_szStringS.f k l n = some r) ∧ (0 ≤ r → r ≤ n ∧ l.length ≤ 1048576 ∧ ∀ s ∈ l, s.size ≤ 1048576) := by
  have hl' := hl
  unfold maxLen at hl'
  by_cases h : n - (l.length : Int) < 0
  · exact ⟨-1, fun k _ => by unfold laws_szStringS.f; rw [w64 (by omega), if_pos h], fun h' => by omega⟩
  · obtain ⟨r, hr, hb⟩ := szStrings_loop l (by omega) hs l.length (l.length + 1) 0 (n - l.length) (by omega) (by omega) (by omega)
    refine ⟨r, fun k hk => ?_, fun h' => ?_⟩
    · unfold laws_szStringS.f
      rw [w64 (by omega), if_neg h]
      obtain ⟨q, hq, _⟩ := szStrings_loop l (by omega) hs l.length k 0 (n - l.length) (by omega) (by omega) (by omega)
      have := at_rounds (g := fun k => laws_szStringS.l0 k l (n - l.length) ((0 : Nat) : Int)) (fun k => laws_szStringS.mono_l k _ _ _) (show l.length + 1 ≤ k by omega) hr
      exact this
    · obtain ⟨b1, b2⟩ := hb h'
      refine ⟨by omega, by omega, fun s hs' => ?_⟩
      have := b2 s (by simpa using hs')
      omega
theorem toStrings_loop (l : List ByteArray) (hl : l.length ≤ 1048576) (d : Nat) : ∀ (k i : Nat), i + d = l.length → d < k →
    laws_toStringS.l0 k l (l.take i ++ List.replicate (l.length - i) (⟨#[]⟩ : ByteArray)) i = some l := by
  induction d with
  | zero =>
    intro k i hi hk
    obtain ⟨k, rfl⟩ : ∃ j, k = j + 1 := ⟨k - 1, by omega⟩
    rw [laws_toStringS.l0, if_neg (by omega), show l.length - i = 0 by omega, List.replicate_zero, List.append_nil, List.take_of_length_le (by omega)]
  | succ d ih =>
    intro k i hi hk
    obtain ⟨k, rfl⟩ : ∃ j, k = j + 1 := ⟨k - 1, by omega⟩
    rw [laws_toStringS.l0, if_pos (by omega), if_pos (by omega), fill_length _ _ _ (by omega), if_pos (by omega), Int.toNat_natCast, rdB_get l i (by omega), fill_step l _ i (by omega), w64 (by omega)]
    exact ih k (i + 1) (by omega) (by omega)
theorem toStrings_eq (l : List ByteArray) (hl : l.length ≤ 1048576) (k : Nat) (hk : l.length < k) : laws_toStringS.f k l = some l := by
  unfold laws_toStringS.f
  rw [if_pos (by omega), if_pos (by omega), Int.toNat_natCast]
  have := toStrings_loop l hl l.length k 0 (by omega) hk
  simpa using this
theorem eqStrings_loop (l : List ByteArray) (hl : l.length ≤ 1048576) (d : Nat) : ∀ (k i : Nat), i + d = l.length → d < k → laws_eqStringS.l0 k l l i = some true := by
  induction d with
  | zero =>
    intro k i hi hk
    obtain ⟨k, rfl⟩ : ∃ j, k = j + 1 := ⟨k - 1, by omega⟩
    rw [laws_eqStringS.l0, if_neg (by omega)]
  | succ d ih =>
    intro k i hi hk
    obtain ⟨k, rfl⟩ : ∃ j, k = j + 1 := ⟨k - 1, by omega⟩
    rw [laws_eqStringS.l0, if_pos (by omega), if_pos (by omega), if_pos (by omega), if_pos rfl, w64 (by omega)]
    exact ih k (i + 1) (by omega) (by omega)
theorem eqStrings_self (l : List ByteArray) (hl : l.length ≤ 1048576) (k : Nat) (hk : l.length < k) : laws_eqStringS.f k l l = some true := by
  unfold laws_eqStringS.f
  rw [if_pos rfl]
  exact eqStrings_loop l hl l.length k 0 (by omega) hk

/-- rectangles of some characters: the rows are as long as the first, and hold those characters alone -/
def RowOK (ch : Int → Bool) (n : Nat) (s : ByteArray) : Bool := s.size == n && (cs s).all ch
def wid (l : List ByteArray) : Nat := (l.headD ByteArray.empty).size
def Grid (ch : Int → Bool) (least rows width : Nat) (l : List ByteArray) : Bool :=
  decide (least ≤ l.length) && decide (l.length ≤ rows) && decide (least ≤ wid l) && decide (wid l ≤ width) && l.all (RowOK ch (wid l))
def fuelR : List ByteArray → Nat
  | [] => 1
  | s :: r => s.size + 2 + fuelR r
theorem wid_get (l : List ByteArray) (h : 0 < l.length) : wid l = (l[0]'h).size := by
  cases l with
  | nil => simp at h
  | cons a r => rfl
theorem indexByte_found (l : List UInt8) (c : UInt8) : (Go.Lib.indexByte l c < 0) ↔ c ∉ l := by
  induction l with
  | nil => simp [Go.Lib.indexByte]
  | cons b r ih =>
    have hge : ∀ l : List UInt8, -1 ≤ Go.Lib.indexByte l c := by
      intro l
      induction l with
      | nil => simp [Go.Lib.indexByte]
      | cons b r ih => unfold Go.Lib.indexByte; split; omega; split <;> omega
    have hr := hge r
    unfold Go.Lib.indexByte
    by_cases h : b = c
    · subst h; simp
    · have h1 : (b == c) = false := by simpa using h
      have h2 : c ≠ b := fun e => h e.symm
      rw [h1]
      simp only [Bool.false_eq_true, if_false, List.mem_cons, not_or]
      by_cases h3 : Go.Lib.indexByte r c = -1
      · have h4 : (Go.Lib.indexByte r c == -1) = true := by simpa using h3
        rw [h4]; simp only [if_true]
        exact ⟨fun _ => ⟨h2, ih.1 (by omega)⟩, fun _ => by omega⟩
      · have h4 : (Go.Lib.indexByte r c == -1) = false := by simpa using h3
        rw [h4]; simp only [Bool.false_eq_true, if_false]
        exact ⟨fun h => by omega, fun h => absurd (ih.2 h.2) (by omega)⟩

def chS (c : Int) : Bool := c == 46 || c == 111 || c == 63

theorem scGood_row (x0 : List ByteArray) (s : ByteArray) (hs : s.size ≤ 1048576) (x6 : List ByteArray) (x7 x8 : Int) (d : Nat) : ∀ (k i : Nat), i + d = s.size →
    spec_scGood.l1 (k + d + 1) x0 s i x6 x7 x8 = if ((cs s).drop i).all chS then spec_scGood.l0 k x0 x6 x7 (wrap64 (x8 + 1)) else some false := by
  induction d with
  | zero =>
    intro k i hi
    rw [spec_scGood.l1, if_neg (by omega), List.drop_of_length_le (by rw [cs_length]; omega)]
    simp
  | succ d ih =>
    intro k i hi
    rw [spec_scGood.l1, if_pos (by omega), if_pos (by omega), bt_get s i (by omega), drop_get (cs s) i (by rw [cs_length]; omega), List.all_cons, w64 (by omega), show k + (d + 1) = k + d + 1 by omega, show ((i : Int) + 1) = ((i + 1 : Nat) : Int) by omega, ih k (i + 1) (by omega)]
    generalize (cs s)[i]'_ = c
    unfold chS
    by_cases h1 : c = 46
    · simp [h1]
    · by_cases h2 : c = 111
      · simp [h2]
      · by_cases h3 : c = 63
        · simp [h3]
        · simp [h1, h2, h3]
theorem scGood_loop (l : List ByteArray) (hl : l.length ≤ 1048576) (hs : ∀ s ∈ l, s.size ≤ 1048576) (d : Nat) : ∀ (k i : Nat), i + d = l.length → fuelR (l.drop i) ≤ k →
    spec_scGood.l0 k l l l.length i = if (l.drop i).all (RowOK chS (wid l)) then
      (if 1 ≤ l.length ∧ l.length ≤ 60 then (if 0 < (l.length : Int) then some (decide (1 ≤ wid l ∧ wid l ≤ 20)) else none) else some false) else some false := by
  induction d with
  | zero =>
    intro k i hi hk
    rw [List.drop_of_length_le (by omega)] at hk ⊢
    obtain ⟨k, rfl⟩ : ∃ j, k = j + 1 := ⟨k - 1, by unfold fuelR at hk; omega⟩
    rw [spec_scGood.l0, if_neg (by omega), in_eq]
    simp only [Option.bind_some, decide_eq_true_eq, List.all_nil, if_true]
    by_cases h0 : 0 < l.length
    · rw [if_pos (show 0 < (l.length : Int) by omega), show ((0 : Int)) = ((0 : Nat) : Int) from rfl, rdB_get l 0 h0, in_eq, wid_get l h0]
      simp only [Option.bind_some]
      split
      · rw [if_pos (by omega), if_pos (by omega)]; exact someD (by omega)
      · rw [if_neg (by omega)]
    · rw [if_neg (by omega), if_neg (by omega)]
  | succ d ih =>
    intro k i hi hk
    have hx : l[i].size ≤ 1048576 := hs _ (List.getElem_mem _)
    rw [drop_get l i (by omega)] at hk ⊢
    unfold fuelR at hk
    obtain ⟨j, hj⟩ : ∃ j, k = j + l[i].size + 1 + 1 := ⟨k - l[i].size - 2, by omega⟩
    rw [hj]
    have h0 : 0 < l.length := by omega
    rw [spec_scGood.l0, if_pos (by omega), if_pos (by omega), if_pos (by omega), if_pos (by omega), rdB_get l i (by omega)]
    rw [show rdOf ByteArray.empty l 0 = l[0] from rdB_get l 0 h0, ← wid_get l h0, List.all_cons]
    by_cases h1 : (l[i].size : Int) = (wid l : Int)
    · have h1' : (l[i].size == wid l) = true := by simp; omega
      rw [if_pos h1, show (0 : Int) = ((0 : Nat) : Int) from rfl, scGood_row l l[i] hx l _ _ l[i].size j 0 (by omega), List.drop_zero, w64 (by omega), show ((i : Int) + 1) = ((i + 1 : Nat) : Int) by omega, ih j (i + 1) (by omega) (by omega)]
      unfold RowOK
      rw [h1', Bool.true_and]
      by_cases h2 : (cs l[i]).all chS = true
      · rw [if_pos h2, h2, Bool.true_and]
        rfl
      · rw [if_neg h2, Bool.eq_false_iff.2 h2, Bool.false_and, if_neg (by decide)]
    · have h1' : (l[i].size == wid l) = false := by simp; omega
      rw [if_neg h1]
      unfold RowOK
      rw [h1', Bool.false_and, Bool.false_and, if_neg (by decide)]
theorem scGood_eq (l : List ByteArray) (hl : l.length ≤ 1048576) (hs : ∀ s ∈ l, s.size ≤ 1048576) (k : Nat) (hk : fuelR l ≤ k) : spec_scGood.f k l = some (Grid chS 1 60 20 l) := by
  unfold spec_scGood.f
  have := scGood_loop l hl hs l.length k 0 (by omega) (by simpa using hk)
  rw [List.drop_zero] at this
  rw [show (0 : Int) = ((0 : Nat) : Int) from rfl, this]
  unfold Grid
  by_cases h : l.all (RowOK chS (wid l)) = true
  · rw [if_pos h, h, Bool.and_true]
    by_cases h1 : 1 ≤ l.length ∧ l.length ≤ 60
    · rw [if_pos h1, if_pos (by omega), decide_eq_true h1.1, decide_eq_true h1.2]
      by_cases h2 : 1 ≤ wid l <;> by_cases h3 : wid l ≤ 20 <;> simp [h2, h3]
    · rw [if_neg h1]
      by_cases h2 : 1 ≤ l.length <;> by_cases h3 : l.length ≤ 60
      · exact absurd ⟨h2, h3⟩ h1
      all_goals simp [h2, h3]
  · rw [if_neg h, Bool.eq_false_iff.2 h, Bool.and_false]

def chIn (chars : ByteArray) (c : Int) : Bool := decide (c.toNat.toUInt8 ∈ chars.data.toList)
theorem isGrid_row (x0 : List ByteArray) (ch s : ByteArray) (hs : s.size ≤ 1048576) (x40 : List ByteArray) (x41 x42 : Int) (d : Nat) : ∀ (k i : Nat), i + d = s.size →
    impl_isGridOf.l1 (k + d + 1) x0 ch s i x40 x41 x42 = if ((cs s).drop i).all (chIn ch) then impl_isGridOf.l0 k x0 ch x40 x41 (wrap64 (x42 + 1)) else some false := by
  induction d with
  | zero =>
    intro k i hi
    rw [impl_isGridOf.l1, if_neg (by omega), List.drop_of_length_le (by rw [cs_length]; omega)]
    simp
  | succ d ih =>
    intro k i hi
    rw [impl_isGridOf.l1, if_pos (by omega), if_pos (by omega), bt_get s i (by omega), drop_get (cs s) i (by rw [cs_length]; omega), List.all_cons, w64 (by omega), show k + (d + 1) = k + d + 1 by omega, show ((i : Int) + 1) = ((i + 1 : Nat) : Int) by omega, ih k (i + 1) (by omega)]
    generalize (cs s)[i]'_ = c
    unfold strings_IndexByte.f chIn
    simp only [Option.bind_some]
    have hf := indexByte_found ch.data.toList c.toNat.toUInt8
    by_cases h : c.toNat.toUInt8 ∈ ch.data.toList
    · rw [if_neg (fun h' => hf.1 h' h), decide_eq_true h, Bool.true_and]
    · rw [if_pos (hf.2 h), decide_eq_false h, Bool.false_and, if_neg (by decide)]
theorem isGrid_loop (l : List ByteArray) (ch : ByteArray) (hl : l.length ≤ 1048576) (hs : ∀ s ∈ l, s.size ≤ 1048576) (d : Nat) : ∀ (k i : Nat), i + d = l.length → fuelR (l.drop i) ≤ k →
    impl_isGridOf.l0 k l ch l l.length i = some ((l.drop i).all (RowOK (chIn ch) (wid l))) := by
  induction d with
  | zero =>
    intro k i hi hk
    rw [List.drop_of_length_le (by omega)] at hk ⊢
    obtain ⟨k, rfl⟩ : ∃ j, k = j + 1 := ⟨k - 1, by unfold fuelR at hk; omega⟩
    rw [impl_isGridOf.l0, if_neg (by omega)]
    rfl
  | succ d ih =>
    intro k i hi hk
    have hx : l[i].size ≤ 1048576 := hs _ (List.getElem_mem _)
    rw [drop_get l i (by omega)] at hk ⊢
    unfold fuelR at hk
    obtain ⟨j, hj⟩ : ∃ j, k = j + l[i].size + 1 + 1 := ⟨k - l[i].size - 2, by omega⟩
    rw [hj]
    have h0 : 0 < l.length := by omega
    rw [impl_isGridOf.l0, if_pos (by omega), if_pos (by omega), if_pos (by omega), if_pos (by omega), rdB_get l i (by omega)]
    rw [show rdOf ByteArray.empty l 0 = l[0] from rdB_get l 0 h0, ← wid_get l h0, List.all_cons]
    by_cases h1 : (l[i].size : Int) = (wid l : Int)
    · have h1' : (l[i].size == wid l) = true := by simp; omega
      rw [if_pos h1, show (0 : Int) = ((0 : Nat) : Int) from rfl, isGrid_row l ch l[i] hx l _ _ l[i].size j 0 (by omega), List.drop_zero, w64 (by omega), show ((i : Int) + 1) = ((i + 1 : Nat) : Int) by omega, ih j (i + 1) (by omega) (by omega)]
      unfold RowOK
      rw [h1', Bool.true_and]
      by_cases h2 : (cs l[i]).all (chIn ch) = true
      · rw [if_pos h2, h2, Bool.true_and]
      · rw [if_neg h2, Bool.eq_false_iff.2 h2, Bool.false_and]
    · have h1' : (l[i].size == wid l) = false := by simp; omega
      rw [if_neg h1]
      unfold RowOK
      rw [h1', Bool.false_and, Bool.false_and]
theorem isGrid_eq (l : List ByteArray) (hl : l.length ≤ 1048576) (hs : ∀ s ∈ l, s.size ≤ 1048576) (least rows width : Nat) (h1 : 1 ≤ least) (ch : ByteArray) (k : Nat) (hk : fuelR l < k) :
    impl_isGridOf.f k l least rows width ch = some (Grid (chIn ch) least rows width l) := by
  obtain ⟨k, rfl⟩ : ∃ j, k = j + 1 := ⟨k - 1, by omega⟩
  unfold impl_isGridOf.f Grid
  simp only [impl_isGridOf.j0, if_true]
  by_cases h2 : least ≤ l.length
  · by_cases h3 : l.length ≤ rows
    · have h0 : 0 < l.length := by omega
      rw [if_neg (by omega), if_neg (by omega), if_pos (by omega), show rdOf ByteArray.empty l 0 = l[0] from rdB_get l 0 h0, ← wid_get l h0, decide_eq_true h2, decide_eq_true h3]
      by_cases h4 : least ≤ wid l
      · rw [if_neg (by omega), decide_eq_true h4]
        by_cases h5 : wid l ≤ width
        · have := isGrid_loop l ch hl hs l.length k 0 (by omega) (by simpa using (by omega : fuelR l ≤ k))
          rw [List.drop_zero] at this
          rw [if_neg (by simp; omega), decide_eq_true h5, show (0 : Int) = ((0 : Nat) : Int) from rfl, this]
          simp
        · rw [if_pos (by simp; omega), decide_eq_false h5]; simp
      · rw [if_pos (by omega), decide_eq_false h4]; simp
    · rw [if_neg (by omega), if_pos (by omega), decide_eq_false h3]; simp
  · rw [if_pos (by omega), decide_eq_false h2]; simp

theorem chIn_scan (c : Int) (hc : 0 ≤ c ∧ c ≤ 255) : chIn ⟨#[46, 111, 63]⟩ c = chS c := by
  unfold chIn chS
  obtain ⟨n, rfl⟩ : ∃ n : Nat, c = n := ⟨c.toNat, by omega⟩
  have hn : n < 256 := by omega
  rw [Int.toNat_natCast]
  have key : ∀ m : Fin 256, decide (m.val.toUInt8 ∈ [(46 : UInt8), 111, 63]) = ((m.val : Int) == 46 || (m.val : Int) == 111 || (m.val : Int) == 63) := by decide +kernel
  exact key ⟨n, hn⟩
theorem cs_range (s : ByteArray) : ∀ c ∈ cs s, 0 ≤ c ∧ c ≤ 255 := by
  intro c hc
  unfold cs bytesOf at hc
  obtain ⟨b, _, rfl⟩ := List.mem_map.1 hc
  have := b.toNat_lt
  omega
theorem all_congr' {α : Type} (l : List α) (p q : α → Bool) (h : ∀ x ∈ l, p x = q x) : l.all p = l.all q := by
  induction l with
  | nil => rfl
  | cons a r ih => rw [List.all_cons, List.all_cons, h a (by simp), ih (fun x hx => h x (List.mem_cons_of_mem _ hx))]
theorem rowOK_scan (n : Nat) (s : ByteArray) : RowOK (chIn ⟨#[46, 111, 63]⟩) n s = RowOK chS n s := by
  unfold RowOK
  rw [all_congr' _ _ _ (fun c hc => chIn_scan c (cs_range s c hc))]
theorem grid_scan (least rows width : Nat) (l : List ByteArray) : Grid (chIn ⟨#[46, 111, 63]⟩) least rows width l = Grid chS least rows width l := by
  unfold Grid
  rw [all_congr' _ _ _ (fun s _ => rowOK_scan (wid l) s)]

theorem grid_facts {ch : Int → Bool} {least rows width : Nat} {l : List ByteArray} (h : Grid ch least rows width l = true) :
    least ≤ l.length ∧ l.length ≤ rows ∧ least ≤ wid l ∧ wid l ≤ width ∧ ∀ s ∈ l, s.size = wid l ∧ ∀ c ∈ cs s, ch c = true := by
  unfold Grid at h
  simp only [Bool.and_eq_true, decide_eq_true_eq, List.all_eq_true] at h
  obtain ⟨⟨⟨⟨h1, h2⟩, h3⟩, h4⟩, h5⟩ := h
  refine ⟨h1, h2, h3, h4, fun s hs => ?_⟩
  have := h5 s hs
  unfold RowOK at this
  simp only [Bool.and_eq_true, beq_iff_eq, List.all_eq_true] at this
  exact this
theorem chS_cases {c : Int} (h : chS c = true) : c = 46 ∨ c = 111 ∨ c = 63 := by
  unfold chS at h
  simp only [Bool.or_eq_true, beq_iff_eq] at h
  omega
theorem fuelR_bound (l : List ByteArray) (n : Nat) (h : ∀ s ∈ l, s.size ≤ n) : fuelR l ≤ l.length * (n + 2) + 1 := by
  induction l with
  | nil => simp [fuelR]
  | cons s r ih =>
    have h1 := ih (fun x hx => h x (List.mem_cons_of_mem _ hx))
    have h2 := h s (by simp)
    unfold fuelR
    rw [List.length_cons, Nat.add_mul]
    omega

theorem isScan_eq (l : List ByteArray) (hl : l.length ≤ 1048576) (hs : ∀ s ∈ l, s.size ≤ 1048576) (k : Nat) (hk : fuelR l < k) : impl_IsScan.f k l = some (Grid chS 1 60 20 l) := by
  unfold impl_IsScan.f
  rw [show (1 : Int) = ((1 : Nat) : Int) from rfl, show (60 : Int) = ((60 : Nat) : Int) from rfl, show (20 : Int) = ((20 : Nat) : Int) from rfl, isGrid_eq l hl hs 1 60 20 (by omega) _ _ hk, grid_scan]
  rfl

/-- the marks' texts: what counts is that there is one for each number -/
def mtext (n : Int) : ByteArray := (laws_markText.f 100 n).getD ByteArray.empty
theorem markText_loop (d : Nat) : ∀ (k : Nat) (n : Int) (s : ByteArray), 0 ≤ n → n < 10 ^ d → n ≤ 1099511627776 → d < k → s.size + d ≤ 1000 → ∃ t, laws_markText.l0 k n s = some t := by
  induction d with
  | zero =>
    intro k n s h0 h1 h2 hk hs
    obtain ⟨k, rfl⟩ : ∃ j, k = j + 1 := ⟨k - 1, by omega⟩
    simp at h1
    rw [laws_markText.l0, if_neg (by omega), if_pos (by omega)]
    exact ⟨_, rfl⟩
  | succ d ih =>
    intro k n s h0 h1 h2 hk hs
    obtain ⟨k, rfl⟩ : ∃ j, k = j + 1 := ⟨k - 1, by omega⟩
    by_cases h : n > 0
    · rw [laws_markText.l0, if_pos h]
      simp only [Option.bind_some]
      rw [if_pos (by rw [strOfNums_size]; simp; omega)]
      have h10 : Int.tdiv n 10 = n / 10 := Int.tdiv_eq_ediv_of_nonneg h0
      have hd : n / 10 < 10 ^ d := by
        rw [Int.pow_succ] at h1
        exact Int.ediv_lt_of_lt_mul (by omega) (by omega)
      rw [h10, w64 (x := n / 10) (by omega)]
      exact ih k (n / 10) _ (by omega) hd (by omega) (by omega) (by rw [ByteArray.size_append, strOfNums_size]; simp; omega)
    · rw [laws_markText.l0, if_neg h, if_pos (by omega)]
      exact ⟨_, rfl⟩
theorem markText_eq (n : Int) (h0 : 0 ≤ n) (h1 : n ≤ 1099511627776) (k : Nat) (hk : 100 ≤ k) : laws_markText.f k n = some (mtext n) := by
  have h : ∃ t, laws_markText.f 100 n = some t := by
    unfold laws_markText.f
    by_cases h : n ≤ 0
    · rw [if_pos h]; exact ⟨_, rfl⟩
    · rw [if_neg h]
      exact markText_loop 13 100 n _ h0 (by omega) h1 (by omega) (by decide)
  obtain ⟨t, ht⟩ := h
  have e : mtext n = t := by unfold mtext; rw [ht]; rfl
  rw [e]
  exact at_rounds (g := fun k => laws_markText.f k n) (fun k => laws_markText.mono n k) hk ht
def upS (n : Int) : Nat → List ByteArray
  | 0 => []
  | d + 1 => mtext n :: upS (n + 1) d
theorem upS_length (n : Int) (d : Nat) : (upS n d).length = d := by
  induction d generalizing n with
  | zero => rfl
  | succ d ih => simp [upS, ih]
theorem markStrings_loop (d : Nat) : ∀ (k : Nat) (p l : List ByteArray) (n : Int), l.length = d → d + 100 < k → p.length + l.length ≤ 1048576 → 1 ≤ n ∧ n ≤ 10000000 + p.length →
    laws_markStringS.l0 k (p ++ l) n p.length = some (n + d, p ++ upS n d) := by
  induction d with
  | zero =>
    intro k p l n hi hk hl hn
    obtain ⟨k, rfl⟩ : ∃ j, k = j + 1 := ⟨k - 1, by omega⟩
    obtain rfl := List.length_eq_zero_iff.1 hi
    rw [laws_markStringS.l0, if_neg (by simp)]
    simp [upS]
  | succ d ih =>
    intro k p l n hi hk hl hn
    obtain ⟨k, rfl⟩ : ∃ j, k = j + 1 := ⟨k - 1, by omega⟩
    obtain ⟨x, r, rfl⟩ : ∃ x r, l = x :: r := by
      cases l with
      | nil => simp at hi
      | cons x r => exact ⟨x, r, rfl⟩
    simp only [List.length_cons] at hi hl
    rw [laws_markStringS.l0, if_pos (by simp; omega), markText_eq n (by omega) (by omega) k (by omega)]
    simp only [Option.bind_some]
    rw [if_pos (by omega), Int.toNat_natCast, List.set_append_right _ _ (by omega), Nat.sub_self, List.set_cons_zero, w64 (by omega), w64 (by omega)]
    have := ih k (p ++ [mtext n]) r (n + 1) (by omega) (by omega) (by simp; omega) (by simp; omega)
    rw [show p ++ mtext n :: r = (p ++ [mtext n]) ++ r by simp, show ((p.length : Int) + 1) = (((p ++ [mtext n]).length : Nat) : Int) by simp, this, upS]
    simp; omega
theorem markStrings_eq (l : List ByteArray) (hl : l.length ≤ 1048576) (n : Int) (hn : 1 ≤ n ∧ n ≤ 10000000) (k : Nat) (hk : l.length + 100 < k) : laws_markStringS.f k l n = some (n + (l.length : Int), upS n l.length) := by
  unfold laws_markStringS.f
  have := markStrings_loop l.length k [] l n rfl hk (by simpa using hl) (by simp; omega)
  simpa using this
theorem heldStrings_loop (d : Nat) : ∀ (k : Nat) (p : List ByteArray) (n : Int), d + 100 < k → p.length + d ≤ 1048576 → 1 ≤ n ∧ n ≤ 10000000 + p.length →
    laws_heldStringS.l0 k (p ++ upS n d) n p.length = some (n + d) := by
  induction d with
  | zero =>
    intro k p n hk hl hn
    obtain ⟨k, rfl⟩ : ∃ j, k = j + 1 := ⟨k - 1, by omega⟩
    rw [laws_heldStringS.l0, if_neg (by simp [upS])]; simp
  | succ d ih =>
    intro k p n hk hl hn
    obtain ⟨k, rfl⟩ : ∃ j, k = j + 1 := ⟨k - 1, by omega⟩
    rw [upS, laws_heldStringS.l0, if_pos (by simp; omega), if_pos (by omega), markText_eq n (by omega) (by omega) k (by omega), rdB_get _ p.length (by simp), List.getElem_append_right (by omega)]
    simp only [Option.bind_some, Nat.sub_self, List.getElem_cons_zero, if_true]
    rw [w64 (by omega), w64 (by omega)]
    have := ih k (p ++ [mtext n]) (n + 1) (by omega) (by simp; omega) (by simp; omega)
    rw [show p ++ mtext n :: upS (n + 1) d = (p ++ [mtext n]) ++ upS (n + 1) d by simp, show ((p.length : Int) + 1) = (((p ++ [mtext n]).length : Nat) : Int) by simp, this]
    congr 1; omega
theorem heldStrings_eq (d : Nat) (hl : d ≤ 1048576) (n : Int) (hn : 1 ≤ n ∧ n ≤ 10000000) (k : Nat) (hk : d + 100 < k) : laws_heldStringS.f k (upS n d) n = some (n + (d : Int)) := by
  unfold laws_heldStringS.f
  have := heldStrings_loop d k [] n hk (by simpa using hl) (by simp; omega)
  simpa using this

/-- what the law does once both answers are the same: the answer shares nothing, and a second call answers the same -/
theorem deep_eq (l : List ByteArray) (hl : l.length ≤ 1048576) (r : List ByteArray) (b : Bool) (hr : r.length ≤ 1048576) (K : Nat) (hi : ∀ k, K ≤ k → impl_MostHoles.f k l = some (r, b)) (k : Nat) (hk : K + l.length + r.length + 200 ≤ k) :
    laws_FnExactMostHoles.j0 k l r b l r b false = some true := by
  obtain ⟨k, rfl⟩ : ∃ j, k = j + 1 + 1 + 1 := ⟨k - 3, by omega⟩
  rw [laws_FnExactMostHoles.j0, if_neg (by decide), toStrings_eq l hl _ (by omega)]
  simp only [Option.bind_some]
  rw [eqStrings_self l hl _ (by omega)]
  simp only [Option.bind_some, if_true]
  rw [markStrings_eq l hl 1 (by omega) _ (by omega)]
  simp only [Option.bind_some]
  rw [if_neg (by omega), eqStrings_self r hr _ (by omega)]
  simp only [Option.bind_some, if_true, bne_self_eq_false]
  rw [laws_FnExactMostHoles.j1, if_neg (by decide), markStrings_eq r hr 1 (by omega) _ (by omega)]
  simp only [Option.bind_some]
  rw [heldStrings_eq r.length hr 1 (by omega) _ (by omega)]
  simp only [Option.bind_some]
  rw [if_neg (by omega), if_pos trivial, toStrings_eq l hl _ (by omega)]
  simp only [Option.bind_some]
  rw [hi _ (by omega)]
  simp only [Option.bind_some]
  rw [eqStrings_self r hr _ (by omega)]
  simp only [Option.bind_some, if_true, bne_self_eq_false]
  rw [laws_FnExactMostHoles.j2, if_neg (by decide), heldStrings_eq r.length hr 1 (by omega) _ (by omega)]
  simp only [Option.bind_some]
  rw [if_neg (by omega), if_pos trivial]
theorem law_eq (l : List ByteArray) (hl : l.length ≤ maxLen) (hs : ∀ s ∈ l, s.size ≤ maxLen) (r : List ByteArray) (b : Bool) (hr : r.length ≤ 1048576) (K : Nat)
    (h : l.length ≤ 1048576 → (∀ s ∈ l, s.size ≤ 1048576) → ∀ k, K ≤ k → spec_MostHoles.f k l = some (r, b) ∧ impl_MostHoles.f k l = some (r, b)) : ∃ k, laws_FnExactMostHoles.f k l = some true := by
  obtain ⟨z, hz, hb⟩ := szStrings_eq l hl hs 1048576 (by omega)
  refine ⟨K + l.length + r.length + 200, ?_⟩
  unfold laws_FnExactMostHoles.f
  rw [hz _ (by omega)]
  simp only [Option.bind_some]
  by_cases hn : z < 0
  · rw [if_pos hn]
  · obtain ⟨_, b1, b2⟩ := hb (by omega)
    obtain ⟨e1, e2⟩ := h b1 b2 (K + l.length + r.length + 200) (by omega)
    rw [if_neg hn, toStrings_eq l b1 _ (by omega)]
    simp only [Option.bind_some]
    rw [e1, e2]
    simp only [Option.bind_some]
    rw [eqStrings_self r hr _ (by omega)]
    simp only [Option.bind_some, if_true, bne_self_eq_false]
    exact deep_eq l b1 r b hr K (fun k hk => (h b1 b2 k hk).2) _ (Nat.le_refl _)

/-- one byte of a row put in the place of each '?' -/
def fillL (m : List UInt8) : List UInt8 → List UInt8
  | [] => []
  | c :: s => (if c = 63 then m else [c]) ++ fillL m s
theorem fillL_append (m a b : List UInt8) : fillL m (a ++ b) = fillL m a ++ fillL m b := by
  induction a with
  | nil => rfl
  | cons c a ih => simp [fillL, ih]
theorem replaceK_cons (m : List UInt8) (b : UInt8) (hb : b ≠ 63) (k : Nat) (s : List UInt8) : Go.Lib.replaceK [63] m k (b :: s) = b :: Go.Lib.replaceK [63] m k s := by
  cases k with
  | zero => rfl
  | succ k =>
    have e1 : Go.Lib.index (b :: s) [63] = if Go.Lib.index s [63] = -1 then -1 else Go.Lib.index s [63] + 1 := by
      rw [Go.Lib.index_one, Go.Lib.index_one]
      conv => lhs; unfold Go.Lib.indexByte
      simp [hb]
    have hge := Go.Lib.index_ge s [63]
    by_cases h : Go.Lib.index s [63] = -1
    · rw [if_pos h] at e1
      rw [Go.Lib.replaceK, Go.Lib.replaceK, e1, h]; simp
    · rw [if_neg h] at e1
      obtain ⟨i, hi⟩ : ∃ i : Nat, Go.Lib.index s [63] = i := ⟨(Go.Lib.index s [63]).toNat, by omega⟩
      rw [Go.Lib.replaceK_hit _ _ _ _ i hi, Go.Lib.replaceK_hit _ _ _ _ (i + 1) (by rw [e1, hi]; omega)]
      simp
theorem replaceK_fill (m : List UInt8) (s : List UInt8) : Go.Lib.replaceK [63] m (s.count 63) s = fillL m s := by
  induction s with
  | nil => rfl
  | cons b s ih =>
    by_cases hb : b = 63
    · subst hb
      have e1 : Go.Lib.index (63 :: s) [63] = ((0 : Nat) : Int) := by
        rw [Go.Lib.index_one]; unfold Go.Lib.indexByte; simp
      rw [List.count_cons_self, Go.Lib.replaceK_hit _ _ _ _ 0 e1]
      simp [fillL, ih]
    · rw [List.count_cons_of_ne hb, replaceK_cons m b hb, ih]
      simp [fillL, hb]
theorem replaceAll_fill (m : List UInt8) (hm : m ≠ [63]) (s : List UInt8) : Go.Lib.replaceAll s [63] m = fillL m s := by
  unfold Go.Lib.replaceAll Go.Lib.replace Go.Lib.replaceNum
  rw [if_neg (by simpa using fun h => hm h.symm), if_pos (.inl (by decide)), Go.Lib.count_one, replaceK_fill]
/-- a row filled -/
def fillB (m s : ByteArray) : ByteArray := ⟨(fillL m.data.toList s.data.toList).toArray⟩
def fillTo (m s : ByteArray) (n : Nat) : ByteArray := ⟨(fillL m.data.toList (s.data.toList.take n)).toArray⟩
theorem fillL_length (m s : List UInt8) (hm : m.length = 1) : (fillL m s).length = s.length := by
  induction s with
  | nil => rfl
  | cons c s ih =>
    unfold fillL
    split <;> simp [ih, hm] <;> omega
theorem fillTo_size (m s : ByteArray) (hm : m.data.toList.length = 1) (n : Nat) : (fillTo m s n).size ≤ n := by
  show (fillL _ _).toArray.size ≤ n
  rw [List.size_toArray, fillL_length _ _ hm, List.length_take]
  omega
theorem fillTo_all (m s : ByteArray) : fillTo m s s.size = fillB m s := by
  unfold fillTo fillB
  rw [List.take_of_length_le (by simp)]
theorem fillTo_succ (m s : ByteArray) (c : Nat) (h : c < s.size) : fillTo m s (c + 1) = if bt s (c : Int) = 63 then fillTo m s c ++ m else fillTo m s c ++ s.extract c (c + 1) := by
  have hb : bt s (c : Int) = ((s[c]'h).toNat : Int) := by unfold bt; rw [dif_pos (by simpa using h)]; rfl
  have hl : c < s.data.toList.length := by rw [data_length]; exact h
  have e1 : s.data.toList.take (c + 1) = s.data.toList.take c ++ [s[c]'h] := by
    rw [List.take_add_one, List.getElem?_eq_getElem hl]
    rfl
  have e2 : (s.extract c (c + 1)).data.toList = [s[c]'h] := by
    simp only [ByteArray.data_extract, Array.toList_extract, List.extract]
    rw [List.drop_eq_getElem_cons hl, show c + 1 - c = 1 by omega]
    rfl
  have hx : (bt s (c : Int) = 63) ↔ (s[c]'h = 63) := by
    rw [hb]
    constructor
    · intro h1
      apply UInt8.toNat_inj.1
      have : (63 : UInt8).toNat = 63 := rfl
      omega
    · intro h1; rw [h1]; rfl
  split
  · rename_i h1
    rw [hx] at h1
    apply ByteArray.ext; apply Array.ext'
    unfold fillTo
    rw [e1, fillL_append, h1]
    simp [fillL]
  · rename_i h1
    rw [hx] at h1
    apply ByteArray.ext; apply Array.ext'
    unfold fillTo
    rw [e1, fillL_append]
    rw [ByteArray.data_append, Array.toList_append, e2]
    simp [fillL, h1]
theorem fill_row (m : ByteArray) (hm : m.data.toList.length = 1) (l : List ByteArray) (hl : l.length ≤ 1000) (s : ByteArray) (hs : s.size ≤ 1000) (acc : List ByteArray) (ha : acc.length ≤ 1000) (r : Nat) (hr : r < l.length) (d : Nat) :
    ∀ (k c : Nat), c + d = s.size → d < k → spec_scFill.l1 k m acc s (fillTo m s c) c l l.length r = spec_scFill.l0 (k - d - 1) m (acc ++ [fillB m s]) l l.length ((r + 1 : Nat) : Int) := by
  have hm1 : m.size = 1 := (data_length m).symm.trans hm
  induction d with
  | zero =>
    intro k c hc hk
    obtain ⟨k, rfl⟩ : ∃ j, k = j + 1 := ⟨k - 1, by omega⟩
    rw [spec_scFill.l1, if_neg (by omega), if_pos (by omega), w64 (by omega), show c = s.size by omega, fillTo_all, show k + 1 - 0 - 1 = k by omega, show (r : Int) + 1 = ((r + 1 : Nat) : Int) by omega]
  | succ d ih =>
    intro k c hc hk
    obtain ⟨k, rfl⟩ : ∃ j, k = j + 1 := ⟨k - 1, by omega⟩
    have e := ih k (c + 1) (by omega) (by omega)
    have ec : wrap64 ((c : Int) + 1) = ((c + 1 : Nat) : Int) := by rw [w64 (by omega)]; omega
    have hx : (s.extract c (c + 1)).size = 1 := by rw [ByteArray.size_extract]; omega
    have h0 : (0 : Int) ≤ (c : Int) := by omega
    have h1' : (c : Int) ≤ ((c + 1 : Nat) : Int) := by omega
    have h2' : ((c + 1 : Nat) : Int) ≤ (s.size : Int) := by omega
    have hlt : (c : Int) < (s.size : Int) := by omega
    have hcs : c < s.size := by omega
    have hkk : k + 1 - (d + 1) - 1 = k - d - 1 := by omega
    have h3' : (fillTo m s c).size + 1 ≤ 9223372036854775807 := Nat.le_trans (Nat.succ_le_succ (fillTo_size m s hm c)) (show c + 1 ≤ 9223372036854775807 by omega)
    rw [hkk, ← e]
    clear e ih
    rw [spec_scFill.l1, if_pos hlt, if_pos h0, ec, Int.toNat_natCast, Int.toNat_natCast, fillTo_succ m s c hcs]
    by_cases hb : bt s (c : Int) = 63
    · rw [if_pos hb, if_pos hb, hm1, if_pos h3']
    · rw [if_neg hb, if_neg hb, if_pos h1', if_pos h2', hx, if_pos h3']
theorem fill_rows (m : ByteArray) (hm : m.data.toList.length = 1) (l : List ByteArray) (hl : l.length ≤ 1000) (n : Nat) (hn : n ≤ 1000) (hs : ∀ s ∈ l, s.size = n) (d : Nat) :
    ∀ (k r : Nat), r + d = l.length → d * (n + 2) < k → spec_scFill.l0 k m ((l.take r).map (fillB m)) l l.length r = some (l.map (fillB m)) := by
  induction d with
  | zero =>
    intro k r hr hk
    obtain ⟨k, rfl⟩ : ∃ j, k = j + 1 := ⟨k - 1, by omega⟩
    rw [spec_scFill.l0, if_neg (by omega), List.take_of_length_le (by omega)]
  | succ d ih =>
    intro k r hr hk
    obtain ⟨k, rfl⟩ : ∃ j, k = j + 1 := ⟨k - 1, by omega⟩
    rw [Nat.succ_mul] at hk
    have hz : l[r].size = n := hs _ (List.getElem_mem _)
    rw [spec_scFill.l0, if_pos (by omega), if_pos (by omega), if_pos (by omega), rdB_get l r (by omega)]
    have e := fill_row m hm l hl l[r] (by omega) ((l.take r).map (fillB m)) (by simp; omega) r (by omega) n k 0 (by omega) (by omega)
    have e0 : fillTo m l[r] 0 = ⟨#[]⟩ := rfl
    rw [e0, show ((0 : Nat) : Int) = 0 from rfl] at e
    rw [e]
    have := ih (k - n - 1) (r + 1) (by omega) (by omega)
    rw [List.take_add_one, List.getElem?_eq_getElem (by omega), List.map_append] at this
    exact this
theorem filled_rows (m : ByteArray) (hm : m.data.toList.length = 1) (h63 : m.data.toList ≠ [63]) (l : List ByteArray) (hl : l.length ≤ 1000) (n : Nat) (hn : n ≤ 1000) (hs : ∀ s ∈ l, s.size = n) (d : Nat) :
    ∀ (k r : Nat), r + d = l.length → d < k → impl_filledScan.l0 k m ((l.take r).map (fillB m)) l l.length r = some (l.map (fillB m)) := by
  have hm1 : m.size = 1 := (data_length m).symm.trans hm
  induction d with
  | zero =>
    intro k r hr hk
    obtain ⟨k, rfl⟩ : ∃ j, k = j + 1 := ⟨k - 1, by omega⟩
    rw [impl_filledScan.l0, if_neg (by omega), List.take_of_length_le (by omega)]
  | succ d ih =>
    intro k r hr hk
    obtain ⟨k, rfl⟩ : ∃ j, k = j + 1 := ⟨k - 1, by omega⟩
    have hz : l[r].size = n := hs _ (List.getElem_mem _)
    have er : strings_ReplaceAll.f l[r] (⟨#[63]⟩ : ByteArray) m = some (fillB m l[r]) := by
      unfold strings_ReplaceAll.f fillB
      rw [if_pos ⟨rfl, by omega, by omega⟩, show (⟨#[63]⟩ : ByteArray).data.toList = [63] from rfl, replaceAll_fill _ h63]
    rw [impl_filledScan.l0, if_pos (by omega), if_pos (by omega), if_pos (by omega), rdB_get l r (by omega), er]
    simp only [Option.bind_some]
    have hlen : ((l.take r).map (fillB m)).length < 8796093022208 := by simp; omega
    rw [if_pos hlen, w64 (by omega)]
    have := ih k (r + 1) (by omega) (by omega)
    rw [List.take_add_one, List.getElem?_eq_getElem (by omega), List.map_append] at this
    exact this
def fillOut (m : ByteArray) (l : List ByteArray) : List ByteArray × Bool := if Grid chS 1 60 20 l = true then (l.map (fillB m), true) else ([], false)

theorem both (l : List ByteArray) (b1 : l.length ≤ 1048576) (b2 : ∀ s ∈ l, s.size ≤ 1048576) (k : Nat) (hk : fuelR l + 20000 ≤ k) :
    spec_MostHoles.f k l = some (fillOut ⟨#[111]⟩ l) ∧ impl_MostHoles.f k l = some (fillOut ⟨#[111]⟩ l) := by
  unfold spec_MostHoles.f impl_MostHoles.f fillOut
  rw [scGood_eq l b1 b2 k (by omega), isScan_eq l b1 b2 k (by omega)]
  simp only [Option.bind_some]
  by_cases hg : Grid chS 1 60 20 l = true
  · obtain ⟨g1, g2, g3, g4, g5⟩ := grid_facts hg
    have e1 : spec_scFill.f k l (⟨#[111]⟩ : ByteArray) = some (l.map (fillB ⟨#[111]⟩)) := by
      unfold spec_scFill.f
      have := fill_rows ⟨#[111]⟩ rfl l (by omega) (wid l) (by omega) (fun s hs => (g5 s hs).1) l.length k 0 (by omega) (by
        have : l.length * (wid l + 2) ≤ 60 * 22 := Nat.mul_le_mul g2 (by omega)
        omega)
      simpa using this
    have e2 : impl_filledScan.f k l (⟨#[111]⟩ : ByteArray) = some (l.map (fillB ⟨#[111]⟩)) := by
      unfold impl_filledScan.f
      have := filled_rows ⟨#[111]⟩ rfl (by decide) l (by omega) (wid l) (by omega) (fun s hs => (g5 s hs).1) l.length k 0 (by omega) (by omega)
      simpa using this
    rw [if_pos hg, if_pos hg, if_pos hg, e1, e2]
    exact ⟨rfl, rfl⟩
  · rw [if_neg hg, if_neg hg, if_neg hg]
    exact ⟨rfl, rfl⟩
theorem FnExactMostHoles (l : List ByteArray) (hl : l.length ≤ maxLen) (hs : ∀ s ∈ l, s.size ≤ maxLen) : ∃ k, laws_FnExactMostHoles.f k l = some true := by
  by_cases h0 : l.length ≤ 1048576
  · refine law_eq l hl hs (fillOut ⟨#[111]⟩ l).1 (fillOut ⟨#[111]⟩ l).2 ?_ (fuelR l + 20000) (fun b1 b2 k hk => both l b1 b2 k hk)
    unfold fillOut
    split
    · rw [List.length_map]; exact h0
    · simp
  · refine law_eq l hl hs [] false (by simp) 0 (fun b1 _ => absurd b1 h0)
end Go.Proofs.YtadbebmcognplaaDoor.Pure
