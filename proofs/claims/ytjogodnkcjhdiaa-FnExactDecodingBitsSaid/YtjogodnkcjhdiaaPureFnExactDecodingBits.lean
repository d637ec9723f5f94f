/- FnExactDecodingBits: the program's DecodingBits answers as the reference's, for all slices of strings. No condition. -/
import Derived.Test.YtjogodnkcjhdiaaPFnExactDecodingBitsx6
namespace Go.Proofs.Ytjogodnkcjhdiaa.Pure
open Go.RowKit Go.Proofs.Ytjogodnkcjhdiaa.PFnExactDecodingBits Go.Proofs.YtjogodnkcjhdiaaW.PrintWords Go.Proofs.YtjogodnkcjhdiaaW.PrintLast

set_option linter.unusedVariables false
set_option linter.unusedSimpArgs false

theorem w64 {x : Int} (h : -9223372036854775808 ≤ x ∧ x ≤ 9223372036854775807) : wrap64 x = x := by
  unfold wrap64; omega
theorem someF {p : Prop} [Decidable p] (h : ¬ p) : some false = some (decide p) := by rw [decide_eq_false h]
theorem someD {q p : Prop} [Decidable q] [Decidable p] (h : q ↔ p) : some (decide q) = some (decide p) := by rw [decide_eq_decide.2 h]

theorem in_eq (a b c : Int) : spec_l1In.f a b c = some (decide (b ≤ a ∧ a ≤ c)) := by
  unfold spec_l1In.f
  by_cases h : a ≥ b
  · rw [if_pos h]; congr 1; simp [show b ≤ a from h]
  · rw [if_neg h]; congr 1; simp; omega

theorem fill_step {α : Type} (l : List α) (z : α) (i : Nat) (h : i < l.length) :
    (l.take i ++ List.replicate (l.length - i) z).set i (l[i]'h) = l.take (i + 1) ++ List.replicate (l.length - (i + 1)) z := by
  have hl : (l.take i).length = i := by rw [List.length_take]; omega
  rw [List.set_append_right _ _ (by omega), hl, Nat.sub_self, show l.length - i = (l.length - (i + 1)) + 1 by omega, List.replicate_succ, List.set_cons_zero, List.take_succ_eq_append_getElem h, List.append_assoc]
  rfl
theorem fill_length {α : Type} (l : List α) (z : α) (i : Nat) (h : i ≤ l.length) : (l.take i ++ List.replicate (l.length - i) z).length = l.length := by
  simp; omega

theorem rd_get (l : List Int) (i : Nat) (h : i < l.length) : rd l (i : Int) = l[i] := by
  unfold rd; rw [Int.toNat_natCast, List.getD_eq_getElem?_getD, List.getElem?_eq_getElem h]; rfl

theorem rdB_get (l : List ByteArray) (i : Nat) (h : i < l.length) : rdOf ByteArray.empty l (i : Int) = l[i] := by
  unfold rdOf; rw [Int.toNat_natCast, List.getD_eq_getElem?_getD, List.getElem?_eq_getElem h]; rfl
theorem drop_get {α : Type} (l : List α) (i : Nat) (h : i < l.length) : l.drop i = l[i] :: l.drop (i + 1) := List.drop_eq_getElem_cons h
/-- the bytes of a string -/
abbrev cs (s : ByteArray) : List Int := bytesOf s
theorem cs_length (s : ByteArray) : (cs s).length = s.size := bytesOf_length s
theorem bt_get (s : ByteArray) (i : Nat) (h : i < s.size) : bt s (i : Int) = (cs s)[i]'(by rw [cs_length]; exact h) := by
  rw [← rd_bytesOf, rd_get _ _ (by rw [bytesOf_length]; exact h)]
theorem szStrings_loop (l : List ByteArray) (hl : l.length ≤ 1048576) (hs : ∀ s ∈ l, s.size ≤ maxLen) (d : Nat) : ∀ (k i : Nat) (n : Int), i + d = l.length → d < k → 0 ≤ n ∧ n ≤ 1048576 →
    ∃ r, laws_szStringS.l0 k l n i = some r ∧ (0 ≤ r → r ≤ n ∧ ∀ s ∈ l.drop i, s.size ≤ n) := by
  induction d with
  | zero =>
    intro k i n hi hk hn
    obtain ⟨k, rfl⟩ : ∃ j, k = j + 1 := ⟨k - 1, by omega⟩
    exact ⟨n, by rw [laws_szStringS.l0, if_neg (by omega)], fun _ => ⟨Int.le_refl _, by rw [List.drop_of_length_le (by omega)]; simp⟩⟩
  | succ d ih =>
    intro k i n hi hk hn
    obtain ⟨k, rfl⟩ : ∃ j, k = j + 1 := ⟨k - 1, by omega⟩
    have h1 : l[i].size ≤ maxLen := hs _ (List.getElem_mem _)
    unfold maxLen at h1
    rw [laws_szStringS.l0, if_pos (by omega), if_pos (by omega), rdB_get l i (by omega), w64 (x := n - _) (by omega), w64 (by omega)]
    by_cases h : n - (l[i].size : Int) < 0
    · exact ⟨-1, by rw [if_pos h], fun h' => by omega⟩
    · obtain ⟨r, hr, hb⟩ := ih k (i + 1) (n - l[i].size) (by omega) (by omega) (by omega)
      refine ⟨r, by rw [if_neg h]; exact hr, fun h' => ?_⟩
      obtain ⟨b1, b2⟩ := hb h'
      refine ⟨by omega, ?_⟩
      rw [drop_get l i (by omega), List.forall_mem_cons]
      exact ⟨by omega, fun s hs' => by have := b2 s hs'; omega⟩
/-- the guard on the size of an argument: what it lets through is small -/
theorem szStrings_eq (l : List ByteArray) (hl : l.length ≤ maxLen) (hs : ∀ s ∈ l, s.size ≤ maxLen) (n : Int) (hn : 0 ≤ n ∧ n ≤ 1048576) :
    ∃ r, (∀ k, l.length < k → laws_szStringS.f k l n = some r) ∧ (0 ≤ r → r ≤ n ∧ l.length ≤ 1048576 ∧ ∀ s ∈ l, s.size ≤ 1048576) := by
  have hl' := hl
  unfold maxLen at hl'
  by_cases h : n - (l.length : Int) < 0
  · exact ⟨-1, fun k _ => by unfold laws_szStringS.f; rw [w64 (by omega), if_pos h], fun h' => by omega⟩
  · obtain ⟨r, hr, hb⟩ := szStrings_loop l (by omega) hs l.length (l.length + 1) 0 (n - l.length) (by omega) (by omega) (by omega)
    refine ⟨r, fun k hk => ?_, fun h' => ?_⟩
    · unfold laws_szStringS.f
      rw [w64 (by omega), if_neg h]
      obtain ⟨q, hq, _⟩ := szStrings_loop l (by omega) hs l.length k 0 (n - l.length) (by omega) (by omega) (by omega)
      have := at_rounds (g := fun k => laws_szStringS.l0 k l (n - l.length) ((0 : Nat) : Int)) (fun k => laws_szStringS.mono_l k _ _ _) (show l.length + 1 ≤ k by omega) hr
      exact this
    · obtain ⟨b1, b2⟩ := hb h'
      refine ⟨by omega, by omega, fun s hs' => ?_⟩
      have := b2 s (by simpa using hs')
      omega
theorem toStrings_loop (l : List ByteArray) (hl : l.length ≤ 1048576) (d : Nat) : ∀ (k i : Nat), i + d = l.length → d < k →
    laws_toStringS.l0 k l (l.take i ++ List.replicate (l.length - i) (⟨#[]⟩ : ByteArray)) i = some l := by
  induction d with
  | zero =>
    intro k i hi hk
    obtain ⟨k, rfl⟩ : ∃ j, k = j + 1 := ⟨k - 1, by omega⟩
    rw [laws_toStringS.l0, if_neg (by omega), show l.length - i = 0 by omega, List.replicate_zero, List.append_nil, List.take_of_length_le (by omega)]
  | succ d ih =>
    intro k i hi hk
    obtain ⟨k, rfl⟩ : ∃ j, k = j + 1 := ⟨k - 1, by omega⟩
    rw [laws_toStringS.l0, if_pos (by omega), if_pos (by omega), fill_length _ _ _ (by omega), if_pos (by omega), Int.toNat_natCast, rdB_get l i (by omega), fill_step l _ i (by omega), w64 (by omega)]
    exact ih k (i + 1) (by omega) (by omega)
theorem toStrings_eq (l : List ByteArray) (hl : l.length ≤ 1048576) (k : Nat) (hk : l.length < k) : laws_toStringS.f k l = some l := by
  unfold laws_toStringS.f
  rw [if_pos (by omega), if_pos (by omega), Int.toNat_natCast]
  have := toStrings_loop l hl l.length k 0 (by omega) hk
  simpa using this
theorem eqStrings_loop (l : List ByteArray) (hl : l.length ≤ 1048576) (d : Nat) : ∀ (k i : Nat), i + d = l.length → d < k → laws_eqStringS.l0 k l l i = some true := by
  induction d with
  | zero =>
    intro k i hi hk
    obtain ⟨k, rfl⟩ : ∃ j, k = j + 1 := ⟨k - 1, by omega⟩
    rw [laws_eqStringS.l0, if_neg (by omega)]
  | succ d ih =>
    intro k i hi hk
    obtain ⟨k, rfl⟩ : ∃ j, k = j + 1 := ⟨k - 1, by omega⟩
    rw [laws_eqStringS.l0, if_pos (by omega), if_pos (by omega), if_pos (by omega), if_pos rfl, w64 (by omega)]
    exact ih k (i + 1) (by omega) (by omega)
theorem eqStrings_self (l : List ByteArray) (hl : l.length ≤ 1048576) (k : Nat) (hk : l.length < k) : laws_eqStringS.f k l l = some true := by
  unfold laws_eqStringS.f
  rw [if_pos rfl]
  exact eqStrings_loop l hl l.length k 0 (by omega) hk

/-- rectangles of some characters: the rows are as long as the first, and hold those characters alone -/
def RowOK (ch : Int → Bool) (n : Nat) (s : ByteArray) : Bool := s.size == n && (cs s).all ch
def wid (l : List ByteArray) : Nat := (l.headD ByteArray.empty).size
def Grid (ch : Int → Bool) (least rows width : Nat) (l : List ByteArray) : Bool :=
  decide (least ≤ l.length) && decide (l.length ≤ rows) && decide (least ≤ wid l) && decide (wid l ≤ width) && l.all (RowOK ch (wid l))
def fuelR : List ByteArray → Nat
  | [] => 1
  | s :: r => s.size + 2 + fuelR r
theorem wid_get (l : List ByteArray) (h : 0 < l.length) : wid l = (l[0]'h).size := by
  cases l with
  | nil => simp at h
  | cons a r => rfl
theorem indexByte_found (l : List UInt8) (c : UInt8) : (Go.Lib.indexByte l c < 0) ↔ c ∉ l := by
  induction l with
  | nil => simp [Go.Lib.indexByte]
  | cons b r ih =>
    have hge : ∀ l : List UInt8, -1 ≤ Go.Lib.indexByte l c := by
      intro l
      induction l with
      | nil => simp [Go.Lib.indexByte]
      | cons b r ih => unfold Go.Lib.indexByte; split; omega; split <;> omega
    have hr := hge r
    unfold Go.Lib.indexByte
    by_cases h : b = c
    · subst h; simp
    · have h1 : (b == c) = false := by simpa using h
      have h2 : c ≠ b := fun e => h e.symm
      rw [h1]
      simp only [Bool.false_eq_true, if_false, List.mem_cons, not_or]
      by_cases h3 : Go.Lib.indexByte r c = -1
      · have h4 : (Go.Lib.indexByte r c == -1) = true := by simpa using h3
        rw [h4]; simp only [if_true]
        exact ⟨fun _ => ⟨h2, ih.1 (by omega)⟩, fun _ => by omega⟩
      · have h4 : (Go.Lib.indexByte r c == -1) = false := by simpa using h3
        rw [h4]; simp only [Bool.false_eq_true, if_false]
        exact ⟨fun h => by omega, fun h => absurd (ih.2 h.2) (by omega)⟩

def chIn (chars : ByteArray) (c : Int) : Bool := decide (c.toNat.toUInt8 ∈ chars.data.toList)
theorem isGrid_row (x0 : List ByteArray) (ch s : ByteArray) (hs : s.size ≤ 1048576) (x40 : List ByteArray) (x41 x42 : Int) (d : Nat) : ∀ (k i : Nat), i + d = s.size →
    impl_isGridOf.l1 (k + d + 1) x0 ch s i x40 x41 x42 = if ((cs s).drop i).all (chIn ch) then impl_isGridOf.l0 k x0 ch x40 x41 (wrap64 (x42 + 1)) else some false := by
  induction d with
  | zero =>
    intro k i hi
    rw [impl_isGridOf.l1, if_neg (by omega), List.drop_of_length_le (by rw [cs_length]; omega)]
    simp
  | succ d ih =>
    intro k i hi
    rw [impl_isGridOf.l1, if_pos (by omega), if_pos (by omega), bt_get s i (by omega), drop_get (cs s) i (by rw [cs_length]; omega), List.all_cons, w64 (by omega), show k + (d + 1) = k + d + 1 by omega, show ((i : Int) + 1) = ((i + 1 : Nat) : Int) by omega, ih k (i + 1) (by omega)]
    generalize (cs s)[i]'_ = c
    unfold strings_IndexByte.f chIn
    simp only [Option.bind_some]
    have hf := indexByte_found ch.data.toList c.toNat.toUInt8
    by_cases h : c.toNat.toUInt8 ∈ ch.data.toList
    · rw [if_neg (fun h' => hf.1 h' h), decide_eq_true h, Bool.true_and]
    · rw [if_pos (hf.2 h), decide_eq_false h, Bool.false_and, if_neg (by decide)]
theorem isGrid_loop (l : List ByteArray) (ch : ByteArray) (hl : l.length ≤ 1048576) (hs : ∀ s ∈ l, s.size ≤ 1048576) (d : Nat) : ∀ (k i : Nat), i + d = l.length → fuelR (l.drop i) ≤ k →
    impl_isGridOf.l0 k l ch l l.length i = some ((l.drop i).all (RowOK (chIn ch) (wid l))) := by
  induction d with
  | zero =>
    intro k i hi hk
    rw [List.drop_of_length_le (by omega)] at hk ⊢
    obtain ⟨k, rfl⟩ : ∃ j, k = j + 1 := ⟨k - 1, by unfold fuelR at hk; omega⟩
    rw [impl_isGridOf.l0, if_neg (by omega)]
    rfl
  | succ d ih =>
    intro k i hi hk
    have hx : l[i].size ≤ 1048576 := hs _ (List.getElem_mem _)
    rw [drop_get l i (by omega)] at hk ⊢
    unfold fuelR at hk
    obtain ⟨j, hj⟩ : ∃ j, k = j + l[i].size + 1 + 1 := ⟨k - l[i].size - 2, by omega⟩
    rw [hj]
    have h0 : 0 < l.length := by omega
    rw [impl_isGridOf.l0, if_pos (by omega), if_pos (by omega), if_pos (by omega), if_pos (by omega), rdB_get l i (by omega)]
    rw [show rdOf ByteArray.empty l 0 = l[0] from rdB_get l 0 h0, ← wid_get l h0, List.all_cons]
    by_cases h1 : (l[i].size : Int) = (wid l : Int)
    · have h1' : (l[i].size == wid l) = true := by simp; omega
      rw [if_pos h1, show (0 : Int) = ((0 : Nat) : Int) from rfl, isGrid_row l ch l[i] hx l _ _ l[i].size j 0 (by omega), List.drop_zero, w64 (by omega), show ((i : Int) + 1) = ((i + 1 : Nat) : Int) by omega, ih j (i + 1) (by omega) (by omega)]
      unfold RowOK
      rw [h1', Bool.true_and]
      by_cases h2 : (cs l[i]).all (chIn ch) = true
      · rw [if_pos h2, h2, Bool.true_and]
      · rw [if_neg h2, Bool.eq_false_iff.2 h2, Bool.false_and]
    · have h1' : (l[i].size == wid l) = false := by simp; omega
      rw [if_neg h1]
      unfold RowOK
      rw [h1', Bool.false_and, Bool.false_and]
theorem isGrid_eq (l : List ByteArray) (hl : l.length ≤ 1048576) (hs : ∀ s ∈ l, s.size ≤ 1048576) (least rows width : Nat) (h1 : 1 ≤ least) (ch : ByteArray) (k : Nat) (hk : fuelR l < k) :
    impl_isGridOf.f k l least rows width ch = some (Grid (chIn ch) least rows width l) := by
  obtain ⟨k, rfl⟩ : ∃ j, k = j + 1 := ⟨k - 1, by omega⟩
  unfold impl_isGridOf.f Grid
  simp only [impl_isGridOf.j0, if_true]
  by_cases h2 : least ≤ l.length
  · by_cases h3 : l.length ≤ rows
    · have h0 : 0 < l.length := by omega
      rw [if_neg (by omega), if_neg (by omega), if_pos (by omega), show rdOf ByteArray.empty l 0 = l[0] from rdB_get l 0 h0, ← wid_get l h0, decide_eq_true h2, decide_eq_true h3]
      by_cases h4 : least ≤ wid l
      · rw [if_neg (by omega), decide_eq_true h4]
        by_cases h5 : wid l ≤ width
        · have := isGrid_loop l ch hl hs l.length k 0 (by omega) (by simpa using (by omega : fuelR l ≤ k))
          rw [List.drop_zero] at this
          rw [if_neg (by simp; omega), decide_eq_true h5, show (0 : Int) = ((0 : Nat) : Int) from rfl, this]
          simp
        · rw [if_pos (by simp; omega), decide_eq_false h5]; simp
      · rw [if_pos (by omega), decide_eq_false h4]; simp
    · rw [if_neg (by omega), if_pos (by omega), decide_eq_false h3]; simp
  · rw [if_pos (by omega), decide_eq_false h2]; simp

def chS (c : Int) : Bool := c == 46 || c == 111 || c == 63

theorem chIn_scan (c : Int) (hc : 0 ≤ c ∧ c ≤ 255) : chIn ⟨#[46, 111, 63]⟩ c = chS c := by
  unfold chIn chS
  obtain ⟨n, rfl⟩ : ∃ n : Nat, c = n := ⟨c.toNat, by omega⟩
  have hn : n < 256 := by omega
  rw [Int.toNat_natCast]
  have key : ∀ m : Fin 256, decide (m.val.toUInt8 ∈ [(46 : UInt8), 111, 63]) = ((m.val : Int) == 46 || (m.val : Int) == 111 || (m.val : Int) == 63) := by decide +kernel
  exact key ⟨n, hn⟩
theorem cs_range (s : ByteArray) : ∀ c ∈ cs s, 0 ≤ c ∧ c ≤ 255 := by
  intro c hc
  unfold cs bytesOf at hc
  obtain ⟨b, _, rfl⟩ := List.mem_map.1 hc
  have := b.toNat_lt
  omega
theorem all_congr' {α : Type} (l : List α) (p q : α → Bool) (h : ∀ x ∈ l, p x = q x) : l.all p = l.all q := by
  induction l with
  | nil => rfl
  | cons a r ih => rw [List.all_cons, List.all_cons, h a (by simp), ih (fun x hx => h x (List.mem_cons_of_mem _ hx))]
theorem rowOK_scan (n : Nat) (s : ByteArray) : RowOK (chIn ⟨#[46, 111, 63]⟩) n s = RowOK chS n s := by
  unfold RowOK
  rw [all_congr' _ _ _ (fun c hc => chIn_scan c (cs_range s c hc))]
theorem grid_scan (least rows width : Nat) (l : List ByteArray) : Grid (chIn ⟨#[46, 111, 63]⟩) least rows width l = Grid chS least rows width l := by
  unfold Grid
  rw [all_congr' _ _ _ (fun s _ => rowOK_scan (wid l) s)]

/-- a character among some -/
def chAny (m : ByteArray) (c : Int) : Bool := (cs m).any fun b => c == b
def fuelD (M : Nat) : List ByteArray → Nat
  | [] => 1
  | s :: r => s.size * (M + 2) + 2 + fuelD M r
theorem deShape_mark (x0 : List ByteArray) (a1 a2 : Int) (m s : ByteArray) (hm : m.size ≤ 1000) (i : Nat) (hi : i < s.size) (x14 : List ByteArray) (x15 x16 : Int) (e : Nat) : ∀ (k j : Nat) (flag : Bool), j + e = m.size →
    spec_deShape.l2 (k + e + 1) x0 a1 a2 m s i flag j x14 x15 x16 = if flag || ((cs m).drop j).any (fun b => (cs s)[i]'(by rw [cs_length]; exact hi) == b) then spec_deShape.l1 k x0 a1 a2 m s (wrap64 ((i : Int) + 1)) x14 x15 x16 else some false := by
  induction e with
  | zero =>
    intro k j flag hj
    rw [spec_deShape.l2, if_neg (by omega), List.drop_of_length_le (by rw [cs_length]; omega)]
    simp
  | succ e ih =>
    intro k j flag hj
    rw [spec_deShape.l2, if_pos (by omega), w64 (x := (j : Int) + 1) (by omega), show ((j : Int) + 1) = ((j + 1 : Nat) : Int) by omega, show k + (e + 1) = k + e + 1 by omega, drop_get (cs m) j (by rw [cs_length]; omega), List.any_cons]
    cases flag
    · rw [if_neg (by decide), if_pos (by omega), if_pos (by omega), if_pos (by omega), bt_get s i hi, bt_get m j (by omega), ih k (j + 1) _ (by omega)]
      simp
    · rw [if_pos rfl, ih k (j + 1) true (by omega)]
      simp
theorem deShape_row (x0 : List ByteArray) (a1 a2 : Int) (m s : ByteArray) (hm : m.size ≤ 1000) (hs : s.size ≤ 1048576) (x14 : List ByteArray) (x15 x16 : Int) (d : Nat) : ∀ (k i : Nat), i + d = s.size →
    spec_deShape.l1 (k + d * (m.size + 2) + 1) x0 a1 a2 m s i x14 x15 x16 = if ((cs s).drop i).all (chAny m) then spec_deShape.l0 k x0 a1 a2 m x14 x15 (wrap64 (x16 + 1)) else some false := by
  induction d with
  | zero =>
    intro k i hi
    rw [spec_deShape.l1, if_neg (by omega), List.drop_of_length_le (by rw [cs_length]; omega)]
    simp
  | succ d ih =>
    intro k i hi
    rw [show k + (d + 1) * (m.size + 2) + 1 = (k + d * (m.size + 2) + 1) + m.size + 1 + 1 by rw [Nat.add_mul]; omega, spec_deShape.l1, if_pos (by omega)]
    have := deShape_mark x0 a1 a2 m s hm i (by omega) x14 x15 x16 m.size (k + d * (m.size + 2) + 1) 0 false (by omega)
    rw [List.drop_zero, Bool.false_or] at this
    rw [show (0 : Int) = ((0 : Nat) : Int) from rfl, this, w64 (by omega), show ((i : Int) + 1) = ((i + 1 : Nat) : Int) by omega, ih k (i + 1) (by omega), drop_get (cs s) i (by rw [cs_length]; omega), List.all_cons]
    unfold chAny
    cases hc : (cs m).any (fun b => (cs s)[i]'(by rw [cs_length]; omega) == b)
    · simp
    · simp
theorem deShape_loop (l : List ByteArray) (least most : Nat) (h1 : 1 ≤ least) (m : ByteArray) (hm : m.size ≤ 1000) (hl : l.length ≤ 1048576) (hs : ∀ s ∈ l, s.size ≤ 1048576) (d : Nat) : ∀ (k i : Nat), i + d = l.length → fuelD m.size (l.drop i) ≤ k →
    spec_deShape.l0 k l least most m l l.length i = if (l.drop i).all (RowOK (chAny m) (wid l)) then some (decide (least ≤ l.length ∧ l.length ≤ most ∧ least ≤ wid l ∧ wid l ≤ most)) else some false := by
  induction d with
  | zero =>
    intro k i hi hk
    rw [List.drop_of_length_le (by omega)] at hk ⊢
    obtain ⟨k, rfl⟩ : ∃ j, k = j + 1 := ⟨k - 1, by unfold fuelD at hk; omega⟩
    rw [spec_deShape.l0, if_neg (by omega), in_eq]
    simp only [Option.bind_some, decide_eq_true_eq, List.all_nil, if_true]
    by_cases h0 : (least : Int) ≤ (l.length : Int) ∧ (l.length : Int) ≤ most
    · rw [if_pos h0, if_pos (show 0 < (l.length : Int) by omega), show ((0 : Int)) = ((0 : Nat) : Int) from rfl, rdB_get l 0 (by omega), in_eq, ← wid_get l (by omega)]
      simp only [Option.bind_some]
      exact someD (by omega)
    · rw [if_neg h0]; exact someF (by omega)
  | succ d ih =>
    intro k i hi hk
    have hx : l[i].size ≤ 1048576 := hs _ (List.getElem_mem _)
    rw [drop_get l i (by omega)] at hk ⊢
    unfold fuelD at hk
    obtain ⟨j, hj⟩ : ∃ j, k = j + l[i].size * (m.size + 2) + 1 + 1 := ⟨k - l[i].size * (m.size + 2) - 2, by omega⟩
    have h0 : 0 < l.length := by omega
    rw [hj, spec_deShape.l0, if_pos (by omega), if_pos (by omega), if_pos (by omega), if_pos (by omega), rdB_get l i (by omega)]
    rw [show rdOf ByteArray.empty l 0 = l[0] from rdB_get l 0 h0, ← wid_get l h0, List.all_cons]
    by_cases h1 : (l[i].size : Int) = (wid l : Int)
    · have h1' : (l[i].size == wid l) = true := by simp; omega
      rw [if_pos h1, show (0 : Int) = ((0 : Nat) : Int) from rfl, deShape_row l least most m l[i] hm hx l _ _ l[i].size j 0 (by omega), List.drop_zero, w64 (by omega), show ((i : Int) + 1) = ((i + 1 : Nat) : Int) by omega, ih j (i + 1) (by omega) (by omega)]
      unfold RowOK
      rw [h1', Bool.true_and]
      by_cases h2 : (cs l[i]).all (chAny m) = true
      · rw [if_pos h2, h2, Bool.true_and]
      · rw [if_neg h2, Bool.eq_false_iff.2 h2, Bool.false_and, if_neg (by decide)]
    · have h1' : (l[i].size == wid l) = false := by simp; omega
      rw [if_neg h1]
      unfold RowOK
      rw [h1', Bool.false_and, Bool.false_and, if_neg (by decide)]
theorem deShape_eq (l : List ByteArray) (least most : Nat) (h1 : 1 ≤ least) (m : ByteArray) (hm : m.size ≤ 1000) (hl : l.length ≤ 1048576) (hs : ∀ s ∈ l, s.size ≤ 1048576) (k : Nat) (hk : fuelD m.size l ≤ k) :
    spec_deShape.f k l least most m = some (Grid (chAny m) least most most l) := by
  unfold spec_deShape.f
  have := deShape_loop l least most h1 m hm hl hs l.length k 0 (by omega) (by simpa using hk)
  rw [List.drop_zero] at this
  rw [show (0 : Int) = ((0 : Nat) : Int) from rfl, this]
  unfold Grid
  by_cases h : l.all (RowOK (chAny m) (wid l)) = true
  · rw [if_pos h, h, Bool.and_true]
    by_cases a : least ≤ l.length <;> by_cases b : l.length ≤ most <;> by_cases c : least ≤ wid l <;> by_cases d : wid l ≤ most <;> simp [a, b, c, d]
  · rw [if_neg h, Bool.eq_false_iff.2 h, Bool.and_false]
theorem chIn_any (m : ByteArray) (c : Int) (hc : 0 ≤ c ∧ c ≤ 255) : chIn m c = chAny m c := by
  unfold chIn chAny cs bytesOf
  rw [Bool.eq_iff_iff]
  simp only [decide_eq_true_eq, List.any_map, List.any_eq_true, Function.comp_apply, beq_iff_eq]
  have hb : ∀ b : UInt8, c = (b.toNat : Int) ↔ b = c.toNat.toUInt8 := fun b => by
    constructor
    · intro h; rw [h, Int.toNat_natCast]; simp
    · intro h; rw [h]
      have : c.toNat < 256 := by omega
      have e : (c.toNat.toUInt8).toNat = c.toNat := by simp [Nat.mod_eq_of_lt this]
      rw [e]; omega
  constructor
  · intro h; exact ⟨_, h, (hb _).2 rfl⟩
  · rintro ⟨b, h1, h2⟩; rw [← (hb b).1 h2]; exact h1
theorem grid_any (m : ByteArray) (least rows width : Nat) (l : List ByteArray) : Grid (chIn m) least rows width l = Grid (chAny m) least rows width l := by
  unfold Grid
  rw [all_congr' _ _ _ (fun s _ => (by unfold RowOK; rw [all_congr' _ _ _ (fun c hc => chIn_any m c (cs_range s c hc))] : RowOK (chIn m) (wid l) s = RowOK (chAny m) (wid l) s))]

theorem deGood_eq (l : List ByteArray) (hl : l.length ≤ 1048576) (hs : ∀ s ∈ l, s.size ≤ 1048576) (k : Nat) (hk : fuelD 3 l ≤ k) : spec_deGood.f k l = some (Grid chS 2 12 12 l) := by
  unfold spec_deGood.f
  rw [show (2 : Int) = ((2 : Nat) : Int) from rfl, show (12 : Int) = ((12 : Nat) : Int) from rfl, deShape_eq l 2 12 (by omega) (⟨#[46, 111, 63]⟩ : ByteArray) (by decide) hl hs k hk, ← grid_any, grid_scan]
  rfl
theorem isBlock_eq (l : List ByteArray) (hl : l.length ≤ 1048576) (hs : ∀ s ∈ l, s.size ≤ 1048576) (k : Nat) (hk : fuelR l < k) : impl_IsBlock.f k l = some (Grid chS 2 12 12 l) := by
  unfold impl_IsBlock.f
  rw [show (2 : Int) = ((2 : Nat) : Int) from rfl, show (12 : Int) = ((12 : Nat) : Int) from rfl, isGrid_eq l hl hs 2 12 12 (by omega) _ _ hk, grid_scan]
  rfl

theorem grid_facts {ch : Int → Bool} {least rows width : Nat} {l : List ByteArray} (h : Grid ch least rows width l = true) :
    least ≤ l.length ∧ l.length ≤ rows ∧ least ≤ wid l ∧ wid l ≤ width ∧ ∀ s ∈ l, s.size = wid l ∧ ∀ c ∈ cs s, ch c = true := by
  unfold Grid at h
  simp only [Bool.and_eq_true, decide_eq_true_eq, List.all_eq_true] at h
  obtain ⟨⟨⟨⟨h1, h2⟩, h3⟩, h4⟩, h5⟩ := h
  refine ⟨h1, h2, h3, h4, fun s hs => ?_⟩
  have := h5 s hs
  unfold RowOK at this
  simp only [Bool.and_eq_true, beq_iff_eq, List.all_eq_true] at this
  exact this
theorem chS_cases {c : Int} (h : chS c = true) : c = 46 ∨ c = 111 ∨ c = 63 := by
  unfold chS at h
  simp only [Bool.or_eq_true, beq_iff_eq] at h
  omega
theorem fuelR_bound (l : List ByteArray) (n : Nat) (h : ∀ s ∈ l, s.size ≤ n) : fuelR l ≤ l.length * (n + 2) + 1 := by
  induction l with
  | nil => simp [fuelR]
  | cons s r ih =>
    have h1 := ih (fun x hx => h x (List.mem_cons_of_mem _ hx))
    have h2 := h s (by simp)
    unfold fuelR
    rw [List.length_cons, Nat.add_mul]
    omega

/-- how many bytes of a kind -/
def cnt (m : Int) (l : List Int) : Int := (l.countP (fun c => c == m) : Nat)
theorem cnt_cons (m c : Int) (l : List Int) : cnt m (c :: l) = (if c = m then 1 else 0) + cnt m l := by
  unfold cnt
  rw [List.countP_cons]
  by_cases h : c = m
  · simp [h]; omega
  · simp [h]
theorem cnt_bounds (m : Int) (l : List Int) : 0 ≤ cnt m l ∧ cnt m l ≤ l.length := by
  unfold cnt
  have := List.countP_le_length (p := fun c => c == m) (l := l)
  omega
theorem cnt_append (m : Int) (a b : List Int) : cnt m (a ++ b) = cnt m a + cnt m b := by
  unfold cnt; rw [List.countP_append]; omega

/-- the characters of a line: a row, or behind all rows a column -/
def col (l : List ByteArray) (c : Nat) : List Int := l.map fun s => bt s c
def lineOf (l : List ByteArray) (n : Nat) : List Int := if n < l.length then cs (l.getD n ByteArray.empty) else col l (n - l.length)
theorem col_cons (s : ByteArray) (l : List ByteArray) (c : Nat) : col (s :: l) c = bt s c :: col l c := rfl
theorem cs_append (a b : ByteArray) : cs (a ++ b) = cs a ++ cs b := by
  unfold cs bytesOf
  rw [← List.map_append]
  congr 1
theorem cs_one (s : ByteArray) (i : Nat) (h : i < s.size) : cs (s.extract i (i + 1)) = [bt s i] := by
  rw [bt_get s i h]
  unfold cs bytesOf
  have : (s.extract i (i + 1)).data.toList = [s.data.toList[i]'(by rw [data_length]; exact h)] := by
    simp only [ByteArray.data_extract, Array.toList_extract, List.extract_eq_take_drop]
    rw [show i + 1 - i = 1 by omega, List.drop_eq_getElem_cons (by rw [data_length]; exact h)]
    rfl
  rw [this]
  simp
theorem size_append (a b : ByteArray) : (a ++ b).size = a.size + b.size := by simp

theorem deCount_loop (s : ByteArray) (m : Int) (hs : s.size ≤ 1048576) (d : Nat) : ∀ (k i : Nat) (n : Int), i + d = s.size → d < k → 0 ≤ n ∧ n + d ≤ 1099511627776 →
    spec_deCount.l0 k s m n i = some (n + cnt m ((cs s).drop i)) := by
  induction d with
  | zero =>
    intro k i n hi hk hn
    obtain ⟨k, rfl⟩ : ∃ j, k = j + 1 := ⟨k - 1, by omega⟩
    rw [spec_deCount.l0, if_neg (by omega), List.drop_of_length_le (by rw [cs_length]; omega)]
    simp [cnt]
  | succ d ih =>
    intro k i n hi hk hn
    obtain ⟨k, rfl⟩ : ∃ j, k = j + 1 := ⟨k - 1, by omega⟩
    rw [spec_deCount.l0, if_pos (by omega), if_pos (by omega), bt_get s i (by omega), drop_get (cs s) i (by rw [cs_length]; omega), cnt_cons, w64 (x := n + 1) (by omega), w64 (x := (i : Int) + 1) (by omega), show (i : Int) + 1 = ((i + 1 : Nat) : Int) by omega]
    split
    · rw [ih k (i + 1) (n + 1) (by omega) (by omega) (by omega), Int.add_assoc]
    · rw [ih k (i + 1) n (by omega) (by omega) (by omega), Int.zero_add]
theorem deCount_eq (s : ByteArray) (m : Int) (hs : s.size ≤ 1048576) (k : Nat) (hk : s.size < k) : spec_deCount.f k s m = some (cnt m (cs s)) := by
  unfold spec_deCount.f
  have := deCount_loop s m hs s.size k 0 0 (by omega) hk (by omega)
  rw [List.drop_zero, Int.zero_add] at this
  exact this

theorem deLine_loop (l : List ByteArray) (c : Nat) (hl : l.length ≤ 1000) (hc : c ≤ 1000) (hs : ∀ s ∈ l, c < s.size) (d : Nat) : ∀ (k i : Nat) (t : ByteArray), i + d = l.length → d < k → t.size + d ≤ 100000 →
    ∃ u, spec_deLine.l0 k l ((l.length + c : Nat) : Int) t l l.length i = some u ∧ cs u = cs t ++ col (l.drop i) c := by
  induction d with
  | zero =>
    intro k i t hi hk ht
    obtain ⟨k, rfl⟩ : ∃ j, k = j + 1 := ⟨k - 1, by omega⟩
    exact ⟨t, by rw [spec_deLine.l0, if_neg (by omega)], by rw [List.drop_of_length_le (by omega)]; simp [col]⟩
  | succ d ih =>
    intro k i t hi hk ht
    obtain ⟨k, rfl⟩ : ∃ j, k = j + 1 := ⟨k - 1, by omega⟩
    have h1 := hs _ (List.getElem_mem (show i < l.length by omega))
    have e1 : wrap64 (((l.length + c : Nat) : Int) - (l.length : Int)) = (c : Int) := by rw [w64 (by omega)]; omega
    have e2 : wrap64 ((c : Int) + 1) = ((c + 1 : Nat) : Int) := by rw [w64 (by omega)]; omega
    have hx : (l[i].extract c (c + 1)).size = 1 := by rw [ByteArray.size_extract]; omega
    obtain ⟨u, hu, hcs⟩ := ih k (i + 1) (t ++ l[i].extract c (c + 1)) (by omega) (by omega) (by rw [ByteArray.size_append]; omega)
    refine ⟨u, ?_, ?_⟩
    · rw [spec_deLine.l0, if_pos (by omega), if_pos (by omega), if_pos (by omega), e1, e2, if_pos (by omega), if_pos (by omega), rdB_get l i (by omega), if_pos (by omega), Int.toNat_natCast, Int.toNat_natCast, hx, if_pos (by omega), w64 (by omega)]
      exact hu
    · rw [hcs, cs_append, cs_one l[i] c h1, drop_get l i (by omega), col_cons, List.append_assoc]
      rfl
theorem deLine_eq (l : List ByteArray) (w : Nat) (hl : l.length ≤ 1000) (hw : w ≤ 1000) (hs : ∀ s ∈ l, s.size = w) (n : Nat) (hn : n < l.length + w) (k : Nat) (hk : l.length < k) : ∃ u, spec_deLine.f k l n = some u ∧ cs u = lineOf l n := by
  unfold spec_deLine.f lineOf
  by_cases h : n < l.length
  · refine ⟨l[n], ?_, ?_⟩
    · rw [if_pos (by omega), if_pos (by omega), rdB_get l n h]
    · rw [if_pos h, List.getD_eq_getElem?_getD, List.getElem?_eq_getElem h]; rfl
  · obtain ⟨u, hu, hc⟩ := deLine_loop l (n - l.length) hl (by omega) (fun s hs' => by rw [hs s hs']; omega) l.length k 0 ⟨#[]⟩ (by omega) (by omega) (by rw [show (⟨#[]⟩ : ByteArray).size = 0 from rfl]; omega)
    refine ⟨u, ?_, ?_⟩
    · rw [if_neg (by omega), show (n : Int) = ((l.length + (n - l.length) : Nat) : Int) by omega]
      exact hu
    · rw [if_neg h, hc, List.drop_zero]; rfl
theorem lineOf_length (l : List ByteArray) (w : Nat) (hs : ∀ s ∈ l, s.size = w) (n : Nat) : (lineOf l n).length ≤ l.length + w := by
  unfold lineOf
  split
  · rename_i h
    rw [cs_length, List.getD_eq_getElem?_getD, List.getElem?_eq_getElem h]
    have := hs _ (List.getElem_mem h)
    simp only [Option.getD_some]; omega
  · simp [col]

theorem deLines_eq (l : List ByteArray) (h0 : 0 < l.length) (hl : l.length ≤ 1000) (hw : wid l ≤ 1000) : spec_deLines.f l = some ((l.length + wid l : Nat) : Int) := by
  unfold spec_deLines.f
  rw [if_pos (by omega), show rdOf ByteArray.empty l 0 = l[0] from rdB_get l 0 h0, ← wid_get l h0, w64 (by omega)]
  rfl

def erasedOf : List ByteArray → Int
  | [] => 0
  | s :: r => cnt 63 (cs s) + erasedOf r
theorem erased_bounds (l : List ByteArray) (n : Nat) (h : ∀ s ∈ l, s.size ≤ n) : 0 ≤ erasedOf l ∧ erasedOf l ≤ l.length * n := by
  induction l with
  | nil => simp [erasedOf]
  | cons s r ih =>
    have h1 := ih (fun x hx => h x (List.mem_cons_of_mem _ hx))
    have h2 := h s (by simp)
    have h3 := cnt_bounds 63 (cs s)
    rw [cs_length] at h3
    rw [erasedOf, List.length_cons, show (((r.length + 1 : Nat) : Int) * (n : Int)) = (r.length : Int) * n + n by rw [Int.natCast_add, Int.add_mul]; simp]
    omega
theorem erased_zero (l : List ByteArray) : erasedOf l = 0 ↔ ∀ s ∈ l, cnt 63 (cs s) = 0 := by
  induction l with
  | nil => simp [erasedOf]
  | cons s r ih =>
    have h1 := (cnt_bounds 63 (cs s)).1
    have h2 : 0 ≤ erasedOf r := by
      clear ih
      induction r with
      | nil => simp [erasedOf]
      | cons t q ih => have := (cnt_bounds 63 (cs t)).1; rw [erasedOf]; omega
    rw [erasedOf, List.forall_mem_cons, ← ih]
    omega

theorem deErased_loop (l : List ByteArray) (hl : l.length ≤ 1000) (hs : ∀ s ∈ l, s.size ≤ 1000) (d : Nat) : ∀ (k i : Nat) (n : Int), i + d = l.length → d + 1001 < k → 0 ≤ n ∧ n + 1000 * d ≤ 1000000000 →
    spec_deErased.l0 k n l l.length i = some (n + erasedOf (l.drop i)) := by
  induction d with
  | zero =>
    intro k i n hi hk hn
    obtain ⟨k, rfl⟩ : ∃ j, k = j + 1 := ⟨k - 1, by omega⟩
    rw [spec_deErased.l0, if_neg (by omega), List.drop_of_length_le (by omega)]
    simp [erasedOf]
  | succ d ih =>
    intro k i n hi hk hn
    obtain ⟨k, rfl⟩ : ∃ j, k = j + 1 := ⟨k - 1, by omega⟩
    have h1 := hs _ (List.getElem_mem (show i < l.length by omega))
    have h2 := cnt_bounds 63 (cs l[i])
    rw [cs_length] at h2
    rw [spec_deErased.l0, if_pos (by omega), if_pos (by omega), if_pos (by omega), rdB_get l i (by omega), deCount_eq l[i] 63 (by omega) k (by omega), drop_get l i (by omega), erasedOf]
    simp only [Option.bind_some]
    rw [w64 (by omega), w64 (by omega), show (i : Int) + 1 = ((i + 1 : Nat) : Int) by omega, ih k (i + 1) _ (by omega) (by omega) (by omega), Int.add_assoc]
theorem deErased_eq (l : List ByteArray) (hl : l.length ≤ 1000) (hs : ∀ s ∈ l, s.size ≤ 1000) (k : Nat) (hk : 3000 < k) : spec_deErased.f k l = some (erasedOf l) := by
  unfold spec_deErased.f
  have := deErased_loop l hl hs l.length k 0 0 (by omega) (by omega) (by omega)
  rw [List.drop_zero, Int.zero_add] at this
  exact this

theorem blockLine_loop (l : List ByteArray) (c : Nat) (hl : l.length ≤ 1000) (hc : c ≤ 1000) (hs : ∀ s ∈ l, c < s.size) (d : Nat) : ∀ (k i : Nat) (t : List Int), i + d = l.length → d < k → t.length + d ≤ 100000 →
    impl_blockLine.l0 k l ((l.length + c : Nat) : Int) t l l.length i = some (t ++ col (l.drop i) c) := by
  induction d with
  | zero =>
    intro k i t hi hk ht
    obtain ⟨k, rfl⟩ : ∃ j, k = j + 1 := ⟨k - 1, by omega⟩
    rw [impl_blockLine.l0, if_neg (by omega), List.drop_of_length_le (by omega)]; simp [col]
  | succ d ih =>
    intro k i t hi hk ht
    obtain ⟨k, rfl⟩ : ∃ j, k = j + 1 := ⟨k - 1, by omega⟩
    have h1 := hs _ (List.getElem_mem (show i < l.length by omega))
    have e1 : wrap64 (((l.length + c : Nat) : Int) - (l.length : Int)) = (c : Int) := by rw [w64 (by omega)]; omega
    rw [impl_blockLine.l0, if_pos (by omega), if_pos (by omega), if_pos (by omega), e1, if_pos (by omega), rdB_get l i (by omega), if_pos (by omega), if_pos (by omega), w64 (by omega), show (i : Int) + 1 = ((i + 1 : Nat) : Int) by omega, ih k (i + 1) _ (by omega) (by omega) (by simp; omega), drop_get l i (by omega), col_cons, List.append_assoc]
    rfl
theorem blockLine_eq (l : List ByteArray) (w : Nat) (hl : l.length ≤ 1000) (hw : w ≤ 1000) (hs : ∀ s ∈ l, s.size = w) (n : Nat) (hn : n < l.length + w) (k : Nat) (hk : l.length < k) : impl_blockLine.f k l n = some (lineOf l n) := by
  unfold impl_blockLine.f lineOf
  by_cases h : n < l.length
  · have := hs _ (List.getElem_mem h)
    rw [if_pos (by omega), if_pos (by omega), rdB_get l n h, if_pos (by omega), if_pos h, List.getD_eq_getElem?_getD, List.getElem?_eq_getElem h]
    rfl
  · have := blockLine_loop l (n - l.length) hl (by omega) (fun s hs' => by rw [hs s hs']; omega) l.length k 0 [] (by omega) (by omega) (by simp; omega)
    rw [if_neg (by omega), if_neg h, show (n : Int) = ((l.length + (n - l.length) : Nat) : Int) by omega]
    rw [List.drop_zero, List.nil_append] at this
    exact this
theorem lineCounts_loop (x : List Int) (hx : x.length ≤ 100000) (d : Nat) : ∀ (k i : Nat) (a b : Int), i + d = x.length → d < k → (0 ≤ a ∧ a + d ≤ 1000000) → (0 ≤ b ∧ b + d ≤ 1000000) →
    impl_lineCounts.l0 k a b x x.length i = some (a + cnt 111 (x.drop i), b + cnt 63 (x.drop i)) := by
  induction d with
  | zero =>
    intro k i a b hi hk ha hb
    obtain ⟨k, rfl⟩ : ∃ j, k = j + 1 := ⟨k - 1, by omega⟩
    rw [impl_lineCounts.l0, if_neg (by omega), List.drop_of_length_le (by omega)]
    simp [cnt]
  | succ d ih =>
    intro k i a b hi hk ha hb
    obtain ⟨k, rfl⟩ : ∃ j, k = j + 1 := ⟨k - 1, by omega⟩
    rw [impl_lineCounts.l0, if_pos (by omega), if_pos (by omega), if_pos (by omega), rd_get x i (by omega), drop_get x i (by omega), cnt_cons, cnt_cons, w64 (x := a + 1) (by omega), w64 (x := b + 1) (by omega), w64 (x := (i : Int) + 1) (by omega), show (i : Int) + 1 = ((i + 1 : Nat) : Int) by omega]
    by_cases h1 : x[i] = 111
    · rw [if_pos h1, if_pos h1, if_neg (by omega), ih k (i + 1) (a + 1) b (by omega) (by omega) (by omega) (by omega)]
      congr 2 <;> omega
    · rw [if_neg h1, if_neg h1]
      by_cases h2 : x[i] = 63
      · rw [if_pos h2, if_pos h2, ih k (i + 1) a (b + 1) (by omega) (by omega) (by omega) (by omega)]
        congr 2 <;> omega
      · rw [if_neg h2, if_neg h2, ih k (i + 1) a b (by omega) (by omega) (by omega) (by omega)]
        congr 2 <;> omega
theorem lineCounts_eq (l : List ByteArray) (w : Nat) (hl : l.length ≤ 1000) (hw : w ≤ 1000) (hs : ∀ s ∈ l, s.size = w) (n : Nat) (hn : n < l.length + w) (k : Nat) (hk : 3000 < k) : impl_lineCounts.f k l n = some (cnt 111 (lineOf l n), cnt 63 (lineOf l n)) := by
  have h := lineOf_length l w hs n
  unfold impl_lineCounts.f
  rw [blockLine_eq l w hl hw hs n hn k (by omega)]
  simp only [Option.bind_some]
  have := lineCounts_loop (lineOf l n) (by omega) (lineOf l n).length k 0 0 0 (by omega) (by omega) (by omega) (by omega)
  rw [List.drop_zero, Int.zero_add, Int.zero_add] at this
  exact this

/-! ### parts of lines: two ways to name them -/
theorem rd_nat (P : List Int) (i : Nat) : rd P (i : Int) = P.getD i 0 := by unfold rd; rw [Int.toNat_natCast]
theorem mid_length {α : Type} (P : List α) (f : α → α) (i : Nat) (h : i ≤ P.length) : ((P.take i).map f ++ P.drop i).length = P.length := by
  rw [List.length_append, List.length_map, List.length_take, List.length_drop]; omega
theorem mid_get (P : List Int) (f : Int → Int) (i : Nat) (h : i < P.length) : ((P.take i).map f ++ P.drop i).getD i 0 = P[i] := by
  have hl : ((P.take i).map f).length = i := by rw [List.length_map, List.length_take]; omega
  rw [List.getD_eq_getElem?_getD, List.getElem?_append_right (by omega), hl, Nat.sub_self, drop_get P i h]
  rfl
theorem mid_set (P : List Int) (f : Int → Int) (i : Nat) (h : i < P.length) : ((P.take i).map f ++ P.drop i).set i (f P[i]) = (P.take (i + 1)).map f ++ P.drop (i + 1) := by
  have hl : ((P.take i).map f).length = i := by rw [List.length_map, List.length_take]; omega
  rw [List.set_append_right _ _ (by omega), hl, Nat.sub_self, drop_get P i h, List.set_cons_zero, List.take_succ_eq_append_getElem h, List.map_append, List.append_assoc]
  rfl
theorem mid_keep (P : List Int) (f : Int → Int) (i : Nat) (h : i < P.length) (e : f P[i] = P[i]) : (P.take i).map f ++ P.drop i = (P.take (i + 1)).map f ++ P.drop (i + 1) := by
  rw [drop_get P i h, List.take_succ_eq_append_getElem h, List.map_append, List.append_assoc]
  simp [e]
theorem map_getD (P : List Int) (f : Int → Int) (i : Nat) (h : i < P.length) : (P.map f).getD i 0 = f (P.getD i 0) := by
  rw [List.getD_eq_getElem?_getD, List.getD_eq_getElem?_getD, List.getElem?_map, List.getElem?_eq_getElem h]
  rfl
def least (a b : Int) : Int := if a < b then a else b
theorem least_eq (a b : Int) : spec_l1Least.f a b = some (least a b) := by
  unfold spec_l1Least.f least
  split <;> rfl
theorem least_or (a b : Int) : least a b = a ∨ least a b = b := by
  unfold least
  split
  · exact .inl rfl
  · exact .inr rfl
theorem least_le (a b : Int) : least a b ≤ a ∧ least a b ≤ b := by
  unfold least
  split <;> omega
def fS (a b n : Int) : Int := if n = a then least a b else if n = b then least a b else n
def fI (a b n : Int) : Int := if n = a then b else n
def mS (Q : List Int) (u v : Nat) : List Int := Q.map (fS (Q.getD u 0) (Q.getD v 0))
def mI (P : List Int) (u v : Nat) : List Int := P.map (fI (P.getD u 0) (P.getD v 0))
theorem fS_in {a b n : Int} (h : n = a ∨ n = b) : fS a b n = least a b := by
  unfold fS
  by_cases h1 : n = a
  · rw [if_pos h1]
  · rw [if_neg h1, if_pos (h.resolve_left h1)]
theorem fS_out {a b n : Int} (h : ¬ (n = a ∨ n = b)) : fS a b n = n := by
  unfold fS
  rw [if_neg (fun e => h (.inl e)), if_neg (fun e => h (.inr e))]
structure Rel (n : Nat) (P Q : List Int) : Prop where
  lp : P.length = n
  lq : Q.length = n
  ker : ∀ i j, i < n → j < n → (P.getD i 0 = P.getD j 0 ↔ Q.getD i 0 = Q.getD j 0)
  pr : ∀ i, i < n → 0 ≤ P.getD i 0 ∧ P.getD i 0 < n
  qr : ∀ i, i < n → 0 ≤ Q.getD i 0 ∧ Q.getD i 0 ≤ i
  qq : ∀ i, i < n → Q.getD (Q.getD i 0).toNat 0 = Q.getD i 0
theorem ker_step (pi pj pu pv qi qj a b : Int) (h1 : pi = pu ↔ qi = a) (h2 : pi = pv ↔ qi = b) (h3 : pj = pu ↔ qj = a) (h4 : pj = pv ↔ qj = b) (h5 : pi = pj ↔ qi = qj) :
    (fI pu pv pi = fI pu pv pj ↔ fS a b qi = fS a b qj) := by
  have vin : ∀ (p q : Int), (p = pu ↔ q = a) → (p = pv ↔ q = b) → (q = a ∨ q = b) → fI pu pv p = pv := by
    intro p q e1 e2 h
    unfold fI
    by_cases hp : p = pu
    · rw [if_pos hp]
    · rw [if_neg hp]
      exact e2.2 (h.resolve_left (fun e => hp (e1.2 e)))
  have vout : ∀ (p q : Int), (p = pu ↔ q = a) → ¬ (q = a ∨ q = b) → fI pu pv p = p := by
    intro p q e1 h
    unfold fI
    rw [if_neg (fun e => h (.inl (e1.1 e)))]
  by_cases A : qi = a ∨ qi = b
  · rw [vin pi qi h1 h2 A, fS_in A]
    by_cases B : qj = a ∨ qj = b
    · rw [vin pj qj h3 h4 B, fS_in B]
      exact ⟨fun _ => rfl, fun _ => rfl⟩
    · rw [vout pj qj h3 B, fS_out B]
      refine ⟨fun e => absurd (.inr (h4.1 e.symm)) B, fun e => ?_⟩
      rcases least_or a b with h | h
      · exact absurd (.inl (by rw [← e, h])) B
      · exact absurd (.inr (by rw [← e, h])) B
  · rw [vout pi qi h1 A, fS_out A]
    by_cases B : qj = a ∨ qj = b
    · rw [vin pj qj h3 h4 B, fS_in B]
      refine ⟨fun e => absurd (.inr (h2.1 e)) A, fun e => ?_⟩
      rcases least_or a b with h | h
      · exact absurd (.inl (by rw [e, h])) A
      · exact absurd (.inr (by rw [e, h])) A
    · rw [vout pj qj h3 B, fS_out B]
      exact h5
theorem merge_rel {n : Nat} {P Q : List Int} (r : Rel n P Q) (u v : Nat) (hu : u < n) (hv : v < n) : Rel n (mI P u v) (mS Q u v) := by
  have gp : ∀ i, i < n → (mI P u v).getD i 0 = fI (P.getD u 0) (P.getD v 0) (P.getD i 0) := fun i hi => map_getD P _ i (by rw [r.lp]; exact hi)
  have gq : ∀ i, i < n → (mS Q u v).getD i 0 = fS (Q.getD u 0) (Q.getD v 0) (Q.getD i 0) := fun i hi => map_getD Q _ i (by rw [r.lq]; exact hi)
  have inr : ∀ i, i < n → (Q.getD i 0).toNat < n := fun i hi => by have := r.qr i hi; omega
  refine ⟨by unfold mI; rw [List.length_map]; exact r.lp, by unfold mS; rw [List.length_map]; exact r.lq, ?_, ?_, ?_, ?_⟩
  · intro i j hi hj
    rw [gp i hi, gp j hj, gq i hi, gq j hj]
    exact ker_step _ _ _ _ _ _ _ _ (r.ker i u hi hu) (r.ker i v hi hv) (r.ker j u hj hu) (r.ker j v hj hv) (r.ker i j hi hj)
  · intro i hi
    rw [gp i hi]
    unfold fI
    by_cases h : P.getD i 0 = P.getD u 0
    · rw [if_pos h]; exact r.pr v hv
    · rw [if_neg h]; exact r.pr i hi
  · intro i hi
    rw [gq i hi]
    have hle := least_le (Q.getD u 0) (Q.getD v 0)
    have b1 := r.qr i hi
    have b2 := r.qr u hu
    have b3 := r.qr v hv
    by_cases A : Q.getD i 0 = Q.getD u 0 ∨ Q.getD i 0 = Q.getD v 0
    · rw [fS_in A]
      rcases least_or (Q.getD u 0) (Q.getD v 0) with h | h <;> rcases A with h' | h' <;> omega
    · rw [fS_out A]; exact b1
  · intro i hi
    rw [gq i hi]
    by_cases A : Q.getD i 0 = Q.getD u 0 ∨ Q.getD i 0 = Q.getD v 0
    · rw [fS_in A]
      rcases least_or (Q.getD u 0) (Q.getD v 0) with h | h
      · rw [h, gq _ (inr u hu), r.qq u hu, fS_in (.inl rfl), h]
      · rw [h, gq _ (inr v hv), r.qq v hv, fS_in (.inr rfl), h]
    · rw [fS_out A, gq _ (inr i hi), r.qq i hi, fS_out A]
/-- the sums of the parts, and which parts there are, behind the first lines -/
def sm (P : List Int) (h : Nat → Int) : Nat → Int → Int
  | 0, _ => 0
  | i + 1, x => sm P h i x + (if P.getD i 0 = x then h i else 0)
def th (P : List Int) : Nat → Int → Bool
  | 0, _ => false
  | i + 1, x => th P i x || decide (P.getD i 0 = x)
def firsts (Q : List Int) : Nat → Nat
  | 0 => 0
  | i + 1 => firsts Q i + (if Q.getD i 0 = (i : Int) then 1 else 0)
def cntR (f : Int → Bool) : Nat → Nat
  | 0 => 0
  | n + 1 => cntR f n + (if f (n : Int) = true then 1 else 0)
theorem sm_bound (P : List Int) (h : Nat → Int) (hh : ∀ i, 0 ≤ h i ∧ h i ≤ 1000) (i : Nat) (x : Int) : 0 ≤ sm P h i x ∧ sm P h i x ≤ 1000 * i := by
  induction i with
  | zero => simp [sm]
  | succ i ih =>
    have := hh i
    rw [sm]
    split <;> omega
theorem sm_same {n : Nat} {P Q : List Int} (r : Rel n P Q) (h : Nat → Int) (i : Nat) (hi : i < n) (m : Nat) (hm : m ≤ n) : sm P h m (P.getD i 0) = sm Q h m (Q.getD i 0) := by
  induction m with
  | zero => rfl
  | succ m ih =>
    rw [sm, sm, ih (by omega)]
    have k := r.ker m i (by omega) hi
    by_cases e : P.getD m 0 = P.getD i 0
    · rw [if_pos e, if_pos (k.1 e)]
    · rw [if_neg e, if_neg (fun e' => e (k.2 e'))]
theorem sm_none (Q : List Int) (h : Nat → Int) (x : Int) (m : Nat) (hx : ∀ j, j < m → Q.getD j 0 ≠ x) : sm Q h m x = 0 := by
  induction m with
  | zero => rfl
  | succ m ih => rw [sm, ih (fun j hj => hx j (by omega)), if_neg (hx m (by omega))]; rfl
theorem th_iff (P : List Int) (m : Nat) (x : Int) : th P m x = true ↔ ∃ j, j < m ∧ P.getD j 0 = x := by
  induction m with
  | zero => simp [th]
  | succ m ih =>
    rw [th, Bool.or_eq_true, ih, decide_eq_true_eq]
    constructor
    · rintro (⟨j, h1, h2⟩ | h)
      · exact ⟨j, by omega, h2⟩
      · exact ⟨m, by omega, h⟩
    · rintro ⟨j, h1, h2⟩
      by_cases e : j = m
      · rw [e] at h2; exact .inr h2
      · exact .inl ⟨j, by omega, h2⟩
theorem first_iff {n : Nat} {P Q : List Int} (r : Rel n P Q) (m : Nat) (hm : m < n) : Q.getD m 0 = (m : Int) ↔ th P m (P.getD m 0) = false := by
  rw [← Bool.not_eq_true, th_iff]
  constructor
  · rintro e ⟨j, h1, h2⟩
    have := (r.ker j m (by omega) hm).1 h2
    have := r.qr j (by omega)
    omega
  · intro h
    have b := r.qr m hm
    by_cases e : Q.getD m 0 = (m : Int)
    · exact e
    · exact absurd ⟨(Q.getD m 0).toNat, by omega, (r.ker _ m (by omega) hm).2 (r.qq m hm)⟩ h
theorem cntR_congr (f g : Int → Bool) (n : Nat) (h : ∀ x : Nat, x < n → f x = g x) : cntR f n = cntR g n := by
  induction n with
  | zero => rfl
  | succ n ih => rw [cntR, cntR, ih (fun x hx => h x (by omega)), h n (by omega)]
theorem cntR_add (f : Int → Bool) (p : Int) (n : Nat) (hp : 0 ≤ p ∧ p < n) (hf : f p = false) : cntR (fun x => f x || decide (p = x)) n = cntR f n + 1 := by
  induction n with
  | zero => omega
  | succ n ih =>
    rw [cntR, cntR]
    by_cases e : p = (n : Int)
    · have h1 : cntR (fun x => f x || decide (p = x)) n = cntR f n := cntR_congr _ _ n (fun x hx => by
        have : ¬ p = (x : Int) := by omega
        simp [this])
      rw [h1, ← e, hf]
      simp
    · have h1 := ih (by omega)
      rw [h1]
      simp only [e, decide_false, Bool.or_false]
      omega
theorem cnt_same {n : Nat} {P Q : List Int} (r : Rel n P Q) (m : Nat) (hm : m ≤ n) : cntR (th P m) n = firsts Q m := by
  induction m with
  | zero =>
    have : ∀ k, cntR (th P 0) k = 0 := by
      intro k
      induction k with
      | zero => rfl
      | succ k ih => rw [cntR, ih]; simp [th]
    rw [this]; rfl
  | succ m ih =>
    rw [firsts, ← ih (by omega)]
    have k := first_iff r m (by omega)
    by_cases e : Q.getD m 0 = (m : Int)
    · rw [if_pos e]
      exact cntR_add (th P m) (P.getD m 0) n (r.pr m (by omega)) (k.1 e)
    · rw [if_neg e]
      have ht : th P m (P.getD m 0) = true := by
        cases hh : th P m (P.getD m 0)
        · exact absurd (k.2 hh) e
        · rfl
      refine (cntR_congr _ _ n (fun x _ => ?_)).trans rfl
      rw [th]
      by_cases e' : P.getD m 0 = (x : Int)
      · rw [← e', ht]; rfl
      · rw [decide_eq_false e', Bool.or_false]
def evenS (Q : List Int) (h : Nat → Int) (n : Nat) : Bool := (List.range n).all fun x => decide (sm Q h n x % 2 = 0)
def evenI (P : List Int) (h : Nat → Int) (n : Nat) : Bool := (List.range n).all fun x => !(th P n x) || decide (sm P h n x % 2 = 0)
theorem even_same {n : Nat} {P Q : List Int} (r : Rel n P Q) (h : Nat → Int) : evenI P h n = evenS Q h n := by
  unfold evenI evenS
  rw [Bool.eq_iff_iff, List.all_eq_true, List.all_eq_true]
  simp only [List.mem_range, Bool.or_eq_true, Bool.not_eq_true', decide_eq_true_eq]
  constructor
  · intro H x hx
    by_cases e : ∃ j, j < n ∧ Q.getD j 0 = (x : Int)
    · obtain ⟨j, h1, h2⟩ := e
      have b := r.pr j h1
      rcases H (P.getD j 0).toNat (by omega) with h' | h'
      · rw [Int.toNat_of_nonneg b.1] at h'
        have := (th_iff P n (P.getD j 0)).2 ⟨j, h1, rfl⟩
        rw [this] at h'; cases h'
      · rw [Int.toNat_of_nonneg b.1, sm_same r h j h1 n (Nat.le_refl _), h2] at h'
        exact h'
    · rw [sm_none Q h x n (fun j hj e' => e ⟨j, hj, e'⟩)]; rfl
  · intro H x hx
    cases e : th P n (x : Int) with
    | false => exact .inl rfl
    | true =>
      obtain ⟨j, h1, h2⟩ := (th_iff P n x).1 e
      have b := r.qr j h1
      have h' := H (Q.getD j 0).toNat (by omega)
      rw [Int.toNat_of_nonneg b.1, ← sm_same r h j h1 n (Nat.le_refl _), h2] at h'
      exact .inr h'

theorem w_succ (c : Nat) (h : c ≤ 1000000) : wrap64 ((c : Int) + 1) = ((c + 1 : Nat) : Int) := by rw [w64 (by omega)]; omega
theorem w_add (a c : Nat) (h : a ≤ 100000) (h' : c ≤ 100000) : wrap64 ((a : Int) + (c : Int)) = ((a + c : Nat) : Int) := by rw [w64 (by omega)]; omega
def idl (n : Nat) : List Int := (List.range n).map fun i : Nat => (i : Int)
theorem idl_length (n : Nat) : (idl n).length = n := by simp [idl]
theorem idl_succ (n : Nat) : idl (n + 1) = idl n ++ [(n : Int)] := by simp [idl, List.range_succ]
theorem idl_getD (n i : Nat) (h : i < n) : (idl n).getD i 0 = (i : Int) := by
  rw [List.getD_eq_getElem?_getD, List.getElem?_eq_getElem (by rw [idl_length]; exact h)]
  simp [idl]
theorem rel_id (n : Nat) : Rel n (idl n) (idl n) := by
  refine ⟨idl_length n, idl_length n, fun i j _ _ => Iff.rfl, ?_, ?_, ?_⟩
  · intro i hi; rw [idl_getD n i hi]; omega
  · intro i hi; rw [idl_getD n i hi]; omega
  · intro i hi; rw [idl_getD n i hi, Int.toNat_natCast, idl_getD n i hi]
def rowS (R : Nat) (s : ByteArray) (r : Nat) : Nat → Nat → List Int → List Int
  | _, 0, Q => Q
  | c, d + 1, Q => rowS R s r (c + 1) d (if bt s (c : Int) = 63 then mS Q r (R + c) else Q)
def rowI (R : Nat) (s : ByteArray) (r : Nat) : Nat → Nat → List Int → List Int
  | _, 0, P => P
  | c, d + 1, P => rowI R s r (c + 1) d (if bt s (c : Int) = 63 then mI P r (R + c) else P)
def allS (l : List ByteArray) (W : Nat) : Nat → Nat → List Int → List Int
  | _, 0, Q => Q
  | i, d + 1, Q => allS l W (i + 1) d (rowS l.length (rdOf ByteArray.empty l (i : Int)) i 0 W Q)
def allI (l : List ByteArray) (W : Nat) : Nat → Nat → List Int → List Int
  | _, 0, P => P
  | i, d + 1, P => allI l W (i + 1) d (rowI l.length (rdOf ByteArray.empty l (i : Int)) i 0 W P)
theorem row_rel (n R : Nat) (s : ByteArray) (r : Nat) (hr : r < n) (d : Nat) : ∀ (c : Nat) (P Q : List Int), R + c + d ≤ n → Rel n P Q → Rel n (rowI R s r c d P) (rowS R s r c d Q) := by
  induction d with
  | zero => intro c P Q _ h; exact h
  | succ d ih =>
    intro c P Q hc h
    unfold rowI rowS
    by_cases e : bt s (c : Int) = 63
    · rw [if_pos e, if_pos e]; exact ih (c + 1) _ _ (by omega) (merge_rel h r (R + c) hr (by omega))
    · rw [if_neg e, if_neg e]; exact ih (c + 1) _ _ (by omega) h
theorem all_rel (l : List ByteArray) (W : Nat) (d : Nat) : ∀ (i : Nat) (P Q : List Int), i + d = l.length → Rel (l.length + W) P Q → Rel (l.length + W) (allI l W i d P) (allS l W i d Q) := by
  induction d with
  | zero => intro i P Q _ h; exact h
  | succ d ih =>
    intro i P Q hi h
    unfold allI allS
    exact ih (i + 1) _ _ (by omega) (row_rel _ _ _ i (by omega) W 0 P Q (by omega) h)
theorem sl3 (x0 : List ByteArray) (Q : List Int) (hQ : Q.length ≤ 1000) (a b x5 : Int) (x6 : ByteArray) (c : Nat) (hc : c ≤ 1000) (x22 : List ByteArray) (x23 x24 : Int) (d : Nat) : ∀ (k i : Nat), i + d = Q.length → d < k →
    spec_deGroups.l3 k x0 ((Q.take i).map (fS a b) ++ Q.drop i) x5 x6 c a b x22 x23 x24 Q.length i = spec_deGroups.l2 (k - d - 1) x0 (Q.map (fS a b)) x5 x6 ((c + 1 : Nat) : Int) x22 x23 x24 := by
  induction d with
  | zero =>
    intro k i hi hk
    obtain ⟨k, rfl⟩ : ∃ j, k = j + 1 := ⟨k - 1, by omega⟩
    rw [spec_deGroups.l3, if_neg (by omega), w_succ c (by omega), List.drop_of_length_le (by omega), List.take_of_length_le (by omega), List.append_nil]
    rfl
  | succ d ih =>
    intro k i hi hk
    obtain ⟨k, rfl⟩ : ∃ j, k = j + 1 := ⟨k - 1, by omega⟩
    have hi' : i < Q.length := by omega
    have e := ih k (i + 1) (by omega) (by omega)
    have hk' : k + 1 - (d + 1) - 1 = k - d - 1 := by omega
    have h1 : (i : Int) < (Q.length : Int) := by omega
    have h2 : (0 : Int) ≤ (i : Int) := by omega
    have h9 : i ≤ 1000000 := by omega
    have hmi : i ≤ Q.length := by omega
    rw [spec_deGroups.l3, if_pos h1, if_pos h2, mid_length Q _ i hmi, if_pos h1, rd_nat, mid_get Q _ i hi', Int.toNat_natCast, least_eq, w_succ i h9, hk']
    simp only [Option.bind_some]
    by_cases ha : Q[i] = a
    · rw [if_pos ha, ← fS_in (.inl ha : Q[i] = a ∨ Q[i] = b), mid_set Q _ i hi']
      exact e
    · rw [if_neg ha]
      by_cases hb : Q[i] = b
      · rw [if_pos hb, ← fS_in (.inr hb : Q[i] = a ∨ Q[i] = b), mid_set Q _ i hi']
        exact e
      · rw [if_neg hb, mid_keep Q _ i hi' (fS_out (fun h => h.elim ha hb))]
        exact e
theorem il3 (x0 : List ByteArray) (x3 : Int) (P : List Int) (hP : P.length ≤ 1000) (a b x6 x7 : Int) (c : Nat) (hc : c ≤ 1000) (x40 x41 x48 : Int) (d : Nat) : ∀ (k i : Nat), i + d = P.length → d < k →
    impl_decodingBits.l3 k x0 x3 ((P.take i).map (fI a b) ++ P.drop i) x6 x7 a b x40 x41 x48 c P.length i = impl_decodingBits.l2 (k - d - 1) x0 x3 (P.map (fI a b)) x6 x7 x40 x41 x48 ((c + 1 : Nat) : Int) := by
  induction d with
  | zero =>
    intro k i hi hk
    obtain ⟨k, rfl⟩ : ∃ j, k = j + 1 := ⟨k - 1, by omega⟩
    rw [impl_decodingBits.l3, if_neg (by omega), w_succ c (by omega), List.drop_of_length_le (by omega), List.take_of_length_le (by omega), List.append_nil]
    rfl
  | succ d ih =>
    intro k i hi hk
    obtain ⟨k, rfl⟩ : ∃ j, k = j + 1 := ⟨k - 1, by omega⟩
    have hi' : i < P.length := by omega
    have e := ih k (i + 1) (by omega) (by omega)
    have hk' : k + 1 - (d + 1) - 1 = k - d - 1 := by omega
    have h1 : (i : Int) < (P.length : Int) := by omega
    have h2 : (0 : Int) ≤ (i : Int) := by omega
    have h9 : i ≤ 1000000 := by omega
    have hmi : i ≤ P.length := by omega
    rw [impl_decodingBits.l3, if_pos h1, if_pos h2, mid_length P _ i hmi, if_pos h1, rd_nat, mid_get P _ i hi', Int.toNat_natCast, w_succ i h9, hk']
    by_cases ha : P[i] = a
    · have hf : fI a b P[i] = b := by unfold fI; rw [if_pos ha]
      have hm := mid_set P (fI a b) i hi'
      rw [hf] at hm
      rw [if_pos ha, hm]
      exact e
    · have hf : fI a b P[i] = P[i] := by unfold fI; rw [if_neg ha]
      rw [if_neg ha, mid_keep P _ i hi' hf]
      exact e
theorem sl2 (l : List ByteArray) (n W : Nat) (hn : n = l.length + W) (hn1 : n ≤ 1000) (r : Nat) (hr : r < l.length) (s : ByteArray) (hs : s.size = W) (d : Nat) : ∀ (k c : Nat) (Q : List Int), c + d = W → Q.length = n → d * (n + 2) < k →
    ∃ k', k ≤ k' + d * (n + 2) + 1 ∧ spec_deGroups.l2 k l Q r s c l l.length r = spec_deGroups.l1 k' l (rowS l.length s r c d Q) l l.length ((r + 1 : Nat) : Int) := by
  induction d with
  | zero =>
    intro k c Q hc hQ hk
    obtain ⟨k, rfl⟩ : ∃ j, k = j + 1 := ⟨k - 1, by omega⟩
    refine ⟨k, by omega, ?_⟩
    rw [spec_deGroups.l2, if_neg (by omega), w_succ r (by omega)]
    rfl
  | succ d ih =>
    intro k c Q hc hQ hk
    obtain ⟨k, rfl⟩ : ∃ j, k = j + 1 := ⟨k - 1, by omega⟩
    rw [Nat.succ_mul] at hk ⊢
    have h1 : (c : Int) < (s.size : Int) := by omega
    have h2 : (0 : Int) ≤ (c : Int) := by omega
    have h3 : (0 : Int) ≤ (r : Int) := by omega
    have h4 : (r : Int) < (Q.length : Int) := by omega
    have h5 : (0 : Int) ≤ ((l.length + c : Nat) : Int) := by omega
    have h6 : ((l.length + c : Nat) : Int) < (Q.length : Int) := by omega
    have hla : l.length ≤ 100000 := by omega
    have hca : c ≤ 100000 := by omega
    have hcb : c ≤ 1000000 := by omega
    unfold rowS
    by_cases e : bt s (c : Int) = 63
    · have h7 := sl3 l Q (by omega) (Q.getD r 0) (Q.getD (l.length + c) 0) r s c (by omega) l l.length r n k 0 (by omega) (by omega)
      have hl : (mS Q r (l.length + c)).length = n := by unfold mS; rw [List.length_map]; exact hQ
      obtain ⟨k', b1, b2⟩ := ih (k - n - 1) (c + 1) (mS Q r (l.length + c)) (by omega) hl (by omega)
      refine ⟨k', by omega, ?_⟩
      rw [spec_deGroups.l2, if_pos h1, if_pos h2, if_pos e, if_pos h3, if_pos h4, w_add l.length c hla hca, if_pos h5, if_pos h6, rd_nat, rd_nat, if_pos e, ← b2]
      exact h7
    · obtain ⟨k', b1, b2⟩ := ih k (c + 1) Q (by omega) hQ (by omega)
      refine ⟨k', by omega, ?_⟩
      rw [spec_deGroups.l2, if_pos h1, if_pos h2, if_neg e, w_succ c hcb, if_neg e]
      exact b2
theorem sl1 (l : List ByteArray) (n W : Nat) (hn : n = l.length + W) (hn1 : n ≤ 1000) (hs : ∀ s ∈ l, s.size = W) (M : Nat) (hM : M = W * (n + 2) + 2) (d : Nat) : ∀ (k i : Nat) (Q : List Int), i + d = l.length → Q.length = n → d * M < k →
    spec_deGroups.l1 k l Q l l.length i = some (allS l W i d Q) := by
  induction d with
  | zero =>
    intro k i Q hi hQ hk
    obtain ⟨k, rfl⟩ : ∃ j, k = j + 1 := ⟨k - 1, by omega⟩
    rw [spec_deGroups.l1, if_neg (by omega)]
    rfl
  | succ d ih =>
    intro k i Q hi hQ hk
    obtain ⟨k, rfl⟩ : ∃ j, k = j + 1 := ⟨k - 1, by omega⟩
    rw [Nat.succ_mul] at hk
    have hi' : i < l.length := by omega
    have hz : (rdOf ByteArray.empty l (i : Int)).size = W := by rw [rdB_get l i hi']; exact hs _ (List.getElem_mem hi')
    obtain ⟨k', b1, b2⟩ := sl2 l n W hn hn1 i hi' _ hz W k 0 Q (by omega) hQ (by omega)
    have hl : ∀ (d c : Nat) (Q : List Int), (rowS l.length (rdOf ByteArray.empty l (i : Int)) i c d Q).length = Q.length := by
      intro d
      induction d with
      | zero => intro c Q; rfl
      | succ d ihd =>
        intro c Q
        unfold rowS
        rw [ihd]
        split
        · unfold mS; rw [List.length_map]
        · rfl
    rw [spec_deGroups.l1, if_pos (by omega), if_pos (by omega), if_pos (by omega)]
    refine Eq.trans b2 ?_
    unfold allS
    exact ih k' (i + 1) _ (by omega) (by rw [hl]; exact hQ) (by omega)
theorem sl0 (l : List ByteArray) (h0 : 0 < l.length) (hl : l.length ≤ 100) (hw : wid l ≤ 100) (hs : ∀ s ∈ l, s.size = wid l) (d : Nat) : ∀ (k m : Nat), m + d = l.length + wid l → d + 3000000 < k →
    spec_deGroups.l0 k l (idl m) m = some (allS l (wid l) 0 l.length (idl (l.length + wid l))) := by
  induction d with
  | zero =>
    intro k m hm hk
    obtain ⟨k, rfl⟩ : ∃ j, k = j + 1 := ⟨k - 1, by omega⟩
    have b : l.length * (wid l * (l.length + wid l + 2) + 2) ≤ 100 * (100 * 202 + 2) := Nat.mul_le_mul hl (Nat.add_le_add_right (Nat.mul_le_mul hw (by omega)) 2)
    rw [spec_deGroups.l0, deLines_eq l h0 (by omega) (by omega)]
    simp only [Option.bind_some]
    rw [if_neg (by omega), show m = l.length + wid l by omega]
    exact sl1 l _ (wid l) rfl (by omega) hs _ rfl l.length k 0 _ (by omega) (idl_length _) (by omega)
  | succ d ih =>
    intro k m hm hk
    obtain ⟨k, rfl⟩ : ∃ j, k = j + 1 := ⟨k - 1, by omega⟩
    rw [spec_deGroups.l0, deLines_eq l h0 (by omega) (by omega)]
    simp only [Option.bind_some]
    rw [if_pos (by omega), idl_length, if_pos (by omega), w_succ m (by omega), ← idl_succ]
    exact ih k (m + 1) (by omega) (by omega)
theorem il2 (l : List ByteArray) (n W : Nat) (hn : n = l.length + W) (hn1 : n ≤ 1000) (x3 : Int) (r : Nat) (hr : r < l.length) (s : ByteArray) (hs : s.size = W) (hsr : rdOf ByteArray.empty l (r : Int) = s) (d : Nat) : ∀ (k c : Nat) (P : List Int) (b : Int), c + d = W → P.length = n → d * (n + 2) < k → -100000 ≤ b ∧ b + d ≤ 1000000 →
    ∃ k', k ≤ k' + d * (n + 2) + 1 ∧ impl_decodingBits.l2 k l x3 P b r l.length r W c = impl_decodingBits.l1 k' l x3 (rowI l.length s r c d P) (b + cnt 63 ((cs s).drop c)) l.length ((r + 1 : Nat) : Int) := by
  induction d with
  | zero =>
    intro k c P b hc hP hk hb
    obtain ⟨k, rfl⟩ : ∃ j, k = j + 1 := ⟨k - 1, by omega⟩
    refine ⟨k, by omega, ?_⟩
    rw [impl_decodingBits.l2, if_neg (by omega), w_succ r (by omega), List.drop_of_length_le (by rw [cs_length]; omega)]
    simp [cnt, rowI]
  | succ d ih =>
    intro k c P b hc hP hk hb
    obtain ⟨k, rfl⟩ : ∃ j, k = j + 1 := ⟨k - 1, by omega⟩
    rw [Nat.succ_mul] at hk ⊢
    have hcs : c < s.size := by omega
    have h1 : (c : Int) < (W : Int) := by omega
    have h2 : (0 : Int) ≤ (c : Int) := by omega
    have h2' : (c : Int) < (s.size : Int) := by omega
    have h3 : (0 : Int) ≤ (r : Int) := by omega
    have h3' : (r : Int) < (l.length : Int) := by omega
    have h4 : (r : Int) < (P.length : Int) := by omega
    have h5 : (0 : Int) ≤ ((l.length + c : Nat) : Int) := by omega
    have h6 : ((l.length + c : Nat) : Int) < (P.length : Int) := by omega
    have hla : l.length ≤ 100000 := by omega
    have hca : c ≤ 100000 := by omega
    have hcb : c ≤ 1000000 := by omega
    have hbb : -9223372036854775808 ≤ b + 1 ∧ b + 1 ≤ 9223372036854775807 := by omega
    have hd : cnt 63 ((cs s).drop c) = (if bt s (c : Int) = 63 then 1 else 0) + cnt 63 ((cs s).drop (c + 1)) := by
      rw [drop_get (cs s) c (by rw [cs_length]; exact hcs), cnt_cons, bt_get s c hcs]
    unfold rowI
    by_cases e : bt s (c : Int) = 63
    · have h7 := il3 l x3 P (by omega) (P.getD r 0) (P.getD (l.length + c) 0) (b + 1) r c (by omega) l.length r W n k 0 (by omega) (by omega)
      have hl : (mI P r (l.length + c)).length = n := by unfold mI; rw [List.length_map]; exact hP
      obtain ⟨k', b1, b2⟩ := ih (k - n - 1) (c + 1) (mI P r (l.length + c)) (b + 1) (by omega) hl (by omega) (by omega)
      refine ⟨k', by omega, ?_⟩
      rw [hd, if_pos e, if_pos e, ← Int.add_assoc, ← b2, impl_decodingBits.l2, if_pos h1, if_pos h3, if_pos h3', if_pos h2, hsr, if_pos h2', if_pos e, if_pos h4, w_add l.length c hla hca, if_pos h5, if_pos h6, rd_nat, rd_nat, w64 hbb]
      exact h7
    · obtain ⟨k', b1, b2⟩ := ih k (c + 1) P b (by omega) hP (by omega) (by omega)
      refine ⟨k', by omega, ?_⟩
      rw [hd, if_neg e, if_neg e, Int.zero_add, ← b2, impl_decodingBits.l2, if_pos h1, if_pos h3, if_pos h3', if_pos h2, hsr, if_pos h2', if_neg e, w_succ c hcb]
/-- lines' counts -/
def hL (l : List ByteArray) (i : Nat) : Int := cnt 111 (lineOf l i)
theorem hL_bound (l : List ByteArray) (w : Nat) (hl : l.length + w ≤ 1000) (hs : ∀ s ∈ l, s.size = w) (i : Nat) : 0 ≤ hL l i ∧ hL l i ≤ 1000 := by
  have h1 := cnt_bounds 111 (lineOf l i)
  have h2 := lineOf_length l w hs i
  unfold hL
  omega
theorem set_getD {α : Type} (X : List α) (p : Nat) (v z : α) (x : Nat) (hp : p < X.length) : (X.set p v).getD x z = if p = x then v else X.getD x z := by
  rw [List.getD_eq_getElem?_getD, List.getElem?_set, List.getD_eq_getElem?_getD]
  by_cases e : p = x
  · subst e; simp [hp]
  · simp [e]
theorem rd_int (X : List Int) (p : Int) : rd X p = X.getD p.toNat 0 := rfl
theorem rdOf_nat (T : List Bool) (x : Nat) : rdOf false T (x : Int) = T.getD x false := by unfold rdOf; rw [Int.toNat_natCast]
/-- is a part's sum even, where there is such a part -/
def okI (P : List Int) (h : Nat → Int) (n x : Nat) : Bool := !(th P n x) || decide (sm P h n x % 2 = 0)
theorem evenI_of (P : List Int) (h : Nat → Int) (n : Nat) (H : ∀ x, x < n → okI P h n x = true) : evenI P h n = true := by
  unfold evenI
  rw [List.all_eq_true]
  intro x hx
  exact H x (List.mem_range.1 hx)
theorem evenI_not (P : List Int) (h : Nat → Int) (n x : Nat) (hx : x < n) (H : okI P h n x = false) : evenI P h n = false := by
  cases e : evenI P h n
  · rfl
  · unfold evenI at e
    rw [List.all_eq_true] at e
    have := e x (List.mem_range.2 hx)
    unfold okI at H
    rw [this] at H; cases H
theorem evenS_of (P : List Int) (h : Nat → Int) (n : Nat) (H : ∀ x : Nat, x < n → sm P h n x % 2 = 0) : evenS P h n = true := by
  unfold evenS
  rw [List.all_eq_true]
  intro x hx
  exact decide_eq_true (H x (List.mem_range.1 hx))
theorem evenS_not (P : List Int) (h : Nat → Int) (n x : Nat) (hx : x < n) (H : ¬ sm P h n x % 2 = 0) : evenS P h n = false := by
  cases e : evenS P h n
  · rfl
  · unfold evenS at e
    rw [List.all_eq_true] at e
    exact absurd (of_decide_eq_true (e x (List.mem_range.2 hx))) H
theorem cntR_le (f : Int → Bool) (n : Nat) : cntR f n ≤ n := by
  induction n with
  | zero => exact Nat.le_refl _
  | succ n ih => rw [cntR]; split <;> omega
theorem il5 (P : List Int) (h : Nat → Int) (hh : ∀ i, 0 ≤ h i ∧ h i ≤ 1000) (n : Nat) (hn : n ≤ 1000) (X : List Int) (T : List Bool) (hX : X.length = n) (hT : T.length = n) (iX : ∀ x : Nat, x < n → X.getD x 0 = sm P h n x) (iT : ∀ x : Nat, x < n → T.getD x false = th P n x) (b : Int) (hb : -100000 ≤ b ∧ b ≤ 100000) (d : Nat) :
    ∀ (k x : Nat), x + d = n → d < k → (∀ y, y < x → okI P h n y = true) → impl_decodingBits.l5 k (b + cntR (th P n) x) X T n x = some (if evenI P h n = true then b + cntR (th P n) n else -1) := by
  induction d with
  | zero =>
    intro k x hx hk H
    obtain ⟨k, rfl⟩ : ∃ j, k = j + 1 := ⟨k - 1, by omega⟩
    rw [impl_decodingBits.l5, if_neg (by omega), if_pos (evenI_of P h n (fun y hy => H y (by omega))), show x = n by omega]
  | succ d ih =>
    intro k x hx hk H
    obtain ⟨k, rfl⟩ : ∃ j, k = j + 1 := ⟨k - 1, by omega⟩
    have hxn : x < n := by omega
    have hc := cntR_le (th P n) x
    have hs := (sm_bound P h hh n x).1
    have h1 : (x : Int) < (n : Int) := by omega
    have h2 : (0 : Int) ≤ (x : Int) := by omega
    have h3 : (x : Int) < (T.length : Int) := by omega
    have h4 : (x : Int) < (X.length : Int) := by omega
    have h5 : x ≤ 1000000 := by omega
    have h6 : -9223372036854775808 ≤ b + (cntR (th P n) x : Int) + 1 ∧ b + (cntR (th P n) x : Int) + 1 ≤ 9223372036854775807 := by omega
    have hx1 : x + 1 + d = n := by omega
    have hk1 : d < k := by omega
    rw [impl_decodingBits.l5, if_pos h1, if_pos h2, if_pos h3, rdOf_nat, iT x hxn]
    cases ht : th P n (x : Int) with
    | false =>
      have ho : okI P h n x = true := by unfold okI; rw [ht]; rfl
      have hc1 : cntR (th P n) (x + 1) = cntR (th P n) x := by rw [cntR, ht]; rfl
      have e := ih k (x + 1) hx1 hk1 (fun y hy => by
        by_cases e : y = x
        · rw [e]; exact ho
        · exact H y (by omega))
      rw [hc1] at e
      rw [if_neg (by decide), w_succ x h5]
      exact e
    | true =>
      rw [if_pos rfl, if_pos h4, rd_nat, iX x hxn, Int.tmod_eq_emod_of_nonneg hs]
      by_cases ho' : sm P h n (x : Int) % 2 = 0
      · have ho : okI P h n x = true := by unfold okI; rw [decide_eq_true ho']; simp
        have hc1 : ((cntR (th P n) (x + 1) : Nat) : Int) = (cntR (th P n) x : Int) + 1 := by rw [cntR, ht, if_pos rfl]; omega
        have e := ih k (x + 1) hx1 hk1 (fun y hy => by
          by_cases e : y = x
          · rw [e]; exact ho
          · exact H y (by omega))
        rw [hc1, ← Int.add_assoc] at e
        rw [if_pos ho', w64 h6, w_succ x h5]
        exact e
      · have ho : okI P h n x = false := by unfold okI; rw [ht, decide_eq_false ho']; rfl
        rw [if_neg ho', if_neg (by rw [evenI_not P h n x hxn ho]; decide)]
theorem sl5 (l : List ByteArray) (G Q : List Int) (h : Nat → Int) (hh : ∀ i, 0 ≤ h i ∧ h i ≤ 1000) (n : Nat) (hn : n ≤ 1000) (X : List Int) (hX : X.length = n) (iX : ∀ x : Nat, x < n → X.getD x 0 = sm Q h n x) (hG : G.length = n) (c : Int) (hc : 0 ≤ c ∧ c ≤ 1000) (er : Int) (he : 0 ≤ er ∧ er ≤ 100000) (hE : ∀ k, 3000 < k → spec_deErased.f k l = some er) (d : Nat) :
    ∀ (k x : Nat), x + d = n → d + 3001 < k → (∀ y : Nat, y < x → sm Q h n y % 2 = 0) → spec_deBits.l1 k l G c X n x = some (if evenS Q h n = true then er - n + c else -1) := by
  induction d with
  | zero =>
    intro k x hx hk H
    obtain ⟨k, rfl⟩ : ∃ j, k = j + 1 := ⟨k - 1, by omega⟩
    rw [spec_deBits.l1, if_neg (by omega), hE k (by omega), if_pos (evenS_of Q h n (fun y hy => H y (by omega)))]
    simp only [Option.bind_some]
    have n1 : -9223372036854775808 ≤ er - (n : Int) ∧ er - (n : Int) ≤ 9223372036854775807 := by omega
    have n2 : -9223372036854775808 ≤ er - (n : Int) + c ∧ er - (n : Int) + c ≤ 9223372036854775807 := by omega
    rw [hG, w64 n1, w64 n2]
  | succ d ih =>
    intro k x hx hk H
    obtain ⟨k, rfl⟩ : ∃ j, k = j + 1 := ⟨k - 1, by omega⟩
    have hxn : x < n := by omega
    have hs := (sm_bound Q h hh n x).1
    have h1 : (x : Int) < (n : Int) := by omega
    have h2 : (0 : Int) ≤ (x : Int) := by omega
    have h4 : (x : Int) < (X.length : Int) := by omega
    have h5 : x ≤ 1000000 := by omega
    have hx1 : x + 1 + d = n := by omega
    have hk1 : d + 3001 < k := by omega
    rw [spec_deBits.l1, if_pos h1, if_pos h2, if_pos h4, rd_nat, iX x hxn, Int.tmod_eq_emod_of_nonneg hs]
    by_cases ho : sm Q h n (x : Int) % 2 = 0
    · rw [if_pos ho, w_succ x h5]
      exact ih k (x + 1) hx1 hk1 (fun y hy => by
        by_cases e : y = x
        · rw [e]; exact ho
        · exact H y (by omega))
    · rw [if_neg ho, if_neg (by rw [evenS_not Q h n x hxn ho]; decide)]
theorem il4 (l : List ByteArray) (W : Nat) (hl : l.length ≤ 100) (hw : W ≤ 100) (hs : ∀ s ∈ l, s.size = W) (P : List Int) (n : Nat) (hn : n = l.length + W) (hP : P.length = n) (pr : ∀ i, i < n → 0 ≤ P.getD i 0 ∧ P.getD i 0 < n) (b : Int) (hb : -100000 ≤ b ∧ b ≤ 100000) (d : Nat) :
    ∀ (k i : Nat) (X : List Int) (T : List Bool), i + d = n → d + 5000 < k → X.length = n → T.length = n → (∀ x : Nat, x < n → X.getD x 0 = sm P (hL l) i x) → (∀ x : Nat, x < n → T.getD x false = th P i x) →
    impl_decodingBits.l4 k l n P b X T n i = some (if evenI P (hL l) n = true then b + cntR (th P n) n else -1) := by
  have hh := hL_bound l W (by omega) hs
  induction d with
  | zero =>
    intro k i X T hi hk hX hT iX iT
    obtain ⟨k, rfl⟩ : ∃ j, k = j + 1 := ⟨k - 1, by omega⟩
    have e : i = n := by omega
    subst e
    have h5 := il5 P (hL l) hh i (by omega) X T hX hT iX iT b hb i k 0 (by omega) (by omega) (fun y hy => absurd hy (by omega))
    rw [impl_decodingBits.l4, if_neg (by omega)]
    rw [show cntR (th P i) 0 = 0 from rfl] at h5
    simpa using h5
  | succ d ih =>
    intro k i X T hi hk hX hT iX iT
    obtain ⟨k, rfl⟩ : ∃ j, k = j + 1 := ⟨k - 1, by omega⟩
    have hin : i < n := by omega
    have pb := pr i hin
    obtain ⟨p, hp⟩ : ∃ p : Nat, P.getD i 0 = (p : Int) := ⟨(P.getD i 0).toNat, by omega⟩
    have hpn : p < n := by omega
    have h1 : (i : Int) < (n : Int) := by omega
    have h2 : (0 : Int) ≤ (i : Int) := by omega
    have h3 : (i : Int) < (P.length : Int) := by omega
    have h4 : (0 : Int) ≤ (p : Int) := by omega
    have h5 : (p : Int) < (X.length : Int) := by omega
    have h6 : (p : Int) < (T.length : Int) := by omega
    have h7 : i ≤ 1000000 := by omega
    have hsm := sm_bound P (hL l) hh i (p : Int)
    have hhi := hh i
    have h8 : -9223372036854775808 ≤ sm P (hL l) i (p : Int) + hL l i ∧ sm P (hL l) i (p : Int) + hL l i ≤ 9223372036854775807 := by omega
    have e := ih k (i + 1) (X.set p (sm P (hL l) i (p : Int) + hL l i)) (T.set p true) (by omega) (by omega) (by rw [List.length_set]; exact hX) (by rw [List.length_set]; exact hT)
      (fun x hx => by
        rw [set_getD X p _ 0 x (by omega), sm, hp]
        by_cases hpx : p = x
        · subst hpx
          rw [if_pos rfl, if_pos rfl]
        · rw [if_neg hpx, if_neg (by omega), iX x hx, Int.add_zero])
      (fun x hx => by
        rw [set_getD T p _ false x (by omega), th, hp]
        by_cases hpx : p = x
        · subst hpx
          rw [if_pos rfl, decide_eq_true rfl, Bool.or_true]
        · rw [if_neg hpx, decide_eq_false (by omega), Bool.or_false, iT x hx])
    rw [impl_decodingBits.l4, if_pos h1, lineCounts_eq l W (by omega) (by omega) hs i (by omega) k (by omega)]
    simp only [Option.bind_some]
    rw [if_pos h2, if_pos h3, rd_nat, hp, if_pos h4, if_pos h5, if_pos h6, Int.toNat_natCast, rd_nat, iX p hpn, show cnt 111 (lineOf l i) = hL l i from rfl, w64 h8, w_succ i h7]
    exact e
theorem sl4 (l : List ByteArray) (W : Nat) (hl : l.length ≤ 100) (hw : W ≤ 100) (hs : ∀ s ∈ l, s.size = W) (Q : List Int) (n : Nat) (hn : n = l.length + W) (hQ : Q.length = n) (qr : ∀ i, i < n → 0 ≤ Q.getD i 0 ∧ Q.getD i 0 ≤ i) (er : Int) (he : 0 ≤ er ∧ er ≤ 100000) (hE : ∀ k, 3000 < k → spec_deErased.f k l = some er) (d : Nat) :
    ∀ (k i : Nat) (X : List Int), i + d = n → d + 5000 < k → X.length = n → (∀ x : Nat, x < n → X.getD x 0 = sm Q (hL l) i x) →
    spec_deBits.l0 k l Q X (firsts Q i) Q n i = some (if evenS Q (hL l) n = true then er - n + firsts Q n else -1) := by
  have hh := hL_bound l W (by omega) hs
  have hf : ∀ i, firsts Q i ≤ i := by
    intro i
    induction i with
    | zero => exact Nat.le_refl _
    | succ i ih => rw [firsts]; split <;> omega
  induction d with
  | zero =>
    intro k i X hi hk hX iX
    obtain ⟨k, rfl⟩ : ∃ j, k = j + 1 := ⟨k - 1, by omega⟩
    have e : i = n := by omega
    subst e
    have hfi := hf i
    have h5 := sl5 l Q Q (hL l) hh i (by omega) X hX iX hQ (firsts Q i) (by omega) er he hE i k 0 (by omega) (by omega) (fun y hy => absurd hy (by omega))
    rw [spec_deBits.l0, if_neg (by omega), hX]
    exact h5
  | succ d ih =>
    intro k i X hi hk hX iX
    obtain ⟨k, rfl⟩ : ∃ j, k = j + 1 := ⟨k - 1, by omega⟩
    have hin : i < n := by omega
    have hfi := hf i
    have pb := qr i hin
    obtain ⟨p, hp⟩ : ∃ p : Nat, Q.getD i 0 = (p : Int) := ⟨(Q.getD i 0).toNat, by omega⟩
    have hpn : p < n := by omega
    have h1 : (i : Int) < (n : Int) := by omega
    have h2 : (0 : Int) ≤ (i : Int) := by omega
    have h3 : (i : Int) < (Q.length : Int) := by omega
    have h4 : (0 : Int) ≤ (p : Int) := by omega
    have h5 : (p : Int) < (X.length : Int) := by omega
    have h7 : i ≤ 1000000 := by omega
    have h9 : firsts Q i ≤ 1000000 := by omega
    have hsm := sm_bound Q (hL l) hh i (p : Int)
    have hhi := hh i
    have h8 : -9223372036854775808 ≤ sm Q (hL l) i (p : Int) + hL l i ∧ sm Q (hL l) i (p : Int) + hL l i ≤ 9223372036854775807 := by omega
    have e := ih k (i + 1) (X.set p (sm Q (hL l) i (p : Int) + hL l i)) (by omega) (by omega) (by rw [List.length_set]; exact hX)
      (fun x hx => by
        rw [set_getD X p _ 0 x (by omega), sm, hp]
        by_cases hpx : p = x
        · subst hpx
          rw [if_pos rfl, if_pos rfl]
        · rw [if_neg hpx, if_neg (by omega), iX x hx, Int.add_zero])
    obtain ⟨u, hu, hcu⟩ := deLine_eq l W (by omega) (by omega) hs i (by omega) k (by omega)
    have hz : u.size ≤ 1000 := by rw [← cs_length, hcu]; have := lineOf_length l W hs i; omega
    rw [firsts, hp] at e
    rw [spec_deBits.l0, if_pos h1, if_pos h2, if_pos h3, rd_nat, hp, if_pos h4, if_pos h5, hu]
    simp only [Option.bind_some]
    rw [deCount_eq u 111 (by omega) k (by omega), hcu]
    simp only [Option.bind_some]
    rw [Int.toNat_natCast, rd_nat, iX p hpn, show cnt 111 (lineOf l i) = hL l i from rfl, w64 h8, w_succ i h7]
    by_cases hpi : (p : Int) = (i : Int)
    · rw [if_pos hpi] at e
      rw [if_pos hpi, w_succ _ h9]
      exact e
    · rw [if_neg hpi, Nat.add_zero] at e
      rw [if_neg hpi]
      exact e
theorem rep_getD {α : Type} (n x : Nat) (z : α) (h : x < n) : (List.replicate n z).getD x z = z := by
  rw [List.getD_eq_getElem?_getD, List.getElem?_replicate, if_pos h]
  rfl
theorem allI_length (l : List ByteArray) (W : Nat) (d : Nat) : ∀ (i : Nat) (P : List Int), (allI l W i d P).length = P.length := by
  have hr : ∀ (s : ByteArray) (r d c : Nat) (P : List Int), (rowI l.length s r c d P).length = P.length := by
    intro s r d
    induction d with
    | zero => intro c P; rfl
    | succ d ih =>
      intro c P
      unfold rowI
      rw [ih]
      split
      · unfold mI; rw [List.length_map]
      · rfl
  induction d with
  | zero => intro i P; rfl
  | succ d ih => intro i P; unfold allI; rw [ih, hr]
theorem il1 (l : List ByteArray) (W : Nat) (hl : l.length ≤ 100) (hw : W ≤ 100) (hs : ∀ s ∈ l, s.size = W) (n : Nat) (hn : n = l.length + W) (P0 Q0 : List Int) (r0 : Rel n P0 Q0) (M : Nat) (hM : M = W * (n + 2) + 2) (d : Nat) :
    ∀ (k i : Nat) (P Q : List Int) (b : Int), i + d = l.length → Rel n P Q → d * M + 6000 < k → -1000 ≤ b ∧ b + 100 * d ≤ 100000 →
    impl_decodingBits.l1 k l n P b l.length i = some (if evenI (allI l W i d P) (hL l) n = true then (b + erasedOf (l.drop i)) + cntR (th (allI l W i d P) n) n else -1) := by
  induction d with
  | zero =>
    intro k i P Q b hi r hk hb
    obtain ⟨k, rfl⟩ : ∃ j, k = j + 1 := ⟨k - 1, by omega⟩
    have e := il4 l W hl hw hs P n hn r.lp r.pr b (by omega) n k 0 (List.replicate n 0) (List.replicate n false) (by omega) (by omega) (by simp) (by simp) (fun x hx => by rw [rep_getD n x 0 hx]; rfl) (fun x hx => by rw [rep_getD n x false hx]; rfl)
    rw [impl_decodingBits.l1, if_neg (by omega), if_pos (by omega), if_pos (by omega), if_pos (by omega), Int.toNat_natCast, List.drop_of_length_le (by omega)]
    simp only [erasedOf, Int.add_zero]
    exact e
  | succ d ih =>
    intro k i P Q b hi r hk hb
    obtain ⟨k, rfl⟩ : ∃ j, k = j + 1 := ⟨k - 1, by omega⟩
    rw [Nat.succ_mul] at hk
    have hi' : i < l.length := by omega
    have hz : (rdOf ByteArray.empty l (i : Int)).size = W := by rw [rdB_get l i hi']; exact hs _ (List.getElem_mem hi')
    obtain ⟨k', b1, b2⟩ := il2 l n W hn (by omega) n i hi' _ hz rfl W k 0 P b (by omega) r.lp (by omega) (by omega)
    have r' := row_rel n l.length (rdOf ByteArray.empty l (i : Int)) i (by omega) W 0 P Q (by omega) r
    have cb := cnt_bounds 63 (cs (rdOf ByteArray.empty l (i : Int)))
    rw [cs_length, hz] at cb
    have e := ih k' (i + 1) _ _ (b + cnt 63 ((cs (rdOf ByteArray.empty l (i : Int))).drop 0)) (by omega) r' (by omega) (by rw [List.drop_zero]; omega)
    have h1 : (i : Int) < (l.length : Int) := by omega
    have h2 : (0 : Int) ≤ (i : Int) := by omega
    have hd : erasedOf (l.drop i) = cnt 63 (cs (rdOf ByteArray.empty l (i : Int))) + erasedOf (l.drop (i + 1)) := by
      rw [drop_get l i hi', rdB_get l i hi']; rfl
    rw [impl_decodingBits.l1, if_pos h1, if_pos h2, if_pos h1, hz]
    refine Eq.trans b2 ?_
    rw [e, hd, List.drop_zero, Int.add_assoc b]
    rfl
theorem il0 (l : List ByteArray) (W : Nat) (n : Nat) (hn1 : n ≤ 1000) (d : Nat) : ∀ (k i : Nat), i + d = n → d < k →
    impl_decodingBits.l0 k l n (idl i ++ List.replicate d 0) n i = impl_decodingBits.l1 (k - d - 1) l n (idl n) (-(n : Int)) l.length 0 := by
  induction d with
  | zero =>
    intro k i hi hk
    obtain ⟨k, rfl⟩ : ∃ j, k = j + 1 := ⟨k - 1, by omega⟩
    rw [impl_decodingBits.l0, if_neg (by omega), w64 (x := -(n : Int)) (by omega), List.replicate_zero, List.append_nil, show i = n by omega]
    rfl
  | succ d ih =>
    intro k i hi hk
    obtain ⟨k, rfl⟩ : ∃ j, k = j + 1 := ⟨k - 1, by omega⟩
    have e := ih k (i + 1) (by omega) (by omega)
    rw [impl_decodingBits.l0, if_pos (by omega), if_pos (by omega), if_pos (by rw [List.length_append, idl_length, List.length_replicate]; omega), Int.toNat_natCast, List.set_append_right _ _ (by rw [idl_length]; exact Nat.le_refl _), idl_length, Nat.sub_self, List.replicate_succ, List.set_cons_zero, w_succ i (by omega),
      show idl i ++ (i : Int) :: List.replicate d 0 = idl (i + 1) ++ List.replicate d 0 by rw [idl_succ, List.append_assoc]; rfl, show k + 1 - (d + 1) - 1 = k - d - 1 by omega]
    exact e
def bitsOf (l : List ByteArray) : Int :=
  if evenS (allS l (wid l) 0 l.length (idl (l.length + wid l))) (hL l) (l.length + wid l) = true then erasedOf l - ((l.length + wid l : Nat) : Int) + firsts (allS l (wid l) 0 l.length (idl (l.length + wid l))) (l.length + wid l) else -1
theorem bits_both (l : List ByteArray) (h0 : 0 < l.length) (hl : l.length ≤ 12) (hw : wid l ≤ 12) (hs : ∀ s ∈ l, s.size = wid l) (k : Nat) (hk : 5000000 < k) :
    spec_deBits.f k l = some (bitsOf l) ∧ impl_decodingBits.f k l = some (bitsOf l) := by
  have r := all_rel l (wid l) l.length 0 _ _ (by omega) (rel_id (l.length + wid l))
  have hz : (rdOf ByteArray.empty l 0).size = wid l := by rw [wid_get l h0]; exact congrArg _ (rdB_get l 0 h0)
  have eb := erased_bounds l 12 (fun s h => by rw [hs s h]; exact hw)
  unfold bitsOf
  refine ⟨?_, ?_⟩
  · have e0 := sl0 l h0 (by omega) (by omega) hs (l.length + wid l) k 0 (by omega) (by omega)
    have e0' : spec_deGroups.f k l = some (allS l (wid l) 0 l.length (idl (l.length + wid l))) := e0
    have e1 := sl4 l (wid l) (by omega) (by omega) hs _ (l.length + wid l) rfl r.lq r.qr (erasedOf l) (by omega) (fun k hk => deErased_eq l (by omega) (fun s h => by rw [hs s h]; omega) k hk) (l.length + wid l) k 0 (List.replicate (l.length + wid l) 0) (by omega) (by omega) (by simp) (fun x hx => by rw [rep_getD _ x 0 hx]; rfl)
    unfold spec_deBits.f
    rw [e0']
    simp only [Option.bind_some]
    rw [r.lq, if_pos (by omega), if_pos (by omega), Int.toNat_natCast]
    exact e1
  · have b : l.length * (wid l * (l.length + wid l + 2) + 2) ≤ 12 * (12 * 26 + 2) := Nat.mul_le_mul hl (Nat.add_le_add_right (Nat.mul_le_mul hw (by omega)) 2)
    have e0 := il0 l (wid l) (l.length + wid l) (by omega) (l.length + wid l) k 0 (by omega) (by omega)
    have e1 := il1 l (wid l) (by omega) (by omega) hs (l.length + wid l) rfl _ _ (rel_id _) _ rfl l.length (k - (l.length + wid l) - 1) 0 (idl (l.length + wid l)) (idl (l.length + wid l)) (-((l.length + wid l : Nat) : Int)) (by omega) (rel_id _) (by omega) (by omega)
    unfold impl_decodingBits.f
    rw [if_pos (by omega), hz, w_add l.length (wid l) (by omega) (by omega), if_pos (by omega), if_pos (by omega), Int.toNat_natCast]
    simp only [Option.bind_some]
    rw [List.length_replicate]
    refine Eq.trans e0 ?_
    have e1' : impl_decodingBits.l1 (k - (l.length + wid l) - 1) l ((l.length + wid l : Nat) : Int) (idl (l.length + wid l)) (-((l.length + wid l : Nat) : Int)) l.length 0 = _ := e1
    rw [e1', even_same r (hL l), cnt_same r _ (Nat.le_refl _), List.drop_zero]
    by_cases ev : evenS (allS l (wid l) 0 l.length (idl (l.length + wid l))) (hL l) (l.length + wid l) = true
    · rw [if_pos ev, if_pos ev]
      congr 1
      omega
    · rw [if_neg ev, if_neg ev]
def dbOut (l : List ByteArray) : Int × Bool := if Grid chS 2 12 12 l = true then (if bitsOf l < 0 then (0, false) else (bitsOf l, true)) else (0, false)
theorem both_s (l : List ByteArray) (b1 : l.length ≤ 1048576) (b2 : ∀ s ∈ l, s.size ≤ 1048576) (k : Nat) (hk1 : fuelD 3 l ≤ k) (hk : 5000000 < k) : spec_DecodingBits.f k l = some (dbOut l) := by
  unfold spec_DecodingBits.f dbOut
  rw [deGood_eq l b1 b2 k hk1]
  cases hg : Grid chS 2 12 12 l with
  | false => rfl
  | true =>
    obtain ⟨g1, g2, g3, g4, g5⟩ := grid_facts hg
    have e1 := (bits_both l (by omega) g2 g4 (fun s h => (g5 s h).1) k hk).1
    rw [Option.bind_some, if_pos rfl, if_pos rfl, e1, Option.bind_some]
    by_cases h : bitsOf l < 0
    · rw [if_pos h, if_pos h]
    · rw [if_neg h, if_neg h]; rfl
theorem both_i (l : List ByteArray) (b1 : l.length ≤ 1048576) (b2 : ∀ s ∈ l, s.size ≤ 1048576) (k : Nat) (hk1 : fuelR l < k) (hk : 5000000 < k) : impl_DecodingBits.f k l = some (dbOut l) := by
  unfold impl_DecodingBits.f dbOut
  rw [isBlock_eq l b1 b2 k hk1]
  cases hg : Grid chS 2 12 12 l with
  | false => rfl
  | true =>
    obtain ⟨g1, g2, g3, g4, g5⟩ := grid_facts hg
    have e1 := (bits_both l (by omega) g2 g4 (fun s h => (g5 s h).1) k hk).2
    rw [Option.bind_some, if_pos rfl, if_pos rfl, e1, Option.bind_some]
    by_cases h : bitsOf l < 0
    · rw [if_pos h, if_pos h]
    · rw [if_neg h, if_neg h]
theorem fuel_split (a b c k : Nat) (h : a + b + 6000000 + c + 1 ≤ k) : a < k ∧ b ≤ k ∧ 5000000 < k ∧ c < k := by omega
theorem both (l : List ByteArray) (b1 : l.length ≤ 1048576) (b2 : ∀ s ∈ l, s.size ≤ 1048576) (k : Nat) (hk : fuelR l + fuelD 3 l + 6000000 + l.length + 1 ≤ k) : spec_DecodingBits.f k l = some (dbOut l) ∧ impl_DecodingBits.f k l = some (dbOut l) := by
  obtain ⟨h1, h2, h3, _⟩ := fuel_split _ _ _ _ hk
  exact ⟨both_s l b1 b2 k h2 h3, both_i l b1 b2 k h1 h3⟩
theorem FnExactDecodingBits (l : List ByteArray) (hl : l.length ≤ maxLen) (hs : ∀ s ∈ l, s.size ≤ maxLen) : ∃ k, laws_FnExactDecodingBits.f k l = some true := by
  obtain ⟨r, hr, hb⟩ := szStrings_eq l hl hs 1048576 (by omega)
  obtain ⟨k, hk⟩ : ∃ k, fuelR l + fuelD 3 l + 6000000 + l.length + 1 ≤ k := ⟨_, Nat.le_refl _⟩
  obtain ⟨_, _, _, hkl⟩ := fuel_split _ _ _ _ hk
  refine ⟨k + 1, ?_⟩
  unfold laws_FnExactDecodingBits.f
  rw [hr (k + 1) (Nat.lt_succ_of_lt hkl), Option.bind_some]
  by_cases h : r < 0
  · rw [if_pos h]
  · obtain ⟨_, b1, b2⟩ := hb (by omega)
    obtain ⟨e1, e2⟩ := both l b1 b2 (k + 1) (Nat.le_succ_of_le hk)
    rw [if_neg h, toStrings_eq l b1 (k + 1) (Nat.lt_succ_of_lt hkl)]
    simp only [Option.bind_some]
    rw [e1, e2]
    simp only [Option.bind_some, bne_self_eq_false, if_true]
    rw [laws_FnExactDecodingBits.j0, if_neg (by simp), toStrings_eq l b1 k hkl]
    simp only [Option.bind_some]
    rw [eqStrings_self l b1 k hkl]
    simp
end Go.Proofs.Ytjogodnkcjhdiaa.Pure
