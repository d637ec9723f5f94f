/- FnExactEncodeBlock: the program's EncodeBlock answers as the reference's, for all slices of strings. No condition. -/
import Derived.Test.YtlikohjiiakhkaaPFnExactEncodeBlockx5
namespace Go.Proofs.Ytlikohjiiakhkaa.Pure
open Go.RowKit Go.Proofs.Ytlikohjiiakhkaa.PFnExactEncodeBlock Go.Proofs.YtlikohjiiakhkaaW.PrintWords Go.Proofs.YtlikohjiiakhkaaW.PrintLast

set_option linter.unusedVariables false
set_option linter.unusedSimpArgs false

theorem w64 {x : Int} (h : -9223372036854775808 ≤ x ∧ x ≤ 9223372036854775807) : wrap64 x = x := by
  unfold wrap64; omega
theorem someF {p : Prop} [Decidable p] (h : ¬ p) : some false = some (decide p) := by rw [decide_eq_false h]
theorem someD {q p : Prop} [Decidable q] [Decidable p] (h : q ↔ p) : some (decide q) = some (decide p) := by rw [decide_eq_decide.2 h]

theorem in_eq (a b c : Int) : spec_l1In.f a b c = some (decide (b ≤ a ∧ a ≤ c)) := by
  unfold spec_l1In.f
  by_cases h : a ≥ b
  · rw [if_pos h]; congr 1; simp [show b ≤ a from h]
  · rw [if_neg h]; congr 1; simp; omega

theorem fill_step {α : Type} (l : List α) (z : α) (i : Nat) (h : i < l.length) :
    (l.take i ++ List.replicate (l.length - i) z).set i (l[i]'h) = l.take (i + 1) ++ List.replicate (l.length - (i + 1)) z := by
  have hl : (l.take i).length = i := by rw [List.length_take]; omega
  rw [List.set_append_right _ _ (by omega), hl, Nat.sub_self, show l.length - i = (l.length - (i + 1)) + 1 by omega, List.replicate_succ, List.set_cons_zero, List.take_succ_eq_append_getElem h, List.append_assoc]
  rfl
theorem fill_length {α : Type} (l : List α) (z : α) (i : Nat) (h : i ≤ l.length) : (l.take i ++ List.replicate (l.length - i) z).length = l.length := by
  simp; omega

theorem rd_get (l : List Int) (i : Nat) (h : i < l.length) : rd l (i : Int) = l[i] := by
  unfold rd; rw [Int.toNat_natCast, List.getD_eq_getElem?_getD, List.getElem?_eq_getElem h]; rfl

theorem rdB_get (l : List ByteArray) (i : Nat) (h : i < l.length) : rdOf ByteArray.empty l (i : Int) = l[i] := by
  unfold rdOf; rw [Int.toNat_natCast, List.getD_eq_getElem?_getD, List.getElem?_eq_getElem h]; rfl
theorem drop_get {α : Type} (l : List α) (i : Nat) (h : i < l.length) : l.drop i = l[i] :: l.drop (i + 1) := List.drop_eq_getElem_cons h
/-- the bytes of a string -/
abbrev cs (s : ByteArray) : List Int := bytesOf s
theorem cs_length (s : ByteArray) : (cs s).length = s.size := bytesOf_length s
theorem bt_get (s : ByteArray) (i : Nat) (h : i < s.size) : bt s (i : Int) = (cs s)[i]'(by rw [cs_length]; exact h) := by
  rw [← rd_bytesOf, rd_get _ _ (by rw [bytesOf_length]; exact h)]
theorem szStrings_loop (l : List ByteArray) (hl : l.length ≤ 1048576) (hs : ∀ s ∈ l, s.size ≤ maxLen) (d : Nat) : ∀ (k i : Nat) (n : Int), i + d = l.length → d < k → 0 ≤ n ∧ n ≤ 1048576 →
    ∃ r, laws_szStringS.l0 k l n i = some r ∧ (0 ≤ r → r ≤ n ∧ ∀ s ∈ l.drop i, s.size ≤ n) := by
  induction d with
  | zero =>
    intro k i n hi hk hn
    obtain ⟨k, rfl⟩ : ∃ j, k = j + 1 := ⟨k - 1, by omega⟩
    exact ⟨n, by rw [laws_szStringS.l0, if_neg (by omega)], fun _ => ⟨Int.le_refl _, by rw [List.drop_of_length_le (by omega)]; simp⟩⟩
  | succ d ih =>
    intro k i n hi hk hn
    obtain ⟨k, rfl⟩ : ∃ j, k = j + 1 := ⟨k - 1, by omega⟩
    have h1 : l[i].size ≤ maxLen := hs _ (List.getElem_mem _)
    unfold maxLen at h1
    rw [laws_szStringS.l0, if_pos (by omega), if_pos (by omega), rdB_get l i (by omega), w64 (x := n - _) (by omega), w64 (by omega)]
    by_cases h : n - (l[i].size : Int) < 0
    · exact ⟨-1, by rw [if_pos h], fun h' => by omega⟩
    · obtain ⟨r, hr, hb⟩ := ih k (i + 1) (n - l[i].size) (by omega) (by omega) (by omega)
      refine ⟨r, by rw [if_neg h]; exact hr, fun h' => ?_⟩
      obtain ⟨b1, b2⟩ := hb h'
      refine ⟨by omega, ?_⟩
      rw [drop_get l i (by omega), List.forall_mem_cons]
      exact ⟨by omega, fun s hs' => by have := b2 s hs'; omega⟩
/-- the guard on the size of an argument: what it lets through is small -/
theorem szStrings_eq (l : List ByteArray) (hl : l.length ≤ maxLen) (hs : ∀ s ∈ l, s.size ≤ maxLen) (n : Int) (hn : 0 ≤ n ∧ n ≤ 1048576) :
    ∃ r, (∀ k, l.length < k → laws_szStringS.f k l n = some r) ∧ (0 ≤ r → r ≤ n ∧ l.length ≤ 1048576 ∧ ∀ s ∈ l, s.size ≤ 1048576) := by
  have hl' := hl
  unfold maxLen at hl'
  by_cases h : n - (l.length : Int) < 0
  · exact ⟨-1, fun k _ => by unfold laws_szStringS.f; rw [w64 (by omega), if_pos h], fun h' => by omega⟩
  · obtain ⟨r, hr, hb⟩ := szStrings_loop l (by omega) hs l.length (l.length + 1) 0 (n - l.length) (by omega) (by omega) (by omega)
    refine ⟨r, fun k hk => ?_, fun h' => ?_⟩
    · unfold laws_szStringS.f
      rw [w64 (by omega), if_neg h]
      obtain ⟨q, hq, _⟩ := szStrings_loop l (by omega) hs l.length k 0 (n - l.length) (by omega) (by omega) (by omega)
      have := at_rounds (g := fun k => laws_szStringS.l0 k l (n - l.length) ((0 : Nat) : Int)) (fun k => laws_szStringS.mono_l k _ _ _) (show l.length + 1 ≤ k by omega) hr
      exact this
    · obtain ⟨b1, b2⟩ := hb h'
      refine ⟨by omega, by omega, fun s hs' => ?_⟩
      have := b2 s (by simpa using hs')
      omega
theorem toStrings_loop (l : List ByteArray) (hl : l.length ≤ 1048576) (d : Nat) : ∀ (k i : Nat), i + d = l.length → d < k →
    laws_toStringS.l0 k l (l.take i ++ List.replicate (l.length - i) (⟨#[]⟩ : ByteArray)) i = some l := by
  induction d with
  | zero =>
    intro k i hi hk
    obtain ⟨k, rfl⟩ : ∃ j, k = j + 1 := ⟨k - 1, by omega⟩
    rw [laws_toStringS.l0, if_neg (by omega), show l.length - i = 0 by omega, List.replicate_zero, List.append_nil, List.take_of_length_le (by omega)]
  | succ d ih =>
    intro k i hi hk
    obtain ⟨k, rfl⟩ : ∃ j, k = j + 1 := ⟨k - 1, by omega⟩
    rw [laws_toStringS.l0, if_pos (by omega), if_pos (by omega), fill_length _ _ _ (by omega), if_pos (by omega), Int.toNat_natCast, rdB_get l i (by omega), fill_step l _ i (by omega), w64 (by omega)]
    exact ih k (i + 1) (by omega) (by omega)
theorem toStrings_eq (l : List ByteArray) (hl : l.length ≤ 1048576) (k : Nat) (hk : l.length < k) : laws_toStringS.f k l = some l := by
  unfold laws_toStringS.f
  rw [if_pos (by omega), if_pos (by omega), Int.toNat_natCast]
  have := toStrings_loop l hl l.length k 0 (by omega) hk
  simpa using this
theorem eqStrings_loop (l : List ByteArray) (hl : l.length ≤ 1048576) (d : Nat) : ∀ (k i : Nat), i + d = l.length → d < k → laws_eqStringS.l0 k l l i = some true := by
  induction d with
  | zero =>
    intro k i hi hk
    obtain ⟨k, rfl⟩ : ∃ j, k = j + 1 := ⟨k - 1, by omega⟩
    rw [laws_eqStringS.l0, if_neg (by omega)]
  | succ d ih =>
    intro k i hi hk
    obtain ⟨k, rfl⟩ : ∃ j, k = j + 1 := ⟨k - 1, by omega⟩
    rw [laws_eqStringS.l0, if_pos (by omega), if_pos (by omega), if_pos (by omega), if_pos rfl, w64 (by omega)]
    exact ih k (i + 1) (by omega) (by omega)
theorem eqStrings_self (l : List ByteArray) (hl : l.length ≤ 1048576) (k : Nat) (hk : l.length < k) : laws_eqStringS.f k l l = some true := by
  unfold laws_eqStringS.f
  rw [if_pos rfl]
  exact eqStrings_loop l hl l.length k 0 (by omega) hk

/-- rectangles of some characters: the rows are as long as the first, and hold those characters alone -/
def RowOK (ch : Int → Bool) (n : Nat) (s : ByteArray) : Bool := s.size == n && (cs s).all ch
def wid (l : List ByteArray) : Nat := (l.headD ByteArray.empty).size
def Grid (ch : Int → Bool) (least rows width : Nat) (l : List ByteArray) : Bool :=
  decide (least ≤ l.length) && decide (l.length ≤ rows) && decide (least ≤ wid l) && decide (wid l ≤ width) && l.all (RowOK ch (wid l))
def fuelR : List ByteArray → Nat
  | [] => 1
  | s :: r => s.size + 2 + fuelR r
theorem wid_get (l : List ByteArray) (h : 0 < l.length) : wid l = (l[0]'h).size := by
  cases l with
  | nil => simp at h
  | cons a r => rfl
theorem indexByte_found (l : List UInt8) (c : UInt8) : (Go.Lib.indexByte l c < 0) ↔ c ∉ l := by
  induction l with
  | nil => simp [Go.Lib.indexByte]
  | cons b r ih =>
    have hge : ∀ l : List UInt8, -1 ≤ Go.Lib.indexByte l c := by
      intro l
      induction l with
      | nil => simp [Go.Lib.indexByte]
      | cons b r ih => unfold Go.Lib.indexByte; split; omega; split <;> omega
    have hr := hge r
    unfold Go.Lib.indexByte
    by_cases h : b = c
    · subst h; simp
    · have h1 : (b == c) = false := by simpa using h
      have h2 : c ≠ b := fun e => h e.symm
      rw [h1]
      simp only [Bool.false_eq_true, if_false, List.mem_cons, not_or]
      by_cases h3 : Go.Lib.indexByte r c = -1
      · have h4 : (Go.Lib.indexByte r c == -1) = true := by simpa using h3
        rw [h4]; simp only [if_true]
        exact ⟨fun _ => ⟨h2, ih.1 (by omega)⟩, fun _ => by omega⟩
      · have h4 : (Go.Lib.indexByte r c == -1) = false := by simpa using h3
        rw [h4]; simp only [Bool.false_eq_true, if_false]
        exact ⟨fun h => by omega, fun h => absurd (ih.2 h.2) (by omega)⟩

def chIn (chars : ByteArray) (c : Int) : Bool := decide (c.toNat.toUInt8 ∈ chars.data.toList)
theorem isGrid_row (x0 : List ByteArray) (ch s : ByteArray) (hs : s.size ≤ 1048576) (x40 : List ByteArray) (x41 x42 : Int) (d : Nat) : ∀ (k i : Nat), i + d = s.size →
    impl_isGridOf.l1 (k + d + 1) x0 ch s i x40 x41 x42 = if ((cs s).drop i).all (chIn ch) then impl_isGridOf.l0 k x0 ch x40 x41 (wrap64 (x42 + 1)) else some false := by
  induction d with
  | zero =>
    intro k i hi
    rw [impl_isGridOf.l1, if_neg (by omega), List.drop_of_length_le (by rw [cs_length]; omega)]
    simp
  | succ d ih =>
    intro k i hi
    rw [impl_isGridOf.l1, if_pos (by omega), if_pos (by omega), bt_get s i (by omega), drop_get (cs s) i (by rw [cs_length]; omega), List.all_cons, w64 (by omega), show k + (d + 1) = k + d + 1 by omega, show ((i : Int) + 1) = ((i + 1 : Nat) : Int) by omega, ih k (i + 1) (by omega)]
    generalize (cs s)[i]'_ = c
    unfold strings_IndexByte.f chIn
    simp only [Option.bind_some]
    have hf := indexByte_found ch.data.toList c.toNat.toUInt8
    by_cases h : c.toNat.toUInt8 ∈ ch.data.toList
    · rw [if_neg (fun h' => hf.1 h' h), decide_eq_true h, Bool.true_and]
    · rw [if_pos (hf.2 h), decide_eq_false h, Bool.false_and, if_neg (by decide)]
theorem isGrid_loop (l : List ByteArray) (ch : ByteArray) (hl : l.length ≤ 1048576) (hs : ∀ s ∈ l, s.size ≤ 1048576) (d : Nat) : ∀ (k i : Nat), i + d = l.length → fuelR (l.drop i) ≤ k →
    impl_isGridOf.l0 k l ch l l.length i = some ((l.drop i).all (RowOK (chIn ch) (wid l))) := by
  induction d with
  | zero =>
    intro k i hi hk
    rw [List.drop_of_length_le (by omega)] at hk ⊢
    obtain ⟨k, rfl⟩ : ∃ j, k = j + 1 := ⟨k - 1, by unfold fuelR at hk; omega⟩
    rw [impl_isGridOf.l0, if_neg (by omega)]
    rfl
  | succ d ih =>
    intro k i hi hk
    have hx : l[i].size ≤ 1048576 := hs _ (List.getElem_mem _)
    rw [drop_get l i (by omega)] at hk ⊢
    unfold fuelR at hk
    obtain ⟨j, hj⟩ : ∃ j, k = j + l[i].size + 1 + 1 := ⟨k - l[i].size - 2, by omega⟩
    rw [hj]
    have h0 : 0 < l.length := by omega
    rw [impl_isGridOf.l0, if_pos (by omega), if_pos (by omega), if_pos (by omega), if_pos (by omega), rdB_get l i (by omega)]
    rw [show rdOf ByteArray.empty l 0 = l[0] from rdB_get l 0 h0, ← wid_get l h0, List.all_cons]
    by_cases h1 : (l[i].size : Int) = (wid l : Int)
    · have h1' : (l[i].size == wid l) = true := by simp; omega
      rw [if_pos h1, show (0 : Int) = ((0 : Nat) : Int) from rfl, isGrid_row l ch l[i] hx l _ _ l[i].size j 0 (by omega), List.drop_zero, w64 (by omega), show ((i : Int) + 1) = ((i + 1 : Nat) : Int) by omega, ih j (i + 1) (by omega) (by omega)]
      unfold RowOK
      rw [h1', Bool.true_and]
      by_cases h2 : (cs l[i]).all (chIn ch) = true
      · rw [if_pos h2, h2, Bool.true_and]
      · rw [if_neg h2, Bool.eq_false_iff.2 h2, Bool.false_and]
    · have h1' : (l[i].size == wid l) = false := by simp; omega
      rw [if_neg h1]
      unfold RowOK
      rw [h1', Bool.false_and, Bool.false_and]
theorem isGrid_eq (l : List ByteArray) (hl : l.length ≤ 1048576) (hs : ∀ s ∈ l, s.size ≤ 1048576) (least rows width : Nat) (h1 : 1 ≤ least) (ch : ByteArray) (k : Nat) (hk : fuelR l < k) :
    impl_isGridOf.f k l least rows width ch = some (Grid (chIn ch) least rows width l) := by
  obtain ⟨k, rfl⟩ : ∃ j, k = j + 1 := ⟨k - 1, by omega⟩
  unfold impl_isGridOf.f Grid
  simp only [impl_isGridOf.j0, if_true]
  by_cases h2 : least ≤ l.length
  · by_cases h3 : l.length ≤ rows
    · have h0 : 0 < l.length := by omega
      rw [if_neg (by omega), if_neg (by omega), if_pos (by omega), show rdOf ByteArray.empty l 0 = l[0] from rdB_get l 0 h0, ← wid_get l h0, decide_eq_true h2, decide_eq_true h3]
      by_cases h4 : least ≤ wid l
      · rw [if_neg (by omega), decide_eq_true h4]
        by_cases h5 : wid l ≤ width
        · have := isGrid_loop l ch hl hs l.length k 0 (by omega) (by simpa using (by omega : fuelR l ≤ k))
          rw [List.drop_zero] at this
          rw [if_neg (by simp; omega), decide_eq_true h5, show (0 : Int) = ((0 : Nat) : Int) from rfl, this]
          simp
        · rw [if_pos (by simp; omega), decide_eq_false h5]; simp
      · rw [if_pos (by omega), decide_eq_false h4]; simp
    · rw [if_neg (by omega), if_pos (by omega), decide_eq_false h3]; simp
  · rw [if_pos (by omega), decide_eq_false h2]; simp

def chS (c : Int) : Bool := c == 46 || c == 111 || c == 63

theorem chIn_scan (c : Int) (hc : 0 ≤ c ∧ c ≤ 255) : chIn ⟨#[46, 111, 63]⟩ c = chS c := by
  unfold chIn chS
  obtain ⟨n, rfl⟩ : ∃ n : Nat, c = n := ⟨c.toNat, by omega⟩
  have hn : n < 256 := by omega
  rw [Int.toNat_natCast]
  have key : ∀ m : Fin 256, decide (m.val.toUInt8 ∈ [(46 : UInt8), 111, 63]) = ((m.val : Int) == 46 || (m.val : Int) == 111 || (m.val : Int) == 63) := by decide +kernel
  exact key ⟨n, hn⟩
theorem cs_range (s : ByteArray) : ∀ c ∈ cs s, 0 ≤ c ∧ c ≤ 255 := by
  intro c hc
  unfold cs bytesOf at hc
  obtain ⟨b, _, rfl⟩ := List.mem_map.1 hc
  have := b.toNat_lt
  omega
theorem all_congr' {α : Type} (l : List α) (p q : α → Bool) (h : ∀ x ∈ l, p x = q x) : l.all p = l.all q := by
  induction l with
  | nil => rfl
  | cons a r ih => rw [List.all_cons, List.all_cons, h a (by simp), ih (fun x hx => h x (List.mem_cons_of_mem _ hx))]
theorem rowOK_scan (n : Nat) (s : ByteArray) : RowOK (chIn ⟨#[46, 111, 63]⟩) n s = RowOK chS n s := by
  unfold RowOK
  rw [all_congr' _ _ _ (fun c hc => chIn_scan c (cs_range s c hc))]
theorem grid_scan (least rows width : Nat) (l : List ByteArray) : Grid (chIn ⟨#[46, 111, 63]⟩) least rows width l = Grid chS least rows width l := by
  unfold Grid
  rw [all_congr' _ _ _ (fun s _ => rowOK_scan (wid l) s)]

/-- a character among some -/
def chAny (m : ByteArray) (c : Int) : Bool := (cs m).any fun b => c == b
def fuelD (M : Nat) : List ByteArray → Nat
  | [] => 1
  | s :: r => s.size * (M + 2) + 2 + fuelD M r
theorem deShape_mark (x0 : List ByteArray) (a1 a2 : Int) (m s : ByteArray) (hm : m.size ≤ 1000) (i : Nat) (hi : i < s.size) (x14 : List ByteArray) (x15 x16 : Int) (e : Nat) : ∀ (k j : Nat) (flag : Bool), j + e = m.size →
    spec_deShape.l2 (k + e + 1) x0 a1 a2 m s i flag j x14 x15 x16 = if flag || ((cs m).drop j).any (fun b => (cs s)[i]'(by rw [cs_length]; exact hi) == b) then spec_deShape.l1 k x0 a1 a2 m s (wrap64 ((i : Int) + 1)) x14 x15 x16 else some false := by
  induction e with
  | zero =>
    intro k j flag hj
    rw [spec_deShape.l2, if_neg (by omega), List.drop_of_length_le (by rw [cs_length]; omega)]
    simp
  | succ e ih =>
    intro k j flag hj
    rw [spec_deShape.l2, if_pos (by omega), w64 (x := (j : Int) + 1) (by omega), show ((j : Int) + 1) = ((j + 1 : Nat) : Int) by omega, show k + (e + 1) = k + e + 1 by omega, drop_get (cs m) j (by rw [cs_length]; omega), List.any_cons]
    cases flag
    · rw [if_neg (by decide), if_pos (by omega), if_pos (by omega), if_pos (by omega), bt_get s i hi, bt_get m j (by omega), ih k (j + 1) _ (by omega)]
      simp
    · rw [if_pos rfl, ih k (j + 1) true (by omega)]
      simp
theorem deShape_row (x0 : List ByteArray) (a1 a2 : Int) (m s : ByteArray) (hm : m.size ≤ 1000) (hs : s.size ≤ 1048576) (x14 : List ByteArray) (x15 x16 : Int) (d : Nat) : ∀ (k i : Nat), i + d = s.size →
    spec_deShape.l1 (k + d * (m.size + 2) + 1) x0 a1 a2 m s i x14 x15 x16 = if ((cs s).drop i).all (chAny m) then spec_deShape.l0 k x0 a1 a2 m x14 x15 (wrap64 (x16 + 1)) else some false := by
  induction d with
  | zero =>
    intro k i hi
    rw [spec_deShape.l1, if_neg (by omega), List.drop_of_length_le (by rw [cs_length]; omega)]
    simp
  | succ d ih =>
    intro k i hi
    rw [show k + (d + 1) * (m.size + 2) + 1 = (k + d * (m.size + 2) + 1) + m.size + 1 + 1 by rw [Nat.add_mul]; omega, spec_deShape.l1, if_pos (by omega)]
    have := deShape_mark x0 a1 a2 m s hm i (by omega) x14 x15 x16 m.size (k + d * (m.size + 2) + 1) 0 false (by omega)
    rw [List.drop_zero, Bool.false_or] at this
    rw [show (0 : Int) = ((0 : Nat) : Int) from rfl, this, w64 (by omega), show ((i : Int) + 1) = ((i + 1 : Nat) : Int) by omega, ih k (i + 1) (by omega), drop_get (cs s) i (by rw [cs_length]; omega), List.all_cons]
    unfold chAny
    cases hc : (cs m).any (fun b => (cs s)[i]'(by rw [cs_length]; omega) == b)
    · simp
    · simp
theorem deShape_loop (l : List ByteArray) (least most : Nat) (h1 : 1 ≤ least) (m : ByteArray) (hm : m.size ≤ 1000) (hl : l.length ≤ 1048576) (hs : ∀ s ∈ l, s.size ≤ 1048576) (d : Nat) : ∀ (k i : Nat), i + d = l.length → fuelD m.size (l.drop i) ≤ k →
    spec_deShape.l0 k l least most m l l.length i = if (l.drop i).all (RowOK (chAny m) (wid l)) then some (decide (least ≤ l.length ∧ l.length ≤ most ∧ least ≤ wid l ∧ wid l ≤ most)) else some false := by
  induction d with
  | zero =>
    intro k i hi hk
    rw [List.drop_of_length_le (by omega)] at hk ⊢
    obtain ⟨k, rfl⟩ : ∃ j, k = j + 1 := ⟨k - 1, by unfold fuelD at hk; omega⟩
    rw [spec_deShape.l0, if_neg (by omega), in_eq]
    simp only [Option.bind_some, decide_eq_true_eq, List.all_nil, if_true]
    by_cases h0 : (least : Int) ≤ (l.length : Int) ∧ (l.length : Int) ≤ most
    · rw [if_pos h0, if_pos (show 0 < (l.length : Int) by omega), show ((0 : Int)) = ((0 : Nat) : Int) from rfl, rdB_get l 0 (by omega), in_eq, ← wid_get l (by omega)]
      simp only [Option.bind_some]
      exact someD (by omega)
    · rw [if_neg h0]; exact someF (by omega)
  | succ d ih =>
    intro k i hi hk
    have hx : l[i].size ≤ 1048576 := hs _ (List.getElem_mem _)
    rw [drop_get l i (by omega)] at hk ⊢
    unfold fuelD at hk
    obtain ⟨j, hj⟩ : ∃ j, k = j + l[i].size * (m.size + 2) + 1 + 1 := ⟨k - l[i].size * (m.size + 2) - 2, by omega⟩
    have h0 : 0 < l.length := by omega
    rw [hj, spec_deShape.l0, if_pos (by omega), if_pos (by omega), if_pos (by omega), if_pos (by omega), rdB_get l i (by omega)]
    rw [show rdOf ByteArray.empty l 0 = l[0] from rdB_get l 0 h0, ← wid_get l h0, List.all_cons]
    by_cases h1 : (l[i].size : Int) = (wid l : Int)
    · have h1' : (l[i].size == wid l) = true := by simp; omega
      rw [if_pos h1, show (0 : Int) = ((0 : Nat) : Int) from rfl, deShape_row l least most m l[i] hm hx l _ _ l[i].size j 0 (by omega), List.drop_zero, w64 (by omega), show ((i : Int) + 1) = ((i + 1 : Nat) : Int) by omega, ih j (i + 1) (by omega) (by omega)]
      unfold RowOK
      rw [h1', Bool.true_and]
      by_cases h2 : (cs l[i]).all (chAny m) = true
      · rw [if_pos h2, h2, Bool.true_and]
      · rw [if_neg h2, Bool.eq_false_iff.2 h2, Bool.false_and, if_neg (by decide)]
    · have h1' : (l[i].size == wid l) = false := by simp; omega
      rw [if_neg h1]
      unfold RowOK
      rw [h1', Bool.false_and, Bool.false_and, if_neg (by decide)]
theorem deShape_eq (l : List ByteArray) (least most : Nat) (h1 : 1 ≤ least) (m : ByteArray) (hm : m.size ≤ 1000) (hl : l.length ≤ 1048576) (hs : ∀ s ∈ l, s.size ≤ 1048576) (k : Nat) (hk : fuelD m.size l ≤ k) :
    spec_deShape.f k l least most m = some (Grid (chAny m) least most most l) := by
  unfold spec_deShape.f
  have := deShape_loop l least most h1 m hm hl hs l.length k 0 (by omega) (by simpa using hk)
  rw [List.drop_zero] at this
  rw [show (0 : Int) = ((0 : Nat) : Int) from rfl, this]
  unfold Grid
  by_cases h : l.all (RowOK (chAny m) (wid l)) = true
  · rw [if_pos h, h, Bool.and_true]
    by_cases a : least ≤ l.length <;> by_cases b : l.length ≤ most <;> by_cases c : least ≤ wid l <;> by_cases d : wid l ≤ most <;> simp [a, b, c, d]
  · rw [if_neg h, Bool.eq_false_iff.2 h, Bool.and_false]
theorem chIn_any (m : ByteArray) (c : Int) (hc : 0 ≤ c ∧ c ≤ 255) : chIn m c = chAny m c := by
  unfold chIn chAny cs bytesOf
  rw [Bool.eq_iff_iff]
  simp only [decide_eq_true_eq, List.any_map, List.any_eq_true, Function.comp_apply, beq_iff_eq]
  have hb : ∀ b : UInt8, c = (b.toNat : Int) ↔ b = c.toNat.toUInt8 := fun b => by
    constructor
    · intro h; rw [h, Int.toNat_natCast]; simp
    · intro h; rw [h]
      have : c.toNat < 256 := by omega
      have e : (c.toNat.toUInt8).toNat = c.toNat := by simp [Nat.mod_eq_of_lt this]
      rw [e]; omega
  constructor
  · intro h; exact ⟨_, h, (hb _).2 rfl⟩
  · rintro ⟨b, h1, h2⟩; rw [← (hb b).1 h2]; exact h1
theorem grid_any (m : ByteArray) (least rows width : Nat) (l : List ByteArray) : Grid (chIn m) least rows width l = Grid (chAny m) least rows width l := by
  unfold Grid
  rw [all_congr' _ _ _ (fun s _ => (by unfold RowOK; rw [all_congr' _ _ _ (fun c hc => chIn_any m c (cs_range s c hc))] : RowOK (chIn m) (wid l) s = RowOK (chAny m) (wid l) s))]

theorem grid_facts {ch : Int → Bool} {least rows width : Nat} {l : List ByteArray} (h : Grid ch least rows width l = true) :
    least ≤ l.length ∧ l.length ≤ rows ∧ least ≤ wid l ∧ wid l ≤ width ∧ ∀ s ∈ l, s.size = wid l ∧ ∀ c ∈ cs s, ch c = true := by
  unfold Grid at h
  simp only [Bool.and_eq_true, decide_eq_true_eq, List.all_eq_true] at h
  obtain ⟨⟨⟨⟨h1, h2⟩, h3⟩, h4⟩, h5⟩ := h
  refine ⟨h1, h2, h3, h4, fun s hs => ?_⟩
  have := h5 s hs
  unfold RowOK at this
  simp only [Bool.and_eq_true, beq_iff_eq, List.all_eq_true] at this
  exact this
theorem chS_cases {c : Int} (h : chS c = true) : c = 46 ∨ c = 111 ∨ c = 63 := by
  unfold chS at h
  simp only [Bool.or_eq_true, beq_iff_eq] at h
  omega
theorem fuelR_bound (l : List ByteArray) (n : Nat) (h : ∀ s ∈ l, s.size ≤ n) : fuelR l ≤ l.length * (n + 2) + 1 := by
  induction l with
  | nil => simp [fuelR]
  | cons s r ih =>
    have h1 := ih (fun x hx => h x (List.mem_cons_of_mem _ hx))
    have h2 := h s (by simp)
    unfold fuelR
    rw [List.length_cons, Nat.add_mul]
    omega

/-- how many bytes of a kind -/
def cnt (m : Int) (l : List Int) : Int := (l.countP (fun c => c == m) : Nat)
theorem cnt_cons (m c : Int) (l : List Int) : cnt m (c :: l) = (if c = m then 1 else 0) + cnt m l := by
  unfold cnt
  rw [List.countP_cons]
  by_cases h : c = m
  · simp [h]; omega
  · simp [h]
theorem cnt_bounds (m : Int) (l : List Int) : 0 ≤ cnt m l ∧ cnt m l ≤ l.length := by
  unfold cnt
  have := List.countP_le_length (p := fun c => c == m) (l := l)
  omega
theorem cnt_append (m : Int) (a b : List Int) : cnt m (a ++ b) = cnt m a + cnt m b := by
  unfold cnt; rw [List.countP_append]; omega

/-- the characters of a line: a row, or behind all rows a column -/
def col (l : List ByteArray) (c : Nat) : List Int := l.map fun s => bt s c
def lineOf (l : List ByteArray) (n : Nat) : List Int := if n < l.length then cs (l.getD n ByteArray.empty) else col l (n - l.length)
theorem col_cons (s : ByteArray) (l : List ByteArray) (c : Nat) : col (s :: l) c = bt s c :: col l c := rfl
theorem cs_append (a b : ByteArray) : cs (a ++ b) = cs a ++ cs b := by
  unfold cs bytesOf
  rw [← List.map_append]
  congr 1
theorem cs_one (s : ByteArray) (i : Nat) (h : i < s.size) : cs (s.extract i (i + 1)) = [bt s i] := by
  rw [bt_get s i h]
  unfold cs bytesOf
  have : (s.extract i (i + 1)).data.toList = [s.data.toList[i]'(by rw [data_length]; exact h)] := by
    simp only [ByteArray.data_extract, Array.toList_extract, List.extract_eq_take_drop]
    rw [show i + 1 - i = 1 by omega, List.drop_eq_getElem_cons (by rw [data_length]; exact h)]
    rfl
  rw [this]
  simp
theorem size_append (a b : ByteArray) : (a ++ b).size = a.size + b.size := by simp

theorem deCount_loop (s : ByteArray) (m : Int) (hs : s.size ≤ 1048576) (d : Nat) : ∀ (k i : Nat) (n : Int), i + d = s.size → d < k → 0 ≤ n ∧ n + d ≤ 1099511627776 →
    spec_deCount.l0 k s m n i = some (n + cnt m ((cs s).drop i)) := by
  induction d with
  | zero =>
    intro k i n hi hk hn
    obtain ⟨k, rfl⟩ : ∃ j, k = j + 1 := ⟨k - 1, by omega⟩
    rw [spec_deCount.l0, if_neg (by omega), List.drop_of_length_le (by rw [cs_length]; omega)]
    simp [cnt]
  | succ d ih =>
    intro k i n hi hk hn
    obtain ⟨k, rfl⟩ : ∃ j, k = j + 1 := ⟨k - 1, by omega⟩
    rw [spec_deCount.l0, if_pos (by omega), if_pos (by omega), bt_get s i (by omega), drop_get (cs s) i (by rw [cs_length]; omega), cnt_cons, w64 (x := n + 1) (by omega), w64 (x := (i : Int) + 1) (by omega), show (i : Int) + 1 = ((i + 1 : Nat) : Int) by omega]
    split
    · rw [ih k (i + 1) (n + 1) (by omega) (by omega) (by omega), Int.add_assoc]
    · rw [ih k (i + 1) n (by omega) (by omega) (by omega), Int.zero_add]
theorem deCount_eq (s : ByteArray) (m : Int) (hs : s.size ≤ 1048576) (k : Nat) (hk : s.size < k) : spec_deCount.f k s m = some (cnt m (cs s)) := by
  unfold spec_deCount.f
  have := deCount_loop s m hs s.size k 0 0 (by omega) hk (by omega)
  rw [List.drop_zero, Int.zero_add] at this
  exact this

theorem deLine_loop (l : List ByteArray) (c : Nat) (hl : l.length ≤ 1000) (hc : c ≤ 1000) (hs : ∀ s ∈ l, c < s.size) (d : Nat) : ∀ (k i : Nat) (t : ByteArray), i + d = l.length → d < k → t.size + d ≤ 100000 →
    ∃ u, spec_deLine.l0 k l ((l.length + c : Nat) : Int) t l l.length i = some u ∧ cs u = cs t ++ col (l.drop i) c := by
  induction d with
  | zero =>
    intro k i t hi hk ht
    obtain ⟨k, rfl⟩ : ∃ j, k = j + 1 := ⟨k - 1, by omega⟩
    exact ⟨t, by rw [spec_deLine.l0, if_neg (by omega)], by rw [List.drop_of_length_le (by omega)]; simp [col]⟩
  | succ d ih =>
    intro k i t hi hk ht
    obtain ⟨k, rfl⟩ : ∃ j, k = j + 1 := ⟨k - 1, by omega⟩
    have h1 := hs _ (List.getElem_mem (show i < l.length by omega))
    have e1 : wrap64 (((l.length + c : Nat) : Int) - (l.length : Int)) = (c : Int) := by rw [w64 (by omega)]; omega
    have e2 : wrap64 ((c : Int) + 1) = ((c + 1 : Nat) : Int) := by rw [w64 (by omega)]; omega
    have hx : (l[i].extract c (c + 1)).size = 1 := by rw [ByteArray.size_extract]; omega
    obtain ⟨u, hu, hcs⟩ := ih k (i + 1) (t ++ l[i].extract c (c + 1)) (by omega) (by omega) (by rw [ByteArray.size_append]; omega)
    refine ⟨u, ?_, ?_⟩
    · rw [spec_deLine.l0, if_pos (by omega), if_pos (by omega), if_pos (by omega), e1, e2, if_pos (by omega), if_pos (by omega), rdB_get l i (by omega), if_pos (by omega), Int.toNat_natCast, Int.toNat_natCast, hx, if_pos (by omega), w64 (by omega)]
      exact hu
    · rw [hcs, cs_append, cs_one l[i] c h1, drop_get l i (by omega), col_cons, List.append_assoc]
      rfl
theorem deLine_eq (l : List ByteArray) (w : Nat) (hl : l.length ≤ 1000) (hw : w ≤ 1000) (hs : ∀ s ∈ l, s.size = w) (n : Nat) (hn : n < l.length + w) (k : Nat) (hk : l.length < k) : ∃ u, spec_deLine.f k l n = some u ∧ cs u = lineOf l n := by
  unfold spec_deLine.f lineOf
  by_cases h : n < l.length
  · refine ⟨l[n], ?_, ?_⟩
    · rw [if_pos (by omega), if_pos (by omega), rdB_get l n h]
    · rw [if_pos h, List.getD_eq_getElem?_getD, List.getElem?_eq_getElem h]; rfl
  · obtain ⟨u, hu, hc⟩ := deLine_loop l (n - l.length) hl (by omega) (fun s hs' => by rw [hs s hs']; omega) l.length k 0 ⟨#[]⟩ (by omega) (by omega) (by rw [show (⟨#[]⟩ : ByteArray).size = 0 from rfl]; omega)
    refine ⟨u, ?_, ?_⟩
    · rw [if_neg (by omega), show (n : Int) = ((l.length + (n - l.length) : Nat) : Int) by omega]
      exact hu
    · rw [if_neg h, hc, List.drop_zero]; rfl
theorem lineOf_length (l : List ByteArray) (w : Nat) (hs : ∀ s ∈ l, s.size = w) (n : Nat) : (lineOf l n).length ≤ l.length + w := by
  unfold lineOf
  split
  · rename_i h
    rw [cs_length, List.getD_eq_getElem?_getD, List.getElem?_eq_getElem h]
    have := hs _ (List.getElem_mem h)
    simp only [Option.getD_some]; omega
  · simp [col]

theorem blockLine_loop (l : List ByteArray) (c : Nat) (hl : l.length ≤ 1000) (hc : c ≤ 1000) (hs : ∀ s ∈ l, c < s.size) (d : Nat) : ∀ (k i : Nat) (t : List Int), i + d = l.length → d < k → t.length + d ≤ 100000 →
    impl_blockLine.l0 k l ((l.length + c : Nat) : Int) t l l.length i = some (t ++ col (l.drop i) c) := by
  induction d with
  | zero =>
    intro k i t hi hk ht
    obtain ⟨k, rfl⟩ : ∃ j, k = j + 1 := ⟨k - 1, by omega⟩
    rw [impl_blockLine.l0, if_neg (by omega), List.drop_of_length_le (by omega)]; simp [col]
  | succ d ih =>
    intro k i t hi hk ht
    obtain ⟨k, rfl⟩ : ∃ j, k = j + 1 := ⟨k - 1, by omega⟩
    have h1 := hs _ (List.getElem_mem (show i < l.length by omega))
    have e1 : wrap64 (((l.length + c : Nat) : Int) - (l.length : Int)) = (c : Int) := by rw [w64 (by omega)]; omega
    rw [impl_blockLine.l0, if_pos (by omega), if_pos (by omega), if_pos (by omega), e1, if_pos (by omega), rdB_get l i (by omega), if_pos (by omega), if_pos (by omega), w64 (by omega), show (i : Int) + 1 = ((i + 1 : Nat) : Int) by omega, ih k (i + 1) _ (by omega) (by omega) (by simp; omega), drop_get l i (by omega), col_cons, List.append_assoc]
    rfl
theorem blockLine_eq (l : List ByteArray) (w : Nat) (hl : l.length ≤ 1000) (hw : w ≤ 1000) (hs : ∀ s ∈ l, s.size = w) (n : Nat) (hn : n < l.length + w) (k : Nat) (hk : l.length < k) : impl_blockLine.f k l n = some (lineOf l n) := by
  unfold impl_blockLine.f lineOf
  by_cases h : n < l.length
  · have := hs _ (List.getElem_mem h)
    rw [if_pos (by omega), if_pos (by omega), rdB_get l n h, if_pos (by omega), if_pos h, List.getD_eq_getElem?_getD, List.getElem?_eq_getElem h]
    rfl
  · have := blockLine_loop l (n - l.length) hl (by omega) (fun s hs' => by rw [hs s hs']; omega) l.length k 0 [] (by omega) (by omega) (by simp; omega)
    rw [if_neg (by omega), if_neg h, show (n : Int) = ((l.length + (n - l.length) : Nat) : Int) by omega]
    rw [List.drop_zero, List.nil_append] at this
    exact this
theorem lineCounts_loop (x : List Int) (hx : x.length ≤ 100000) (d : Nat) : ∀ (k i : Nat) (a b : Int), i + d = x.length → d < k → (0 ≤ a ∧ a + d ≤ 1000000) → (0 ≤ b ∧ b + d ≤ 1000000) →
    impl_lineCounts.l0 k a b x x.length i = some (a + cnt 111 (x.drop i), b + cnt 63 (x.drop i)) := by
  induction d with
  | zero =>
    intro k i a b hi hk ha hb
    obtain ⟨k, rfl⟩ : ∃ j, k = j + 1 := ⟨k - 1, by omega⟩
    rw [impl_lineCounts.l0, if_neg (by omega), List.drop_of_length_le (by omega)]
    simp [cnt]
  | succ d ih =>
    intro k i a b hi hk ha hb
    obtain ⟨k, rfl⟩ : ∃ j, k = j + 1 := ⟨k - 1, by omega⟩
    rw [impl_lineCounts.l0, if_pos (by omega), if_pos (by omega), if_pos (by omega), rd_get x i (by omega), drop_get x i (by omega), cnt_cons, cnt_cons, w64 (x := a + 1) (by omega), w64 (x := b + 1) (by omega), w64 (x := (i : Int) + 1) (by omega), show (i : Int) + 1 = ((i + 1 : Nat) : Int) by omega]
    by_cases h1 : x[i] = 111
    · rw [if_pos h1, if_pos h1, if_neg (by omega), ih k (i + 1) (a + 1) b (by omega) (by omega) (by omega) (by omega)]
      congr 2 <;> omega
    · rw [if_neg h1, if_neg h1]
      by_cases h2 : x[i] = 63
      · rw [if_pos h2, if_pos h2, ih k (i + 1) a (b + 1) (by omega) (by omega) (by omega) (by omega)]
        congr 2 <;> omega
      · rw [if_neg h2, if_neg h2, ih k (i + 1) a b (by omega) (by omega) (by omega) (by omega)]
        congr 2 <;> omega
theorem lineCounts_eq (l : List ByteArray) (w : Nat) (hl : l.length ≤ 1000) (hw : w ≤ 1000) (hs : ∀ s ∈ l, s.size = w) (n : Nat) (hn : n < l.length + w) (k : Nat) (hk : 3000 < k) : impl_lineCounts.f k l n = some (cnt 111 (lineOf l n), cnt 63 (lineOf l n)) := by
  have h := lineOf_length l w hs n
  unfold impl_lineCounts.f
  rw [blockLine_eq l w hl hw hs n hn k (by omega)]
  simp only [Option.bind_some]
  have := lineCounts_loop (lineOf l n) (by omega) (lineOf l n).length k 0 0 0 (by omega) (by omega) (by omega) (by omega)
  rw [List.drop_zero, Int.zero_add, Int.zero_add] at this
  exact this

/-- the mark behind a line -/
def mB (n : Int) : ByteArray := if n % 2 = 0 then ⟨#[46]⟩ else ⟨#[111]⟩
theorem mB_size (n : Int) : (mB n).size = 1 := by unfold mB; split <;> rfl
theorem deMark_eq (n : Int) (h : 0 ≤ n) : spec_deMark.f n = some (mB n) := by
  unfold spec_deMark.f mB
  rw [Int.tmod_eq_emod_of_nonneg h]
  split <;> rfl
def mC (n : Int) : Int := if n % 2 = 0 then 46 else 111
theorem evenChar_eq (n : Int) (h : 0 ≤ n) : impl_evenChar.f n = some (mC n) := by
  unfold impl_evenChar.f mC
  rw [Int.tmod_eq_emod_of_nonneg h]
  by_cases h : n % 2 = 0
  · rw [if_neg (by omega), if_pos h]
  · rw [if_pos (by omega), if_neg h]
theorem str_mC (n : Int) : strOfNums [mC n] = mB n := by
  unfold mC mB
  split <;> rfl
theorem str_append (a b : List Int) : strOfNums (a ++ b) = strOfNums a ++ strOfNums b := by
  unfold strOfNums
  apply ByteArray.ext
  simp
def encRow (s : ByteArray) : ByteArray := s ++ mB (cnt 111 (cs s))
def encCols (R : List ByteArray) (i : Nat) : Nat → ByteArray
  | 0 => ByteArray.empty
  | d + 1 => mB (cnt 111 (lineOf R (R.length + i))) ++ encCols R (i + 1) d
def encRows (l : List ByteArray) : List ByteArray := l.map encRow ++ [encCols (l.map encRow) 0 (wid l + 1)]
theorem byte_append_assoc (a b c : ByteArray) : a ++ b ++ c = a ++ (b ++ c) := by
  apply ByteArray.ext; simp
theorem cnt_nonneg (m : Int) (l : List Int) : 0 ≤ cnt m l := (cnt_bounds m l).1
theorem specEnc_cols (R : List ByteArray) (h0 : 0 < R.length) (w : Nat) (hR : R.length ≤ 100) (hw : w ≤ 100) (hs : ∀ s ∈ R, s.size = w) (d : Nat) : ∀ (k i : Nat) (t : ByteArray), i + d = w → d + 4000 < k → t.size + d ≤ 100000 →
    spec_EncodeBlock.l1 k R t i = some (R ++ [t ++ encCols R i d], true) := by
  have hw0 : (rdOf ByteArray.empty R 0).size = w := by rw [show rdOf ByteArray.empty R 0 = R[0] from rdB_get R 0 h0]; exact hs _ (List.getElem_mem h0)
  induction d with
  | zero =>
    intro k i t hi hk ht
    obtain ⟨k, rfl⟩ : ∃ j, k = j + 1 := ⟨k - 1, by omega⟩
    rw [spec_EncodeBlock.l1, if_pos (by omega), hw0, if_neg (by omega), if_pos (by omega), encCols, ByteArray.append_empty]
  | succ d ih =>
    intro k i t hi hk ht
    obtain ⟨k, rfl⟩ : ∃ j, k = j + 1 := ⟨k - 1, by omega⟩
    have e1 : wrap64 ((R.length : Int) + (i : Int)) = ((R.length + i : Nat) : Int) := by rw [w64 (by omega)]; omega
    have e2 : wrap64 ((i : Int) + 1) = ((i + 1 : Nat) : Int) := by rw [w64 (by omega)]; omega
    obtain ⟨u, hu, hc⟩ := deLine_eq R w (by omega) (by omega) hs (R.length + i) (by omega) k (by omega)
    have hl := lineOf_length R w hs (R.length + i)
    have hz : u.size ≤ 200 := by rw [← cs_length, hc]; omega
    rw [spec_EncodeBlock.l1, if_pos (by omega), hw0, if_pos (by omega), e1, hu]
    simp only [Option.bind_some]
    rw [deCount_eq u 111 (by omega) k (by omega), hc]
    simp only [Option.bind_some]
    rw [deMark_eq _ (cnt_nonneg _ _)]
    simp only [Option.bind_some]
    rw [mB_size, if_pos (by omega), e2, ih k (i + 1) _ (by omega) (by omega) (by rw [ByteArray.size_append, mB_size]; omega), encCols, byte_append_assoc]
theorem implEnc_cols (R : List ByteArray) (w : Nat) (hR : R.length ≤ 100) (hw : w ≤ 100) (hs : ∀ s ∈ R, s.size = w) (d : Nat) : ∀ (k i : Nat) (t : List Int), i + d = w → d + 4000 < k → t.length + d ≤ 100000 →
    impl_EncodeBlock.l1 k R t w i = some (R ++ [strOfNums t ++ encCols R i d], true) := by
  induction d with
  | zero =>
    intro k i t hi hk ht
    obtain ⟨k, rfl⟩ : ∃ j, k = j + 1 := ⟨k - 1, by omega⟩
    rw [impl_EncodeBlock.l1, if_neg (by omega), if_pos (by omega), encCols, ByteArray.append_empty]
  | succ d ih =>
    intro k i t hi hk ht
    obtain ⟨k, rfl⟩ : ∃ j, k = j + 1 := ⟨k - 1, by omega⟩
    have e1 : wrap64 ((R.length : Int) + (i : Int)) = ((R.length + i : Nat) : Int) := by rw [w64 (by omega)]; omega
    have e2 : wrap64 ((i : Int) + 1) = ((i + 1 : Nat) : Int) := by rw [w64 (by omega)]; omega
    rw [impl_EncodeBlock.l1, if_pos (by omega), e1, lineCounts_eq R w (by omega) (by omega) hs (R.length + i) (by omega) k (by omega)]
    simp only [Option.bind_some]
    rw [evenChar_eq _ (cnt_nonneg _ _)]
    simp only [Option.bind_some]
    rw [if_pos (by omega), e2, ih k (i + 1) _ (by omega) (by omega) (by rw [List.length_append, List.length_singleton]; omega), encCols, str_append, str_mC, byte_append_assoc]
theorem lineOf_row (l : List ByteArray) (i : Nat) (h : i < l.length) : lineOf l i = cs l[i] := by
  unfold lineOf
  rw [if_pos h, List.getD_eq_getElem?_getD, List.getElem?_eq_getElem h]
  rfl
theorem encRows_size (l : List ByteArray) (w : Nat) (hs : ∀ s ∈ l, s.size = w) : ∀ s ∈ l.map encRow, s.size = w + 1 := by
  intro s h
  obtain ⟨x, hx, rfl⟩ := List.mem_map.1 h
  unfold encRow
  rw [ByteArray.size_append, mB_size, hs x hx]
theorem specEnc_rows (l : List ByteArray) (h0 : 0 < l.length) (hl : l.length ≤ 50) (hw : wid l ≤ 50) (hs : ∀ s ∈ l, s.size = wid l) (d : Nat) : ∀ (k i : Nat), i + d = l.length → d + 5000 < k →
    spec_EncodeBlock.l0 k ((l.map encRow).take i) l l.length i = some (encRows l, true) := by
  induction d with
  | zero =>
    intro k i hi hk
    obtain ⟨k, rfl⟩ : ∃ j, k = j + 1 := ⟨k - 1, by omega⟩
    have := specEnc_cols (l.map encRow) (by rw [List.length_map]; omega) (wid l + 1) (by rw [List.length_map]; omega) (by omega) (encRows_size l (wid l) hs) (wid l + 1) k 0 ⟨#[]⟩ (by omega) (by omega) (by rw [show (⟨#[]⟩ : ByteArray).size = 0 from rfl]; omega)
    rw [spec_EncodeBlock.l0, if_neg (by omega), List.take_of_length_le (by rw [List.length_map]; omega)]
    rw [show (0 : Int) = ((0 : Nat) : Int) from rfl, this]
    unfold encRows
    rw [show (⟨#[]⟩ : ByteArray) = ByteArray.empty from rfl, ByteArray.empty_append]
  | succ d ih =>
    intro k i hi hk
    obtain ⟨k, rfl⟩ : ∃ j, k = j + 1 := ⟨k - 1, by omega⟩
    have h1 := hs _ (List.getElem_mem (show i < l.length by omega))
    have e2 : wrap64 ((i : Int) + 1) = ((i + 1 : Nat) : Int) := by rw [w64 (by omega)]; omega
    have e3 : (l.map encRow).take (i + 1) = (l.map encRow).take i ++ [l[i] ++ mB (cnt 111 (cs l[i]))] := by
      rw [List.take_add_one, List.getElem?_map, List.getElem?_eq_getElem (by omega)]; rfl
    rw [spec_EncodeBlock.l0, if_pos (by omega), if_pos (by omega), if_pos (by omega), rdB_get l i (by omega), deCount_eq l[i] 111 (by omega) k (by omega)]
    simp only [Option.bind_some]
    rw [deMark_eq _ (cnt_nonneg _ _)]
    simp only [Option.bind_some]
    rw [mB_size, if_pos (by omega), if_pos (by rw [List.length_take, List.length_map]; omega), e2, ← e3]
    exact ih k (i + 1) (by omega) (by omega)
theorem implEnc_rows (l : List ByteArray) (h0 : 0 < l.length) (hl : l.length ≤ 50) (hw : wid l ≤ 50) (hs : ∀ s ∈ l, s.size = wid l) (d : Nat) : ∀ (k i : Nat), i + d = l.length → d + 5000 < k →
    impl_EncodeBlock.l0 k l ((l.map encRow).take i) l.length i = some (encRows l, true) := by
  induction d with
  | zero =>
    intro k i hi hk
    obtain ⟨k, rfl⟩ : ∃ j, k = j + 1 := ⟨k - 1, by omega⟩
    have hR := encRows_size l (wid l) hs
    have hn : (l.map encRow).length = l.length := List.length_map ..
    have := implEnc_cols (l.map encRow) (wid l + 1) (by omega) (by omega) hR (wid l + 1) k 0 [] (by omega) (by omega) (by simp; omega)
    have hw0 : (rdOf ByteArray.empty (l.map encRow) 0).size = wid l + 1 := by rw [show rdOf ByteArray.empty (l.map encRow) 0 = (l.map encRow)[0] from rdB_get _ 0 (by omega)]; exact hR _ (List.getElem_mem _)
    rw [impl_EncodeBlock.l0, if_neg (by omega), List.take_of_length_le (by omega), if_pos (by omega), hw0]
    rw [show (0 : Int) = ((0 : Nat) : Int) from rfl, this]
    unfold encRows
    rw [show strOfNums [] = ByteArray.empty from rfl, ByteArray.empty_append]
  | succ d ih =>
    intro k i hi hk
    obtain ⟨k, rfl⟩ : ∃ j, k = j + 1 := ⟨k - 1, by omega⟩
    have h1 := hs _ (List.getElem_mem (show i < l.length by omega))
    have e2 : wrap64 ((i : Int) + 1) = ((i + 1 : Nat) : Int) := by rw [w64 (by omega)]; omega
    have e3 : (l.map encRow).take (i + 1) = (l.map encRow).take i ++ [l[i] ++ mB (cnt 111 (cs l[i]))] := by
      rw [List.take_add_one, List.getElem?_map, List.getElem?_eq_getElem (by omega)]; rfl
    rw [impl_EncodeBlock.l0, if_pos (by omega), lineCounts_eq l (wid l) (by omega) (by omega) hs i (by omega) k (by omega), lineOf_row l i (by omega)]
    simp only [Option.bind_some]
    rw [if_pos (by omega), if_pos (by omega), evenChar_eq _ (cnt_nonneg _ _)]
    simp only [Option.bind_some]
    rw [str_mC, mB_size, rdB_get l i (by omega), if_pos (by omega), if_pos (by rw [List.length_take, List.length_map]; omega), e2, ← e3]
    exact ih k (i + 1) (by omega) (by omega)
theorem encode_eq (l : List ByteArray) (hl : l.length ≤ 1048576) (hs : ∀ s ∈ l, s.size ≤ 1048576) (k : Nat) (hk : fuelR l + fuelD 2 l + 6000 ≤ k) :
    spec_EncodeBlock.f k l = some (if Grid (chAny ⟨#[46, 111]⟩) 1 11 11 l then encRows l else [], Grid (chAny ⟨#[46, 111]⟩) 1 11 11 l) ∧ impl_EncodeBlock.f k l = some (if Grid (chAny ⟨#[46, 111]⟩) 1 11 11 l then encRows l else [], Grid (chAny ⟨#[46, 111]⟩) 1 11 11 l) := by
  have hsp : spec_deShape.f k l 1 11 (⟨#[46, 111]⟩ : ByteArray) = some (Grid (chAny ⟨#[46, 111]⟩) 1 11 11 l) := by
    rw [show (1 : Int) = ((1 : Nat) : Int) from rfl, show (11 : Int) = ((11 : Nat) : Int) from rfl, deShape_eq l 1 11 (by omega) _ (by decide) hl hs k (by show fuelD 2 l ≤ k; omega)]
  have him : impl_isGridOf.f k l 1 11 11 (⟨#[46, 111]⟩ : ByteArray) = some (Grid (chAny ⟨#[46, 111]⟩) 1 11 11 l) := by
    rw [show (1 : Int) = ((1 : Nat) : Int) from rfl, show (11 : Int) = ((11 : Nat) : Int) from rfl, isGrid_eq l hl hs 1 11 11 (by omega) _ _ (by omega), grid_any]
  unfold spec_EncodeBlock.f impl_EncodeBlock.f
  rw [hsp, him]
  simp only [Option.bind_some]
  by_cases hg : Grid (chAny ⟨#[46, 111]⟩) 1 11 11 l = true
  · obtain ⟨g1, g2, g3, g4, g5⟩ := grid_facts hg
    have e1 := specEnc_rows l (by omega) (by omega) (by omega) (fun s h => (g5 s h).1) l.length k 0 (by omega) (by omega)
    have e2 := implEnc_rows l (by omega) (by omega) (by omega) (fun s h => (g5 s h).1) l.length k 0 (by omega) (by omega)
    rw [if_pos hg, if_pos hg, if_pos hg, hg]
    exact ⟨e1, e2⟩
  · rw [if_neg hg, if_neg hg, if_neg hg, Bool.eq_false_iff.2 hg]
    exact ⟨rfl, rfl⟩

/-- the marks' texts: what counts is that there is one for each number -/
def mtext (n : Int) : ByteArray := (laws_markText.f 100 n).getD ByteArray.empty
theorem markText_loop (d : Nat) : ∀ (k : Nat) (n : Int) (s : ByteArray), 0 ≤ n → n < 10 ^ d → n ≤ 1099511627776 → d < k → s.size + d ≤ 1000 → ∃ t, laws_markText.l0 k n s = some t := by
  induction d with
  | zero =>
    intro k n s h0 h1 h2 hk hs
    obtain ⟨k, rfl⟩ : ∃ j, k = j + 1 := ⟨k - 1, by omega⟩
    simp at h1
    rw [laws_markText.l0, if_neg (by omega), if_pos (by omega)]
    exact ⟨_, rfl⟩
  | succ d ih =>
    intro k n s h0 h1 h2 hk hs
    obtain ⟨k, rfl⟩ : ∃ j, k = j + 1 := ⟨k - 1, by omega⟩
    by_cases h : n > 0
    · rw [laws_markText.l0, if_pos h]
      simp only [Option.bind_some]
      rw [if_pos (by rw [strOfNums_size]; simp; omega)]
      have h10 : Int.tdiv n 10 = n / 10 := Int.tdiv_eq_ediv_of_nonneg h0
      have hd : n / 10 < 10 ^ d := by
        rw [Int.pow_succ] at h1
        exact Int.ediv_lt_of_lt_mul (by omega) (by omega)
      rw [h10, w64 (x := n / 10) (by omega)]
      exact ih k (n / 10) _ (by omega) hd (by omega) (by omega) (by rw [ByteArray.size_append, strOfNums_size]; simp; omega)
    · rw [laws_markText.l0, if_neg h, if_pos (by omega)]
      exact ⟨_, rfl⟩
theorem markText_eq (n : Int) (h0 : 0 ≤ n) (h1 : n ≤ 1099511627776) (k : Nat) (hk : 100 ≤ k) : laws_markText.f k n = some (mtext n) := by
  have h : ∃ t, laws_markText.f 100 n = some t := by
    unfold laws_markText.f
    by_cases h : n ≤ 0
    · rw [if_pos h]; exact ⟨_, rfl⟩
    · rw [if_neg h]
      exact markText_loop 13 100 n _ h0 (by omega) h1 (by omega) (by decide)
  obtain ⟨t, ht⟩ := h
  have e : mtext n = t := by unfold mtext; rw [ht]; rfl
  rw [e]
  exact at_rounds (g := fun k => laws_markText.f k n) (fun k => laws_markText.mono n k) hk ht
def upS (n : Int) : Nat → List ByteArray
  | 0 => []
  | d + 1 => mtext n :: upS (n + 1) d
theorem upS_length (n : Int) (d : Nat) : (upS n d).length = d := by
  induction d generalizing n with
  | zero => rfl
  | succ d ih => simp [upS, ih]
theorem markStrings_loop (d : Nat) : ∀ (k : Nat) (p l : List ByteArray) (n : Int), l.length = d → d + 100 < k → p.length + l.length ≤ 1048576 → 1 ≤ n ∧ n ≤ 10000000 + p.length →
    laws_markStringS.l0 k (p ++ l) n p.length = some (n + d, p ++ upS n d) := by
  induction d with
  | zero =>
    intro k p l n hi hk hl hn
    obtain ⟨k, rfl⟩ : ∃ j, k = j + 1 := ⟨k - 1, by omega⟩
    obtain rfl := List.length_eq_zero_iff.1 hi
    rw [laws_markStringS.l0, if_neg (by simp)]
    simp [upS]
  | succ d ih =>
    intro k p l n hi hk hl hn
    obtain ⟨k, rfl⟩ : ∃ j, k = j + 1 := ⟨k - 1, by omega⟩
    obtain ⟨x, r, rfl⟩ : ∃ x r, l = x :: r := by
      cases l with
      | nil => simp at hi
      | cons x r => exact ⟨x, r, rfl⟩
    simp only [List.length_cons] at hi hl
    rw [laws_markStringS.l0, if_pos (by simp; omega), markText_eq n (by omega) (by omega) k (by omega)]
    simp only [Option.bind_some]
    rw [if_pos (by omega), Int.toNat_natCast, List.set_append_right _ _ (by omega), Nat.sub_self, List.set_cons_zero, w64 (by omega), w64 (by omega)]
    have := ih k (p ++ [mtext n]) r (n + 1) (by omega) (by omega) (by simp; omega) (by simp; omega)
    rw [show p ++ mtext n :: r = (p ++ [mtext n]) ++ r by simp, show ((p.length : Int) + 1) = (((p ++ [mtext n]).length : Nat) : Int) by simp, this, upS]
    simp; omega
theorem markStrings_eq (l : List ByteArray) (hl : l.length ≤ 1048576) (n : Int) (hn : 1 ≤ n ∧ n ≤ 10000000) (k : Nat) (hk : l.length + 100 < k) : laws_markStringS.f k l n = some (n + (l.length : Int), upS n l.length) := by
  unfold laws_markStringS.f
  have := markStrings_loop l.length k [] l n rfl hk (by simpa using hl) (by simp; omega)
  simpa using this
theorem heldStrings_loop (d : Nat) : ∀ (k : Nat) (p : List ByteArray) (n : Int), d + 100 < k → p.length + d ≤ 1048576 → 1 ≤ n ∧ n ≤ 10000000 + p.length →
    laws_heldStringS.l0 k (p ++ upS n d) n p.length = some (n + d) := by
  induction d with
  | zero =>
    intro k p n hk hl hn
    obtain ⟨k, rfl⟩ : ∃ j, k = j + 1 := ⟨k - 1, by omega⟩
    rw [laws_heldStringS.l0, if_neg (by simp [upS])]; simp
  | succ d ih =>
    intro k p n hk hl hn
    obtain ⟨k, rfl⟩ : ∃ j, k = j + 1 := ⟨k - 1, by omega⟩
    rw [upS, laws_heldStringS.l0, if_pos (by simp; omega), if_pos (by omega), markText_eq n (by omega) (by omega) k (by omega), rdB_get _ p.length (by simp), List.getElem_append_right (by omega)]
    simp only [Option.bind_some, Nat.sub_self, List.getElem_cons_zero, if_true]
    rw [w64 (by omega), w64 (by omega)]
    have := ih k (p ++ [mtext n]) (n + 1) (by omega) (by simp; omega) (by simp; omega)
    rw [show p ++ mtext n :: upS (n + 1) d = (p ++ [mtext n]) ++ upS (n + 1) d by simp, show ((p.length : Int) + 1) = (((p ++ [mtext n]).length : Nat) : Int) by simp, this]
    congr 1; omega
theorem heldStrings_eq (d : Nat) (hl : d ≤ 1048576) (n : Int) (hn : 1 ≤ n ∧ n ≤ 10000000) (k : Nat) (hk : d + 100 < k) : laws_heldStringS.f k (upS n d) n = some (n + (d : Int)) := by
  unfold laws_heldStringS.f
  have := heldStrings_loop d k [] n hk (by simpa using hl) (by simp; omega)
  simpa using this

/-- what the law does once both answers are the same: the answer shares nothing, and a second call answers the same -/
theorem deep_eq (l : List ByteArray) (hl : l.length ≤ 1048576) (r : List ByteArray) (b : Bool) (hr : r.length ≤ 1048576) (K : Nat) (hi : ∀ k, K ≤ k → impl_EncodeBlock.f k l = some (r, b)) (k : Nat) (hk : K + l.length + r.length + 200 ≤ k) :
    laws_FnExactEncodeBlock.j0 k l r b l r b false = some true := by
  obtain ⟨k, rfl⟩ : ∃ j, k = j + 1 + 1 + 1 := ⟨k - 3, by omega⟩
  rw [laws_FnExactEncodeBlock.j0, if_neg (by decide), toStrings_eq l hl _ (by omega)]
  simp only [Option.bind_some]
  rw [eqStrings_self l hl _ (by omega)]
  simp only [Option.bind_some, if_true]
  rw [markStrings_eq l hl 1 (by omega) _ (by omega)]
  simp only [Option.bind_some]
  rw [if_neg (by omega), eqStrings_self r hr _ (by omega)]
  simp only [Option.bind_some, if_true, bne_self_eq_false]
  rw [laws_FnExactEncodeBlock.j1, if_neg (by decide), markStrings_eq r hr 1 (by omega) _ (by omega)]
  simp only [Option.bind_some]
  rw [heldStrings_eq r.length hr 1 (by omega) _ (by omega)]
  simp only [Option.bind_some]
  rw [if_neg (by omega), if_pos trivial, toStrings_eq l hl _ (by omega)]
  simp only [Option.bind_some]
  rw [hi _ (by omega)]
  simp only [Option.bind_some]
  rw [eqStrings_self r hr _ (by omega)]
  simp only [Option.bind_some, if_true, bne_self_eq_false]
  rw [laws_FnExactEncodeBlock.j2, if_neg (by decide), heldStrings_eq r.length hr 1 (by omega) _ (by omega)]
  simp only [Option.bind_some]
  rw [if_neg (by omega), if_pos trivial]
theorem law_eq (l : List ByteArray) (hl : l.length ≤ maxLen) (hs : ∀ s ∈ l, s.size ≤ maxLen) (r : List ByteArray) (b : Bool) (hr : r.length ≤ 1048576) (K : Nat)
    (h : l.length ≤ 1048576 → (∀ s ∈ l, s.size ≤ 1048576) → ∀ k, K ≤ k → spec_EncodeBlock.f k l = some (r, b) ∧ impl_EncodeBlock.f k l = some (r, b)) : ∃ k, laws_FnExactEncodeBlock.f k l = some true := by
  obtain ⟨z, hz, hb⟩ := szStrings_eq l hl hs 1048576 (by omega)
  refine ⟨K + l.length + r.length + 200, ?_⟩
  unfold laws_FnExactEncodeBlock.f
  rw [hz _ (by omega)]
  simp only [Option.bind_some]
  by_cases hn : z < 0
  · rw [if_pos hn]
  · obtain ⟨_, b1, b2⟩ := hb (by omega)
    obtain ⟨e1, e2⟩ := h b1 b2 (K + l.length + r.length + 200) (by omega)
    rw [if_neg hn, toStrings_eq l b1 _ (by omega)]
    simp only [Option.bind_some]
    rw [e1, e2]
    simp only [Option.bind_some]
    rw [eqStrings_self r hr _ (by omega)]
    simp only [Option.bind_some, if_true, bne_self_eq_false]
    exact deep_eq l b1 r b hr K (fun k hk => (h b1 b2 k hk).2) _ (Nat.le_refl _)

theorem FnExactEncodeBlock (l : List ByteArray) (hl : l.length ≤ maxLen) (hs : ∀ s ∈ l, s.size ≤ maxLen) : ∃ k, laws_FnExactEncodeBlock.f k l = some true := by
  refine law_eq l hl hs (if Grid (chAny ⟨#[46, 111]⟩) 1 11 11 l then encRows l else []) (Grid (chAny ⟨#[46, 111]⟩) 1 11 11 l) ?_ (fuelR l + fuelD 2 l + 6000) (fun b1 b2 k hk => encode_eq l b1 b2 k hk)
  split
  · rename_i h
    have := (grid_facts h).2.1
    unfold encRows
    rw [List.length_append, List.length_map, List.length_singleton]
    omega
  · simp
end Go.Proofs.Ytlikohjiiakhkaa.Pure
