/- FnExactWrongMark: the program's WrongMark answers as the reference's, for all slices of strings. No condition. -/
import Derived.Test.YtlikohjiiakhkaaPFnExactWrongMarkx4
namespace Go.Proofs.Ytlikohjiiakhkaa.Pure
open Go.RowKit Go.Proofs.Ytlikohjiiakhkaa.PFnExactWrongMark Go.Proofs.YtlikohjiiakhkaaW.PrintWords Go.Proofs.YtlikohjiiakhkaaW.PrintLast

set_option linter.unusedVariables false
set_option linter.unusedSimpArgs false

theorem w64 {x : Int} (h : -9223372036854775808 ≤ x ∧ x ≤ 9223372036854775807) : wrap64 x = x := by
  unfold wrap64; omega
theorem someF {p : Prop} [Decidable p] (h : ¬ p) : some false = some (decide p) := by rw [decide_eq_false h]
theorem someD {q p : Prop} [Decidable q] [Decidable p] (h : q ↔ p) : some (decide q) = some (decide p) := by rw [decide_eq_decide.2 h]

theorem in_eq (a b c : Int) : spec_l1In.f a b c = some (decide (b ≤ a ∧ a ≤ c)) := by
  unfold spec_l1In.f
  by_cases h : a ≥ b
  · rw [if_pos h]; congr 1; simp [show b ≤ a from h]
  · rw [if_neg h]; congr 1; simp; omega

theorem fill_step {α : Type} (l : List α) (z : α) (i : Nat) (h : i < l.length) :
    (l.take i ++ List.replicate (l.length - i) z).set i (l[i]'h) = l.take (i + 1) ++ List.replicate (l.length - (i + 1)) z := by
  have hl : (l.take i).length = i := by rw [List.length_take]; omega
  rw [List.set_append_right _ _ (by omega), hl, Nat.sub_self, show l.length - i = (l.length - (i + 1)) + 1 by omega, List.replicate_succ, List.set_cons_zero, List.take_succ_eq_append_getElem h, List.append_assoc]
  rfl
theorem fill_length {α : Type} (l : List α) (z : α) (i : Nat) (h : i ≤ l.length) : (l.take i ++ List.replicate (l.length - i) z).length = l.length := by
  simp; omega

theorem rd_get (l : List Int) (i : Nat) (h : i < l.length) : rd l (i : Int) = l[i] := by
  unfold rd; rw [Int.toNat_natCast, List.getD_eq_getElem?_getD, List.getElem?_eq_getElem h]; rfl

theorem rdB_get (l : List ByteArray) (i : Nat) (h : i < l.length) : rdOf ByteArray.empty l (i : Int) = l[i] := by
  unfold rdOf; rw [Int.toNat_natCast, List.getD_eq_getElem?_getD, List.getElem?_eq_getElem h]; rfl
theorem drop_get {α : Type} (l : List α) (i : Nat) (h : i < l.length) : l.drop i = l[i] :: l.drop (i + 1) := List.drop_eq_getElem_cons h
/-- the bytes of a string -/
abbrev cs (s : ByteArray) : List Int := bytesOf s
theorem cs_length (s : ByteArray) : (cs s).length = s.size := bytesOf_length s
theorem bt_get (s : ByteArray) (i : Nat) (h : i < s.size) : bt s (i : Int) = (cs s)[i]'(by rw [cs_length]; exact h) := by
  rw [← rd_bytesOf, rd_get _ _ (by rw [bytesOf_length]; exact h)]
theorem szStrings_loop (l : List ByteArray) (hl : l.length ≤ 1048576) (hs : ∀ s ∈ l, s.size ≤ maxLen) (d : Nat) : ∀ (k i : Nat) (n : Int), i + d = l.length → d < k → 0 ≤ n ∧ n ≤ 1048576 →
    ∃ r, laws_szStringS.l0 k l n i = some r ∧ (0 ≤ r → r ≤ n ∧ ∀ s ∈ l.drop i, s.size ≤ n) := by
  induction d with
  | zero =>
    intro k i n hi hk hn
    obtain ⟨k, rfl⟩ : ∃ j, k = j + 1 := ⟨k - 1, by omega⟩
    exact ⟨n, by rw [laws_szStringS.l0, if_neg (by omega)], fun _ => ⟨Int.le_refl _, by rw [List.drop_of_length_le (by omega)]; simp⟩⟩
  | succ d ih =>
    intro k i n hi hk hn
    obtain ⟨k, rfl⟩ : ∃ j, k = j + 1 := ⟨k - 1, by omega⟩
    have h1 : l[i].size ≤ maxLen := hs _ (List.getElem_mem _)
    unfold maxLen at h1
    rw [laws_szStringS.l0, if_pos (by omega), if_pos (by omega), rdB_get l i (by omega), w64 (x := n - _) (by omega), w64 (by omega)]
    by_cases h : n - (l[i].size : Int) < 0
    · exact ⟨-1, by rw [if_pos h], fun h' => by omega⟩
    · obtain ⟨r, hr, hb⟩ := ih k (i + 1) (n - l[i].size) (by omega) (by omega) (by omega)
      refine ⟨r, by rw [if_neg h]; exact hr, fun h' => ?_⟩
      obtain ⟨b1, b2⟩ := hb h'
      refine ⟨by omega, ?_⟩
      rw [drop_get l i (by omega), List.forall_mem_cons]
      exact ⟨by omega, fun s hs' => by have := b2 s hs'; omega⟩
/-- the guard on the size of an argument: what it lets through is small -/
theorem szStrings_eq (l : List ByteArray) (hl : l.length ≤ maxLen) (hs : ∀ s ∈ l, s.size ≤ maxLen) (n : Int) (hn : 0 ≤ n ∧ n ≤ 1048576) :
    ∃ r, (∀ k, l.length < k → laws_szStringS.f k l n = some r) ∧ (0 ≤ r → r ≤ n ∧ l.length ≤ 1048576 ∧ ∀ s ∈ l, s.size ≤ 1048576) := by
  have hl' := hl
  unfold maxLen at hl'
  by_cases h : n - (l.length : Int) < 0
  · exact ⟨-1, fun k _ => by unfold laws_szStringS.f; rw [w64 (by omega), if_pos h], fun h' => by omega⟩
  · obtain ⟨r, hr, hb⟩ := szStrings_loop l (by omega) hs l.length (l.length + 1) 0 (n - l.length) (by omega) (by omega) (by omega)
    refine ⟨r, fun k hk => ?_, fun h' => ?_⟩
    · unfold laws_szStringS.f
      rw [w64 (by omega), if_neg h]
      obtain ⟨q, hq, _⟩ := szStrings_loop l (by omega) hs l.length k 0 (n - l.length) (by omega) (by omega) (by omega)
      have := at_rounds (g := fun k => laws_szStringS.l0 k l (n - l.length) ((0 : Nat) : Int)) (fun k => laws_szStringS.mono_l k _ _ _) (show l.length + 1 ≤ k by omega) hr
      exact this
    · obtain ⟨b1, b2⟩ := hb h'
      refine ⟨by omega, by omega, fun s hs' => ?_⟩
      have := b2 s (by simpa using hs')
      omega
theorem toStrings_loop (l : List ByteArray) (hl : l.length ≤ 1048576) (d : Nat) : ∀ (k i : Nat), i + d = l.length → d < k →
    laws_toStringS.l0 k l (l.take i ++ List.replicate (l.length - i) (⟨#[]⟩ : ByteArray)) i = some l := by
  induction d with
  | zero =>
    intro k i hi hk
    obtain ⟨k, rfl⟩ : ∃ j, k = j + 1 := ⟨k - 1, by omega⟩
    rw [laws_toStringS.l0, if_neg (by omega), show l.length - i = 0 by omega, List.replicate_zero, List.append_nil, List.take_of_length_le (by omega)]
  | succ d ih =>
    intro k i hi hk
    obtain ⟨k, rfl⟩ : ∃ j, k = j + 1 := ⟨k - 1, by omega⟩
    rw [laws_toStringS.l0, if_pos (by omega), if_pos (by omega), fill_length _ _ _ (by omega), if_pos (by omega), Int.toNat_natCast, rdB_get l i (by omega), fill_step l _ i (by omega), w64 (by omega)]
    exact ih k (i + 1) (by omega) (by omega)
theorem toStrings_eq (l : List ByteArray) (hl : l.length ≤ 1048576) (k : Nat) (hk : l.length < k) : laws_toStringS.f k l = some l := by
  unfold laws_toStringS.f
  rw [if_pos (by omega), if_pos (by omega), Int.toNat_natCast]
  have := toStrings_loop l hl l.length k 0 (by omega) hk
  simpa using this
theorem eqStrings_loop (l : List ByteArray) (hl : l.length ≤ 1048576) (d : Nat) : ∀ (k i : Nat), i + d = l.length → d < k → laws_eqStringS.l0 k l l i = some true := by
  induction d with
  | zero =>
    intro k i hi hk
    obtain ⟨k, rfl⟩ : ∃ j, k = j + 1 := ⟨k - 1, by omega⟩
    rw [laws_eqStringS.l0, if_neg (by omega)]
  | succ d ih =>
    intro k i hi hk
    obtain ⟨k, rfl⟩ : ∃ j, k = j + 1 := ⟨k - 1, by omega⟩
    rw [laws_eqStringS.l0, if_pos (by omega), if_pos (by omega), if_pos (by omega), if_pos rfl, w64 (by omega)]
    exact ih k (i + 1) (by omega) (by omega)
theorem eqStrings_self (l : List ByteArray) (hl : l.length ≤ 1048576) (k : Nat) (hk : l.length < k) : laws_eqStringS.f k l l = some true := by
  unfold laws_eqStringS.f
  rw [if_pos rfl]
  exact eqStrings_loop l hl l.length k 0 (by omega) hk

/-- rectangles of some characters: the rows are as long as the first, and hold those characters alone -/
def RowOK (ch : Int → Bool) (n : Nat) (s : ByteArray) : Bool := s.size == n && (cs s).all ch
def wid (l : List ByteArray) : Nat := (l.headD ByteArray.empty).size
def Grid (ch : Int → Bool) (least rows width : Nat) (l : List ByteArray) : Bool :=
  decide (least ≤ l.length) && decide (l.length ≤ rows) && decide (least ≤ wid l) && decide (wid l ≤ width) && l.all (RowOK ch (wid l))
def fuelR : List ByteArray → Nat
  | [] => 1
  | s :: r => s.size + 2 + fuelR r
theorem wid_get (l : List ByteArray) (h : 0 < l.length) : wid l = (l[0]'h).size := by
  cases l with
  | nil => simp at h
  | cons a r => rfl
theorem indexByte_found (l : List UInt8) (c : UInt8) : (Go.Lib.indexByte l c < 0) ↔ c ∉ l := by
  induction l with
  | nil => simp [Go.Lib.indexByte]
  | cons b r ih =>
    have hge : ∀ l : List UInt8, -1 ≤ Go.Lib.indexByte l c := by
      intro l
      induction l with
      | nil => simp [Go.Lib.indexByte]
      | cons b r ih => unfold Go.Lib.indexByte; split; omega; split <;> omega
    have hr := hge r
    unfold Go.Lib.indexByte
    by_cases h : b = c
    · subst h; simp
    · have h1 : (b == c) = false := by simpa using h
      have h2 : c ≠ b := fun e => h e.symm
      rw [h1]
      simp only [Bool.false_eq_true, if_false, List.mem_cons, not_or]
      by_cases h3 : Go.Lib.indexByte r c = -1
      · have h4 : (Go.Lib.indexByte r c == -1) = true := by simpa using h3
        rw [h4]; simp only [if_true]
        exact ⟨fun _ => ⟨h2, ih.1 (by omega)⟩, fun _ => by omega⟩
      · have h4 : (Go.Lib.indexByte r c == -1) = false := by simpa using h3
        rw [h4]; simp only [Bool.false_eq_true, if_false]
        exact ⟨fun h => by omega, fun h => absurd (ih.2 h.2) (by omega)⟩

def chIn (chars : ByteArray) (c : Int) : Bool := decide (c.toNat.toUInt8 ∈ chars.data.toList)
theorem isGrid_row (x0 : List ByteArray) (ch s : ByteArray) (hs : s.size ≤ 1048576) (x40 : List ByteArray) (x41 x42 : Int) (d : Nat) : ∀ (k i : Nat), i + d = s.size →
    impl_isGridOf.l1 (k + d + 1) x0 ch s i x40 x41 x42 = if ((cs s).drop i).all (chIn ch) then impl_isGridOf.l0 k x0 ch x40 x41 (wrap64 (x42 + 1)) else some false := by
  induction d with
  | zero =>
    intro k i hi
    rw [impl_isGridOf.l1, if_neg (by omega), List.drop_of_length_le (by rw [cs_length]; omega)]
    simp
  | succ d ih =>
    intro k i hi
    rw [impl_isGridOf.l1, if_pos (by omega), if_pos (by omega), bt_get s i (by omega), drop_get (cs s) i (by rw [cs_length]; omega), List.all_cons, w64 (by omega), show k + (d + 1) = k + d + 1 by omega, show ((i : Int) + 1) = ((i + 1 : Nat) : Int) by omega, ih k (i + 1) (by omega)]
    generalize (cs s)[i]'_ = c
    unfold strings_IndexByte.f chIn
    simp only [Option.bind_some]
    have hf := indexByte_found ch.data.toList c.toNat.toUInt8
    by_cases h : c.toNat.toUInt8 ∈ ch.data.toList
    · rw [if_neg (fun h' => hf.1 h' h), decide_eq_true h, Bool.true_and]
    · rw [if_pos (hf.2 h), decide_eq_false h, Bool.false_and, if_neg (by decide)]
theorem isGrid_loop (l : List ByteArray) (ch : ByteArray) (hl : l.length ≤ 1048576) (hs : ∀ s ∈ l, s.size ≤ 1048576) (d : Nat) : ∀ (k i : Nat), i + d = l.length → fuelR (l.drop i) ≤ k →
    impl_isGridOf.l0 k l ch l l.length i = some ((l.drop i).all (RowOK (chIn ch) (wid l))) := by
  induction d with
  | zero =>
    intro k i hi hk
    rw [List.drop_of_length_le (by omega)] at hk ⊢
    obtain ⟨k, rfl⟩ : ∃ j, k = j + 1 := ⟨k - 1, by unfold fuelR at hk; omega⟩
    rw [impl_isGridOf.l0, if_neg (by omega)]
    rfl
  | succ d ih =>
    intro k i hi hk
    have hx : l[i].size ≤ 1048576 := hs _ (List.getElem_mem _)
    rw [drop_get l i (by omega)] at hk ⊢
    unfold fuelR at hk
    obtain ⟨j, hj⟩ : ∃ j, k = j + l[i].size + 1 + 1 := ⟨k - l[i].size - 2, by omega⟩
    rw [hj]
    have h0 : 0 < l.length := by omega
    rw [impl_isGridOf.l0, if_pos (by omega), if_pos (by omega), if_pos (by omega), if_pos (by omega), rdB_get l i (by omega)]
    rw [show rdOf ByteArray.empty l 0 = l[0] from rdB_get l 0 h0, ← wid_get l h0, List.all_cons]
    by_cases h1 : (l[i].size : Int) = (wid l : Int)
    · have h1' : (l[i].size == wid l) = true := by simp; omega
      rw [if_pos h1, show (0 : Int) = ((0 : Nat) : Int) from rfl, isGrid_row l ch l[i] hx l _ _ l[i].size j 0 (by omega), List.drop_zero, w64 (by omega), show ((i : Int) + 1) = ((i + 1 : Nat) : Int) by omega, ih j (i + 1) (by omega) (by omega)]
      unfold RowOK
      rw [h1', Bool.true_and]
      by_cases h2 : (cs l[i]).all (chIn ch) = true
      · rw [if_pos h2, h2, Bool.true_and]
      · rw [if_neg h2, Bool.eq_false_iff.2 h2, Bool.false_and]
    · have h1' : (l[i].size == wid l) = false := by simp; omega
      rw [if_neg h1]
      unfold RowOK
      rw [h1', Bool.false_and, Bool.false_and]
theorem isGrid_eq (l : List ByteArray) (hl : l.length ≤ 1048576) (hs : ∀ s ∈ l, s.size ≤ 1048576) (least rows width : Nat) (h1 : 1 ≤ least) (ch : ByteArray) (k : Nat) (hk : fuelR l < k) :
    impl_isGridOf.f k l least rows width ch = some (Grid (chIn ch) least rows width l) := by
  obtain ⟨k, rfl⟩ : ∃ j, k = j + 1 := ⟨k - 1, by omega⟩
  unfold impl_isGridOf.f Grid
  simp only [impl_isGridOf.j0, if_true]
  by_cases h2 : least ≤ l.length
  · by_cases h3 : l.length ≤ rows
    · have h0 : 0 < l.length := by omega
      rw [if_neg (by omega), if_neg (by omega), if_pos (by omega), show rdOf ByteArray.empty l 0 = l[0] from rdB_get l 0 h0, ← wid_get l h0, decide_eq_true h2, decide_eq_true h3]
      by_cases h4 : least ≤ wid l
      · rw [if_neg (by omega), decide_eq_true h4]
        by_cases h5 : wid l ≤ width
        · have := isGrid_loop l ch hl hs l.length k 0 (by omega) (by simpa using (by omega : fuelR l ≤ k))
          rw [List.drop_zero] at this
          rw [if_neg (by simp; omega), decide_eq_true h5, show (0 : Int) = ((0 : Nat) : Int) from rfl, this]
          simp
        · rw [if_pos (by simp; omega), decide_eq_false h5]; simp
      · rw [if_pos (by omega), decide_eq_false h4]; simp
    · rw [if_neg (by omega), if_pos (by omega), decide_eq_false h3]; simp
  · rw [if_pos (by omega), decide_eq_false h2]; simp

def chS (c : Int) : Bool := c == 46 || c == 111 || c == 63

theorem chIn_scan (c : Int) (hc : 0 ≤ c ∧ c ≤ 255) : chIn ⟨#[46, 111, 63]⟩ c = chS c := by
  unfold chIn chS
  obtain ⟨n, rfl⟩ : ∃ n : Nat, c = n := ⟨c.toNat, by omega⟩
  have hn : n < 256 := by omega
  rw [Int.toNat_natCast]
  have key : ∀ m : Fin 256, decide (m.val.toUInt8 ∈ [(46 : UInt8), 111, 63]) = ((m.val : Int) == 46 || (m.val : Int) == 111 || (m.val : Int) == 63) := by decide +kernel
  exact key ⟨n, hn⟩
theorem cs_range (s : ByteArray) : ∀ c ∈ cs s, 0 ≤ c ∧ c ≤ 255 := by
  intro c hc
  unfold cs bytesOf at hc
  obtain ⟨b, _, rfl⟩ := List.mem_map.1 hc
  have := b.toNat_lt
  omega
theorem all_congr' {α : Type} (l : List α) (p q : α → Bool) (h : ∀ x ∈ l, p x = q x) : l.all p = l.all q := by
  induction l with
  | nil => rfl
  | cons a r ih => rw [List.all_cons, List.all_cons, h a (by simp), ih (fun x hx => h x (List.mem_cons_of_mem _ hx))]
theorem rowOK_scan (n : Nat) (s : ByteArray) : RowOK (chIn ⟨#[46, 111, 63]⟩) n s = RowOK chS n s := by
  unfold RowOK
  rw [all_congr' _ _ _ (fun c hc => chIn_scan c (cs_range s c hc))]
theorem grid_scan (least rows width : Nat) (l : List ByteArray) : Grid (chIn ⟨#[46, 111, 63]⟩) least rows width l = Grid chS least rows width l := by
  unfold Grid
  rw [all_congr' _ _ _ (fun s _ => rowOK_scan (wid l) s)]

/-- a character among some -/
def chAny (m : ByteArray) (c : Int) : Bool := (cs m).any fun b => c == b
def fuelD (M : Nat) : List ByteArray → Nat
  | [] => 1
  | s :: r => s.size * (M + 2) + 2 + fuelD M r
theorem deShape_mark (x0 : List ByteArray) (a1 a2 : Int) (m s : ByteArray) (hm : m.size ≤ 1000) (i : Nat) (hi : i < s.size) (x14 : List ByteArray) (x15 x16 : Int) (e : Nat) : ∀ (k j : Nat) (flag : Bool), j + e = m.size →
    spec_deShape.l2 (k + e + 1) x0 a1 a2 m s i flag j x14 x15 x16 = if flag || ((cs m).drop j).any (fun b => (cs s)[i]'(by rw [cs_length]; exact hi) == b) then spec_deShape.l1 k x0 a1 a2 m s (wrap64 ((i : Int) + 1)) x14 x15 x16 else some false := by
  induction e with
  | zero =>
    intro k j flag hj
    rw [spec_deShape.l2, if_neg (by omega), List.drop_of_length_le (by rw [cs_length]; omega)]
    simp
  | succ e ih =>
    intro k j flag hj
    rw [spec_deShape.l2, if_pos (by omega), w64 (x := (j : Int) + 1) (by omega), show ((j : Int) + 1) = ((j + 1 : Nat) : Int) by omega, show k + (e + 1) = k + e + 1 by omega, drop_get (cs m) j (by rw [cs_length]; omega), List.any_cons]
    cases flag
    · rw [if_neg (by decide), if_pos (by omega), if_pos (by omega), if_pos (by omega), bt_get s i hi, bt_get m j (by omega), ih k (j + 1) _ (by omega)]
      simp
    · rw [if_pos rfl, ih k (j + 1) true (by omega)]
      simp
theorem deShape_row (x0 : List ByteArray) (a1 a2 : Int) (m s : ByteArray) (hm : m.size ≤ 1000) (hs : s.size ≤ 1048576) (x14 : List ByteArray) (x15 x16 : Int) (d : Nat) : ∀ (k i : Nat), i + d = s.size →
    spec_deShape.l1 (k + d * (m.size + 2) + 1) x0 a1 a2 m s i x14 x15 x16 = if ((cs s).drop i).all (chAny m) then spec_deShape.l0 k x0 a1 a2 m x14 x15 (wrap64 (x16 + 1)) else some false := by
  induction d with
  | zero =>
    intro k i hi
    rw [spec_deShape.l1, if_neg (by omega), List.drop_of_length_le (by rw [cs_length]; omega)]
    simp
  | succ d ih =>
    intro k i hi
    rw [show k + (d + 1) * (m.size + 2) + 1 = (k + d * (m.size + 2) + 1) + m.size + 1 + 1 by rw [Nat.add_mul]; omega, spec_deShape.l1, if_pos (by omega)]
    have := deShape_mark x0 a1 a2 m s hm i (by omega) x14 x15 x16 m.size (k + d * (m.size + 2) + 1) 0 false (by omega)
    rw [List.drop_zero, Bool.false_or] at this
    rw [show (0 : Int) = ((0 : Nat) : Int) from rfl, this, w64 (by omega), show ((i : Int) + 1) = ((i + 1 : Nat) : Int) by omega, ih k (i + 1) (by omega), drop_get (cs s) i (by rw [cs_length]; omega), List.all_cons]
    unfold chAny
    cases hc : (cs m).any (fun b => (cs s)[i]'(by rw [cs_length]; omega) == b)
    · simp
    · simp
theorem deShape_loop (l : List ByteArray) (least most : Nat) (h1 : 1 ≤ least) (m : ByteArray) (hm : m.size ≤ 1000) (hl : l.length ≤ 1048576) (hs : ∀ s ∈ l, s.size ≤ 1048576) (d : Nat) : ∀ (k i : Nat), i + d = l.length → fuelD m.size (l.drop i) ≤ k →
    spec_deShape.l0 k l least most m l l.length i = if (l.drop i).all (RowOK (chAny m) (wid l)) then some (decide (least ≤ l.length ∧ l.length ≤ most ∧ least ≤ wid l ∧ wid l ≤ most)) else some false := by
  induction d with
  | zero =>
    intro k i hi hk
    rw [List.drop_of_length_le (by omega)] at hk ⊢
    obtain ⟨k, rfl⟩ : ∃ j, k = j + 1 := ⟨k - 1, by unfold fuelD at hk; omega⟩
    rw [spec_deShape.l0, if_neg (by omega), in_eq]
    simp only [Option.bind_some, decide_eq_true_eq, List.all_nil, if_true]
    by_cases h0 : (least : Int) ≤ (l.length : Int) ∧ (l.length : Int) ≤ most
    · rw [if_pos h0, if_pos (show 0 < (l.length : Int) by omega), show ((0 : Int)) = ((0 : Nat) : Int) from rfl, rdB_get l 0 (by omega), in_eq, ← wid_get l (by omega)]
      simp only [Option.bind_some]
      exact someD (by omega)
    · rw [if_neg h0]; exact someF (by omega)
  | succ d ih =>
    intro k i hi hk
    have hx : l[i].size ≤ 1048576 := hs _ (List.getElem_mem _)
    rw [drop_get l i (by omega)] at hk ⊢
    unfold fuelD at hk
    obtain ⟨j, hj⟩ : ∃ j, k = j + l[i].size * (m.size + 2) + 1 + 1 := ⟨k - l[i].size * (m.size + 2) - 2, by omega⟩
    have h0 : 0 < l.length := by omega
    rw [hj, spec_deShape.l0, if_pos (by omega), if_pos (by omega), if_pos (by omega), if_pos (by omega), rdB_get l i (by omega)]
    rw [show rdOf ByteArray.empty l 0 = l[0] from rdB_get l 0 h0, ← wid_get l h0, List.all_cons]
    by_cases h1 : (l[i].size : Int) = (wid l : Int)
    · have h1' : (l[i].size == wid l) = true := by simp; omega
      rw [if_pos h1, show (0 : Int) = ((0 : Nat) : Int) from rfl, deShape_row l least most m l[i] hm hx l _ _ l[i].size j 0 (by omega), List.drop_zero, w64 (by omega), show ((i : Int) + 1) = ((i + 1 : Nat) : Int) by omega, ih j (i + 1) (by omega) (by omega)]
      unfold RowOK
      rw [h1', Bool.true_and]
      by_cases h2 : (cs l[i]).all (chAny m) = true
      · rw [if_pos h2, h2, Bool.true_and]
      · rw [if_neg h2, Bool.eq_false_iff.2 h2, Bool.false_and, if_neg (by decide)]
    · have h1' : (l[i].size == wid l) = false := by simp; omega
      rw [if_neg h1]
      unfold RowOK
      rw [h1', Bool.false_and, Bool.false_and, if_neg (by decide)]
theorem deShape_eq (l : List ByteArray) (least most : Nat) (h1 : 1 ≤ least) (m : ByteArray) (hm : m.size ≤ 1000) (hl : l.length ≤ 1048576) (hs : ∀ s ∈ l, s.size ≤ 1048576) (k : Nat) (hk : fuelD m.size l ≤ k) :
    spec_deShape.f k l least most m = some (Grid (chAny m) least most most l) := by
  unfold spec_deShape.f
  have := deShape_loop l least most h1 m hm hl hs l.length k 0 (by omega) (by simpa using hk)
  rw [List.drop_zero] at this
  rw [show (0 : Int) = ((0 : Nat) : Int) from rfl, this]
  unfold Grid
  by_cases h : l.all (RowOK (chAny m) (wid l)) = true
  · rw [if_pos h, h, Bool.and_true]
    by_cases a : least ≤ l.length <;> by_cases b : l.length ≤ most <;> by_cases c : least ≤ wid l <;> by_cases d : wid l ≤ most <;> simp [a, b, c, d]
  · rw [if_neg h, Bool.eq_false_iff.2 h, Bool.and_false]
theorem chIn_any (m : ByteArray) (c : Int) (hc : 0 ≤ c ∧ c ≤ 255) : chIn m c = chAny m c := by
  unfold chIn chAny cs bytesOf
  rw [Bool.eq_iff_iff]
  simp only [decide_eq_true_eq, List.any_map, List.any_eq_true, Function.comp_apply, beq_iff_eq]
  have hb : ∀ b : UInt8, c = (b.toNat : Int) ↔ b = c.toNat.toUInt8 := fun b => by
    constructor
    · intro h; rw [h, Int.toNat_natCast]; simp
    · intro h; rw [h]
      have : c.toNat < 256 := by omega
      have e : (c.toNat.toUInt8).toNat = c.toNat := by simp [Nat.mod_eq_of_lt this]
      rw [e]; omega
  constructor
  · intro h; exact ⟨_, h, (hb _).2 rfl⟩
  · rintro ⟨b, h1, h2⟩; rw [← (hb b).1 h2]; exact h1
theorem grid_any (m : ByteArray) (least rows width : Nat) (l : List ByteArray) : Grid (chIn m) least rows width l = Grid (chAny m) least rows width l := by
  unfold Grid
  rw [all_congr' _ _ _ (fun s _ => (by unfold RowOK; rw [all_congr' _ _ _ (fun c hc => chIn_any m c (cs_range s c hc))] : RowOK (chIn m) (wid l) s = RowOK (chAny m) (wid l) s))]

theorem deGood_eq (l : List ByteArray) (hl : l.length ≤ 1048576) (hs : ∀ s ∈ l, s.size ≤ 1048576) (k : Nat) (hk : fuelD 3 l ≤ k) : spec_deGood.f k l = some (Grid chS 2 12 12 l) := by
  unfold spec_deGood.f
  rw [show (2 : Int) = ((2 : Nat) : Int) from rfl, show (12 : Int) = ((12 : Nat) : Int) from rfl, deShape_eq l 2 12 (by omega) (⟨#[46, 111, 63]⟩ : ByteArray) (by decide) hl hs k hk, ← grid_any, grid_scan]
  rfl
theorem isBlock_eq (l : List ByteArray) (hl : l.length ≤ 1048576) (hs : ∀ s ∈ l, s.size ≤ 1048576) (k : Nat) (hk : fuelR l < k) : impl_IsBlock.f k l = some (Grid chS 2 12 12 l) := by
  unfold impl_IsBlock.f
  rw [show (2 : Int) = ((2 : Nat) : Int) from rfl, show (12 : Int) = ((12 : Nat) : Int) from rfl, isGrid_eq l hl hs 2 12 12 (by omega) _ _ hk, grid_scan]
  rfl

theorem grid_facts {ch : Int → Bool} {least rows width : Nat} {l : List ByteArray} (h : Grid ch least rows width l = true) :
    least ≤ l.length ∧ l.length ≤ rows ∧ least ≤ wid l ∧ wid l ≤ width ∧ ∀ s ∈ l, s.size = wid l ∧ ∀ c ∈ cs s, ch c = true := by
  unfold Grid at h
  simp only [Bool.and_eq_true, decide_eq_true_eq, List.all_eq_true] at h
  obtain ⟨⟨⟨⟨h1, h2⟩, h3⟩, h4⟩, h5⟩ := h
  refine ⟨h1, h2, h3, h4, fun s hs => ?_⟩
  have := h5 s hs
  unfold RowOK at this
  simp only [Bool.and_eq_true, beq_iff_eq, List.all_eq_true] at this
  exact this
theorem chS_cases {c : Int} (h : chS c = true) : c = 46 ∨ c = 111 ∨ c = 63 := by
  unfold chS at h
  simp only [Bool.or_eq_true, beq_iff_eq] at h
  omega
theorem fuelR_bound (l : List ByteArray) (n : Nat) (h : ∀ s ∈ l, s.size ≤ n) : fuelR l ≤ l.length * (n + 2) + 1 := by
  induction l with
  | nil => simp [fuelR]
  | cons s r ih =>
    have h1 := ih (fun x hx => h x (List.mem_cons_of_mem _ hx))
    have h2 := h s (by simp)
    unfold fuelR
    rw [List.length_cons, Nat.add_mul]
    omega

/-- how many bytes of a kind -/
def cnt (m : Int) (l : List Int) : Int := (l.countP (fun c => c == m) : Nat)
theorem cnt_cons (m c : Int) (l : List Int) : cnt m (c :: l) = (if c = m then 1 else 0) + cnt m l := by
  unfold cnt
  rw [List.countP_cons]
  by_cases h : c = m
  · simp [h]; omega
  · simp [h]
theorem cnt_bounds (m : Int) (l : List Int) : 0 ≤ cnt m l ∧ cnt m l ≤ l.length := by
  unfold cnt
  have := List.countP_le_length (p := fun c => c == m) (l := l)
  omega
theorem cnt_append (m : Int) (a b : List Int) : cnt m (a ++ b) = cnt m a + cnt m b := by
  unfold cnt; rw [List.countP_append]; omega

/-- the characters of a line: a row, or behind all rows a column -/
def col (l : List ByteArray) (c : Nat) : List Int := l.map fun s => bt s c
def lineOf (l : List ByteArray) (n : Nat) : List Int := if n < l.length then cs (l.getD n ByteArray.empty) else col l (n - l.length)
theorem col_cons (s : ByteArray) (l : List ByteArray) (c : Nat) : col (s :: l) c = bt s c :: col l c := rfl
theorem cs_append (a b : ByteArray) : cs (a ++ b) = cs a ++ cs b := by
  unfold cs bytesOf
  rw [← List.map_append]
  congr 1
theorem cs_one (s : ByteArray) (i : Nat) (h : i < s.size) : cs (s.extract i (i + 1)) = [bt s i] := by
  rw [bt_get s i h]
  unfold cs bytesOf
  have : (s.extract i (i + 1)).data.toList = [s.data.toList[i]'(by rw [data_length]; exact h)] := by
    simp only [ByteArray.data_extract, Array.toList_extract, List.extract_eq_take_drop]
    rw [show i + 1 - i = 1 by omega, List.drop_eq_getElem_cons (by rw [data_length]; exact h)]
    rfl
  rw [this]
  simp
theorem size_append (a b : ByteArray) : (a ++ b).size = a.size + b.size := by simp

theorem deCount_loop (s : ByteArray) (m : Int) (hs : s.size ≤ 1048576) (d : Nat) : ∀ (k i : Nat) (n : Int), i + d = s.size → d < k → 0 ≤ n ∧ n + d ≤ 1099511627776 →
    spec_deCount.l0 k s m n i = some (n + cnt m ((cs s).drop i)) := by
  induction d with
  | zero =>
    intro k i n hi hk hn
    obtain ⟨k, rfl⟩ : ∃ j, k = j + 1 := ⟨k - 1, by omega⟩
    rw [spec_deCount.l0, if_neg (by omega), List.drop_of_length_le (by rw [cs_length]; omega)]
    simp [cnt]
  | succ d ih =>
    intro k i n hi hk hn
    obtain ⟨k, rfl⟩ : ∃ j, k = j + 1 := ⟨k - 1, by omega⟩
    rw [spec_deCount.l0, if_pos (by omega), if_pos (by omega), bt_get s i (by omega), drop_get (cs s) i (by rw [cs_length]; omega), cnt_cons, w64 (x := n + 1) (by omega), w64 (x := (i : Int) + 1) (by omega), show (i : Int) + 1 = ((i + 1 : Nat) : Int) by omega]
    split
    · rw [ih k (i + 1) (n + 1) (by omega) (by omega) (by omega), Int.add_assoc]
    · rw [ih k (i + 1) n (by omega) (by omega) (by omega), Int.zero_add]
theorem deCount_eq (s : ByteArray) (m : Int) (hs : s.size ≤ 1048576) (k : Nat) (hk : s.size < k) : spec_deCount.f k s m = some (cnt m (cs s)) := by
  unfold spec_deCount.f
  have := deCount_loop s m hs s.size k 0 0 (by omega) hk (by omega)
  rw [List.drop_zero, Int.zero_add] at this
  exact this

theorem deLine_loop (l : List ByteArray) (c : Nat) (hl : l.length ≤ 1000) (hc : c ≤ 1000) (hs : ∀ s ∈ l, c < s.size) (d : Nat) : ∀ (k i : Nat) (t : ByteArray), i + d = l.length → d < k → t.size + d ≤ 100000 →
    ∃ u, spec_deLine.l0 k l ((l.length + c : Nat) : Int) t l l.length i = some u ∧ cs u = cs t ++ col (l.drop i) c := by
  induction d with
  | zero =>
    intro k i t hi hk ht
    obtain ⟨k, rfl⟩ : ∃ j, k = j + 1 := ⟨k - 1, by omega⟩
    exact ⟨t, by rw [spec_deLine.l0, if_neg (by omega)], by rw [List.drop_of_length_le (by omega)]; simp [col]⟩
  | succ d ih =>
    intro k i t hi hk ht
    obtain ⟨k, rfl⟩ : ∃ j, k = j + 1 := ⟨k - 1, by omega⟩
    have h1 := hs _ (List.getElem_mem (show i < l.length by omega))
    have e1 : wrap64 (((l.length + c : Nat) : Int) - (l.length : Int)) = (c : Int) := by rw [w64 (by omega)]; omega
    have e2 : wrap64 ((c : Int) + 1) = ((c + 1 : Nat) : Int) := by rw [w64 (by omega)]; omega
    have hx : (l[i].extract c (c + 1)).size = 1 := by rw [ByteArray.size_extract]; omega
    obtain ⟨u, hu, hcs⟩ := ih k (i + 1) (t ++ l[i].extract c (c + 1)) (by omega) (by omega) (by rw [ByteArray.size_append]; omega)
    refine ⟨u, ?_, ?_⟩
    · rw [spec_deLine.l0, if_pos (by omega), if_pos (by omega), if_pos (by omega), e1, e2, if_pos (by omega), if_pos (by omega), rdB_get l i (by omega), if_pos (by omega), Int.toNat_natCast, Int.toNat_natCast, hx, if_pos (by omega), w64 (by omega)]
      exact hu
    · rw [hcs, cs_append, cs_one l[i] c h1, drop_get l i (by omega), col_cons, List.append_assoc]
      rfl
theorem deLine_eq (l : List ByteArray) (w : Nat) (hl : l.length ≤ 1000) (hw : w ≤ 1000) (hs : ∀ s ∈ l, s.size = w) (n : Nat) (hn : n < l.length + w) (k : Nat) (hk : l.length < k) : ∃ u, spec_deLine.f k l n = some u ∧ cs u = lineOf l n := by
  unfold spec_deLine.f lineOf
  by_cases h : n < l.length
  · refine ⟨l[n], ?_, ?_⟩
    · rw [if_pos (by omega), if_pos (by omega), rdB_get l n h]
    · rw [if_pos h, List.getD_eq_getElem?_getD, List.getElem?_eq_getElem h]; rfl
  · obtain ⟨u, hu, hc⟩ := deLine_loop l (n - l.length) hl (by omega) (fun s hs' => by rw [hs s hs']; omega) l.length k 0 ⟨#[]⟩ (by omega) (by omega) (by rw [show (⟨#[]⟩ : ByteArray).size = 0 from rfl]; omega)
    refine ⟨u, ?_, ?_⟩
    · rw [if_neg (by omega), show (n : Int) = ((l.length + (n - l.length) : Nat) : Int) by omega]
      exact hu
    · rw [if_neg h, hc, List.drop_zero]; rfl
theorem lineOf_length (l : List ByteArray) (w : Nat) (hs : ∀ s ∈ l, s.size = w) (n : Nat) : (lineOf l n).length ≤ l.length + w := by
  unfold lineOf
  split
  · rename_i h
    rw [cs_length, List.getD_eq_getElem?_getD, List.getElem?_eq_getElem h]
    have := hs _ (List.getElem_mem h)
    simp only [Option.getD_some]; omega
  · simp [col]

def erasedOf : List ByteArray → Int
  | [] => 0
  | s :: r => cnt 63 (cs s) + erasedOf r
theorem erased_bounds (l : List ByteArray) (n : Nat) (h : ∀ s ∈ l, s.size ≤ n) : 0 ≤ erasedOf l ∧ erasedOf l ≤ l.length * n := by
  induction l with
  | nil => simp [erasedOf]
  | cons s r ih =>
    have h1 := ih (fun x hx => h x (List.mem_cons_of_mem _ hx))
    have h2 := h s (by simp)
    have h3 := cnt_bounds 63 (cs s)
    rw [cs_length] at h3
    rw [erasedOf, List.length_cons, show (((r.length + 1 : Nat) : Int) * (n : Int)) = (r.length : Int) * n + n by rw [Int.natCast_add, Int.add_mul]; simp]
    omega
theorem erased_zero (l : List ByteArray) : erasedOf l = 0 ↔ ∀ s ∈ l, cnt 63 (cs s) = 0 := by
  induction l with
  | nil => simp [erasedOf]
  | cons s r ih =>
    have h1 := (cnt_bounds 63 (cs s)).1
    have h2 : 0 ≤ erasedOf r := by
      clear ih
      induction r with
      | nil => simp [erasedOf]
      | cons t q ih => have := (cnt_bounds 63 (cs t)).1; rw [erasedOf]; omega
    rw [erasedOf, List.forall_mem_cons, ← ih]
    omega

theorem deErased_loop (l : List ByteArray) (hl : l.length ≤ 1000) (hs : ∀ s ∈ l, s.size ≤ 1000) (d : Nat) : ∀ (k i : Nat) (n : Int), i + d = l.length → d + 1001 < k → 0 ≤ n ∧ n + 1000 * d ≤ 1000000000 →
    spec_deErased.l0 k n l l.length i = some (n + erasedOf (l.drop i)) := by
  induction d with
  | zero =>
    intro k i n hi hk hn
    obtain ⟨k, rfl⟩ : ∃ j, k = j + 1 := ⟨k - 1, by omega⟩
    rw [spec_deErased.l0, if_neg (by omega), List.drop_of_length_le (by omega)]
    simp [erasedOf]
  | succ d ih =>
    intro k i n hi hk hn
    obtain ⟨k, rfl⟩ : ∃ j, k = j + 1 := ⟨k - 1, by omega⟩
    have h1 := hs _ (List.getElem_mem (show i < l.length by omega))
    have h2 := cnt_bounds 63 (cs l[i])
    rw [cs_length] at h2
    rw [spec_deErased.l0, if_pos (by omega), if_pos (by omega), if_pos (by omega), rdB_get l i (by omega), deCount_eq l[i] 63 (by omega) k (by omega), drop_get l i (by omega), erasedOf]
    simp only [Option.bind_some]
    rw [w64 (by omega), w64 (by omega), show (i : Int) + 1 = ((i + 1 : Nat) : Int) by omega, ih k (i + 1) _ (by omega) (by omega) (by omega), Int.add_assoc]
theorem deErased_eq (l : List ByteArray) (hl : l.length ≤ 1000) (hs : ∀ s ∈ l, s.size ≤ 1000) (k : Nat) (hk : 3000 < k) : spec_deErased.f k l = some (erasedOf l) := by
  unfold spec_deErased.f
  have := deErased_loop l hl hs l.length k 0 0 (by omega) (by omega) (by omega)
  rw [List.drop_zero, Int.zero_add] at this
  exact this

theorem blockLine_loop (l : List ByteArray) (c : Nat) (hl : l.length ≤ 1000) (hc : c ≤ 1000) (hs : ∀ s ∈ l, c < s.size) (d : Nat) : ∀ (k i : Nat) (t : List Int), i + d = l.length → d < k → t.length + d ≤ 100000 →
    impl_blockLine.l0 k l ((l.length + c : Nat) : Int) t l l.length i = some (t ++ col (l.drop i) c) := by
  induction d with
  | zero =>
    intro k i t hi hk ht
    obtain ⟨k, rfl⟩ : ∃ j, k = j + 1 := ⟨k - 1, by omega⟩
    rw [impl_blockLine.l0, if_neg (by omega), List.drop_of_length_le (by omega)]; simp [col]
  | succ d ih =>
    intro k i t hi hk ht
    obtain ⟨k, rfl⟩ : ∃ j, k = j + 1 := ⟨k - 1, by omega⟩
    have h1 := hs _ (List.getElem_mem (show i < l.length by omega))
    have e1 : wrap64 (((l.length + c : Nat) : Int) - (l.length : Int)) = (c : Int) := by rw [w64 (by omega)]; omega
    rw [impl_blockLine.l0, if_pos (by omega), if_pos (by omega), if_pos (by omega), e1, if_pos (by omega), rdB_get l i (by omega), if_pos (by omega), if_pos (by omega), w64 (by omega), show (i : Int) + 1 = ((i + 1 : Nat) : Int) by omega, ih k (i + 1) _ (by omega) (by omega) (by simp; omega), drop_get l i (by omega), col_cons, List.append_assoc]
    rfl
theorem blockLine_eq (l : List ByteArray) (w : Nat) (hl : l.length ≤ 1000) (hw : w ≤ 1000) (hs : ∀ s ∈ l, s.size = w) (n : Nat) (hn : n < l.length + w) (k : Nat) (hk : l.length < k) : impl_blockLine.f k l n = some (lineOf l n) := by
  unfold impl_blockLine.f lineOf
  by_cases h : n < l.length
  · have := hs _ (List.getElem_mem h)
    rw [if_pos (by omega), if_pos (by omega), rdB_get l n h, if_pos (by omega), if_pos h, List.getD_eq_getElem?_getD, List.getElem?_eq_getElem h]
    rfl
  · have := blockLine_loop l (n - l.length) hl (by omega) (fun s hs' => by rw [hs s hs']; omega) l.length k 0 [] (by omega) (by omega) (by simp; omega)
    rw [if_neg (by omega), if_neg h, show (n : Int) = ((l.length + (n - l.length) : Nat) : Int) by omega]
    rw [List.drop_zero, List.nil_append] at this
    exact this
theorem lineCounts_loop (x : List Int) (hx : x.length ≤ 100000) (d : Nat) : ∀ (k i : Nat) (a b : Int), i + d = x.length → d < k → (0 ≤ a ∧ a + d ≤ 1000000) → (0 ≤ b ∧ b + d ≤ 1000000) →
    impl_lineCounts.l0 k a b x x.length i = some (a + cnt 111 (x.drop i), b + cnt 63 (x.drop i)) := by
  induction d with
  | zero =>
    intro k i a b hi hk ha hb
    obtain ⟨k, rfl⟩ : ∃ j, k = j + 1 := ⟨k - 1, by omega⟩
    rw [impl_lineCounts.l0, if_neg (by omega), List.drop_of_length_le (by omega)]
    simp [cnt]
  | succ d ih =>
    intro k i a b hi hk ha hb
    obtain ⟨k, rfl⟩ : ∃ j, k = j + 1 := ⟨k - 1, by omega⟩
    rw [impl_lineCounts.l0, if_pos (by omega), if_pos (by omega), if_pos (by omega), rd_get x i (by omega), drop_get x i (by omega), cnt_cons, cnt_cons, w64 (x := a + 1) (by omega), w64 (x := b + 1) (by omega), w64 (x := (i : Int) + 1) (by omega), show (i : Int) + 1 = ((i + 1 : Nat) : Int) by omega]
    by_cases h1 : x[i] = 111
    · rw [if_pos h1, if_pos h1, if_neg (by omega), ih k (i + 1) (a + 1) b (by omega) (by omega) (by omega) (by omega)]
      congr 2 <;> omega
    · rw [if_neg h1, if_neg h1]
      by_cases h2 : x[i] = 63
      · rw [if_pos h2, if_pos h2, ih k (i + 1) a (b + 1) (by omega) (by omega) (by omega) (by omega)]
        congr 2 <;> omega
      · rw [if_neg h2, if_neg h2, ih k (i + 1) a b (by omega) (by omega) (by omega) (by omega)]
        congr 2 <;> omega
theorem lineCounts_eq (l : List ByteArray) (w : Nat) (hl : l.length ≤ 1000) (hw : w ≤ 1000) (hs : ∀ s ∈ l, s.size = w) (n : Nat) (hn : n < l.length + w) (k : Nat) (hk : 3000 < k) : impl_lineCounts.f k l n = some (cnt 111 (lineOf l n), cnt 63 (lineOf l n)) := by
  have h := lineOf_length l w hs n
  unfold impl_lineCounts.f
  rw [blockLine_eq l w hl hw hs n hn k (by omega)]
  simp only [Option.bind_some]
  have := lineCounts_loop (lineOf l n) (by omega) (lineOf l n).length k 0 0 0 (by omega) (by omega) (by omega) (by omega)
  rw [List.drop_zero, Int.zero_add, Int.zero_add] at this
  exact this

/-- codes: all lines have an even number of holes, and nothing is erased -/
def evenLine (l : List ByteArray) (n : Nat) : Bool := cnt 111 (lineOf l n) % 2 == 0
def cleanLine (l : List ByteArray) (n : Nat) : Bool := cnt 63 (lineOf l n) == 0
def allFrom (p : Nat → Bool) (i : Nat) : Nat → Bool
  | 0 => true
  | d + 1 => p i && allFrom p (i + 1) d
theorem allFrom_iff (p : Nat → Bool) (d : Nat) : ∀ i, allFrom p i d = true ↔ ∀ n, i ≤ n → n < i + d → p n = true := by
  induction d with
  | zero => intro i; simp [allFrom]; intro n h1 h2; omega
  | succ d ih =>
    intro i
    rw [allFrom, Bool.and_eq_true, ih]
    constructor
    · rintro ⟨h1, h2⟩ n h3 h4
      by_cases h : n = i
      · subst h; exact h1
      · exact h2 n (by omega) (by omega)
    · intro h
      exact ⟨h i (by omega) (by omega), fun n h1 h2 => h n (by omega) (by omega)⟩
def CodeB (l : List ByteArray) : Bool := allFrom (evenLine l) 0 (l.length + wid l) && (erasedOf l == 0)
theorem code_lines (l : List ByteArray) (h0 : 0 < wid l) (hs : ∀ s ∈ l, s.size = wid l) : CodeB l = allFrom (fun n => evenLine l n && cleanLine l n) 0 (l.length + wid l) := by
  rw [Bool.eq_iff_iff]
  unfold CodeB
  rw [Bool.and_eq_true, allFrom_iff, allFrom_iff, beq_iff_eq, erased_zero]
  constructor
  · rintro ⟨h1, h2⟩ n h3 h4
    rw [Bool.and_eq_true]
    refine ⟨h1 n h3 h4, ?_⟩
    unfold cleanLine lineOf
    rw [beq_iff_eq]
    split
    · rename_i h
      rw [List.getD_eq_getElem?_getD, List.getElem?_eq_getElem h]
      exact h2 _ (List.getElem_mem h)
    · rename_i h
      unfold cnt col
      rw [show (0 : Int) = ((0 : Nat) : Int) from rfl]
      congr 1
      rw [List.countP_eq_zero]
      intro c hc
      obtain ⟨s, hs', rfl⟩ := List.mem_map.1 hc
      have hsz := hs s hs'
      have h5 := h2 s hs'
      unfold cnt at h5
      have h6 : List.countP (fun c => c == 63) (cs s) = 0 := by omega
      rw [List.countP_eq_zero] at h6
      rw [bt_get s (n - l.length) (by omega)]
      exact h6 _ (List.getElem_mem _)
  · intro h
    refine ⟨fun n h1 h2 => (Bool.and_eq_true _ _ ▸ h n h1 h2).1, fun s hs' => ?_⟩
    obtain ⟨i, hi, rfl⟩ := List.mem_iff_getElem.1 hs'
    have := (Bool.and_eq_true _ _ ▸ h i (by omega) (by omega)).2
    unfold cleanLine lineOf at this
    rw [beq_iff_eq, if_pos hi, List.getD_eq_getElem?_getD, List.getElem?_eq_getElem hi] at this
    exact this

theorem deLines_eq (l : List ByteArray) (h0 : 0 < l.length) (hl : l.length ≤ 1000) (hw : wid l ≤ 1000) : spec_deLines.f l = some ((l.length + wid l : Nat) : Int) := by
  unfold spec_deLines.f
  rw [if_pos (by omega), show rdOf ByteArray.empty l 0 = l[0] from rdB_get l 0 h0, ← wid_get l h0, w64 (by omega)]
  rfl

theorem clean_lines (l : List ByteArray) (hs : ∀ s ∈ l, s.size = wid l) : erasedOf l = 0 ↔ allFrom (cleanLine l) 0 (l.length + wid l) = true := by
  rw [allFrom_iff, erased_zero]
  constructor
  · intro h2 n h3 h4
    unfold cleanLine lineOf
    rw [beq_iff_eq]
    split
    · rename_i h
      rw [List.getD_eq_getElem?_getD, List.getElem?_eq_getElem h]
      exact h2 _ (List.getElem_mem h)
    · rename_i h
      unfold cnt col
      rw [show (0 : Int) = ((0 : Nat) : Int) from rfl]
      congr 1
      rw [List.countP_eq_zero]
      intro c hc
      obtain ⟨s, hs', rfl⟩ := List.mem_map.1 hc
      have hsz := hs s hs'
      have h5 := h2 s hs'
      unfold cnt at h5
      have h6 : List.countP (fun c => c == 63) (cs s) = 0 := by omega
      rw [List.countP_eq_zero] at h6
      rw [bt_get s (n - l.length) (by omega)]
      exact h6 _ (List.getElem_mem _)
  · intro h s hs'
    obtain ⟨i, hi, rfl⟩ := List.mem_iff_getElem.1 hs'
    have := h i (by omega) (by omega)
    unfold cleanLine lineOf at this
    rw [beq_iff_eq, if_pos hi, List.getD_eq_getElem?_getD, List.getElem?_eq_getElem hi] at this
    exact this
def oddFrom (l : List ByteArray) (i : Nat) : Nat → List Int
  | 0 => []
  | d + 1 => if evenLine l i then oddFrom l (i + 1) d else (i : Int) :: oddFrom l (i + 1) d
theorem odd_mem (l : List ByteArray) (d : Nat) : ∀ i, ∀ x ∈ oddFrom l i d, (i : Int) ≤ x ∧ x < i + d := by
  induction d with
  | zero => intro i x h; simp [oddFrom] at h
  | succ d ih =>
    intro i x h
    rw [oddFrom] at h
    split at h
    · have := ih (i + 1) x h; omega
    · rcases List.mem_cons.1 h with h | h
      · omega
      · have := ih (i + 1) x h; omega
theorem odd_add (l : List ByteArray) (e d : Nat) : ∀ i, oddFrom l i (e + d) = oddFrom l i e ++ oddFrom l (i + e) d := by
  induction e with
  | zero => intro i; rw [Nat.zero_add, Nat.add_zero]; rfl
  | succ e ih =>
    intro i
    rw [show e + 1 + d = (e + d) + 1 by omega, oddFrom, oddFrom, ih (i + 1), show i + 1 + e = i + (e + 1) by omega]
    split <;> rfl
theorem odd_length (l : List ByteArray) (d : Nat) : ∀ i, (oddFrom l i d).length ≤ d := by
  induction d with
  | zero => intro i; exact Nat.le_refl _
  | succ d ih =>
    intro i
    rw [oddFrom]
    have := ih (i + 1)
    split
    · omega
    · rw [List.length_cons]; omega
def finS (n : Int) (e : Int) (O : List Int) : Int × Int × Bool := if e > 0 then (0, 0, false) else if (O.length : Int) = 2 then (if rd O 0 ≥ n then (0, 0, false) else if rd O 1 < n then (0, 0, false) else (rd O 0, rd O 1 - n, true)) else (0, 0, false)
def finI (R C : List Int) : Int × Int × Bool := if (R.length : Int) = 1 then (if (C.length : Int) = 1 then (rd R 0, rd C 0, true) else (0, 0, false)) else (0, 0, false)
theorem deError_loop (l : List ByteArray) (h0 : 0 < l.length) (hl : l.length ≤ 100) (hw : wid l ≤ 100) (hs : ∀ s ∈ l, s.size = wid l) (d : Nat) : ∀ (k i : Nat) (t : List Int), i + d = l.length + wid l → d + 4000 < k → t.length + d ≤ 1000 → (∀ x ∈ t, 0 ≤ x ∧ x ≤ 1000) →
    spec_deError.l0 k l t i = some (finS l.length (erasedOf l) (t ++ oddFrom l i d)) := by
  induction d with
  | zero =>
    intro k i t hi hk ht hm
    obtain ⟨k, rfl⟩ : ∃ j, k = j + 1 := ⟨k - 1, by omega⟩
    rw [spec_deError.l0, deLines_eq l h0 (by omega) (by omega)]
    simp only [Option.bind_some]
    rw [if_neg (by omega), deErased_eq l (by omega) (fun s hs' => by rw [hs s hs']; omega) k (by omega), oddFrom, List.append_nil]
    simp only [Option.bind_some]
    unfold finS
    by_cases h1 : erasedOf l > 0
    · rw [if_pos h1, if_pos h1]
    · rw [if_neg h1, if_neg h1]
      by_cases h2 : (t.length : Int) = 2
      · have hm1 := hm (rd t 1) (by rw [show (1 : Int) = ((1 : Nat) : Int) from rfl, rd_get t 1 (by omega)]; exact List.getElem_mem _)
        rw [if_pos h2, if_pos h2, if_pos (by omega)]
        by_cases h3 : rd t 0 ≥ l.length
        · rw [if_pos h3, if_pos h3]
        · rw [if_neg h3, if_neg h3, if_pos (by omega)]
          by_cases h4 : rd t 1 < l.length
          · rw [if_pos h4, if_pos h4]
          · rw [if_neg h4, if_neg h4, w64 (by omega)]
      · rw [if_neg h2, if_neg h2]
  | succ d ih =>
    intro k i t hi hk ht hm
    obtain ⟨k, rfl⟩ : ∃ j, k = j + 1 := ⟨k - 1, by omega⟩
    obtain ⟨u, hu, hc⟩ := deLine_eq l (wid l) (by omega) (by omega) hs i (by omega) k (by omega)
    have hul : u.size ≤ 1000 := by have := lineOf_length l (wid l) hs i; rw [← hc, cs_length] at this; omega
    have hb := cnt_bounds 111 (lineOf l i)
    rw [spec_deError.l0, deLines_eq l h0 (by omega) (by omega)]
    simp only [Option.bind_some]
    rw [if_pos (by omega), hu]
    simp only [Option.bind_some]
    rw [deCount_eq u 111 (by omega) k (by omega), hc]
    simp only [Option.bind_some]
    rw [Int.tmod_eq_emod_of_nonneg hb.1, oddFrom, w64 (by omega), show (i : Int) + 1 = ((i + 1 : Nat) : Int) by omega, if_pos (show t.length < 17592186044416 by omega)]
    unfold evenLine
    by_cases h : cnt 111 (lineOf l i) % 2 = 0
    · rw [if_pos h, ih k (i + 1) t (by omega) (by omega) (by omega) hm, h, if_pos (by decide)]
    · rw [if_neg h, ih k (i + 1) (t ++ [(i : Int)]) (by omega) (by omega) (by rw [List.length_append, List.length_singleton]; omega) (by
        intro x hx
        rcases List.mem_append.1 hx with hx | hx
        · exact hm x hx
        · rw [List.mem_singleton] at hx; omega), if_neg (by simpa using h), List.append_assoc]
      rfl
theorem wrong_cols (l : List ByteArray) (hl : l.length ≤ 100) (hw : wid l ≤ 100) (hs : ∀ s ∈ l, s.size = wid l) (d : Nat) : ∀ (k i : Nat) (R C : List Int), l.length ≤ i → i + d = l.length + wid l → d + 4000 < k → C.length + d ≤ 1000 →
    impl_wrongMark.l0 k l R C ((l.length + wid l : Nat) : Int) i = some (if allFrom (cleanLine l) i d then finI R (C ++ (oddFrom l i d).map (fun x : Int => x - (l.length : Int))) else (0, 0, false)) := by
  induction d with
  | zero =>
    intro k i R C hn hi hk hC
    obtain ⟨k, rfl⟩ : ∃ j, k = j + 1 := ⟨k - 1, by omega⟩
    rw [impl_wrongMark.l0, if_neg (by omega), allFrom, if_pos rfl, oddFrom, List.map_nil, List.append_nil]
    unfold finI
    by_cases h1 : (R.length : Int) = 1
    · rw [if_pos h1, if_pos h1]
      by_cases h2 : (C.length : Int) = 1
      · rw [if_pos h2, if_pos h2, if_pos (by omega), if_pos (by omega)]
      · rw [if_neg h2, if_neg h2]
    · rw [if_neg h1, if_neg h1]
  | succ d ih =>
    intro k i R C hn hi hk hC
    obtain ⟨k, rfl⟩ : ∃ j, k = j + 1 := ⟨k - 1, by omega⟩
    have hb := cnt_bounds 111 (lineOf l i)
    have hb' := cnt_bounds 63 (lineOf l i)
    rw [impl_wrongMark.l0, if_pos (by omega), lineCounts_eq l (wid l) (by omega) (by omega) hs i (by omega) k (by omega)]
    simp only [Option.bind_some]
    rw [Int.tmod_eq_emod_of_nonneg hb.1, allFrom, oddFrom, w64 (x := (i : Int) + 1) (by omega), show (i : Int) + 1 = ((i + 1 : Nat) : Int) by omega]
    by_cases h : cnt 63 (lineOf l i) = 0
    · have hcl : cleanLine l i = true := by unfold cleanLine; rw [h]; rfl
      rw [if_neg (by omega), hcl, Bool.true_and]
      by_cases h2 : cnt 111 (lineOf l i) % 2 = 0
      · have he : evenLine l i = true := by unfold evenLine; rw [h2]; rfl
        rw [if_pos h2, if_pos he, ih k (i + 1) R C (by omega) (by omega) (by omega) (by omega)]
      · have he : ¬ evenLine l i = true := by unfold evenLine; simpa using h2
        rw [if_neg h2, if_neg he, if_neg (by omega), if_pos (by omega), w64 (by omega), ih k (i + 1) R _ (by omega) (by omega) (by omega) (by rw [List.length_append, List.length_singleton]; omega), List.map_cons, List.append_assoc]
        rfl
    · have hcl : cleanLine l i = false := by unfold cleanLine; simpa using h
      rw [if_pos (by omega), hcl, Bool.false_and, if_neg (by decide)]
theorem wrong_rows (l : List ByteArray) (hl : l.length ≤ 100) (hw : wid l ≤ 100) (hs : ∀ s ∈ l, s.size = wid l) (d : Nat) : ∀ (k i : Nat) (R : List Int), i + d = l.length → d + wid l + 4000 < k → R.length + d ≤ 1000 →
    impl_wrongMark.l0 k l R [] ((l.length + wid l : Nat) : Int) i = some (if allFrom (cleanLine l) i (d + wid l) then finI (R ++ oddFrom l i d) ((oddFrom l l.length (wid l)).map (fun x : Int => x - (l.length : Int))) else (0, 0, false)) := by
  induction d with
  | zero =>
    intro k i R hi hk hR
    have := wrong_cols l hl hw hs (wid l) k i R [] (by omega) (by omega) (by omega) (by simp; omega)
    rw [this, Nat.zero_add, oddFrom, List.append_nil, List.nil_append, show i = l.length by omega]
  | succ d ih =>
    intro k i R hi hk hR
    obtain ⟨k, rfl⟩ : ∃ j, k = j + 1 := ⟨k - 1, by omega⟩
    have hb := cnt_bounds 111 (lineOf l i)
    have hb' := cnt_bounds 63 (lineOf l i)
    rw [impl_wrongMark.l0, if_pos (by omega), lineCounts_eq l (wid l) (by omega) (by omega) hs i (by omega) k (by omega)]
    simp only [Option.bind_some]
    rw [Int.tmod_eq_emod_of_nonneg hb.1, show d + 1 + wid l = (d + wid l) + 1 by omega, allFrom, oddFrom, w64 (x := (i : Int) + 1) (by omega), show (i : Int) + 1 = ((i + 1 : Nat) : Int) by omega]
    by_cases h : cnt 63 (lineOf l i) = 0
    · have hcl : cleanLine l i = true := by unfold cleanLine; rw [h]; rfl
      rw [if_neg (by omega), hcl, Bool.true_and]
      by_cases h2 : cnt 111 (lineOf l i) % 2 = 0
      · have he : evenLine l i = true := by unfold evenLine; rw [h2]; rfl
        rw [if_pos h2, if_pos he, ih k (i + 1) R (by omega) (by omega) (by omega)]
      · have he : ¬ evenLine l i = true := by unfold evenLine; simpa using h2
        rw [if_neg h2, if_neg he, if_pos (by omega), if_pos (by omega), ih k (i + 1) _ (by omega) (by omega) (by rw [List.length_append, List.length_singleton]; omega), List.append_assoc]
        rfl
    · have hcl : cleanLine l i = false := by unfold cleanLine; simpa using h
      rw [if_pos (by omega), hcl, Bool.false_and, if_neg (by decide)]
theorem fin_eq (n : Nat) (R C : List Int) (hR : ∀ x ∈ R, 0 ≤ x ∧ x < n) (hC : ∀ x ∈ C, (n : Int) ≤ x) : finS n 0 (R ++ C) = finI R (C.map (fun x : Int => x - (n : Int))) := by
  unfold finS finI
  rw [if_neg (by decide)]
  match R, C with
  | [], [] => rfl
  | [], [a] => rfl
  | [], [a, b] =>
    have h1 := hC a (by simp)
    rw [List.nil_append, if_pos (by rfl), if_pos (show rd [a, b] 0 ≥ n from h1)]
    rfl
  | [], a :: b :: c :: r =>
    rw [if_neg (by simp; omega), if_neg (by simp)]
  | [a], [] => rfl
  | [a], [b] =>
    have h1 := hC b (by simp)
    have h2 := hR a (by simp)
    rw [show [a] ++ [b] = [a, b] from rfl, if_pos (by rfl), if_neg (show ¬ rd [a, b] 0 ≥ n from by show ¬ a ≥ (n : Int); omega), if_neg (show ¬ rd [a, b] 1 < n from by show ¬ b < (n : Int); omega)]
    rfl
  | [a], b :: c :: r =>
    rw [if_neg (by simp; omega), if_pos (by rfl), if_neg (by simp; omega)]
  | [a, b], [] =>
    have h1 := hR a (by simp)
    have h2 := hR b (by simp)
    rw [List.append_nil, if_pos (by rfl), if_neg (show ¬ rd [a, b] 0 ≥ n from by show ¬ a ≥ (n : Int); omega), if_pos (show rd [a, b] 1 < n from h2.2), if_neg (by simp)]
  | [a, b], c :: r =>
    rw [if_neg (by simp; omega), if_neg (by simp)]
  | a :: b :: c :: r, C =>
    rw [if_neg (by simp; omega), if_neg (by simp; omega)]
theorem wrongMark_eq (l : List ByteArray) (hl : l.length ≤ 1048576) (hs : ∀ s ∈ l, s.size ≤ 1048576) (k : Nat) (hk : fuelR l + fuelD 3 l + 6000 ≤ k) : ∃ r : Int × Int × Bool, spec_WrongMark.f k l = some r ∧ impl_WrongMark.f k l = some r := by
  unfold spec_WrongMark.f impl_WrongMark.f
  rw [deGood_eq l hl hs _ (by omega), isBlock_eq l hl hs _ (by omega)]
  simp only [Option.bind_some]
  by_cases hg : Grid chS 2 12 12 l = true
  · obtain ⟨g1, g2, g3, g4, g5⟩ := grid_facts hg
    have hw : ∀ s ∈ l, s.size = wid l := fun s h => (g5 s h).1
    have e1 := deError_loop l (by omega) (by omega) (by omega) hw (l.length + wid l) k 0 [] (by omega) (by omega) (by simp; omega) (by simp)
    have e2 := wrong_rows l (by omega) (by omega) hw l.length k 0 [] (by omega) (by omega) (by simp; omega)
    rw [List.nil_append] at e1 e2
    have hz := clean_lines l hw
    have he := (erased_bounds l 12 (fun s h => by rw [hw s h]; exact g4)).1
    have key : finS l.length (erasedOf l) (oddFrom l 0 (l.length + wid l)) = if allFrom (cleanLine l) 0 (l.length + wid l) then finI (oddFrom l 0 l.length) ((oddFrom l l.length (wid l)).map (fun x : Int => x - (l.length : Int))) else (0, 0, false) := by
      by_cases h : erasedOf l = 0
      · rw [if_pos (hz.1 h), h, odd_add, Nat.zero_add]
        exact fin_eq l.length _ _ (fun x hx => by have := odd_mem l l.length 0 x hx; omega) (fun x hx => (odd_mem l (wid l) l.length x hx).1)
      · rw [if_neg (fun h' => h (hz.2 h'))]
        unfold finS
        rw [if_pos (by omega)]
    rw [← key] at e2
    unfold spec_deError.f impl_wrongMark.f
    rw [if_pos hg, if_pos hg, if_pos (by omega), show rdOf ByteArray.empty l 0 = l[0] from rdB_get l 0 (by omega), ← wid_get l (by omega), w64 (by omega)]
    refine ⟨finS l.length (erasedOf l) (oddFrom l 0 (l.length + wid l)), ?_, ?_⟩
    · rw [show (0 : Int) = ((0 : Nat) : Int) from rfl, e1]; rfl
    · rw [show (l.length : Int) + (wid l : Int) = ((l.length + wid l : Nat) : Int) by omega, show (0 : Int) = ((0 : Nat) : Int) from rfl, e2]; rfl
  · rw [if_neg hg, if_neg hg]
    exact ⟨_, rfl, rfl⟩

theorem FnExactWrongMark (l : List ByteArray) (hl : l.length ≤ maxLen) (hs : ∀ s ∈ l, s.size ≤ maxLen) : ∃ k, laws_FnExactWrongMark.f k l = some true := by
  obtain ⟨r, hr, hb⟩ := szStrings_eq l hl hs 1048576 (by omega)
  refine ⟨l.length + fuelR l + fuelD 3 l + 6000 + 1, ?_⟩
  unfold laws_FnExactWrongMark.f
  rw [hr _ (by omega)]
  simp only [Option.bind_some]
  by_cases h : r < 0
  · rw [if_pos h]
  · obtain ⟨_, b1, b2⟩ := hb (by omega)
    obtain ⟨q, e1, e2⟩ := wrongMark_eq l b1 b2 (l.length + fuelR l + fuelD 3 l + 6000 + 1) (by omega)
    rw [if_neg h, toStrings_eq l b1 _ (by omega)]
    simp only [Option.bind_some]
    rw [e1, e2]
    simp only [Option.bind_some, bne_self_eq_false, if_true]
    rw [laws_FnExactWrongMark.j0, if_neg (by simp), toStrings_eq l b1 _ (by omega)]
    simp only [Option.bind_some]
    rw [eqStrings_self l b1 _ (by omega)]
    simp
end Go.Proofs.Ytlikohjiiakhkaa.Pure
