/- FnExactToolChanges: the program's ToolChanges answers as the reference's, for all slices of strokes and numbers. No condition. -/
import Derived.Test.YtpgapdhmbgdfjaaPFnExactToolChangesx3
namespace Go.Proofs.Ytpgapdhmbgdfjaa.Pure
open Go.RowKit Go.Proofs.Ytpgapdhmbgdfjaa.PFnExactToolChanges Go.Proofs.YtpgapdhmbgdfjaaW.PrintWords Go.Proofs.YtpgapdhmbgdfjaaW.PrintLast

set_option linter.unusedVariables false
set_option linter.unusedSimpArgs false

theorem w64 {x : Int} (h : -9223372036854775808 ≤ x ∧ x ≤ 9223372036854775807) : wrap64 x = x := by
  unfold wrap64; omega
theorem someF {p : Prop} [Decidable p] (h : ¬ p) : some false = some (decide p) := by rw [decide_eq_false h]
theorem someD {q p : Prop} [Decidable q] [Decidable p] (h : q ↔ p) : some (decide q) = some (decide p) := by rw [decide_eq_decide.2 h]

theorem in_eq (a b c : Int) : spec_l1In.f a b c = some (decide (b ≤ a ∧ a ≤ c)) := by
  unfold spec_l1In.f
  by_cases h : a ≥ b
  · rw [if_pos h]; congr 1; simp [show b ≤ a from h]
  · rw [if_neg h]; congr 1; simp; omega

theorem rdS_get (l : List S64) (i : Nat) (h : i < l.length) : rd_T64 l (i : Int) = l[i] := by
  unfold rd_T64; rw [Int.toNat_natCast, List.getD_eq_getElem?_getD, List.getElem?_eq_getElem h]; rfl
theorem rdL_get (l : List S66) (i : Nat) (h : i < l.length) : rd_T66 l (i : Int) = l[i] := by
  unfold rd_T66; rw [Int.toNat_natCast, List.getD_eq_getElem?_getD, List.getElem?_eq_getElem h]; rfl
def toS (x : S66) : S64 := ⟨x.f0, x.f1⟩
theorem drop_get {α : Type} (l : List α) (i : Nat) (h : i < l.length) : l.drop i = l[i] :: l.drop (i + 1) := List.drop_eq_getElem_cons h
theorem map_step {α β : Type} (f : α → β) (l : List α) (z : β) (i : Nat) (h : i < l.length) :
    ((l.take i).map f ++ List.replicate (l.length - i) z).set i (f (l[i]'h)) = (l.take (i + 1)).map f ++ List.replicate (l.length - (i + 1)) z := by
  have hl : ((l.take i).map f).length = i := by rw [List.length_map, List.length_take]; omega
  rw [List.set_append_right _ _ (by omega), hl, Nat.sub_self, show l.length - i = (l.length - (i + 1)) + 1 by omega, List.replicate_succ, List.set_cons_zero, List.take_succ_eq_append_getElem h, List.map_append, List.append_assoc]
  rfl
theorem map_length {α β : Type} (f : α → β) (l : List α) (z : β) (i : Nat) (h : i ≤ l.length) : ((l.take i).map f ++ List.replicate (l.length - i) z).length = l.length := by
  simp; omega
theorem toStrokes_loop (l : List S66) (hl : l.length ≤ 1048576) (d : Nat) : ∀ (k i : Nat), i + d = l.length → d < k →
    laws_toStrokeS.l0 k l ((l.take i).map toS ++ List.replicate (l.length - i) z64) i = some (l.map toS) := by
  induction d with
  | zero =>
    intro k i hi hk
    obtain ⟨k, rfl⟩ : ∃ j, k = j + 1 := ⟨k - 1, by omega⟩
    rw [laws_toStrokeS.l0, if_neg (by omega), show l.length - i = 0 by omega, List.replicate_zero, List.append_nil, List.take_of_length_le (by omega)]
  | succ d ih =>
    intro k i hi hk
    obtain ⟨k, rfl⟩ : ∃ j, k = j + 1 := ⟨k - 1, by omega⟩
    rw [laws_toStrokeS.l0, if_pos (by omega), if_pos (by omega), rdL_get l i (by omega)]
    unfold laws_toStroke.f
    simp only [Option.bind_some]
    rw [map_length _ _ _ _ (by omega), if_pos (by omega), Int.toNat_natCast]
    have := map_step toS l z64 i (by omega)
    unfold toS at this ⊢
    rw [this, w64 (by omega)]
    exact ih k (i + 1) (by omega) (by omega)
theorem toStrokes_eq (l : List S66) (hl : l.length ≤ 1048576) (k : Nat) (hk : l.length < k) : laws_toStrokeS.f k l = some (l.map toS) := by
  unfold laws_toStrokeS.f
  rw [if_pos (by omega), if_pos (by omega), Int.toNat_natCast]
  have := toStrokes_loop l hl l.length k 0 (by omega) hk
  simpa using this
theorem eqStrokes_loop (l : List S64) (hl : l.length ≤ 1048576) (d : Nat) : ∀ (k i : Nat), i + d = l.length → d < k → laws_eqStrokeS.l0 k l l i = some true := by
  induction d with
  | zero =>
    intro k i hi hk
    obtain ⟨k, rfl⟩ : ∃ j, k = j + 1 := ⟨k - 1, by omega⟩
    rw [laws_eqStrokeS.l0, if_neg (by omega)]
  | succ d ih =>
    intro k i hi hk
    obtain ⟨k, rfl⟩ : ∃ j, k = j + 1 := ⟨k - 1, by omega⟩
    rw [laws_eqStrokeS.l0, if_pos (by omega), if_pos (by omega), if_pos (by omega)]
    unfold laws_eqStroke.f
    rw [if_pos rfl, if_pos rfl]
    simp only [Option.bind_some, if_true]
    rw [w64 (by omega)]
    exact ih k (i + 1) (by omega) (by omega)
theorem eqStrokes_self (l : List S64) (hl : l.length ≤ 1048576) (k : Nat) (hk : l.length < k) : laws_eqStrokeS.f k l l = some true := by
  unfold laws_eqStrokeS.f
  rw [if_pos rfl]
  exact eqStrokes_loop l hl l.length k 0 (by omega) hk
theorem szStrokes_eq (l : List S66) (hl : l.length ≤ maxLen) : laws_szStrokeS.f l 1048576 = some (if l.length ≤ 1048576 then 1048576 - (l.length : Int) else -1) := by
  unfold maxLen at hl
  unfold laws_szStrokeS.f
  rw [w64 (by omega)]
  split <;> split <;> first | rfl | omega

def StrokeOK (x : S64) : Prop := 0 ≤ x.f0 ∧ x.f0 ≤ 19 ∧ 0 ≤ x.f1 ∧ x.f1 ≤ 1999
instance (x : S64) : Decidable (StrokeOK x) := by unfold StrokeOK; infer_instance
def StrokesOK (l : List S64) : Prop := (∀ x ∈ l, StrokeOK x) ∧ l.length ≤ 200
instance (l : List S64) : Decidable (StrokesOK l) := by unfold StrokesOK; infer_instance
theorem puStroke_eq (a b : Int) : spec_puStroke.f a b = some (decide (StrokeOK ⟨a, b⟩)) := by
  unfold spec_puStroke.f spec_shStep.f
  simp only [in_eq, Option.bind_some, decide_eq_true_eq]
  split
  · exact someD (by unfold StrokeOK; simp only []; omega)
  · exact someF (by unfold StrokeOK; simp only []; omega)
theorem puGood_loop (l : List S64) (hl : l.length ≤ 1048576) (d : Nat) : ∀ (k i : Nat), i + d = l.length → d < k →
    spec_puGood.l0 k l l l.length i = some (decide ((∀ x ∈ l.drop i, StrokeOK x) ∧ l.length ≤ 200)) := by
  induction d with
  | zero =>
    intro k i hi hk
    obtain ⟨k, rfl⟩ : ∃ j, k = j + 1 := ⟨k - 1, by omega⟩
    rw [spec_puGood.l0, if_neg (by omega), List.drop_of_length_le (by omega)]
    exact someD (by simp; omega)
  | succ d ih =>
    intro k i hi hk
    obtain ⟨k, rfl⟩ : ∃ j, k = j + 1 := ⟨k - 1, by omega⟩
    rw [spec_puGood.l0, if_pos (by omega), if_pos (by omega), if_pos (by omega), rdS_get l i (by omega), puStroke_eq, w64 (by omega), drop_get l i (by omega)]
    simp only [Option.bind_some, decide_eq_true_eq]
    split
    · rename_i h
      rw [show ((i : Int) + 1) = ((i + 1 : Nat) : Int) by omega, ih k (i + 1) (by omega) (by omega)]
      exact someD (by rw [List.forall_mem_cons]; exact ⟨fun h' => ⟨⟨h, h'.1⟩, h'.2⟩, fun h' => ⟨h'.1.2, h'.2⟩⟩)
    · rename_i h
      exact someF (by rw [List.forall_mem_cons]; exact fun h' => h h'.1.1)
theorem puGood_eq (l : List S64) (hl : l.length ≤ 1048576) (k : Nat) (hk : l.length < k) : spec_puGood.f k l = some (decide (StrokesOK l)) := by
  unfold spec_puGood.f StrokesOK
  have := puGood_loop l hl l.length k 0 (by omega) hk
  rw [List.drop_zero] at this
  exact this

theorem areStrokes_loop (l : List S64) (hl : l.length ≤ 1048576) (d : Nat) : ∀ (k i : Nat), i + d = l.length → d < k →
    impl_AreStrokes.l0 k l l l.length i = some (decide ((∀ x ∈ l.drop i, StrokeOK x) ∧ l.length ≤ 200)) := by
  induction d with
  | zero =>
    intro k i hi hk
    obtain ⟨k, rfl⟩ : ∃ j, k = j + 1 := ⟨k - 1, by omega⟩
    rw [impl_AreStrokes.l0, if_neg (by omega), List.drop_of_length_le (by omega)]
    exact someD (by simp; omega)
  | succ d ih =>
    intro k i hi hk
    obtain ⟨k, rfl⟩ : ∃ j, k = j + 1 := ⟨k - 1, by omega⟩
    have ht : impl_isTrack.f l[i].f0 = some (decide (0 ≤ l[i].f0 ∧ l[i].f0 ≤ 19)) := by
      unfold impl_isTrack.f
      split
      · exact someD (by omega)
      · exact someF (by omega)
    rw [impl_AreStrokes.l0, if_pos (by omega), if_pos (by omega), if_pos (by omega), rdS_get l i (by omega), ht, w64 (by omega), drop_get l i (by omega)]
    simp only [Option.bind_some, decide_eq_true_eq]
    by_cases h : StrokeOK l[i]
    · have h' := h
      unfold StrokeOK at h'
      rw [if_pos (by omega), if_neg (by omega), if_neg (by omega), show ((i : Int) + 1) = ((i + 1 : Nat) : Int) by omega, ih k (i + 1) (by omega) (by omega)]
      exact someD (by rw [List.forall_mem_cons]; exact ⟨fun h' => ⟨⟨h, h'.1⟩, h'.2⟩, fun h' => ⟨h'.1.2, h'.2⟩⟩)
    · have h' := h
      unfold StrokeOK at h'
      have hF : ∀ (p : Prop) [Decidable p], ¬ (p) → some false = some (decide p) := fun p _ hp => someF hp
      have hn : ¬ ((∀ x ∈ l[i] :: l.drop (i + 1), StrokeOK x) ∧ l.length ≤ 200) := by rw [List.forall_mem_cons]; exact fun h' => h h'.1.1
      split
      · split
        · exact someF hn
        · split
          · exact someF hn
          · omega
      · exact someF hn
theorem areStrokes_eq (l : List S64) (hl : l.length ≤ 1048576) (k : Nat) (hk : l.length < k) : impl_AreStrokes.f k l = some (decide (StrokesOK l)) := by
  unfold impl_AreStrokes.f StrokesOK
  have := areStrokes_loop l hl l.length k 0 (by omega) hk
  rw [List.drop_zero] at this
  exact this

/-- how often the tool changes from a stroke to the next -/
def changes (m : Int) : List S64 → Int
  | a :: b :: r => (if Int.tmod b.f0 m = Int.tmod a.f0 m then 0 else 1) + changes m (b :: r)
  | _ => 0
theorem changes_bounds (m : Int) (l : List S64) : 0 ≤ changes m l ∧ changes m l ≤ l.length := by
  induction l with
  | nil => simp [changes]
  | cons a r ih =>
    cases r with
    | nil => simp [changes]
    | cons b r =>
      rw [changes]
      simp only [List.length_cons] at ih ⊢
      split <;> omega

theorem specChanges_loop (l : List S64) (hl : l.length ≤ 1048576) (m : Int) (hm : m ≠ 0) (d : Nat) : ∀ (k i : Nat) (n : Int), i + d = l.length → d < k → 1 ≤ i → 0 ≤ n ∧ n ≤ i →
    spec_ToolChanges.l0 k l m n i = some (n + changes m (l.drop (i - 1)), true) := by
  induction d with
  | zero =>
    intro k i n hi hk h1 hn
    obtain ⟨k, rfl⟩ : ∃ j, k = j + 1 := ⟨k - 1, by omega⟩
    rw [spec_ToolChanges.l0, if_neg (by omega), drop_get l (i - 1) (by omega), List.drop_of_length_le (by omega)]
    simp [changes]
  | succ d ih =>
    intro k i n hi hk h1 hn
    obtain ⟨k, rfl⟩ : ∃ j, k = j + 1 := ⟨k - 1, by omega⟩
    obtain ⟨j, rfl⟩ : ∃ j, i = j + 1 := ⟨i - 1, by omega⟩
    have e1 : wrap64 (((j + 1 : Nat) : Int) - 1) = (j : Int) := by rw [w64 (by omega)]; omega
    have e2 : wrap64 (((j + 1 : Nat) : Int) + 1) = ((j + 1 + 1 : Nat) : Int) := by rw [w64 (by omega)]; omega
    rw [spec_ToolChanges.l0, if_pos (by omega), if_pos (by omega), if_neg hm, e1, e2, if_pos (by omega), if_pos (by omega), rdS_get l (j + 1) (by omega), rdS_get l j (by omega), Nat.add_sub_cancel, drop_get l j (by omega), drop_get l (j + 1) (by omega), changes, ← drop_get l (j + 1) (by omega)]
    split
    · rw [ih k (j + 1 + 1) n (by omega) (by omega) (by omega) (by omega), Nat.add_sub_cancel]; simp
    · rw [w64 (by omega), ih k (j + 1 + 1) (n + 1) (by omega) (by omega) (by omega) (by omega), Nat.add_sub_cancel]; simp; omega
theorem specChanges_eq (l : List S64) (hl : l.length ≤ 1048576) (m : Int) (hm : m ≠ 0) (k : Nat) (hk : l.length + 1 < k) : spec_ToolChanges.l0 k l m 0 1 = some (changes m l, true) := by
  by_cases h : l.length = 0
  · obtain ⟨k, rfl⟩ : ∃ j, k = j + 1 := ⟨k - 1, by omega⟩
    rw [spec_ToolChanges.l0, if_neg (by omega), List.length_eq_zero_iff.1 h]; rfl
  · have := specChanges_loop l hl m hm (l.length - 1) k 1 0 (by omega) (by omega) (by omega) (by omega)
    simpa using this
theorem specToolChanges_eq (l : List S64) (hl : l.length ≤ 1048576) (m : Int) (k : Nat) (hk : l.length + 3 < k) : spec_ToolChanges.f k l m = some (if StrokesOK l ∧ 1 ≤ m ∧ m ≤ 5 then (changes m l, true) else (0, false)) := by
  obtain ⟨k, rfl⟩ : ∃ j, k = j + 1 := ⟨k - 1, by omega⟩
  unfold spec_ToolChanges.f spec_puTools.f
  rw [puGood_eq l hl _ (by omega)]
  simp only [Option.bind_some, decide_eq_true_eq, in_eq, spec_ToolChanges.j0]
  by_cases h : StrokesOK l
  · by_cases hm : 1 ≤ m ∧ m ≤ 5
    · rw [if_pos h, if_neg (by simp [hm]), if_pos ⟨h, hm⟩, specChanges_eq l hl m (by omega) k (by omega)]
    · rw [if_pos h, if_pos (by simp; omega), if_neg (fun h => hm h.2)]
  · rw [if_neg h, if_pos trivial, if_neg (fun h' => h h'.1)]

theorem implChanges_loop (l : List S64) (hl : l.length ≤ 1048576) (m : Int) (hm : m ≠ 0) (d : Nat) : ∀ (k i : Nat) (n : Int), i + d = l.length → d < k → 1 ≤ i → 0 ≤ n ∧ n ≤ i →
    impl_ToolChanges.l0 k l m n i = some (n + changes m (l.drop (i - 1)), true) := by
  induction d with
  | zero =>
    intro k i n hi hk h1 hn
    obtain ⟨k, rfl⟩ : ∃ j, k = j + 1 := ⟨k - 1, by omega⟩
    rw [impl_ToolChanges.l0, if_neg (by omega), drop_get l (i - 1) (by omega), List.drop_of_length_le (by omega)]
    simp [changes]
  | succ d ih =>
    intro k i n hi hk h1 hn
    obtain ⟨k, rfl⟩ : ∃ j, k = j + 1 := ⟨k - 1, by omega⟩
    obtain ⟨j, rfl⟩ : ∃ j, i = j + 1 := ⟨i - 1, by omega⟩
    have e1 : wrap64 (((j + 1 : Nat) : Int) - 1) = (j : Int) := by rw [w64 (by omega)]; omega
    have e2 : wrap64 (((j + 1 : Nat) : Int) + 1) = ((j + 1 + 1 : Nat) : Int) := by rw [w64 (by omega)]; omega
    rw [impl_ToolChanges.l0, if_pos (by omega), if_pos (by omega), if_neg hm, e1, e2, if_pos (by omega), if_pos (by omega), rdS_get l (j + 1) (by omega), rdS_get l j (by omega), Nat.add_sub_cancel, drop_get l j (by omega), drop_get l (j + 1) (by omega), changes, ← drop_get l (j + 1) (by omega)]
    split
    · rw [ih k (j + 1 + 1) n (by omega) (by omega) (by omega) (by omega), Nat.add_sub_cancel]; simp
    · rw [w64 (by omega), ih k (j + 1 + 1) (n + 1) (by omega) (by omega) (by omega) (by omega), Nat.add_sub_cancel]; simp; omega
theorem implChanges_eq (l : List S64) (hl : l.length ≤ 1048576) (m : Int) (hm : m ≠ 0) (k : Nat) (hk : l.length + 1 < k) : impl_ToolChanges.l0 k l m 0 1 = some (changes m l, true) := by
  by_cases h : l.length = 0
  · obtain ⟨k, rfl⟩ : ∃ j, k = j + 1 := ⟨k - 1, by omega⟩
    rw [impl_ToolChanges.l0, if_neg (by omega), List.length_eq_zero_iff.1 h]; rfl
  · have := implChanges_loop l hl m hm (l.length - 1) k 1 0 (by omega) (by omega) (by omega) (by omega)
    simpa using this
theorem implToolChanges_eq (l : List S64) (hl : l.length ≤ 1048576) (m : Int) (k : Nat) (hk : l.length + 3 < k) : impl_ToolChanges.f k l m = some (if StrokesOK l ∧ 1 ≤ m ∧ m ≤ 5 then (changes m l, true) else (0, false)) := by
  obtain ⟨k, rfl⟩ : ∃ j, k = j + 1 := ⟨k - 1, by omega⟩
  have ht : impl_isTools.f m = some (decide (1 ≤ m ∧ m ≤ 5)) := by
    unfold impl_isTools.f
    split
    · exact someD (by omega)
    · exact someF (by omega)
  unfold impl_ToolChanges.f
  rw [areStrokes_eq l hl _ (by omega), ht]
  simp only [Option.bind_some, decide_eq_true_eq, impl_ToolChanges.j0]
  by_cases h : StrokesOK l
  · by_cases hm : 1 ≤ m ∧ m ≤ 5
    · rw [if_pos h, if_neg (by simp [hm]), if_pos ⟨h, hm⟩, implChanges_eq l hl m (by omega) k (by omega)]
    · rw [if_pos h, if_pos (by simp; omega), if_neg (fun h => hm h.2)]
  · rw [if_neg h, if_pos trivial, if_neg (fun h' => h h'.1)]

theorem FnExactToolChanges (l : List S66) (m : Int) (hl : l.length ≤ maxLen) (_ : ∀ x ∈ l, (Lit.int .i64 x.f0).wf = true ∧ (Lit.int .i64 x.f1).wf = true) (_ : (Lit.int .i64 m).wf = true) :
    ∃ k, laws_FnExactToolChanges.f k l m = some true := by
  refine ⟨1048800, ?_⟩
  unfold laws_FnExactToolChanges.f
  rw [szStrokes_eq l hl]
  simp only [Option.bind_some]
  by_cases h : l.length ≤ 1048576
  · have h' : (l.map toS).length ≤ 1048576 := by simpa using h
    rw [if_pos h, if_neg (by omega), toStrokes_eq l h _ (by omega)]
    simp only [Option.bind_some]
    rw [specToolChanges_eq _ h' _ _ (by omega)]
    simp only [Option.bind_some]
    rw [implToolChanges_eq _ h' _ _ (by omega)]
    simp only [Option.bind_some, bne_self_eq_false, if_true]
    rw [show (1048800 : Nat) = 1048799 + 1 from rfl, laws_FnExactToolChanges.j0, if_neg (by simp), toStrokes_eq l h _ (by omega)]
    simp only [Option.bind_some]
    rw [eqStrokes_self _ h' _ (by omega)]
    simp
  · rw [if_neg h, if_pos (by omega)]
end Go.Proofs.Ytpgapdhmbgdfjaa.Pure
