/- FnExactWearOf: the program's WearOf answers as the reference's, in memory of its own, for all slices of strokes and numbers. No condition. -/
import Derived.Test.YtpgapdhmbgdfjaaPFnExactWearOfx4
namespace Go.Proofs.Ytpgapdhmbgdfjaa.Pure
open Go.RowKit Go.Proofs.Ytpgapdhmbgdfjaa.PFnExactWearOf Go.Proofs.YtpgapdhmbgdfjaaW.PrintWords Go.Proofs.YtpgapdhmbgdfjaaW.PrintLast

set_option linter.unusedVariables false
set_option linter.unusedSimpArgs false

theorem w64 {x : Int} (h : -9223372036854775808 ≤ x ∧ x ≤ 9223372036854775807) : wrap64 x = x := by
  unfold wrap64; omega
theorem someF {p : Prop} [Decidable p] (h : ¬ p) : some false = some (decide p) := by rw [decide_eq_false h]
theorem someD {q p : Prop} [Decidable q] [Decidable p] (h : q ↔ p) : some (decide q) = some (decide p) := by rw [decide_eq_decide.2 h]

theorem in_eq (a b c : Int) : spec_l1In.f a b c = some (decide (b ≤ a ∧ a ≤ c)) := by
  unfold spec_l1In.f
  by_cases h : a ≥ b
  · rw [if_pos h]; congr 1; simp [show b ≤ a from h]
  · rw [if_neg h]; congr 1; simp; omega

theorem rd_get (l : List Int) (i : Nat) (h : i < l.length) : rd l (i : Int) = l[i] := by
  unfold rd; rw [Int.toNat_natCast, List.getD_eq_getElem?_getD, List.getElem?_eq_getElem h]; rfl

theorem rdS_get (l : List S64) (i : Nat) (h : i < l.length) : rd_T64 l (i : Int) = l[i] := by
  unfold rd_T64; rw [Int.toNat_natCast, List.getD_eq_getElem?_getD, List.getElem?_eq_getElem h]; rfl
theorem rdL_get (l : List S66) (i : Nat) (h : i < l.length) : rd_T66 l (i : Int) = l[i] := by
  unfold rd_T66; rw [Int.toNat_natCast, List.getD_eq_getElem?_getD, List.getElem?_eq_getElem h]; rfl
def toS (x : S66) : S64 := ⟨x.f0, x.f1⟩
theorem drop_get {α : Type} (l : List α) (i : Nat) (h : i < l.length) : l.drop i = l[i] :: l.drop (i + 1) := List.drop_eq_getElem_cons h
theorem map_step {α β : Type} (f : α → β) (l : List α) (z : β) (i : Nat) (h : i < l.length) :
    ((l.take i).map f ++ List.replicate (l.length - i) z).set i (f (l[i]'h)) = (l.take (i + 1)).map f ++ List.replicate (l.length - (i + 1)) z := by
  have hl : ((l.take i).map f).length = i := by rw [List.length_map, List.length_take]; omega
  rw [List.set_append_right _ _ (by omega), hl, Nat.sub_self, show l.length - i = (l.length - (i + 1)) + 1 by omega, List.replicate_succ, List.set_cons_zero, List.take_succ_eq_append_getElem h, List.map_append, List.append_assoc]
  rfl
theorem map_length {α β : Type} (f : α → β) (l : List α) (z : β) (i : Nat) (h : i ≤ l.length) : ((l.take i).map f ++ List.replicate (l.length - i) z).length = l.length := by
  simp; omega
theorem toStrokes_loop (l : List S66) (hl : l.length ≤ 1048576) (d : Nat) : ∀ (k i : Nat), i + d = l.length → d < k →
    laws_toStrokeS.l0 k l ((l.take i).map toS ++ List.replicate (l.length - i) z64) i = some (l.map toS) := by
  induction d with
  | zero =>
    intro k i hi hk
    obtain ⟨k, rfl⟩ : ∃ j, k = j + 1 := ⟨k - 1, by omega⟩
    rw [laws_toStrokeS.l0, if_neg (by omega), show l.length - i = 0 by omega, List.replicate_zero, List.append_nil, List.take_of_length_le (by omega)]
  | succ d ih =>
    intro k i hi hk
    obtain ⟨k, rfl⟩ : ∃ j, k = j + 1 := ⟨k - 1, by omega⟩
    rw [laws_toStrokeS.l0, if_pos (by omega), if_pos (by omega), rdL_get l i (by omega)]
    unfold laws_toStroke.f
    simp only [Option.bind_some]
    rw [map_length _ _ _ _ (by omega), if_pos (by omega), Int.toNat_natCast]
    have := map_step toS l z64 i (by omega)
    unfold toS at this ⊢
    rw [this, w64 (by omega)]
    exact ih k (i + 1) (by omega) (by omega)
theorem toStrokes_eq (l : List S66) (hl : l.length ≤ 1048576) (k : Nat) (hk : l.length < k) : laws_toStrokeS.f k l = some (l.map toS) := by
  unfold laws_toStrokeS.f
  rw [if_pos (by omega), if_pos (by omega), Int.toNat_natCast]
  have := toStrokes_loop l hl l.length k 0 (by omega) hk
  simpa using this
theorem eqStrokes_loop (l : List S64) (hl : l.length ≤ 1048576) (d : Nat) : ∀ (k i : Nat), i + d = l.length → d < k → laws_eqStrokeS.l0 k l l i = some true := by
  induction d with
  | zero =>
    intro k i hi hk
    obtain ⟨k, rfl⟩ : ∃ j, k = j + 1 := ⟨k - 1, by omega⟩
    rw [laws_eqStrokeS.l0, if_neg (by omega)]
  | succ d ih =>
    intro k i hi hk
    obtain ⟨k, rfl⟩ : ∃ j, k = j + 1 := ⟨k - 1, by omega⟩
    rw [laws_eqStrokeS.l0, if_pos (by omega), if_pos (by omega), if_pos (by omega)]
    unfold laws_eqStroke.f
    rw [if_pos rfl, if_pos rfl]
    simp only [Option.bind_some, if_true]
    rw [w64 (by omega)]
    exact ih k (i + 1) (by omega) (by omega)
theorem eqStrokes_self (l : List S64) (hl : l.length ≤ 1048576) (k : Nat) (hk : l.length < k) : laws_eqStrokeS.f k l l = some true := by
  unfold laws_eqStrokeS.f
  rw [if_pos rfl]
  exact eqStrokes_loop l hl l.length k 0 (by omega) hk
theorem szStrokes_eq (l : List S66) (hl : l.length ≤ maxLen) : laws_szStrokeS.f l 1048576 = some (if l.length ≤ 1048576 then 1048576 - (l.length : Int) else -1) := by
  unfold maxLen at hl
  unfold laws_szStrokeS.f
  rw [w64 (by omega)]
  split <;> split <;> first | rfl | omega

def StrokeOK (x : S64) : Prop := 0 ≤ x.f0 ∧ x.f0 ≤ 19 ∧ 0 ≤ x.f1 ∧ x.f1 ≤ 1999
instance (x : S64) : Decidable (StrokeOK x) := by unfold StrokeOK; infer_instance
def StrokesOK (l : List S64) : Prop := (∀ x ∈ l, StrokeOK x) ∧ l.length ≤ 200
instance (l : List S64) : Decidable (StrokesOK l) := by unfold StrokesOK; infer_instance
theorem puStroke_eq (a b : Int) : spec_puStroke.f a b = some (decide (StrokeOK ⟨a, b⟩)) := by
  unfold spec_puStroke.f spec_shStep.f
  simp only [in_eq, Option.bind_some, decide_eq_true_eq]
  split
  · exact someD (by unfold StrokeOK; simp only []; omega)
  · exact someF (by unfold StrokeOK; simp only []; omega)
theorem puGood_loop (l : List S64) (hl : l.length ≤ 1048576) (d : Nat) : ∀ (k i : Nat), i + d = l.length → d < k →
    spec_puGood.l0 k l l l.length i = some (decide ((∀ x ∈ l.drop i, StrokeOK x) ∧ l.length ≤ 200)) := by
  induction d with
  | zero =>
    intro k i hi hk
    obtain ⟨k, rfl⟩ : ∃ j, k = j + 1 := ⟨k - 1, by omega⟩
    rw [spec_puGood.l0, if_neg (by omega), List.drop_of_length_le (by omega)]
    exact someD (by simp; omega)
  | succ d ih =>
    intro k i hi hk
    obtain ⟨k, rfl⟩ : ∃ j, k = j + 1 := ⟨k - 1, by omega⟩
    rw [spec_puGood.l0, if_pos (by omega), if_pos (by omega), if_pos (by omega), rdS_get l i (by omega), puStroke_eq, w64 (by omega), drop_get l i (by omega)]
    simp only [Option.bind_some, decide_eq_true_eq]
    split
    · rename_i h
      rw [show ((i : Int) + 1) = ((i + 1 : Nat) : Int) by omega, ih k (i + 1) (by omega) (by omega)]
      exact someD (by rw [List.forall_mem_cons]; exact ⟨fun h' => ⟨⟨h, h'.1⟩, h'.2⟩, fun h' => ⟨h'.1.2, h'.2⟩⟩)
    · rename_i h
      exact someF (by rw [List.forall_mem_cons]; exact fun h' => h h'.1.1)
theorem puGood_eq (l : List S64) (hl : l.length ≤ 1048576) (k : Nat) (hk : l.length < k) : spec_puGood.f k l = some (decide (StrokesOK l)) := by
  unfold spec_puGood.f StrokesOK
  have := puGood_loop l hl l.length k 0 (by omega) hk
  rw [List.drop_zero] at this
  exact this

theorem areStrokes_loop (l : List S64) (hl : l.length ≤ 1048576) (d : Nat) : ∀ (k i : Nat), i + d = l.length → d < k →
    impl_AreStrokes.l0 k l l l.length i = some (decide ((∀ x ∈ l.drop i, StrokeOK x) ∧ l.length ≤ 200)) := by
  induction d with
  | zero =>
    intro k i hi hk
    obtain ⟨k, rfl⟩ : ∃ j, k = j + 1 := ⟨k - 1, by omega⟩
    rw [impl_AreStrokes.l0, if_neg (by omega), List.drop_of_length_le (by omega)]
    exact someD (by simp; omega)
  | succ d ih =>
    intro k i hi hk
    obtain ⟨k, rfl⟩ : ∃ j, k = j + 1 := ⟨k - 1, by omega⟩
    have ht : impl_isTrack.f l[i].f0 = some (decide (0 ≤ l[i].f0 ∧ l[i].f0 ≤ 19)) := by
      unfold impl_isTrack.f
      split
      · exact someD (by omega)
      · exact someF (by omega)
    rw [impl_AreStrokes.l0, if_pos (by omega), if_pos (by omega), if_pos (by omega), rdS_get l i (by omega), ht, w64 (by omega), drop_get l i (by omega)]
    simp only [Option.bind_some, decide_eq_true_eq]
    by_cases h : StrokeOK l[i]
    · have h' := h
      unfold StrokeOK at h'
      rw [if_pos (by omega), if_neg (by omega), if_neg (by omega), show ((i : Int) + 1) = ((i + 1 : Nat) : Int) by omega, ih k (i + 1) (by omega) (by omega)]
      exact someD (by rw [List.forall_mem_cons]; exact ⟨fun h' => ⟨⟨h, h'.1⟩, h'.2⟩, fun h' => ⟨h'.1.2, h'.2⟩⟩)
    · have h' := h
      unfold StrokeOK at h'
      have hF : ∀ (p : Prop) [Decidable p], ¬ (p) → some false = some (decide p) := fun p _ hp => someF hp
      have hn : ¬ ((∀ x ∈ l[i] :: l.drop (i + 1), StrokeOK x) ∧ l.length ≤ 200) := by rw [List.forall_mem_cons]; exact fun h' => h h'.1.1
      split
      · split
        · exact someF hn
        · split
          · exact someF hn
          · omega
      · exact someF hn
theorem areStrokes_eq (l : List S64) (hl : l.length ≤ 1048576) (k : Nat) (hk : l.length < k) : impl_AreStrokes.f k l = some (decide (StrokesOK l)) := by
  unfold impl_AreStrokes.f StrokesOK
  have := areStrokes_loop l hl l.length k 0 (by omega) hk
  rw [List.drop_zero] at this
  exact this

/-- how often each tool is used -/
def wearStep (m : Int) (out : List Int) (x : S64) : List Int := out.set (Int.tmod x.f0 m).toNat (rd out (Int.tmod x.f0 m) + 1)
def wear (m : Int) (l : List S64) : List Int := l.foldl (wearStep m) (List.replicate m.toNat 0)
theorem rd_bound {out : List Int} {n : Int} (hn : 0 ≤ n) (h : ∀ x ∈ out, 0 ≤ x ∧ x ≤ n) (i : Int) : 0 ≤ rd out i ∧ rd out i ≤ n := by
  unfold rd
  rw [List.getD_eq_getElem?_getD]
  cases he : out[i.toNat]? with
  | none => simp; omega
  | some v => exact h v (List.mem_of_getElem? he)
theorem wearStep_bound {m : Int} {out : List Int} {n : Int} (hn : 0 ≤ n) (h : ∀ x ∈ out, 0 ≤ x ∧ x ≤ n) (x : S64) : ∀ y ∈ wearStep m out x, 0 ≤ y ∧ y ≤ n + 1 := by
  intro y hy
  unfold wearStep at hy
  have hb := rd_bound hn h (Int.tmod x.f0 m)
  rcases List.mem_or_eq_of_mem_set hy with hy | hy
  · have := h y hy; omega
  · omega
theorem wearStep_length (m : Int) (out : List Int) (x : S64) : (wearStep m out x).length = out.length := by
  unfold wearStep; simp

theorem specWear_loop {m : Int} (hm : 1 ≤ m ∧ m ≤ 5) (l : List S64) (hok : StrokesOK l) (d : Nat) : ∀ (k i : Nat) (out : List Int), i + d = l.length → d < k → out.length = m.toNat → (∀ x ∈ out, 0 ≤ x ∧ x ≤ (i : Int)) →
    spec_WearOf.l0 k m out l l.length i = some ((l.drop i).foldl (wearStep m) out, true) := by
  have hl := hok.2
  induction d with
  | zero =>
    intro k i out hi hk ho hb
    obtain ⟨k, rfl⟩ : ∃ j, k = j + 1 := ⟨k - 1, by omega⟩
    rw [spec_WearOf.l0, if_neg (by omega), List.drop_of_length_le (by omega)]
    rfl
  | succ d ih =>
    intro k i out hi hk ho hb
    obtain ⟨k, rfl⟩ : ∃ j, k = j + 1 := ⟨k - 1, by omega⟩
    have hx : StrokeOK l[i] := hok.1 _ (List.getElem_mem _)
    have hx' := hx
    unfold StrokeOK at hx'
    have ht : Int.tmod l[i].f0 m = l[i].f0 % m := Int.tmod_eq_emod_of_nonneg hx'.1
    have t0 := Int.emod_nonneg l[i].f0 (show m ≠ 0 by omega)
    have t1 := Int.emod_lt_of_pos l[i].f0 (show 0 < m by omega)
    have hr := rd_bound (by omega) hb (Int.tmod l[i].f0 m)
    rw [spec_WearOf.l0, if_pos (by omega), if_pos (by omega), if_pos (by omega), if_neg (by omega), rdS_get l i (by omega), if_pos (by omega), if_pos (by omega), w64 (by omega), w64 (by omega), drop_get l i (by omega), List.foldl_cons]
    rw [show ((i : Int) + 1) = ((i + 1 : Nat) : Int) by omega]
    refine ih k (i + 1) _ (by omega) (by omega) (by rw [List.length_set]; exact ho) ?_
    have := wearStep_bound (m := m) (by omega) hb l[i]
    unfold wearStep at this
    intro x hx
    have := this x hx
    omega
theorem specWearOf_eq (l : List S64) (hl : l.length ≤ 1048576) (m : Int) (k : Nat) (hk : l.length + 300 < k) : spec_WearOf.f k l m = some (if StrokesOK l ∧ 1 ≤ m ∧ m ≤ 5 then (wear m l, true) else ([], false)) := by
  obtain ⟨k, rfl⟩ : ∃ j, k = j + 1 := ⟨k - 1, by omega⟩
  unfold spec_WearOf.f spec_puTools.f
  rw [puGood_eq l hl _ (by omega)]
  simp only [Option.bind_some, decide_eq_true_eq, in_eq, spec_WearOf.j0]
  by_cases h : StrokesOK l
  · by_cases hm : 1 ≤ m ∧ m ≤ 5
    · have := specWear_loop hm l h l.length k 0 (List.replicate m.toNat 0) (by omega) (by omega) (by simp) (fun x hx => by rw [List.eq_of_mem_replicate hx]; simp)
      rw [if_pos h, if_neg (by simp [hm]), if_pos (by omega), if_pos (by omega), if_pos ⟨h, hm⟩]
      rw [List.drop_zero] at this
      exact this
    · rw [if_pos h, if_pos (by simp; omega), if_neg (fun h => hm h.2)]
  · rw [if_neg h, if_pos trivial, if_neg (fun h' => h h'.1)]

theorem implWear_loop {m : Int} (hm : 1 ≤ m ∧ m ≤ 5) (l : List S64) (hok : StrokesOK l) (d : Nat) : ∀ (k i : Nat) (out : List Int), i + d = l.length → d < k → out.length = m.toNat → (∀ x ∈ out, 0 ≤ x ∧ x ≤ (i : Int)) →
    impl_WearOf.l0 k m out l l.length i = some ((l.drop i).foldl (wearStep m) out, true) := by
  have hl := hok.2
  induction d with
  | zero =>
    intro k i out hi hk ho hb
    obtain ⟨k, rfl⟩ : ∃ j, k = j + 1 := ⟨k - 1, by omega⟩
    rw [impl_WearOf.l0, if_neg (by omega), List.drop_of_length_le (by omega)]
    rfl
  | succ d ih =>
    intro k i out hi hk ho hb
    obtain ⟨k, rfl⟩ : ∃ j, k = j + 1 := ⟨k - 1, by omega⟩
    have hx : StrokeOK l[i] := hok.1 _ (List.getElem_mem _)
    have hx' := hx
    unfold StrokeOK at hx'
    have ht : Int.tmod l[i].f0 m = l[i].f0 % m := Int.tmod_eq_emod_of_nonneg hx'.1
    have t0 := Int.emod_nonneg l[i].f0 (show m ≠ 0 by omega)
    have t1 := Int.emod_lt_of_pos l[i].f0 (show 0 < m by omega)
    have hr := rd_bound (by omega) hb (Int.tmod l[i].f0 m)
    rw [impl_WearOf.l0, if_pos (by omega), if_pos (by omega), if_pos (by omega), if_neg (by omega), rdS_get l i (by omega), if_pos (by omega), if_pos (by omega), w64 (by omega), w64 (by omega), drop_get l i (by omega), List.foldl_cons]
    rw [show ((i : Int) + 1) = ((i + 1 : Nat) : Int) by omega]
    refine ih k (i + 1) _ (by omega) (by omega) (by rw [List.length_set]; exact ho) ?_
    have := wearStep_bound (m := m) (by omega) hb l[i]
    unfold wearStep at this
    intro x hx
    have := this x hx
    omega
theorem implWearOf_eq (l : List S64) (hl : l.length ≤ 1048576) (m : Int) (k : Nat) (hk : l.length + 300 < k) : impl_WearOf.f k l m = some (if StrokesOK l ∧ 1 ≤ m ∧ m ≤ 5 then (wear m l, true) else ([], false)) := by
  obtain ⟨k, rfl⟩ : ∃ j, k = j + 1 := ⟨k - 1, by omega⟩
  have ht : impl_isTools.f m = some (decide (1 ≤ m ∧ m ≤ 5)) := by
    unfold impl_isTools.f
    split
    · exact someD (by omega)
    · exact someF (by omega)
  unfold impl_WearOf.f
  rw [areStrokes_eq l hl _ (by omega), ht]
  simp only [Option.bind_some, decide_eq_true_eq, impl_WearOf.j0]
  by_cases h : StrokesOK l
  · by_cases hm : 1 ≤ m ∧ m ≤ 5
    · have := implWear_loop hm l h l.length k 0 (List.replicate m.toNat 0) (by omega) (by omega) (by simp) (fun x hx => by rw [List.eq_of_mem_replicate hx]; simp)
      rw [if_pos h, if_neg (by simp [hm]), if_pos (by omega), if_pos (by omega), if_pos ⟨h, hm⟩]
      rw [List.drop_zero] at this
      exact this
    · rw [if_pos h, if_pos (by simp; omega), if_neg (fun h => hm h.2)]
  · rw [if_neg h, if_pos trivial, if_neg (fun h' => h h'.1)]
theorem wear_length (m : Int) (l : List S64) : (wear m l).length = m.toNat := by
  unfold wear
  have : ∀ (l : List S64) (out : List Int), (l.foldl (wearStep m) out).length = out.length := by
    intro l
    induction l with
    | nil => intro out; rfl
    | cons x r ih => intro out; rw [List.foldl_cons, ih, wearStep_length]
  rw [this]; simp

theorem eqInts_loop (l : List Int) (hl : l.length ≤ 1048576) (d : Nat) : ∀ (k i : Nat), i + d = l.length → d < k → laws_eqIntS.l0 k l l i = some true := by
  induction d with
  | zero =>
    intro k i hi hk
    obtain ⟨k, rfl⟩ : ∃ j, k = j + 1 := ⟨k - 1, by omega⟩
    rw [laws_eqIntS.l0, if_neg (by omega)]
  | succ d ih =>
    intro k i hi hk
    obtain ⟨k, rfl⟩ : ∃ j, k = j + 1 := ⟨k - 1, by omega⟩
    rw [laws_eqIntS.l0, if_pos (by omega), if_pos (by omega), if_pos (by omega), if_pos rfl, w64 (by omega)]
    exact ih k (i + 1) (by omega) (by omega)
theorem eqInts_self (l : List Int) (hl : l.length ≤ 1048576) (k : Nat) (hk : l.length < k) : laws_eqIntS.f k l l = some true := by
  unfold laws_eqIntS.f
  rw [if_pos rfl]
  exact eqInts_loop l hl l.length k 0 (by omega) hk

theorem markStrokes_loop (d : Nat) : ∀ (k i : Nat) (l : List S64) (n : Int), i + d = l.length → d < k → l.length ≤ 1048576 → 1 ≤ n ∧ n ≤ 1 + 2 * i →
    ∃ L, laws_markStrokeS.l0 k l n i = some (n + 2 * d, L) := by
  induction d with
  | zero =>
    intro k i l n hi hk hl hn
    obtain ⟨k, rfl⟩ : ∃ j, k = j + 1 := ⟨k - 1, by omega⟩
    exact ⟨l, by rw [laws_markStrokeS.l0, if_neg (by omega)]; simp⟩
  | succ d ih =>
    intro k i l n hi hk hl hn
    obtain ⟨k, rfl⟩ : ∃ j, k = j + 1 := ⟨k - 1, by omega⟩
    rw [laws_markStrokeS.l0, if_pos (by omega), if_pos (by omega)]
    simp only [Option.bind_some]
    rw [w64 (x := n + 1) (by omega), w64 (x := n + 1 + 1) (by omega), w64 (x := (i : Int) + 1) (by omega), show ((i : Int) + 1) = ((i + 1 : Nat) : Int) by omega]
    have key : ∀ X : List S64, X.length = l.length → ∃ L, laws_markStrokeS.l0 k X (n + 1 + 1) ((i + 1 : Nat) : Int) = some (n + 2 * ((d + 1 : Nat) : Int), L) := by
      intro X hX
      obtain ⟨L, hL⟩ := ih k (i + 1) X (n + 1 + 1) (by omega) (by omega) (by omega) (by omega)
      exact ⟨L, by rw [hL]; congr 2; omega⟩
    exact key _ (by simp)
theorem markStrokes_eq (l : List S64) (hl : l.length ≤ 1048576) (k : Nat) (hk : l.length < k) : ∃ L, laws_markStrokeS.f k l 1 = some (1 + 2 * (l.length : Int), L) := by
  unfold laws_markStrokeS.f
  exact markStrokes_loop l.length k 0 l 1 (by omega) hk hl (by omega)

def upFrom (n : Int) : Nat → List Int
  | 0 => []
  | d + 1 => n :: upFrom (n + 1) d
theorem upFrom_length (n : Int) (d : Nat) : (upFrom n d).length = d := by
  induction d generalizing n with
  | zero => rfl
  | succ d ih => simp [upFrom, ih]
theorem markInts_loop (d : Nat) : ∀ (k : Nat) (p l : List Int) (n : Int), l.length = d → d < k → p.length + l.length ≤ 1048576 → 1 ≤ n ∧ n ≤ 1 + p.length →
    laws_markIntS.l0 k (p ++ l) n p.length = some (n + d, p ++ upFrom n d) := by
  induction d with
  | zero =>
    intro k p l n hi hk hl hn
    obtain ⟨k, rfl⟩ : ∃ j, k = j + 1 := ⟨k - 1, by omega⟩
    obtain rfl := List.length_eq_zero_iff.1 hi
    rw [laws_markIntS.l0, if_neg (by simp)]
    simp [upFrom]
  | succ d ih =>
    intro k p l n hi hk hl hn
    obtain ⟨k, rfl⟩ : ∃ j, k = j + 1 := ⟨k - 1, by omega⟩
    obtain ⟨x, r, rfl⟩ : ∃ x r, l = x :: r := by
      cases l with
      | nil => simp at hi
      | cons x r => exact ⟨x, r, rfl⟩
    simp only [List.length_cons] at hi hl
    rw [laws_markIntS.l0, if_pos (by simp; omega), if_pos (by omega), Int.toNat_natCast, List.set_append_right _ _ (by omega), Nat.sub_self, List.set_cons_zero, w64 (by omega), w64 (by omega)]
    have := ih k (p ++ [n]) r (n + 1) (by omega) (by omega) (by simp; omega) (by simp; omega)
    rw [show p ++ n :: r = (p ++ [n]) ++ r by simp, show ((p.length : Int) + 1) = (((p ++ [n]).length : Nat) : Int) by simp, this, upFrom]
    simp; omega
theorem markInts_eq (l : List Int) (hl : l.length ≤ 1048576) (k : Nat) (hk : l.length < k) : laws_markIntS.f k l 1 = some (1 + (l.length : Int), upFrom 1 l.length) := by
  unfold laws_markIntS.f
  have := markInts_loop l.length k [] l 1 rfl hk (by simpa using hl) (by simp)
  simpa using this
theorem heldInts_loop (d : Nat) : ∀ (k : Nat) (p : List Int) (n : Int), d < k → p.length + d ≤ 1048576 → 1 ≤ n ∧ n ≤ 1 + p.length →
    laws_heldIntS.l0 k (p ++ upFrom n d) n p.length = some (n + d) := by
  induction d with
  | zero =>
    intro k p n hk hl hn
    obtain ⟨k, rfl⟩ : ∃ j, k = j + 1 := ⟨k - 1, by omega⟩
    rw [laws_heldIntS.l0, if_neg (by simp [upFrom])]; simp
  | succ d ih =>
    intro k p n hk hl hn
    obtain ⟨k, rfl⟩ : ∃ j, k = j + 1 := ⟨k - 1, by omega⟩
    rw [upFrom, laws_heldIntS.l0, if_pos (by simp; omega), if_pos (by omega), rd_get _ p.length (by simp), List.getElem_append_right (by omega)]
    simp only [Nat.sub_self, List.getElem_cons_zero, if_true]
    rw [w64 (by omega), w64 (by omega)]
    have := ih k (p ++ [n]) (n + 1) (by omega) (by simp; omega) (by simp; omega)
    rw [show p ++ n :: upFrom (n + 1) d = (p ++ [n]) ++ upFrom (n + 1) d by simp, show ((p.length : Int) + 1) = (((p ++ [n]).length : Nat) : Int) by simp, this]
    congr 1; omega
theorem heldInts_eq (d : Nat) (hl : d ≤ 1048576) (k : Nat) (hk : d < k) : laws_heldIntS.f k (upFrom 1 d) 1 = some (1 + (d : Int)) := by
  unfold laws_heldIntS.f
  have := heldInts_loop d k [] 1 hk (by simpa using hl) (by simp)
  simpa using this

theorem FnExactWearOf (l : List S66) (m : Int) (hl : l.length ≤ maxLen) (_ : ∀ x ∈ l, (Lit.int .i64 x.f0).wf = true ∧ (Lit.int .i64 x.f1).wf = true) (_ : (Lit.int .i64 m).wf = true) :
    ∃ k, laws_FnExactWearOf.f k l m = some true := by
  refine ⟨1048903, ?_⟩
  unfold laws_FnExactWearOf.f
  rw [szStrokes_eq l hl]
  simp only [Option.bind_some]
  by_cases h : l.length ≤ 1048576
  · have h' : (l.map toS).length ≤ 1048576 := by simpa using h
    generalize hR : (if StrokesOK (l.map toS) ∧ 1 ≤ m ∧ m ≤ 5 then (wear m (l.map toS), true) else ([], false)) = R
    have hRl : R.1.length ≤ 5 := by
      subst hR; split
      · rename_i hh
        rw [wear_length]; omega
      · simp
    obtain ⟨L, hL⟩ := markStrokes_eq (l.map toS) h' 1048902 (by omega)
    rw [if_pos h, if_neg (by omega), toStrokes_eq l h _ (by omega)]
    simp only [Option.bind_some]
    rw [specWearOf_eq _ h' _ _ (by omega), hR]
    simp only [Option.bind_some]
    rw [implWearOf_eq _ h' _ _ (by omega), hR]
    simp only [Option.bind_some]
    rw [eqInts_self _ (by omega) _ (by omega)]
    simp only [Option.bind_some, bne_self_eq_false, if_true]
    rw [show (1048903 : Nat) = 1048902 + 1 from rfl, laws_FnExactWearOf.j0, if_neg (by simp), toStrokes_eq l h _ (by omega)]
    simp only [Option.bind_some]
    rw [eqStrokes_self _ h' _ (by omega), hL]
    simp only [Option.bind_some, if_true]
    rw [if_neg (by omega), eqInts_self _ (by omega) _ (by omega)]
    simp only [Option.bind_some, bne_self_eq_false, if_true]
    rw [show (1048902 : Nat) = 1048901 + 1 from rfl, laws_FnExactWearOf.j1, if_neg (by simp), markInts_eq _ (by omega) _ (by omega)]
    simp only [Option.bind_some]
    rw [heldInts_eq _ (by omega) _ (by omega)]
    simp only [Option.bind_some]
    rw [if_neg (by omega), if_pos trivial, toStrokes_eq l h _ (by omega)]
    simp only [Option.bind_some]
    rw [implWearOf_eq _ h' _ _ (by omega), hR]
    simp only [Option.bind_some]
    rw [eqInts_self _ (by omega) _ (by omega)]
    simp only [Option.bind_some, bne_self_eq_false, if_true]
    rw [show (1048901 : Nat) = 1048900 + 1 from rfl, laws_FnExactWearOf.j2, if_neg (by simp), heldInts_eq _ (by omega) _ (by omega)]
    simp only [Option.bind_some]
    rw [if_neg (by omega), if_pos trivial]
  · rw [if_neg h, if_pos (by omega)]
end Go.Proofs.Ytpgapdhmbgdfjaa.Pure
