/- FnExactSwapGain: the program's SwapGain answers as the reference's, for all slices of strokes and numbers. No condition. -/
import Derived.Test.YtpgapdhmbgdfjaaPFnExactSwapGainx4
namespace Go.Proofs.Ytpgapdhmbgdfjaa.Pure
open Go.RowKit Go.Proofs.Ytpgapdhmbgdfjaa.PFnExactSwapGain Go.Proofs.YtpgapdhmbgdfjaaW.PrintWords Go.Proofs.YtpgapdhmbgdfjaaW.PrintLast

set_option linter.unusedVariables false
set_option linter.unusedSimpArgs false

theorem w64 {x : Int} (h : -9223372036854775808 ≤ x ∧ x ≤ 9223372036854775807) : wrap64 x = x := by
  unfold wrap64; omega
theorem someF {p : Prop} [Decidable p] (h : ¬ p) : some false = some (decide p) := by rw [decide_eq_false h]
theorem someD {q p : Prop} [Decidable q] [Decidable p] (h : q ↔ p) : some (decide q) = some (decide p) := by rw [decide_eq_decide.2 h]

theorem in_eq (a b c : Int) : spec_l1In.f a b c = some (decide (b ≤ a ∧ a ≤ c)) := by
  unfold spec_l1In.f
  by_cases h : a ≥ b
  · rw [if_pos h]; congr 1; simp [show b ≤ a from h]
  · rw [if_neg h]; congr 1; simp; omega

theorem rdS_get (l : List S64) (i : Nat) (h : i < l.length) : rd_T64 l (i : Int) = l[i] := by
  unfold rd_T64; rw [Int.toNat_natCast, List.getD_eq_getElem?_getD, List.getElem?_eq_getElem h]; rfl
theorem rdL_get (l : List S66) (i : Nat) (h : i < l.length) : rd_T66 l (i : Int) = l[i] := by
  unfold rd_T66; rw [Int.toNat_natCast, List.getD_eq_getElem?_getD, List.getElem?_eq_getElem h]; rfl
def toS (x : S66) : S64 := ⟨x.f0, x.f1⟩
theorem drop_get {α : Type} (l : List α) (i : Nat) (h : i < l.length) : l.drop i = l[i] :: l.drop (i + 1) := List.drop_eq_getElem_cons h
theorem map_step {α β : Type} (f : α → β) (l : List α) (z : β) (i : Nat) (h : i < l.length) :
    ((l.take i).map f ++ List.replicate (l.length - i) z).set i (f (l[i]'h)) = (l.take (i + 1)).map f ++ List.replicate (l.length - (i + 1)) z := by
  have hl : ((l.take i).map f).length = i := by rw [List.length_map, List.length_take]; omega
  rw [List.set_append_right _ _ (by omega), hl, Nat.sub_self, show l.length - i = (l.length - (i + 1)) + 1 by omega, List.replicate_succ, List.set_cons_zero, List.take_succ_eq_append_getElem h, List.map_append, List.append_assoc]
  rfl
theorem map_length {α β : Type} (f : α → β) (l : List α) (z : β) (i : Nat) (h : i ≤ l.length) : ((l.take i).map f ++ List.replicate (l.length - i) z).length = l.length := by
  simp; omega
theorem toStrokes_loop (l : List S66) (hl : l.length ≤ 1048576) (d : Nat) : ∀ (k i : Nat), i + d = l.length → d < k →
    laws_toStrokeS.l0 k l ((l.take i).map toS ++ List.replicate (l.length - i) z64) i = some (l.map toS) := by
  induction d with
  | zero =>
    intro k i hi hk
    obtain ⟨k, rfl⟩ : ∃ j, k = j + 1 := ⟨k - 1, by omega⟩
    rw [laws_toStrokeS.l0, if_neg (by omega), show l.length - i = 0 by omega, List.replicate_zero, List.append_nil, List.take_of_length_le (by omega)]
  | succ d ih =>
    intro k i hi hk
    obtain ⟨k, rfl⟩ : ∃ j, k = j + 1 := ⟨k - 1, by omega⟩
    rw [laws_toStrokeS.l0, if_pos (by omega), if_pos (by omega), rdL_get l i (by omega)]
    unfold laws_toStroke.f
    simp only [Option.bind_some]
    rw [map_length _ _ _ _ (by omega), if_pos (by omega), Int.toNat_natCast]
    have := map_step toS l z64 i (by omega)
    unfold toS at this ⊢
    rw [this, w64 (by omega)]
    exact ih k (i + 1) (by omega) (by omega)
theorem toStrokes_eq (l : List S66) (hl : l.length ≤ 1048576) (k : Nat) (hk : l.length < k) : laws_toStrokeS.f k l = some (l.map toS) := by
  unfold laws_toStrokeS.f
  rw [if_pos (by omega), if_pos (by omega), Int.toNat_natCast]
  have := toStrokes_loop l hl l.length k 0 (by omega) hk
  simpa using this
theorem eqStrokes_loop (l : List S64) (hl : l.length ≤ 1048576) (d : Nat) : ∀ (k i : Nat), i + d = l.length → d < k → laws_eqStrokeS.l0 k l l i = some true := by
  induction d with
  | zero =>
    intro k i hi hk
    obtain ⟨k, rfl⟩ : ∃ j, k = j + 1 := ⟨k - 1, by omega⟩
    rw [laws_eqStrokeS.l0, if_neg (by omega)]
  | succ d ih =>
    intro k i hi hk
    obtain ⟨k, rfl⟩ : ∃ j, k = j + 1 := ⟨k - 1, by omega⟩
    rw [laws_eqStrokeS.l0, if_pos (by omega), if_pos (by omega), if_pos (by omega)]
    unfold laws_eqStroke.f
    rw [if_pos rfl, if_pos rfl]
    simp only [Option.bind_some, if_true]
    rw [w64 (by omega)]
    exact ih k (i + 1) (by omega) (by omega)
theorem eqStrokes_self (l : List S64) (hl : l.length ≤ 1048576) (k : Nat) (hk : l.length < k) : laws_eqStrokeS.f k l l = some true := by
  unfold laws_eqStrokeS.f
  rw [if_pos rfl]
  exact eqStrokes_loop l hl l.length k 0 (by omega) hk
theorem szStrokes_eq (l : List S66) (hl : l.length ≤ maxLen) : laws_szStrokeS.f l 1048576 = some (if l.length ≤ 1048576 then 1048576 - (l.length : Int) else -1) := by
  unfold maxLen at hl
  unfold laws_szStrokeS.f
  rw [w64 (by omega)]
  split <;> split <;> first | rfl | omega

def StrokeOK (x : S64) : Prop := 0 ≤ x.f0 ∧ x.f0 ≤ 19 ∧ 0 ≤ x.f1 ∧ x.f1 ≤ 1999
instance (x : S64) : Decidable (StrokeOK x) := by unfold StrokeOK; infer_instance
def StrokesOK (l : List S64) : Prop := (∀ x ∈ l, StrokeOK x) ∧ l.length ≤ 200
instance (l : List S64) : Decidable (StrokesOK l) := by unfold StrokesOK; infer_instance
theorem puStroke_eq (a b : Int) : spec_puStroke.f a b = some (decide (StrokeOK ⟨a, b⟩)) := by
  unfold spec_puStroke.f spec_shStep.f
  simp only [in_eq, Option.bind_some, decide_eq_true_eq]
  split
  · exact someD (by unfold StrokeOK; simp only []; omega)
  · exact someF (by unfold StrokeOK; simp only []; omega)
theorem puGood_loop (l : List S64) (hl : l.length ≤ 1048576) (d : Nat) : ∀ (k i : Nat), i + d = l.length → d < k →
    spec_puGood.l0 k l l l.length i = some (decide ((∀ x ∈ l.drop i, StrokeOK x) ∧ l.length ≤ 200)) := by
  induction d with
  | zero =>
    intro k i hi hk
    obtain ⟨k, rfl⟩ : ∃ j, k = j + 1 := ⟨k - 1, by omega⟩
    rw [spec_puGood.l0, if_neg (by omega), List.drop_of_length_le (by omega)]
    exact someD (by simp; omega)
  | succ d ih =>
    intro k i hi hk
    obtain ⟨k, rfl⟩ : ∃ j, k = j + 1 := ⟨k - 1, by omega⟩
    rw [spec_puGood.l0, if_pos (by omega), if_pos (by omega), if_pos (by omega), rdS_get l i (by omega), puStroke_eq, w64 (by omega), drop_get l i (by omega)]
    simp only [Option.bind_some, decide_eq_true_eq]
    split
    · rename_i h
      rw [show ((i : Int) + 1) = ((i + 1 : Nat) : Int) by omega, ih k (i + 1) (by omega) (by omega)]
      exact someD (by rw [List.forall_mem_cons]; exact ⟨fun h' => ⟨⟨h, h'.1⟩, h'.2⟩, fun h' => ⟨h'.1.2, h'.2⟩⟩)
    · rename_i h
      exact someF (by rw [List.forall_mem_cons]; exact fun h' => h h'.1.1)
theorem puGood_eq (l : List S64) (hl : l.length ≤ 1048576) (k : Nat) (hk : l.length < k) : spec_puGood.f k l = some (decide (StrokesOK l)) := by
  unfold spec_puGood.f StrokesOK
  have := puGood_loop l hl l.length k 0 (by omega) hk
  rw [List.drop_zero] at this
  exact this

theorem areStrokes_loop (l : List S64) (hl : l.length ≤ 1048576) (d : Nat) : ∀ (k i : Nat), i + d = l.length → d < k →
    impl_AreStrokes.l0 k l l l.length i = some (decide ((∀ x ∈ l.drop i, StrokeOK x) ∧ l.length ≤ 200)) := by
  induction d with
  | zero =>
    intro k i hi hk
    obtain ⟨k, rfl⟩ : ∃ j, k = j + 1 := ⟨k - 1, by omega⟩
    rw [impl_AreStrokes.l0, if_neg (by omega), List.drop_of_length_le (by omega)]
    exact someD (by simp; omega)
  | succ d ih =>
    intro k i hi hk
    obtain ⟨k, rfl⟩ : ∃ j, k = j + 1 := ⟨k - 1, by omega⟩
    have ht : impl_isTrack.f l[i].f0 = some (decide (0 ≤ l[i].f0 ∧ l[i].f0 ≤ 19)) := by
      unfold impl_isTrack.f
      split
      · exact someD (by omega)
      · exact someF (by omega)
    rw [impl_AreStrokes.l0, if_pos (by omega), if_pos (by omega), if_pos (by omega), rdS_get l i (by omega), ht, w64 (by omega), drop_get l i (by omega)]
    simp only [Option.bind_some, decide_eq_true_eq]
    by_cases h : StrokeOK l[i]
    · have h' := h
      unfold StrokeOK at h'
      rw [if_pos (by omega), if_neg (by omega), if_neg (by omega), show ((i : Int) + 1) = ((i + 1 : Nat) : Int) by omega, ih k (i + 1) (by omega) (by omega)]
      exact someD (by rw [List.forall_mem_cons]; exact ⟨fun h' => ⟨⟨h, h'.1⟩, h'.2⟩, fun h' => ⟨h'.1.2, h'.2⟩⟩)
    · have h' := h
      unfold StrokeOK at h'
      have hF : ∀ (p : Prop) [Decidable p], ¬ (p) → some false = some (decide p) := fun p _ hp => someF hp
      have hn : ¬ ((∀ x ∈ l[i] :: l.drop (i + 1), StrokeOK x) ∧ l.length ≤ 200) := by rw [List.forall_mem_cons]; exact fun h' => h h'.1.1
      split
      · split
        · exact someF hn
        · split
          · exact someF hn
          · omega
      · exact someF hn
theorem areStrokes_eq (l : List S64) (hl : l.length ≤ 1048576) (k : Nat) (hk : l.length < k) : impl_AreStrokes.f k l = some (decide (StrokesOK l)) := by
  unfold impl_AreStrokes.f StrokesOK
  have := areStrokes_loop l hl l.length k 0 (by omega) hk
  rw [List.drop_zero] at this
  exact this

/-- the way of the head from a stroke to the next, and the sum of all ways -/
def absd (a b : Int) : Int := if a ≤ b then b - a else a - b
def way (ac : Int) (a b : S64) : Int := absd a.f1 b.f1 + ac * absd a.f0 b.f0
def ways (ac : Int) : List S64 → Int
  | a :: b :: r => way ac a b + ways ac (b :: r)
  | _ => 0
theorem way_bounds {ac : Int} (hac : 1 ≤ ac ∧ ac ≤ 50) {a b : S64} (ha : StrokeOK a) (hb : StrokeOK b) : 0 ≤ ac * absd a.f0 b.f0 ∧ ac * absd a.f0 b.f0 ≤ 950 ∧ 0 ≤ way ac a b ∧ way ac a b ≤ 3000 := by
  unfold StrokeOK at ha hb
  have h0 : 0 ≤ absd a.f0 b.f0 ∧ absd a.f0 b.f0 ≤ 19 := by unfold absd; split <;> omega
  have h1 : 0 ≤ absd a.f1 b.f1 ∧ absd a.f1 b.f1 ≤ 1999 := by unfold absd; split <;> omega
  have h2 : 0 ≤ ac * absd a.f0 b.f0 := Int.mul_nonneg (by omega) h0.1
  have h3 : ac * absd a.f0 b.f0 ≤ 50 * 19 := Int.mul_le_mul hac.2 h0.2 h0.1 (by omega)
  unfold way; omega
theorem ways_bounds {ac : Int} (hac : 1 ≤ ac ∧ ac ≤ 50) (l : List S64) (h : ∀ x ∈ l, StrokeOK x) : 0 ≤ ways ac l ∧ ways ac l ≤ 3000 * l.length := by
  induction l with
  | nil => simp [ways]
  | cons a r ih =>
    cases r with
    | nil => simp [ways]
    | cons b r =>
      have h1 := ih (fun x hx => h x (List.mem_cons_of_mem _ hx))
      have h2 := way_bounds hac (h a (by simp)) (h b (by simp))
      rw [ways]
      simp only [List.length_cons] at h1 ⊢
      omega

theorem abs_eq {a b : Int} (ha : 0 ≤ a ∧ a ≤ 5000) (hb : 0 ≤ b ∧ b ≤ 5000) : spec_l1Abs.f (wrap64 (a - b)) = some (absd a b) := by
  unfold spec_l1Abs.f spec_l1Most.f absd
  rw [w64 (x := a - b) (by omega), w64 (by omega)]
  by_cases h : a - b > -(a - b)
  · rw [if_pos h, if_neg (by omega)]; rfl
  · rw [if_neg h]
    split
    · simp; omega
    · omega
theorem specWay_eq {ac : Int} (hac : 1 ≤ ac ∧ ac ≤ 50) {a b : S64} (ha : StrokeOK a) (hb : StrokeOK b) : spec_puWay.f a.f0 a.f1 b.f0 b.f1 ac = some (way ac a b) := by
  have hw := way_bounds hac ha hb
  unfold StrokeOK at ha hb
  unfold spec_puWay.f
  rw [abs_eq (by omega) (by omega), abs_eq (by omega) (by omega)]
  simp only [Option.bind_some]
  unfold way at hw ⊢
  rw [w64 (x := ac * absd a.f0 b.f0) (by omega), w64 (by omega)]

theorem dist_eq {a b : Int} (ha : 0 ≤ a ∧ a ≤ 5000) (hb : 0 ≤ b ∧ b ≤ 5000) : impl_distance.f a b = some (absd a b) := by
  unfold impl_distance.f absd mx
  rw [w64 (x := a - b) (by omega), w64 (by omega)]
  congr 1
  split <;> split <;> omega
theorem implWay_eq {ac : Int} (hac : 1 ≤ ac ∧ ac ≤ 50) {a b : S64} (ha : StrokeOK a) (hb : StrokeOK b) : impl_headWay.f a.f0 a.f1 b.f0 b.f1 ac = some (way ac a b) := by
  have hw := way_bounds hac ha hb
  unfold StrokeOK at ha hb
  unfold impl_headWay.f
  rw [dist_eq (by omega) (by omega), dist_eq (by omega) (by omega)]
  simp only [Option.bind_some]
  unfold way at hw ⊢
  rw [w64 (x := ac * absd a.f0 b.f0) (by omega), w64 (by omega)]

theorem specWays_loop {ac : Int} (hac : 1 ≤ ac ∧ ac ≤ 50) (l : List S64) (hok : StrokesOK l) (d : Nat) : ∀ (k i : Nat) (n : Int), i + d = l.length → d < k → 1 ≤ i → 0 ≤ n ∧ n ≤ 3000 * i →
    spec_puSum.l0 k l ac n i = some (n + ways ac (l.drop (i - 1))) := by
  have hl := hok.2
  induction d with
  | zero =>
    intro k i n hi hk h1 hn
    obtain ⟨k, rfl⟩ : ∃ j, k = j + 1 := ⟨k - 1, by omega⟩
    rw [spec_puSum.l0, if_neg (by omega), drop_get l (i - 1) (by omega), List.drop_of_length_le (by omega)]
    simp [ways]
  | succ d ih =>
    intro k i n hi hk h1 hn
    obtain ⟨k, rfl⟩ : ∃ j, k = j + 1 := ⟨k - 1, by omega⟩
    obtain ⟨j, rfl⟩ : ∃ j, i = j + 1 := ⟨i - 1, by omega⟩
    have e1 : wrap64 (((j + 1 : Nat) : Int) - 1) = (j : Int) := by rw [w64 (by omega)]; omega
    have e2 : wrap64 (((j + 1 : Nat) : Int) + 1) = ((j + 1 + 1 : Nat) : Int) := by rw [w64 (by omega)]; omega
    have ha : StrokeOK l[j] := hok.1 _ (List.getElem_mem _)
    have hb : StrokeOK l[j + 1] := hok.1 _ (List.getElem_mem _)
    have hw := way_bounds hac ha hb
    rw [spec_puSum.l0, if_pos (by omega), e1, e2, if_pos (by omega), if_pos (by omega), if_pos (by omega), rdS_get l (j + 1) (by omega), rdS_get l j (by omega), specWay_eq hac ha hb, Nat.add_sub_cancel, drop_get l j (by omega), drop_get l (j + 1) (by omega), ways, ← drop_get l (j + 1) (by omega)]
    simp only [Option.bind_some]
    rw [w64 (by omega), ih k (j + 1 + 1) _ (by omega) (by omega) (by omega) (by omega), Nat.add_sub_cancel]
    congr 1; omega
theorem specWays_eq {ac : Int} (hac : 1 ≤ ac ∧ ac ≤ 50) (l : List S64) (hok : StrokesOK l) (k : Nat) (hk : 202 < k) : spec_puSum.f k l ac = some (ways ac l) := by
  have hl := hok.2
  unfold spec_puSum.f
  by_cases h : l.length = 0
  · obtain ⟨k, rfl⟩ : ∃ j, k = j + 1 := ⟨k - 1, by omega⟩
    rw [spec_puSum.l0, if_neg (by omega), List.length_eq_zero_iff.1 h]; rfl
  · have := specWays_loop hac l hok (l.length - 1) k 1 0 (by omega) (by omega) (by omega) (by omega)
    simpa using this

theorem implWays_loop {ac : Int} (hac : 1 ≤ ac ∧ ac ≤ 50) (l : List S64) (hok : StrokesOK l) (d : Nat) : ∀ (k i : Nat) (n : Int), i + d = l.length → d < k → 1 ≤ i → 0 ≤ n ∧ n ≤ 3000 * i →
    impl_wayOfHead.l0 k l ac n i = some (n + ways ac (l.drop (i - 1))) := by
  have hl := hok.2
  induction d with
  | zero =>
    intro k i n hi hk h1 hn
    obtain ⟨k, rfl⟩ : ∃ j, k = j + 1 := ⟨k - 1, by omega⟩
    rw [impl_wayOfHead.l0, if_neg (by omega), drop_get l (i - 1) (by omega), List.drop_of_length_le (by omega)]
    simp [ways]
  | succ d ih =>
    intro k i n hi hk h1 hn
    obtain ⟨k, rfl⟩ : ∃ j, k = j + 1 := ⟨k - 1, by omega⟩
    obtain ⟨j, rfl⟩ : ∃ j, i = j + 1 := ⟨i - 1, by omega⟩
    have e1 : wrap64 (((j + 1 : Nat) : Int) - 1) = (j : Int) := by rw [w64 (by omega)]; omega
    have e2 : wrap64 (((j + 1 : Nat) : Int) + 1) = ((j + 1 + 1 : Nat) : Int) := by rw [w64 (by omega)]; omega
    have ha : StrokeOK l[j] := hok.1 _ (List.getElem_mem _)
    have hb : StrokeOK l[j + 1] := hok.1 _ (List.getElem_mem _)
    have hw := way_bounds hac ha hb
    rw [impl_wayOfHead.l0, if_pos (by omega), e1, e2, if_pos (by omega), if_pos (by omega), if_pos (by omega), rdS_get l (j + 1) (by omega), rdS_get l j (by omega), implWay_eq hac ha hb, Nat.add_sub_cancel, drop_get l j (by omega), drop_get l (j + 1) (by omega), ways, ← drop_get l (j + 1) (by omega)]
    simp only [Option.bind_some]
    rw [w64 (by omega), ih k (j + 1 + 1) _ (by omega) (by omega) (by omega) (by omega), Nat.add_sub_cancel]
    congr 1; omega
theorem implWays_eq {ac : Int} (hac : 1 ≤ ac ∧ ac ≤ 50) (l : List S64) (hok : StrokesOK l) (k : Nat) (hk : 202 < k) : impl_wayOfHead.f k l ac = some (ways ac l) := by
  have hl := hok.2
  unfold impl_wayOfHead.f
  by_cases h : l.length = 0
  · obtain ⟨k, rfl⟩ : ∃ j, k = j + 1 := ⟨k - 1, by omega⟩
    rw [impl_wayOfHead.l0, if_neg (by omega), List.length_eq_zero_iff.1 h]; rfl
  · have := implWays_loop hac l hok (l.length - 1) k 1 0 (by omega) (by omega) (by omega) (by omega)
    simpa using this

theorem isAcross_eq (ac : Int) : impl_isAcross.f ac = some (decide (1 ≤ ac ∧ ac ≤ 50)) := by
  unfold impl_isAcross.f
  split
  · exact someD (by omega)
  · exact someF (by omega)

/-- a list with two elements swapped -/
def swp (l : List S64) (i k : Int) : List S64 := (l.set i.toNat (rd_T64 l k)).set k.toNat (rd_T64 l i)
theorem swp_length (l : List S64) (i k : Int) : (swp l i k).length = l.length := by
  unfold swp; simp
theorem rdS_mem (l : List S64) (i : Int) (h0 : 0 ≤ i) (h1 : i < l.length) : rd_T64 l i ∈ l := by
  obtain ⟨n, rfl⟩ : ∃ n : Nat, i = n := ⟨i.toNat, by omega⟩
  rw [rdS_get l n (by omega)]
  exact List.getElem_mem _
theorem swp_ok (l : List S64) (i k : Int) (hi : 0 ≤ i ∧ i < l.length) (hk : 0 ≤ k ∧ k < l.length) (h : StrokesOK l) : StrokesOK (swp l i k) := by
  refine ⟨fun x hx => ?_, by rw [swp_length]; exact h.2⟩
  unfold swp at hx
  rcases List.mem_or_eq_of_mem_set hx with hx | rfl
  · rcases List.mem_or_eq_of_mem_set hx with hx | rfl
    · exact h.1 x hx
    · exact h.1 _ (rdS_mem l k hk.1 hk.2)
  · exact h.1 _ (rdS_mem l i hi.1 hi.2)
def GainOK (l : List S64) (i k ac : Int) : Prop := StrokesOK l ∧ (1 ≤ ac ∧ ac ≤ 50) ∧ (0 ≤ i ∧ i < l.length) ∧ (0 ≤ k ∧ k < l.length)
instance (l : List S64) (i k ac : Int) : Decidable (GainOK l i k ac) := by unfold GainOK; infer_instance
def gainOf (l : List S64) (i k ac : Int) : Int × Bool := if GainOK l i k ac then (ways ac l - ways ac (swp l i k), true) else (0, false)

theorem specSwapGain_eq (l : List S64) (hl : l.length ≤ 1048576) (i k ac : Int) (n : Nat) (hn : l.length + 300 < n) : spec_SwapGain.f n l i k ac = some (gainOf l i k ac) := by
  obtain ⟨n, rfl⟩ : ∃ j, n = j + 1 := ⟨n - 1, by omega⟩
  unfold spec_SwapGain.f spec_puAcross.f gainOf
  rw [puGood_eq l hl _ (by omega)]
  simp only [Option.bind_some, decide_eq_true_eq, in_eq]
  by_cases h : StrokesOK l
  · have hl2 := h.2
    have e : wrap64 ((l.length : Int) - 1) = (l.length : Int) - 1 := w64 (by omega)
    rw [if_pos h]
    by_cases hm : 1 ≤ ac ∧ ac ≤ 50
    · rw [if_pos hm, e]
      by_cases hi : 0 ≤ i ∧ i ≤ (l.length : Int) - 1
      · rw [if_pos hi]
        by_cases hk : 0 ≤ k ∧ k ≤ (l.length : Int) - 1
        · rw [if_pos (show GainOK l i k ac from ⟨h, hm, by omega, by omega⟩), decide_eq_true hk, spec_SwapGain.j0, if_neg (by simp)]
          simp only [Option.bind_some, List.nil_append, List.length_nil, Nat.zero_add]
          rw [if_pos (by omega), if_pos (by omega), if_pos (by omega), if_pos (by omega), if_pos (by omega), if_pos (by omega), if_pos (by omega)]
          have hs := swp_ok l i k (by omega) (by omega) h
          have b1 := ways_bounds hm l h.1
          have b2 := ways_bounds hm _ hs.1
          rw [swp_length] at b2
          rw [specWays_eq hm l h n (by omega)]
          have := specWays_eq hm _ hs n (by omega)
          show ((some (ways ac l)).bind fun a => (spec_puSum.f n (swp l i k) ac).bind fun b => some (wrap64 (a - b), true)) = _
          rw [this]
          simp only [Option.bind_some]
          rw [w64 (by omega)]
        · rw [decide_eq_false hk, spec_SwapGain.j0, if_pos (by simp), if_neg (fun hh => hk ⟨hh.2.2.2.1, by have := hh.2.2.2.2; omega⟩)]
      · rw [if_neg hi, spec_SwapGain.j0, if_pos rfl, if_neg (fun hh => hi ⟨hh.2.2.1.1, by have := hh.2.2.1.2; omega⟩)]
    · rw [if_neg hm, spec_SwapGain.j0, if_pos rfl, if_neg (fun hh => hm hh.2.1)]
  · rw [if_neg h, spec_SwapGain.j0, if_pos rfl, if_neg (fun hh => h hh.1)]

theorem implSwapGain_eq (l : List S64) (hl : l.length ≤ 1048576) (i k ac : Int) (n : Nat) (hn : l.length + 300 < n) : impl_SwapGain.f n l i k ac = some (gainOf l i k ac) := by
  obtain ⟨n, rfl⟩ : ∃ j, n = j + 1 := ⟨n - 1, by omega⟩
  unfold impl_SwapGain.f gainOf
  rw [areStrokes_eq l hl _ (by omega), isAcross_eq]
  simp only [Option.bind_some, decide_eq_true_eq]
  by_cases h : StrokesOK l
  · have hl2 := h.2
    rw [if_pos h]
    by_cases hm : 1 ≤ ac ∧ ac ≤ 50
    · rw [if_pos hm]
      by_cases hi0 : i < 0
      · rw [if_pos hi0, impl_SwapGain.j0, if_pos rfl, if_neg (fun hh => by have := hh.2.2.1; omega)]
      · by_cases hi1 : i ≥ l.length
        · rw [if_neg hi0, if_pos hi1, impl_SwapGain.j0, if_pos rfl, if_neg (fun hh => by have := hh.2.2.1; omega)]
        · by_cases hk0 : k < 0
          · rw [if_neg hi0, if_neg hi1, if_pos hk0, impl_SwapGain.j0, if_pos rfl, if_neg (fun hh => by have := hh.2.2.2; omega)]
          · by_cases hk1 : k ≥ l.length
            · rw [if_neg hi0, if_neg hi1, if_neg hk0, decide_eq_true hk1, impl_SwapGain.j0, if_pos rfl, if_neg (fun hh => by have := hh.2.2.2; omega)]
            · rw [if_neg hi0, if_neg hi1, if_neg hk0, decide_eq_false hk1, impl_SwapGain.j0, if_neg (by decide), if_pos (show GainOK l i k ac from ⟨h, hm, by omega, by omega⟩)]
              unfold slices_Clone_Stroke.f
              rw [if_pos (by omega)]
              simp only [Option.bind_some]
              rw [if_pos (by omega), if_pos (by omega), if_pos (by omega), if_pos (by omega)]
              have hs := swp_ok l i k (by omega) (by omega) h
              have b1 := ways_bounds hm l h.1
              have b2 := ways_bounds hm _ hs.1
              rw [swp_length] at b2
              rw [implWays_eq hm l h n (by omega)]
              have := implWays_eq hm _ hs n (by omega)
              show ((some (ways ac l)).bind fun a => (impl_wayOfHead.f n (swp l i k) ac).bind fun b => some (wrap64 (a - b), true)) = _
              rw [this]
              simp only [Option.bind_some]
              rw [w64 (by omega)]
    · rw [if_neg hm, impl_SwapGain.j0, if_pos rfl, if_neg (fun hh => hm hh.2.1)]
  · rw [if_neg h, impl_SwapGain.j0, if_pos rfl, if_neg (fun hh => h hh.1)]

theorem FnExactSwapGain (l : List S66) (i k m : Int) (hl : l.length ≤ maxLen) (_ : ∀ x ∈ l, (Lit.int .i64 x.f0).wf = true ∧ (Lit.int .i64 x.f1).wf = true)
    (_ : (Lit.int .i64 i).wf = true) (_ : (Lit.int .i64 k).wf = true) (_ : (Lit.int .i64 m).wf = true) :
    ∃ n, laws_FnExactSwapGain.f n l i k m = some true := by
  refine ⟨1048900, ?_⟩
  unfold laws_FnExactSwapGain.f
  rw [szStrokes_eq l hl]
  simp only [Option.bind_some]
  by_cases h : l.length ≤ 1048576
  · have h' : (l.map toS).length ≤ 1048576 := by simpa using h
    rw [if_pos h, if_neg (by omega), toStrokes_eq l h _ (by omega)]
    simp only [Option.bind_some]
    rw [specSwapGain_eq _ h' _ _ _ _ (by omega)]
    simp only [Option.bind_some]
    rw [implSwapGain_eq _ h' _ _ _ _ (by omega)]
    simp only [Option.bind_some, bne_self_eq_false, if_true]
    rw [show (1048900 : Nat) = 1048899 + 1 from rfl, laws_FnExactSwapGain.j0, if_neg (by simp), toStrokes_eq l h _ (by omega)]
    simp only [Option.bind_some]
    rw [eqStrokes_self _ h' _ (by omega)]
    simp
  · rw [if_neg h, if_pos (by omega)]
end Go.Proofs.Ytpgapdhmbgdfjaa.Pure
