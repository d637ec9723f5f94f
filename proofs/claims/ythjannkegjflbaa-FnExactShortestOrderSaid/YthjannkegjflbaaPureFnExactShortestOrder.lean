/- FnExactShortestOrder: the program's ShortestOrder answers as the reference's, in memory of its own, for all slices of strokes and numbers. No condition. -/
import Derived.Test.YthjannkegjflbaaPFnExactShortestOrderx6
namespace Go.Proofs.Ythjannkegjflbaa.Pure
open Go.RowKit Go.Proofs.Ythjannkegjflbaa.PFnExactShortestOrder Go.Proofs.YthjannkegjflbaaW.PrintWords Go.Proofs.YthjannkegjflbaaW.PrintLast

set_option linter.unusedVariables false
set_option linter.unusedSimpArgs false

theorem w64 {x : Int} (h : -9223372036854775808 ≤ x ∧ x ≤ 9223372036854775807) : wrap64 x = x := by
  unfold wrap64; omega
theorem someF {p : Prop} [Decidable p] (h : ¬ p) : some false = some (decide p) := by rw [decide_eq_false h]
theorem someD {q p : Prop} [Decidable q] [Decidable p] (h : q ↔ p) : some (decide q) = some (decide p) := by rw [decide_eq_decide.2 h]

theorem in_eq (a b c : Int) : spec_l1In.f a b c = some (decide (b ≤ a ∧ a ≤ c)) := by
  unfold spec_l1In.f
  by_cases h : a ≥ b
  · rw [if_pos h]; congr 1; simp [show b ≤ a from h]
  · rw [if_neg h]; congr 1; simp; omega

theorem rd_get (l : List Int) (i : Nat) (h : i < l.length) : rd l (i : Int) = l[i] := by
  unfold rd; rw [Int.toNat_natCast, List.getD_eq_getElem?_getD, List.getElem?_eq_getElem h]; rfl

theorem drop_get {α : Type} (l : List α) (i : Nat) (h : i < l.length) : l.drop i = l[i] :: l.drop (i + 1) := List.drop_eq_getElem_cons h
theorem map_step {α β : Type} (f : α → β) (l : List α) (z : β) (i : Nat) (h : i < l.length) :
    ((l.take i).map f ++ List.replicate (l.length - i) z).set i (f (l[i]'h)) = (l.take (i + 1)).map f ++ List.replicate (l.length - (i + 1)) z := by
  have hl : ((l.take i).map f).length = i := by rw [List.length_map, List.length_take]; omega
  rw [List.set_append_right _ _ (by omega), hl, Nat.sub_self, show l.length - i = (l.length - (i + 1)) + 1 by omega, List.replicate_succ, List.set_cons_zero, List.take_succ_eq_append_getElem h, List.map_append, List.append_assoc]
  rfl
theorem map_length {α β : Type} (f : α → β) (l : List α) (z : β) (i : Nat) (h : i ≤ l.length) : ((l.take i).map f ++ List.replicate (l.length - i) z).length = l.length := by
  simp; omega

theorem rdS_get (l : List S39) (i : Nat) (h : i < l.length) : rd_T39 l (i : Int) = l[i] := by
  unfold rd_T39; rw [Int.toNat_natCast, List.getD_eq_getElem?_getD, List.getElem?_eq_getElem h]; rfl
theorem eqStrokes_loop (l : List S39) (hl : l.length ≤ 1048576) (d : Nat) : ∀ (k i : Nat), i + d = l.length → d < k → laws_eqStrokeS.l0 k l l i = some true := by
  induction d with
  | zero =>
    intro k i hi hk
    obtain ⟨k, rfl⟩ : ∃ j, k = j + 1 := ⟨k - 1, by omega⟩
    rw [laws_eqStrokeS.l0, if_neg (by omega)]
  | succ d ih =>
    intro k i hi hk
    obtain ⟨k, rfl⟩ : ∃ j, k = j + 1 := ⟨k - 1, by omega⟩
    rw [laws_eqStrokeS.l0, if_pos (by omega), if_pos (by omega), if_pos (by omega)]
    unfold laws_eqStroke.f
    rw [if_pos rfl, if_pos rfl]
    simp only [Option.bind_some, if_true]
    rw [w64 (by omega)]
    exact ih k (i + 1) (by omega) (by omega)
theorem eqStrokes_self (l : List S39) (hl : l.length ≤ 1048576) (k : Nat) (hk : l.length < k) : laws_eqStrokeS.f k l l = some true := by
  unfold laws_eqStrokeS.f
  rw [if_pos rfl]
  exact eqStrokes_loop l hl l.length k 0 (by omega) hk

theorem rdL_get (l : List S41) (i : Nat) (h : i < l.length) : rd_T41 l (i : Int) = l[i] := by
  unfold rd_T41; rw [Int.toNat_natCast, List.getD_eq_getElem?_getD, List.getElem?_eq_getElem h]; rfl
def toS (x : S41) : S39 := ⟨x.f0, x.f1⟩
theorem toStrokes_loop (l : List S41) (hl : l.length ≤ 1048576) (d : Nat) : ∀ (k i : Nat), i + d = l.length → d < k →
    laws_toStrokeS.l0 k l ((l.take i).map toS ++ List.replicate (l.length - i) z39) i = some (l.map toS) := by
  induction d with
  | zero =>
    intro k i hi hk
    obtain ⟨k, rfl⟩ : ∃ j, k = j + 1 := ⟨k - 1, by omega⟩
    rw [laws_toStrokeS.l0, if_neg (by omega), show l.length - i = 0 by omega, List.replicate_zero, List.append_nil, List.take_of_length_le (by omega)]
  | succ d ih =>
    intro k i hi hk
    obtain ⟨k, rfl⟩ : ∃ j, k = j + 1 := ⟨k - 1, by omega⟩
    rw [laws_toStrokeS.l0, if_pos (by omega), if_pos (by omega), rdL_get l i (by omega)]
    unfold laws_toStroke.f
    simp only [Option.bind_some]
    rw [map_length _ _ _ _ (by omega), if_pos (by omega), Int.toNat_natCast]
    have := map_step toS l z39 i (by omega)
    unfold toS at this ⊢
    rw [this, w64 (by omega)]
    exact ih k (i + 1) (by omega) (by omega)
theorem toStrokes_eq (l : List S41) (hl : l.length ≤ 1048576) (k : Nat) (hk : l.length < k) : laws_toStrokeS.f k l = some (l.map toS) := by
  unfold laws_toStrokeS.f
  rw [if_pos (by omega), if_pos (by omega), Int.toNat_natCast]
  have := toStrokes_loop l hl l.length k 0 (by omega) hk
  simpa using this
theorem szStrokes_eq (l : List S41) (hl : l.length ≤ maxLen) : laws_szStrokeS.f l 1048576 = some (if l.length ≤ 1048576 then 1048576 - (l.length : Int) else -1) := by
  unfold maxLen at hl
  unfold laws_szStrokeS.f
  rw [w64 (by omega)]
  split <;> split <;> first | rfl | omega

def StrokeOK (x : S39) : Prop := 0 ≤ x.f0 ∧ x.f0 ≤ 19 ∧ 0 ≤ x.f1 ∧ x.f1 ≤ 1999
instance (x : S39) : Decidable (StrokeOK x) := by unfold StrokeOK; infer_instance
def StrokesOK (l : List S39) : Prop := (∀ x ∈ l, StrokeOK x) ∧ l.length ≤ 200
instance (l : List S39) : Decidable (StrokesOK l) := by unfold StrokesOK; infer_instance
theorem puStroke_eq (a b : Int) : spec_puStroke.f a b = some (decide (StrokeOK ⟨a, b⟩)) := by
  unfold spec_puStroke.f spec_shStep.f
  simp only [in_eq, Option.bind_some, decide_eq_true_eq]
  split
  · exact someD (by unfold StrokeOK; simp only []; omega)
  · exact someF (by unfold StrokeOK; simp only []; omega)
theorem puGood_loop (l : List S39) (hl : l.length ≤ 1048576) (d : Nat) : ∀ (k i : Nat), i + d = l.length → d < k →
    spec_puGood.l0 k l l l.length i = some (decide ((∀ x ∈ l.drop i, StrokeOK x) ∧ l.length ≤ 200)) := by
  induction d with
  | zero =>
    intro k i hi hk
    obtain ⟨k, rfl⟩ : ∃ j, k = j + 1 := ⟨k - 1, by omega⟩
    rw [spec_puGood.l0, if_neg (by omega), List.drop_of_length_le (by omega)]
    exact someD (by simp; omega)
  | succ d ih =>
    intro k i hi hk
    obtain ⟨k, rfl⟩ : ∃ j, k = j + 1 := ⟨k - 1, by omega⟩
    rw [spec_puGood.l0, if_pos (by omega), if_pos (by omega), if_pos (by omega), rdS_get l i (by omega), puStroke_eq, w64 (by omega), drop_get l i (by omega)]
    simp only [Option.bind_some, decide_eq_true_eq]
    split
    · rename_i h
      rw [show ((i : Int) + 1) = ((i + 1 : Nat) : Int) by omega, ih k (i + 1) (by omega) (by omega)]
      exact someD (by rw [List.forall_mem_cons]; exact ⟨fun h' => ⟨⟨h, h'.1⟩, h'.2⟩, fun h' => ⟨h'.1.2, h'.2⟩⟩)
    · rename_i h
      exact someF (by rw [List.forall_mem_cons]; exact fun h' => h h'.1.1)
theorem puGood_eq (l : List S39) (hl : l.length ≤ 1048576) (k : Nat) (hk : l.length < k) : spec_puGood.f k l = some (decide (StrokesOK l)) := by
  unfold spec_puGood.f StrokesOK
  have := puGood_loop l hl l.length k 0 (by omega) hk
  rw [List.drop_zero] at this
  exact this

theorem areStrokes_loop (l : List S39) (hl : l.length ≤ 1048576) (d : Nat) : ∀ (k i : Nat), i + d = l.length → d < k →
    impl_AreStrokes.l0 k l l l.length i = some (decide ((∀ x ∈ l.drop i, StrokeOK x) ∧ l.length ≤ 200)) := by
  induction d with
  | zero =>
    intro k i hi hk
    obtain ⟨k, rfl⟩ : ∃ j, k = j + 1 := ⟨k - 1, by omega⟩
    rw [impl_AreStrokes.l0, if_neg (by omega), List.drop_of_length_le (by omega)]
    exact someD (by simp; omega)
  | succ d ih =>
    intro k i hi hk
    obtain ⟨k, rfl⟩ : ∃ j, k = j + 1 := ⟨k - 1, by omega⟩
    have ht : impl_isTrack.f l[i].f0 = some (decide (0 ≤ l[i].f0 ∧ l[i].f0 ≤ 19)) := by
      unfold impl_isTrack.f
      split
      · exact someD (by omega)
      · exact someF (by omega)
    rw [impl_AreStrokes.l0, if_pos (by omega), if_pos (by omega), if_pos (by omega), rdS_get l i (by omega), ht, w64 (by omega), drop_get l i (by omega)]
    simp only [Option.bind_some, decide_eq_true_eq]
    by_cases h : StrokeOK l[i]
    · have h' := h
      unfold StrokeOK at h'
      rw [if_pos (by omega), if_neg (by omega), if_neg (by omega), show ((i : Int) + 1) = ((i + 1 : Nat) : Int) by omega, ih k (i + 1) (by omega) (by omega)]
      exact someD (by rw [List.forall_mem_cons]; exact ⟨fun h' => ⟨⟨h, h'.1⟩, h'.2⟩, fun h' => ⟨h'.1.2, h'.2⟩⟩)
    · have h' := h
      unfold StrokeOK at h'
      have hF : ∀ (p : Prop) [Decidable p], ¬ (p) → some false = some (decide p) := fun p _ hp => someF hp
      have hn : ¬ ((∀ x ∈ l[i] :: l.drop (i + 1), StrokeOK x) ∧ l.length ≤ 200) := by rw [List.forall_mem_cons]; exact fun h' => h h'.1.1
      split
      · split
        · exact someF hn
        · split
          · exact someF hn
          · omega
      · exact someF hn
theorem areStrokes_eq (l : List S39) (hl : l.length ≤ 1048576) (k : Nat) (hk : l.length < k) : impl_AreStrokes.f k l = some (decide (StrokesOK l)) := by
  unfold impl_AreStrokes.f StrokesOK
  have := areStrokes_loop l hl l.length k 0 (by omega) hk
  rw [List.drop_zero] at this
  exact this

/-- strokes with ascending numbers in all their fields -/
def upSt (n : Int) : Nat → List S39
  | 0 => []
  | d + 1 => ⟨n, n + 1⟩ :: upSt (n + 2) d
theorem upSt_length (n : Int) (d : Nat) : (upSt n d).length = d := by
  induction d generalizing n with
  | zero => rfl
  | succ d ih => simp [upSt, ih]
theorem markSt_loop (d : Nat) : ∀ (k : Nat) (p l : List S39) (n : Int), l.length = d → d < k → p.length + l.length ≤ 1048576 → 1 ≤ n ∧ n ≤ 10000000 + 2 * p.length →
    laws_markStrokeS.l0 k (p ++ l) n p.length = some (n + 2 * d, p ++ upSt n d) := by
  induction d with
  | zero =>
    intro k p l n hi hk hl hn
    obtain ⟨k, rfl⟩ : ∃ j, k = j + 1 := ⟨k - 1, by omega⟩
    obtain rfl := List.length_eq_zero_iff.1 hi
    rw [laws_markStrokeS.l0, if_neg (by simp)]
    simp [upSt]
  | succ d ih =>
    intro k p l n hi hk hl hn
    obtain ⟨k, rfl⟩ : ∃ j, k = j + 1 := ⟨k - 1, by omega⟩
    obtain ⟨x, r, rfl⟩ : ∃ x r, l = x :: r := by
      cases l with
      | nil => simp at hi
      | cons x r => exact ⟨x, r, rfl⟩
    simp only [List.length_cons] at hi hl
    have hset : ∀ a b : S39, (p ++ a :: r).set p.length b = p ++ b :: r := fun a b => by
      rw [List.set_append_right _ _ (by omega), Nat.sub_self, List.set_cons_zero]
    have hrd : ∀ a : S39, rd_T39 (p ++ a :: r) (p.length : Int) = a := fun a => by
      rw [rdS_get _ p.length (by simp), List.getElem_append_right (by omega)]; simp
    rw [laws_markStrokeS.l0, if_pos (by simp; omega), if_pos (by omega), Int.toNat_natCast]
    simp only [Option.bind_some, hset, hrd]
    rw [w64 (x := n + 1) (by omega), w64 (x := n + 1 + 1) (by omega), w64 (by omega)]
    have := ih k (p ++ [⟨n, n + 1⟩]) r (n + 1 + 1) (by omega) (by omega) (by simp; omega) (by simp; omega)
    rw [show p ++ (⟨n, n + 1⟩ : S39) :: r = (p ++ [⟨n, n + 1⟩]) ++ r by simp, show ((p.length : Int) + 1) = (((p ++ [(⟨n, n + 1⟩ : S39)]).length : Nat) : Int) by simp, this, upSt]
    simp only [List.append_assoc, List.singleton_append]
    rw [show n + 1 + 1 = n + 2 by omega]
    congr 2; omega
theorem markSt_eq (l : List S39) (hl : l.length ≤ 1048576) (n : Int) (hn : 1 ≤ n ∧ n ≤ 10000000) (k : Nat) (hk : l.length < k) : laws_markStrokeS.f k l n = some (n + 2 * (l.length : Int), upSt n l.length) := by
  unfold laws_markStrokeS.f
  have := markSt_loop l.length k [] l n rfl hk (by simpa using hl) (by simp; omega)
  simpa using this

theorem heldSt_loop (d : Nat) : ∀ (k : Nat) (p : List S39) (n : Int), d < k → p.length + d ≤ 1048576 → 1 ≤ n ∧ n ≤ 10000000 + 2 * p.length →
    laws_heldStrokeS.l0 k (p ++ upSt n d) n p.length = some (n + 2 * d) := by
  induction d with
  | zero =>
    intro k p n hk hl hn
    obtain ⟨k, rfl⟩ : ∃ j, k = j + 1 := ⟨k - 1, by omega⟩
    rw [laws_heldStrokeS.l0, if_neg (by simp [upSt])]; simp
  | succ d ih =>
    intro k p n hk hl hn
    obtain ⟨k, rfl⟩ : ∃ j, k = j + 1 := ⟨k - 1, by omega⟩
    rw [upSt, laws_heldStrokeS.l0, if_pos (by simp; omega), if_pos (by omega), rdS_get _ p.length (by simp), List.getElem_append_right (by omega)]
    simp only [Nat.sub_self, List.getElem_cons_zero, if_true]
    rw [w64 (x := n + 1) (by omega), if_pos rfl, w64 (x := n + 1 + 1) (by omega), w64 (by omega)]
    have := ih k (p ++ [⟨n, n + 1⟩]) (n + 2) (by omega) (by simp; omega) (by simp; omega)
    rw [show p ++ (⟨n, n + 1⟩ : S39) :: upSt (n + 2) d = (p ++ [⟨n, n + 1⟩]) ++ upSt (n + 2) d by simp, show ((p.length : Int) + 1) = (((p ++ [(⟨n, n + 1⟩ : S39)]).length : Nat) : Int) by simp, show n + 1 + 1 = n + 2 by omega, this]
    congr 1; omega
theorem heldSt_eq (d : Nat) (hl : d ≤ 1048576) (n : Int) (hn : 1 ≤ n ∧ n ≤ 10000000) (k : Nat) (hk : d < k) : laws_heldStrokeS.f k (upSt n d) n = some (n + 2 * (d : Int)) := by
  unfold laws_heldStrokeS.f
  have := heldSt_loop d k [] n hk (by simpa using hl) (by simp; omega)
  simpa using this

/-- with enough rounds the answer is r -/
def Evn {α : Type} (g : Nat → Option α) (r : α) : Prop := ∃ K, ∀ k, K ≤ k → g k = some r
theorem Evn.const {α : Type} {g : Nat → Option α} {r : α} (h : ∀ k, g k = some r) : Evn g r := ⟨0, fun k _ => h k⟩
theorem Evn.ge {α : Type} {g : Nat → Option α} {r : α} (K : Nat) (h : ∀ k, K ≤ k → g k = some r) : Evn g r := ⟨K, h⟩
theorem Evn.step {α : Type} {g h : Nat → Option α} {r : α} (hs : ∀ k, g (k + 1) = h k) (e : Evn h r) : Evn g r := by
  obtain ⟨K, hK⟩ := e
  refine ⟨K + 1, fun k hk => ?_⟩
  obtain ⟨j, rfl⟩ : ∃ j, k = j + 1 := ⟨k - 1, by omega⟩
  rw [hs]
  exact hK j (by omega)
theorem Evn.congr {α : Type} {g h : Nat → Option α} {r : α} (hs : ∀ k, g k = h k) (e : Evn h r) : Evn g r := by
  obtain ⟨K, hK⟩ := e
  exact ⟨K, fun k hk => by rw [hs]; exact hK k hk⟩
theorem Evn.bind {α β : Type} {g : Nat → Option α} {a : α} {h : Nat → α → Option β} {r : β} (e : Evn g a) (e2 : Evn (fun k => h k a) r) : Evn (fun k => (g k).bind (h k)) r := by
  obtain ⟨K, hK⟩ := e
  obtain ⟨M, hM⟩ := e2
  refine ⟨K + M, fun k hk => ?_⟩
  simp only []
  rw [hK k (by omega), Option.bind_some]
  exact hM k (by omega)
theorem Evn.both {α β : Type} {g : Nat → Option α} {h : Nat → Option β} {r : α} {q : β} (e : Evn g r) (f : Evn h q) : ∃ K, ∀ k, K ≤ k → g k = some r ∧ h k = some q := by
  obtain ⟨K, hK⟩ := e
  obtain ⟨M, hM⟩ := f
  exact ⟨K + M, fun k hk => ⟨hK k (by omega), hM k (by omega)⟩⟩

/-- the way of the head from a stroke to the next, and the sum of all ways -/
def absd (a b : Int) : Int := if a ≤ b then b - a else a - b
def way (ac : Int) (a b : S39) : Int := absd a.f1 b.f1 + ac * absd a.f0 b.f0
def ways (ac : Int) : List S39 → Int
  | a :: b :: r => way ac a b + ways ac (b :: r)
  | _ => 0
theorem way_bounds {ac : Int} (hac : 1 ≤ ac ∧ ac ≤ 50) {a b : S39} (ha : StrokeOK a) (hb : StrokeOK b) : 0 ≤ ac * absd a.f0 b.f0 ∧ ac * absd a.f0 b.f0 ≤ 950 ∧ 0 ≤ way ac a b ∧ way ac a b ≤ 3000 := by
  unfold StrokeOK at ha hb
  have h0 : 0 ≤ absd a.f0 b.f0 ∧ absd a.f0 b.f0 ≤ 19 := by unfold absd; split <;> omega
  have h1 : 0 ≤ absd a.f1 b.f1 ∧ absd a.f1 b.f1 ≤ 1999 := by unfold absd; split <;> omega
  have h2 : 0 ≤ ac * absd a.f0 b.f0 := Int.mul_nonneg (by omega) h0.1
  have h3 : ac * absd a.f0 b.f0 ≤ 50 * 19 := Int.mul_le_mul hac.2 h0.2 h0.1 (by omega)
  unfold way; omega
theorem ways_bounds {ac : Int} (hac : 1 ≤ ac ∧ ac ≤ 50) (l : List S39) (h : ∀ x ∈ l, StrokeOK x) : 0 ≤ ways ac l ∧ ways ac l ≤ 3000 * l.length := by
  induction l with
  | nil => simp [ways]
  | cons a r ih =>
    cases r with
    | nil => simp [ways]
    | cons b r =>
      have h1 := ih (fun x hx => h x (List.mem_cons_of_mem _ hx))
      have h2 := way_bounds hac (h a (by simp)) (h b (by simp))
      rw [ways]
      simp only [List.length_cons] at h1 ⊢
      omega

theorem abs_eq {a b : Int} (ha : 0 ≤ a ∧ a ≤ 5000) (hb : 0 ≤ b ∧ b ≤ 5000) : spec_l1Abs.f (wrap64 (a - b)) = some (absd a b) := by
  unfold spec_l1Abs.f spec_l1Most.f absd
  rw [w64 (x := a - b) (by omega), w64 (by omega)]
  by_cases h : a - b > -(a - b)
  · rw [if_pos h, if_neg (by omega)]; rfl
  · rw [if_neg h]
    split
    · simp; omega
    · omega
theorem specWay_eq {ac : Int} (hac : 1 ≤ ac ∧ ac ≤ 50) {a b : S39} (ha : StrokeOK a) (hb : StrokeOK b) : spec_puWay.f a.f0 a.f1 b.f0 b.f1 ac = some (way ac a b) := by
  have hw := way_bounds hac ha hb
  unfold StrokeOK at ha hb
  unfold spec_puWay.f
  rw [abs_eq (by omega) (by omega), abs_eq (by omega) (by omega)]
  simp only [Option.bind_some]
  unfold way at hw ⊢
  rw [w64 (x := ac * absd a.f0 b.f0) (by omega), w64 (by omega)]

theorem dist_eq {a b : Int} (ha : 0 ≤ a ∧ a ≤ 5000) (hb : 0 ≤ b ∧ b ≤ 5000) : impl_distance.f a b = some (absd a b) := by
  unfold impl_distance.f absd mx
  rw [w64 (x := a - b) (by omega), w64 (by omega)]
  congr 1
  split <;> split <;> omega
theorem implWay_eq {ac : Int} (hac : 1 ≤ ac ∧ ac ≤ 50) {a b : S39} (ha : StrokeOK a) (hb : StrokeOK b) : impl_headWay.f a.f0 a.f1 b.f0 b.f1 ac = some (way ac a b) := by
  have hw := way_bounds hac ha hb
  unfold StrokeOK at ha hb
  unfold impl_headWay.f
  rw [dist_eq (by omega) (by omega), dist_eq (by omega) (by omega)]
  simp only [Option.bind_some]
  unfold way at hw ⊢
  rw [w64 (x := ac * absd a.f0 b.f0) (by omega), w64 (by omega)]

theorem isAcross_eq (ac : Int) : impl_isAcross.f ac = some (decide (1 ≤ ac ∧ ac ≤ 50)) := by
  unfold impl_isAcross.f
  split
  · exact someD (by omega)
  · exact someF (by omega)

theorem has_loop (l : List Int) (hl : l.length ≤ 1000) (n : Int) (d : Nat) : ∀ (k i : Nat), i + d = l.length → d < k → spec_l1Has.l0 k n l l.length i = some (decide (n ∈ l.drop i)) := by
  induction d with
  | zero =>
    intro k i hi hk
    obtain ⟨k, rfl⟩ : ∃ j, k = j + 1 := ⟨k - 1, by omega⟩
    rw [spec_l1Has.l0, if_neg (by omega), List.drop_of_length_le (by omega)]
    simp
  | succ d ih =>
    intro k i hi hk
    obtain ⟨k, rfl⟩ : ∃ j, k = j + 1 := ⟨k - 1, by omega⟩
    have hi' : i < l.length := by omega
    have e := ih k (i + 1) (by omega) (by omega)
    rw [spec_l1Has.l0, if_pos (by omega), if_pos (by omega), if_pos (by omega), rd_get l i hi', (show wrap64 ((i : Int) + 1) = ((i + 1 : Nat) : Int) by rw [w64 (by omega)]; omega), e, drop_get l i hi']
    by_cases h : l[i] = n
    · rw [if_pos h]
      congr 1
      rw [eq_comm, decide_eq_true_eq]
      rw [h]; exact List.mem_cons_self
    · rw [if_neg h]
      congr 1
      rw [decide_eq_decide, List.mem_cons]
      exact ⟨fun h' => .inr h', fun h' => h'.elim (fun e => absurd e.symm h) id⟩
theorem has_eq (l : List Int) (hl : l.length ≤ 1000) (n : Int) (k : Nat) (hk : l.length < k) : spec_l1Has.f k l n = some (decide (n ∈ l)) := by
  unfold spec_l1Has.f
  have := has_loop l hl n l.length k 0 (by omega) hk
  exact this

/-- the way from the last stroke of an order to stroke i -/
def stepW (l : List S39) (ac : Int) (o : List Int) (i : Int) : Int := way ac (rd_T39 l (rd o ((o.length : Int) - 1))) (rd_T39 l i)
/-- the whole orders behind an order, with their ways -/
def leaves (l : List S39) (ac : Int) : Nat → List Int → Int → List (List Int × Int)
  | 0, o, w => [(o, w)]
  | d + 1, o, w => (List.range' 0 l.length).flatMap (fun i : Nat => if (i : Int) ∈ o then [] else leaves l ac d (o ++ [(i : Int)]) (w + stepW l ac o (i : Int)))
def updI (b x : List Int × Int) : List Int × Int := if b.2 < 0 ∨ x.2 < b.2 then x else b
def updS (b x : List Int × Int) : List Int × Int := if 0 < b.1.length ∧ x.2 ≥ b.2 then b else x
/-- an order with some way, d strokes short of all -/
def OrdOK (l : List S39) (d : Nat) (o : List Int) (w : Int) : Prop := o.length + d = l.length ∧ 1 ≤ o.length ∧ (∀ x ∈ o, 0 ≤ x ∧ x < l.length) ∧ 0 ≤ w ∧ w ≤ 3000 * o.length
theorem rdI_mem (o : List Int) (i : Int) (h0 : 0 ≤ i) (h1 : i < o.length) : rd o i ∈ o := by
  obtain ⟨n, rfl⟩ : ∃ n : Nat, i = n := ⟨i.toNat, by omega⟩
  rw [rd_get o n (by omega)]
  exact List.getElem_mem _
theorem rdSt_mem (l : List S39) (i : Int) (h0 : 0 ≤ i) (h1 : i < l.length) : rd_T39 l i ∈ l := by
  obtain ⟨n, rfl⟩ : ∃ n : Nat, i = n := ⟨i.toNat, by omega⟩
  rw [rdS_get l n (by omega)]
  exact List.getElem_mem _
theorem OrdOK.last {l : List S39} {d : Nat} {o : List Int} {w : Int} (h : OrdOK l d o w) : 0 ≤ rd o ((o.length : Int) - 1) ∧ rd o ((o.length : Int) - 1) < l.length := by
  obtain ⟨h1, h2, h3, _⟩ := h
  exact h3 _ (rdI_mem o _ (by omega) (by omega))
theorem stepW_bounds {l : List S39} (hl : ∀ x ∈ l, StrokeOK x) {ac : Int} (hac : 1 ≤ ac ∧ ac ≤ 50) {d : Nat} {o : List Int} {w : Int} (h : OrdOK l d o w) (i : Int) (h0 : 0 ≤ i) (h1 : i < l.length) : 0 ≤ stepW l ac o i ∧ stepW l ac o i ≤ 3000 := by
  have hw := way_bounds hac (hl _ (rdSt_mem l _ h.last.1 h.last.2)) (hl _ (rdSt_mem l i h0 h1))
  exact hw.2.2
theorem OrdOK.next {l : List S39} (hl : ∀ x ∈ l, StrokeOK x) {ac : Int} (hac : 1 ≤ ac ∧ ac ≤ 50) {d : Nat} {o : List Int} {w : Int} (h : OrdOK l (d + 1) o w) (i : Nat) (h1 : i < l.length) : OrdOK l d (o ++ [(i : Int)]) (w + stepW l ac o (i : Int)) := by
  have hs := stepW_bounds hl hac h (i : Int) (by omega) (by omega)
  obtain ⟨h2, h3, h4, h5, h6⟩ := h
  refine ⟨by simp; omega, by simp, ?_, by omega, by simp only [List.length_append, List.length_cons, List.length_nil]; omega⟩
  intro x hx
  rcases List.mem_append.1 hx with hx | hx
  · exact h4 x hx
  · rw [List.mem_singleton] at hx
    subst hx
    omega
/-- no way grows less -/
theorem leaves_ge {l : List S39} (hl : ∀ x ∈ l, StrokeOK x) {ac : Int} (hac : 1 ≤ ac ∧ ac ≤ 50) : ∀ (d : Nat) (o : List Int) (w : Int), OrdOK l d o w → ∀ x ∈ leaves l ac d o w, w ≤ x.2 ∧ 0 < x.1.length
  | 0, o, w, h => by
    intro x hx
    rw [leaves, List.mem_singleton] at hx
    subst hx
    exact ⟨Int.le_refl _, by have := h.2.1; simp only; omega⟩
  | d + 1, o, w, h => by
    intro x hx
    rw [leaves, List.mem_flatMap] at hx
    obtain ⟨i, hi, hx⟩ := hx
    have hi2 : i < l.length := by have := List.mem_range'_1.1 hi; omega
    split at hx
    · cases hx
    · have h1 := leaves_ge hl hac d _ _ (h.next hl hac i hi2) x hx
      have h2 := stepW_bounds hl hac h (i : Int) (by omega) (by omega)
      exact ⟨by omega, h1.2⟩
theorem foldS_keep (b : List Int × Int) : ∀ (L : List (List Int × Int)), 0 < b.1.length → (∀ x ∈ L, b.2 ≤ x.2) → L.foldl updS b = b
  | [], _, _ => rfl
  | a :: L, h, hL => by
    rw [List.foldl_cons]
    have e : updS b a = b := if_pos ⟨h, hL a (by simp)⟩
    rw [e]
    exact foldS_keep b L h (fun x hx => hL x (List.mem_cons_of_mem _ hx))
theorem fold_same : ∀ (L : List (List Int × Int)) (b : List Int × Int), 0 < b.1.length → 0 ≤ b.2 → (∀ x ∈ L, 0 ≤ x.2 ∧ 0 < x.1.length) → L.foldl updI b = L.foldl updS b
  | [], _, _, _, _ => rfl
  | a :: L, b, h1, h2, hL => by
    have ha := hL a (by simp)
    rw [List.foldl_cons, List.foldl_cons]
    by_cases h : a.2 < b.2
    · rw [show updI b a = a from if_pos (Or.inr h), show updS b a = a from if_neg (by omega)]
      exact fold_same L a ha.2 ha.1 (fun x hx => hL x (List.mem_cons_of_mem _ hx))
    · rw [show updI b a = b from if_neg (by omega), show updS b a = b from if_pos ⟨h1, by omega⟩]
      exact fold_same L b h1 h2 (fun x hx => hL x (List.mem_cons_of_mem _ hx))
theorem foldI_in : ∀ (L : List (List Int × Int)) (b : List Int × Int), L.foldl updI b ∈ b :: L
  | [], b => by simp
  | a :: L, b => by
    rw [List.foldl_cons]
    have h := foldI_in L (updI b a)
    have e : updI b a = a ∨ updI b a = b := by unfold updI; split <;> simp
    rcases List.mem_cons.1 h with h | h
    · rw [h]
      rcases e with e | e <;> rw [e] <;> simp
    · exact List.mem_cons_of_mem _ (List.mem_cons_of_mem _ h)
/-- there is a whole order -/
theorem leaves_some (l : List S39) (ac : Int) : ∀ (d : Nat) (m : Nat) (w : Int), m + d = l.length → leaves l ac d ((List.range' 0 m).map (fun i : Nat => (i : Int))) w ≠ []
  | 0, m, w, _ => by simp [leaves]
  | d + 1, m, w, h => by
    intro e
    rw [leaves, List.flatMap_eq_nil_iff] at e
    have e1 := e m (List.mem_range'_1.2 ⟨by omega, by omega⟩)
    rw [if_neg (by
      intro hm
      obtain ⟨x, hx, e2⟩ := List.mem_map.1 hm
      have := List.mem_range'_1.1 hx
      omega)] at e1
    refine leaves_some l ac d (m + 1) (w + stepW l ac ((List.range' 0 m).map (fun i : Nat => (i : Int))) (m : Int)) (by omega) ?_
    rw [List.range'_concat, List.map_append]
    simpa using e1
/-- the order and the way that both find -/
def bestOrd (l : List S39) (ac : Int) : List Int × Int := (leaves l ac (l.length - 1) [0] 0).foldl updI ([], -1)
theorem first_ok (l : List S39) (h : 1 ≤ l.length) : OrdOK l (l.length - 1) [0] 0 := ⟨by simp; omega, by simp, fun x hx => by rw [List.mem_singleton] at hx; subst hx; omega, by omega, by simp⟩
theorem bestOrd_spec {l : List S39} (hl : ∀ x ∈ l, StrokeOK x) {ac : Int} (hac : 1 ≤ ac ∧ ac ≤ 50) (h : 1 ≤ l.length) : (leaves l ac (l.length - 1) [0] 0).foldl updS ([], 0) = bestOrd l ac := by
  have hg := leaves_ge hl hac _ _ _ (first_ok l h)
  have hn := leaves_some l ac (l.length - 1) 1 0 (by omega)
  rw [show (List.range' 0 1).map (fun i : Nat => (i : Int)) = [0] from rfl] at hn
  unfold bestOrd
  generalize leaves l ac (l.length - 1) [0] 0 = L at *
  cases L with
  | nil => exact absurd rfl hn
  | cons a L =>
    have ha := hg a (by simp)
    rw [List.foldl_cons, List.foldl_cons, show updS ([], 0) a = a from if_neg (fun hh => by simp at hh), show updI ([], -1) a = a from if_pos (Or.inl (by decide))]
    exact (fold_same L a ha.2 (by omega) (fun x hx => by have := hg x (List.mem_cons_of_mem _ hx); exact ⟨by omega, this.2⟩)).symm
theorem leaves_in {l : List S39} (hl : ∀ x ∈ l, StrokeOK x) {ac : Int} (hac : 1 ≤ ac ∧ ac ≤ 50) : ∀ (d : Nat) (o : List Int) (w : Int), OrdOK l d o w → ∀ x ∈ leaves l ac d o w, OrdOK l 0 x.1 x.2
  | 0, o, w, h => by
    intro x hx
    rw [leaves, List.mem_singleton] at hx
    subst hx
    exact h
  | d + 1, o, w, h => by
    intro x hx
    rw [leaves, List.mem_flatMap] at hx
    obtain ⟨i, hi, hx⟩ := hx
    have hi2 : i < l.length := by have := List.mem_range'_1.1 hi; omega
    split at hx
    · cases hx
    · exact leaves_in hl hac d _ _ (h.next hl hac i hi2) x hx
theorem bestOrd_in {l : List S39} (hl : ∀ x ∈ l, StrokeOK x) {ac : Int} (hac : 1 ≤ ac ∧ ac ≤ 50) (h : 1 ≤ l.length) : (∀ x ∈ (bestOrd l ac).1, 0 ≤ x ∧ x < (l.length : Int)) ∧ (bestOrd l ac).1.length ≤ l.length := by
  have := foldI_in (leaves l ac (l.length - 1) [0] 0) ([], -1)
  rcases List.mem_cons.1 this with e | e
  · unfold bestOrd
    rw [e]
    exact ⟨by simp, by simp⟩
  · have h2 := leaves_in hl hac _ _ _ (first_ok l h) _ e
    exact ⟨h2.2.2.1, by have := h2.1; unfold bestOrd; omega⟩

theorem index_loop (o : List Int) (ho : o.length ≤ 1000) (n : Int) (d : Nat) : ∀ (k i : Nat), i + d = o.length → d < k →
    ∃ r, slices_Index_int_int.l0 k o n o.length i = some r ∧ decide (r ≥ 0) = decide (n ∈ o.drop i) := by
  induction d with
  | zero =>
    intro k i hi hk
    obtain ⟨k, rfl⟩ : ∃ j, k = j + 1 := ⟨k - 1, by omega⟩
    rw [slices_Index_int_int.l0, if_neg (by omega), List.drop_of_length_le (by omega)]
    exact ⟨-1, rfl, by simp⟩
  | succ d ih =>
    intro k i hi hk
    obtain ⟨k, rfl⟩ : ∃ j, k = j + 1 := ⟨k - 1, by omega⟩
    have hi' : i < o.length := by omega
    obtain ⟨r, e, q⟩ := ih k (i + 1) (by omega) (by omega)
    rw [slices_Index_int_int.l0, if_pos (by omega), if_pos (by omega), if_pos (by omega), rd_get o i hi', w64 (by omega), show ((i : Int) + 1) = ((i + 1 : Nat) : Int) by omega, e, drop_get o i hi']
    by_cases h : n = o[i]
    · rw [if_pos h]
      refine ⟨i, rfl, ?_⟩
      rw [decide_eq_true (show (i : Int) ≥ 0 by omega), h]
      exact (decide_eq_true List.mem_cons_self).symm
    · rw [if_neg h]
      refine ⟨r, rfl, ?_⟩
      rw [q, decide_eq_decide, List.mem_cons]
      exact ⟨fun h' => .inr h', fun h' => h'.elim (fun e => absurd e h) id⟩
theorem contains_eq (o : List Int) (ho : o.length ≤ 1000) (n : Int) (k : Nat) (hk : o.length < k) : slices_Contains_int_int.f k o n = some (decide (n ∈ o)) := by
  unfold slices_Contains_int_int.f slices_Index_int_int.f
  obtain ⟨r, e, q⟩ := index_loop o ho n o.length k 0 (by omega) hk
  have e' : slices_Index_int_int.l0 k o n o.length 0 = some r := e
  rw [e', Option.bind_some, q]
  rfl
theorem implTry_step {l : List S39} (hn : l.length ≤ 7) (hl : ∀ x ∈ l, StrokeOK x) {ac : Int} (hac : 1 ≤ ac ∧ ac ≤ 50) {d : Nat} {o : List Int} {w : Int} (h : OrdOK l (d + 1) o w) (k i : Nat) (hi : i < l.length) (b0 : List Int) (b1 : Int) :
    impl_tryOrders.l0 (k + 1) l o w ac l.length i b0 b1 = (slices_Contains_int_int.f k o i).bind fun t => if t = true then impl_tryOrders.l0 k l o w ac l.length ((i + 1 : Nat) : Int) b0 b1
      else (impl_tryOrders.f k l (o ++ [(i : Int)]) (w + stepW l ac o i) ac b0 b1).bind fun bt => impl_tryOrders.l0 k l o w ac l.length ((i + 1 : Nat) : Int) bt.1 bt.2 := by
  have hb := stepW_bounds hl hac h (i : Int) (by omega) (by omega)
  have hla := h.last
  have hw := implWay_eq hac (hl _ (rdSt_mem l _ hla.1 hla.2)) (hl _ (rdSt_mem l (i : Int) (by omega) (by omega)))
  obtain ⟨h1, h2, h3, h4, h5⟩ := h
  have e1 : wrap64 ((o.length : Int) - 1) = (o.length : Int) - 1 := w64 (by omega)
  have e2 : wrap64 ((i : Int) + 1) = ((i + 1 : Nat) : Int) := by rw [w64 (by omega)]; omega
  have e3 : wrap64 (w + stepW l ac o i) = w + stepW l ac o i := w64 (by omega)
  rw [impl_tryOrders.l0, if_pos (by omega), e1, e2]
  congr 1
  funext t
  by_cases ht : t = true
  · rw [if_pos ht, if_pos ht]
  · rw [if_neg ht, if_neg ht, if_pos (by omega), if_pos (by omega), if_pos hla.1, if_pos hla.2, if_pos (by omega), if_pos (by omega), hw]
    unfold slices_Clone_int.f
    rw [if_pos (by omega)]
    simp only [Option.bind_some]
    rw [if_pos (by omega), show way ac (rd_T39 l (rd o ((o.length : Int) - 1))) (rd_T39 l (i : Int)) = stepW l ac o i from rfl, e3]
theorem implTry_eq {l : List S39} (hn : l.length ≤ 7) (hl : ∀ x ∈ l, StrokeOK x) {ac : Int} (hac : 1 ≤ ac ∧ ac ≤ 50) : ∀ (d : Nat) (o : List Int) (w : Int) (b : List Int × Int), OrdOK l d o w →
    Evn (fun k => impl_tryOrders.f k l o w ac b.1 b.2) ((leaves l ac d o w).foldl updI b)
  | 0, o, w, b, h => by
    refine Evn.step (h := fun _ => some (updI b (o, w))) (fun k => ?_) (Evn.const fun _ => rfl)
    have h1 := h.1
    rw [impl_tryOrders.f, if_pos (by omega)]
    unfold slices_Clone_int.f updI
    simp only [if_pos (show o.length ≤ 17592186044416 by omega), Option.bind_some]
    by_cases c : b.2 < 0
    · rw [if_pos c, if_pos (Or.inl c)]
    · by_cases c2 : w < b.2
      · rw [if_neg c, if_pos c2, if_pos (Or.inr c2)]
      · rw [if_neg c, if_neg c2, if_neg (by omega)]
  | d + 1, o, w, b, h => by
    have h1 := h.1
    have ih := fun o w b h' => implTry_eq hn hl hac d o w b h'
    have loop : ∀ (m i : Nat) (b : List Int × Int), i + m = l.length → Evn (fun k => impl_tryOrders.l0 k l o w ac l.length i b.1 b.2)
        (((List.range' i m).flatMap (fun i : Nat => if (i : Int) ∈ o then [] else leaves l ac d (o ++ [(i : Int)]) (w + stepW l ac o (i : Int)))).foldl updI b) := by
      intro m
      induction m with
      | zero =>
        intro i b hi
        refine Evn.step (h := fun _ => some b) (fun k => ?_) (Evn.const fun _ => rfl)
        rw [impl_tryOrders.l0, if_neg (by omega)]
      | succ m ihm =>
        intro i b hi
        refine Evn.step (fun k => implTry_step hn hl hac h k i (by omega) b.1 b.2) ?_
        refine Evn.bind (Evn.ge (o.length + 1) (fun k hk => contains_eq o (by omega) i k (by omega))) ?_
        rw [List.range'_succ, List.flatMap_cons, List.foldl_append]
        by_cases c : (i : Int) ∈ o
        · rw [if_pos c, List.foldl_nil]
          exact Evn.congr (fun k => if_pos (decide_eq_true c)) (ihm (i + 1) b (by omega))
        · rw [if_neg c]
          refine Evn.congr (fun k => if_neg (by rw [decide_eq_false c]; decide)) ?_
          exact Evn.bind (ih _ _ b (h.next hl hac i (by omega))) (ihm (i + 1) _ (by omega))
    refine Evn.step (h := fun k => impl_tryOrders.l0 k l o w ac l.length ((0 : Nat) : Int) b.1 b.2) (fun k => ?_) (loop l.length 0 b (by omega))
    rw [impl_tryOrders.f, if_neg (by omega)]
    rfl

theorem specTry_step {l : List S39} (hn : l.length ≤ 7) (hl : ∀ x ∈ l, StrokeOK x) {ac : Int} (hac : 1 ≤ ac ∧ ac ≤ 50) {d : Nat} {o : List Int} {w : Int} (h : OrdOK l (d + 1) o w) (k i : Nat) (hi : i < l.length) (b0 : List Int) (b1 : Int) :
    spec_puBest_try.l0 (k + 1) o w l ac l.length i b0 b1 = (spec_l1Has.f k o i).bind fun t => if t = true then spec_puBest_try.l0 k o w l ac l.length ((i + 1 : Nat) : Int) b0 b1
      else (spec_puBest_try.f k b0 b1 (o ++ [(i : Int)]) (w + stepW l ac o i) l ac).bind fun bt => spec_puBest_try.l0 k o w l ac l.length ((i + 1 : Nat) : Int) bt.1 bt.2 := by
  have hb := stepW_bounds hl hac h (i : Int) (by omega) (by omega)
  have hla := h.last
  have hw := specWay_eq hac (hl _ (rdSt_mem l _ hla.1 hla.2)) (hl _ (rdSt_mem l (i : Int) (by omega) (by omega)))
  obtain ⟨h1, h2, h3, h4, h5⟩ := h
  have e1 : wrap64 ((o.length : Int) - 1) = (o.length : Int) - 1 := w64 (by omega)
  have e2 : wrap64 ((i : Int) + 1) = ((i + 1 : Nat) : Int) := by rw [w64 (by omega)]; omega
  have e3 : wrap64 (w + stepW l ac o i) = w + stepW l ac o i := w64 (by omega)
  rw [spec_puBest_try.l0, if_pos (by omega), e1, e2]
  congr 1
  funext t
  by_cases ht : t = true
  · rw [if_pos ht, if_pos ht]
  · rw [if_neg ht, if_neg ht, if_pos (by omega), if_pos (by omega), if_pos hla.1, if_pos hla.2, hw]
    unfold spec_l1Own.f spec_ownPut.f
    simp only [Option.bind_some, List.nil_append, List.length_nil, Nat.zero_add]
    rw [if_pos (by omega), if_pos (by omega)]
    simp only [Option.bind_some]
    rw [if_pos (by omega), if_pos (by omega), show way ac (rd_T39 l (rd o ((o.length : Int) - 1))) (rd_T39 l (i : Int)) = stepW l ac o i from rfl, e3]
theorem specTry_eq {l : List S39} (hn : l.length ≤ 7) (hl : ∀ x ∈ l, StrokeOK x) {ac : Int} (hac : 1 ≤ ac ∧ ac ≤ 50) : ∀ (d : Nat) (o : List Int) (w : Int) (b : List Int × Int), OrdOK l d o w →
    Evn (fun k => spec_puBest_try.f k b.1 b.2 o w l ac) ((leaves l ac d o w).foldl updS b) := by
  -- a search that is cut short changes nothing
  have cut : ∀ (d : Nat) (o : List Int) (w : Int) (b : List Int × Int), OrdOK l d o w → Evn (fun k => spec_puBest_try.j0 k o w l ac false b.1 b.2) (if 0 < b.1.length ∧ w ≥ b.2 then b else (leaves l ac d o w).foldl updS b) →
      ¬ (0 < b.1.length ∧ w ≥ b.2) → Evn (fun k => spec_puBest_try.f k b.1 b.2 o w l ac) ((leaves l ac d o w).foldl updS b) := by
    intro d o w b h e c
    rw [if_neg c] at e
    refine Evn.step (h := fun k => spec_puBest_try.j0 k o w l ac false b.1 b.2) (fun k => ?_) e
    rw [spec_puBest_try.f]
    by_cases c1 : (b.1.length : Int) > 0
    · rw [if_pos c1, decide_eq_false (show ¬ w ≥ b.2 from fun hh => c ⟨by omega, hh⟩)]
    · rw [if_neg c1]
  have over : ∀ (d : Nat) (o : List Int) (w : Int) (b : List Int × Int), OrdOK l d o w → (0 < b.1.length ∧ w ≥ b.2) → Evn (fun k => spec_puBest_try.f k b.1 b.2 o w l ac) ((leaves l ac d o w).foldl updS b) := by
    intro d o w b h c
    have hg := leaves_ge hl hac d o w h
    rw [foldS_keep b _ c.1 (fun x hx => by have := hg x hx; omega)]
    refine Evn.step (h := fun k => spec_puBest_try.j0 k o w l ac true b.1 b.2) (fun k => ?_) (Evn.step (h := fun _ => some b) (fun k => ?_) (Evn.const fun _ => rfl))
    · rw [spec_puBest_try.f, if_pos (by omega), decide_eq_true c.2]
    · rw [spec_puBest_try.j0, if_pos rfl]
  intro d
  induction d with
  | zero =>
    intro o w b h
    by_cases c : 0 < b.1.length ∧ w ≥ b.2
    · exact over 0 o w b h c
    · refine cut 0 o w b h ?_ c
      rw [if_neg c]
      have h1 := h.1
      refine Evn.step (h := fun _ => some (updS b (o, w))) (fun k => ?_) (Evn.const fun _ => rfl)
      rw [spec_puBest_try.j0, if_neg (by decide), if_pos (by omega)]
      unfold updS
      rw [if_neg c]
  | succ d ih =>
    intro o w b h
    by_cases c : 0 < b.1.length ∧ w ≥ b.2
    · exact over (d + 1) o w b h c
    · refine cut (d + 1) o w b h ?_ c
      rw [if_neg c]
      have h1 := h.1
      have loop : ∀ (m i : Nat) (b : List Int × Int), i + m = l.length → Evn (fun k => spec_puBest_try.l0 k o w l ac l.length i b.1 b.2)
          (((List.range' i m).flatMap (fun i : Nat => if (i : Int) ∈ o then [] else leaves l ac d (o ++ [(i : Int)]) (w + stepW l ac o (i : Int)))).foldl updS b) := by
        intro m
        induction m with
        | zero =>
          intro i b hi
          refine Evn.step (h := fun _ => some b) (fun k => ?_) (Evn.const fun _ => rfl)
          rw [spec_puBest_try.l0, if_neg (by omega)]
        | succ m ihm =>
          intro i b hi
          refine Evn.step (fun k => specTry_step hn hl hac h k i (by omega) b.1 b.2) ?_
          refine Evn.bind (Evn.ge (o.length + 1) (fun k hk => has_eq o (by omega) i k (by omega))) ?_
          rw [List.range'_succ, List.flatMap_cons, List.foldl_append]
          by_cases c : (i : Int) ∈ o
          · rw [if_pos c, List.foldl_nil]
            exact Evn.congr (fun k => if_pos (decide_eq_true c)) (ihm (i + 1) b (by omega))
          · rw [if_neg c]
            refine Evn.congr (fun k => if_neg (by rw [decide_eq_false c]; decide)) ?_
            exact Evn.bind (ih _ _ b (h.next hl hac i (by omega))) (ihm (i + 1) _ (by omega))
      refine Evn.step (h := fun k => spec_puBest_try.l0 k o w l ac l.length ((0 : Nat) : Int) b.1 b.2) (fun k => ?_) (loop l.length 0 b (by omega))
      rw [spec_puBest_try.j0, if_neg (by decide), if_neg (by omega)]
      rfl

theorem Evn.map {α β : Type} {g : Nat → Option α} {r : α} (f : α → β) (e : Evn g r) : Evn (fun k => (g k).map f) (f r) := by
  obtain ⟨K, hK⟩ := e
  exact ⟨K, fun k hk => by simp only []; rw [hK k hk]; rfl⟩
/-- what ShortestOrder answers -/
def shOf (l : List S39) (ac : Int) : List S39 × Int × Bool :=
  if StrokesOK l ∧ l.length ≤ 7 ∧ (1 ≤ ac ∧ ac ≤ 50) then (if l.length = 0 then ([], 0, true) else ((bestOrd l ac).1.map (rd_T39 l), (bestOrd l ac).2, true)) else ([], 0, false)
theorem shOf_length (l : List S39) (ac : Int) : (shOf l ac).1.length ≤ 7 := by
  unfold shOf
  split
  · rename_i h
    split
    · simp
    · have := (bestOrd_in h.1.1 h.2.2 (by omega)).2
      simp only [List.length_map]
      omega
  · simp
theorem implOut_loop (l : List S39) (o : List Int) (ho : o.length ≤ 7) (hin : ∀ x ∈ o, 0 ≤ x ∧ x < (l.length : Int)) (n : Int) (m : Nat) : ∀ (i : Nat) (x : List S39), i + m = o.length → x.length ≤ i →
    Evn (fun k => impl_ShortestOrder.l0 k l n x o o.length i) (x ++ (o.drop i).map (rd_T39 l), n, true) := by
  induction m with
  | zero =>
    intro i x hi hx
    refine Evn.step (h := fun _ => some (x, n, true)) (fun k => ?_) (Evn.const fun _ => ?_)
    · rw [impl_ShortestOrder.l0, if_neg (by omega)]
    · rw [List.drop_of_length_le (by omega)]; simp
  | succ m ih =>
    intro i x hi hx
    have hi' : i < o.length := by omega
    have hr := hin _ (rdI_mem o (i : Int) (by omega) (by omega))
    have := ih (i + 1) (x ++ [rd_T39 l (rd o (i : Int))]) (by omega) (by rw [List.length_append, List.length_cons, List.length_nil]; omega)
    rw [List.append_assoc, List.singleton_append, rd_get o i hi'] at this
    rw [drop_get o i hi', List.map_cons]
    refine Evn.step (fun k => ?_) this
    rw [impl_ShortestOrder.l0, if_pos (by omega), if_pos (by omega), if_pos (by omega), if_pos hr.1, if_pos hr.2, if_pos (by omega), w64 (by omega), rd_get o i hi', show ((i : Int) + 1) = ((i + 1 : Nat) : Int) by omega]
theorem specOut_loop (l : List S39) (o : List Int) (ho : o.length ≤ 7) (hin : ∀ x ∈ o, 0 ≤ x ∧ x < (l.length : Int)) (n : Int) (m : Nat) : ∀ (i : Nat) (x : List S39), i + m = o.length → x.length ≤ i →
    Evn (fun k => spec_ShortestOrder.l0 k l n x o o.length i) (x ++ (o.drop i).map (rd_T39 l), n, true) := by
  induction m with
  | zero =>
    intro i x hi hx
    refine Evn.step (h := fun _ => some (x, n, true)) (fun k => ?_) (Evn.const fun _ => ?_)
    · rw [spec_ShortestOrder.l0, if_neg (by omega)]
    · rw [List.drop_of_length_le (by omega)]; simp
  | succ m ih =>
    intro i x hi hx
    have hi' : i < o.length := by omega
    have hr := hin _ (rdI_mem o (i : Int) (by omega) (by omega))
    have := ih (i + 1) (x ++ [rd_T39 l (rd o (i : Int))]) (by omega) (by rw [List.length_append, List.length_cons, List.length_nil]; omega)
    rw [List.append_assoc, List.singleton_append, rd_get o i hi'] at this
    rw [drop_get o i hi', List.map_cons]
    refine Evn.step (fun k => ?_) this
    rw [spec_ShortestOrder.l0, if_pos (by omega), if_pos (by omega), if_pos (by omega), if_pos hr.1, if_pos hr.2, if_pos (by omega), w64 (by omega), rd_get o i hi', show ((i : Int) + 1) = ((i + 1 : Nat) : Int) by omega]
theorem implShort_j0 (l : List S39) (ac : Int) (c : Bool) (hc : c = true ↔ ¬ (StrokesOK l ∧ l.length ≤ 7 ∧ (1 ≤ ac ∧ ac ≤ 50))) : Evn (fun k => impl_ShortestOrder.j0 k l ac c) (shOf l ac) := by
  unfold shOf
  by_cases h : StrokesOK l ∧ l.length ≤ 7 ∧ (1 ≤ ac ∧ ac ≤ 50)
  · have e : c = false := by cases c; rfl; exact absurd h (hc.1 rfl)
    subst e
    rw [if_pos h]
    by_cases h0 : l.length = 0
    · rw [if_pos h0]
      refine Evn.step (h := fun _ => some ([], 0, true)) (fun k => ?_) (Evn.const fun _ => rfl)
      rw [impl_ShortestOrder.j0, if_neg (by decide), if_pos (by omega)]
    · rw [if_neg h0]
      have hb := bestOrd_in h.1.1 h.2.2 (l := l) (by omega)
      have ht : Evn (fun k => impl_tryOrders.f k l [0] 0 ac [] (-1)) (bestOrd l ac) := implTry_eq h.2.1 h.1.1 h.2.2 _ _ _ ([], -1) (first_ok l (by omega))
      refine Evn.step (h := fun k => (impl_shortWay.f k l ac).bind fun t => (impl_shortOrd.f k l ac).bind fun o => impl_ShortestOrder.l0 k l t [] o (o.length : Int) ((0 : Nat) : Int)) (fun k => ?_) ?_
      · rw [impl_ShortestOrder.j0, if_neg (by decide), if_neg (by omega)]
        rfl
      · refine Evn.bind (ht.map Prod.snd) (Evn.bind (ht.map Prod.fst) ?_)
        have := implOut_loop l (bestOrd l ac).1 (by omega) hb.1 (bestOrd l ac).2 _ 0 [] (Nat.zero_add _) (by simp)
        simpa using this
  · rw [if_neg h]
    have e : c = true := hc.2 h
    subst e
    refine Evn.step (h := fun _ => some ([], 0, false)) (fun k => ?_) (Evn.const fun _ => rfl)
    rw [impl_ShortestOrder.j0, if_pos rfl]
theorem specShort_j0 (l : List S39) (ac : Int) (c : Bool) (hc : c = true ↔ ¬ (StrokesOK l ∧ l.length ≤ 7 ∧ (1 ≤ ac ∧ ac ≤ 50))) : Evn (fun k => spec_ShortestOrder.j0 k l ac c) (shOf l ac) := by
  unfold shOf
  by_cases h : StrokesOK l ∧ l.length ≤ 7 ∧ (1 ≤ ac ∧ ac ≤ 50)
  · have e : c = false := by cases c; rfl; exact absurd h (hc.1 rfl)
    subst e
    rw [if_pos h]
    by_cases h0 : l.length = 0
    · rw [if_pos h0]
      refine Evn.step (h := fun _ => some ([], 0, true)) (fun k => ?_) (Evn.const fun _ => rfl)
      rw [spec_ShortestOrder.j0, if_neg (by decide), if_pos (by omega)]
    · rw [if_neg h0]
      have hb := bestOrd_in h.1.1 h.2.2 (l := l) (by omega)
      have ht : Evn (fun k => spec_puBest_try.f k [] 0 [0] 0 l ac) (bestOrd l ac) := by
        have := specTry_eq h.2.1 h.1.1 h.2.2 _ _ _ ([], 0) (first_ok l (by omega))
        rw [bestOrd_spec h.1.1 h.2.2 (by omega)] at this
        exact this
      refine Evn.step (h := fun k => (spec_shortWay.f k l ac).bind fun t => (spec_shortOrd.f k l ac).bind fun o => spec_ShortestOrder.l0 k l t [] o (o.length : Int) ((0 : Nat) : Int)) (fun k => ?_) ?_
      · rw [spec_ShortestOrder.j0, if_neg (by decide), if_neg (by omega)]
        rfl
      · refine Evn.bind (ht.map Prod.snd) (Evn.bind (ht.map Prod.fst) ?_)
        have := specOut_loop l (bestOrd l ac).1 (by omega) hb.1 (bestOrd l ac).2 _ 0 [] (Nat.zero_add _) (by simp)
        simpa using this
  · rw [if_neg h]
    have e : c = true := hc.2 h
    subst e
    refine Evn.step (h := fun _ => some ([], 0, false)) (fun k => ?_) (Evn.const fun _ => rfl)
    rw [spec_ShortestOrder.j0, if_pos rfl]
theorem implShort_eq (l : List S39) (hl : l.length ≤ 1048576) (ac : Int) : Evn (fun k => impl_ShortestOrder.f k l ac) (shOf l ac) := by
  refine Evn.bind (Evn.ge (l.length + 1) (fun k hk => areStrokes_eq l hl k (by omega))) ?_
  by_cases h : StrokesOK l
  · refine Evn.congr (fun k => if_pos (decide_eq_true h)) ?_
    by_cases h7 : (l.length : Int) > 7
    · exact Evn.congr (fun k => if_pos h7) (implShort_j0 l ac true ⟨fun _ hh => by omega, fun _ => rfl⟩)
    · refine Evn.congr (fun k => if_neg h7) (Evn.congr (h := fun k => impl_ShortestOrder.j0 k l ac (!decide (1 ≤ ac ∧ ac ≤ 50))) (fun k => by rw [isAcross_eq, Option.bind_some]) (implShort_j0 l ac _ ?_))
      rw [Bool.not_eq_true', decide_eq_false_iff_not]
      exact ⟨fun hh h2 => hh h2.2.2, fun hh h2 => hh ⟨h, by omega, h2⟩⟩
  · exact Evn.congr (fun k => if_neg (by rw [decide_eq_false h]; decide)) (implShort_j0 l ac true ⟨fun _ hh => h hh.1, fun _ => rfl⟩)
theorem specShort_eq (l : List S39) (hl : l.length ≤ 1048576) (ac : Int) : Evn (fun k => spec_ShortestOrder.f k l ac) (shOf l ac) := by
  refine Evn.bind (Evn.ge (l.length + 1) (fun k hk => puGood_eq l hl k (by omega))) ?_
  by_cases h : StrokesOK l
  · refine Evn.congr (fun k => if_pos (decide_eq_true h)) ?_
    by_cases h7 : (l.length : Int) > 7
    · exact Evn.congr (fun k => if_pos h7) (specShort_j0 l ac true ⟨fun _ hh => by omega, fun _ => rfl⟩)
    · refine Evn.congr (fun k => if_neg h7) (Evn.congr (h := fun k => spec_ShortestOrder.j0 k l ac (!decide (1 ≤ ac ∧ ac ≤ 50))) (fun k => by unfold spec_puAcross.f; rw [in_eq]; rfl) (specShort_j0 l ac _ ?_))
      rw [Bool.not_eq_true', decide_eq_false_iff_not]
      exact ⟨fun hh h2 => hh h2.2.2, fun hh h2 => hh ⟨h, by omega, h2⟩⟩
  · exact Evn.congr (fun k => if_neg (by rw [decide_eq_false h]; decide)) (specShort_j0 l ac true ⟨fun _ hh => h hh.1, fun _ => rfl⟩)

theorem FnExactShortestOrder (l : List S41) (ac : Int) (hl : l.length ≤ maxLen) (_ : ∀ x ∈ l, (Lit.int .i64 x.f0).wf = true ∧ (Lit.int .i64 x.f1).wf = true) (_ : (Lit.int .i64 ac).wf = true) :
    ∃ k, laws_FnExactShortestOrder.f k l ac = some true := by
  by_cases h : l.length ≤ 1048576
  · have h' : (l.map toS).length ≤ 1048576 := by simpa using h
    have e2 : (l.map toS).length = l.length := by simp
    obtain ⟨K1, hs⟩ := specShort_eq (l.map toS) h' ac
    obtain ⟨K2, hi⟩ := implShort_eq (l.map toS) h' ac
    have hal := shOf_length (l.map toS) ac
    generalize shOf (l.map toS) ac = R at *
    dsimp only at hs hi
    obtain ⟨K, k1, k2, k3⟩ : ∃ K, K1 ≤ K ∧ K2 ≤ K ∧ 2200000 ≤ K := ⟨K1 + K2 + 2200000, by omega, by omega, by omega⟩
    refine ⟨K + 1 + 1 + 1, ?_⟩
    unfold laws_FnExactShortestOrder.f
    rw [szStrokes_eq l hl]
    simp only [Option.bind_some]
    rw [if_pos h, if_neg (by omega), toStrokes_eq l h _ (by omega)]
    simp only [Option.bind_some]
    rw [hs _ (by omega)]
    simp only [Option.bind_some]
    rw [hi _ (by omega)]
    simp only [Option.bind_some]
    rw [eqStrokes_self _ (by omega) _ (by omega)]
    simp only [Option.bind_some, bne_self_eq_false, if_true]
    rw [laws_FnExactShortestOrder.j0, if_neg (by simp), toStrokes_eq l h _ (by omega)]
    simp only [Option.bind_some]
    rw [eqStrokes_self _ h' _ (by omega)]
    simp only [Option.bind_some, if_true]
    rw [markSt_eq _ h' 1 (by omega) _ (by omega)]
    simp only [Option.bind_some]
    rw [if_neg (by omega), eqStrokes_self _ (by omega) _ (by omega)]
    simp only [Option.bind_some, bne_self_eq_false, if_true]
    rw [laws_FnExactShortestOrder.j1, if_neg (by simp), markSt_eq _ (by omega) 1 (by omega) _ (by omega)]
    simp only [Option.bind_some]
    rw [heldSt_eq _ (by omega) 1 (by omega) _ (by omega)]
    simp only [Option.bind_some]
    rw [if_neg (by omega), if_pos trivial, toStrokes_eq l h _ (by omega)]
    simp only [Option.bind_some]
    rw [hi _ (by omega)]
    simp only [Option.bind_some]
    rw [eqStrokes_self _ (by omega) _ (by omega)]
    simp only [Option.bind_some, bne_self_eq_false, if_true]
    rw [laws_FnExactShortestOrder.j2, if_neg (by simp), heldSt_eq _ (by omega) 1 (by omega) _ (by omega)]
    simp only [Option.bind_some]
    rw [if_neg (by omega), if_pos trivial]
  · refine ⟨0, ?_⟩
    unfold laws_FnExactShortestOrder.f
    rw [szStrokes_eq l hl]
    simp only [Option.bind_some]
    rw [if_neg h, if_pos (by decide)]
end Go.Proofs.Ythjannkegjflbaa.Pure
