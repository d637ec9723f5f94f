/- FnExactRowOrder: the program's RowOrder answers as the reference's, in memory of its own, for all slices of strokes. No condition. -/
import Derived.Test.YtcbfpfkkobbmaaaPFnExactRowOrderx6
namespace Go.Proofs.Ytcbfpfkkobbmaaa.Pure
open Go.RowKit Go.Proofs.Ytcbfpfkkobbmaaa.PFnExactRowOrder Go.Proofs.YtcbfpfkkobbmaaaW.PrintWords Go.Proofs.YtcbfpfkkobbmaaaW.PrintLast

set_option linter.unusedVariables false
set_option linter.unusedSimpArgs false

theorem w64 {x : Int} (h : -9223372036854775808 ≤ x ∧ x ≤ 9223372036854775807) : wrap64 x = x := by
  unfold wrap64; omega
theorem someF {p : Prop} [Decidable p] (h : ¬ p) : some false = some (decide p) := by rw [decide_eq_false h]
theorem someD {q p : Prop} [Decidable q] [Decidable p] (h : q ↔ p) : some (decide q) = some (decide p) := by rw [decide_eq_decide.2 h]

theorem in_eq (a b c : Int) : spec_l1In.f a b c = some (decide (b ≤ a ∧ a ≤ c)) := by
  unfold spec_l1In.f
  by_cases h : a ≥ b
  · rw [if_pos h]; congr 1; simp [show b ≤ a from h]
  · rw [if_neg h]; congr 1; simp; omega

theorem rd_get (l : List Int) (i : Nat) (h : i < l.length) : rd l (i : Int) = l[i] := by
  unfold rd; rw [Int.toNat_natCast, List.getD_eq_getElem?_getD, List.getElem?_eq_getElem h]; rfl

theorem drop_get {α : Type} (l : List α) (i : Nat) (h : i < l.length) : l.drop i = l[i] :: l.drop (i + 1) := List.drop_eq_getElem_cons h
theorem map_step {α β : Type} (f : α → β) (l : List α) (z : β) (i : Nat) (h : i < l.length) :
    ((l.take i).map f ++ List.replicate (l.length - i) z).set i (f (l[i]'h)) = (l.take (i + 1)).map f ++ List.replicate (l.length - (i + 1)) z := by
  have hl : ((l.take i).map f).length = i := by rw [List.length_map, List.length_take]; omega
  rw [List.set_append_right _ _ (by omega), hl, Nat.sub_self, show l.length - i = (l.length - (i + 1)) + 1 by omega, List.replicate_succ, List.set_cons_zero, List.take_succ_eq_append_getElem h, List.map_append, List.append_assoc]
  rfl
theorem map_length {α β : Type} (f : α → β) (l : List α) (z : β) (i : Nat) (h : i ≤ l.length) : ((l.take i).map f ++ List.replicate (l.length - i) z).length = l.length := by
  simp; omega

theorem rdS_get (l : List S56) (i : Nat) (h : i < l.length) : rd_T56 l (i : Int) = l[i] := by
  unfold rd_T56; rw [Int.toNat_natCast, List.getD_eq_getElem?_getD, List.getElem?_eq_getElem h]; rfl
theorem eqStrokes_loop (l : List S56) (hl : l.length ≤ 1048576) (d : Nat) : ∀ (k i : Nat), i + d = l.length → d < k → laws_eqStrokeS.l0 k l l i = some true := by
  induction d with
  | zero =>
    intro k i hi hk
    obtain ⟨k, rfl⟩ : ∃ j, k = j + 1 := ⟨k - 1, by omega⟩
    rw [laws_eqStrokeS.l0, if_neg (by omega)]
  | succ d ih =>
    intro k i hi hk
    obtain ⟨k, rfl⟩ : ∃ j, k = j + 1 := ⟨k - 1, by omega⟩
    rw [laws_eqStrokeS.l0, if_pos (by omega), if_pos (by omega), if_pos (by omega)]
    unfold laws_eqStroke.f
    rw [if_pos rfl, if_pos rfl]
    simp only [Option.bind_some, if_true]
    rw [w64 (by omega)]
    exact ih k (i + 1) (by omega) (by omega)
theorem eqStrokes_self (l : List S56) (hl : l.length ≤ 1048576) (k : Nat) (hk : l.length < k) : laws_eqStrokeS.f k l l = some true := by
  unfold laws_eqStrokeS.f
  rw [if_pos rfl]
  exact eqStrokes_loop l hl l.length k 0 (by omega) hk

theorem rdL_get (l : List S61) (i : Nat) (h : i < l.length) : rd_T61 l (i : Int) = l[i] := by
  unfold rd_T61; rw [Int.toNat_natCast, List.getD_eq_getElem?_getD, List.getElem?_eq_getElem h]; rfl
def toS (x : S61) : S56 := ⟨x.f0, x.f1⟩
theorem toStrokes_loop (l : List S61) (hl : l.length ≤ 1048576) (d : Nat) : ∀ (k i : Nat), i + d = l.length → d < k →
    laws_toStrokeS.l0 k l ((l.take i).map toS ++ List.replicate (l.length - i) z56) i = some (l.map toS) := by
  induction d with
  | zero =>
    intro k i hi hk
    obtain ⟨k, rfl⟩ : ∃ j, k = j + 1 := ⟨k - 1, by omega⟩
    rw [laws_toStrokeS.l0, if_neg (by omega), show l.length - i = 0 by omega, List.replicate_zero, List.append_nil, List.take_of_length_le (by omega)]
  | succ d ih =>
    intro k i hi hk
    obtain ⟨k, rfl⟩ : ∃ j, k = j + 1 := ⟨k - 1, by omega⟩
    rw [laws_toStrokeS.l0, if_pos (by omega), if_pos (by omega), rdL_get l i (by omega)]
    unfold laws_toStroke.f
    simp only [Option.bind_some]
    rw [map_length _ _ _ _ (by omega), if_pos (by omega), Int.toNat_natCast]
    have := map_step toS l z56 i (by omega)
    unfold toS at this ⊢
    rw [this, w64 (by omega)]
    exact ih k (i + 1) (by omega) (by omega)
theorem toStrokes_eq (l : List S61) (hl : l.length ≤ 1048576) (k : Nat) (hk : l.length < k) : laws_toStrokeS.f k l = some (l.map toS) := by
  unfold laws_toStrokeS.f
  rw [if_pos (by omega), if_pos (by omega), Int.toNat_natCast]
  have := toStrokes_loop l hl l.length k 0 (by omega) hk
  simpa using this
theorem szStrokes_eq (l : List S61) (hl : l.length ≤ maxLen) : laws_szStrokeS.f l 1048576 = some (if l.length ≤ 1048576 then 1048576 - (l.length : Int) else -1) := by
  unfold maxLen at hl
  unfold laws_szStrokeS.f
  rw [w64 (by omega)]
  split <;> split <;> first | rfl | omega

def StrokeOK (x : S56) : Prop := 0 ≤ x.f0 ∧ x.f0 ≤ 19 ∧ 0 ≤ x.f1 ∧ x.f1 ≤ 1999
instance (x : S56) : Decidable (StrokeOK x) := by unfold StrokeOK; infer_instance
def StrokesOK (l : List S56) : Prop := (∀ x ∈ l, StrokeOK x) ∧ l.length ≤ 200
instance (l : List S56) : Decidable (StrokesOK l) := by unfold StrokesOK; infer_instance
theorem puStroke_eq (a b : Int) : spec_puStroke.f a b = some (decide (StrokeOK ⟨a, b⟩)) := by
  unfold spec_puStroke.f spec_shStep.f
  simp only [in_eq, Option.bind_some, decide_eq_true_eq]
  split
  · exact someD (by unfold StrokeOK; simp only []; omega)
  · exact someF (by unfold StrokeOK; simp only []; omega)
theorem puGood_loop (l : List S56) (hl : l.length ≤ 1048576) (d : Nat) : ∀ (k i : Nat), i + d = l.length → d < k →
    spec_puGood.l0 k l l l.length i = some (decide ((∀ x ∈ l.drop i, StrokeOK x) ∧ l.length ≤ 200)) := by
  induction d with
  | zero =>
    intro k i hi hk
    obtain ⟨k, rfl⟩ : ∃ j, k = j + 1 := ⟨k - 1, by omega⟩
    rw [spec_puGood.l0, if_neg (by omega), List.drop_of_length_le (by omega)]
    exact someD (by simp; omega)
  | succ d ih =>
    intro k i hi hk
    obtain ⟨k, rfl⟩ : ∃ j, k = j + 1 := ⟨k - 1, by omega⟩
    rw [spec_puGood.l0, if_pos (by omega), if_pos (by omega), if_pos (by omega), rdS_get l i (by omega), puStroke_eq, w64 (by omega), drop_get l i (by omega)]
    simp only [Option.bind_some, decide_eq_true_eq]
    split
    · rename_i h
      rw [show ((i : Int) + 1) = ((i + 1 : Nat) : Int) by omega, ih k (i + 1) (by omega) (by omega)]
      exact someD (by rw [List.forall_mem_cons]; exact ⟨fun h' => ⟨⟨h, h'.1⟩, h'.2⟩, fun h' => ⟨h'.1.2, h'.2⟩⟩)
    · rename_i h
      exact someF (by rw [List.forall_mem_cons]; exact fun h' => h h'.1.1)
theorem puGood_eq (l : List S56) (hl : l.length ≤ 1048576) (k : Nat) (hk : l.length < k) : spec_puGood.f k l = some (decide (StrokesOK l)) := by
  unfold spec_puGood.f StrokesOK
  have := puGood_loop l hl l.length k 0 (by omega) hk
  rw [List.drop_zero] at this
  exact this

theorem areStrokes_loop (l : List S56) (hl : l.length ≤ 1048576) (d : Nat) : ∀ (k i : Nat), i + d = l.length → d < k →
    impl_AreStrokes.l0 k l l l.length i = some (decide ((∀ x ∈ l.drop i, StrokeOK x) ∧ l.length ≤ 200)) := by
  induction d with
  | zero =>
    intro k i hi hk
    obtain ⟨k, rfl⟩ : ∃ j, k = j + 1 := ⟨k - 1, by omega⟩
    rw [impl_AreStrokes.l0, if_neg (by omega), List.drop_of_length_le (by omega)]
    exact someD (by simp; omega)
  | succ d ih =>
    intro k i hi hk
    obtain ⟨k, rfl⟩ : ∃ j, k = j + 1 := ⟨k - 1, by omega⟩
    have ht : impl_isTrack.f l[i].f0 = some (decide (0 ≤ l[i].f0 ∧ l[i].f0 ≤ 19)) := by
      unfold impl_isTrack.f
      split
      · exact someD (by omega)
      · exact someF (by omega)
    rw [impl_AreStrokes.l0, if_pos (by omega), if_pos (by omega), if_pos (by omega), rdS_get l i (by omega), ht, w64 (by omega), drop_get l i (by omega)]
    simp only [Option.bind_some, decide_eq_true_eq]
    by_cases h : StrokeOK l[i]
    · have h' := h
      unfold StrokeOK at h'
      rw [if_pos (by omega), if_neg (by omega), if_neg (by omega), show ((i : Int) + 1) = ((i + 1 : Nat) : Int) by omega, ih k (i + 1) (by omega) (by omega)]
      exact someD (by rw [List.forall_mem_cons]; exact ⟨fun h' => ⟨⟨h, h'.1⟩, h'.2⟩, fun h' => ⟨h'.1.2, h'.2⟩⟩)
    · have h' := h
      unfold StrokeOK at h'
      have hF : ∀ (p : Prop) [Decidable p], ¬ (p) → some false = some (decide p) := fun p _ hp => someF hp
      have hn : ¬ ((∀ x ∈ l[i] :: l.drop (i + 1), StrokeOK x) ∧ l.length ≤ 200) := by rw [List.forall_mem_cons]; exact fun h' => h h'.1.1
      split
      · split
        · exact someF hn
        · split
          · exact someF hn
          · omega
      · exact someF hn
theorem areStrokes_eq (l : List S56) (hl : l.length ≤ 1048576) (k : Nat) (hk : l.length < k) : impl_AreStrokes.f k l = some (decide (StrokesOK l)) := by
  unfold impl_AreStrokes.f StrokesOK
  have := areStrokes_loop l hl l.length k 0 (by omega) hk
  rw [List.drop_zero] at this
  exact this

/-- strokes with ascending numbers in all their fields -/
def upSt (n : Int) : Nat → List S56
  | 0 => []
  | d + 1 => ⟨n, n + 1⟩ :: upSt (n + 2) d
theorem upSt_length (n : Int) (d : Nat) : (upSt n d).length = d := by
  induction d generalizing n with
  | zero => rfl
  | succ d ih => simp [upSt, ih]
theorem markSt_loop (d : Nat) : ∀ (k : Nat) (p l : List S56) (n : Int), l.length = d → d < k → p.length + l.length ≤ 1048576 → 1 ≤ n ∧ n ≤ 10000000 + 2 * p.length →
    laws_markStrokeS.l0 k (p ++ l) n p.length = some (n + 2 * d, p ++ upSt n d) := by
  induction d with
  | zero =>
    intro k p l n hi hk hl hn
    obtain ⟨k, rfl⟩ : ∃ j, k = j + 1 := ⟨k - 1, by omega⟩
    obtain rfl := List.length_eq_zero_iff.1 hi
    rw [laws_markStrokeS.l0, if_neg (by simp)]
    simp [upSt]
  | succ d ih =>
    intro k p l n hi hk hl hn
    obtain ⟨k, rfl⟩ : ∃ j, k = j + 1 := ⟨k - 1, by omega⟩
    obtain ⟨x, r, rfl⟩ : ∃ x r, l = x :: r := by
      cases l with
      | nil => simp at hi
      | cons x r => exact ⟨x, r, rfl⟩
    simp only [List.length_cons] at hi hl
    have hset : ∀ a b : S56, (p ++ a :: r).set p.length b = p ++ b :: r := fun a b => by
      rw [List.set_append_right _ _ (by omega), Nat.sub_self, List.set_cons_zero]
    have hrd : ∀ a : S56, rd_T56 (p ++ a :: r) (p.length : Int) = a := fun a => by
      rw [rdS_get _ p.length (by simp), List.getElem_append_right (by omega)]; simp
    rw [laws_markStrokeS.l0, if_pos (by simp; omega), if_pos (by omega), Int.toNat_natCast]
    simp only [Option.bind_some, hset, hrd]
    rw [w64 (x := n + 1) (by omega), w64 (x := n + 1 + 1) (by omega), w64 (by omega)]
    have := ih k (p ++ [⟨n, n + 1⟩]) r (n + 1 + 1) (by omega) (by omega) (by simp; omega) (by simp; omega)
    rw [show p ++ (⟨n, n + 1⟩ : S56) :: r = (p ++ [⟨n, n + 1⟩]) ++ r by simp, show ((p.length : Int) + 1) = (((p ++ [(⟨n, n + 1⟩ : S56)]).length : Nat) : Int) by simp, this, upSt]
    simp only [List.append_assoc, List.singleton_append]
    rw [show n + 1 + 1 = n + 2 by omega]
    congr 2; omega
theorem markSt_eq (l : List S56) (hl : l.length ≤ 1048576) (n : Int) (hn : 1 ≤ n ∧ n ≤ 10000000) (k : Nat) (hk : l.length < k) : laws_markStrokeS.f k l n = some (n + 2 * (l.length : Int), upSt n l.length) := by
  unfold laws_markStrokeS.f
  have := markSt_loop l.length k [] l n rfl hk (by simpa using hl) (by simp; omega)
  simpa using this

theorem heldSt_loop (d : Nat) : ∀ (k : Nat) (p : List S56) (n : Int), d < k → p.length + d ≤ 1048576 → 1 ≤ n ∧ n ≤ 10000000 + 2 * p.length →
    laws_heldStrokeS.l0 k (p ++ upSt n d) n p.length = some (n + 2 * d) := by
  induction d with
  | zero =>
    intro k p n hk hl hn
    obtain ⟨k, rfl⟩ : ∃ j, k = j + 1 := ⟨k - 1, by omega⟩
    rw [laws_heldStrokeS.l0, if_neg (by simp [upSt])]; simp
  | succ d ih =>
    intro k p n hk hl hn
    obtain ⟨k, rfl⟩ : ∃ j, k = j + 1 := ⟨k - 1, by omega⟩
    rw [upSt, laws_heldStrokeS.l0, if_pos (by simp; omega), if_pos (by omega), rdS_get _ p.length (by simp), List.getElem_append_right (by omega)]
    simp only [Nat.sub_self, List.getElem_cons_zero, if_true]
    rw [w64 (x := n + 1) (by omega), if_pos rfl, w64 (x := n + 1 + 1) (by omega), w64 (by omega)]
    have := ih k (p ++ [⟨n, n + 1⟩]) (n + 2) (by omega) (by simp; omega) (by simp; omega)
    rw [show p ++ (⟨n, n + 1⟩ : S56) :: upSt (n + 2) d = (p ++ [⟨n, n + 1⟩]) ++ upSt (n + 2) d by simp, show ((p.length : Int) + 1) = (((p ++ [(⟨n, n + 1⟩ : S56)]).length : Nat) : Int) by simp, show n + 1 + 1 = n + 2 by omega, this]
    congr 1; omega
theorem heldSt_eq (d : Nat) (hl : d ≤ 1048576) (n : Int) (hn : 1 ≤ n ∧ n ≤ 10000000) (k : Nat) (hk : d < k) : laws_heldStrokeS.f k (upSt n d) n = some (n + 2 * (d : Int)) := by
  unfold laws_heldStrokeS.f
  have := heldSt_loop d k [] n hk (by simpa using hl) (by simp; omega)
  simpa using this

/-- with enough rounds there is an answer, and it is as Q says -/
def Tot {α : Type} (g : Nat → Option α) (Q : α → Prop) : Prop := ∃ r, Q r ∧ ∃ K, ∀ k, K ≤ k → g k = some r
theorem Tot.now {α : Type} {g : Nat → Option α} {Q : α → Prop} (r : α) (h : ∀ k, g k = some r) (q : Q r) : Tot g Q := ⟨r, q, 0, fun k _ => h k⟩
theorem Tot.ge {α : Type} {g : Nat → Option α} {Q : α → Prop} (r : α) (K : Nat) (h : ∀ k, K ≤ k → g k = some r) (q : Q r) : Tot g Q := ⟨r, q, K, h⟩
theorem Tot.step {α : Type} {g h : Nat → Option α} {Q : α → Prop} (hs : ∀ k, g (k + 1) = h k) (e : Tot h Q) : Tot g Q := by
  obtain ⟨r, q, K, hK⟩ := e
  refine ⟨r, q, K + 1, fun k hk => ?_⟩
  obtain ⟨j, rfl⟩ : ∃ j, k = j + 1 := ⟨k - 1, by omega⟩
  rw [hs]
  exact hK j (by omega)
theorem Tot.congr {α : Type} {g h : Nat → Option α} {Q : α → Prop} (hs : ∀ k, g k = h k) (e : Tot h Q) : Tot g Q := by
  obtain ⟨r, q, K, hK⟩ := e
  exact ⟨r, q, K, fun k hk => by rw [hs]; exact hK k hk⟩
theorem Tot.bind {α β : Type} {g : Nat → Option α} {Q : α → Prop} {h : Nat → α → Option β} {R : β → Prop} (e : Tot g Q) (e2 : ∀ a, Q a → Tot (fun k => h k a) R) : Tot (fun k => (g k).bind (h k)) R := by
  obtain ⟨a, q, K, hK⟩ := e
  obtain ⟨r, p, M, hM⟩ := e2 a q
  refine ⟨r, p, K + M, fun k hk => ?_⟩
  simp only []
  rw [hK k (by omega), Option.bind_some]
  exact hM k (by omega)
theorem Tot.weak {α : Type} {g : Nat → Option α} {Q R : α → Prop} (e : Tot g Q) (h : ∀ a, Q a → R a) : Tot g R := by
  obtain ⟨r, q, K, hK⟩ := e
  exact ⟨r, h r q, K, hK⟩
theorem Tot.mono {α : Type} {g : Nat → Option α} {Q : α → Prop} (e : Tot g Q) : ∃ r, Q r ∧ ∃ K, ∀ k, K ≤ k → g k = some r := e

theorem w_next (n : Nat) (h : n ≤ 1000000) : wrap64 ((n : Int) + 1) = ((n + 1 : Nat) : Int) := by rw [w64 (by omega)]; omega

/-- a row in order, each once: slices.Compact behind sort.Ints -/
theorem compact_inv (d : Array Int) (hs : ∀ i j, i ≤ j → j < d.size → d[i]! ≤ d[j]!) : ∀ m, m ≤ d.size → (Lib.compactUpTo d m).Pairwise (· < ·) ∧ ∀ x, x ∈ Lib.compactUpTo d m ↔ ∃ j, j < m ∧ d[j]! = x := by
  intro m
  induction m with
  | zero => intro _; exact ⟨by simp [Lib.compactUpTo], fun x => by simp [Lib.compactUpTo]⟩
  | succ m ih =>
    intro hm
    obtain ⟨h1, h2⟩ := ih (by omega)
    rw [Lib.compactUpTo_succ]
    cases hk : Lib.keeps d m with
    | true =>
      rw [if_pos rfl]
      have hlt : ∀ x ∈ Lib.compactUpTo d m, x < d[m]! := by
        intro x hx
        obtain ⟨j, hj, rfl⟩ := (h2 x).1 hx
        have e1 := hs j (m - 1) (by omega) (by omega)
        have e2 := hs (m - 1) m (by omega) (by omega)
        have e3 : d[m]! ≠ d[m - 1]! := by
          intro he
          rw [Lib.keeps_neg (by omega) he] at hk
          cases hk
        omega
      refine ⟨List.pairwise_append.2 ⟨h1, List.pairwise_singleton _ _, fun a ha b hb => by rw [List.mem_singleton.1 hb]; exact hlt a ha⟩, fun x => ?_⟩
      rw [List.mem_append, List.mem_singleton, h2]
      constructor
      · rintro (⟨j, hj, rfl⟩ | rfl)
        · exact ⟨j, by omega, rfl⟩
        · exact ⟨m, by omega, rfl⟩
      · rintro ⟨j, hj, rfl⟩
        by_cases h : j = m
        · subst h; exact Or.inr rfl
        · exact Or.inl ⟨j, by omega, rfl⟩
    | false =>
      rw [if_neg (by decide), List.append_nil]
      have hm0 : 0 < m := by
        rcases Nat.eq_zero_or_pos m with h | h
        · subst h; simp [Lib.keeps] at hk
        · exact h
      have he : d[m]! = d[m - 1]! := by
        apply Classical.byContradiction
        intro hne
        rw [Lib.keeps_pos hne] at hk
        cases hk
      refine ⟨h1, fun x => ?_⟩
      rw [h2]
      constructor
      · rintro ⟨j, hj, rfl⟩; exact ⟨j, by omega, rfl⟩
      · rintro ⟨j, hj, rfl⟩
        by_cases h : j = m
        · subst h; exact ⟨j - 1, by omega, he.symm⟩
        · exact ⟨j, by omega, rfl⟩
def sorted1 (l : List Int) : List Int := Lib.compact (l.mergeSort fun x y => decide (x ≤ y))
theorem sorted1_spec (l : List Int) : (sorted1 l).Pairwise (· < ·) ∧ ∀ x, x ∈ sorted1 l ↔ x ∈ l := by
  have hp := List.mergeSort_perm l (fun x y : Int => decide (x ≤ y))
  have hs : (l.mergeSort fun x y => decide (x ≤ y)).Pairwise (fun a b => decide (a ≤ b) = true) := List.pairwise_mergeSort (le := fun x y : Int => decide (x ≤ y)) (fun a b c h1 h2 => by simp at *; omega) (fun a b => by simp; omega) l
  unfold sorted1 Lib.compact
  generalize (l.mergeSort fun x y => decide (x ≤ y)) = z at hp hs
  have hs2 : ∀ i j, i ≤ j → j < z.toArray.size → z.toArray[i]! ≤ z.toArray[j]! := by
    intro i j hij hj
    have hj' : j < z.length := by simpa using hj
    rw [getElem!_pos z.toArray j hj, getElem!_pos z.toArray i (by omega)]
    by_cases h : i = j
    · subst h; exact Int.le_refl _
    · have := List.pairwise_iff_getElem.1 hs i j (by omega) hj' (by omega)
      simpa using this
  obtain ⟨h1, h2⟩ := compact_inv z.toArray hs2 z.length (by simp)
  refine ⟨h1, fun x => ?_⟩
  rw [h2, ← hp.mem_iff]
  constructor
  · rintro ⟨j, hj, rfl⟩
    rw [getElem!_pos z.toArray j (by simpa using hj)]
    simp
  · intro hx
    obtain ⟨j, hj, rfl⟩ := List.mem_iff_getElem.1 hx
    exact ⟨j, hj, by rw [getElem!_pos z.toArray j (by simpa using hj)]; simp⟩
/-- two rows in strict order with the same members are one -/
theorem strict_same : ∀ (a b : List Int), a.Pairwise (· < ·) → b.Pairwise (· < ·) → (∀ x, x ∈ a ↔ x ∈ b) → a = b
  | [], [], _, _, _ => rfl
  | [], y :: b, _, _, h => by have := (h y).2 List.mem_cons_self; cases this
  | x :: a, [], _, _, h => by have := (h x).1 List.mem_cons_self; cases this
  | x :: a, y :: b, ha, hb, h => by
    rw [List.pairwise_cons] at ha hb
    have e : x = y := by
      rcases List.mem_cons.1 ((h x).1 List.mem_cons_self) with e | e
      · exact e
      · rcases List.mem_cons.1 ((h y).2 List.mem_cons_self) with e2 | e2
        · exact e2.symm
        · have := hb.1 x e; have := ha.1 y e2; omega
    subst e
    rw [strict_same a b ha.2 hb.2 (fun z => ?_)]
    have hz := h z
    rw [List.mem_cons, List.mem_cons] at hz
    constructor
    · intro hza
      rcases hz.1 (Or.inr hza) with e | e
      · have := ha.1 z hza; omega
      · exact e
    · intro hzb
      rcases hz.2 (Or.inr hzb) with e | e
      · have := hb.1 z hzb; omega
      · exact e

def rowAt (l : List S56) (s : Int) : List S56 := l.filter fun x => decide (x.f1 = s)
def Low (a b : S56) : Prop := a.f0 ≤ b.f0
/-- a step's strokes, the lower tracks first -/
def rowP (l : List S56) (s : Int) : List S56 := (rowAt l s).mergeSort fun a b => decide (a.f0 ≤ b.f0)
theorem rowAt_step (l : List S56) (s : Int) : ∀ x ∈ rowAt l s, x.f1 = s := fun x hx => by
  have := (List.mem_filter.1 hx).2
  simpa using this
theorem rowAt_length (l : List S56) (s : Int) : (rowAt l s).length ≤ l.length := List.length_filter_le _ _
theorem rowP_perm (l : List S56) (s : Int) : (rowP l s).Perm (rowAt l s) := List.mergeSort_perm _ _
theorem rowP_sorted (l : List S56) (s : Int) : (rowP l s).Pairwise Low := by
  have := List.pairwise_mergeSort (le := fun a b : S56 => decide (a.f0 ≤ b.f0)) (fun a b c h1 h2 => by simp at *; omega) (fun a b => by simp; omega) (rowAt l s)
  exact this.imp (fun h => by simpa [Low] using h)
theorem rowP_length (l : List S56) (s : Int) : (rowP l s).length ≤ l.length := by rw [(rowP_perm l s).length_eq]; exact rowAt_length l s
theorem stroke_same {l : List S56} {s : Int} {a b : S56} (ha : a ∈ rowAt l s) (hb : b ∈ rowAt l s) (h : a.f0 = b.f0) : a = b := by
  have h1 := rowAt_step l s a ha
  have h2 := rowAt_step l s b hb
  obtain ⟨a0, a1⟩ := a
  obtain ⟨b0, b1⟩ := b
  simp only at h h1 h2
  rw [h, h1, h2]
theorem rowP_uniq {l : List S56} {s : Int} {P : List S56} (hp : P.Perm (rowAt l s)) (hs : P.Pairwise Low) : P = rowP l s := by
  refine order_unique Low P (rowP l s) (hp.trans (rowP_perm l s).symm) hs (rowP_sorted l s) (fun a ha b hb h1 h2 => ?_)
  exact stroke_same (hp.mem_iff.1 ha) (hp.mem_iff.1 hb) (Int.le_antisymm h1 h2)
/-- what stands in the order for the i-th step that has strokes -/
def rowOut (l : List S56) (i : Nat) (s : Int) : List S56 := if i % 2 = 0 then rowP l s else (rowP l s).reverse
def ans (l : List S56) : Nat → List Int → List S56
  | _, [] => []
  | i, s :: r => rowOut l i s ++ ans l (i + 1) r
def stepsOf (l : List S56) : Int → Nat → List Int
  | _, 0 => []
  | s, d + 1 => if (rowAt l s).length = 0 then stepsOf l (s + 1) d else s :: stepsOf l (s + 1) d
theorem rowOut_length (l : List S56) (i : Nat) (s : Int) : (rowOut l i s).length = (rowP l s).length := by
  unfold rowOut
  split
  · rfl
  · rw [List.length_reverse]
theorem stepsOf_spec (l : List S56) (d : Nat) : ∀ s : Int, (stepsOf l s d).Pairwise (· < ·) ∧ ∀ x, x ∈ stepsOf l s d ↔ (s ≤ x ∧ x < s + d ∧ (rowAt l x).length ≠ 0) := by
  induction d with
  | zero => intro s; exact ⟨List.Pairwise.nil, fun x => ⟨fun h => (by cases h), fun h => (by omega)⟩⟩
  | succ d ih =>
    intro s
    obtain ⟨h1, h2⟩ := ih (s + 1)
    unfold stepsOf
    by_cases h : (rowAt l s).length = 0
    · rw [if_pos h]
      refine ⟨h1, fun x => ?_⟩
      rw [h2]
      constructor
      · rintro ⟨a, b, c⟩; exact ⟨by omega, by omega, c⟩
      · rintro ⟨a, b, c⟩
        have : x ≠ s := by rintro rfl; exact c h
        exact ⟨by omega, by omega, c⟩
    · rw [if_neg h]
      refine ⟨List.pairwise_cons.2 ⟨fun x hx => by have := (h2 x).1 hx; omega, h1⟩, fun x => ?_⟩
      rw [List.mem_cons, h2]
      constructor
      · rintro (rfl | ⟨a, b, c⟩)
        · exact ⟨by omega, by omega, h⟩
        · exact ⟨by omega, by omega, c⟩
      · rintro ⟨a, b, c⟩
        by_cases hx : x = s
        · exact Or.inl hx
        · exact Or.inr ⟨by omega, by omega, c⟩
theorem steps_same (l : List S56) (hok : ∀ x ∈ l, StrokeOK x) : sorted1 (l.map fun x => x.f1) = stepsOf l 0 2000 := by
  obtain ⟨a1, a2⟩ := sorted1_spec (l.map fun x => x.f1)
  obtain ⟨b1, b2⟩ := stepsOf_spec l 2000 0
  refine strict_same _ _ a1 b1 (fun x => ?_)
  rw [a2, b2, List.mem_map]
  constructor
  · rintro ⟨y, hy, rfl⟩
    have := hok y hy
    unfold StrokeOK at this
    refine ⟨by omega, by omega, ?_⟩
    have hm : y ∈ rowAt l y.f1 := List.mem_filter.2 ⟨hy, by simp⟩
    have := List.length_pos_of_mem hm
    omega
  · rintro ⟨_, _, h⟩
    obtain ⟨y, hy⟩ := List.exists_mem_of_length_pos (by omega : 0 < (rowAt l x).length)
    exact ⟨y, (List.mem_filter.1 hy).1, rowAt_step l x y hy⟩
theorem rowAt_take (l : List S56) (s : Int) (i : Nat) (h : i < l.length) : rowAt (l.take (i + 1)) s = rowAt (l.take i) s ++ (if l[i].f1 = s then [l[i]] else []) := by
  unfold rowAt
  rw [List.take_succ_eq_append_getElem h, List.filter_append]
  congr 1
  by_cases hc : l[i].f1 = s
  · rw [if_pos hc, List.filter_cons_of_pos (by simpa using hc), List.filter_nil]
  · rw [if_neg hc, List.filter_cons_of_neg (by simpa using hc), List.filter_nil]

theorem sortRow_eq (l : List S56) (hl : l.length ≤ 1000) (i : Nat) (s : Int) : impl_sortRow.f i (rowAt l s) = some (rowOut l i s) := by
  have hc : (rowAt l s).length ≤ 8796093022208 ∧ ∀ a ∈ rowAt l s, ∀ b ∈ rowAt l s, impl_rowLt i a b = false → impl_rowLt i b a = false → a.f0 = b.f0 ∧ a.f1 = b.f1 := by
    refine ⟨by have := rowAt_length l s; omega, fun a ha b hb h1 h2 => ⟨?_, by rw [rowAt_step l s a ha, rowAt_step l s b hb]⟩⟩
    unfold impl_rowLt at h1 h2
    split at h1
    · rename_i hn
      rw [if_pos hn] at h2
      have := of_decide_eq_false h1; have := of_decide_eq_false h2; omega
    · rename_i hn
      rw [if_neg hn] at h2
      have := of_decide_eq_false h1; have := of_decide_eq_false h2; omega
  have hf : impl_sortRow.f i (rowAt l s) = some ((rowAt l s).mergeSort (fun a b => !impl_rowLt i b a)) := by unfold impl_sortRow.f; rw [if_pos hc]
  rw [hf]
  congr 1
  have hmod : Int.tmod (i : Int) 2 = ((i % 2 : Nat) : Int) := by rw [Int.tmod_eq_emod_of_nonneg (by omega)]; omega
  symm
  refine impl_sortRow.uniq hf ?_ ?_
  · unfold rowOut
    split
    · exact rowP_perm l s
    · exact (List.reverse_perm _).trans (rowP_perm l s)
  · unfold rowOut impl_rowLt
    by_cases h : i % 2 = 0
    · rw [if_pos h]
      refine (rowP_sorted l s).imp (fun {a b} hab => ?_)
      unfold Low at hab
      rw [if_pos (by rw [hmod, h]; rfl)]
      exact decide_eq_false (by omega)
    · rw [if_neg h, List.pairwise_reverse]
      refine (rowP_sorted l s).imp (fun {a b} hab => ?_)
      unfold Low at hab
      rw [if_neg (by rw [hmod]; omega)]
      exact decide_eq_false (by omega)
theorem impl_l2 (l : List S56) (hl : l.length ≤ 1000) (out : List S56) (i : Nat) (s : Int) (T : List Int) {Q : List S56 × Bool → Prop} (ho : out.length + l.length ≤ 8000000) (hi : i ≤ 1000000)
    (hk : Tot (fun k => impl_RowOrder.l1 k l (out ++ rowOut l i s) T T.length ((i + 1 : Nat) : Int)) Q) (d : Nat) : ∀ j : Nat, j + d = l.length →
    Tot (fun k => impl_RowOrder.l2 k l out i s (rowAt (l.take j) s) T T.length i l l.length j) Q := by
  induction d with
  | zero =>
    intro j hj
    refine Tot.step (h := fun k => impl_RowOrder.l1 k l (out ++ rowOut l i s) T T.length ((i + 1 : Nat) : Int)) (fun k => ?_) hk
    have hr := rowP_length l s
    have hr2 := rowOut_length l i s
    rw [impl_RowOrder.l2, if_neg (by omega), List.take_of_length_le (by omega), sortRow_eq l hl i s]
    simp only [Option.bind_some]
    rw [if_pos (by omega), w_next i (by omega)]
  | succ d ih =>
    intro j hj
    have hlt : j < l.length := by omega
    have h1 := rowAt_length (l.take j) s
    rw [List.length_take] at h1
    refine Tot.step (h := fun k => impl_RowOrder.l2 k l out i s (rowAt (l.take (j + 1)) s) T T.length i l l.length ((j + 1 : Nat) : Int)) (fun k => ?_) (ih (j + 1) (by omega))
    rw [impl_RowOrder.l2, if_pos (by omega), if_pos (by omega), if_pos (by omega), rdS_get l j hlt, rowAt_take l s j hlt, w_next j (by omega)]
    by_cases hc : l[j].f1 = s
    · rw [if_pos hc, if_pos hc, if_pos (by omega)]
    · rw [if_neg hc, if_neg hc, List.append_nil]
theorem impl_l1 (l : List S56) (hl : l.length ≤ 1000) (T : List Int) (hT : T.length ≤ 2000) (d : Nat) : ∀ (i : Nat) (out : List S56), i + d = T.length → out.length + 1000 * d ≤ 4000000 →
    Tot (fun k => impl_RowOrder.l1 k l out T T.length i) (fun r => r = (out ++ ans l i (T.drop i), true)) := by
  induction d with
  | zero =>
    intro i out hi ho
    refine Tot.step (h := fun _ => some (out, true)) (fun k => by rw [impl_RowOrder.l1, if_neg (by omega)]) (Tot.now _ (fun _ => rfl) ?_)
    rw [List.drop_of_length_le (by omega), ans, List.append_nil]
  | succ d ih =>
    intro i out hi ho
    have hlt : i < T.length := by omega
    have hr := rowP_length l T[i]
    have hr2 := rowOut_length l i T[i]
    refine Tot.step (h := fun k => impl_RowOrder.l2 k l out i T[i] (rowAt (l.take 0) T[i]) T T.length i l l.length ((0 : Nat) : Int)) (fun k => ?_) ?_
    · rw [impl_RowOrder.l1, if_pos (by omega), if_pos (by omega), if_pos (by omega), rd_get T i hlt]
      rfl
    · refine impl_l2 l hl out i T[i] T (by omega) (by omega) ?_ l.length 0 (by omega)
      refine (ih (i + 1) (out ++ rowOut l i T[i]) (by omega) (by rw [List.length_append]; omega)).weak (fun r hr => ?_)
      rw [hr, List.drop_eq_getElem_cons hlt, ans, List.append_assoc]
theorem impl_l0 (l : List S56) (hl : l.length ≤ 1000) {Q : List S56 × Bool → Prop} (hk : Tot (fun k => impl_RowOrder.l1 k l [] (sorted1 (l.map fun x => x.f1)) (sorted1 (l.map fun x => x.f1)).length ((0 : Nat) : Int)) Q) (d : Nat) : ∀ j : Nat, j + d = l.length →
    Tot (fun k => impl_RowOrder.l0 k l ((l.take j).map fun x => x.f1) l l.length j) Q := by
  induction d with
  | zero =>
    intro j hj
    refine Tot.step (fun k => ?_) hk
    rw [impl_RowOrder.l0, if_neg (by omega), List.take_of_length_le (by omega)]
    unfold impl_sortedSet.f slices_Clone_int.f
    rw [if_pos (by rw [List.length_map]; omega)]
    rfl
  | succ d ih =>
    intro j hj
    have hlt : j < l.length := by omega
    refine Tot.step (h := fun k => impl_RowOrder.l0 k l ((l.take (j + 1)).map fun x => x.f1) l l.length ((j + 1 : Nat) : Int)) (fun k => ?_) (ih (j + 1) (by omega))
    rw [impl_RowOrder.l0, if_pos (by omega), if_pos (by omega), if_pos (by omega), if_pos (by rw [List.length_map, List.length_take]; omega), rdS_get l j hlt, w_next j (by omega), List.take_succ_eq_append_getElem hlt, List.map_append]
    rfl
theorem steps_length (l : List S56) (d : Nat) : ∀ s : Int, (stepsOf l s d).length ≤ d := by
  induction d with
  | zero => intro s; exact Nat.le_refl _
  | succ d ih =>
    intro s
    have := ih (s + 1)
    unfold stepsOf
    split
    · omega
    · rw [List.length_cons]; omega
def rowAns (l : List S56) : List S56 × Bool := if StrokesOK l then (ans l 0 (stepsOf l 0 2000), true) else ([], false)
theorem implRow_tot (l : List S56) (hl : l.length ≤ 1048576) : Tot (fun k => impl_RowOrder.f k l) (fun r => r = rowAns l) := by
  refine Tot.bind (Q := fun t => t = decide (StrokesOK l)) (Tot.ge _ (l.length + 1) (fun k hk => areStrokes_eq l hl k (by omega)) rfl) (fun t ht => ?_)
  subst ht
  unfold rowAns
  by_cases h : StrokesOK l
  · rw [if_pos h]
    refine Tot.congr (fun k => if_pos (decide_eq_true h)) ?_
    have hl2 : l.length ≤ 200 := h.2
    refine impl_l0 l (by omega) ?_ l.length 0 (by omega)
    rw [steps_same l h.1]
    have := steps_length l 2000 0
    exact (impl_l1 l (by omega) (stepsOf l 0 2000) this (stepsOf l 0 2000).length 0 [] (by omega) (by rw [List.length_nil]; omega)).weak (fun r hr => by rw [hr, List.drop_zero, List.nil_append])
  · rw [if_neg h]
    exact Tot.now _ (fun k => if_neg (by rw [decide_eq_false h]; decide)) rfl

theorem rdS0 (P : List S56) (j : Nat) (h : j < P.length) : (⟨(rd_T56 P (j : Int)).f0, (rd_T56 P (j : Int)).f1⟩ : S56) = P[j] := by rw [rdS_get P j h]
theorem low_ins {P : List S56} {x : S56} (hP : P.Pairwise Low) (q : Nat) (hq : q ≤ P.length) (h1 : q = 0 ∨ ∃ h : q - 1 < P.length, ¬ (P[q - 1].f0 > x.f0)) (h2 : ∀ j, q ≤ j → (h : j < P.length) → P[j].f0 > x.f0) :
    (P.take q ++ [x] ++ P.drop q).Pairwise Low ∧ (P.take q ++ [x] ++ P.drop q).Perm (P ++ [x]) := by
  have hd : ∀ b ∈ P.drop q, b.f0 > x.f0 := by
    intro b hb
    obtain ⟨j, hj, rfl⟩ := List.mem_iff_getElem.1 hb
    rw [List.getElem_drop]
    rw [List.length_drop] at hj
    exact h2 (q + j) (by omega) (by omega)
  have ht : ∀ a ∈ P.take q, a.f0 ≤ x.f0 := by
    intro a ha
    obtain ⟨j, hj, rfl⟩ := List.mem_iff_getElem.1 ha
    rw [List.length_take] at hj
    rw [List.getElem_take]
    rcases h1 with h0 | ⟨h, hle⟩
    · omega
    · by_cases hjq : j = q - 1
      · subst hjq; omega
      · have := List.pairwise_iff_getElem.1 hP j (q - 1) (by omega) h (by omega)
        unfold Low at this
        omega
  have hs : (P.take q ++ P.drop q).Pairwise Low := by rw [List.take_append_drop]; exact hP
  rw [List.pairwise_append] at hs
  refine ⟨?_, ?_⟩
  · rw [List.append_assoc, List.pairwise_append]
    refine ⟨hs.1, List.pairwise_cons.2 ⟨fun b hb => Int.le_of_lt (hd b hb), hs.2.1⟩, fun a ha b hb => ?_⟩
    rcases List.mem_cons.1 hb with e | e
    · rw [e]; exact ht a ha
    · exact hs.2.2 a ha b e
  · rw [List.append_assoc]
    refine (List.perm_middle (a := x) (l₁ := P.take q) (l₂ := P.drop q)).trans ?_
    rw [List.take_append_drop]
    exact (List.perm_append_singleton x P).symm
theorem spec_l2 (l out : List S56) (fl : Bool) (s : Int) (P : List S56) (hP : P.length ≤ 1000) (n : Int) (i : Int) (a b : Int) {Q : List S56 × Bool → Prop}
    (hk : ∀ q : Nat, q ≤ P.length → (q = 0 ∨ ∃ h : q - 1 < P.length, ¬ (P[q - 1].f0 > a)) → (∀ j, q ≤ j → (h : j < P.length) → P[j].f0 > a) → Tot (fun k => spec_RowOrder.l1 k l out fl s (P.take q ++ [(⟨a, b⟩ : S56)] ++ P.drop q) l n (wrap64 (i + 1))) Q) :
    ∀ p : Nat, p ≤ P.length → (∀ j, p ≤ j → (h : j < P.length) → P[j].f0 > a) → Tot (fun k => spec_RowOrder.l2 k l out fl s P p l n i a b) Q := by
  intro p
  induction p with
  | zero =>
    intro hp h2
    refine Tot.step (h := fun k => spec_RowOrder.l1 k l out fl s (P.take 0 ++ [(⟨a, b⟩ : S56)] ++ P.drop 0) l n (wrap64 (i + 1))) (fun k => ?_) (hk 0 hp (Or.inl rfl) h2)
    rw [spec_RowOrder.l2, if_neg (by simp)]
    simp only [Option.bind_some, List.nil_append, Int.toNat_natCast]
    rw [if_pos (by omega), if_pos (by omega), if_pos (by simp), if_pos (by simp), if_pos (by simp; omega)]
  | succ p ih =>
    intro hp h2
    have e1 : wrap64 (((p + 1 : Nat) : Int) - 1) = (p : Int) := by rw [w64 (by omega)]; omega
    by_cases hc : P[p].f0 > a
    · refine Tot.step (h := fun k => spec_RowOrder.l2 k l out fl s P p l n i a b) (fun k => ?_) (ih (by omega) (fun j hj h => ?_))
      · rw [spec_RowOrder.l2, if_pos (by omega), e1, if_pos (by omega), if_pos (by omega), rdS_get P p (by omega), if_pos hc]
      · by_cases hjp : j = p
        · subst hjp; exact hc
        · exact h2 j (by omega) h
    · refine Tot.step (h := fun k => spec_RowOrder.l1 k l out fl s (P.take (p + 1) ++ [(⟨a, b⟩ : S56)] ++ P.drop (p + 1)) l n (wrap64 (i + 1))) (fun k => ?_) (hk (p + 1) hp (Or.inr ⟨by omega, hc⟩) h2)
      rw [spec_RowOrder.l2, if_pos (by omega), e1, if_pos (by omega), if_pos (by omega), rdS_get P p (by omega), if_neg hc]
      simp only [Option.bind_some, List.nil_append, Int.toNat_natCast]
      rw [if_pos (by omega), if_pos (by omega), if_pos (by simp; omega), if_pos (by simp; omega), if_pos (by simp; omega)]
theorem spec_l1 (l : List S56) (hl : l.length ≤ 1000) (out : List S56) (fl : Bool) (s : Int) {Q : List S56 × Bool → Prop} (hk : Tot (fun k => spec_RowOrder.l3 k l out fl s (rowP l s) (rowP l s).length ((0 : Nat) : Int)) Q) (d : Nat) :
    ∀ (i : Nat) (P : List S56), i + d = l.length → P.Perm (rowAt (l.take i) s) → P.Pairwise Low → Tot (fun k => spec_RowOrder.l1 k l out fl s P l l.length i) Q := by
  induction d with
  | zero =>
    intro i P hi hp hs
    rw [List.take_of_length_le (by omega)] at hp
    obtain rfl := rowP_uniq hp hs
    exact Tot.step (fun k => by rw [spec_RowOrder.l1, if_neg (by omega)]; rfl) hk
  | succ d ih =>
    intro i P hi hp hs
    have hlt : i < l.length := by omega
    have hpl : P.length ≤ 1000 := by rw [hp.length_eq]; have := rowAt_length (l.take i) s; rw [List.length_take] at this; omega
    have hra := rowAt_take l s i hlt
    by_cases hc : l[i].f1 = s
    · rw [if_pos hc] at hra
      refine Tot.step (h := fun k => spec_RowOrder.l2 k l out fl s P P.length l l.length i l[i].f0 l[i].f1) (fun k => by rw [spec_RowOrder.l1, if_pos (by omega), if_pos (by omega), if_pos (by omega), rdS_get l i hlt, if_pos hc]) ?_
      refine spec_l2 l out fl s P hpl l.length i l[i].f0 l[i].f1 (fun q hq h1 h2 => ?_) P.length (Nat.le_refl _) (fun j hj h => by omega)
      have hins := low_ins (x := l[i]) hs q hq h1 h2
      rw [w_next i (by omega)]
      refine ih (i + 1) _ (by omega) ?_ hins.1
      rw [hra]
      exact hins.2.trans (hp.append_right _)
    · rw [if_neg hc, List.append_nil] at hra
      refine Tot.step (h := fun k => spec_RowOrder.l1 k l out fl s P l l.length ((i + 1 : Nat) : Int)) (fun k => by rw [spec_RowOrder.l1, if_pos (by omega), if_pos (by omega), if_pos (by omega), rdS_get l i hlt, if_neg hc, w_next i (by omega)]) (ih (i + 1) P (by omega) (by rw [hra]; exact hp) hs)
def dirP (fl : Bool) (P : List S56) : List S56 := if fl = true then P.reverse else P
theorem dirP_length (fl : Bool) (P : List S56) : (dirP fl P).length = P.length := by unfold dirP; split <;> simp
theorem spec_l3 (l : List S56) (fl : Bool) (s : Int) (P : List S56) (hP : P.length ≤ 1000) (out : List S56) (ho : out.length ≤ 8000000) {Q : List S56 × Bool → Prop}
    (hk : Tot (fun k => spec_RowOrder.l0 k l (out ++ dirP fl P) (if P.length = 0 then fl else !fl) (wrap64 (s + 1))) Q) (d : Nat) : ∀ j : Nat, j + d = P.length → Tot (fun k => spec_RowOrder.l3 k l (out ++ (dirP fl P).take j) fl s P P.length j) Q := by
  have hdl := dirP_length fl P
  induction d with
  | zero =>
    intro j hj
    rw [List.take_of_length_le (by omega)]
    refine Tot.step (fun k => ?_) hk
    rw [spec_RowOrder.l3, if_neg (by omega)]
    by_cases h : P.length = 0
    · rw [if_neg (by omega), if_pos h]
    · rw [if_pos (by omega), if_neg h]
  | succ d ih =>
    intro j hj
    have hlt : j < P.length := by omega
    have hlt2 : j < (dirP fl P).length := by omega
    have hol : (out ++ (dirP fl P).take j).length ≤ 8001000 := by rw [List.length_append, List.length_take]; omega
    refine Tot.step (h := fun k => spec_RowOrder.l3 k l (out ++ (dirP fl P).take (j + 1)) fl s P P.length ((j + 1 : Nat) : Int)) (fun k => ?_) (ih (j + 1) (by omega))
    rw [List.take_succ_eq_append_getElem hlt2, ← List.append_assoc, spec_RowOrder.l3, if_pos (by omega)]
    cases fl with
    | true =>
      have e1 : wrap64 (wrap64 ((P.length : Int) - 1) - j) = ((P.length - 1 - j : Nat) : Int) := by rw [w64 (x := (P.length : Int) - 1) (by omega), w64 (by omega)]; omega
      rw [if_pos rfl, e1, if_pos (by omega), if_pos (by omega)]
      simp only [Option.bind_some]
      rw [if_pos (by rw [List.length_cons, List.length_nil]; omega), w_next j (by omega), rdS_get P (P.length - 1 - j) (by omega)]
      have e2 : (dirP true P)[j] = P[P.length - 1 - j] := by
        simp only [dirP, if_true]
        rw [List.getElem_reverse]
      rw [e2]
    | false =>
      rw [if_neg (by decide), if_pos (by omega), if_pos (by omega)]
      simp only [Option.bind_some]
      rw [if_pos (by rw [List.length_cons, List.length_nil]; omega), w_next j (by omega), rdS_get P j hlt]
      rfl
theorem dir_out (l : List S56) (i : Nat) (s : Int) : dirP (decide (i % 2 = 1)) (rowP l s) = rowOut l i s := by
  unfold dirP rowOut
  by_cases h : i % 2 = 0
  · rw [if_pos h, if_neg (by simp; omega)]
  · rw [if_neg h, if_pos (by simp; omega)]
theorem spec_l0 (l : List S56) (hl : l.length ≤ 1000) (d : Nat) : ∀ (m : Nat) (i : Nat) (out : List S56), m + d = 2000 → out.length + 1000 * d ≤ 4000000 →
    Tot (fun k => spec_RowOrder.l0 k l out (decide (i % 2 = 1)) m) (fun r => r = (out ++ ans l i (stepsOf l m d), true)) := by
  induction d with
  | zero =>
    intro m i out hm ho
    refine Tot.step (h := fun _ => some (out, true)) (fun k => by rw [spec_RowOrder.l0, if_neg (by omega)]) (Tot.now _ (fun _ => rfl) ?_)
    rw [stepsOf, ans, List.append_nil]
  | succ d ih =>
    intro m i out hm ho
    have hpl := rowP_length l m
    have hpe := (rowP_perm l m).length_eq
    refine Tot.step (h := fun k => spec_RowOrder.l1 k l out (decide (i % 2 = 1)) m [] l l.length ((0 : Nat) : Int)) (fun k => by rw [spec_RowOrder.l0, if_pos (by omega)]; rfl) ?_
    refine spec_l1 l hl out (decide (i % 2 = 1)) m ?_ l.length 0 [] (by omega) (by simp [rowAt]) List.Pairwise.nil
    have := spec_l3 l (decide (i % 2 = 1)) m (rowP l m) (by omega) out (by omega) (Q := fun r => r = (out ++ ans l i (stepsOf l m (d + 1)), true)) ?_ (rowP l m).length 0 (by omega)
    · rw [List.take_zero, List.append_nil] at this
      exact this
    · rw [dir_out, w_next m (by omega)]
      have hro := rowOut_length l i m
      by_cases h : (rowP l m).length = 0
      · rw [if_pos h]
        have e1 : rowOut l i m = [] := List.length_eq_zero_iff.1 (by omega)
        rw [e1, List.append_nil]
        refine (ih (m + 1) i out (by omega) (by omega)).weak (fun r hr => ?_)
        rw [hr]
        conv => rhs; rw [stepsOf, if_pos (by omega)]
        rfl
      · rw [if_neg h]
        have e2 : (!decide (i % 2 = 1)) = decide ((i + 1) % 2 = 1) := by
          rcases Nat.mod_two_eq_zero_or_one i with e | e
          · rw [decide_eq_false (by omega), decide_eq_true (by omega)]; rfl
          · rw [decide_eq_true (by omega), decide_eq_false (by omega)]; rfl
        rw [e2]
        refine (ih (m + 1) (i + 1) (out ++ rowOut l i m) (by omega) (by rw [List.length_append]; omega)).weak (fun r hr => ?_)
        rw [hr]
        conv => rhs; rw [stepsOf, if_neg (by omega), ans]
        rw [List.append_assoc]
        rfl
theorem specRow_tot (l : List S56) (hl : l.length ≤ 1048576) : Tot (fun k => spec_RowOrder.f k l) (fun r => r = rowAns l) := by
  refine Tot.bind (Q := fun t => t = decide (StrokesOK l)) (Tot.ge _ (l.length + 1) (fun k hk => puGood_eq l hl k (by omega)) rfl) (fun t ht => ?_)
  subst ht
  unfold rowAns
  by_cases h : StrokesOK l
  · rw [if_pos h]
    refine Tot.congr (fun k => if_pos (decide_eq_true h)) ?_
    have hl2 : l.length ≤ 200 := h.2
    exact (spec_l0 l (by omega) 2000 0 0 [] (by omega) (by rw [List.length_nil]; omega)).weak (fun r hr => by rw [hr, List.nil_append]; rfl)
  · rw [if_neg h]
    exact Tot.now _ (fun k => if_neg (by rw [decide_eq_false h]; decide)) rfl
theorem ans_len (l : List S56) : ∀ (T : List Int) (i : Nat), (ans l i T).length ≤ l.length * T.length
  | [], i => by rw [ans]; simp
  | s :: r, i => by
    have h1 := ans_len l r (i + 1)
    have h2 := rowP_length l s
    have h3 := rowOut_length l i s
    rw [ans, List.length_append, List.length_cons, Nat.mul_add, Nat.mul_one]
    omega
theorem rowAns_length (l : List S56) : (rowAns l).1.length ≤ 400000 := by
  unfold rowAns
  split
  · rename_i h
    have h1 := ans_len l (stepsOf l 0 2000) 0
    have h2 := steps_length l 2000 0
    have h3 : l.length * (stepsOf l 0 2000).length ≤ 200 * 2000 := Nat.mul_le_mul h.2 h2
    simp only
    omega
  · simp

theorem FnExactRowOrder (l : List S61) (hl : l.length ≤ maxLen) (_ : ∀ x ∈ l, (Lit.int .i64 x.f0).wf = true ∧ (Lit.int .i64 x.f1).wf = true) :
    ∃ k, laws_FnExactRowOrder.f k l = some true := by
  by_cases h : l.length ≤ 1048576
  · have h' : (l.map toS).length ≤ 1048576 := by simpa using h
    have e2 : (l.map toS).length = l.length := by simp
    obtain ⟨R, hR, K1, hs⟩ := specRow_tot (l.map toS) h'
    obtain ⟨R', hR', K2, hi⟩ := implRow_tot (l.map toS) h'
    have hal := rowAns_length (l.map toS)
    rw [← hR] at hal
    rw [← hR] at hR'
    subst hR'
    dsimp only at hs hi
    obtain ⟨K, k1, k2, k3⟩ : ∃ K, K1 ≤ K ∧ K2 ≤ K ∧ 2200000 ≤ K := ⟨K1 + K2 + 2200000, by omega, by omega, by omega⟩
    refine ⟨K + 1 + 1 + 1, ?_⟩
    unfold laws_FnExactRowOrder.f
    rw [szStrokes_eq l hl]
    simp only [Option.bind_some]
    rw [if_pos h, if_neg (by omega), toStrokes_eq l h _ (by omega)]
    simp only [Option.bind_some]
    rw [hs _ (by omega)]
    simp only [Option.bind_some]
    rw [hi _ (by omega)]
    simp only [Option.bind_some]
    rw [eqStrokes_self _ (by omega) _ (by omega)]
    simp only [Option.bind_some, bne_self_eq_false, if_true]
    rw [laws_FnExactRowOrder.j0, if_neg (by simp), toStrokes_eq l h _ (by omega)]
    simp only [Option.bind_some]
    rw [eqStrokes_self _ h' _ (by omega)]
    simp only [Option.bind_some, if_true]
    rw [markSt_eq _ h' 1 (by omega) _ (by omega)]
    simp only [Option.bind_some]
    rw [if_neg (by omega), eqStrokes_self _ (by omega) _ (by omega)]
    simp only [Option.bind_some, bne_self_eq_false, if_true]
    rw [laws_FnExactRowOrder.j1, if_neg (by simp), markSt_eq _ (by omega) 1 (by omega) _ (by omega)]
    simp only [Option.bind_some]
    rw [heldSt_eq _ (by omega) 1 (by omega) _ (by omega)]
    simp only [Option.bind_some]
    rw [if_neg (by omega), if_pos trivial, toStrokes_eq l h _ (by omega)]
    simp only [Option.bind_some]
    rw [hi _ (by omega)]
    simp only [Option.bind_some]
    rw [eqStrokes_self _ (by omega) _ (by omega)]
    simp only [Option.bind_some, bne_self_eq_false, if_true]
    rw [laws_FnExactRowOrder.j2, if_neg (by simp), heldSt_eq _ (by omega) 1 (by omega) _ (by omega)]
    simp only [Option.bind_some]
    rw [if_neg (by omega), if_pos trivial]
  · refine ⟨0, ?_⟩
    unfold laws_FnExactRowOrder.f
    rw [szStrokes_eq l hl]
    simp only [Option.bind_some]
    rw [if_neg h, if_pos (by decide)]
end Go.Proofs.Ytcbfpfkkobbmaaa.Pure
