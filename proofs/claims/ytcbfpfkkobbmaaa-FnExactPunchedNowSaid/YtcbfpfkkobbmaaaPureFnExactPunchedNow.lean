/- FnExactPunchedNow: the program's PunchedNow answers as the reference's, in memory of its own, for all jobs. No condition. -/
import Derived.Test.YtcbfpfkkobbmaaaPFnExactPunchedNowx11
namespace Go.Proofs.Ytcbfpfkkobbmaaa.Pure
open Go.RowKit Go.Proofs.Ytcbfpfkkobbmaaa.PFnExactPunchedNow Go.Proofs.YtcbfpfkkobbmaaaW.PrintWords Go.Proofs.YtcbfpfkkobbmaaaW.PrintLast

set_option linter.unusedVariables false
set_option linter.unusedSimpArgs false

theorem w64 {x : Int} (h : -9223372036854775808 ≤ x ∧ x ≤ 9223372036854775807) : wrap64 x = x := by
  unfold wrap64; omega
theorem someF {p : Prop} [Decidable p] (h : ¬ p) : some false = some (decide p) := by rw [decide_eq_false h]
theorem someD {q p : Prop} [Decidable q] [Decidable p] (h : q ↔ p) : some (decide q) = some (decide p) := by rw [decide_eq_decide.2 h]

theorem in_eq (a b c : Int) : spec_l1In.f a b c = some (decide (b ≤ a ∧ a ≤ c)) := by
  unfold spec_l1In.f
  by_cases h : a ≥ b
  · rw [if_pos h]; congr 1; simp [show b ≤ a from h]
  · rw [if_neg h]; congr 1; simp; omega

theorem drop_get {α : Type} (l : List α) (i : Nat) (h : i < l.length) : l.drop i = l[i] :: l.drop (i + 1) := List.drop_eq_getElem_cons h
theorem map_step {α β : Type} (f : α → β) (l : List α) (z : β) (i : Nat) (h : i < l.length) :
    ((l.take i).map f ++ List.replicate (l.length - i) z).set i (f (l[i]'h)) = (l.take (i + 1)).map f ++ List.replicate (l.length - (i + 1)) z := by
  have hl : ((l.take i).map f).length = i := by rw [List.length_map, List.length_take]; omega
  rw [List.set_append_right _ _ (by omega), hl, Nat.sub_self, show l.length - i = (l.length - (i + 1)) + 1 by omega, List.replicate_succ, List.set_cons_zero, List.take_succ_eq_append_getElem h, List.map_append, List.append_assoc]
  rfl
theorem map_length {α β : Type} (f : α → β) (l : List α) (z : β) (i : Nat) (h : i ≤ l.length) : ((l.take i).map f ++ List.replicate (l.length - i) z).length = l.length := by
  simp; omega

theorem rdS_get (l : List S56) (i : Nat) (h : i < l.length) : rd_T56 l (i : Int) = l[i] := by
  unfold rd_T56; rw [Int.toNat_natCast, List.getD_eq_getElem?_getD, List.getElem?_eq_getElem h]; rfl

theorem rdH_get (l : List S58) (i : Nat) (h : i < l.length) : rd_T58 l (i : Int) = l[i] := by
  unfold rd_T58; rw [Int.toNat_natCast, List.getD_eq_getElem?_getD, List.getElem?_eq_getElem h]; rfl
theorem rdLH_get (l : List S81) (i : Nat) (h : i < l.length) : rd_T81 l (i : Int) = l[i] := by
  unfold rd_T81; rw [Int.toNat_natCast, List.getD_eq_getElem?_getD, List.getElem?_eq_getElem h]; rfl
def toH (x : S81) : S58 := ⟨x.f0, x.f1, x.f2⟩
theorem toHoles_loop (l : List S81) (hl : l.length ≤ 1048576) (d : Nat) : ∀ (k i : Nat), i + d = l.length → d < k →
    laws_toHoleS.l0 k l ((l.take i).map toH ++ List.replicate (l.length - i) z58) i = some (l.map toH) := by
  induction d with
  | zero =>
    intro k i hi hk
    obtain ⟨k, rfl⟩ : ∃ j, k = j + 1 := ⟨k - 1, by omega⟩
    rw [laws_toHoleS.l0, if_neg (by omega), show l.length - i = 0 by omega, List.replicate_zero, List.append_nil, List.take_of_length_le (by omega)]
  | succ d ih =>
    intro k i hi hk
    obtain ⟨k, rfl⟩ : ∃ j, k = j + 1 := ⟨k - 1, by omega⟩
    rw [laws_toHoleS.l0, if_pos (by omega), if_pos (by omega), rdLH_get l i (by omega)]
    unfold laws_toHole.f
    simp only [Option.bind_some]
    rw [map_length _ _ _ _ (by omega), if_pos (by omega), Int.toNat_natCast]
    have := map_step toH l z58 i (by omega)
    unfold toH at this ⊢
    rw [this, w64 (by omega)]
    exact ih k (i + 1) (by omega) (by omega)
theorem toHoles_eq (l : List S81) (hl : l.length ≤ 1048576) (k : Nat) (hk : l.length < k) : laws_toHoleS.f k l = some (l.map toH) := by
  unfold laws_toHoleS.f
  rw [if_pos (by omega), if_pos (by omega), Int.toNat_natCast]
  have := toHoles_loop l hl l.length k 0 (by omega) hk
  simpa using this
theorem eqHoles_loop (l : List S58) (hl : l.length ≤ 1048576) (d : Nat) : ∀ (k i : Nat), i + d = l.length → d < k → laws_eqHoleS.l0 k l l i = some true := by
  induction d with
  | zero =>
    intro k i hi hk
    obtain ⟨k, rfl⟩ : ∃ j, k = j + 1 := ⟨k - 1, by omega⟩
    rw [laws_eqHoleS.l0, if_neg (by omega)]
  | succ d ih =>
    intro k i hi hk
    obtain ⟨k, rfl⟩ : ∃ j, k = j + 1 := ⟨k - 1, by omega⟩
    rw [laws_eqHoleS.l0, if_pos (by omega), if_pos (by omega), if_pos (by omega)]
    unfold laws_eqHole.f
    rw [if_pos rfl, if_pos rfl, if_pos rfl]
    simp only [Option.bind_some, if_true]
    rw [w64 (by omega)]
    exact ih k (i + 1) (by omega) (by omega)
theorem eqHoles_self (l : List S58) (hl : l.length ≤ 1048576) (k : Nat) (hk : l.length < k) : laws_eqHoleS.f k l l = some true := by
  unfold laws_eqHoleS.f
  rw [if_pos rfl]
  exact eqHoles_loop l hl l.length k 0 (by omega) hk

theorem szHoles_eq (l : List S81) (hl : l.length ≤ maxLen) : laws_szHoleS.f l 1048576 = some (if l.length ≤ 1048576 then 1048576 - (l.length : Int) else -1) := by
  unfold maxLen at hl
  unfold laws_szHoleS.f
  rw [w64 (by omega)]
  split <;> split <;> first | rfl | omega

/-- holes with ascending numbers in all their fields -/
def upH (n : Int) : Nat → List S58
  | 0 => []
  | d + 1 => ⟨n, n + 1, n + 2⟩ :: upH (n + 3) d
theorem upH_length (n : Int) (d : Nat) : (upH n d).length = d := by
  induction d generalizing n with
  | zero => rfl
  | succ d ih => simp [upH, ih]
theorem markHoles_loop (d : Nat) : ∀ (k : Nat) (p l : List S58) (n : Int), l.length = d → d < k → p.length + l.length ≤ 1048576 → 1 ≤ n ∧ n ≤ 10000000 + 3 * p.length →
    laws_markHoleS.l0 k (p ++ l) n p.length = some (n + 3 * d, p ++ upH n d) := by
  induction d with
  | zero =>
    intro k p l n hi hk hl hn
    obtain ⟨k, rfl⟩ : ∃ j, k = j + 1 := ⟨k - 1, by omega⟩
    obtain rfl := List.length_eq_zero_iff.1 hi
    rw [laws_markHoleS.l0, if_neg (by simp)]
    simp [upH]
  | succ d ih =>
    intro k p l n hi hk hl hn
    obtain ⟨k, rfl⟩ : ∃ j, k = j + 1 := ⟨k - 1, by omega⟩
    obtain ⟨x, r, rfl⟩ : ∃ x r, l = x :: r := by
      cases l with
      | nil => simp at hi
      | cons x r => exact ⟨x, r, rfl⟩
    simp only [List.length_cons] at hi hl
    have hset : ∀ a b : S58, (p ++ a :: r).set p.length b = p ++ b :: r := fun a b => by
      rw [List.set_append_right _ _ (by omega), Nat.sub_self, List.set_cons_zero]
    have hrd : ∀ a : S58, rd_T58 (p ++ a :: r) (p.length : Int) = a := fun a => by
      rw [rdH_get _ p.length (by simp), List.getElem_append_right (by omega)]; simp
    rw [laws_markHoleS.l0, if_pos (by simp; omega), if_pos (by omega), Int.toNat_natCast]
    simp only [Option.bind_some, hset, hrd]
    rw [w64 (x := n + 1) (by omega), w64 (x := n + 1 + 1) (by omega), w64 (x := n + 1 + 1 + 1) (by omega), w64 (by omega)]
    have := ih k (p ++ [⟨n, n + 1, n + 1 + 1⟩]) r (n + 1 + 1 + 1) (by omega) (by omega) (by simp; omega) (by simp; omega)
    rw [show p ++ (⟨n, n + 1, n + 1 + 1⟩ : S58) :: r = (p ++ [⟨n, n + 1, n + 1 + 1⟩]) ++ r by simp, show ((p.length : Int) + 1) = (((p ++ [(⟨n, n + 1, n + 1 + 1⟩ : S58)]).length : Nat) : Int) by simp, this, upH]
    simp only [List.append_assoc, List.singleton_append]
    rw [show n + 1 + 1 + 1 = n + 3 by omega, show n + 1 + 1 = n + 2 by omega]
    congr 2; omega
theorem markHoles_eq (l : List S58) (hl : l.length ≤ 1048576) (n : Int) (hn : 1 ≤ n ∧ n ≤ 10000000) (k : Nat) (hk : l.length < k) : laws_markHoleS.f k l n = some (n + 3 * (l.length : Int), upH n l.length) := by
  unfold laws_markHoleS.f
  have := markHoles_loop l.length k [] l n rfl hk (by simpa using hl) (by simp; omega)
  simpa using this

theorem heldHoles_loop (d : Nat) : ∀ (k : Nat) (p : List S58) (n : Int), d < k → p.length + d ≤ 1048576 → 1 ≤ n ∧ n ≤ 10000000 + 3 * p.length →
    laws_heldHoleS.l0 k (p ++ upH n d) n p.length = some (n + 3 * d) := by
  induction d with
  | zero =>
    intro k p n hk hl hn
    obtain ⟨k, rfl⟩ : ∃ j, k = j + 1 := ⟨k - 1, by omega⟩
    rw [laws_heldHoleS.l0, if_neg (by simp [upH])]; simp
  | succ d ih =>
    intro k p n hk hl hn
    obtain ⟨k, rfl⟩ : ∃ j, k = j + 1 := ⟨k - 1, by omega⟩
    rw [upH, laws_heldHoleS.l0, if_pos (by simp; omega), if_pos (by omega), rdH_get _ p.length (by simp), List.getElem_append_right (by omega)]
    simp only [Nat.sub_self, List.getElem_cons_zero, if_true]
    rw [w64 (x := n + 1) (by omega), if_pos rfl, w64 (x := n + 1 + 1) (by omega), if_pos (by omega), w64 (x := n + 1 + 1 + 1) (by omega), w64 (by omega)]
    have := ih k (p ++ [⟨n, n + 1, n + 2⟩]) (n + 3) (by omega) (by simp; omega) (by simp; omega)
    rw [show p ++ (⟨n, n + 1, n + 2⟩ : S58) :: upH (n + 3) d = (p ++ [⟨n, n + 1, n + 2⟩]) ++ upH (n + 3) d by simp, show ((p.length : Int) + 1) = (((p ++ [(⟨n, n + 1, n + 2⟩ : S58)]).length : Nat) : Int) by simp, show n + 1 + 1 + 1 = n + 3 by omega, this]
    congr 1; omega
theorem heldHoles_eq (d : Nat) (hl : d ≤ 1048576) (n : Int) (hn : 1 ≤ n ∧ n ≤ 10000000) (k : Nat) (hk : d < k) : laws_heldHoleS.f k (upH n d) n = some (n + 3 * (d : Int)) := by
  unfold laws_heldHoleS.f
  have := heldHoles_loop d k [] n hk (by simpa using hl) (by simp; omega)
  simpa using this

/-- sheets: holes in order, none of a track touching an earlier one -/
def HoleOK (x : S58) : Bool := decide (0 ≤ x.f0 ∧ x.f0 ≤ 19 ∧ 0 ≤ x.f1 ∧ x.f1 < x.f2 ∧ x.f2 ≤ 2000)
def hBefore (a b : S58) : Bool := decide (a.f1 < b.f1 ∨ (a.f1 = b.f1 ∧ a.f0 < b.f0))
def lastOK (p : List S58) (x : S58) : Bool := match p.getLast? with
  | none => true
  | some y => hBefore y x
def apartOK (p : List S58) (x : S58) : Bool := p.all fun y => !(decide (x.f0 = y.f0) && decide (y.f2 ≥ x.f1))
def chkSheet (p : List S58) : List S58 → Bool
  | [] => true
  | x :: r => HoleOK x && lastOK p x && apartOK p x && chkSheet (p ++ [x]) r
def SheetB (l : List S58) : Bool := chkSheet [] l && decide (l.length ≤ 60)
def fuelH (i : Nat) : Nat → Nat
  | 0 => 1
  | d + 1 => i + 3 + fuelH (i + 1) d
theorem lastOK_take (l : List S58) (i : Nat) (h : i + 1 < l.length) : lastOK (l.take (i + 1)) l[i + 1] = hBefore l[i] l[i + 1] := by
  unfold lastOK
  rw [List.take_succ_eq_append_getElem (show i < l.length by omega), List.getLast?_concat]

theorem specSheet_row (l : List S58) (x7 : List S58) (x8 x9 a b c : Int) (p : List S58) (hp : p.length ≤ 1048576) (x : S58) (hx : x = ⟨a, b, c⟩) (d : Nat) : ∀ (k j : Nat), j + d = p.length →
    spec_shGood.l1 (k + d + 1) l x7 x8 x9 p p.length j a b c = if apartOK (p.drop j) x then spec_shGood.l0 k l x7 x8 (wrap64 (x9 + 1)) else some false := by
  induction d with
  | zero =>
    intro k j hj
    rw [spec_shGood.l1, if_neg (by omega), List.drop_of_length_le (by omega)]
    rfl
  | succ d ih =>
    intro k j hj
    subst hx
    rw [spec_shGood.l1, if_pos (by omega), if_pos (by omega), if_pos (by omega), rdH_get p j (by omega), drop_get p j (by omega), w64 (by omega), show k + (d + 1) = k + d + 1 by omega, show ((j : Int) + 1) = ((j + 1 : Nat) : Int) by omega, ih k (j + 1) (by omega)]
    unfold apartOK
    rw [List.all_cons]
    by_cases h1 : a = p[j].f0
    · by_cases h2 : p[j].f2 ≥ b
      · rw [if_pos (by omega), if_pos h2]; simp [h1, h2]
      · rw [if_pos (by omega), if_neg h2]; simp [h1, h2]
    · rw [if_neg (by omega)]; simp [h1]
theorem shHole_eq (a b c : Int) : spec_shHole.f a b c = some (HoleOK ⟨a, b, c⟩) := by
  unfold spec_shHole.f HoleOK
  simp only [in_eq, Option.bind_some, decide_eq_true_eq]
  split
  · split
    · rw [w64 (by omega)]; exact someD (by omega)
    · exact someF (by omega)
  · exact someF (by omega)
theorem shBefore_eq (a b c a' b' c' : Int) : spec_shBefore.f a b c a' b' c' = some (hBefore ⟨a, b, c⟩ ⟨a', b', c'⟩) := by
  unfold spec_shBefore.f hBefore
  simp only []
  split
  · rw [decide_eq_true (by omega)]
  · split
    · exact someD (by omega)
    · exact someF (by omega)
theorem specSheet_loop (l : List S58) (hl : l.length ≤ 1048576) (d : Nat) : ∀ (k i : Nat), i + d = l.length → fuelH i d ≤ k →
    spec_shGood.l0 k l l l.length i = some (chkSheet (l.take i) (l.drop i) && decide (l.length ≤ 60)) := by
  induction d with
  | zero =>
    intro k i hi hk
    unfold fuelH at hk
    obtain ⟨k, rfl⟩ : ∃ j, k = j + 1 := ⟨k - 1, by omega⟩
    rw [spec_shGood.l0, if_neg (by omega), List.drop_of_length_le (by omega)]
    unfold chkSheet
    rw [Bool.true_and]
    exact someD (by omega)
  | succ d ih =>
    intro k i hi hk
    unfold fuelH at hk
    obtain ⟨j, rfl⟩ : ∃ j, k = j + i + 1 + 1 + 1 := ⟨k - i - 3, by omega⟩
    have ht : (l.take i).length = i := by rw [List.length_take]; omega
    have e2 : wrap64 ((i : Int) + 1) = ((i + 1 : Nat) : Int) := by rw [w64 (by omega)]; omega
    rw [spec_shGood.l0, if_pos (by omega), if_pos (by omega), if_pos (by omega), rdH_get l i (by omega), shHole_eq, drop_get l i (by omega), chkSheet]
    simp only [Option.bind_some]
    have hj : ∀ flag : Bool, spec_shGood.j1 (j + i + 1 + 1) l i l l.length i flag l[i].f0 l[i].f1 l[i].f2 = if flag then some false else if apartOK (l.take i) l[i] then spec_shGood.l0 j l l l.length ((i + 1 : Nat) : Int) else some false := by
      intro flag
      rw [spec_shGood.j1]
      cases flag
      · simp only [Bool.false_eq_true, if_false]
        rw [if_pos (by omega), if_pos (by omega), Int.toNat_natCast]
        simp only [Option.bind_some]
        have := specSheet_row l l l.length i l[i].f0 l[i].f1 l[i].f2 (l.take i) (by omega) l[i] rfl i j 0 (by omega)
        rw [List.drop_zero, e2] at this
        exact this
      · simp only [if_true]
    have hrec := ih j (i + 1) (by omega) (by omega)
    rw [List.take_succ_eq_append_getElem (show i < l.length by omega)] at hrec
    by_cases h1 : HoleOK l[i] = true
    · rw [if_pos h1, h1]
      rcases Nat.eq_zero_or_pos i with h0 | h0
      · subst h0
        rw [if_neg (by omega), hj false]
        simp only [Bool.false_eq_true, if_false]
        rw [hrec]
        simp [lastOK, apartOK]
      · obtain ⟨m, rfl⟩ : ∃ m, i = m + 1 := ⟨i - 1, by omega⟩
        have e1 : wrap64 (((m + 1 : Nat) : Int) - 1) = (m : Int) := by rw [w64 (by omega)]; omega
        rw [if_pos (by omega), e1, if_pos (by omega), if_pos (by omega), rdH_get l m (by omega), shBefore_eq]
        simp only [Option.bind_some]
        rw [hj, hrec, lastOK_take l m (by omega)]
        cases hb : hBefore l[m] l[m + 1]
        · simp [hb]
        · cases ha : apartOK (l.take (m + 1)) l[m + 1] <;> simp [hb]
    · rw [if_neg h1, Bool.eq_false_iff.2 h1, hj]; simp
theorem shGood_eq (l : List S58) (hl : l.length ≤ 1048576) (k : Nat) (hk : fuelH 0 l.length ≤ k) : spec_shGood.f k l = some (SheetB l) := by
  unfold spec_shGood.f SheetB
  have := specSheet_loop l hl l.length k 0 (by omega) hk
  rw [List.drop_zero, List.take_zero] at this
  exact this

theorem implSheet_row (l : List S58) (x7 : List S58) (x8 x9 a b c : Int) (p : List S58) (hp : p.length ≤ 1048576) (x : S58) (hx : x = ⟨a, b, c⟩) (d : Nat) : ∀ (k j : Nat), j + d = p.length →
    impl_IsSheet.l1 (k + d + 1) l x7 x8 x9 p p.length j a b c = if apartOK (p.drop j) x then impl_IsSheet.l0 k l x7 x8 (wrap64 (x9 + 1)) else some false := by
  induction d with
  | zero =>
    intro k j hj
    rw [impl_IsSheet.l1, if_neg (by omega), List.drop_of_length_le (by omega)]
    rfl
  | succ d ih =>
    intro k j hj
    subst hx
    rw [impl_IsSheet.l1, if_pos (by omega), if_pos (by omega), if_pos (by omega), rdH_get p j (by omega), drop_get p j (by omega), w64 (by omega), show k + (d + 1) = k + d + 1 by omega, show ((j : Int) + 1) = ((j + 1 : Nat) : Int) by omega, ih k (j + 1) (by omega)]
    unfold apartOK
    rw [List.all_cons]
    by_cases h1 : a = p[j].f0
    · by_cases h2 : p[j].f2 ≥ b
      · rw [if_pos (by omega), if_pos h2]; simp [h1, h2]
      · rw [if_pos (by omega), if_neg h2]; simp [h1, h2]
    · rw [if_neg (by omega)]; simp [h1]
theorem isHole_eq (a b c : Int) : impl_IsHole.f a b c = some (HoleOK ⟨a, b, c⟩) := by
  have ht : impl_isTrack.f a = some (decide (0 ≤ a ∧ a ≤ 19)) := by
    unfold impl_isTrack.f
    split
    · exact someD (by omega)
    · exact someF (by omega)
  unfold impl_IsHole.f HoleOK
  rw [ht]
  simp only [Option.bind_some, decide_eq_true_eq]
  repeat' split
  all_goals first
    | exact someF (by omega)
    | exact someD (by omega)
theorem holeLess_eq (a b c a' b' c' : Int) : impl_holeLess.f a b c a' b' c' = some (hBefore ⟨a, b, c⟩ ⟨a', b', c'⟩) := by
  unfold impl_holeLess.f hBefore
  simp only []
  split
  · exact someD (by omega)
  · exact someD (by omega)
theorem implSheet_loop (l : List S58) (hl : l.length ≤ 1048576) (d : Nat) : ∀ (k i : Nat), i + d = l.length → fuelH i d ≤ k →
    impl_IsSheet.l0 k l l l.length i = some (chkSheet (l.take i) (l.drop i)) := by
  induction d with
  | zero =>
    intro k i hi hk
    unfold fuelH at hk
    obtain ⟨k, rfl⟩ : ∃ j, k = j + 1 := ⟨k - 1, by omega⟩
    rw [impl_IsSheet.l0, if_neg (by omega), List.drop_of_length_le (by omega)]
    rfl
  | succ d ih =>
    intro k i hi hk
    unfold fuelH at hk
    obtain ⟨j, rfl⟩ : ∃ j, k = j + i + 1 + 1 + 1 := ⟨k - i - 3, by omega⟩
    have ht : (l.take i).length = i := by rw [List.length_take]; omega
    have e2 : wrap64 ((i : Int) + 1) = ((i + 1 : Nat) : Int) := by rw [w64 (by omega)]; omega
    rw [impl_IsSheet.l0, if_pos (by omega), if_pos (by omega), if_pos (by omega), rdH_get l i (by omega), isHole_eq, drop_get l i (by omega), chkSheet]
    simp only [Option.bind_some]
    have hj : ∀ flag : Bool, impl_IsSheet.j1 (j + i + 1 + 1) l i l l.length i flag l[i].f0 l[i].f1 l[i].f2 = if flag then some false else if apartOK (l.take i) l[i] then impl_IsSheet.l0 j l l l.length ((i + 1 : Nat) : Int) else some false := by
      intro flag
      rw [impl_IsSheet.j1]
      cases flag
      · simp only [Bool.false_eq_true, if_false]
        rw [if_pos (by omega), if_pos (by omega), Int.toNat_natCast]
        simp only [Option.bind_some]
        have := implSheet_row l l l.length i l[i].f0 l[i].f1 l[i].f2 (l.take i) (by omega) l[i] rfl i j 0 (by omega)
        rw [List.drop_zero, e2] at this
        exact this
      · simp only [if_true]
    have hrec := ih j (i + 1) (by omega) (by omega)
    rw [List.take_succ_eq_append_getElem (show i < l.length by omega)] at hrec
    by_cases h1 : HoleOK l[i] = true
    · rw [if_pos h1, h1]
      rcases Nat.eq_zero_or_pos i with h0 | h0
      · subst h0
        rw [if_neg (by omega), hj false]
        simp only [Bool.false_eq_true, if_false]
        rw [hrec]
        simp [lastOK, apartOK]
      · obtain ⟨m, rfl⟩ : ∃ m, i = m + 1 := ⟨i - 1, by omega⟩
        have e1 : wrap64 (((m + 1 : Nat) : Int) - 1) = (m : Int) := by rw [w64 (by omega)]; omega
        rw [if_pos (by omega), e1, if_pos (by omega), if_pos (by omega), rdH_get l m (by omega), holeLess_eq]
        simp only [Option.bind_some]
        rw [hj, hrec, lastOK_take l m (by omega)]
        cases hb : hBefore l[m] l[m + 1]
        · simp [hb]
        · cases ha : apartOK (l.take (m + 1)) l[m + 1] <;> simp [hb]
    · rw [if_neg h1, Bool.eq_false_iff.2 h1, hj]; simp
theorem isSheet_eq (l : List S58) (hl : l.length ≤ 1048576) (k : Nat) (hk : fuelH 0 l.length ≤ k) : impl_IsSheet.f k l = some (SheetB l) := by
  unfold impl_IsSheet.f SheetB
  by_cases h : l.length ≤ 60
  · have := implSheet_loop l hl l.length k 0 (by omega) hk
    rw [List.drop_zero, List.take_zero] at this
    rw [if_neg (by omega), decide_eq_true h, Bool.and_true]
    exact this
  · rw [if_pos (by omega), decide_eq_false h, Bool.and_false]

/-- the strokes that a hole takes -/
def stk (a last pos : Int) : Nat → List S56
  | 0 => []
  | d + 1 => if pos ≤ last then ⟨a, pos⟩ :: stk a last (pos + 4) d else []
theorem stk_length (a last : Int) (d : Nat) : ∀ pos, (stk a last pos d).length ≤ d := by
  induction d with
  | zero => intro pos; exact Nat.le_refl _
  | succ d ih =>
    intro pos
    rw [stk]
    split
    · rw [List.length_cons]; have := ih (pos + 4); omega
    · simp
def stkEnd (a last : Int) (t : List S56) : List S56 := if 0 < t.length then (if (rd_T56 t ((t.length - 1 : Nat) : Int)).f1 < last then t ++ [⟨a, last⟩] else t) else t
theorem stkEnd_length (a last : Int) (t : List S56) : t.length ≤ (stkEnd a last t).length ∧ (stkEnd a last t).length ≤ t.length + 1 := by
  unfold stkEnd
  split
  · split
    · rw [List.length_append, List.length_singleton]; omega
    · omega
  · omega
def holeSt (x : S58) : List S56 := stkEnd x.f0 (x.f2 - 4) (stk x.f0 (x.f2 - 4) x.f1 501)
theorem holeSt_length (x : S58) : (holeSt x).length ≤ 502 := by
  unfold holeSt
  have h1 := stkEnd_length x.f0 (x.f2 - 4) (stk x.f0 (x.f2 - 4) x.f1 501)
  have h2 := stk_length x.f0 (x.f2 - 4) 501 x.f1
  omega
theorem holeSt_none (x : S58) : ((holeSt x).length = 0) ↔ x.f2 - x.f1 < 4 := by
  unfold holeSt
  have h1 := stkEnd_length x.f0 (x.f2 - 4) (stk x.f0 (x.f2 - 4) x.f1 501)
  have h2 : stk x.f0 (x.f2 - 4) x.f1 501 = if x.f1 ≤ x.f2 - 4 then ⟨x.f0, x.f1⟩ :: stk x.f0 (x.f2 - 4) (x.f1 + 4) 500 else [] := rfl
  by_cases h : x.f1 ≤ x.f2 - 4
  · rw [if_pos h] at h2
    have h3 : (stk x.f0 (x.f2 - 4) x.f1 501).length ≠ 0 := by rw [h2]; simp
    constructor <;> intro h4 <;> omega
  · rw [if_neg h] at h2
    constructor
    · intro _; omega
    · intro _; rw [h2]; rfl
/-- the strokes of a sheet's holes, or none if a hole is too short or there are too many strokes -/
def sheetSt (t : List S56) : List S58 → List S56 × Bool
  | [] => if t.length > 200 then ([], false) else (t, true)
  | x :: r => if (holeSt x).length = 0 then ([], false) else sheetSt (t ++ holeSt x) r
theorem sheetSt_length (r : List S58) : ∀ t, (sheetSt t r).1.length ≤ 200 := by
  induction r with
  | nil => intro t; rw [sheetSt]; split <;> simp; omega
  | cons x r ih =>
    intro t
    rw [sheetSt]
    split
    · simp
    · exact ih _
theorem chkSheet_ok (r : List S58) : ∀ p, chkSheet p r = true → ∀ x ∈ r, HoleOK x = true := by
  induction r with
  | nil => intro p _ x hx; simp at hx
  | cons y r ih =>
    intro p h x hx
    rw [chkSheet, Bool.and_eq_true, Bool.and_eq_true, Bool.and_eq_true] at h
    rcases List.mem_cons.1 hx with rfl | hx
    · exact h.1.1.1
    · exact ih _ h.2 x hx
theorem sheet_facts {l : List S58} (h : SheetB l = true) : l.length ≤ 60 ∧ ∀ x ∈ l, 0 ≤ x.f0 ∧ x.f0 ≤ 19 ∧ 0 ≤ x.f1 ∧ x.f1 < x.f2 ∧ x.f2 ≤ 2000 := by
  unfold SheetB at h
  rw [Bool.and_eq_true, decide_eq_true_eq] at h
  refine ⟨h.2, fun x hx => ?_⟩
  have := chkSheet_ok l [] h.1 x hx
  unfold HoleOK at this
  exact of_decide_eq_true this

theorem puHole_loop (a b c : Int) (hb : 0 ≤ b ∧ b ≤ 2000) (hc : 0 ≤ c ∧ c ≤ 2000) (d : Nat) : ∀ (k : Nat) (pos : Int) (t : List S56), 0 ≤ pos ∧ pos ≤ 4000 → c - 4 < pos + 4 * d → d < k → t.length + d ≤ 1000000 →
    spec_puHole.l0 k t pos a b c = some (stkEnd a (c - 4) (t ++ stk a (c - 4) pos d)) := by
  induction d with
  | zero =>
    intro k pos t hp hd hk ht
    obtain ⟨k, rfl⟩ : ∃ j, k = j + 1 := ⟨k - 1, by omega⟩
    rw [spec_puHole.l0, w64 (x := c - 4) (by omega), if_neg (by omega), stk, List.append_nil]
    unfold stkEnd
    by_cases h : 0 < t.length
    · have e1 : wrap64 ((t.length : Int) - 1) = ((t.length - 1 : Nat) : Int) := by rw [w64 (by omega)]; omega
      rw [if_pos (by omega), e1, if_pos (by omega), if_pos (by omega), if_pos h, if_pos (show t.length < 8796093022208 by omega)]
      split <;> rfl
    · rw [if_neg (by omega), if_neg h]
  | succ d ih =>
    intro k pos t hp hd hk ht
    obtain ⟨k, rfl⟩ : ∃ j, k = j + 1 := ⟨k - 1, by omega⟩
    by_cases h : pos ≤ c - 4
    · rw [spec_puHole.l0, w64 (x := c - 4) (by omega), if_pos h, if_pos (by omega), w64 (by omega), ih k (pos + 4) _ (by omega) (by omega) (by omega) (by rw [List.length_append, List.length_singleton]; omega), stk, if_pos h, List.append_assoc]
      rfl
    · have e := ih (k + 1) pos t hp (by omega) (by omega) (by omega)
      cases d with
      | zero =>
        rw [stk, if_neg h]
        rw [stk] at e
        exact e
      | succ d =>
        rw [stk, if_neg h] at e
        rw [stk, if_neg h]
        exact e
theorem puHole_eq (x : S58) (hx : 0 ≤ x.f0 ∧ x.f0 ≤ 19 ∧ 0 ≤ x.f1 ∧ x.f1 < x.f2 ∧ x.f2 ≤ 2000) (k : Nat) (hk : 600 < k) : spec_puHole.f k x.f0 x.f1 x.f2 = some (holeSt x) := by
  unfold spec_puHole.f
  rw [puHole_loop x.f0 x.f1 x.f2 (by omega) (by omega) 501 k x.f1 [] (by omega) (by omega) (by omega) (by simp), List.nil_append]
  rfl
theorem puStrokes_loop (l : List S58) (hl : l.length ≤ 60) (hx : ∀ x ∈ l, 0 ≤ x.f0 ∧ x.f0 ≤ 19 ∧ 0 ≤ x.f1 ∧ x.f1 < x.f2 ∧ x.f2 ≤ 2000) (d : Nat) : ∀ (k i : Nat) (t : List S56), i + d = l.length → d + 700 < k → t.length + 502 * d ≤ 1000000 →
    spec_puStrokes.l0 k t l l.length i = some (sheetSt t (l.drop i)) := by
  induction d with
  | zero =>
    intro k i t hi hk ht
    obtain ⟨k, rfl⟩ : ∃ j, k = j + 1 := ⟨k - 1, by omega⟩
    rw [spec_puStrokes.l0, if_neg (by omega), List.drop_of_length_le (by omega), sheetSt]
    by_cases h : t.length > 200
    · rw [if_pos (by omega), if_pos h]
    · rw [if_neg (by omega), if_neg h]
  | succ d ih =>
    intro k i t hi hk ht
    obtain ⟨k, rfl⟩ : ∃ j, k = j + 1 := ⟨k - 1, by omega⟩
    have hz := holeSt_length l[i]
    rw [spec_puStrokes.l0, if_pos (by omega), if_pos (by omega), if_pos (by omega), rdH_get l i (by omega), puHole_eq _ (hx _ (List.getElem_mem _)) k (by omega), drop_get l i (by omega), sheetSt]
    simp only [Option.bind_some]
    by_cases h : (holeSt l[i]).length = 0
    · rw [if_pos (by omega), if_pos h]
    · rw [if_neg (by omega), if_neg h, if_pos (by omega), w64 (by omega), show ((i : Int) + 1) = ((i + 1 : Nat) : Int) by omega]
      exact ih k (i + 1) _ (by omega) (by omega) (by rw [List.length_append]; omega)
theorem puStrokes_eq (l : List S58) (h : SheetB l = true) (k : Nat) (hk : 800 < k) : spec_puStrokes.f k l = some (sheetSt [] l) := by
  obtain ⟨h1, h2⟩ := sheet_facts h
  exact puStrokes_loop l h1 h2 l.length k 0 [] (by omega) (by omega) (by simp; omega)

theorem holeStrokes_loop (a b c : Int) (hb : 0 ≤ b ∧ b ≤ 2000) (hc : 0 ≤ c ∧ c ≤ 2000) (d : Nat) : ∀ (k : Nat) (pos : Int) (t : List S56), 0 ≤ pos ∧ pos ≤ 4000 → c - 4 < pos + 4 * d → d < k → t.length + d ≤ 1000000 → (t.length = 0 → pos ≤ c - 4) →
    impl_holeStrokes.l0 k t (c - 4) pos a b c = some (stkEnd a (c - 4) (t ++ stk a (c - 4) pos d), true) := by
  induction d with
  | zero =>
    intro k pos t hp hd hk ht hn
    obtain ⟨k, rfl⟩ : ∃ j, k = j + 1 := ⟨k - 1, by omega⟩
    have h : 0 < t.length := by
      by_cases h0 : t.length = 0
      · have := hn h0; omega
      · omega
    have e1 : wrap64 ((t.length : Int) - 1) = ((t.length - 1 : Nat) : Int) := by rw [w64 (by omega)]; omega
    rw [impl_holeStrokes.l0, if_neg (by omega), stk, List.append_nil, e1, if_pos (by omega), if_pos (by omega), if_pos (show t.length < 8796093022208 by omega)]
    unfold stkEnd
    rw [if_pos h]
    by_cases h2 : (rd_T56 t ((t.length - 1 : Nat) : Int)).f1 < c - 4
    · rw [if_pos h2, if_pos h2]
    · rw [if_neg h2, if_neg h2]
  | succ d ih =>
    intro k pos t hp hd hk ht hn
    obtain ⟨k, rfl⟩ : ∃ j, k = j + 1 := ⟨k - 1, by omega⟩
    by_cases h : pos ≤ c - 4
    · rw [impl_holeStrokes.l0, if_pos h, if_pos (by omega), w64 (by omega), ih k (pos + 4) _ (by omega) (by omega) (by omega) (by rw [List.length_append, List.length_singleton]; omega) (by intro h'; simp at h'), stk, if_pos h, List.append_assoc]
      rfl
    · have e := ih (k + 1) pos t hp (by omega) (by omega) (by omega) hn
      cases d with
      | zero =>
        rw [stk, if_neg h]
        rw [stk] at e
        exact e
      | succ d =>
        rw [stk, if_neg h] at e
        rw [stk, if_neg h]
        exact e
theorem holeStrokes_eq (x : S58) (hx : 0 ≤ x.f0 ∧ x.f0 ≤ 19 ∧ 0 ≤ x.f1 ∧ x.f1 < x.f2 ∧ x.f2 ≤ 2000) (k : Nat) (hk : 600 < k) : impl_holeStrokes.f k x.f0 x.f1 x.f2 = some (holeSt x, !((holeSt x).length == 0)) := by
  unfold impl_holeStrokes.f
  have hn := holeSt_none x
  rw [w64 (x := x.f2 - x.f1) (by omega), w64 (x := x.f2 - 4) (by omega)]
  by_cases h : x.f2 - x.f1 < 4
  · have h0 := hn.2 h
    rw [if_pos h, List.length_eq_zero_iff.1 h0]
    rfl
  · have h0 : ¬ (holeSt x).length = 0 := fun h' => h (hn.1 h')
    rw [if_neg h, holeStrokes_loop x.f0 x.f1 x.f2 (by omega) (by omega) 501 k x.f1 [] (by omega) (by omega) (by omega) (by simp) (by omega), List.nil_append]
    have : ((holeSt x).length == 0) = false := by simpa using h0
    rw [this]
    rfl
theorem strokesOf_loop (l : List S58) (hl : l.length ≤ 60) (hx : ∀ x ∈ l, 0 ≤ x.f0 ∧ x.f0 ≤ 19 ∧ 0 ≤ x.f1 ∧ x.f1 < x.f2 ∧ x.f2 ≤ 2000) (d : Nat) : ∀ (k i : Nat) (t : List S56), i + d = l.length → d + 700 < k → t.length + 502 * d ≤ 1000000 →
    impl_strokesOf.l0 k t l l.length i = some (sheetSt t (l.drop i)) := by
  induction d with
  | zero =>
    intro k i t hi hk ht
    obtain ⟨k, rfl⟩ : ∃ j, k = j + 1 := ⟨k - 1, by omega⟩
    rw [impl_strokesOf.l0, if_neg (by omega), List.drop_of_length_le (by omega), sheetSt]
    by_cases h : t.length > 200
    · rw [if_pos (by omega), if_pos h]
    · rw [if_neg (by omega), if_neg h]
  | succ d ih =>
    intro k i t hi hk ht
    obtain ⟨k, rfl⟩ : ∃ j, k = j + 1 := ⟨k - 1, by omega⟩
    have hz := holeSt_length l[i]
    rw [impl_strokesOf.l0, if_pos (by omega), if_pos (by omega), if_pos (by omega), rdH_get l i (by omega), holeStrokes_eq _ (hx _ (List.getElem_mem _)) k (by omega), drop_get l i (by omega), sheetSt]
    simp only [Option.bind_some]
    by_cases h : (holeSt l[i]).length = 0
    · rw [h, if_neg (by decide), if_pos rfl]
    · have : (!((holeSt l[i]).length == 0)) = true := by simpa using h
      rw [if_pos this, if_neg h, if_pos (by omega), w64 (by omega), show ((i : Int) + 1) = ((i + 1 : Nat) : Int) by omega]
      exact ih k (i + 1) _ (by omega) (by omega) (by rw [List.length_append]; omega)
theorem strokesOf_eq (l : List S58) (h : SheetB l = true) (k : Nat) (hk : 800 < k) : impl_strokesOf.f k l = some (sheetSt [] l) := by
  obtain ⟨h1, h2⟩ := sheet_facts h
  exact strokesOf_loop l h1 h2 l.length k 0 [] (by omega) (by omega) (by simp; omega)

/-- a job's strokes: its sheet's, if its number done is one of theirs -/
def jobSt (l : List S58) (n : Int) : List S56 × Bool := if SheetB l then (if (sheetSt [] l).2 then ((sheetSt [] l).1, decide (0 ≤ n ∧ n ≤ ((sheetSt [] l).1.length : Int))) else ((sheetSt [] l).1, false)) else ([], false)
theorem jobSt_length (l : List S58) (n : Int) : (jobSt l n).1.length ≤ 200 := by
  have := sheetSt_length l []
  unfold jobSt
  split
  · split <;> exact this
  · simp
theorem jobSt_done (l : List S58) (n : Int) (h : (jobSt l n).2 = true) : 0 ≤ n ∧ n ≤ ((jobSt l n).1.length : Int) := by
  unfold jobSt at h ⊢
  by_cases h1 : SheetB l = true
  · by_cases h2 : (sheetSt [] l).2 = true
    · rw [if_pos h1, if_pos h2] at h ⊢
      exact of_decide_eq_true h
    · rw [if_pos h1, if_neg h2] at h
      exact absurd h Bool.false_ne_true
  · rw [if_neg h1] at h
    exact absurd h Bool.false_ne_true
theorem specJob_eq (l : List S58) (hl : l.length ≤ 1048576) (n : Int) (k : Nat) (hk : fuelH 0 l.length + 900 ≤ k) : spec_jbStrokes.f k l n = some (jobSt l n) := by
  unfold spec_jbStrokes.f jobSt
  rw [shGood_eq l hl k (by omega)]
  simp only [Option.bind_some]
  by_cases h : SheetB l = true
  · rw [if_pos h, if_pos h, puStrokes_eq l h k (by omega)]
    simp only [Option.bind_some]
    by_cases h2 : (sheetSt [] l).2 = true
    · rw [if_pos h2, if_pos h2, in_eq]
      rfl
    · rw [if_neg h2, if_neg h2]
  · rw [if_neg h, if_neg h]
theorem implJob_eq (l : List S58) (hl : l.length ≤ 1048576) (n : Int) (k : Nat) (hk : fuelH 0 l.length + 900 ≤ k) : impl_jobStrokes.f k l n = some (jobSt l n) := by
  unfold impl_jobStrokes.f jobSt
  rw [isSheet_eq l hl k (by omega)]
  simp only [Option.bind_some]
  by_cases h : SheetB l = true
  · rw [if_pos h, if_pos h, strokesOf_eq l h k (by omega)]
    simp only [Option.bind_some]
    by_cases h2 : (sheetSt [] l).2 = true
    · rw [if_pos h2, if_pos h2]
      by_cases h3 : n ≥ 0
      · rw [if_pos h3]
        congr 2
        rw [decide_eq_decide]
        exact ⟨fun h => ⟨h3, h⟩, fun h => h.2⟩
      · rw [if_neg h3]
        congr 2
        symm
        rw [decide_eq_false_iff_not]
        exact fun h => h3 h.1
    · rw [if_neg h2, if_neg h2]
  · rw [if_neg h, if_neg h]

theorem szJob_eq (l : List S81) (hl : l.length ≤ maxLen) (n : Int) : laws_szPunchJob.f l n 1048576 = some (if l.length ≤ 1048576 then 1048576 - (l.length : Int) else -1) := by
  unfold laws_szPunchJob.f
  rw [szHoles_eq l hl]
  simp only [Option.bind_some]
  split
  · rw [if_neg (by omega)]
  · rw [if_pos (by decide)]
theorem toJob_eq (l : List S81) (hl : l.length ≤ 1048576) (n : Int) (k : Nat) (hk : l.length < k) : laws_toPunchJob.f k l n = some (l.map toH, n) := by
  unfold laws_toPunchJob.f
  rw [toHoles_eq l hl k hk]
  rfl
theorem eqJob_self (l : List S58) (hl : l.length ≤ 1048576) (n : Int) (k : Nat) (hk : l.length < k) : laws_eqPunchJob.f k l n l n = some true := by
  unfold laws_eqPunchJob.f
  rw [eqHoles_self l hl k hk]
  simp


theorem markJob_eq (l : List S58) (hl : l.length ≤ 1048576) (n : Int) (k : Nat) (hk : l.length < k) : laws_markPunchJob.f k l n 1 = some (1 + 3 * (l.length : Int), upH 1 l.length) := by
  unfold laws_markPunchJob.f
  rw [markHoles_eq l hl 1 (by omega) k hk]
  rfl

def StrokeOK (x : S56) : Prop := 0 ≤ x.f0 ∧ x.f0 ≤ 19 ∧ 0 ≤ x.f1 ∧ x.f1 ≤ 1999
instance (x : S56) : Decidable (StrokeOK x) := by unfold StrokeOK; infer_instance
def StrokesOK (l : List S56) : Prop := (∀ x ∈ l, StrokeOK x) ∧ l.length ≤ 200
instance (l : List S56) : Decidable (StrokesOK l) := by unfold StrokesOK; infer_instance
theorem puStroke_eq (a b : Int) : spec_puStroke.f a b = some (decide (StrokeOK ⟨a, b⟩)) := by
  unfold spec_puStroke.f spec_shStep.f
  simp only [in_eq, Option.bind_some, decide_eq_true_eq]
  split
  · exact someD (by unfold StrokeOK; simp only []; omega)
  · exact someF (by unfold StrokeOK; simp only []; omega)
theorem puGood_loop (l : List S56) (hl : l.length ≤ 1048576) (d : Nat) : ∀ (k i : Nat), i + d = l.length → d < k →
    spec_puGood.l0 k l l l.length i = some (decide ((∀ x ∈ l.drop i, StrokeOK x) ∧ l.length ≤ 200)) := by
  induction d with
  | zero =>
    intro k i hi hk
    obtain ⟨k, rfl⟩ : ∃ j, k = j + 1 := ⟨k - 1, by omega⟩
    rw [spec_puGood.l0, if_neg (by omega), List.drop_of_length_le (by omega)]
    exact someD (by simp; omega)
  | succ d ih =>
    intro k i hi hk
    obtain ⟨k, rfl⟩ : ∃ j, k = j + 1 := ⟨k - 1, by omega⟩
    rw [spec_puGood.l0, if_pos (by omega), if_pos (by omega), if_pos (by omega), rdS_get l i (by omega), puStroke_eq, w64 (by omega), drop_get l i (by omega)]
    simp only [Option.bind_some, decide_eq_true_eq]
    split
    · rename_i h
      rw [show ((i : Int) + 1) = ((i + 1 : Nat) : Int) by omega, ih k (i + 1) (by omega) (by omega)]
      exact someD (by rw [List.forall_mem_cons]; exact ⟨fun h' => ⟨⟨h, h'.1⟩, h'.2⟩, fun h' => ⟨h'.1.2, h'.2⟩⟩)
    · rename_i h
      exact someF (by rw [List.forall_mem_cons]; exact fun h' => h h'.1.1)
theorem puGood_eq (l : List S56) (hl : l.length ≤ 1048576) (k : Nat) (hk : l.length < k) : spec_puGood.f k l = some (decide (StrokesOK l)) := by
  unfold spec_puGood.f StrokesOK
  have := puGood_loop l hl l.length k 0 (by omega) hk
  rw [List.drop_zero] at this
  exact this

theorem stk_ok (a last : Int) (ha : 0 ≤ a ∧ a ≤ 19) (hl : last ≤ 1996) (d : Nat) : ∀ pos, 0 ≤ pos → ∀ x ∈ stk a last pos d, StrokeOK x := by
  induction d with
  | zero => intro pos _ x hx; simp [stk] at hx
  | succ d ih =>
    intro pos hp x hx
    rw [stk] at hx
    split at hx
    · rcases List.mem_cons.1 hx with rfl | hx
      · unfold StrokeOK; exact ⟨ha.1, ha.2, hp, by simp only; omega⟩
      · exact ih (pos + 4) (by omega) x hx
    · simp at hx
theorem holeSt_ok (h : S58) (hh : 0 ≤ h.f0 ∧ h.f0 ≤ 19 ∧ 0 ≤ h.f1 ∧ h.f1 < h.f2 ∧ h.f2 ≤ 2000) : ∀ x ∈ holeSt h, StrokeOK x := by
  intro x hx
  have hs := stk_ok h.f0 (h.f2 - 4) ⟨hh.1, hh.2.1⟩ (by omega) 501 h.f1 hh.2.2.1
  unfold holeSt stkEnd at hx
  split at hx
  · rename_i h0
    split at hx
    · rename_i h1
      rcases List.mem_append.1 hx with hx | hx
      · exact hs x hx
      · obtain rfl := List.mem_singleton.1 hx
        have h2 : 0 ≤ h.f2 - 4 := by
          rcases Int.lt_or_le (h.f2 - 4) h.f1 with g | g
          · exfalso
            have : stk h.f0 (h.f2 - 4) h.f1 501 = [] := by
              show stk h.f0 (h.f2 - 4) h.f1 (500 + 1) = []
              rw [stk, if_neg (by omega)]
            rw [this] at h0
            simp at h0
          · omega
        unfold StrokeOK
        exact ⟨hh.1, hh.2.1, h2, by simp only; omega⟩
    · exact hs x hx
  · exact hs x hx
theorem sheetSt_ok (r : List S58) : ∀ t, (∀ x ∈ t, StrokeOK x) → (∀ h ∈ r, 0 ≤ h.f0 ∧ h.f0 ≤ 19 ∧ 0 ≤ h.f1 ∧ h.f1 < h.f2 ∧ h.f2 ≤ 2000) → ∀ x ∈ (sheetSt t r).1, StrokeOK x := by
  induction r with
  | nil =>
    intro t ht _ x hx
    rw [sheetSt] at hx
    split at hx
    · simp at hx
    · exact ht x hx
  | cons h r ih =>
    intro t ht hr x hx
    rw [sheetSt] at hx
    split at hx
    · simp at hx
    · refine ih (t ++ holeSt h) (fun y hy => ?_) (fun y hy => hr y (List.mem_cons_of_mem _ hy)) x hx
      rcases List.mem_append.1 hy with hy | hy
      · exact ht y hy
      · exact holeSt_ok h (hr h List.mem_cons_self) y hy
theorem jobSt_ok (l : List S58) (n : Int) : ∀ x ∈ (jobSt l n).1, StrokeOK x := by
  intro x hx
  unfold jobSt at hx
  by_cases h1 : SheetB l = true
  · have := sheetSt_ok l [] (fun y hy => by simp at hy) (sheet_facts h1).2 x
    rw [if_pos h1] at hx
    split at hx
    · exact this hx
    · exact this hx
  · rw [if_neg h1] at hx
    simp at hx

/-- with enough rounds the answer is r -/
def Evn {α : Type} (g : Nat → Option α) (r : α) : Prop := ∃ K, ∀ k, K ≤ k → g k = some r
theorem Evn.const {α : Type} {g : Nat → Option α} {r : α} (h : ∀ k, g k = some r) : Evn g r := ⟨0, fun k _ => h k⟩
theorem Evn.ge {α : Type} {g : Nat → Option α} {r : α} (K : Nat) (h : ∀ k, K ≤ k → g k = some r) : Evn g r := ⟨K, h⟩
theorem Evn.step {α : Type} {g h : Nat → Option α} {r : α} (hs : ∀ k, g (k + 1) = h k) (e : Evn h r) : Evn g r := by
  obtain ⟨K, hK⟩ := e
  refine ⟨K + 1, fun k hk => ?_⟩
  obtain ⟨j, rfl⟩ : ∃ j, k = j + 1 := ⟨k - 1, by omega⟩
  rw [hs]
  exact hK j (by omega)
theorem Evn.congr {α : Type} {g h : Nat → Option α} {r : α} (hs : ∀ k, g k = h k) (e : Evn h r) : Evn g r := by
  obtain ⟨K, hK⟩ := e
  exact ⟨K, fun k hk => by rw [hs]; exact hK k hk⟩
theorem Evn.bind {α β : Type} {g : Nat → Option α} {a : α} {h : Nat → α → Option β} {r : β} (e : Evn g a) (e2 : Evn (fun k => h k a) r) : Evn (fun k => (g k).bind (h k)) r := by
  obtain ⟨K, hK⟩ := e
  obtain ⟨M, hM⟩ := e2
  refine ⟨K + M, fun k hk => ?_⟩
  simp only []
  rw [hK k (by omega), Option.bind_some]
  exact hM k (by omega)
theorem Evn.both {α β : Type} {g : Nat → Option α} {h : Nat → Option β} {r : α} {q : β} (e : Evn g r) (f : Evn h q) : ∃ K, ∀ k, K ≤ k → g k = some r ∧ h k = some q := by
  obtain ⟨K, hK⟩ := e
  obtain ⟨M, hM⟩ := f
  exact ⟨K + M, fun k hk => ⟨hK k (by omega), hM k (by omega)⟩⟩

/-- which steps of which tracks holes cover -/
def Cov (L : List S58) (t s : Int) : Prop := ∃ h ∈ L, h.f0 = t ∧ h.f1 ≤ s ∧ s < h.f2
def Apart (a b : S58) : Prop := a.f0 < b.f0 ∨ (a.f0 = b.f0 ∧ a.f2 < b.f1)
/-- holes track after track, none touching another one -/
def Norm (L : List S58) : Prop := L.Pairwise Apart ∧ ∀ h ∈ L, h.f1 < h.f2
theorem norm_nil : Norm [] := ⟨List.Pairwise.nil, fun h hh => by simp at hh⟩
theorem cov_nil (t s : Int) : ¬ Cov [] t s := fun ⟨h, hh, _⟩ => by simp at hh
theorem cov_cons (a : S58) (L : List S58) (t s : Int) : Cov (a :: L) t s ↔ (a.f0 = t ∧ a.f1 ≤ s ∧ s < a.f2) ∨ Cov L t s := by
  unfold Cov
  constructor
  · rintro ⟨h, hh, hc⟩
    rcases List.mem_cons.1 hh with rfl | hh
    · exact Or.inl hc
    · exact Or.inr ⟨h, hh, hc⟩
  · rintro (hc | ⟨h, hh, hc⟩)
    · exact ⟨a, List.mem_cons_self, hc⟩
    · exact ⟨h, List.mem_cons_of_mem _ hh, hc⟩
theorem cov_append (A B : List S58) (t s : Int) : Cov (A ++ B) t s ↔ Cov A t s ∨ Cov B t s := by
  induction A with
  | nil => simp [cov_nil]
  | cons a A ih => rw [List.cons_append, cov_cons, cov_cons, ih, or_assoc]
theorem norm_cons {a : S58} {L : List S58} (h : Norm (a :: L)) : (∀ b ∈ L, Apart a b) ∧ a.f1 < a.f2 ∧ Norm L := by
  obtain ⟨h1, h2⟩ := h
  rw [List.pairwise_cons] at h1
  exact ⟨h1.1, h2 a List.mem_cons_self, h1.2, fun x hx => h2 x (List.mem_cons_of_mem _ hx)⟩
/-- what is covered lies behind the first hole's begin -/
theorem norm_first {a : S58} {L : List S58} (h : Norm (a :: L)) {t s : Int} (hc : Cov (a :: L) t s) : a.f0 < t ∨ (a.f0 = t ∧ a.f1 ≤ s) := by
  obtain ⟨h1, h2, h3⟩ := norm_cons h
  rcases (cov_cons _ _ _ _).1 hc with ⟨e, e1, e2⟩ | ⟨b, hb, e, e1, e2⟩
  · exact Or.inr ⟨e, e1⟩
  · rcases h1 b hb with g | ⟨g1, g2⟩
    · exact Or.inl (by omega)
    · exact Or.inr ⟨by omega, by omega⟩
theorem norm_end {a : S58} {L : List S58} (h : Norm (a :: L)) : ¬ Cov (a :: L) a.f0 a.f2 := by
  obtain ⟨h1, h2, h3⟩ := norm_cons h
  intro hc
  rcases (cov_cons _ _ _ _).1 hc with ⟨e, e1, e2⟩ | ⟨b, hb, e, e1, e2⟩
  · omega
  · rcases h1 b hb with g | ⟨g1, g2⟩
    · omega
    · omega
theorem norm_rest {a : S58} {L : List S58} (h : Norm (a :: L)) (t s : Int) : Cov L t s ↔ Cov (a :: L) t s ∧ ¬ (a.f0 = t ∧ a.f1 ≤ s ∧ s < a.f2) := by
  obtain ⟨h1, h2, h3⟩ := norm_cons h
  rw [cov_cons]
  constructor
  · rintro ⟨b, hb, e, e1, e2⟩
    refine ⟨Or.inr ⟨b, hb, e, e1, e2⟩, ?_⟩
    rcases h1 b hb with g | ⟨g1, g2⟩
    · omega
    · omega
  · rintro ⟨hc | hc, hn⟩
    · exact absurd hc hn
    · exact hc
/-- two such lists that cover the same are the same -/
theorem norm_unique : ∀ (L M : List S58), Norm L → Norm M → (∀ t s, Cov L t s ↔ Cov M t s) → L = M
  | [], [], _, _, _ => rfl
  | [], b :: M, _, hM, hc => by
    have h := norm_cons hM
    exact absurd ((hc b.f0 b.f1).2 ⟨b, List.mem_cons_self, rfl, Int.le_refl _, h.2.1⟩) (cov_nil _ _)
  | a :: L, [], hL, _, hc => by
    have h := norm_cons hL
    exact absurd ((hc a.f0 a.f1).1 ⟨a, List.mem_cons_self, rfl, Int.le_refl _, h.2.1⟩) (cov_nil _ _)
  | a :: L, b :: M, hL, hM, hc => by
    have ha := norm_cons hL
    have hb := norm_cons hM
    have ca : Cov (a :: L) a.f0 a.f1 := ⟨a, List.mem_cons_self, rfl, Int.le_refl _, ha.2.1⟩
    have cb : Cov (b :: M) b.f0 b.f1 := ⟨b, List.mem_cons_self, rfl, Int.le_refl _, hb.2.1⟩
    have l1 := norm_first hM ((hc _ _).1 ca)
    have l2 := norm_first hL ((hc _ _).2 cb)
    have e0 : a.f0 = b.f0 := by omega
    have e1 : a.f1 = b.f1 := by omega
    have e2 : a.f2 = b.f2 := by
      rcases Int.lt_trichotomy a.f2 b.f2 with h | h | h
      · refine absurd ((hc a.f0 a.f2).2 ⟨b, List.mem_cons_self, e0.symm, ?_, h⟩) (norm_end hL)
        have := ha.2.1
        omega
      · exact h
      · refine absurd ((hc b.f0 b.f2).1 ⟨a, List.mem_cons_self, e0, ?_, h⟩) (norm_end hM)
        have := hb.2.1
        omega
    have e : a = b := by
      obtain ⟨a0, a1, a2⟩ := a
      obtain ⟨b0, b1, b2⟩ := b
      simp only at e0 e1 e2
      rw [e0, e1, e2]
    subst e
    rw [norm_unique L M ha.2.2 hb.2.2 (fun t s => by rw [norm_rest hL, norm_rest hM, hc])]
/-- a hole's piece behind what is there: the last hole is made longer, or a new one begins -/
def mg (L : List S58) (t a b : Int) : List S58 := match L.getLast? with
  | none => [⟨t, a, b⟩]
  | some h => if h.f0 = t ∧ a ≤ h.f2 then L.dropLast ++ [⟨h.f0, h.f1, mx h.f2 b⟩] else L ++ [⟨t, a, b⟩]
theorem norm_append {L : List S58} {x : S58} : Norm (L ++ [x]) ↔ Norm L ∧ (∀ h ∈ L, Apart h x) ∧ x.f1 < x.f2 := by
  unfold Norm
  rw [List.pairwise_append]
  constructor
  · rintro ⟨⟨h1, _, h3⟩, h4⟩
    exact ⟨⟨h1, fun h hh => h4 h (List.mem_append_left _ hh)⟩, fun h hh => h3 h hh x (List.mem_singleton.2 rfl), h4 x (List.mem_append_right _ (List.mem_singleton.2 rfl))⟩
  · rintro ⟨⟨h1, h2⟩, h3, h4⟩
    refine ⟨⟨h1, List.pairwise_singleton _ _, fun h hh y hy => by obtain rfl := List.mem_singleton.1 hy; exact h3 h hh⟩, fun h hh => ?_⟩
    rcases List.mem_append.1 hh with hh | hh
    · exact h2 h hh
    · obtain rfl := List.mem_singleton.1 hh; exact h4
theorem mg_ok (L : List S58) (t a b : Int) (hL : Norm L) (hab : a < b) (hb : ∀ h ∈ L, h.f0 < t ∨ (h.f0 = t ∧ h.f1 ≤ a)) :
    Norm (mg L t a b) ∧ (∀ t' s, Cov (mg L t a b) t' s ↔ Cov L t' s ∨ (t = t' ∧ a ≤ s ∧ s < b)) ∧ (∀ h ∈ mg L t a b, h.f0 < t ∨ (h.f0 = t ∧ h.f1 ≤ a)) ∧ (mg L t a b).length ≤ L.length + 1 := by
  unfold mg
  rcases List.eq_nil_or_concat L with rfl | ⟨I, x, hIx⟩
  · rw [List.getLast?_nil]
    refine ⟨⟨List.pairwise_singleton _ _, fun h hh => by obtain rfl := List.mem_singleton.1 hh; exact hab⟩, fun t' s => by rw [cov_cons, or_comm], fun h hh => by obtain rfl := List.mem_singleton.1 hh; exact Or.inr ⟨rfl, Int.le_refl _⟩, by simp⟩
  · rw [List.concat_eq_append] at hIx
    subst hIx
    rw [List.getLast?_concat]
    obtain ⟨n1, n2, n3⟩ := norm_append.1 hL
    have hx := hb x (List.mem_append_right _ (List.mem_singleton.2 rfl))
    have hI : ∀ h ∈ I, h.f0 < t ∨ (h.f0 = t ∧ h.f1 ≤ a) := fun h hh => hb h (List.mem_append_left _ hh)
    by_cases hc : x.f0 = t ∧ a ≤ x.f2
    · simp only [if_pos hc, List.dropLast_concat]
      have hm : mx x.f2 b = x.f2 ∧ b ≤ x.f2 ∨ mx x.f2 b = b ∧ x.f2 ≤ b := by unfold mx; omega
      refine ⟨norm_append.2 ⟨n1, n2, by simp only; omega⟩, fun t' s => ?_, fun h hh => ?_, by simp⟩
      · rw [cov_append, cov_append, cov_cons, cov_cons]
        simp only [cov_nil, or_false]
        constructor
        · rintro (h | h)
          · exact Or.inl (Or.inl h)
          · by_cases g : s < x.f2
            · exact Or.inl (Or.inr ⟨h.1, h.2.1, g⟩)
            · exact Or.inr ⟨by omega, by omega, by omega⟩
        · rintro ((h | h) | h)
          · exact Or.inl h
          · exact Or.inr ⟨h.1, h.2.1, by omega⟩
          · exact Or.inr ⟨by omega, by omega, by omega⟩
      · rcases List.mem_append.1 hh with hh | hh
        · exact hI h hh
        · obtain rfl := List.mem_singleton.1 hh
          simp only
          omega
    · simp only [if_neg hc]
      refine ⟨norm_append.2 ⟨hL, fun h hh => ?_, hab⟩, fun t' s => ?_, fun h hh => ?_, by simp⟩
      · unfold Apart
        simp only
        rcases List.mem_append.1 hh with hh | hh
        · have g1 := hI h hh
          have g2 := n2 h hh
          unfold Apart at g2
          omega
        · obtain rfl := List.mem_singleton.1 hh
          omega
      · rw [cov_append, cov_cons]
        simp only [cov_nil, or_false]
      · rcases List.mem_append.1 hh with hh | hh
        · exact hb h hh
        · obtain rfl := List.mem_singleton.1 hh
          exact Or.inr ⟨rfl, Int.le_refl _⟩

theorem pair_mem {α : Type} {R : α → α → Prop} : ∀ {L : List α}, L.Pairwise R → ∀ a ∈ L, ∀ b ∈ L, a = b ∨ R a b ∨ R b a
  | [], _, a, ha, _, _ => by simp at ha
  | x :: L, h, a, ha, b, hb => by
    rw [List.pairwise_cons] at h
    rcases List.mem_cons.1 ha with e1 | h1
    · rcases List.mem_cons.1 hb with e2 | h2
      · exact Or.inl (e1.trans e2.symm)
      · exact Or.inr (Or.inl (e1 ▸ h.1 b h2))
    · rcases List.mem_cons.1 hb with e2 | h2
      · exact Or.inr (Or.inr (e2 ▸ h.1 a h1))
      · exact pair_mem h.2 a h1 b h2
theorem lt_before (a b : S58) : impl_holeLt a b = hBefore a b := rfl
theorem norm_keys {L : List S58} (h : Norm L) : ∀ a ∈ L, ∀ b ∈ L, impl_holeLt a b = false → impl_holeLt b a = false → a = b := by
  intro a ha b hb h1 h2
  unfold impl_holeLt at h1 h2
  have h1 := of_decide_eq_false h1
  have h2 := of_decide_eq_false h2
  rcases pair_mem h.1 a ha b hb with e | e | e
  · exact e
  · have := h.2 a ha
    unfold Apart at e
    omega
  · have := h.2 b hb
    unfold Apart at e
    omega
/-- holes in order -/
def inOrder (L : List S58) : List S58 := L.mergeSort (fun a b => !impl_holeLt b a)
/-- a sheet of holes, if they are one -/
def shOf (L : List S58) : List S58 × Bool := if SheetB (inOrder L) then (inOrder L, true) else ([], false)
theorem inOrder_length (L : List S58) : (inOrder L).length = L.length := by unfold inOrder; exact (List.mergeSort_perm _ _).length_eq
theorem sortHoles_eq {L : List S58} (h : Norm L) (hl : L.length ≤ 1048576) : impl_sortHoles.f L = some (inOrder L) := by
  unfold impl_sortHoles.f inOrder
  rw [if_pos ⟨by omega, fun a ha b hb h1 h2 => by rw [norm_keys h a ha b hb h1 h2]; exact ⟨rfl, rfl, rfl⟩⟩]
theorem order_facts {L : List S58} (h : Norm L) (hl : L.length ≤ 1048576) {M : List S58} (hp : M.Perm L) (hs : M.Pairwise (fun a b => impl_holeLt b a = false)) : M = inOrder L := impl_sortHoles.uniq (sortHoles_eq h hl) hp hs
theorem short_no (L : List S58) (h : 60 < L.length) : SheetB (inOrder L) = false := by
  unfold SheetB
  rw [inOrder_length, decide_eq_false (by omega), Bool.and_false]
theorem sheetOf_eq {L : List S58} (h : Norm L) (hl : L.length ≤ 1048576) (k : Nat) (hk : fuelH 0 L.length ≤ k) : impl_sheetOf.f k L = some (shOf L) := by
  unfold impl_sheetOf.f shOf
  by_cases h60 : (L.length : Int) > 60
  · rw [if_pos h60, short_no L (by omega)]
    rfl
  · rw [if_neg h60]
    unfold slices_Clone_Hole.f
    rw [if_pos (by omega)]
    simp only [Option.bind_some]
    rw [sortHoles_eq h hl]
    simp only [Option.bind_some]
    rw [isSheet_eq _ (by rw [inOrder_length]; exact hl) k (by rw [inOrder_length]; exact hk)]
    simp only [Option.bind_some]
    cases SheetB (inOrder L) <;> rfl

def NotAfter (a b : S58) : Prop := impl_holeLt b a = false
theorem insert_order {out : List S58} {x : S58} (ho : out.Pairwise NotAfter) (j : Nat) (hj : j ≤ out.length) (h1 : ∀ i, j ≤ i → ∀ h : i < out.length, hBefore x out[i] = true) (h2 : ∀ h : 0 < j, hBefore x (out[j - 1]'(by omega)) = false) :
    (out.take j ++ [x] ++ out.drop j).Pairwise NotAfter := by
  have hO := impl_holeLt.swo
  rw [List.append_assoc, List.pairwise_append]
  refine ⟨ho.sublist (List.take_sublist _ _), ?_, ?_⟩
  · rw [List.singleton_append, List.pairwise_cons]
    refine ⟨fun y hy => ?_, ho.sublist (List.drop_sublist _ _)⟩
    obtain ⟨i, hi, rfl⟩ := List.mem_iff_getElem.1 hy
    rw [List.length_drop] at hi
    rw [List.getElem_drop]
    have := h1 (j + i) (by omega) (by omega)
    unfold NotAfter
    rw [lt_before]
    unfold hBefore at *
    have := of_decide_eq_true this
    exact decide_eq_false (by omega)
  · intro a ha y hy
    obtain ⟨i, hi, rfl⟩ := List.mem_iff_getElem.1 ha
    rw [List.length_take] at hi
    rw [List.getElem_take]
    have hj0 : 0 < j := by omega
    have e2 := h2 hj0
    -- what lies ahead is not after x
    have ea : NotAfter out[i] x := by
      unfold NotAfter
      rw [lt_before]
      by_cases he : i = j - 1
      · subst he; exact e2
      · have := (List.pairwise_iff_getElem.1 ho) i (j - 1) (by omega) (by omega) (by omega)
        exact hO.ntrans _ _ _ e2 this
    rcases List.mem_cons.1 (by simpa using hy) with rfl | hy
    · exact ea
    · obtain ⟨q, hq, rfl⟩ := List.mem_iff_getElem.1 hy
      rw [List.length_drop] at hq
      rw [List.getElem_drop]
      exact (List.pairwise_iff_getElem.1 ho) i (j + q) (by omega) (by omega) (by omega)
theorem insert_perm {α : Type} (out : List α) (x : α) (j : Nat) : (out.take j ++ [x] ++ out.drop j).Perm (out ++ [x]) := by
  rw [List.append_assoc]
  have h1 : (out.take j ++ ([x] ++ out.drop j)).Perm (out.take j ++ (out.drop j ++ [x])) := (List.perm_append_comm).append_left _
  refine h1.trans ?_
  rw [← List.append_assoc, List.take_append_drop]
/-- the place of a further hole -/
theorem place_loop (out l : List S58) (hl : out.length ≤ 1048576) (x : S58) (n i : Int) {r : List S58 × Bool}
    (hk : ∀ j (_hj : j ≤ out.length), (∀ q, j ≤ q → ∀ h : q < out.length, hBefore x out[q] = true) → (∀ h : 0 < j, hBefore x (out[j - 1]'(by omega)) = false) →
      Evn (fun k => spec_shSorted.l0 k (out.take j ++ [x] ++ out.drop j) l n (wrap64 (i + 1))) r) :
    ∀ p, p ≤ out.length → (∀ q, p ≤ q → ∀ h : q < out.length, hBefore x out[q] = true) → Evn (fun k => spec_shSorted.l1 k out p l n i x.f0 x.f1 x.f2) r := by
  intro p
  induction p with
  | zero =>
    intro hp ha
    refine Evn.step (h := fun k => spec_shSorted.l0 k (out.take 0 ++ [x] ++ out.drop 0) l n (wrap64 (i + 1))) (fun k => ?_) (hk 0 (by omega) ha (fun h => absurd h (by omega)))
    rw [spec_shSorted.l1, if_neg (by simp)]
    simp only [Option.bind_some]
    rw [if_pos (by omega), if_pos (by omega)]
    simp only [Int.toNat_natCast, List.nil_append]
    rw [if_pos (by simp), if_pos (by simp), if_pos (by simp; omega)]
  | succ p ih =>
    intro hp ha
    have e1 : wrap64 (((p + 1 : Nat) : Int) - 1) = (p : Int) := by rw [w64 (by omega)]; omega
    by_cases hb : hBefore x (out[p]'(by omega)) = true
    · refine Evn.step (h := fun k => spec_shSorted.l1 k out p l n i x.f0 x.f1 x.f2) (fun k => ?_) (ih (by omega) (fun q hq h => ?_))
      · rw [spec_shSorted.l1, if_pos (by omega), e1, if_pos (by omega), if_pos (by omega), rdH_get out p (by omega), shBefore_eq]
        simp only [Option.bind_some]
        rw [hb, if_pos rfl]
      · by_cases hq' : q = p
        · subst hq'; exact hb
        · exact ha q (by omega) h
    · have hb' : hBefore x (out[p]'(by omega)) = false := Bool.eq_false_iff.2 hb
      refine Evn.step (h := fun k => spec_shSorted.l0 k (out.take (p + 1) ++ [x] ++ out.drop (p + 1)) l n (wrap64 (i + 1))) (fun k => ?_) (hk (p + 1) hp ha (fun _ => hb'))
      rw [spec_shSorted.l1, if_pos (by omega), e1, if_pos (by omega), if_pos (by omega), rdH_get out p (by omega), shBefore_eq]
      simp only [Option.bind_some]
      rw [hb', if_neg (by decide), if_pos (by omega), if_pos (by omega)]
      simp only [Int.toNat_natCast, List.nil_append]
      rw [if_pos (by simp; omega), if_pos (by simp; omega), if_pos (by simp; omega)]
theorem shSorted_loop (l : List S58) (hl : l.length ≤ 1048576) (d : Nat) : ∀ (i : Nat) (out : List S58), i + d = l.length → out.Perm (l.take i) → out.Pairwise NotAfter →
    ∃ M, M.Perm l ∧ M.Pairwise NotAfter ∧ Evn (fun k => spec_shSorted.l0 k out l l.length i) (if SheetB M then (M, true) else ([], false)) := by
  induction d with
  | zero =>
    intro i out hi hp hs
    have hn : l.take i = l := List.take_of_length_le (by omega)
    rw [hn] at hp
    have hol := hp.length_eq
    refine ⟨out, hp, hs, fuelH 0 out.length + 1, fun k hk => ?_⟩
    obtain ⟨k, rfl⟩ : ∃ j, k = j + 1 := ⟨k - 1, by omega⟩
    simp only []
    rw [spec_shSorted.l0, if_neg (by omega), shGood_eq out (by omega) k (by omega)]
    simp only [Option.bind_some]
    cases SheetB out <;> rfl
  | succ d ih =>
    intro i out hi hp hs
    have hol : out.length = i := by rw [hp.length_eq, List.length_take]; omega
    have hi' : i < l.length := by omega
    -- which place it comes to doesn't matter: each is in order
    have ht : l.take (i + 1) = l.take i ++ [l[i]] := List.take_succ_eq_append_getElem hi'
    have hnext : ∀ j (_hj : j ≤ out.length), (∀ q, j ≤ q → ∀ h : q < out.length, hBefore l[i] out[q] = true) → (∀ h : 0 < j, hBefore l[i] (out[j - 1]'(by omega)) = false) →
        (out.take j ++ [l[i]] ++ out.drop j).Perm (l.take (i + 1)) ∧ (out.take j ++ [l[i]] ++ out.drop j).Pairwise NotAfter := fun j hj h1 h2 =>
      ⟨(insert_perm out l[i] j).trans (by rw [ht]; exact hp.append_right _), insert_order hs j hj h1 h2⟩
    obtain ⟨j0, hj0, a0, b0⟩ : ∃ j, ∃ hj : j ≤ out.length, (∀ q, j ≤ q → ∀ h : q < out.length, hBefore l[i] out[q] = true) ∧ (∀ h : 0 < j, hBefore l[i] (out[j - 1]'(by omega)) = false) := by
      have : ∀ p, p ≤ out.length → (∀ q, p ≤ q → ∀ h : q < out.length, hBefore l[i] out[q] = true) → ∃ j, ∃ hj : j ≤ out.length, (∀ q, j ≤ q → ∀ h : q < out.length, hBefore l[i] out[q] = true) ∧ (∀ h : 0 < j, hBefore l[i] (out[j - 1]'(by omega)) = false) := by
        intro p
        induction p with
        | zero => intro hp' ha; exact ⟨0, by omega, ha, fun h => absurd h (by omega)⟩
        | succ p ihp =>
          intro hp' ha
          by_cases hb : hBefore l[i] (out[p]'(by omega)) = true
          · refine ihp (by omega) (fun q hq h => ?_)
            by_cases hq' : q = p
            · subst hq'; exact hb
            · exact ha q (by omega) h
          · exact ⟨p + 1, hp', ha, fun _ => Bool.eq_false_iff.2 hb⟩
      exact this out.length (Nat.le_refl _) (fun q hq h => absurd h (by omega))
    obtain ⟨M, hM1, hM2, hM3⟩ := ih (i + 1) _ (by omega) (hnext j0 hj0 a0 b0).1 (hnext j0 hj0 a0 b0).2
    refine ⟨M, hM1, hM2, ?_⟩
    refine Evn.step (h := fun k => spec_shSorted.l1 k out out.length l l.length i l[i].f0 l[i].f1 l[i].f2) (fun k => ?_) (place_loop out l (by omega) l[i] l.length i (fun j hj h1 h2 => ?_) out.length (Nat.le_refl _) (fun q hq h => absurd h (by omega)))
    · rw [spec_shSorted.l0, if_pos (by omega), if_pos (by omega), if_pos (by omega), rdH_get l i hi']
    · have e : j = j0 := by
        rcases Nat.lt_trichotomy j j0 with h | h | h
        · have x1 := b0 (by omega)
          rw [h1 (j0 - 1) (by omega) (by omega)] at x1; cases x1
        · exact h
        · have x1 := h2 (by omega)
          rw [a0 (j - 1) (by omega) (by omega)] at x1; cases x1
      subst e
      rw [show wrap64 ((i : Int) + 1) = ((i + 1 : Nat) : Int) by rw [w64 (by omega)]; omega]
      exact hM3
theorem shSorted_eq {L : List S58} (h : Norm L) (hl : L.length ≤ 1048576) : Evn (fun k => spec_shSorted.f k L) (shOf L) := by
  obtain ⟨M, h1, h2, h3⟩ := shSorted_loop L hl L.length 0 [] (by omega) (by simp) List.Pairwise.nil
  have e := order_facts h hl h1 h2
  subst e
  exact h3

/-- which steps strokes punch -/
def Pun (l : List S56) (t s : Int) : Prop := ∃ x ∈ l, x.f0 = t ∧ x.f1 ≤ s ∧ s < x.f1 + 4 ∧ s < 2000
theorem pun_perm {l m : List S56} (h : l.Perm m) (t s : Int) : Pun l t s ↔ Pun m t s := by
  unfold Pun
  constructor
  · rintro ⟨x, hx, h1⟩; exact ⟨x, h.mem_iff.1 hx, h1⟩
  · rintro ⟨x, hx, h1⟩; exact ⟨x, h.mem_iff.2 hx, h1⟩
theorem pun_append (l m : List S56) (t s : Int) : Pun (l ++ m) t s ↔ Pun l t s ∨ Pun m t s := by
  unfold Pun
  constructor
  · rintro ⟨x, hx, h1⟩
    rcases List.mem_append.1 hx with hx | hx
    · exact Or.inl ⟨x, hx, h1⟩
    · exact Or.inr ⟨x, hx, h1⟩
  · rintro (⟨x, hx, h1⟩ | ⟨x, hx, h1⟩)
    · exact ⟨x, List.mem_append_left _ hx, h1⟩
    · exact ⟨x, List.mem_append_right _ hx, h1⟩
theorem pun_one (x : S56) (t s : Int) : Pun [x] t s ↔ x.f0 = t ∧ x.f1 ≤ s ∧ s < x.f1 + 4 ∧ s < 2000 := by
  unfold Pun
  constructor
  · rintro ⟨y, hy, h⟩; obtain rfl := List.mem_singleton.1 hy; exact h
  · intro h; exact ⟨x, List.mem_singleton.2 rfl, h⟩
/-- the last of a list, as the code reads it -/
theorem last_rd (I : List S58) (h : S58) : rd_T58 (I ++ [h]) (I.length : Int) = h := by
  rw [rdH_get _ I.length (by simp), List.getElem_append_right (by omega)]; simp
theorem last_set (I : List S58) (h v : S58) : (I ++ [h]).set I.length v = I ++ [v] := by
  rw [List.set_append_right _ _ (by omega), Nat.sub_self, List.set_cons_zero]
theorem mg_nil (t a b : Int) : mg [] t a b = [⟨t, a, b⟩] := rfl
theorem mg_last (I : List S58) (h : S58) (t a b : Int) : mg (I ++ [h]) t a b = if h.f0 = t ∧ a ≤ h.f2 then I ++ [⟨h.f0, h.f1, mx h.f2 b⟩] else I ++ [h] ++ [⟨t, a, b⟩] := by
  unfold mg
  rw [List.getLast?_concat]
  simp only [List.dropLast_concat]
theorem implPunch_step (out : List S58) (ys : List S56) (i : Nat) (hi : i < ys.length) (hy : ys.length ≤ 1048576) (ho : out.length ≤ 1048576) (h0 : 0 ≤ ys[i].f1 ∧ ys[i].f1 ≤ 1999) (k : Nat) :
    impl_punchedBy.l0 (k + 1) out ys ys.length i = impl_punchedBy.l0 k (mg out ys[i].f0 ys[i].f1 (mn (ys[i].f1 + 4) 2000)) ys ys.length ((i + 1 : Nat) : Int) := by
  have ew : wrap64 (ys[i].f1 + 4) = ys[i].f1 + 4 := w64 (by omega)
  have ei : wrap64 ((i : Int) + 1) = ((i + 1 : Nat) : Int) := by rw [w64 (by omega)]; omega
  rw [impl_punchedBy.l0, if_pos (by omega), if_pos (by omega), if_pos (by omega), rdS_get ys i hi, ew, ei]
  rcases List.eq_nil_or_concat out with rfl | ⟨I, h, e⟩
  · rw [if_neg (by rw [List.length_nil, w64 (by omega)]; omega), if_pos (by simp), mg_nil]
    rfl
  · rw [List.concat_eq_append] at e
    subst e
    have el : wrap64 (((I ++ [h]).length : Int) - 1) = (I.length : Int) := by rw [List.length_append, List.length_singleton, w64 (by simp at ho; omega)]; omega
    rw [el, if_pos (by omega), if_pos (by omega), if_pos (by simp; omega), last_rd, Int.toNat_natCast, last_set, mg_last]
    by_cases h1 : h.f0 = ys[i].f0
    · rw [if_pos h1]
      by_cases h2 : h.f2 ≥ ys[i].f1
      · rw [if_pos h2, if_pos ⟨h1, by omega⟩]
      · rw [if_neg h2, if_pos (by omega), if_neg (fun g => h2 (by omega))]
    · rw [if_neg h1, if_pos (by omega), if_neg (fun g => h1 g.1)]
def lexLe (a b : S56) : Prop := impl_strokeLt b a = false
theorem implPunch_loop (ys : List S56) (hy : ys.length ≤ 200) (hg : ∀ x ∈ ys, StrokeOK x) (hs : ys.Pairwise lexLe) (d : Nat) : ∀ (i : Nat) (out : List S58), i + d = ys.length → Norm out → (∀ t s, Cov out t s ↔ Pun (ys.take i) t s) → out.length ≤ i →
    (∀ h ∈ out, ∀ j, i ≤ j → ∀ hj : j < ys.length, h.f0 < ys[j].f0 ∨ (h.f0 = ys[j].f0 ∧ h.f1 ≤ ys[j].f1)) →
    ∃ L, Norm L ∧ (∀ t s, Cov L t s ↔ Pun ys t s) ∧ L.length ≤ 200 ∧ Evn (fun k => impl_punchedBy.l0 k out ys ys.length i) (shOf L) := by
  induction d with
  | zero =>
    intro i out hi hn hc hl hb
    have ht : ys.take i = ys := List.take_of_length_le (by omega)
    rw [ht] at hc
    refine ⟨out, hn, hc, by omega, ?_⟩
    refine Evn.step (h := fun k => (impl_sheetOf.f k out).bind fun bt => some (bt.1, bt.2)) (fun k => ?_) ?_
    · rw [impl_punchedBy.l0, if_neg (by omega)]
    · exact ⟨fuelH 0 out.length, fun k hk => by simp only []; rw [sheetOf_eq hn (by omega) k hk]; rfl⟩
  | succ d ih =>
    intro i out hi hn hc hl hb
    have hi' : i < ys.length := by omega
    have hx := hg _ (List.getElem_mem hi')
    unfold StrokeOK at hx
    have hm : mn (ys[i].f1 + 4) 2000 = ys[i].f1 + 4 ∧ ys[i].f1 + 4 ≤ 2000 ∨ mn (ys[i].f1 + 4) 2000 = 2000 ∧ 2000 ≤ ys[i].f1 + 4 := by unfold mn; omega
    obtain ⟨m1, m2, m3, m4⟩ := mg_ok out ys[i].f0 ys[i].f1 (mn (ys[i].f1 + 4) 2000) hn (by omega) (fun h hh => hb h hh i (Nat.le_refl _) hi')
    obtain ⟨L, h1, h2, h3, h4⟩ := ih (i + 1) (mg out ys[i].f0 ys[i].f1 (mn (ys[i].f1 + 4) 2000)) (by omega) m1 (fun t s => by
      rw [m2, hc, List.take_succ_eq_append_getElem hi', pun_append, pun_one]
      constructor
      · rintro (h | h)
        · exact Or.inl h
        · exact Or.inr (by omega)
      · rintro (h | h)
        · exact Or.inl h
        · exact Or.inr (by omega)) (by omega) (fun h hh j hj hj' => by
      have e1 := m3 h hh
      have e2 : lexLe ys[i] ys[j] := (List.pairwise_iff_getElem.1 hs) i j hi' hj' (by omega)
      unfold lexLe impl_strokeLt at e2
      have e2 := of_decide_eq_false e2
      omega)
    exact ⟨L, h1, h2, h3, Evn.step (fun k => implPunch_step out ys i hi' (by omega) (by omega) (by omega) k) h4⟩
theorem implPunch_eq (l : List S56) (hl : StrokesOK l) : ∃ L, Norm L ∧ (∀ t s, Cov L t s ↔ Pun l t s) ∧ L.length ≤ 200 ∧ Evn (fun k => impl_punchedBy.f k l) (shOf L) := by
  have hll := hl.2
  obtain ⟨ys, hys⟩ : ∃ ys, impl_sortStrokes.f l = some ys := by
    unfold impl_sortStrokes.f
    rw [if_pos ⟨by omega, fun a _ b _ h1 h2 => by
      unfold impl_strokeLt at h1 h2
      have h1 := of_decide_eq_false h1
      have h2 := of_decide_eq_false h2
      exact ⟨by omega, by omega⟩⟩]
    exact ⟨_, rfl⟩
  have hp : ys.Perm l ∧ ys.Pairwise lexLe := by
    unfold impl_sortStrokes.f at hys
    split at hys
    · obtain rfl := Option.some.inj hys
      refine ⟨List.mergeSort_perm _ _, ?_⟩
      have hO := impl_strokeLt.swo
      have := List.pairwise_mergeSort (le := fun a b => !impl_strokeLt b a) (by
        intro a b c h1 h2
        simp only [Bool.not_eq_true'] at *
        exact hO.ntrans c b a h2 h1) (by
        intro a b
        simp only [Bool.or_eq_true, Bool.not_eq_true']
        by_cases h : impl_strokeLt b a = true
        · right
          cases h2 : impl_strokeLt a b with
          | false => rfl
          | true => have := hO.trans a b a h2 h; rw [hO.irrefl] at this; cases this
        · left; exact Bool.eq_false_iff.2 h) l
      exact this.imp (fun h => by unfold lexLe; simpa using h)
    · cases hys
  have hyl := hp.1.length_eq
  obtain ⟨L, h1, h2, h3, h4⟩ := implPunch_loop ys (by omega) (fun x hx => hl.1 x (hp.1.mem_iff.1 hx)) hp.2 ys.length 0 [] (by omega) norm_nil (fun t s => by simp [cov_nil, Pun]) (by simp) (fun h hh => by simp at hh)
  refine ⟨L, h1, fun t s => by rw [h2, pun_perm hp.1], h3, ?_⟩
  refine Evn.congr (h := fun k => impl_punchedBy.l0 k [] ys ys.length 0) (fun k => ?_) h4
  unfold impl_punchedBy.f slices_Clone_Stroke.f
  rw [if_pos (by omega)]
  simp only [Option.bind_some]
  rw [hys]
  rfl

theorem rdB_get (l : List Bool) (i : Nat) (h : i < l.length) : rdOf false l (i : Int) = l[i] := by
  unfold rdOf; rw [Int.toNat_natCast, List.getD_eq_getElem?_getD, List.getElem?_eq_getElem h]; rfl
/-- an array that tells which steps of a track strokes punch -/
def Arr (arr : List Bool) (P : Int → Prop) : Prop := arr.length = 2001 ∧ ∀ (s : Nat) (h : s < arr.length), arr[s] = true ↔ P s
theorem arr_set {arr : List Bool} {P : Int → Prop} (h : Arr arr P) (i : Nat) (hi : i < 2001) : Arr (arr.set i true) (fun s => P s ∨ s = i) := by
  refine ⟨by rw [List.length_set]; exact h.1, fun s hs => ?_⟩
  rw [List.length_set] at hs
  rw [List.getElem_set]
  by_cases e : i = s
  · subst e; simp
  · rw [if_neg e, h.2 s hs]
    constructor
    · exact Or.inl
    · rintro (g | g)
      · exact g
      · exact absurd (by omega) e
theorem arr_congr {arr : List Bool} {P Q : Int → Prop} (h : Arr arr P) (hq : ∀ s : Nat, P s ↔ Q s) : Arr arr Q := ⟨h.1, fun s hs => (h.2 s hs).trans (hq s)⟩
section
variable (l : List S56) (hg : StrokesOK l) (all : List S58) (t : Int)
include hg
theorem fill_stroke {r : List S58 × Bool} (i : Nat) (hi : i < l.length) (d : Nat) : ∀ (j : Nat) (arr : List Bool) (P : Int → Prop), j + d = 4 → Arr arr P →
    (∀ arr', Arr arr' (fun s => P s ∨ (l[i].f0 = t ∧ l[i].f1 + j ≤ s ∧ s < l[i].f1 + 4 ∧ s < 2000)) → Evn (fun k => spec_PunchedBy.l1 k l all t arr' l l.length ((i + 1 : Nat) : Int)) r) →
    Evn (fun k => spec_PunchedBy.l2 k l all t arr j l l.length i l[i].f0 l[i].f1) r := by
  have hx := hg.1 _ (List.getElem_mem hi)
  unfold StrokeOK at hx
  have hll := hg.2
  have ei : wrap64 ((i : Int) + 1) = ((i + 1 : Nat) : Int) := by rw [w64 (by omega)]; omega
  induction d with
  | zero =>
    intro j arr P hj hA hk
    refine Evn.step (h := fun k => spec_PunchedBy.j3 k l all t arr j l l.length i false l[i].f0 l[i].f1) (fun k => ?_) (Evn.step (h := fun k => spec_PunchedBy.l1 k l all t arr l l.length ((i + 1 : Nat) : Int)) (fun k => ?_) (hk arr (arr_congr hA (fun s => ⟨Or.inl, fun h => h.elim id (fun h => absurd h.2 (by omega))⟩))))
    · rw [spec_PunchedBy.l2, if_neg (by omega)]
    · rw [spec_PunchedBy.j3, if_neg (by decide), ei]
  | succ d ih =>
    intro j arr P hj hA hk
    have ej : wrap64 ((j : Int) + 1) = ((j + 1 : Nat) : Int) := by rw [w64 (by omega)]; omega
    refine Evn.step (h := fun k => spec_PunchedBy.j3 k l all t arr j l l.length i (l[i].f0 == t) l[i].f0 l[i].f1) (fun k => by rw [spec_PunchedBy.l2, if_pos (by omega)]) ?_
    by_cases he : l[i].f0 = t
    · have ew : wrap64 (l[i].f1 + (j : Int)) = l[i].f1 + j := w64 (by omega)
      by_cases h2 : l[i].f1 + (j : Int) < 2000
      · obtain ⟨q, hq⟩ : ∃ q : Nat, l[i].f1 + (j : Int) = q := ⟨(l[i].f1 + (j : Int)).toNat, by omega⟩
        refine Evn.step (h := fun k => spec_PunchedBy.l2 k l all t (arr.set q true) ((j + 1 : Nat) : Int) l l.length i l[i].f0 l[i].f1) (fun k => ?_) (ih (j + 1) (arr.set q true) (fun s => P s ∨ s = q) (by omega) (arr_set hA q (by omega)) (fun arr' h' => hk arr' (arr_congr h' (fun s => ?_))))
        · rw [spec_PunchedBy.j3, if_pos (by simp [he]), ew, if_pos h2, if_pos (by omega), if_pos (by rw [hA.1]; omega), ej, hq, Int.toNat_natCast]
        · constructor
          · rintro ((h | h) | h)
            · exact Or.inl h
            · exact Or.inr (by omega)
            · exact Or.inr (by omega)
          · rintro (h | h)
            · exact Or.inl (Or.inl h)
            · by_cases e : (s : Int) = q
              · exact Or.inl (Or.inr e)
              · exact Or.inr (by omega)
      · refine Evn.step (h := fun k => spec_PunchedBy.l2 k l all t arr ((j + 1 : Nat) : Int) l l.length i l[i].f0 l[i].f1) (fun k => ?_) (ih (j + 1) arr P (by omega) hA (fun arr' h' => hk arr' (arr_congr h' (fun s => ?_))))
        · rw [spec_PunchedBy.j3, if_pos (by simp [he]), ew, if_neg h2, ej]
        · constructor
          · rintro (h | h)
            · exact Or.inl h
            · exact Or.inr (by omega)
          · rintro (h | h)
            · exact Or.inl h
            · exact Or.inr (by omega)
    · refine Evn.step (h := fun k => spec_PunchedBy.l1 k l all t arr l l.length ((i + 1 : Nat) : Int)) (fun k => ?_) (hk arr (arr_congr hA (fun s => ⟨Or.inl, fun h => h.elim id (fun h => absurd h.1 he)⟩)))
      rw [spec_PunchedBy.j3, if_neg (by simp [he]), ei]
theorem fill_all {r : List S58 × Bool} (hk : ∀ arr, Arr arr (fun s => Pun l t s) → Evn (fun k => spec_PunchedBy.l3 k l all t arr arr.length ((0 : Nat) : Int)) r) (d : Nat) : ∀ (i : Nat) (arr : List Bool), i + d = l.length → Arr arr (fun s => Pun (l.take i) t s) →
    Evn (fun k => spec_PunchedBy.l1 k l all t arr l l.length i) r := by
  have hll := hg.2
  induction d with
  | zero =>
    intro i arr hi hA
    rw [List.take_of_length_le (by omega)] at hA
    refine Evn.step (h := fun k => spec_PunchedBy.l3 k l all t arr arr.length ((0 : Nat) : Int)) (fun k => ?_) (hk arr hA)
    rw [spec_PunchedBy.l1, if_neg (by omega)]
    rfl
  | succ d ih =>
    intro i arr hi hA
    have hi' : i < l.length := by omega
    refine Evn.step (h := fun k => spec_PunchedBy.l2 k l all t arr ((0 : Nat) : Int) l l.length i l[i].f0 l[i].f1) (fun k => ?_) (fill_stroke l hg all t i hi' 4 0 arr _ (by omega) hA (fun arr' h' => ih (i + 1) arr' (by omega) (arr_congr h' (fun s => ?_))))
    · rw [spec_PunchedBy.l1, if_pos (by omega), if_pos (by omega), if_pos (by omega), rdS_get l i hi']
      rfl
    · rw [List.take_succ_eq_append_getElem hi', pun_append, pun_one]
      constructor
      · rintro (h | h)
        · exact Or.inl h
        · exact Or.inr ⟨h.1, by omega, h.2.2⟩
      · rintro (h | h)
        · exact Or.inl h
        · exact Or.inr ⟨h.1, by omega, h.2.2⟩
end
theorem specPunch_step (l : List S56) (out : List S58) (t : Int) (arr : List Bool) (j : Nat) (hj : j < arr.length) (ha : arr.length = 2001) (ho : out.length ≤ 1048576) (h2 : ∀ h ∈ out, h.f0 < t ∨ (h.f0 = t ∧ h.f2 ≤ j)) (k : Nat) :
    spec_PunchedBy.l3 (k + 1 + 1) l out t arr arr.length j = spec_PunchedBy.l3 k l (if arr[j] = true then mg out t j ((j : Int) + 1) else out) t arr arr.length ((j + 1 : Nat) : Int) := by
  have ej : wrap64 ((j : Int) + 1) = ((j + 1 : Nat) : Int) := by rw [w64 (by omega)]; omega
  rw [spec_PunchedBy.l3, if_pos (by omega), if_pos (by omega), if_pos (by omega), rdB_get arr j hj]
  cases hb : arr[j] with
  | false =>
    rw [if_neg (by decide), if_neg (by decide), spec_PunchedBy.j5, if_neg (by decide), if_neg (by decide), ej]
  | true =>
    rw [if_pos rfl, if_pos rfl]
    rcases List.eq_nil_or_concat out with rfl | ⟨I, h, e⟩
    · rw [if_neg (by simp), spec_PunchedBy.j5, if_neg (by decide), if_pos rfl, if_pos (by simp), mg_nil, ej]
      rfl
    · rw [List.concat_eq_append] at e
      subst e
      have hh := h2 h (List.mem_append_right _ (List.mem_singleton.2 rfl))
      have el : wrap64 (((I ++ [h]).length : Int) - 1) = (I.length : Int) := by rw [List.length_append, List.length_singleton, w64 (by simp at ho; omega)]; omega
      rw [if_pos (by rw [List.length_append, List.length_singleton]; omega), el, if_pos (by omega), if_pos (by rw [List.length_append, List.length_singleton]; omega), last_rd, mg_last]
      by_cases h1 : h.f0 = t
      · rw [if_pos h1, spec_PunchedBy.j5]
        by_cases h3 : h.f2 = (j : Int)
        · have em : mx h.f2 ((j : Int) + 1) = ((j + 1 : Nat) : Int) := by unfold mx; omega
          rw [if_pos (by simp [h3]), el, if_pos (by omega), if_pos (by simp; omega), last_rd, Int.toNat_natCast, last_set, if_pos ⟨h1, by omega⟩, ej, em]
        · rw [if_neg (by simp [h3]), if_pos rfl, if_pos (by omega), if_neg (fun g => h3 (by omega)), ej]
          rfl
      · rw [if_neg h1, spec_PunchedBy.j5, if_neg (by decide), if_pos rfl, if_pos (by omega), if_neg (fun g => h1 g.1), ej]
        rfl
theorem scan_track (l : List S56) (t : Int) (ht : 0 ≤ t ∧ t < 20) (arr : List Bool) (hA : Arr arr (fun s => Pun l t s)) {r : List S58 × Bool}
    (hk : ∀ out, Norm out → (∀ t' s, Cov out t' s ↔ t' < t + 1 ∧ 0 ≤ t' ∧ Pun l t' s) → (∀ h ∈ out, h.f0 < t + 1) → out.length ≤ 2001 * (t.toNat + 1) → Evn (fun k => spec_PunchedBy.l0 k l out (t + 1)) r)
    (hp : ∀ s, Pun l t s → 0 ≤ s ∧ s < 2000) (d : Nat) : ∀ (j : Nat) (out : List S58), j + d = 2001 → Norm out → (∀ t' s, Cov out t' s ↔ 0 ≤ t' ∧ (t' < t ∨ (t' = t ∧ s < j)) ∧ Pun l t' s) → (∀ h ∈ out, h.f0 < t ∨ (h.f0 = t ∧ h.f2 ≤ j)) → out.length ≤ 2001 * t.toNat + j →
    Evn (fun k => spec_PunchedBy.l3 k l out t arr arr.length j) r := by
  induction d with
  | zero =>
    intro j out hj hn hc hb hl
    refine Evn.step (h := fun k => spec_PunchedBy.l0 k l out (t + 1)) (fun k => ?_) (hk out hn (fun t' s => ?_) (fun h hh => ?_) (by omega))
    · rw [spec_PunchedBy.l3, if_neg (by rw [hA.1]; omega), w64 (by omega)]
    · rw [hc]
      constructor
      · rintro ⟨h1, h2, h3⟩; exact ⟨by omega, h1, h3⟩
      · rintro ⟨h1, h2, h3⟩
        refine ⟨h2, ?_, h3⟩
        by_cases e : t' = t
        · subst e; exact Or.inr ⟨rfl, by have := hp s h3; omega⟩
        · exact Or.inl (by omega)
    · have := hb h hh; omega
  | succ d ih =>
    intro j out hj hn hc hb hl
    have hj' : j < arr.length := by rw [hA.1]; omega
    have hm : Norm (if arr[j] = true then mg out t j ((j : Int) + 1) else out) ∧ (∀ t' s, Cov (if arr[j] = true then mg out t j ((j : Int) + 1) else out) t' s ↔ 0 ≤ t' ∧ (t' < t ∨ (t' = t ∧ s < ((j + 1 : Nat) : Int))) ∧ Pun l t' s) ∧
        (∀ h ∈ (if arr[j] = true then mg out t j ((j : Int) + 1) else out), h.f0 < t ∨ (h.f0 = t ∧ h.f2 ≤ ((j + 1 : Nat) : Int))) ∧ (if arr[j] = true then mg out t j ((j : Int) + 1) else out).length ≤ out.length + 1 := by
      have hPj := hA.2 j hj'
      by_cases h : arr[j] = true
      · have hP := hPj.1 h
        simp only [if_pos h]
        obtain ⟨m1, m2, m3, m4⟩ := mg_ok out t j ((j : Int) + 1) hn (by omega) (fun x hx => by have := hb x hx; have := hn.2 x hx; omega)
        refine ⟨m1, fun t' s => ?_, fun x hx => ?_, m4⟩
        · rw [m2, hc]
          constructor
          · rintro (⟨g1, g2, g3⟩ | ⟨g1, g2, g3⟩)
            · exact ⟨g1, by omega, g3⟩
            · obtain rfl : s = j := by omega
              subst g1
              exact ⟨by omega, by omega, hP⟩
          · rintro ⟨g1, g2, g3⟩
            by_cases e : t' = t ∧ s = j
            · exact Or.inr ⟨e.1.symm, by omega, by omega⟩
            · exact Or.inl ⟨g1, by omega, g3⟩
        · have hx3 := m3 x hx
          have hx2 : x.f0 = t → x.f2 ≤ ((j + 1 : Nat) : Int) := by
            intro e
            rcases Int.lt_or_le ((j + 1 : Nat) : Int) x.f2 with g | g
            · exfalso
              have c := (m2 t ((j + 1 : Nat) : Int)).1 ⟨x, hx, e, by have := m1.2 x hx; omega, g⟩
              rcases c with ⟨y, hy, e1, e2, e3⟩ | c
              · have := hb y hy; omega
              · omega
            · exact g
          omega
      · simp only [if_neg h]
        refine ⟨hn, fun t' s => ?_, fun x hx => by have := hb x hx; omega, by omega⟩
        rw [hc]
        constructor
        · rintro ⟨g1, g2, g3⟩; exact ⟨g1, by omega, g3⟩
        · rintro ⟨g1, g2, g3⟩
          refine ⟨g1, ?_, g3⟩
          by_cases e : t' = t ∧ s = j
          · exfalso
            obtain ⟨rfl, rfl⟩ := e
            exact h (hPj.2 g3)
          · omega
    have := ih (j + 1) _ (by omega) hm.1 hm.2.1 hm.2.2.1 (by omega)
    refine Evn.step (h := fun k => spec_PunchedBy.l3 (k + 1) l out t arr arr.length j) (fun k => rfl) ?_
    obtain ⟨K, hK⟩ := this
    refine ⟨K + 1, fun k hk' => ?_⟩
    obtain ⟨q, rfl⟩ : ∃ q, k = q + 1 := ⟨k - 1, by omega⟩
    simp only []
    rw [specPunch_step l out t arr j hj' hA.1 (by omega) hb q]
    exact hK q (by omega)
theorem tracks_loop (l : List S56) (hg : StrokesOK l) (L : List S58) (hL : Norm L) (hLl : L.length ≤ 200) (hLc : ∀ t s, Cov L t s ↔ Pun l t s) (d : Nat) : ∀ (t : Nat) (out : List S58), t + d = 20 → Norm out → (∀ t' s, Cov out t' s ↔ t' < (t : Int) ∧ 0 ≤ t' ∧ Pun l t' s) → (∀ h ∈ out, h.f0 < (t : Int)) → out.length ≤ 2001 * t →
    Evn (fun k => spec_PunchedBy.l0 k l out (t : Int)) (shOf L) := by
  have hll := hg.2
  induction d with
  | zero =>
    intro t out ht hn hc hb hl
    have e : out = L := norm_unique out L hn hL (fun t' s => by
      rw [hc, hLc]
      constructor
      · exact fun h => h.2.2
      · rintro h
        refine ⟨?_, ?_, h⟩
        · obtain ⟨x, hx, e, _⟩ := h
          have := hg.1 x hx
          unfold StrokeOK at this
          omega
        · obtain ⟨x, hx, e, _⟩ := h
          have := hg.1 x hx
          unfold StrokeOK at this
          omega)
    subst e
    refine Evn.step (h := fun k => (spec_shSorted.f k out).bind fun bt => some (bt.1, bt.2)) (fun k => by rw [spec_PunchedBy.l0, if_neg (by omega)]) ?_
    exact Evn.bind (shSorted_eq hn (by omega)) (Evn.const (fun k => rfl))
  | succ d ih =>
    intro t out ht hn hc hb hl
    refine Evn.step (h := fun k => spec_PunchedBy.l1 k l out (t : Int) (List.replicate 2001 false) l l.length ((0 : Nat) : Int)) (fun k => by rw [spec_PunchedBy.l0, if_pos (by omega), if_pos (by omega)]; rfl) ?_
    refine fill_all l hg out t (fun arr hA => ?_) l.length 0 _ (by omega) ⟨List.length_replicate, fun s hs => by rw [List.getElem_replicate]; exact ⟨fun h => absurd h (by decide), fun ⟨x, hx, _⟩ => absurd hx (by simp)⟩⟩
    refine scan_track l t (by omega) arr hA (fun out' h1 h2 h3 h4 => ?_) (fun s hs => ?_) 2001 0 out (by omega) hn (fun t' s => ?_) (fun h hh => Or.inl (hb h hh)) (by simpa using hl)
    · exact ih (t + 1) out' (by omega) h1 h2 h3 (by simpa using h4)
    · obtain ⟨x, hx, e, e1, e2, e3⟩ := hs
      have := hg.1 x hx
      unfold StrokeOK at this
      omega
    · rw [hc]
      constructor
      · rintro ⟨g1, g2, g3⟩; exact ⟨g2, Or.inl g1, g3⟩
      · rintro ⟨g1, g2, g3⟩
        refine ⟨?_, g1, g3⟩
        rcases g2 with g2 | ⟨g2, g4⟩
        · exact g2
        · exfalso
          obtain ⟨x, hx, e, e1, e2, e3⟩ := g3
          have := hg.1 x hx
          unfold StrokeOK at this
          omega
/-- what strokes punch: both answers -/
theorem punched_both (l : List S56) (hg : StrokesOK l) : ∃ R : List S58 × Bool, R.1.length ≤ 200 ∧ Evn (fun k => impl_punchedBy.f k l) R ∧ Evn (fun k => spec_PunchedBy.l0 k l [] 0) R := by
  obtain ⟨L, h1, h2, h3, h4⟩ := implPunch_eq l hg
  refine ⟨shOf L, ?_, h4, ?_⟩
  · unfold shOf
    split
    · rw [inOrder_length]; exact h3
    · simp
  · exact tracks_loop l hg L h1 h3 h2 20 0 [] (by omega) norm_nil (fun t' s => ⟨fun h => absurd h (cov_nil _ _), fun h => absurd h.1 (by omega)⟩) (fun h hh => by simp at hh) (by simp)

theorem now_both (l : List S58) (hl : l.length ≤ 1048576) (n : Int) : ∃ R : List S58 × Bool, R.1.length ≤ 200 ∧ ∃ K, ∀ k, K ≤ k → spec_PunchedNow.f k l n = some R ∧ impl_PunchedNow.f k l n = some R := by
  by_cases h : (jobSt l n).2 = true
  · have hd := jobSt_done l n h
    have hlen := jobSt_length l n
    have hok := jobSt_ok l n
    have hg : StrokesOK ((jobSt l n).1.take n.toNat) := ⟨fun x hx => hok x (List.mem_of_mem_take hx), by rw [List.length_take]; omega⟩
    obtain ⟨R, hR, e1, e2⟩ := punched_both _ hg
    obtain ⟨K, hK⟩ := Evn.both e1 e2
    refine ⟨R, hR, K + fuelH 0 l.length + 900 + 300, fun k hk => ?_⟩
    unfold spec_PunchedNow.f impl_PunchedNow.f
    rw [specJob_eq l hl n k (by omega), implJob_eq l hl n k (by omega)]
    simp only [Option.bind_some]
    rw [if_pos h, if_pos h, if_pos hd.1, if_pos hd.1, if_pos hd.2, if_pos hd.2]
    unfold spec_PunchedBy.f
    rw [puGood_eq _ (by rw [List.length_take]; omega) k (by rw [List.length_take]; omega)]
    simp only [Option.bind_some]
    rw [if_pos (decide_eq_true hg), (hK k (by omega)).1, (hK k (by omega)).2]
    exact ⟨rfl, rfl⟩
  · refine ⟨([], false), by simp, fuelH 0 l.length + 900, fun k hk => ?_⟩
    unfold spec_PunchedNow.f impl_PunchedNow.f
    rw [specJob_eq l hl n k (by omega), implJob_eq l hl n k (by omega)]
    simp only [Option.bind_some]
    rw [if_neg h, if_neg h]
    exact ⟨rfl, rfl⟩
theorem FnExactPunchedNow (l : List S81) (n : Int) (hl : l.length ≤ maxLen) (_ : ∀ x ∈ l, (Lit.int .i64 x.f0).wf = true ∧ (Lit.int .i64 x.f1).wf = true ∧ (Lit.int .i64 x.f2).wf = true) (_ : (Lit.int .i64 n).wf = true) :
    ∃ k, laws_FnExactPunchedNow.f k l n = some true := by
  by_cases hn : l.length ≤ 1048576
  · have h' : (l.map toH).length ≤ 1048576 := by simpa using hn
    have e2 : (l.map toH).length = l.length := by simp
    obtain ⟨R, hR, K, hK⟩ := now_both (l.map toH) h' n
    have hs := fun k hk => (hK k hk).1
    have hi := fun k hk => (hK k hk).2
    clear hK
    refine ⟨K + l.length + 1300 + 1 + 1 + 1, ?_⟩
    unfold laws_FnExactPunchedNow.f
    rw [szJob_eq l hl n]
    simp only [Option.bind_some]
    rw [if_pos hn, if_neg (by omega), toJob_eq l hn n _ (by omega)]
    simp only [Option.bind_some]
    rw [hs _ (by omega), hi _ (by omega)]
    simp only [Option.bind_some]
    rw [eqHoles_self _ (by omega) _ (by omega)]
    simp only [Option.bind_some, if_true, bne_self_eq_false]
    rw [laws_FnExactPunchedNow.j0, if_neg (by decide), toJob_eq l hn n _ (by omega)]
    simp only [Option.bind_some]
    rw [eqJob_self _ h' _ _ (by omega)]
    simp only [Option.bind_some, if_true]
    rw [markJob_eq _ h' n _ (by omega)]
    simp only [Option.bind_some]
    rw [if_neg (by omega), eqHoles_self _ (by omega) _ (by omega)]
    simp only [Option.bind_some, if_true, bne_self_eq_false]
    rw [laws_FnExactPunchedNow.j1, if_neg (by decide), markHoles_eq _ (by omega) 1 (by omega) _ (by omega)]
    simp only [Option.bind_some]
    rw [heldHoles_eq _ (by omega) 1 (by omega) _ (by omega)]
    simp only [Option.bind_some]
    rw [if_neg (by omega), if_pos trivial, toJob_eq l hn n _ (by omega)]
    simp only [Option.bind_some]
    rw [hi _ (by omega)]
    simp only [Option.bind_some]
    rw [eqHoles_self _ (by omega) _ (by omega)]
    simp only [Option.bind_some, if_true, bne_self_eq_false]
    rw [laws_FnExactPunchedNow.j2, if_neg (by decide), heldHoles_eq _ (by omega) 1 (by omega) _ (by omega)]
    simp only [Option.bind_some]
    rw [if_neg (by omega), if_pos trivial]
  · refine ⟨0, ?_⟩
    unfold laws_FnExactPunchedNow.f
    rw [szJob_eq l hl n]
    simp only [Option.bind_some]
    rw [if_neg hn, if_pos (by decide)]
end Go.Proofs.Ytcbfpfkkobbmaaa.Pure
