/- FnExactRunWithStops: the program's RunWithStops answers as the reference's, in memory of its own, for all slices and numbers. No condition. -/
import Derived.Test.YtjogodnkcjhdiaaPFnExactRunWithStopsx9
namespace Go.Proofs.Ytjogodnkcjhdiaa.Pure
open Go.RowKit Go.Proofs.Ytjogodnkcjhdiaa.PFnExactRunWithStops Go.Proofs.YtjogodnkcjhdiaaW.PrintWords Go.Proofs.YtjogodnkcjhdiaaW.PrintLast

set_option linter.unusedVariables false
set_option linter.unusedSimpArgs false

theorem w64 {x : Int} (h : -9223372036854775808 ≤ x ∧ x ≤ 9223372036854775807) : wrap64 x = x := by
  unfold wrap64; omega
theorem someF {p : Prop} [Decidable p] (h : ¬ p) : some false = some (decide p) := by rw [decide_eq_false h]
theorem someD {q p : Prop} [Decidable q] [Decidable p] (h : q ↔ p) : some (decide q) = some (decide p) := by rw [decide_eq_decide.2 h]

theorem in_eq (a b c : Int) : spec_l1In.f a b c = some (decide (b ≤ a ∧ a ≤ c)) := by
  unfold spec_l1In.f
  by_cases h : a ≥ b
  · rw [if_pos h]; congr 1; simp [show b ≤ a from h]
  · rw [if_neg h]; congr 1; simp; omega

theorem drop_get {α : Type} (l : List α) (i : Nat) (h : i < l.length) : l.drop i = l[i] :: l.drop (i + 1) := List.drop_eq_getElem_cons h
theorem map_step {α β : Type} (f : α → β) (l : List α) (z : β) (i : Nat) (h : i < l.length) :
    ((l.take i).map f ++ List.replicate (l.length - i) z).set i (f (l[i]'h)) = (l.take (i + 1)).map f ++ List.replicate (l.length - (i + 1)) z := by
  have hl : ((l.take i).map f).length = i := by rw [List.length_map, List.length_take]; omega
  rw [List.set_append_right _ _ (by omega), hl, Nat.sub_self, show l.length - i = (l.length - (i + 1)) + 1 by omega, List.replicate_succ, List.set_cons_zero, List.take_succ_eq_append_getElem h, List.map_append, List.append_assoc]
  rfl
theorem map_length {α β : Type} (f : α → β) (l : List α) (z : β) (i : Nat) (h : i ≤ l.length) : ((l.take i).map f ++ List.replicate (l.length - i) z).length = l.length := by
  simp; omega

theorem rdS_get (l : List S127) (i : Nat) (h : i < l.length) : rd_T127 l (i : Int) = l[i] := by
  unfold rd_T127; rw [Int.toNat_natCast, List.getD_eq_getElem?_getD, List.getElem?_eq_getElem h]; rfl

theorem rdH_get (l : List S106) (i : Nat) (h : i < l.length) : rd_T106 l (i : Int) = l[i] := by
  unfold rd_T106; rw [Int.toNat_natCast, List.getD_eq_getElem?_getD, List.getElem?_eq_getElem h]; rfl
theorem rdLH_get (l : List S108) (i : Nat) (h : i < l.length) : rd_T108 l (i : Int) = l[i] := by
  unfold rd_T108; rw [Int.toNat_natCast, List.getD_eq_getElem?_getD, List.getElem?_eq_getElem h]; rfl
def toH (x : S108) : S106 := ⟨x.f0, x.f1, x.f2⟩
theorem toHoles_loop (l : List S108) (hl : l.length ≤ 1048576) (d : Nat) : ∀ (k i : Nat), i + d = l.length → d < k →
    laws_toHoleS.l0 k l ((l.take i).map toH ++ List.replicate (l.length - i) z106) i = some (l.map toH) := by
  induction d with
  | zero =>
    intro k i hi hk
    obtain ⟨k, rfl⟩ : ∃ j, k = j + 1 := ⟨k - 1, by omega⟩
    rw [laws_toHoleS.l0, if_neg (by omega), show l.length - i = 0 by omega, List.replicate_zero, List.append_nil, List.take_of_length_le (by omega)]
  | succ d ih =>
    intro k i hi hk
    obtain ⟨k, rfl⟩ : ∃ j, k = j + 1 := ⟨k - 1, by omega⟩
    rw [laws_toHoleS.l0, if_pos (by omega), if_pos (by omega), rdLH_get l i (by omega)]
    unfold laws_toHole.f
    simp only [Option.bind_some]
    rw [map_length _ _ _ _ (by omega), if_pos (by omega), Int.toNat_natCast]
    have := map_step toH l z106 i (by omega)
    unfold toH at this ⊢
    rw [this, w64 (by omega)]
    exact ih k (i + 1) (by omega) (by omega)
theorem toHoles_eq (l : List S108) (hl : l.length ≤ 1048576) (k : Nat) (hk : l.length < k) : laws_toHoleS.f k l = some (l.map toH) := by
  unfold laws_toHoleS.f
  rw [if_pos (by omega), if_pos (by omega), Int.toNat_natCast]
  have := toHoles_loop l hl l.length k 0 (by omega) hk
  simpa using this
theorem eqHoles_loop (l : List S106) (hl : l.length ≤ 1048576) (d : Nat) : ∀ (k i : Nat), i + d = l.length → d < k → laws_eqHoleS.l0 k l l i = some true := by
  induction d with
  | zero =>
    intro k i hi hk
    obtain ⟨k, rfl⟩ : ∃ j, k = j + 1 := ⟨k - 1, by omega⟩
    rw [laws_eqHoleS.l0, if_neg (by omega)]
  | succ d ih =>
    intro k i hi hk
    obtain ⟨k, rfl⟩ : ∃ j, k = j + 1 := ⟨k - 1, by omega⟩
    rw [laws_eqHoleS.l0, if_pos (by omega), if_pos (by omega), if_pos (by omega)]
    unfold laws_eqHole.f
    rw [if_pos rfl, if_pos rfl, if_pos rfl]
    simp only [Option.bind_some, if_true]
    rw [w64 (by omega)]
    exact ih k (i + 1) (by omega) (by omega)
theorem eqHoles_self (l : List S106) (hl : l.length ≤ 1048576) (k : Nat) (hk : l.length < k) : laws_eqHoleS.f k l l = some true := by
  unfold laws_eqHoleS.f
  rw [if_pos rfl]
  exact eqHoles_loop l hl l.length k 0 (by omega) hk

theorem szHoles_eq (l : List S108) (hl : l.length ≤ maxLen) : laws_szHoleS.f l 1048576 = some (if l.length ≤ 1048576 then 1048576 - (l.length : Int) else -1) := by
  unfold maxLen at hl
  unfold laws_szHoleS.f
  rw [w64 (by omega)]
  split <;> split <;> first | rfl | omega

/-- holes with ascending numbers in all their fields -/
def upH (n : Int) : Nat → List S106
  | 0 => []
  | d + 1 => ⟨n, n + 1, n + 2⟩ :: upH (n + 3) d
theorem upH_length (n : Int) (d : Nat) : (upH n d).length = d := by
  induction d generalizing n with
  | zero => rfl
  | succ d ih => simp [upH, ih]
theorem markHoles_loop (d : Nat) : ∀ (k : Nat) (p l : List S106) (n : Int), l.length = d → d < k → p.length + l.length ≤ 1048576 → 1 ≤ n ∧ n ≤ 10000000 + 3 * p.length →
    laws_markHoleS.l0 k (p ++ l) n p.length = some (n + 3 * d, p ++ upH n d) := by
  induction d with
  | zero =>
    intro k p l n hi hk hl hn
    obtain ⟨k, rfl⟩ : ∃ j, k = j + 1 := ⟨k - 1, by omega⟩
    obtain rfl := List.length_eq_zero_iff.1 hi
    rw [laws_markHoleS.l0, if_neg (by simp)]
    simp [upH]
  | succ d ih =>
    intro k p l n hi hk hl hn
    obtain ⟨k, rfl⟩ : ∃ j, k = j + 1 := ⟨k - 1, by omega⟩
    obtain ⟨x, r, rfl⟩ : ∃ x r, l = x :: r := by
      cases l with
      | nil => simp at hi
      | cons x r => exact ⟨x, r, rfl⟩
    simp only [List.length_cons] at hi hl
    have hset : ∀ a b : S106, (p ++ a :: r).set p.length b = p ++ b :: r := fun a b => by
      rw [List.set_append_right _ _ (by omega), Nat.sub_self, List.set_cons_zero]
    have hrd : ∀ a : S106, rd_T106 (p ++ a :: r) (p.length : Int) = a := fun a => by
      rw [rdH_get _ p.length (by simp), List.getElem_append_right (by omega)]; simp
    rw [laws_markHoleS.l0, if_pos (by simp; omega), if_pos (by omega), Int.toNat_natCast]
    simp only [Option.bind_some, hset, hrd]
    rw [w64 (x := n + 1) (by omega), w64 (x := n + 1 + 1) (by omega), w64 (x := n + 1 + 1 + 1) (by omega), w64 (by omega)]
    have := ih k (p ++ [⟨n, n + 1, n + 1 + 1⟩]) r (n + 1 + 1 + 1) (by omega) (by omega) (by simp; omega) (by simp; omega)
    rw [show p ++ (⟨n, n + 1, n + 1 + 1⟩ : S106) :: r = (p ++ [⟨n, n + 1, n + 1 + 1⟩]) ++ r by simp, show ((p.length : Int) + 1) = (((p ++ [(⟨n, n + 1, n + 1 + 1⟩ : S106)]).length : Nat) : Int) by simp, this, upH]
    simp only [List.append_assoc, List.singleton_append]
    rw [show n + 1 + 1 + 1 = n + 3 by omega, show n + 1 + 1 = n + 2 by omega]
    congr 2; omega
theorem markHoles_eq (l : List S106) (hl : l.length ≤ 1048576) (n : Int) (hn : 1 ≤ n ∧ n ≤ 10000000) (k : Nat) (hk : l.length < k) : laws_markHoleS.f k l n = some (n + 3 * (l.length : Int), upH n l.length) := by
  unfold laws_markHoleS.f
  have := markHoles_loop l.length k [] l n rfl hk (by simpa using hl) (by simp; omega)
  simpa using this

theorem heldHoles_loop (d : Nat) : ∀ (k : Nat) (p : List S106) (n : Int), d < k → p.length + d ≤ 1048576 → 1 ≤ n ∧ n ≤ 10000000 + 3 * p.length →
    laws_heldHoleS.l0 k (p ++ upH n d) n p.length = some (n + 3 * d) := by
  induction d with
  | zero =>
    intro k p n hk hl hn
    obtain ⟨k, rfl⟩ : ∃ j, k = j + 1 := ⟨k - 1, by omega⟩
    rw [laws_heldHoleS.l0, if_neg (by simp [upH])]; simp
  | succ d ih =>
    intro k p n hk hl hn
    obtain ⟨k, rfl⟩ : ∃ j, k = j + 1 := ⟨k - 1, by omega⟩
    rw [upH, laws_heldHoleS.l0, if_pos (by simp; omega), if_pos (by omega), rdH_get _ p.length (by simp), List.getElem_append_right (by omega)]
    simp only [Nat.sub_self, List.getElem_cons_zero, if_true]
    rw [w64 (x := n + 1) (by omega), if_pos rfl, w64 (x := n + 1 + 1) (by omega), if_pos (by omega), w64 (x := n + 1 + 1 + 1) (by omega), w64 (by omega)]
    have := ih k (p ++ [⟨n, n + 1, n + 2⟩]) (n + 3) (by omega) (by simp; omega) (by simp; omega)
    rw [show p ++ (⟨n, n + 1, n + 2⟩ : S106) :: upH (n + 3) d = (p ++ [⟨n, n + 1, n + 2⟩]) ++ upH (n + 3) d by simp, show ((p.length : Int) + 1) = (((p ++ [(⟨n, n + 1, n + 2⟩ : S106)]).length : Nat) : Int) by simp, show n + 1 + 1 + 1 = n + 3 by omega, this]
    congr 1; omega
theorem heldHoles_eq (d : Nat) (hl : d ≤ 1048576) (n : Int) (hn : 1 ≤ n ∧ n ≤ 10000000) (k : Nat) (hk : d < k) : laws_heldHoleS.f k (upH n d) n = some (n + 3 * (d : Int)) := by
  unfold laws_heldHoleS.f
  have := heldHoles_loop d k [] n hk (by simpa using hl) (by simp; omega)
  simpa using this

/-- sheets: holes in order, none of a track touching an earlier one -/
def HoleOK (x : S106) : Bool := decide (0 ≤ x.f0 ∧ x.f0 ≤ 19 ∧ 0 ≤ x.f1 ∧ x.f1 < x.f2 ∧ x.f2 ≤ 2000)
def hBefore (a b : S106) : Bool := decide (a.f1 < b.f1 ∨ (a.f1 = b.f1 ∧ a.f0 < b.f0))
def lastOK (p : List S106) (x : S106) : Bool := match p.getLast? with
  | none => true
  | some y => hBefore y x
def apartOK (p : List S106) (x : S106) : Bool := p.all fun y => !(decide (x.f0 = y.f0) && decide (y.f2 ≥ x.f1))
def chkSheet (p : List S106) : List S106 → Bool
  | [] => true
  | x :: r => HoleOK x && lastOK p x && apartOK p x && chkSheet (p ++ [x]) r
def SheetB (l : List S106) : Bool := chkSheet [] l && decide (l.length ≤ 60)
def fuelH (i : Nat) : Nat → Nat
  | 0 => 1
  | d + 1 => i + 3 + fuelH (i + 1) d
theorem lastOK_take (l : List S106) (i : Nat) (h : i + 1 < l.length) : lastOK (l.take (i + 1)) l[i + 1] = hBefore l[i] l[i + 1] := by
  unfold lastOK
  rw [List.take_succ_eq_append_getElem (show i < l.length by omega), List.getLast?_concat]

theorem specSheet_row (l : List S106) (x7 : List S106) (x8 x9 a b c : Int) (p : List S106) (hp : p.length ≤ 1048576) (x : S106) (hx : x = ⟨a, b, c⟩) (d : Nat) : ∀ (k j : Nat), j + d = p.length →
    spec_shGood.l1 (k + d + 1) l x7 x8 x9 p p.length j a b c = if apartOK (p.drop j) x then spec_shGood.l0 k l x7 x8 (wrap64 (x9 + 1)) else some false := by
  induction d with
  | zero =>
    intro k j hj
    rw [spec_shGood.l1, if_neg (by omega), List.drop_of_length_le (by omega)]
    rfl
  | succ d ih =>
    intro k j hj
    subst hx
    rw [spec_shGood.l1, if_pos (by omega), if_pos (by omega), if_pos (by omega), rdH_get p j (by omega), drop_get p j (by omega), w64 (by omega), show k + (d + 1) = k + d + 1 by omega, show ((j : Int) + 1) = ((j + 1 : Nat) : Int) by omega, ih k (j + 1) (by omega)]
    unfold apartOK
    rw [List.all_cons]
    by_cases h1 : a = p[j].f0
    · by_cases h2 : p[j].f2 ≥ b
      · rw [if_pos (by omega), if_pos h2]; simp [h1, h2]
      · rw [if_pos (by omega), if_neg h2]; simp [h1, h2]
    · rw [if_neg (by omega)]; simp [h1]
theorem shHole_eq (a b c : Int) : spec_shHole.f a b c = some (HoleOK ⟨a, b, c⟩) := by
  unfold spec_shHole.f HoleOK
  simp only [in_eq, Option.bind_some, decide_eq_true_eq]
  split
  · split
    · rw [w64 (by omega)]; exact someD (by omega)
    · exact someF (by omega)
  · exact someF (by omega)
theorem shBefore_eq (a b c a' b' c' : Int) : spec_shBefore.f a b c a' b' c' = some (hBefore ⟨a, b, c⟩ ⟨a', b', c'⟩) := by
  unfold spec_shBefore.f hBefore
  simp only []
  split
  · rw [decide_eq_true (by omega)]
  · split
    · exact someD (by omega)
    · exact someF (by omega)
theorem specSheet_loop (l : List S106) (hl : l.length ≤ 1048576) (d : Nat) : ∀ (k i : Nat), i + d = l.length → fuelH i d ≤ k →
    spec_shGood.l0 k l l l.length i = some (chkSheet (l.take i) (l.drop i) && decide (l.length ≤ 60)) := by
  induction d with
  | zero =>
    intro k i hi hk
    unfold fuelH at hk
    obtain ⟨k, rfl⟩ : ∃ j, k = j + 1 := ⟨k - 1, by omega⟩
    rw [spec_shGood.l0, if_neg (by omega), List.drop_of_length_le (by omega)]
    unfold chkSheet
    rw [Bool.true_and]
    exact someD (by omega)
  | succ d ih =>
    intro k i hi hk
    unfold fuelH at hk
    obtain ⟨j, rfl⟩ : ∃ j, k = j + i + 1 + 1 + 1 := ⟨k - i - 3, by omega⟩
    have ht : (l.take i).length = i := by rw [List.length_take]; omega
    have e2 : wrap64 ((i : Int) + 1) = ((i + 1 : Nat) : Int) := by rw [w64 (by omega)]; omega
    rw [spec_shGood.l0, if_pos (by omega), if_pos (by omega), if_pos (by omega), rdH_get l i (by omega), shHole_eq, drop_get l i (by omega), chkSheet]
    simp only [Option.bind_some]
    have hj : ∀ flag : Bool, spec_shGood.j1 (j + i + 1 + 1) l i l l.length i flag l[i].f0 l[i].f1 l[i].f2 = if flag then some false else if apartOK (l.take i) l[i] then spec_shGood.l0 j l l l.length ((i + 1 : Nat) : Int) else some false := by
      intro flag
      rw [spec_shGood.j1]
      cases flag
      · simp only [Bool.false_eq_true, if_false]
        rw [if_pos (by omega), if_pos (by omega), Int.toNat_natCast]
        simp only [Option.bind_some]
        have := specSheet_row l l l.length i l[i].f0 l[i].f1 l[i].f2 (l.take i) (by omega) l[i] rfl i j 0 (by omega)
        rw [List.drop_zero, e2] at this
        exact this
      · simp only [if_true]
    have hrec := ih j (i + 1) (by omega) (by omega)
    rw [List.take_succ_eq_append_getElem (show i < l.length by omega)] at hrec
    by_cases h1 : HoleOK l[i] = true
    · rw [if_pos h1, h1]
      rcases Nat.eq_zero_or_pos i with h0 | h0
      · subst h0
        rw [if_neg (by omega), hj false]
        simp only [Bool.false_eq_true, if_false]
        rw [hrec]
        simp [lastOK, apartOK]
      · obtain ⟨m, rfl⟩ : ∃ m, i = m + 1 := ⟨i - 1, by omega⟩
        have e1 : wrap64 (((m + 1 : Nat) : Int) - 1) = (m : Int) := by rw [w64 (by omega)]; omega
        rw [if_pos (by omega), e1, if_pos (by omega), if_pos (by omega), rdH_get l m (by omega), shBefore_eq]
        simp only [Option.bind_some]
        rw [hj, hrec, lastOK_take l m (by omega)]
        cases hb : hBefore l[m] l[m + 1]
        · simp [hb]
        · cases ha : apartOK (l.take (m + 1)) l[m + 1] <;> simp [hb]
    · rw [if_neg h1, Bool.eq_false_iff.2 h1, hj]; simp
theorem shGood_eq (l : List S106) (hl : l.length ≤ 1048576) (k : Nat) (hk : fuelH 0 l.length ≤ k) : spec_shGood.f k l = some (SheetB l) := by
  unfold spec_shGood.f SheetB
  have := specSheet_loop l hl l.length k 0 (by omega) hk
  rw [List.drop_zero, List.take_zero] at this
  exact this

theorem implSheet_row (l : List S106) (x7 : List S106) (x8 x9 a b c : Int) (p : List S106) (hp : p.length ≤ 1048576) (x : S106) (hx : x = ⟨a, b, c⟩) (d : Nat) : ∀ (k j : Nat), j + d = p.length →
    impl_IsSheet.l1 (k + d + 1) l x7 x8 x9 p p.length j a b c = if apartOK (p.drop j) x then impl_IsSheet.l0 k l x7 x8 (wrap64 (x9 + 1)) else some false := by
  induction d with
  | zero =>
    intro k j hj
    rw [impl_IsSheet.l1, if_neg (by omega), List.drop_of_length_le (by omega)]
    rfl
  | succ d ih =>
    intro k j hj
    subst hx
    rw [impl_IsSheet.l1, if_pos (by omega), if_pos (by omega), if_pos (by omega), rdH_get p j (by omega), drop_get p j (by omega), w64 (by omega), show k + (d + 1) = k + d + 1 by omega, show ((j : Int) + 1) = ((j + 1 : Nat) : Int) by omega, ih k (j + 1) (by omega)]
    unfold apartOK
    rw [List.all_cons]
    by_cases h1 : a = p[j].f0
    · by_cases h2 : p[j].f2 ≥ b
      · rw [if_pos (by omega), if_pos h2]; simp [h1, h2]
      · rw [if_pos (by omega), if_neg h2]; simp [h1, h2]
    · rw [if_neg (by omega)]; simp [h1]
theorem isHole_eq (a b c : Int) : impl_IsHole.f a b c = some (HoleOK ⟨a, b, c⟩) := by
  have ht : impl_isTrack.f a = some (decide (0 ≤ a ∧ a ≤ 19)) := by
    unfold impl_isTrack.f
    split
    · exact someD (by omega)
    · exact someF (by omega)
  unfold impl_IsHole.f HoleOK
  rw [ht]
  simp only [Option.bind_some, decide_eq_true_eq]
  repeat' split
  all_goals first
    | exact someF (by omega)
    | exact someD (by omega)
theorem holeLess_eq (a b c a' b' c' : Int) : impl_holeLess.f a b c a' b' c' = some (hBefore ⟨a, b, c⟩ ⟨a', b', c'⟩) := by
  unfold impl_holeLess.f hBefore
  simp only []
  split
  · exact someD (by omega)
  · exact someD (by omega)
theorem implSheet_loop (l : List S106) (hl : l.length ≤ 1048576) (d : Nat) : ∀ (k i : Nat), i + d = l.length → fuelH i d ≤ k →
    impl_IsSheet.l0 k l l l.length i = some (chkSheet (l.take i) (l.drop i)) := by
  induction d with
  | zero =>
    intro k i hi hk
    unfold fuelH at hk
    obtain ⟨k, rfl⟩ : ∃ j, k = j + 1 := ⟨k - 1, by omega⟩
    rw [impl_IsSheet.l0, if_neg (by omega), List.drop_of_length_le (by omega)]
    rfl
  | succ d ih =>
    intro k i hi hk
    unfold fuelH at hk
    obtain ⟨j, rfl⟩ : ∃ j, k = j + i + 1 + 1 + 1 := ⟨k - i - 3, by omega⟩
    have ht : (l.take i).length = i := by rw [List.length_take]; omega
    have e2 : wrap64 ((i : Int) + 1) = ((i + 1 : Nat) : Int) := by rw [w64 (by omega)]; omega
    rw [impl_IsSheet.l0, if_pos (by omega), if_pos (by omega), if_pos (by omega), rdH_get l i (by omega), isHole_eq, drop_get l i (by omega), chkSheet]
    simp only [Option.bind_some]
    have hj : ∀ flag : Bool, impl_IsSheet.j1 (j + i + 1 + 1) l i l l.length i flag l[i].f0 l[i].f1 l[i].f2 = if flag then some false else if apartOK (l.take i) l[i] then impl_IsSheet.l0 j l l l.length ((i + 1 : Nat) : Int) else some false := by
      intro flag
      rw [impl_IsSheet.j1]
      cases flag
      · simp only [Bool.false_eq_true, if_false]
        rw [if_pos (by omega), if_pos (by omega), Int.toNat_natCast]
        simp only [Option.bind_some]
        have := implSheet_row l l l.length i l[i].f0 l[i].f1 l[i].f2 (l.take i) (by omega) l[i] rfl i j 0 (by omega)
        rw [List.drop_zero, e2] at this
        exact this
      · simp only [if_true]
    have hrec := ih j (i + 1) (by omega) (by omega)
    rw [List.take_succ_eq_append_getElem (show i < l.length by omega)] at hrec
    by_cases h1 : HoleOK l[i] = true
    · rw [if_pos h1, h1]
      rcases Nat.eq_zero_or_pos i with h0 | h0
      · subst h0
        rw [if_neg (by omega), hj false]
        simp only [Bool.false_eq_true, if_false]
        rw [hrec]
        simp [lastOK, apartOK]
      · obtain ⟨m, rfl⟩ : ∃ m, i = m + 1 := ⟨i - 1, by omega⟩
        have e1 : wrap64 (((m + 1 : Nat) : Int) - 1) = (m : Int) := by rw [w64 (by omega)]; omega
        rw [if_pos (by omega), e1, if_pos (by omega), if_pos (by omega), rdH_get l m (by omega), holeLess_eq]
        simp only [Option.bind_some]
        rw [hj, hrec, lastOK_take l m (by omega)]
        cases hb : hBefore l[m] l[m + 1]
        · simp [hb]
        · cases ha : apartOK (l.take (m + 1)) l[m + 1] <;> simp [hb]
    · rw [if_neg h1, Bool.eq_false_iff.2 h1, hj]; simp
theorem isSheet_eq (l : List S106) (hl : l.length ≤ 1048576) (k : Nat) (hk : fuelH 0 l.length ≤ k) : impl_IsSheet.f k l = some (SheetB l) := by
  unfold impl_IsSheet.f SheetB
  by_cases h : l.length ≤ 60
  · have := implSheet_loop l hl l.length k 0 (by omega) hk
    rw [List.drop_zero, List.take_zero] at this
    rw [if_neg (by omega), decide_eq_true h, Bool.and_true]
    exact this
  · rw [if_pos (by omega), decide_eq_false h, Bool.and_false]

/-- the strokes that a hole takes -/
def stk (a last pos : Int) : Nat → List S127
  | 0 => []
  | d + 1 => if pos ≤ last then ⟨a, pos⟩ :: stk a last (pos + 4) d else []
theorem stk_length (a last : Int) (d : Nat) : ∀ pos, (stk a last pos d).length ≤ d := by
  induction d with
  | zero => intro pos; exact Nat.le_refl _
  | succ d ih =>
    intro pos
    rw [stk]
    split
    · rw [List.length_cons]; have := ih (pos + 4); omega
    · simp
def stkEnd (a last : Int) (t : List S127) : List S127 := if 0 < t.length then (if (rd_T127 t ((t.length - 1 : Nat) : Int)).f1 < last then t ++ [⟨a, last⟩] else t) else t
theorem stkEnd_length (a last : Int) (t : List S127) : t.length ≤ (stkEnd a last t).length ∧ (stkEnd a last t).length ≤ t.length + 1 := by
  unfold stkEnd
  split
  · split
    · rw [List.length_append, List.length_singleton]; omega
    · omega
  · omega
def holeSt (x : S106) : List S127 := stkEnd x.f0 (x.f2 - 4) (stk x.f0 (x.f2 - 4) x.f1 501)
theorem holeSt_length (x : S106) : (holeSt x).length ≤ 502 := by
  unfold holeSt
  have h1 := stkEnd_length x.f0 (x.f2 - 4) (stk x.f0 (x.f2 - 4) x.f1 501)
  have h2 := stk_length x.f0 (x.f2 - 4) 501 x.f1
  omega
theorem holeSt_none (x : S106) : ((holeSt x).length = 0) ↔ x.f2 - x.f1 < 4 := by
  unfold holeSt
  have h1 := stkEnd_length x.f0 (x.f2 - 4) (stk x.f0 (x.f2 - 4) x.f1 501)
  have h2 : stk x.f0 (x.f2 - 4) x.f1 501 = if x.f1 ≤ x.f2 - 4 then ⟨x.f0, x.f1⟩ :: stk x.f0 (x.f2 - 4) (x.f1 + 4) 500 else [] := rfl
  by_cases h : x.f1 ≤ x.f2 - 4
  · rw [if_pos h] at h2
    have h3 : (stk x.f0 (x.f2 - 4) x.f1 501).length ≠ 0 := by rw [h2]; simp
    constructor <;> intro h4 <;> omega
  · rw [if_neg h] at h2
    constructor
    · intro _; omega
    · intro _; rw [h2]; rfl
/-- the strokes of a sheet's holes, or none if a hole is too short or there are too many strokes -/
def sheetSt (t : List S127) : List S106 → List S127 × Bool
  | [] => if t.length > 200 then ([], false) else (t, true)
  | x :: r => if (holeSt x).length = 0 then ([], false) else sheetSt (t ++ holeSt x) r
theorem sheetSt_length (r : List S106) : ∀ t, (sheetSt t r).1.length ≤ 200 := by
  induction r with
  | nil => intro t; rw [sheetSt]; split <;> simp; omega
  | cons x r ih =>
    intro t
    rw [sheetSt]
    split
    · simp
    · exact ih _
theorem chkSheet_ok (r : List S106) : ∀ p, chkSheet p r = true → ∀ x ∈ r, HoleOK x = true := by
  induction r with
  | nil => intro p _ x hx; simp at hx
  | cons y r ih =>
    intro p h x hx
    rw [chkSheet, Bool.and_eq_true, Bool.and_eq_true, Bool.and_eq_true] at h
    rcases List.mem_cons.1 hx with rfl | hx
    · exact h.1.1.1
    · exact ih _ h.2 x hx
theorem sheet_facts {l : List S106} (h : SheetB l = true) : l.length ≤ 60 ∧ ∀ x ∈ l, 0 ≤ x.f0 ∧ x.f0 ≤ 19 ∧ 0 ≤ x.f1 ∧ x.f1 < x.f2 ∧ x.f2 ≤ 2000 := by
  unfold SheetB at h
  rw [Bool.and_eq_true, decide_eq_true_eq] at h
  refine ⟨h.2, fun x hx => ?_⟩
  have := chkSheet_ok l [] h.1 x hx
  unfold HoleOK at this
  exact of_decide_eq_true this

theorem puHole_loop (a b c : Int) (hb : 0 ≤ b ∧ b ≤ 2000) (hc : 0 ≤ c ∧ c ≤ 2000) (d : Nat) : ∀ (k : Nat) (pos : Int) (t : List S127), 0 ≤ pos ∧ pos ≤ 4000 → c - 4 < pos + 4 * d → d < k → t.length + d ≤ 1000000 →
    spec_puHole.l0 k t pos a b c = some (stkEnd a (c - 4) (t ++ stk a (c - 4) pos d)) := by
  induction d with
  | zero =>
    intro k pos t hp hd hk ht
    obtain ⟨k, rfl⟩ : ∃ j, k = j + 1 := ⟨k - 1, by omega⟩
    rw [spec_puHole.l0, w64 (x := c - 4) (by omega), if_neg (by omega), stk, List.append_nil]
    unfold stkEnd
    by_cases h : 0 < t.length
    · have e1 : wrap64 ((t.length : Int) - 1) = ((t.length - 1 : Nat) : Int) := by rw [w64 (by omega)]; omega
      rw [if_pos (by omega), e1, if_pos (by omega), if_pos (by omega), if_pos h, if_pos (show t.length < 8796093022208 by omega)]
      split <;> rfl
    · rw [if_neg (by omega), if_neg h]
  | succ d ih =>
    intro k pos t hp hd hk ht
    obtain ⟨k, rfl⟩ : ∃ j, k = j + 1 := ⟨k - 1, by omega⟩
    by_cases h : pos ≤ c - 4
    · rw [spec_puHole.l0, w64 (x := c - 4) (by omega), if_pos h, if_pos (by omega), w64 (by omega), ih k (pos + 4) _ (by omega) (by omega) (by omega) (by rw [List.length_append, List.length_singleton]; omega), stk, if_pos h, List.append_assoc]
      rfl
    · have e := ih (k + 1) pos t hp (by omega) (by omega) (by omega)
      cases d with
      | zero =>
        rw [stk, if_neg h]
        rw [stk] at e
        exact e
      | succ d =>
        rw [stk, if_neg h] at e
        rw [stk, if_neg h]
        exact e
theorem puHole_eq (x : S106) (hx : 0 ≤ x.f0 ∧ x.f0 ≤ 19 ∧ 0 ≤ x.f1 ∧ x.f1 < x.f2 ∧ x.f2 ≤ 2000) (k : Nat) (hk : 600 < k) : spec_puHole.f k x.f0 x.f1 x.f2 = some (holeSt x) := by
  unfold spec_puHole.f
  rw [puHole_loop x.f0 x.f1 x.f2 (by omega) (by omega) 501 k x.f1 [] (by omega) (by omega) (by omega) (by simp), List.nil_append]
  rfl
theorem puStrokes_loop (l : List S106) (hl : l.length ≤ 60) (hx : ∀ x ∈ l, 0 ≤ x.f0 ∧ x.f0 ≤ 19 ∧ 0 ≤ x.f1 ∧ x.f1 < x.f2 ∧ x.f2 ≤ 2000) (d : Nat) : ∀ (k i : Nat) (t : List S127), i + d = l.length → d + 700 < k → t.length + 502 * d ≤ 1000000 →
    spec_puStrokes.l0 k t l l.length i = some (sheetSt t (l.drop i)) := by
  induction d with
  | zero =>
    intro k i t hi hk ht
    obtain ⟨k, rfl⟩ : ∃ j, k = j + 1 := ⟨k - 1, by omega⟩
    rw [spec_puStrokes.l0, if_neg (by omega), List.drop_of_length_le (by omega), sheetSt]
    by_cases h : t.length > 200
    · rw [if_pos (by omega), if_pos h]
    · rw [if_neg (by omega), if_neg h]
  | succ d ih =>
    intro k i t hi hk ht
    obtain ⟨k, rfl⟩ : ∃ j, k = j + 1 := ⟨k - 1, by omega⟩
    have hz := holeSt_length l[i]
    rw [spec_puStrokes.l0, if_pos (by omega), if_pos (by omega), if_pos (by omega), rdH_get l i (by omega), puHole_eq _ (hx _ (List.getElem_mem _)) k (by omega), drop_get l i (by omega), sheetSt]
    simp only [Option.bind_some]
    by_cases h : (holeSt l[i]).length = 0
    · rw [if_pos (by omega), if_pos h]
    · rw [if_neg (by omega), if_neg h, if_pos (by omega), w64 (by omega), show ((i : Int) + 1) = ((i + 1 : Nat) : Int) by omega]
      exact ih k (i + 1) _ (by omega) (by omega) (by rw [List.length_append]; omega)
theorem puStrokes_eq (l : List S106) (h : SheetB l = true) (k : Nat) (hk : 800 < k) : spec_puStrokes.f k l = some (sheetSt [] l) := by
  obtain ⟨h1, h2⟩ := sheet_facts h
  exact puStrokes_loop l h1 h2 l.length k 0 [] (by omega) (by omega) (by simp; omega)

theorem holeStrokes_loop (a b c : Int) (hb : 0 ≤ b ∧ b ≤ 2000) (hc : 0 ≤ c ∧ c ≤ 2000) (d : Nat) : ∀ (k : Nat) (pos : Int) (t : List S127), 0 ≤ pos ∧ pos ≤ 4000 → c - 4 < pos + 4 * d → d < k → t.length + d ≤ 1000000 → (t.length = 0 → pos ≤ c - 4) →
    impl_holeStrokes.l0 k t (c - 4) pos a b c = some (stkEnd a (c - 4) (t ++ stk a (c - 4) pos d), true) := by
  induction d with
  | zero =>
    intro k pos t hp hd hk ht hn
    obtain ⟨k, rfl⟩ : ∃ j, k = j + 1 := ⟨k - 1, by omega⟩
    have h : 0 < t.length := by
      by_cases h0 : t.length = 0
      · have := hn h0; omega
      · omega
    have e1 : wrap64 ((t.length : Int) - 1) = ((t.length - 1 : Nat) : Int) := by rw [w64 (by omega)]; omega
    rw [impl_holeStrokes.l0, if_neg (by omega), stk, List.append_nil, e1, if_pos (by omega), if_pos (by omega), if_pos (show t.length < 8796093022208 by omega)]
    unfold stkEnd
    rw [if_pos h]
    by_cases h2 : (rd_T127 t ((t.length - 1 : Nat) : Int)).f1 < c - 4
    · rw [if_pos h2, if_pos h2]
    · rw [if_neg h2, if_neg h2]
  | succ d ih =>
    intro k pos t hp hd hk ht hn
    obtain ⟨k, rfl⟩ : ∃ j, k = j + 1 := ⟨k - 1, by omega⟩
    by_cases h : pos ≤ c - 4
    · rw [impl_holeStrokes.l0, if_pos h, if_pos (by omega), w64 (by omega), ih k (pos + 4) _ (by omega) (by omega) (by omega) (by rw [List.length_append, List.length_singleton]; omega) (by intro h'; simp at h'), stk, if_pos h, List.append_assoc]
      rfl
    · have e := ih (k + 1) pos t hp (by omega) (by omega) (by omega) hn
      cases d with
      | zero =>
        rw [stk, if_neg h]
        rw [stk] at e
        exact e
      | succ d =>
        rw [stk, if_neg h] at e
        rw [stk, if_neg h]
        exact e
theorem holeStrokes_eq (x : S106) (hx : 0 ≤ x.f0 ∧ x.f0 ≤ 19 ∧ 0 ≤ x.f1 ∧ x.f1 < x.f2 ∧ x.f2 ≤ 2000) (k : Nat) (hk : 600 < k) : impl_holeStrokes.f k x.f0 x.f1 x.f2 = some (holeSt x, !((holeSt x).length == 0)) := by
  unfold impl_holeStrokes.f
  have hn := holeSt_none x
  rw [w64 (x := x.f2 - x.f1) (by omega), w64 (x := x.f2 - 4) (by omega)]
  by_cases h : x.f2 - x.f1 < 4
  · have h0 := hn.2 h
    rw [if_pos h, List.length_eq_zero_iff.1 h0]
    rfl
  · have h0 : ¬ (holeSt x).length = 0 := fun h' => h (hn.1 h')
    rw [if_neg h, holeStrokes_loop x.f0 x.f1 x.f2 (by omega) (by omega) 501 k x.f1 [] (by omega) (by omega) (by omega) (by simp) (by omega), List.nil_append]
    have : ((holeSt x).length == 0) = false := by simpa using h0
    rw [this]
    rfl
theorem strokesOf_loop (l : List S106) (hl : l.length ≤ 60) (hx : ∀ x ∈ l, 0 ≤ x.f0 ∧ x.f0 ≤ 19 ∧ 0 ≤ x.f1 ∧ x.f1 < x.f2 ∧ x.f2 ≤ 2000) (d : Nat) : ∀ (k i : Nat) (t : List S127), i + d = l.length → d + 700 < k → t.length + 502 * d ≤ 1000000 →
    impl_strokesOf.l0 k t l l.length i = some (sheetSt t (l.drop i)) := by
  induction d with
  | zero =>
    intro k i t hi hk ht
    obtain ⟨k, rfl⟩ : ∃ j, k = j + 1 := ⟨k - 1, by omega⟩
    rw [impl_strokesOf.l0, if_neg (by omega), List.drop_of_length_le (by omega), sheetSt]
    by_cases h : t.length > 200
    · rw [if_pos (by omega), if_pos h]
    · rw [if_neg (by omega), if_neg h]
  | succ d ih =>
    intro k i t hi hk ht
    obtain ⟨k, rfl⟩ : ∃ j, k = j + 1 := ⟨k - 1, by omega⟩
    have hz := holeSt_length l[i]
    rw [impl_strokesOf.l0, if_pos (by omega), if_pos (by omega), if_pos (by omega), rdH_get l i (by omega), holeStrokes_eq _ (hx _ (List.getElem_mem _)) k (by omega), drop_get l i (by omega), sheetSt]
    simp only [Option.bind_some]
    by_cases h : (holeSt l[i]).length = 0
    · rw [h, if_neg (by decide), if_pos rfl]
    · have : (!((holeSt l[i]).length == 0)) = true := by simpa using h
      rw [if_pos this, if_neg h, if_pos (by omega), w64 (by omega), show ((i : Int) + 1) = ((i + 1 : Nat) : Int) by omega]
      exact ih k (i + 1) _ (by omega) (by omega) (by rw [List.length_append]; omega)
theorem strokesOf_eq (l : List S106) (h : SheetB l = true) (k : Nat) (hk : 800 < k) : impl_strokesOf.f k l = some (sheetSt [] l) := by
  obtain ⟨h1, h2⟩ := sheet_facts h
  exact strokesOf_loop l h1 h2 l.length k 0 [] (by omega) (by omega) (by simp; omega)

/-- a job's strokes: its sheet's, if its number done is one of theirs -/
def jobSt (l : List S106) (n : Int) : List S127 × Bool := if SheetB l then (if (sheetSt [] l).2 then ((sheetSt [] l).1, decide (0 ≤ n ∧ n ≤ ((sheetSt [] l).1.length : Int))) else ((sheetSt [] l).1, false)) else ([], false)
theorem jobSt_length (l : List S106) (n : Int) : (jobSt l n).1.length ≤ 200 := by
  have := sheetSt_length l []
  unfold jobSt
  split
  · split <;> exact this
  · simp
theorem jobSt_done (l : List S106) (n : Int) (h : (jobSt l n).2 = true) : 0 ≤ n ∧ n ≤ ((jobSt l n).1.length : Int) := by
  unfold jobSt at h ⊢
  by_cases h1 : SheetB l = true
  · by_cases h2 : (sheetSt [] l).2 = true
    · rw [if_pos h1, if_pos h2] at h ⊢
      exact of_decide_eq_true h
    · rw [if_pos h1, if_neg h2] at h
      exact absurd h Bool.false_ne_true
  · rw [if_neg h1] at h
    exact absurd h Bool.false_ne_true
theorem specJob_eq (l : List S106) (hl : l.length ≤ 1048576) (n : Int) (k : Nat) (hk : fuelH 0 l.length + 900 ≤ k) : spec_jbStrokes.f k l n = some (jobSt l n) := by
  unfold spec_jbStrokes.f jobSt
  rw [shGood_eq l hl k (by omega)]
  simp only [Option.bind_some]
  by_cases h : SheetB l = true
  · rw [if_pos h, if_pos h, puStrokes_eq l h k (by omega)]
    simp only [Option.bind_some]
    by_cases h2 : (sheetSt [] l).2 = true
    · rw [if_pos h2, if_pos h2, in_eq]
      rfl
    · rw [if_neg h2, if_neg h2]
  · rw [if_neg h, if_neg h]
theorem implJob_eq (l : List S106) (hl : l.length ≤ 1048576) (n : Int) (k : Nat) (hk : fuelH 0 l.length + 900 ≤ k) : impl_jobStrokes.f k l n = some (jobSt l n) := by
  unfold impl_jobStrokes.f jobSt
  rw [isSheet_eq l hl k (by omega)]
  simp only [Option.bind_some]
  by_cases h : SheetB l = true
  · rw [if_pos h, if_pos h, strokesOf_eq l h k (by omega)]
    simp only [Option.bind_some]
    by_cases h2 : (sheetSt [] l).2 = true
    · rw [if_pos h2, if_pos h2]
      by_cases h3 : n ≥ 0
      · rw [if_pos h3]
        congr 2
        rw [decide_eq_decide]
        exact ⟨fun h => ⟨h3, h⟩, fun h => h.2⟩
      · rw [if_neg h3]
        congr 2
        symm
        rw [decide_eq_false_iff_not]
        exact fun h => h3 h.1
    · rw [if_neg h2, if_neg h2]
  · rw [if_neg h, if_neg h]

theorem own_eq (l : List S106) (hl : l.length ≤ 1048576) (n : Int) : spec_jbOwn.f l n = some (l, n) := by
  unfold spec_jbOwn.f
  simp only [Option.bind_some]
  rw [if_pos (by simp; omega), List.nil_append]
theorem jobAt_eq (l : List S106) (hl : l.length ≤ 1048576) (n : Int) : impl_jobAt.f l n = some (l, n) := by
  unfold impl_jobAt.f slices_Clone_Hole.f
  rw [if_pos (by omega)]
  rfl

theorem eqJob_self (l : List S106) (hl : l.length ≤ 1048576) (n : Int) (k : Nat) (hk : l.length < k) : laws_eqPunchJob.f k l n l n = some true := by
  unfold laws_eqPunchJob.f
  rw [eqHoles_self l hl k hk]
  simp

theorem markJob_eq (l : List S106) (hl : l.length ≤ 1048576) (n : Int) (k : Nat) (hk : l.length < k) : laws_markPunchJob.f k l n 1 = some (1 + 3 * (l.length : Int), upH 1 l.length) := by
  unfold laws_markPunchJob.f
  rw [markHoles_eq l hl 1 (by omega) k hk]
  rfl

theorem heldJob_eq (d : Nat) (hd : d ≤ 1048576) (n : Int) (k : Nat) (hk : d < k) : laws_heldPunchJob.f k (upH 1 d) n 1 = some (1 + 3 * (d : Int)) := by
  unfold laws_heldPunchJob.f
  rw [heldHoles_eq d hd 1 (by omega) k hk]
  simp only [Option.bind_some]
  rw [if_neg (by omega)]

theorem fill_step {α : Type} (l : List α) (z : α) (i : Nat) (h : i < l.length) :
    (l.take i ++ List.replicate (l.length - i) z).set i (l[i]'h) = l.take (i + 1) ++ List.replicate (l.length - (i + 1)) z := by
  have hl : (l.take i).length = i := by rw [List.length_take]; omega
  rw [List.set_append_right _ _ (by omega), hl, Nat.sub_self, show l.length - i = (l.length - (i + 1)) + 1 by omega, List.replicate_succ, List.set_cons_zero, List.take_succ_eq_append_getElem h, List.append_assoc]
  rfl
theorem fill_length {α : Type} (l : List α) (z : α) (i : Nat) (h : i ≤ l.length) : (l.take i ++ List.replicate (l.length - i) z).length = l.length := by
  simp; omega

theorem rd_get (l : List Int) (i : Nat) (h : i < l.length) : rd l (i : Int) = l[i] := by
  unfold rd; rw [Int.toNat_natCast, List.getD_eq_getElem?_getD, List.getElem?_eq_getElem h]; rfl

theorem toInts_loop (l : List Int) (hl : l.length ≤ 1048576) (d : Nat) : ∀ (k i : Nat), i + d = l.length → d < k →
    laws_toIntS.l0 k l (l.take i ++ List.replicate (l.length - i) 0) i = some l := by
  induction d with
  | zero =>
    intro k i hi hk
    obtain ⟨k, rfl⟩ : ∃ j, k = j + 1 := ⟨k - 1, by omega⟩
    rw [laws_toIntS.l0, if_neg (by omega), show l.length - i = 0 by omega, List.replicate_zero, List.append_nil, List.take_of_length_le (by omega)]
  | succ d ih =>
    intro k i hi hk
    obtain ⟨k, rfl⟩ : ∃ j, k = j + 1 := ⟨k - 1, by omega⟩
    rw [laws_toIntS.l0, if_pos (by omega), if_pos (by omega), fill_length _ _ _ (by omega), if_pos (by omega), Int.toNat_natCast, rd_get l i (by omega), fill_step l 0 i (by omega), w64 (by omega)]
    exact ih k (i + 1) (by omega) (by omega)
theorem toInts_eq (l : List Int) (hl : l.length ≤ 1048576) (k : Nat) (hk : l.length < k) : laws_toIntS.f k l = some l := by
  unfold laws_toIntS.f
  rw [if_pos (by omega), if_pos (by omega), Int.toNat_natCast]
  have := toInts_loop l hl l.length k 0 (by omega) hk
  simpa using this

theorem eqInts_loop (l : List Int) (hl : l.length ≤ 1048576) (d : Nat) : ∀ (k i : Nat), i + d = l.length → d < k → laws_eqIntS.l0 k l l i = some true := by
  induction d with
  | zero =>
    intro k i hi hk
    obtain ⟨k, rfl⟩ : ∃ j, k = j + 1 := ⟨k - 1, by omega⟩
    rw [laws_eqIntS.l0, if_neg (by omega)]
  | succ d ih =>
    intro k i hi hk
    obtain ⟨k, rfl⟩ : ∃ j, k = j + 1 := ⟨k - 1, by omega⟩
    rw [laws_eqIntS.l0, if_pos (by omega), if_pos (by omega), if_pos (by omega), if_pos rfl, w64 (by omega)]
    exact ih k (i + 1) (by omega) (by omega)
theorem eqInts_self (l : List Int) (hl : l.length ≤ 1048576) (k : Nat) (hk : l.length < k) : laws_eqIntS.f k l l = some true := by
  unfold laws_eqIntS.f
  rw [if_pos rfl]
  exact eqInts_loop l hl l.length k 0 (by omega) hk

def upFrom (n : Int) : Nat → List Int
  | 0 => []
  | d + 1 => n :: upFrom (n + 1) d
theorem upFrom_length (n : Int) (d : Nat) : (upFrom n d).length = d := by
  induction d generalizing n with
  | zero => rfl
  | succ d ih => simp [upFrom, ih]
theorem markInts_loop (d : Nat) : ∀ (k : Nat) (p l : List Int) (n : Int), l.length = d → d < k → p.length + l.length ≤ 1048576 → 1 ≤ n ∧ n ≤ 10000000 + p.length →
    laws_markIntS.l0 k (p ++ l) n p.length = some (n + d, p ++ upFrom n d) := by
  induction d with
  | zero =>
    intro k p l n hi hk hl hn
    obtain ⟨k, rfl⟩ : ∃ j, k = j + 1 := ⟨k - 1, by omega⟩
    obtain rfl := List.length_eq_zero_iff.1 hi
    rw [laws_markIntS.l0, if_neg (by simp)]
    simp [upFrom]
  | succ d ih =>
    intro k p l n hi hk hl hn
    obtain ⟨k, rfl⟩ : ∃ j, k = j + 1 := ⟨k - 1, by omega⟩
    obtain ⟨x, r, rfl⟩ : ∃ x r, l = x :: r := by
      cases l with
      | nil => simp at hi
      | cons x r => exact ⟨x, r, rfl⟩
    simp only [List.length_cons] at hi hl
    rw [laws_markIntS.l0, if_pos (by simp; omega), if_pos (by omega), Int.toNat_natCast, List.set_append_right _ _ (by omega), Nat.sub_self, List.set_cons_zero, w64 (by omega), w64 (by omega)]
    have := ih k (p ++ [n]) r (n + 1) (by omega) (by omega) (by simp; omega) (by simp; omega)
    rw [show p ++ n :: r = (p ++ [n]) ++ r by simp, show ((p.length : Int) + 1) = (((p ++ [n]).length : Nat) : Int) by simp, this, upFrom]
    simp; omega
theorem markIntsN_eq (l : List Int) (hl : l.length ≤ 1048576) (n : Int) (hn : 1 ≤ n ∧ n ≤ 10000000) (k : Nat) (hk : l.length < k) : laws_markIntS.f k l n = some (n + (l.length : Int), upFrom n l.length) := by
  unfold laws_markIntS.f
  have := markInts_loop l.length k [] l n rfl hk (by simpa using hl) (by simp; omega)
  simpa using this

theorem l1All_loop (l : List Int) (hl : l.length ≤ 1048576) (d : Nat) : ∀ (k i : Nat), i + d = l.length → d < k → spec_l1All.l0 k 0 200 l l.length i = some (decide (∀ x ∈ l.drop i, 0 ≤ x ∧ x ≤ 200)) := by
  induction d with
  | zero =>
    intro k i hi hk
    obtain ⟨k, rfl⟩ : ∃ j, k = j + 1 := ⟨k - 1, by omega⟩
    rw [spec_l1All.l0, if_neg (by omega), List.drop_of_length_le (by omega), decide_eq_true (by simp)]
  | succ d ih =>
    intro k i hi hk
    obtain ⟨k, rfl⟩ : ∃ j, k = j + 1 := ⟨k - 1, by omega⟩
    rw [spec_l1All.l0, if_pos (by omega), if_pos (by omega), if_pos (by omega), rd_get l i (by omega), in_eq, w64 (by omega), drop_get l i (by omega)]
    simp only [Option.bind_some, decide_eq_true_eq]
    split
    · rename_i h
      rw [show ((i : Int) + 1) = ((i + 1 : Nat) : Int) by omega, ih k (i + 1) (by omega) (by omega)]
      exact someD (by rw [List.forall_mem_cons]; exact ⟨fun h' => ⟨h, h'⟩, fun h' => h'.2⟩)
    · rename_i h
      exact someF (by rw [List.forall_mem_cons]; exact fun h' => h h'.1)
theorem l1All_eq (l : List Int) (hl : l.length ≤ 1048576) (k : Nat) (hk : l.length < k) : spec_l1All.f k l 0 200 = some (decide (∀ x ∈ l, 0 ≤ x ∧ x ≤ 200)) := by
  unfold spec_l1All.f
  have := l1All_loop l hl l.length k 0 (by omega) hk
  simpa using this

theorem least_mn (a b : Int) : spec_l1Least.f a b = some (mn a b) := by
  unfold spec_l1Least.f mn
  by_cases h : a < b
  · rw [if_pos h, if_neg (by omega)]
  · rw [if_neg h]
    by_cases h2 : b < a
    · rw [if_pos h2]
    · rw [if_neg h2, show a = b by omega]

def back (x m : Int) : Int := x - Int.tmod x m
theorem back_bounds (x m : Int) (hx : 0 ≤ x) (hm : 1 ≤ m) : 0 ≤ back x m ∧ back x m ≤ x := by
  unfold back
  rw [Int.tmod_eq_emod_of_nonneg hx]
  have h1 := Int.emod_nonneg x (show m ≠ 0 by omega)
  have h2 : x % m ≤ x := by
    by_cases h : x < m
    · rw [Int.emod_eq_of_lt hx h]; omega
    · have := Int.emod_lt_of_pos x (show 0 < m by omega); omega
  generalize x % m = y at h1 h2
  omega
theorem mn_bounds (a b : Int) (ha : 0 ≤ a) (hb : 0 ≤ b) : 0 ≤ mn a b ∧ mn a b ≤ a ∧ mn a b ≤ b := by
  unfold mn
  split <;> omega
theorem add_small (a b : Int) (ha : 0 ≤ a ∧ a ≤ 1000000) (hb : 0 ≤ b ∧ b ≤ 1000000) : wrap64 (a + b) = a + b := w64 (by omega)
theorem all_step (all q : Int) (i : Nat) (h : 0 ≤ all ∧ all ≤ 1000 * i) (hq : 0 ≤ q ∧ q ≤ 200) : 0 ≤ all + q ∧ all + q ≤ 1000 * ((i + 1 : Nat) : Int) := by omega
theorem some_step (b q S : Int) (h : 0 ≤ b ∧ b ≤ S) (hq : 0 ≤ q ∧ q ≤ S - b) : 0 ≤ b + q ∧ b + q ≤ S := by omega
theorem small_of (x S : Int) (h : 0 ≤ x ∧ x ≤ S) (hS : S ≤ 200) : 0 ≤ x ∧ x ≤ 1000000 := by omega
theorem small_sub (b S : Int) (h : 0 ≤ b ∧ b ≤ S) (hS : S ≤ 200) : wrap64 (S - b) = S - b := w64 (by omega)
theorem w64_small (x S : Int) (h : 0 ≤ x ∧ x ≤ S) (hS : S ≤ 200) : wrap64 x = x := w64 (by omega)
theorem sub_nonneg' (b S : Int) (h : 0 ≤ b ∧ b ≤ S) : 0 ≤ S - b := by omega
theorem run_loop (l : List S106) (hl : l.length ≤ 1048576) (S : List S127) (hS : S.length ≤ 200) (m : Int) (hm : 1 ≤ m ∧ m ≤ 50) (x : List Int) (hxl : x.length ≤ 20) (hx : ∀ n ∈ x, 0 ≤ n ∧ n ≤ 200) (d : Nat) :
    ∀ (k i : Nat) (a all : Int), i + d = x.length → d < k → (0 ≤ a ∧ a ≤ S.length) → (0 ≤ all ∧ all ≤ 1000 * i) →
    ∃ r, spec_RunWithStops.l0 k l m S a all x x.length i = some r ∧ impl_RunWithStops.l1 k l x m S (if 0 < i ∧ i < x.length then back a m else a) all x x.length i = some r ∧ r.1 = l := by
  induction d with
  | zero =>
    intro k i a all hi hk ha hall
    obtain ⟨k, rfl⟩ : ∃ j, k = j + 1 := ⟨k - 1, by omega⟩
    rw [if_neg (show ¬ (0 < i ∧ i < x.length) by omega), spec_RunWithStops.l0, impl_RunWithStops.l1, if_neg (by omega), if_neg (by omega), own_eq l hl, jobAt_eq l hl]
    exact ⟨_, rfl, rfl, rfl⟩
  | succ d ih =>
    intro k i a all hi hk ha hall
    obtain ⟨k, rfl⟩ : ∃ j, k = j + 1 := ⟨k - 1, by omega⟩
    have hlt : i < x.length := by omega
    have hxi := hx _ (List.getElem_mem hlt)
    have hbk := back_bounds a m ha.1 hm.1
    have f1 : wrap64 (a - Int.tmod a m) = back a m := by rw [show a - Int.tmod a m = back a m from rfl, w64 (by omega)]
    have f2 : ¬ m = 0 := by omega
    have hS2 : (S.length : Int) ≤ 200 := by omega
    have hall2 : 0 ≤ all ∧ all ≤ 1000000 := by omega
    have hid : i + 1 + d = x.length := by omega
    have hkd : d < k := by omega
    have hi1 : (i : Int) < (x.length : Int) := by omega
    have hi0 : 0 ≤ (i : Int) := by omega
    have e4 : wrap64 ((i : Int) + 1) = ((i + 1 : Nat) : Int) := by rw [w64 (by omega)]; omega
    have main : ∀ b : Int, 0 ≤ b ∧ b ≤ (S.length : Int) → b = (if 0 < i ∧ i < x.length then back a m else a) → ∃ r, spec_RunWithStops.l0 (k + 1) l m S a all x x.length i = some r ∧ impl_RunWithStops.l1 (k + 1) l x m S b all x x.length i = some r ∧ r.1 = l := by
      intro b hbb
      have e1 : wrap64 ((S.length : Int) - b) = (S.length : Int) - b := small_sub b _ hbb hS2
      have hmn := mn_bounds x[i] ((S.length : Int) - b) hxi.1 (sub_nonneg' b _ hbb)
      generalize hq : mn x[i] ((S.length : Int) - b) = q at hmn
      have hq2 : 0 ≤ q ∧ q ≤ 200 := ⟨hmn.1, Int.le_trans hmn.2.1 hxi.2⟩
      have hbq := some_step b q _ hbb ⟨hmn.1, hmn.2.2⟩
      have e2 : wrap64 (b + q) = b + q := w64_small _ _ hbq hS2
      have e3 : wrap64 (all + q) = all + q := add_small all q hall2 (small_of q 200 hq2 (Int.le_refl _))
      have htm2 := back_bounds (b + q) m hbq.1 hm.1
      have e5 : wrap64 (b + q - Int.tmod (b + q) m) = back (b + q) m := w64_small (back (b + q) m) _ ⟨htm2.1, Int.le_trans htm2.2 hbq.2⟩ hS2
      obtain ⟨r, h1, h2, h3⟩ := ih k (i + 1) (b + q) (all + q) hid hkd hbq (all_step all q i hall hq2)
      have g1 : ∀ h : i + 1 < x.length, 0 < i + 1 ∧ i + 1 < x.length := fun h => ⟨Nat.succ_pos i, h⟩
      have g2 : ¬ i + 1 < x.length → ¬ (0 < i + 1 ∧ i + 1 < x.length) := fun h h' => h h'.2
      intro hb
      refine ⟨r, ?_, ?_, h3⟩
      · rw [spec_RunWithStops.l0, if_pos hi1, if_pos hi0, if_pos hi1, rd_get x i hlt]
        by_cases hz : (i : Int) > 0
        · have hbe : back a m = b := by rw [hb, if_pos ⟨Int.natCast_pos.mp hz, hlt⟩]
          rw [if_pos hz, if_neg f2, f1, hbe, e1, least_mn, hq]
          simp only [Option.bind_some]
          rw [e2, e3, e4]
          exact h1
        · have hbe : b = a := by rw [hb, if_neg (fun h => hz (Int.natCast_pos.mpr h.1))]
          rw [if_neg hz, ← hbe, e1, least_mn, hq]
          simp only [Option.bind_some]
          rw [e2, e3, e4]
          exact h1
      · rw [impl_RunWithStops.l1, if_pos hi1, if_pos hi0, if_pos hi1, rd_get x i hlt, e1, hq, e2, e3, e4]
        by_cases hz : i + 1 < x.length
        · rw [if_pos (g1 hz)] at h2
          rw [if_pos (Int.ofNat_lt.2 hz), if_neg f2, e5]
          exact h2
        · rw [if_neg (g2 hz)] at h2
          rw [if_neg (fun h => hz (Int.ofNat_lt.1 h))]
          exact h2
    have hbb : 0 ≤ (if 0 < i ∧ i < x.length then back a m else a) ∧ (if 0 < i ∧ i < x.length then back a m else a) ≤ (S.length : Int) := by
      split
      · exact ⟨hbk.1, Int.le_trans hbk.2 ha.2⟩
      · exact ha
    exact main _ hbb rfl
theorem check_loop (l : List S106) (S : List S127) (m : Int) (x : List Int) (hxl : x.length ≤ 20) (d : Nat) : ∀ (k i : Nat), i + d = x.length →
    impl_RunWithStops.l0 (k + d + 1) l x m S x x.length i = if (∀ n ∈ x.drop i, 0 ≤ n ∧ n ≤ 200) then impl_RunWithStops.l0 (k + 1) l x m S x x.length x.length else some ([], 0, 0, false) := by
  induction d with
  | zero =>
    intro k i hi
    rw [List.drop_of_length_le (by omega), if_pos (by simp), show i = x.length by omega]
  | succ d ih =>
    intro k i hi
    have e4 : wrap64 ((i : Int) + 1) = ((i + 1 : Nat) : Int) := by rw [w64 (by omega)]; omega
    rw [show k + (d + 1) + 1 = (k + d + 1) + 1 by omega, impl_RunWithStops.l0, if_pos (by omega), if_pos (by omega), if_pos (by omega), rd_get x i (by omega), e4, ih k (i + 1) (by omega), drop_get x i (by omega)]
    have hc : (∀ n ∈ x[i] :: x.drop (i + 1), 0 ≤ n ∧ n ≤ 200) ↔ (0 ≤ x[i] ∧ x[i] ≤ 200) ∧ ∀ n ∈ x.drop (i + 1), 0 ≤ n ∧ n ≤ 200 := List.forall_mem_cons
    by_cases h1 : x[i] < 0
    · rw [if_pos h1, if_neg (fun h => by have := (hc.1 h).1; omega)]
    · by_cases h2 : x[i] > 200
      · rw [if_neg h1, if_pos h2, if_neg (fun h => by have := (hc.1 h).1; omega)]
      · rw [if_neg h1, if_neg h2]
        by_cases h3 : ∀ n ∈ x.drop (i + 1), 0 ≤ n ∧ n ≤ 200
        · rw [if_pos h3, if_pos (hc.2 ⟨by omega, h3⟩)]
        · rw [if_neg h3, if_neg (fun h => h3 (hc.1 h).2)]
theorem run_eq (l : List S106) (hl : l.length ≤ 1048576) (x : List Int) (hxl : x.length ≤ 1048576) (m : Int) (k : Nat) (hk : fuelH 0 l.length + x.length + 1000 ≤ k) : ∃ R, spec_RunWithStops.f k l x m = some R ∧ impl_RunWithStops.f k l x m = some R ∧ R.1.length ≤ l.length := by
  obtain ⟨k, rfl⟩ : ∃ j, k = j + 1 := ⟨k - 1, by omega⟩
  unfold spec_RunWithStops.f impl_RunWithStops.f spec_jbMark.f impl_isMark.f
  have hS := jobSt_length l 0
  rw [specJob_eq l hl 0 _ (by omega), implJob_eq l hl 0 _ (by omega), l1All_eq x hxl _ (by omega), in_eq]
  simp only [Option.bind_some]
  by_cases h : (jobSt l 0).2 = true
  · rw [if_pos h, if_pos h]
    by_cases h2 : (x.length : Int) > 20
    · rw [if_pos h2, if_pos h2, spec_RunWithStops.j0, impl_RunWithStops.j0, if_pos rfl, if_pos rfl]
      exact ⟨_, rfl, rfl, by simp⟩
    · rw [if_neg h2, if_neg h2]
      have hx20 : x.length ≤ 20 := by omega
      by_cases h4 : 1 ≤ m ∧ m ≤ 50
      · have e5 : (if m ≥ 1 then some (decide (m ≤ 50)) else some false) = some true := by rw [if_pos h4.1, decide_eq_true h4.2]
        obtain ⟨q, rfl⟩ : ∃ q, k = q + x.length + 1 := ⟨k - x.length - 1, by omega⟩
        have hq : x.length < q := by omega
        have ec := check_loop l (jobSt l 0).1 m x hx20 x.length q 0 (by omega)
        rw [List.drop_zero] at ec
        rw [e5, decide_eq_true h4]
        simp only [Option.bind_some]
        by_cases h3 : ∀ n ∈ x, 0 ≤ n ∧ n ≤ 200
        · obtain ⟨r, e1, e2, e3⟩ := run_loop l hl (jobSt l 0).1 hS m h4 x hx20 h3 x.length q 0 0 0 (by omega) hq ⟨Int.le_refl _, Int.natCast_nonneg _⟩ ⟨Int.le_refl _, Int.le_refl _⟩
          rw [if_neg (fun h => absurd h.1 (Nat.lt_irrefl 0))] at e2
          have e1' := at_rounds (g := fun k => spec_RunWithStops.l0 k l m (jobSt l 0).1 0 0 x x.length ((0 : Nat) : Int)) (fun k => (spec_RunWithStops.mono_l k).2 _ _ _ _ _ _ _ _) (show q ≤ q + x.length + 1 by omega) e1
          refine ⟨r, ?_, ?_, by rw [e3]; exact Nat.le_refl _⟩
          · rw [if_pos (decide_eq_true h3), spec_RunWithStops.j0, if_neg (by decide)]
            exact e1'
          · rw [if_pos h3] at ec
            rw [impl_RunWithStops.j0, if_neg (by decide)]
            refine Eq.trans ec ?_
            rw [impl_RunWithStops.l0, if_neg (Int.lt_irrefl _)]
            exact e2
        · refine ⟨([], 0, 0, false), ?_, ?_, by simp⟩
          · rw [if_neg (fun h => h3 (of_decide_eq_true h)), spec_RunWithStops.j0, if_pos rfl]
          · rw [if_neg h3] at ec
            rw [impl_RunWithStops.j0, if_neg (by decide)]
            exact ec
      · have e5 : (if m ≥ 1 then some (decide (m ≤ 50)) else some false) = some false := by
          by_cases h5 : m ≥ 1
          · rw [if_pos h5, decide_eq_false (fun h => h4 ⟨h5, h⟩)]
          · rw [if_neg h5]
        rw [e5, decide_eq_false h4]
        simp only [Option.bind_some]
        refine ⟨([], 0, 0, false), ?_, ?_, by simp⟩
        · split
          · rw [spec_RunWithStops.j0, if_pos (by decide)]
          · rw [spec_RunWithStops.j0, if_pos rfl]
        · rw [impl_RunWithStops.j0, if_pos (by decide)]
  · rw [if_neg h, if_neg h, spec_RunWithStops.j0, impl_RunWithStops.j0, if_pos rfl, if_pos rfl]
    exact ⟨_, rfl, rfl, by simp⟩
theorem FnExactRunWithStops (l : List S108) (x : List Int) (m : Int) (hl : l.length ≤ maxLen) (_ : ∀ y ∈ l, (Lit.int .i64 y.f0).wf = true ∧ (Lit.int .i64 y.f1).wf = true ∧ (Lit.int .i64 y.f2).wf = true) (hx : x.length ≤ maxLen) (_ : ∀ y ∈ x, (Lit.int .i64 y).wf = true) (_ : (Lit.int .i64 m).wf = true) :
    ∃ k, laws_FnExactRunWithStops.f k l x m = some true := by
  refine ⟨fuelH 0 l.length + l.length + x.length + 1300 + 1 + 1 + 1, ?_⟩
  unfold laws_FnExactRunWithStops.f
  by_cases hxn : (x.length : Int) > 1048576
  · rw [if_pos hxn]
  rw [if_neg hxn, szHoles_eq l hl]
  simp only [Option.bind_some]
  by_cases hn : l.length ≤ 1048576
  · have h' : (l.map toH).length ≤ 1048576 := by simpa using hn
    have e2 : (l.map toH).length = l.length := by simp
    have e : fuelH 0 (l.map toH).length = fuelH 0 l.length := by simp
    obtain ⟨R, s0, _, hR⟩ := run_eq (l.map toH) h' x (by omega) m (fuelH 0 l.length + x.length + 1000) (by omega)
    have hs : ∀ k, fuelH 0 l.length + x.length + 1000 ≤ k → spec_RunWithStops.f k (l.map toH) x m = some R := fun k hk =>
      at_rounds (g := fun k => spec_RunWithStops.f k (l.map toH) x m) (fun k => spec_RunWithStops.mono _ _ _ k) hk s0
    have hi : ∀ k, fuelH 0 l.length + x.length + 1000 ≤ k → impl_RunWithStops.f k (l.map toH) x m = some R := fun k hk => by
      obtain ⟨R', s1, i1, _⟩ := run_eq (l.map toH) h' x (by omega) m k (by omega)
      rw [hs k hk] at s1
      rw [i1, ← Option.some.inj s1]
    rw [if_pos hn, if_neg (by omega), toHoles_eq l hn _ (by omega), toInts_eq x (by omega) _ (by omega)]
    simp only [Option.bind_some]
    rw [hs _ (by omega), hi _ (by omega)]
    simp only [Option.bind_some]
    rw [eqJob_self _ (by omega) _ _ (by omega)]
    simp only [Option.bind_some, if_true, bne_self_eq_false]
    rw [laws_FnExactRunWithStops.j0, if_neg (by decide), toHoles_eq l hn _ (by omega)]
    simp only [Option.bind_some]
    rw [eqHoles_self _ h' _ (by omega)]
    simp only [Option.bind_some, if_true]
    rw [toInts_eq x (by omega) _ (by omega)]
    simp only [Option.bind_some]
    rw [eqInts_self _ (by omega) _ (by omega)]
    simp only [Option.bind_some, if_true]
    rw [markHoles_eq _ h' 1 (by omega) _ (by omega)]
    simp only [Option.bind_some]
    rw [markIntsN_eq x (by omega) _ (by omega) _ (by omega)]
    simp only [Option.bind_some]
    rw [if_neg (by omega), eqJob_self _ (by omega) _ _ (by omega)]
    simp only [Option.bind_some, if_true, bne_self_eq_false]
    rw [laws_FnExactRunWithStops.j1, if_neg (by decide), markJob_eq _ (by omega) _ _ (by omega)]
    simp only [Option.bind_some]
    rw [heldJob_eq _ (by omega) _ _ (by omega)]
    simp only [Option.bind_some]
    rw [if_neg (by omega), if_pos trivial, toHoles_eq l hn _ (by omega), toInts_eq x (by omega) _ (by omega)]
    simp only [Option.bind_some]
    rw [hi _ (by omega)]
    simp only [Option.bind_some]
    rw [eqJob_self _ (by omega) _ _ (by omega)]
    simp only [Option.bind_some, if_true, bne_self_eq_false]
    rw [laws_FnExactRunWithStops.j2, if_neg (by decide), heldJob_eq _ (by omega) _ _ (by omega)]
    simp only [Option.bind_some]
    rw [if_neg (by omega), if_pos trivial]
  · rw [if_neg hn, if_pos (by decide)]
end Go.Proofs.Ytjogodnkcjhdiaa.Pure
