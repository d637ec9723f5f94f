/- FnExactScanOf: the program's ScanOf answers as the reference's, for all slices of holes and all numbers. No condition. -/
import Derived.Test.YtjogodnkcjhdiaaPFnExactScanOfx8
namespace Go.Proofs.Ytjogodnkcjhdiaa.Pure
open Go.RowKit Go.Proofs.Ytjogodnkcjhdiaa.PFnExactScanOf Go.Proofs.YtjogodnkcjhdiaaW.PrintWords Go.Proofs.YtjogodnkcjhdiaaW.PrintLast

set_option linter.unusedVariables false
set_option linter.unusedSimpArgs false

theorem w64 {x : Int} (h : -9223372036854775808 ≤ x ∧ x ≤ 9223372036854775807) : wrap64 x = x := by
  unfold wrap64; omega
theorem someF {p : Prop} [Decidable p] (h : ¬ p) : some false = some (decide p) := by rw [decide_eq_false h]
theorem someD {q p : Prop} [Decidable q] [Decidable p] (h : q ↔ p) : some (decide q) = some (decide p) := by rw [decide_eq_decide.2 h]

theorem in_eq (a b c : Int) : spec_l1In.f a b c = some (decide (b ≤ a ∧ a ≤ c)) := by
  unfold spec_l1In.f
  by_cases h : a ≥ b
  · rw [if_pos h]; congr 1; simp [show b ≤ a from h]
  · rw [if_neg h]; congr 1; simp; omega

theorem drop_get {α : Type} (l : List α) (i : Nat) (h : i < l.length) : l.drop i = l[i] :: l.drop (i + 1) := List.drop_eq_getElem_cons h
theorem map_step {α β : Type} (f : α → β) (l : List α) (z : β) (i : Nat) (h : i < l.length) :
    ((l.take i).map f ++ List.replicate (l.length - i) z).set i (f (l[i]'h)) = (l.take (i + 1)).map f ++ List.replicate (l.length - (i + 1)) z := by
  have hl : ((l.take i).map f).length = i := by rw [List.length_map, List.length_take]; omega
  rw [List.set_append_right _ _ (by omega), hl, Nat.sub_self, show l.length - i = (l.length - (i + 1)) + 1 by omega, List.replicate_succ, List.set_cons_zero, List.take_succ_eq_append_getElem h, List.map_append, List.append_assoc]
  rfl
theorem map_length {α β : Type} (f : α → β) (l : List α) (z : β) (i : Nat) (h : i ≤ l.length) : ((l.take i).map f ++ List.replicate (l.length - i) z).length = l.length := by
  simp; omega

theorem rd_get (l : List Int) (i : Nat) (h : i < l.length) : rd l (i : Int) = l[i] := by
  unfold rd; rw [Int.toNat_natCast, List.getD_eq_getElem?_getD, List.getElem?_eq_getElem h]; rfl

theorem rdH_get (l : List S106) (i : Nat) (h : i < l.length) : rd_T106 l (i : Int) = l[i] := by
  unfold rd_T106; rw [Int.toNat_natCast, List.getD_eq_getElem?_getD, List.getElem?_eq_getElem h]; rfl
theorem rdLH_get (l : List S108) (i : Nat) (h : i < l.length) : rd_T108 l (i : Int) = l[i] := by
  unfold rd_T108; rw [Int.toNat_natCast, List.getD_eq_getElem?_getD, List.getElem?_eq_getElem h]; rfl
def toH (x : S108) : S106 := ⟨x.f0, x.f1, x.f2⟩
theorem toHoles_loop (l : List S108) (hl : l.length ≤ 1048576) (d : Nat) : ∀ (k i : Nat), i + d = l.length → d < k →
    laws_toHoleS.l0 k l ((l.take i).map toH ++ List.replicate (l.length - i) z106) i = some (l.map toH) := by
  induction d with
  | zero =>
    intro k i hi hk
    obtain ⟨k, rfl⟩ : ∃ j, k = j + 1 := ⟨k - 1, by omega⟩
    rw [laws_toHoleS.l0, if_neg (by omega), show l.length - i = 0 by omega, List.replicate_zero, List.append_nil, List.take_of_length_le (by omega)]
  | succ d ih =>
    intro k i hi hk
    obtain ⟨k, rfl⟩ : ∃ j, k = j + 1 := ⟨k - 1, by omega⟩
    rw [laws_toHoleS.l0, if_pos (by omega), if_pos (by omega), rdLH_get l i (by omega)]
    unfold laws_toHole.f
    simp only [Option.bind_some]
    rw [map_length _ _ _ _ (by omega), if_pos (by omega), Int.toNat_natCast]
    have := map_step toH l z106 i (by omega)
    unfold toH at this ⊢
    rw [this, w64 (by omega)]
    exact ih k (i + 1) (by omega) (by omega)
theorem toHoles_eq (l : List S108) (hl : l.length ≤ 1048576) (k : Nat) (hk : l.length < k) : laws_toHoleS.f k l = some (l.map toH) := by
  unfold laws_toHoleS.f
  rw [if_pos (by omega), if_pos (by omega), Int.toNat_natCast]
  have := toHoles_loop l hl l.length k 0 (by omega) hk
  simpa using this
theorem eqHoles_loop (l : List S106) (hl : l.length ≤ 1048576) (d : Nat) : ∀ (k i : Nat), i + d = l.length → d < k → laws_eqHoleS.l0 k l l i = some true := by
  induction d with
  | zero =>
    intro k i hi hk
    obtain ⟨k, rfl⟩ : ∃ j, k = j + 1 := ⟨k - 1, by omega⟩
    rw [laws_eqHoleS.l0, if_neg (by omega)]
  | succ d ih =>
    intro k i hi hk
    obtain ⟨k, rfl⟩ : ∃ j, k = j + 1 := ⟨k - 1, by omega⟩
    rw [laws_eqHoleS.l0, if_pos (by omega), if_pos (by omega), if_pos (by omega)]
    unfold laws_eqHole.f
    rw [if_pos rfl, if_pos rfl, if_pos rfl]
    simp only [Option.bind_some, if_true]
    rw [w64 (by omega)]
    exact ih k (i + 1) (by omega) (by omega)
theorem eqHoles_self (l : List S106) (hl : l.length ≤ 1048576) (k : Nat) (hk : l.length < k) : laws_eqHoleS.f k l l = some true := by
  unfold laws_eqHoleS.f
  rw [if_pos rfl]
  exact eqHoles_loop l hl l.length k 0 (by omega) hk

theorem szHoles_eq (l : List S108) (hl : l.length ≤ maxLen) : laws_szHoleS.f l 1048576 = some (if l.length ≤ 1048576 then 1048576 - (l.length : Int) else -1) := by
  unfold maxLen at hl
  unfold laws_szHoleS.f
  rw [w64 (by omega)]
  split <;> split <;> first | rfl | omega

/-- holes with ascending numbers in all their fields -/
def upH (n : Int) : Nat → List S106
  | 0 => []
  | d + 1 => ⟨n, n + 1, n + 2⟩ :: upH (n + 3) d
theorem upH_length (n : Int) (d : Nat) : (upH n d).length = d := by
  induction d generalizing n with
  | zero => rfl
  | succ d ih => simp [upH, ih]
theorem markHoles_loop (d : Nat) : ∀ (k : Nat) (p l : List S106) (n : Int), l.length = d → d < k → p.length + l.length ≤ 1048576 → 1 ≤ n ∧ n ≤ 10000000 + 3 * p.length →
    laws_markHoleS.l0 k (p ++ l) n p.length = some (n + 3 * d, p ++ upH n d) := by
  induction d with
  | zero =>
    intro k p l n hi hk hl hn
    obtain ⟨k, rfl⟩ : ∃ j, k = j + 1 := ⟨k - 1, by omega⟩
    obtain rfl := List.length_eq_zero_iff.1 hi
    rw [laws_markHoleS.l0, if_neg (by simp)]
    simp [upH]
  | succ d ih =>
    intro k p l n hi hk hl hn
    obtain ⟨k, rfl⟩ : ∃ j, k = j + 1 := ⟨k - 1, by omega⟩
    obtain ⟨x, r, rfl⟩ : ∃ x r, l = x :: r := by
      cases l with
      | nil => simp at hi
      | cons x r => exact ⟨x, r, rfl⟩
    simp only [List.length_cons] at hi hl
    have hset : ∀ a b : S106, (p ++ a :: r).set p.length b = p ++ b :: r := fun a b => by
      rw [List.set_append_right _ _ (by omega), Nat.sub_self, List.set_cons_zero]
    have hrd : ∀ a : S106, rd_T106 (p ++ a :: r) (p.length : Int) = a := fun a => by
      rw [rdH_get _ p.length (by simp), List.getElem_append_right (by omega)]; simp
    rw [laws_markHoleS.l0, if_pos (by simp; omega), if_pos (by omega), Int.toNat_natCast]
    simp only [Option.bind_some, hset, hrd]
    rw [w64 (x := n + 1) (by omega), w64 (x := n + 1 + 1) (by omega), w64 (x := n + 1 + 1 + 1) (by omega), w64 (by omega)]
    have := ih k (p ++ [⟨n, n + 1, n + 1 + 1⟩]) r (n + 1 + 1 + 1) (by omega) (by omega) (by simp; omega) (by simp; omega)
    rw [show p ++ (⟨n, n + 1, n + 1 + 1⟩ : S106) :: r = (p ++ [⟨n, n + 1, n + 1 + 1⟩]) ++ r by simp, show ((p.length : Int) + 1) = (((p ++ [(⟨n, n + 1, n + 1 + 1⟩ : S106)]).length : Nat) : Int) by simp, this, upH]
    simp only [List.append_assoc, List.singleton_append]
    rw [show n + 1 + 1 + 1 = n + 3 by omega, show n + 1 + 1 = n + 2 by omega]
    congr 2; omega
theorem markHoles_eq (l : List S106) (hl : l.length ≤ 1048576) (n : Int) (hn : 1 ≤ n ∧ n ≤ 10000000) (k : Nat) (hk : l.length < k) : laws_markHoleS.f k l n = some (n + 3 * (l.length : Int), upH n l.length) := by
  unfold laws_markHoleS.f
  have := markHoles_loop l.length k [] l n rfl hk (by simpa using hl) (by simp; omega)
  simpa using this

/-- sheets: holes in order, none of a track touching an earlier one -/
def HoleOK (x : S106) : Bool := decide (0 ≤ x.f0 ∧ x.f0 ≤ 19 ∧ 0 ≤ x.f1 ∧ x.f1 < x.f2 ∧ x.f2 ≤ 2000)
def hBefore (a b : S106) : Bool := decide (a.f1 < b.f1 ∨ (a.f1 = b.f1 ∧ a.f0 < b.f0))
def lastOK (p : List S106) (x : S106) : Bool := match p.getLast? with
  | none => true
  | some y => hBefore y x
def apartOK (p : List S106) (x : S106) : Bool := p.all fun y => !(decide (x.f0 = y.f0) && decide (y.f2 ≥ x.f1))
def chkSheet (p : List S106) : List S106 → Bool
  | [] => true
  | x :: r => HoleOK x && lastOK p x && apartOK p x && chkSheet (p ++ [x]) r
def SheetB (l : List S106) : Bool := chkSheet [] l && decide (l.length ≤ 60)
def fuelH (i : Nat) : Nat → Nat
  | 0 => 1
  | d + 1 => i + 3 + fuelH (i + 1) d
theorem lastOK_take (l : List S106) (i : Nat) (h : i + 1 < l.length) : lastOK (l.take (i + 1)) l[i + 1] = hBefore l[i] l[i + 1] := by
  unfold lastOK
  rw [List.take_succ_eq_append_getElem (show i < l.length by omega), List.getLast?_concat]

theorem specSheet_row (l : List S106) (x7 : List S106) (x8 x9 a b c : Int) (p : List S106) (hp : p.length ≤ 1048576) (x : S106) (hx : x = ⟨a, b, c⟩) (d : Nat) : ∀ (k j : Nat), j + d = p.length →
    spec_shGood.l1 (k + d + 1) l x7 x8 x9 p p.length j a b c = if apartOK (p.drop j) x then spec_shGood.l0 k l x7 x8 (wrap64 (x9 + 1)) else some false := by
  induction d with
  | zero =>
    intro k j hj
    rw [spec_shGood.l1, if_neg (by omega), List.drop_of_length_le (by omega)]
    rfl
  | succ d ih =>
    intro k j hj
    subst hx
    rw [spec_shGood.l1, if_pos (by omega), if_pos (by omega), if_pos (by omega), rdH_get p j (by omega), drop_get p j (by omega), w64 (by omega), show k + (d + 1) = k + d + 1 by omega, show ((j : Int) + 1) = ((j + 1 : Nat) : Int) by omega, ih k (j + 1) (by omega)]
    unfold apartOK
    rw [List.all_cons]
    by_cases h1 : a = p[j].f0
    · by_cases h2 : p[j].f2 ≥ b
      · rw [if_pos (by omega), if_pos h2]; simp [h1, h2]
      · rw [if_pos (by omega), if_neg h2]; simp [h1, h2]
    · rw [if_neg (by omega)]; simp [h1]
theorem shHole_eq (a b c : Int) : spec_shHole.f a b c = some (HoleOK ⟨a, b, c⟩) := by
  unfold spec_shHole.f HoleOK
  simp only [in_eq, Option.bind_some, decide_eq_true_eq]
  split
  · split
    · rw [w64 (by omega)]; exact someD (by omega)
    · exact someF (by omega)
  · exact someF (by omega)
theorem shBefore_eq (a b c a' b' c' : Int) : spec_shBefore.f a b c a' b' c' = some (hBefore ⟨a, b, c⟩ ⟨a', b', c'⟩) := by
  unfold spec_shBefore.f hBefore
  simp only []
  split
  · rw [decide_eq_true (by omega)]
  · split
    · exact someD (by omega)
    · exact someF (by omega)
theorem specSheet_loop (l : List S106) (hl : l.length ≤ 1048576) (d : Nat) : ∀ (k i : Nat), i + d = l.length → fuelH i d ≤ k →
    spec_shGood.l0 k l l l.length i = some (chkSheet (l.take i) (l.drop i) && decide (l.length ≤ 60)) := by
  induction d with
  | zero =>
    intro k i hi hk
    unfold fuelH at hk
    obtain ⟨k, rfl⟩ : ∃ j, k = j + 1 := ⟨k - 1, by omega⟩
    rw [spec_shGood.l0, if_neg (by omega), List.drop_of_length_le (by omega)]
    unfold chkSheet
    rw [Bool.true_and]
    exact someD (by omega)
  | succ d ih =>
    intro k i hi hk
    unfold fuelH at hk
    obtain ⟨j, rfl⟩ : ∃ j, k = j + i + 1 + 1 + 1 := ⟨k - i - 3, by omega⟩
    have ht : (l.take i).length = i := by rw [List.length_take]; omega
    have e2 : wrap64 ((i : Int) + 1) = ((i + 1 : Nat) : Int) := by rw [w64 (by omega)]; omega
    rw [spec_shGood.l0, if_pos (by omega), if_pos (by omega), if_pos (by omega), rdH_get l i (by omega), shHole_eq, drop_get l i (by omega), chkSheet]
    simp only [Option.bind_some]
    have hj : ∀ flag : Bool, spec_shGood.j1 (j + i + 1 + 1) l i l l.length i flag l[i].f0 l[i].f1 l[i].f2 = if flag then some false else if apartOK (l.take i) l[i] then spec_shGood.l0 j l l l.length ((i + 1 : Nat) : Int) else some false := by
      intro flag
      rw [spec_shGood.j1]
      cases flag
      · simp only [Bool.false_eq_true, if_false]
        rw [if_pos (by omega), if_pos (by omega), Int.toNat_natCast]
        simp only [Option.bind_some]
        have := specSheet_row l l l.length i l[i].f0 l[i].f1 l[i].f2 (l.take i) (by omega) l[i] rfl i j 0 (by omega)
        rw [List.drop_zero, e2] at this
        exact this
      · simp only [if_true]
    have hrec := ih j (i + 1) (by omega) (by omega)
    rw [List.take_succ_eq_append_getElem (show i < l.length by omega)] at hrec
    by_cases h1 : HoleOK l[i] = true
    · rw [if_pos h1, h1]
      rcases Nat.eq_zero_or_pos i with h0 | h0
      · subst h0
        rw [if_neg (by omega), hj false]
        simp only [Bool.false_eq_true, if_false]
        rw [hrec]
        simp [lastOK, apartOK]
      · obtain ⟨m, rfl⟩ : ∃ m, i = m + 1 := ⟨i - 1, by omega⟩
        have e1 : wrap64 (((m + 1 : Nat) : Int) - 1) = (m : Int) := by rw [w64 (by omega)]; omega
        rw [if_pos (by omega), e1, if_pos (by omega), if_pos (by omega), rdH_get l m (by omega), shBefore_eq]
        simp only [Option.bind_some]
        rw [hj, hrec, lastOK_take l m (by omega)]
        cases hb : hBefore l[m] l[m + 1]
        · simp [hb]
        · cases ha : apartOK (l.take (m + 1)) l[m + 1] <;> simp [hb]
    · rw [if_neg h1, Bool.eq_false_iff.2 h1, hj]; simp
theorem shGood_eq (l : List S106) (hl : l.length ≤ 1048576) (k : Nat) (hk : fuelH 0 l.length ≤ k) : spec_shGood.f k l = some (SheetB l) := by
  unfold spec_shGood.f SheetB
  have := specSheet_loop l hl l.length k 0 (by omega) hk
  rw [List.drop_zero, List.take_zero] at this
  exact this

theorem implSheet_row (l : List S106) (x7 : List S106) (x8 x9 a b c : Int) (p : List S106) (hp : p.length ≤ 1048576) (x : S106) (hx : x = ⟨a, b, c⟩) (d : Nat) : ∀ (k j : Nat), j + d = p.length →
    impl_IsSheet.l1 (k + d + 1) l x7 x8 x9 p p.length j a b c = if apartOK (p.drop j) x then impl_IsSheet.l0 k l x7 x8 (wrap64 (x9 + 1)) else some false := by
  induction d with
  | zero =>
    intro k j hj
    rw [impl_IsSheet.l1, if_neg (by omega), List.drop_of_length_le (by omega)]
    rfl
  | succ d ih =>
    intro k j hj
    subst hx
    rw [impl_IsSheet.l1, if_pos (by omega), if_pos (by omega), if_pos (by omega), rdH_get p j (by omega), drop_get p j (by omega), w64 (by omega), show k + (d + 1) = k + d + 1 by omega, show ((j : Int) + 1) = ((j + 1 : Nat) : Int) by omega, ih k (j + 1) (by omega)]
    unfold apartOK
    rw [List.all_cons]
    by_cases h1 : a = p[j].f0
    · by_cases h2 : p[j].f2 ≥ b
      · rw [if_pos (by omega), if_pos h2]; simp [h1, h2]
      · rw [if_pos (by omega), if_neg h2]; simp [h1, h2]
    · rw [if_neg (by omega)]; simp [h1]
theorem isHole_eq (a b c : Int) : impl_IsHole.f a b c = some (HoleOK ⟨a, b, c⟩) := by
  have ht : impl_isTrack.f a = some (decide (0 ≤ a ∧ a ≤ 19)) := by
    unfold impl_isTrack.f
    split
    · exact someD (by omega)
    · exact someF (by omega)
  unfold impl_IsHole.f HoleOK
  rw [ht]
  simp only [Option.bind_some, decide_eq_true_eq]
  repeat' split
  all_goals first
    | exact someF (by omega)
    | exact someD (by omega)
theorem holeLess_eq (a b c a' b' c' : Int) : impl_holeLess.f a b c a' b' c' = some (hBefore ⟨a, b, c⟩ ⟨a', b', c'⟩) := by
  unfold impl_holeLess.f hBefore
  simp only []
  split
  · exact someD (by omega)
  · exact someD (by omega)
theorem implSheet_loop (l : List S106) (hl : l.length ≤ 1048576) (d : Nat) : ∀ (k i : Nat), i + d = l.length → fuelH i d ≤ k →
    impl_IsSheet.l0 k l l l.length i = some (chkSheet (l.take i) (l.drop i)) := by
  induction d with
  | zero =>
    intro k i hi hk
    unfold fuelH at hk
    obtain ⟨k, rfl⟩ : ∃ j, k = j + 1 := ⟨k - 1, by omega⟩
    rw [impl_IsSheet.l0, if_neg (by omega), List.drop_of_length_le (by omega)]
    rfl
  | succ d ih =>
    intro k i hi hk
    unfold fuelH at hk
    obtain ⟨j, rfl⟩ : ∃ j, k = j + i + 1 + 1 + 1 := ⟨k - i - 3, by omega⟩
    have ht : (l.take i).length = i := by rw [List.length_take]; omega
    have e2 : wrap64 ((i : Int) + 1) = ((i + 1 : Nat) : Int) := by rw [w64 (by omega)]; omega
    rw [impl_IsSheet.l0, if_pos (by omega), if_pos (by omega), if_pos (by omega), rdH_get l i (by omega), isHole_eq, drop_get l i (by omega), chkSheet]
    simp only [Option.bind_some]
    have hj : ∀ flag : Bool, impl_IsSheet.j1 (j + i + 1 + 1) l i l l.length i flag l[i].f0 l[i].f1 l[i].f2 = if flag then some false else if apartOK (l.take i) l[i] then impl_IsSheet.l0 j l l l.length ((i + 1 : Nat) : Int) else some false := by
      intro flag
      rw [impl_IsSheet.j1]
      cases flag
      · simp only [Bool.false_eq_true, if_false]
        rw [if_pos (by omega), if_pos (by omega), Int.toNat_natCast]
        simp only [Option.bind_some]
        have := implSheet_row l l l.length i l[i].f0 l[i].f1 l[i].f2 (l.take i) (by omega) l[i] rfl i j 0 (by omega)
        rw [List.drop_zero, e2] at this
        exact this
      · simp only [if_true]
    have hrec := ih j (i + 1) (by omega) (by omega)
    rw [List.take_succ_eq_append_getElem (show i < l.length by omega)] at hrec
    by_cases h1 : HoleOK l[i] = true
    · rw [if_pos h1, h1]
      rcases Nat.eq_zero_or_pos i with h0 | h0
      · subst h0
        rw [if_neg (by omega), hj false]
        simp only [Bool.false_eq_true, if_false]
        rw [hrec]
        simp [lastOK, apartOK]
      · obtain ⟨m, rfl⟩ : ∃ m, i = m + 1 := ⟨i - 1, by omega⟩
        have e1 : wrap64 (((m + 1 : Nat) : Int) - 1) = (m : Int) := by rw [w64 (by omega)]; omega
        rw [if_pos (by omega), e1, if_pos (by omega), if_pos (by omega), rdH_get l m (by omega), holeLess_eq]
        simp only [Option.bind_some]
        rw [hj, hrec, lastOK_take l m (by omega)]
        cases hb : hBefore l[m] l[m + 1]
        · simp [hb]
        · cases ha : apartOK (l.take (m + 1)) l[m + 1] <;> simp [hb]
    · rw [if_neg h1, Bool.eq_false_iff.2 h1, hj]; simp
theorem isSheet_eq (l : List S106) (hl : l.length ≤ 1048576) (k : Nat) (hk : fuelH 0 l.length ≤ k) : impl_IsSheet.f k l = some (SheetB l) := by
  unfold impl_IsSheet.f SheetB
  by_cases h : l.length ≤ 60
  · have := implSheet_loop l hl l.length k 0 (by omega) hk
    rw [List.drop_zero, List.take_zero] at this
    rw [if_neg (by omega), decide_eq_true h, Bool.and_true]
    exact this
  · rw [if_pos (by omega), decide_eq_false h, Bool.and_false]

theorem rdB_get (l : List ByteArray) (i : Nat) (h : i < l.length) : rdOf ByteArray.empty l (i : Int) = l[i] := by
  unfold rdOf; rw [Int.toNat_natCast, List.getD_eq_getElem?_getD, List.getElem?_eq_getElem h]; rfl
/-- the bytes of a string -/
abbrev cs (s : ByteArray) : List Int := bytesOf s
theorem cs_length (s : ByteArray) : (cs s).length = s.size := bytesOf_length s
theorem bt_get (s : ByteArray) (i : Nat) (h : i < s.size) : bt s (i : Int) = (cs s)[i]'(by rw [cs_length]; exact h) := by
  rw [← rd_bytesOf, rd_get _ _ (by rw [bytesOf_length]; exact h)]
theorem eqStrings_loop (l : List ByteArray) (hl : l.length ≤ 1048576) (d : Nat) : ∀ (k i : Nat), i + d = l.length → d < k → laws_eqStringS.l0 k l l i = some true := by
  induction d with
  | zero =>
    intro k i hi hk
    obtain ⟨k, rfl⟩ : ∃ j, k = j + 1 := ⟨k - 1, by omega⟩
    rw [laws_eqStringS.l0, if_neg (by omega)]
  | succ d ih =>
    intro k i hi hk
    obtain ⟨k, rfl⟩ : ∃ j, k = j + 1 := ⟨k - 1, by omega⟩
    rw [laws_eqStringS.l0, if_pos (by omega), if_pos (by omega), if_pos (by omega), if_pos rfl, w64 (by omega)]
    exact ih k (i + 1) (by omega) (by omega)
theorem eqStrings_self (l : List ByteArray) (hl : l.length ≤ 1048576) (k : Nat) (hk : l.length < k) : laws_eqStringS.f k l l = some true := by
  unfold laws_eqStringS.f
  rw [if_pos rfl]
  exact eqStrings_loop l hl l.length k 0 (by omega) hk

/-- the marks' texts: what counts is that there is one for each number -/
def mtext (n : Int) : ByteArray := (laws_markText.f 100 n).getD ByteArray.empty
theorem markText_loop (d : Nat) : ∀ (k : Nat) (n : Int) (s : ByteArray), 0 ≤ n → n < 10 ^ d → n ≤ 1099511627776 → d < k → s.size + d ≤ 1000 → ∃ t, laws_markText.l0 k n s = some t := by
  induction d with
  | zero =>
    intro k n s h0 h1 h2 hk hs
    obtain ⟨k, rfl⟩ : ∃ j, k = j + 1 := ⟨k - 1, by omega⟩
    simp at h1
    rw [laws_markText.l0, if_neg (by omega), if_pos (by omega)]
    exact ⟨_, rfl⟩
  | succ d ih =>
    intro k n s h0 h1 h2 hk hs
    obtain ⟨k, rfl⟩ : ∃ j, k = j + 1 := ⟨k - 1, by omega⟩
    by_cases h : n > 0
    · rw [laws_markText.l0, if_pos h]
      simp only [Option.bind_some]
      rw [if_pos (by rw [strOfNums_size]; simp; omega)]
      have h10 : Int.tdiv n 10 = n / 10 := Int.tdiv_eq_ediv_of_nonneg h0
      have hd : n / 10 < 10 ^ d := by
        rw [Int.pow_succ] at h1
        exact Int.ediv_lt_of_lt_mul (by omega) (by omega)
      rw [h10, w64 (x := n / 10) (by omega)]
      exact ih k (n / 10) _ (by omega) hd (by omega) (by omega) (by rw [ByteArray.size_append, strOfNums_size]; simp; omega)
    · rw [laws_markText.l0, if_neg h, if_pos (by omega)]
      exact ⟨_, rfl⟩
theorem markText_eq (n : Int) (h0 : 0 ≤ n) (h1 : n ≤ 1099511627776) (k : Nat) (hk : 100 ≤ k) : laws_markText.f k n = some (mtext n) := by
  have h : ∃ t, laws_markText.f 100 n = some t := by
    unfold laws_markText.f
    by_cases h : n ≤ 0
    · rw [if_pos h]; exact ⟨_, rfl⟩
    · rw [if_neg h]
      exact markText_loop 13 100 n _ h0 (by omega) h1 (by omega) (by decide)
  obtain ⟨t, ht⟩ := h
  have e : mtext n = t := by unfold mtext; rw [ht]; rfl
  rw [e]
  exact at_rounds (g := fun k => laws_markText.f k n) (fun k => laws_markText.mono n k) hk ht
def upS (n : Int) : Nat → List ByteArray
  | 0 => []
  | d + 1 => mtext n :: upS (n + 1) d
theorem upS_length (n : Int) (d : Nat) : (upS n d).length = d := by
  induction d generalizing n with
  | zero => rfl
  | succ d ih => simp [upS, ih]
theorem markStrings_loop (d : Nat) : ∀ (k : Nat) (p l : List ByteArray) (n : Int), l.length = d → d + 100 < k → p.length + l.length ≤ 1048576 → 1 ≤ n ∧ n ≤ 10000000 + p.length →
    laws_markStringS.l0 k (p ++ l) n p.length = some (n + d, p ++ upS n d) := by
  induction d with
  | zero =>
    intro k p l n hi hk hl hn
    obtain ⟨k, rfl⟩ : ∃ j, k = j + 1 := ⟨k - 1, by omega⟩
    obtain rfl := List.length_eq_zero_iff.1 hi
    rw [laws_markStringS.l0, if_neg (by simp)]
    simp [upS]
  | succ d ih =>
    intro k p l n hi hk hl hn
    obtain ⟨k, rfl⟩ : ∃ j, k = j + 1 := ⟨k - 1, by omega⟩
    obtain ⟨x, r, rfl⟩ : ∃ x r, l = x :: r := by
      cases l with
      | nil => simp at hi
      | cons x r => exact ⟨x, r, rfl⟩
    simp only [List.length_cons] at hi hl
    rw [laws_markStringS.l0, if_pos (by simp; omega), markText_eq n (by omega) (by omega) k (by omega)]
    simp only [Option.bind_some]
    rw [if_pos (by omega), Int.toNat_natCast, List.set_append_right _ _ (by omega), Nat.sub_self, List.set_cons_zero, w64 (by omega), w64 (by omega)]
    have := ih k (p ++ [mtext n]) r (n + 1) (by omega) (by omega) (by simp; omega) (by simp; omega)
    rw [show p ++ mtext n :: r = (p ++ [mtext n]) ++ r by simp, show ((p.length : Int) + 1) = (((p ++ [mtext n]).length : Nat) : Int) by simp, this, upS]
    simp; omega
theorem markStrings_eq (l : List ByteArray) (hl : l.length ≤ 1048576) (n : Int) (hn : 1 ≤ n ∧ n ≤ 10000000) (k : Nat) (hk : l.length + 100 < k) : laws_markStringS.f k l n = some (n + (l.length : Int), upS n l.length) := by
  unfold laws_markStringS.f
  have := markStrings_loop l.length k [] l n rfl hk (by simpa using hl) (by simp; omega)
  simpa using this
theorem heldStrings_loop (d : Nat) : ∀ (k : Nat) (p : List ByteArray) (n : Int), d + 100 < k → p.length + d ≤ 1048576 → 1 ≤ n ∧ n ≤ 10000000 + p.length →
    laws_heldStringS.l0 k (p ++ upS n d) n p.length = some (n + d) := by
  induction d with
  | zero =>
    intro k p n hk hl hn
    obtain ⟨k, rfl⟩ : ∃ j, k = j + 1 := ⟨k - 1, by omega⟩
    rw [laws_heldStringS.l0, if_neg (by simp [upS])]; simp
  | succ d ih =>
    intro k p n hk hl hn
    obtain ⟨k, rfl⟩ : ∃ j, k = j + 1 := ⟨k - 1, by omega⟩
    rw [upS, laws_heldStringS.l0, if_pos (by simp; omega), if_pos (by omega), markText_eq n (by omega) (by omega) k (by omega), rdB_get _ p.length (by simp), List.getElem_append_right (by omega)]
    simp only [Option.bind_some, Nat.sub_self, List.getElem_cons_zero, if_true]
    rw [w64 (by omega), w64 (by omega)]
    have := ih k (p ++ [mtext n]) (n + 1) (by omega) (by simp; omega) (by simp; omega)
    rw [show p ++ mtext n :: upS (n + 1) d = (p ++ [mtext n]) ++ upS (n + 1) d by simp, show ((p.length : Int) + 1) = (((p ++ [mtext n]).length : Nat) : Int) by simp, this]
    congr 1; omega
theorem heldStrings_eq (d : Nat) (hl : d ≤ 1048576) (n : Int) (hn : 1 ≤ n ∧ n ≤ 10000000) (k : Nat) (hk : d + 100 < k) : laws_heldStringS.f k (upS n d) n = some (n + (d : Int)) := by
  unfold laws_heldStringS.f
  have := heldStrings_loop d k [] n hk (by simpa using hl) (by simp; omega)
  simpa using this

theorem w_succ (c : Nat) (h : c ≤ 1000000) : wrap64 ((c : Int) + 1) = ((c + 1 : Nat) : Int) := by rw [w64 (by omega)]; omega
theorem w_pred (n : Nat) (h : n ≤ 1000000) : wrap64 ((n : Int) - 1) = (n : Int) - 1 := w64 (by omega)
/-- rows that a function draws -/
def dRow (f : Nat → Int) (n : Nat) : ByteArray := strOfNums ((List.range n).map f)
def dRows (g : Nat → Nat → Int) (R n : Nat) : List ByteArray := (List.range R).map fun r => dRow (g r) n
theorem strN_append (a b : List Int) : strOfNums (a ++ b) = strOfNums a ++ strOfNums b := by
  unfold strOfNums
  apply ByteArray.ext
  simp
theorem dRow_succ (f : Nat → Int) (n : Nat) : dRow f (n + 1) = dRow f n ++ strOfNums [f n] := by
  unfold dRow
  rw [List.range_succ, List.map_append, strN_append]
  rfl
theorem dRow_zero (f : Nat → Int) : dRow f 0 = ⟨#[]⟩ := rfl
theorem dRow_size (f : Nat → Int) (n : Nat) : (dRow f n).size = n := by
  unfold dRow strOfNums
  show (List.map _ ((List.range n).map f)).toArray.size = n
  simp
theorem dRows_succ (g : Nat → Nat → Int) (R n : Nat) : dRows g (R + 1) n = dRows g R n ++ [dRow (g R) n] := by
  unfold dRows
  rw [List.range_succ, List.map_append]
  rfl
theorem dRows_length (g : Nat → Nat → Int) (R n : Nat) : (dRows g R n).length = R := by simp [dRows]
theorem dRow_congr (f h : Nat → Int) (n : Nat) (e : ∀ c, c < n → f c = h c) : dRow f n = dRow h n := by
  unfold dRow
  congr 1
  apply List.map_congr_left
  intro c hc
  exact e c (List.mem_range.1 hc)
theorem dRows_congr (g h : Nat → Nat → Int) (R n : Nat) (e : ∀ r c, r < R → c < n → g r c = h r c) : dRows g R n = dRows h R n := by
  unfold dRows
  apply List.map_congr_left
  intro r hr
  exact dRow_congr _ _ _ (fun c hc => e r c (List.mem_range.1 hr) hc)
/-- one character of a string -/
theorem extract_one (s : ByteArray) (i : Nat) (h : i < s.size) : s.extract i (i + 1) = strOfNums [bt s i] := by
  rw [bt_get s i h]
  have hd : i < s.data.toList.length := by rw [data_length]; exact h
  apply ByteArray.ext
  apply Array.ext'
  unfold strOfNums cs bytesOf
  simp only [ByteArray.data_extract, Array.toList_extract, List.extract_eq_take_drop]
  rw [show i + 1 - i = 1 by omega, List.drop_eq_getElem_cons hd]
  simp
theorem str1_size (x : Int) : (strOfNums [x]).size = 1 := rfl
theorem drawn_l1 (F : Int → Int → Option Int) (r n : Nat) (f : Nat → Int) (hF : ∀ c, c < n → F (r : Int) (c : Int) = some (f c)) (hn : n ≤ 100000) (hr : r ≤ 100000) (x0 x1 : Int) (acc : List ByteArray) (ha : acc.length ≤ 100000) (d : Nat) :
    ∀ (k c : Nat), c + d = n → d < k → impl_drawn.l1 F k x0 x1 acc r ((List.range c).map f ++ List.replicate d 0) n c = impl_drawn.l0 F (k - d - 1) x0 x1 (acc ++ [dRow f n]) ((r + 1 : Nat) : Int) := by
  induction d with
  | zero =>
    intro k c hc hk
    obtain ⟨k, rfl⟩ : ∃ j, k = j + 1 := ⟨k - 1, by omega⟩
    rw [impl_drawn.l1, if_neg (by omega), if_pos (by omega), w64 (by omega), List.replicate_zero, List.append_nil, show c = n by omega]
    rfl
  | succ d ih =>
    intro k c hc hk
    obtain ⟨k, rfl⟩ : ∃ j, k = j + 1 := ⟨k - 1, by omega⟩
    rw [impl_drawn.l1, if_pos (by omega), hF c (by omega)]
    simp only [Option.bind_some]
    have hl : ((List.range c).map f).length = c := by simp
    rw [if_pos (by omega), if_pos (by rw [List.length_append, hl, List.length_replicate]; omega), Int.toNat_natCast, List.set_append_right _ _ (by omega), hl, Nat.sub_self, List.replicate_succ, List.set_cons_zero, w64 (by omega),
      show (List.range c).map f ++ f c :: List.replicate d 0 = (List.range (c + 1)).map f ++ List.replicate d 0 by rw [List.range_succ, List.map_append, List.append_assoc]; rfl]
    have := ih k (c + 1) (by omega) (by omega)
    rw [show k + 1 - (d + 1) - 1 = k - d - 1 by omega]
    exact this
theorem drawn_l0 (F : Int → Int → Option Int) (R n : Nat) (hR : R ≤ 100000) (hn : n ≤ 100000) (g : Nat → Nat → Int) (hF : ∀ r c, r < R → c < n → F (r : Int) (c : Int) = some (g r c)) (d : Nat) :
    ∀ (k r : Nat), r + d = R → d * (n + 2) < k → impl_drawn.l0 F k R n (dRows g r n) r = some (dRows g R n) := by
  induction d with
  | zero =>
    intro k r hr hk
    obtain ⟨k, rfl⟩ : ∃ j, k = j + 1 := ⟨k - 1, by omega⟩
    rw [impl_drawn.l0, if_neg (by omega), show r = R by omega]
  | succ d ih =>
    intro k r hr hk
    obtain ⟨k, rfl⟩ : ∃ j, k = j + 1 := ⟨k - 1, by omega⟩
    rw [Nat.succ_mul] at hk
    rw [impl_drawn.l0, if_pos (by omega), if_pos (by omega), if_pos (by omega)]
    simp only [Option.bind_some, List.length_replicate, Int.toNat_natCast]
    have h1 := drawn_l1 F r n (g r) (fun c hc => hF r c (by omega) hc) hn (by omega) R n (dRows g r n) (by rw [dRows_length]; omega) n k 0 (by omega) (by omega)
    rw [show ((0 : Nat) : Int) = 0 from rfl] at h1
    rw [show List.replicate n (0 : Int) = (List.range 0).map (g r) ++ List.replicate n 0 from rfl, h1, ← dRows_succ]
    exact ih (k - n - 1) (r + 1) (by omega) (by omega)
theorem drawn_eq (F : Int → Int → Option Int) (R n : Nat) (hR : R ≤ 100) (hn : n ≤ 100) (g : Nat → Nat → Int) (hF : ∀ r c, r < R → c < n → F (r : Int) (c : Int) = some (g r c)) (k : Nat) (hk : 10200 < k) :
    impl_drawnW.f k R n F = some (dRows g R n) := by
  unfold impl_drawnW.f impl_drawn.f
  have h := drawn_l0 F R n (by omega) (by omega) g hF R k 0 (by omega) (by
    have : R * (n + 2) ≤ 100 * 102 := Nat.mul_le_mul hR (by omega)
    omega)
  exact h

theorem chk_holes (l : List S106) : ∀ p, chkSheet p l = true → ∀ x ∈ l, HoleOK x = true := by
  induction l with
  | nil => intro p _ x hx; simp at hx
  | cons y r ih =>
    intro p h x hx
    unfold chkSheet at h
    simp only [Bool.and_eq_true] at h
    rcases List.mem_cons.1 hx with e | e
    · rw [e]; exact h.1.1.1
    · exact ih _ h.2 x e
theorem sheet_holes (l : List S106) (h : SheetB l = true) : (∀ x ∈ l, 0 ≤ x.f1 ∧ x.f1 < x.f2 ∧ x.f2 ≤ 2000) ∧ l.length ≤ 60 := by
  unfold SheetB at h
  simp only [Bool.and_eq_true, decide_eq_true_eq] at h
  refine ⟨fun x hx => ?_, h.2⟩
  have := chk_holes l [] h.1 x hx
  unfold HoleOK at this
  simp only [decide_eq_true_eq] at this
  exact ⟨this.2.2.1, this.2.2.2.1, this.2.2.2.2⟩
/-- is a track open at a row -/
def isAt (r c : Int) (x : S106) : Bool := decide (x.f0 = c ∧ x.f1 ≤ r ∧ r < x.f2)
def soG (l : List S106) (r c : Nat) : Int := if l.any (isAt (r : Int) (c : Int)) = true then 111 else 46
theorem closure_loop (l : List S106) (hl : l.length ≤ 1000) (r c : Int) (d : Nat) : ∀ (k i : Nat), i + d = l.length → d < k →
    impl_ScanOf_1.l0 k r c l l.length i = some (if (l.drop i).any (isAt r c) = true then 111 else 46) := by
  induction d with
  | zero =>
    intro k i hi hk
    obtain ⟨k, rfl⟩ : ∃ j, k = j + 1 := ⟨k - 1, by omega⟩
    rw [impl_ScanOf_1.l0, if_neg (by omega), List.drop_of_length_le (by omega)]
    rfl
  | succ d ih =>
    intro k i hi hk
    obtain ⟨k, rfl⟩ : ∃ j, k = j + 1 := ⟨k - 1, by omega⟩
    have e := ih k (i + 1) (by omega) (by omega)
    have hi' : i < l.length := by omega
    have hk1 : wrap64 ((i : Int) + 1) = ((i + 1 : Nat) : Int) := w_succ i (by omega)
    rw [impl_ScanOf_1.l0, if_pos (by omega), if_pos (by omega), if_pos (by omega), rdH_get l i hi', hk1, e, drop_get l i hi', List.any_cons]
    clear e hk1
    generalize l[i] = x
    unfold impl_isOpen.f isAt
    by_cases h1 : x.f0 = c
    · rw [if_pos h1]
      by_cases h2 : x.f1 ≤ r
      · rw [if_pos h2]
        simp only [Option.bind_some, decide_eq_true_eq]
        by_cases h3 : r < x.f2
        · rw [if_pos h3, decide_eq_true (show x.f0 = c ∧ x.f1 ≤ r ∧ r < x.f2 from ⟨h1, h2, h3⟩)]
          rfl
        · rw [if_neg h3, decide_eq_false (show ¬ (x.f0 = c ∧ x.f1 ≤ r ∧ r < x.f2) from fun h => h3 h.2.2), Bool.false_or]
      · rw [if_neg h2, decide_eq_false (show ¬ (x.f0 = c ∧ x.f1 ≤ r ∧ r < x.f2) from fun h => h2 h.2.1), Bool.false_or]
        rfl
    · rw [if_neg h1, decide_eq_false (show ¬ (x.f0 = c ∧ x.f1 ≤ r ∧ r < x.f2) from fun h => h1 h.1), Bool.false_or]
theorem closure_eq (l : List S106) (hl : l.length ≤ 1000) (r c : Nat) (k : Nat) (hk : l.length < k) : impl_ScanOf_1.f k (r : Int) (c : Int) l = some (soG l r c) := by
  unfold impl_ScanOf_1.f soG
  have := closure_loop l hl r c l.length k 0 (by omega) hk
  exact this
theorem put_loop (l : List Int) (hl : l.length ≤ 1000) (n : Int) (d : Nat) : ∀ (k i : Nat), i + d = l.length → d < k →
    ∃ ys, spec_l1Put.l0 k l n i = some ys ∧ ys.length ≤ l.length + 1 ∧ ∀ t, t ∈ ys ↔ t ∈ l ∨ t = n := by
  induction d with
  | zero =>
    intro k i hi hk
    obtain ⟨k, rfl⟩ : ∃ j, k = j + 1 := ⟨k - 1, by omega⟩
    rw [spec_l1Put.l0, if_neg (by omega)]
    simp only [Option.bind_some, Int.toNat_natCast, List.nil_append, List.length_nil, Nat.zero_add]
    have e1 : (l.take i).length = i := by rw [List.length_take]; omega
    have e2 : (l.drop i).length = 0 := by rw [List.length_drop]; omega
    rw [if_pos (by omega), if_pos (by omega), if_pos (by omega), if_pos (by omega)]
    simp only [List.length_append, List.length_singleton, e1, e2]
    rw [if_pos (by omega)]
    refine ⟨_, rfl, by simp only [List.length_append, List.length_singleton, e1, e2]; omega, fun t => ?_⟩
    have hm : t ∈ l ↔ t ∈ l.take i ∨ t ∈ l.drop i := by rw [← List.mem_append, List.take_append_drop]
    rw [hm]
    simp only [List.mem_append, List.mem_singleton]
    constructor
    · rintro ((h | h) | h)
      · exact .inl (.inl h)
      · exact .inr h
      · exact .inl (.inr h)
    · rintro ((h | h) | h)
      · exact .inl (.inl h)
      · exact .inr h
      · exact .inl (.inr h)
  | succ d ih =>
    intro k i hi hk
    obtain ⟨k, rfl⟩ : ∃ j, k = j + 1 := ⟨k - 1, by omega⟩
    have hi' : i < l.length := by omega
    have e := ih k (i + 1) (by omega) (by omega)
    have e1 : (l.take i).length = i := by rw [List.length_take]; omega
    have e2 : (l.drop i).length = l.length - i := by rw [List.length_drop]
    have hm : ∀ t, t ∈ l ↔ t ∈ l.take i ∨ t ∈ l.drop i := fun t => by rw [← List.mem_append, List.take_append_drop]
    rw [spec_l1Put.l0, if_pos (by omega), if_pos (by omega), rd_get l i hi', w_succ i (by omega)]
    by_cases h1 : l[i] < n
    · rw [if_pos h1]; exact e
    · rw [if_neg h1]
      by_cases h2 : l[i] = n
      · rw [if_pos h2]
        refine ⟨l, rfl, by omega, fun t => ⟨fun h => .inl h, ?_⟩⟩
        rintro (h | h)
        · exact h
        · rw [h, ← h2]; exact List.getElem_mem hi'
      · rw [if_neg h2]
        simp only [Option.bind_some, Int.toNat_natCast, List.nil_append, List.length_nil, Nat.zero_add]
        rw [if_pos (by omega), if_pos (by omega), if_pos (by omega)]
        simp only [List.length_append, List.length_singleton, e1, e2]
        rw [if_pos (by omega)]
        refine ⟨_, rfl, by simp only [List.length_append, List.length_singleton, e1, e2]; omega, fun t => ?_⟩
        rw [hm]
        simp only [List.mem_append, List.mem_singleton]
        constructor
        · rintro ((h | h) | h)
          · exact .inl (.inl h)
          · exact .inr h
          · exact .inl (.inr h)
        · rintro ((h | h) | h)
          · exact .inl (.inl h)
          · exact .inr h
          · exact .inl (.inr h)
theorem put_eq (l : List Int) (hl : l.length ≤ 1000) (n : Int) (k : Nat) (hk : l.length < k) :
    ∃ ys, spec_l1Put.f k l n = some ys ∧ ys.length ≤ l.length + 1 ∧ ∀ t, t ∈ ys ↔ t ∈ l ∨ t = n := by
  unfold spec_l1Put.f
  exact put_loop l hl n l.length k 0 (by omega) hk
theorem has_loop (l : List Int) (hl : l.length ≤ 1000) (n : Int) (d : Nat) : ∀ (k i : Nat), i + d = l.length → d < k → spec_l1Has.l0 k n l l.length i = some (decide (n ∈ l.drop i)) := by
  induction d with
  | zero =>
    intro k i hi hk
    obtain ⟨k, rfl⟩ : ∃ j, k = j + 1 := ⟨k - 1, by omega⟩
    rw [spec_l1Has.l0, if_neg (by omega), List.drop_of_length_le (by omega)]
    simp
  | succ d ih =>
    intro k i hi hk
    obtain ⟨k, rfl⟩ : ∃ j, k = j + 1 := ⟨k - 1, by omega⟩
    have hi' : i < l.length := by omega
    have e := ih k (i + 1) (by omega) (by omega)
    rw [spec_l1Has.l0, if_pos (by omega), if_pos (by omega), if_pos (by omega), rd_get l i hi', w_succ i (by omega), e, drop_get l i hi']
    by_cases h : l[i] = n
    · rw [if_pos h]
      congr 1
      rw [eq_comm, decide_eq_true_eq]
      rw [h]; exact List.mem_cons_self
    · rw [if_neg h]
      congr 1
      rw [decide_eq_decide, List.mem_cons]
      exact ⟨fun h' => .inr h', fun h' => h'.elim (fun e => absurd e.symm h) id⟩
theorem has_eq (l : List Int) (hl : l.length ≤ 1000) (n : Int) (k : Nat) (hk : l.length < k) : spec_l1Has.f k l n = some (decide (n ∈ l)) := by
  unfold spec_l1Has.f
  have := has_loop l hl n l.length k 0 (by omega) hk
  exact this
theorem open_loop (l : List S106) (hl : l.length ≤ 60) (hh : ∀ x ∈ l, 0 ≤ x.f1 ∧ x.f1 < x.f2 ∧ x.f2 ≤ 2000) (r : Int) (d : Nat) : ∀ (k i : Nat) (xs : List Int), i + d = l.length → d + 500 < k → xs.length ≤ i →
    (∃ ys, spec_shOpen.l0 k r xs l l.length i = some ys ∧ ys.length ≤ l.length ∧ ∀ c, c ∈ ys ↔ c ∈ xs ∨ (l.drop i).any (isAt r c) = true) := by
  induction d with
  | zero =>
    intro k i xs hi hk hx
    obtain ⟨k, rfl⟩ : ∃ j, k = j + 1 := ⟨k - 1, by omega⟩
    rw [spec_shOpen.l0, if_neg (by omega)]
    refine ⟨xs, rfl, by omega, fun c => ?_⟩
    rw [List.drop_of_length_le (by omega)]
    simp
  | succ d ih =>
    intro k i xs hi hk hx
    obtain ⟨k, rfl⟩ : ∃ j, k = j + 1 := ⟨k - 1, by omega⟩
    have hi' : i < l.length := by omega
    obtain ⟨b1, b2, b3⟩ := hh _ (List.getElem_mem hi')
    have e1 := ih k (i + 1) xs (by omega) (by omega) (by omega)
    obtain ⟨ys, hy, hyl, hym⟩ := put_eq xs (by omega) (l[i].f0) k (by omega)
    have e2 := ih k (i + 1) ys (by omega) (by omega) (by omega)
    have wp : wrap64 (l[i].f2 - 1) = l[i].f2 - 1 := w64 (by omega)
    rw [spec_shOpen.l0, if_pos (by omega), if_pos (by omega), if_pos (by omega), rdH_get l i hi', wp, in_eq, w_succ i (by omega), drop_get l i hi']
    simp only [Option.bind_some, decide_eq_true_eq]
    clear wp
    by_cases h : l[i].f1 ≤ r ∧ r ≤ l[i].f2 - 1
    · rw [if_pos h, hy]
      simp only [Option.bind_some]
      obtain ⟨zs, hz, hzl, hzm⟩ := e2
      refine ⟨zs, hz, hzl, fun c => ?_⟩
      rw [hzm, hym, List.any_cons]
      have hc : isAt r c l[i] = decide (l[i].f0 = c) := by
        unfold isAt
        rw [decide_eq_decide]
        exact ⟨fun h' => h'.1, fun h' => ⟨h', h.1, by have := h.2; omega⟩⟩
      rw [hc, Bool.or_eq_true, decide_eq_true_eq]
      constructor
      · rintro ((q | q) | q)
        · exact .inl q
        · exact .inr (.inl q.symm)
        · exact .inr (.inr q)
      · rintro (q | q | q)
        · exact .inl (.inl q)
        · exact .inl (.inr q.symm)
        · exact .inr q
    · rw [if_neg h]
      obtain ⟨zs, hz, hzl, hzm⟩ := e1
      refine ⟨zs, hz, hzl, fun c => ?_⟩
      have hc : isAt r c l[i] = false := by
        unfold isAt
        rw [decide_eq_false_iff_not]
        exact fun h' => h ⟨h'.2.1, by have := h'.2.2; omega⟩
      rw [hzm, List.any_cons, hc, Bool.false_or]
theorem open_eq (l : List S106) (hl : l.length ≤ 60) (hh : ∀ x ∈ l, 0 ≤ x.f1 ∧ x.f1 < x.f2 ∧ x.f2 ≤ 2000) (r : Int) (k : Nat) (hk : 1000 < k) :
    ∃ ys, spec_shOpen.f k l r = some ys ∧ ys.length ≤ l.length ∧ ∀ c, c ∈ ys ↔ l.any (isAt r c) = true := by
  obtain ⟨ys, h1, h2, h3⟩ := open_loop l hl hh r l.length k 0 [] (by omega) (by omega) (by simp)
  refine ⟨ys, h1, h2, fun c => ?_⟩
  rw [h3]
  simp
theorem str111 : strOfNums [(111 : Int)] = (⟨#[111]⟩ : ByteArray) := rfl
theorem str46 : strOfNums [(46 : Int)] = (⟨#[46]⟩ : ByteArray) := rfl
theorem soRow (l : List S106) (ys : List Int) (hy : ys.length ≤ 60) (R n r : Nat) (hn : n ≤ 1000) (hr : r ≤ 1000) (hm : ∀ c, c ∈ ys ↔ l.any (isAt (r : Int) c) = true) (acc : List ByteArray) (hacc : acc.length ≤ 1000) (d : Nat) :
    ∀ (k c : Nat), c + d = n → d + 200 < k → spec_scMake.l1 k l n R acc r ys (dRow (soG l r) c) c = spec_scMake.l0 (k - d - 1) l n R (acc ++ [dRow (soG l r) n]) ((r + 1 : Nat) : Int) := by
  induction d with
  | zero =>
    intro k c hc hk
    obtain ⟨k, rfl⟩ : ∃ j, k = j + 1 := ⟨k - 1, by omega⟩
    rw [spec_scMake.l1, if_neg (by omega), if_pos (by omega), w64 (by omega), show c = n by omega]
    rfl
  | succ d ih =>
    intro k c hc hk
    obtain ⟨k, rfl⟩ : ∃ j, k = j + 1 := ⟨k - 1, by omega⟩
    have e := ih k (c + 1) (by omega) (by omega)
    rw [dRow_succ] at e
    have hk' : k + 1 - (d + 1) - 1 = k - d - 1 := by omega
    have hlt : (c : Int) < (n : Int) := by omega
    have h3 : c + 1 ≤ 9223372036854775807 := by omega
    have hh := has_eq ys (by omega) (c : Int) k (by omega)
    have ec := w_succ c (by omega)
    rw [hk', ← e, spec_scMake.l1, if_pos hlt, hh]
    clear e ih
    simp only [Option.bind_some, decide_eq_true_eq]
    rw [ec, dRow_size, if_pos h3, if_pos h3]
    by_cases hA : (c : Int) ∈ ys
    · have hG : soG l r c = 111 := by unfold soG; rw [if_pos ((hm _).1 hA)]
      rw [if_pos hA, hG, str111]
    · have hG : soG l r c = 46 := by unfold soG; rw [if_neg (fun h => hA ((hm _).2 h))]
      rw [if_neg hA, hG, str46]
theorem soRows (l : List S106) (hl : l.length ≤ 60) (hh : ∀ x ∈ l, 0 ≤ x.f1 ∧ x.f1 < x.f2 ∧ x.f2 ≤ 2000) (R n : Nat) (hn : n ≤ 1000) (hR : R ≤ 1000) (d : Nat) :
    ∀ (k r : Nat), r + d = R → d * (n + 2) + 1200 < k → spec_scMake.l0 k l n R (dRows (soG l) r n) r = some (dRows (soG l) R n) := by
  induction d with
  | zero =>
    intro k r hr hk
    obtain ⟨k, rfl⟩ : ∃ j, k = j + 1 := ⟨k - 1, by omega⟩
    rw [spec_scMake.l0, if_neg (by omega), show r = R by omega]
  | succ d ih =>
    intro k r hr hk
    obtain ⟨k, rfl⟩ : ∃ j, k = j + 1 := ⟨k - 1, by omega⟩
    rw [Nat.succ_mul] at hk
    obtain ⟨ys, h1, h2, h3⟩ := open_eq l hl hh (r : Int) k (by omega)
    rw [spec_scMake.l0, if_pos (by omega), h1]
    simp only [Option.bind_some]
    have e := soRow l ys (by omega) R n r hn (by omega) h3 (dRows (soG l) r n) (by rw [dRows_length]; omega) n k 0 (by omega) (by omega)
    rw [dRow_zero, show ((0 : Nat) : Int) = 0 from rfl] at e
    rw [e, ← dRows_succ]
    exact ih (k - n - 1) (r + 1) (by omega) (by omega)
def soGood (l : List S106) (w r : Int) : Bool := SheetB l && decide ((1 ≤ w ∧ w ≤ 20) ∧ (1 ≤ r ∧ r ≤ 60))
def soOut (l : List S106) (w r : Int) : List ByteArray × Bool := if soGood l w r = true then (dRows (soG l) r.toNat w.toNat, true) else ([], false)
theorem both (l : List S106) (w r : Int) (hl : l.length ≤ 1048576) (k : Nat) (hk : fuelH 0 l.length + 20000 ≤ k) : spec_ScanOf.f k l w r = some (soOut l w r) ∧ impl_ScanOf.f k l w r = some (soOut l w r) := by
  unfold spec_ScanOf.f impl_ScanOf.f soOut soGood
  rw [shGood_eq l hl k (by omega), isSheet_eq l hl k (by omega)]
  simp only [Option.bind_some]
  cases hg : SheetB l with
  | false =>
    simp only [Bool.false_and, Bool.false_eq_true, if_false]
    exact ⟨trivial, trivial⟩
  | true =>
    obtain ⟨hh, hn⟩ := sheet_holes l hg
    simp only [if_true, Bool.true_and, decide_eq_true_eq]
    rw [in_eq, in_eq]
    simp only [Option.bind_some, decide_eq_true_eq]
    by_cases c1 : 1 ≤ w ∧ w ≤ 20
    · rw [if_pos c1, if_neg (show ¬ w < 1 by omega), if_neg (show ¬ w > 20 by omega)]
      by_cases c2 : 1 ≤ r ∧ r ≤ 60
      · obtain ⟨W, rfl⟩ : ∃ n : Nat, w = n := ⟨w.toNat, by omega⟩
        obtain ⟨R, rfl⟩ : ∃ n : Nat, r = n := ⟨r.toNat, by omega⟩
        rw [if_pos c2, if_neg (show ¬ (R : Int) < 1 by omega), if_neg (show ¬ (R : Int) > 60 by omega), if_pos ⟨c1, c2⟩, Int.toNat_natCast, Int.toNat_natCast]
        refine ⟨?_, ?_⟩
        · unfold spec_scMake.f
          have e := soRows l hn hh R W (by omega) (by omega) R k 0 (by omega) (by
            have : R * (W + 2) ≤ 60 * 22 := Nat.mul_le_mul (by omega) (by omega)
            omega)
          have e' : spec_scMake.l0 k l W R ([] : List ByteArray) 0 = some (dRows (soG l) R W) := e
          rw [e']
          rfl
        · rw [drawn_eq _ R W (by omega) (by omega) (soG l) (fun a b _ _ => closure_eq l (by omega) a b k (by omega)) k (by omega)]
          rfl
      · rw [if_neg c2, if_neg (show ¬ ((1 ≤ w ∧ w ≤ 20) ∧ (1 ≤ r ∧ r ≤ 60)) from fun h => c2 h.2)]
        refine ⟨rfl, ?_⟩
        by_cases h : r < 1
        · rw [if_pos h]
        · rw [if_neg h, if_pos (by omega)]
    · rw [if_neg c1, if_neg (show ¬ ((1 ≤ w ∧ w ≤ 20) ∧ (1 ≤ r ∧ r ≤ 60)) from fun h => c1 h.1)]
      refine ⟨rfl, ?_⟩
      by_cases h : w < 1
      · rw [if_pos h]
      · rw [if_neg h, if_pos (by omega)]
theorem deep_eq (l : List S108) (hl : l.length ≤ 1048576) (p q : Int) (r : List ByteArray) (b : Bool) (hr : r.length ≤ 1048576) (K : Nat) (hi : ∀ k, K ≤ k → impl_ScanOf.f k (l.map toH) p q = some (r, b)) (k : Nat) (hk : K + l.length + r.length + 200 ≤ k) :
    laws_FnExactScanOf.j0 k l p q r b (l.map toH) r b false = some true := by
  obtain ⟨k, rfl⟩ : ∃ j, k = j + 1 + 1 + 1 := ⟨k - 3, by omega⟩
  have hl' : (l.map toH).length ≤ 1048576 := by simpa using hl
  have hle : (l.map toH).length = l.length := by simp
  rw [laws_FnExactScanOf.j0, if_neg (by decide), toHoles_eq l hl _ (by omega)]
  simp only [Option.bind_some]
  rw [eqHoles_self _ hl' _ (by omega)]
  simp only [Option.bind_some, if_true]
  rw [markHoles_eq _ hl' 1 (by omega) _ (by omega)]
  simp only [Option.bind_some]
  rw [if_neg (by omega), eqStrings_self r hr _ (by omega)]
  simp only [Option.bind_some, if_true, bne_self_eq_false]
  rw [laws_FnExactScanOf.j1, if_neg (by decide), markStrings_eq r hr 1 (by omega) _ (by omega)]
  simp only [Option.bind_some]
  rw [heldStrings_eq r.length hr 1 (by omega) _ (by omega)]
  simp only [Option.bind_some]
  rw [if_neg (by omega), if_pos trivial, toHoles_eq l hl _ (by omega)]
  simp only [Option.bind_some]
  rw [hi _ (by omega)]
  simp only [Option.bind_some]
  rw [eqStrings_self r hr _ (by omega)]
  simp only [Option.bind_some, if_true, bne_self_eq_false]
  rw [laws_FnExactScanOf.j2, if_neg (by decide), heldStrings_eq r.length hr 1 (by omega) _ (by omega)]
  simp only [Option.bind_some]
  rw [if_neg (by omega), if_pos trivial]
theorem out_length (l : List S106) (w r : Int) : (soOut l w r).1.length ≤ 1048576 := by
  unfold soOut
  by_cases h : soGood l w r = true
  · rw [if_pos h, dRows_length]
    unfold soGood at h
    simp only [Bool.and_eq_true, decide_eq_true_eq] at h
    omega
  · rw [if_neg h]; simp
theorem FnExactScanOf (l : List S108) (p q : Int) (hl : l.length ≤ maxLen) (_ : ∀ x ∈ l, (Lit.int .i64 x.f0).wf = true ∧ (Lit.int .i64 x.f1).wf = true ∧ (Lit.int .i64 x.f2).wf = true) (_ : (Lit.int .i64 p).wf = true) (_ : (Lit.int .i64 q).wf = true) :
    ∃ k, laws_FnExactScanOf.f k l p q = some true := by
  have hr := out_length (l.map toH) p q
  refine ⟨(fuelH 0 l.length + 20000) + l.length + (soOut (l.map toH) p q).1.length + 200, ?_⟩
  unfold laws_FnExactScanOf.f
  rw [szHoles_eq l hl]
  simp only [Option.bind_some]
  by_cases h : l.length ≤ 1048576
  · have h' : (l.map toH).length ≤ 1048576 := by simpa using h
    have e : fuelH 0 (l.map toH).length = fuelH 0 l.length := by simp
    have hboth := fun k hk => both (l.map toH) p q h' k hk
    rw [e] at hboth
    generalize soOut (l.map toH) p q = O at hboth hr ⊢
    obtain ⟨o1, o2⟩ := O
    obtain ⟨e1, e2⟩ := hboth ((fuelH 0 l.length + 20000) + l.length + o1.length + 200) (by omega)
    rw [if_pos h, if_neg (by omega), toHoles_eq l h _ (by omega)]
    simp only [Option.bind_some]
    rw [e1, e2]
    simp only [Option.bind_some]
    rw [eqStrings_self o1 hr _ (by omega)]
    simp only [Option.bind_some, if_true, bne_self_eq_false]
    exact deep_eq l h p q o1 o2 hr (fuelH 0 l.length + 20000) (fun k hk => (hboth k hk).2) _ (Nat.le_refl _)
  · rw [if_neg h, if_pos (by omega)]
end Go.Proofs.Ytjogodnkcjhdiaa.Pure
