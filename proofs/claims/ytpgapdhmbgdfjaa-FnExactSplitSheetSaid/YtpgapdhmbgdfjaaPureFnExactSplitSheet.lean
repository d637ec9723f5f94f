/- FnExactSplitSheet: the program's SplitSheet answers as the reference's, in memory of its own, for all slices of holes and numbers. No condition. -/
import Derived.Test.YtpgapdhmbgdfjaaPFnExactSplitSheetx7
namespace Go.Proofs.Ytpgapdhmbgdfjaa.Pure
open Go.RowKit Go.Proofs.Ytpgapdhmbgdfjaa.PFnExactSplitSheet Go.Proofs.YtpgapdhmbgdfjaaW.PrintWords Go.Proofs.YtpgapdhmbgdfjaaW.PrintLast

set_option linter.unusedVariables false
set_option linter.unusedSimpArgs false

theorem w64 {x : Int} (h : -9223372036854775808 ≤ x ∧ x ≤ 9223372036854775807) : wrap64 x = x := by
  unfold wrap64; omega
theorem someF {p : Prop} [Decidable p] (h : ¬ p) : some false = some (decide p) := by rw [decide_eq_false h]
theorem someD {q p : Prop} [Decidable q] [Decidable p] (h : q ↔ p) : some (decide q) = some (decide p) := by rw [decide_eq_decide.2 h]

theorem in_eq (a b c : Int) : spec_l1In.f a b c = some (decide (b ≤ a ∧ a ≤ c)) := by
  unfold spec_l1In.f
  by_cases h : a ≥ b
  · rw [if_pos h]; congr 1; simp [show b ≤ a from h]
  · rw [if_neg h]; congr 1; simp; omega

theorem drop_get {α : Type} (l : List α) (i : Nat) (h : i < l.length) : l.drop i = l[i] :: l.drop (i + 1) := List.drop_eq_getElem_cons h
theorem map_step {α β : Type} (f : α → β) (l : List α) (z : β) (i : Nat) (h : i < l.length) :
    ((l.take i).map f ++ List.replicate (l.length - i) z).set i (f (l[i]'h)) = (l.take (i + 1)).map f ++ List.replicate (l.length - (i + 1)) z := by
  have hl : ((l.take i).map f).length = i := by rw [List.length_map, List.length_take]; omega
  rw [List.set_append_right _ _ (by omega), hl, Nat.sub_self, show l.length - i = (l.length - (i + 1)) + 1 by omega, List.replicate_succ, List.set_cons_zero, List.take_succ_eq_append_getElem h, List.map_append, List.append_assoc]
  rfl
theorem map_length {α β : Type} (f : α → β) (l : List α) (z : β) (i : Nat) (h : i ≤ l.length) : ((l.take i).map f ++ List.replicate (l.length - i) z).length = l.length := by
  simp; omega

theorem rdH_get (l : List S76) (i : Nat) (h : i < l.length) : rd_T76 l (i : Int) = l[i] := by
  unfold rd_T76; rw [Int.toNat_natCast, List.getD_eq_getElem?_getD, List.getElem?_eq_getElem h]; rfl
theorem rdLH_get (l : List S78) (i : Nat) (h : i < l.length) : rd_T78 l (i : Int) = l[i] := by
  unfold rd_T78; rw [Int.toNat_natCast, List.getD_eq_getElem?_getD, List.getElem?_eq_getElem h]; rfl
def toH (x : S78) : S76 := ⟨x.f0, x.f1, x.f2⟩
theorem toHoles_loop (l : List S78) (hl : l.length ≤ 1048576) (d : Nat) : ∀ (k i : Nat), i + d = l.length → d < k →
    laws_toHoleS.l0 k l ((l.take i).map toH ++ List.replicate (l.length - i) z76) i = some (l.map toH) := by
  induction d with
  | zero =>
    intro k i hi hk
    obtain ⟨k, rfl⟩ : ∃ j, k = j + 1 := ⟨k - 1, by omega⟩
    rw [laws_toHoleS.l0, if_neg (by omega), show l.length - i = 0 by omega, List.replicate_zero, List.append_nil, List.take_of_length_le (by omega)]
  | succ d ih =>
    intro k i hi hk
    obtain ⟨k, rfl⟩ : ∃ j, k = j + 1 := ⟨k - 1, by omega⟩
    rw [laws_toHoleS.l0, if_pos (by omega), if_pos (by omega), rdLH_get l i (by omega)]
    unfold laws_toHole.f
    simp only [Option.bind_some]
    rw [map_length _ _ _ _ (by omega), if_pos (by omega), Int.toNat_natCast]
    have := map_step toH l z76 i (by omega)
    unfold toH at this ⊢
    rw [this, w64 (by omega)]
    exact ih k (i + 1) (by omega) (by omega)
theorem toHoles_eq (l : List S78) (hl : l.length ≤ 1048576) (k : Nat) (hk : l.length < k) : laws_toHoleS.f k l = some (l.map toH) := by
  unfold laws_toHoleS.f
  rw [if_pos (by omega), if_pos (by omega), Int.toNat_natCast]
  have := toHoles_loop l hl l.length k 0 (by omega) hk
  simpa using this
theorem eqHoles_loop (l : List S76) (hl : l.length ≤ 1048576) (d : Nat) : ∀ (k i : Nat), i + d = l.length → d < k → laws_eqHoleS.l0 k l l i = some true := by
  induction d with
  | zero =>
    intro k i hi hk
    obtain ⟨k, rfl⟩ : ∃ j, k = j + 1 := ⟨k - 1, by omega⟩
    rw [laws_eqHoleS.l0, if_neg (by omega)]
  | succ d ih =>
    intro k i hi hk
    obtain ⟨k, rfl⟩ : ∃ j, k = j + 1 := ⟨k - 1, by omega⟩
    rw [laws_eqHoleS.l0, if_pos (by omega), if_pos (by omega), if_pos (by omega)]
    unfold laws_eqHole.f
    rw [if_pos rfl, if_pos rfl, if_pos rfl]
    simp only [Option.bind_some, if_true]
    rw [w64 (by omega)]
    exact ih k (i + 1) (by omega) (by omega)
theorem eqHoles_self (l : List S76) (hl : l.length ≤ 1048576) (k : Nat) (hk : l.length < k) : laws_eqHoleS.f k l l = some true := by
  unfold laws_eqHoleS.f
  rw [if_pos rfl]
  exact eqHoles_loop l hl l.length k 0 (by omega) hk

theorem szHoles_eq (l : List S78) (hl : l.length ≤ maxLen) : laws_szHoleS.f l 1048576 = some (if l.length ≤ 1048576 then 1048576 - (l.length : Int) else -1) := by
  unfold maxLen at hl
  unfold laws_szHoleS.f
  rw [w64 (by omega)]
  split <;> split <;> first | rfl | omega

/-- holes with ascending numbers in all their fields -/
def upH (n : Int) : Nat → List S76
  | 0 => []
  | d + 1 => ⟨n, n + 1, n + 2⟩ :: upH (n + 3) d
theorem upH_length (n : Int) (d : Nat) : (upH n d).length = d := by
  induction d generalizing n with
  | zero => rfl
  | succ d ih => simp [upH, ih]
theorem markHoles_loop (d : Nat) : ∀ (k : Nat) (p l : List S76) (n : Int), l.length = d → d < k → p.length + l.length ≤ 1048576 → 1 ≤ n ∧ n ≤ 10000000 + 3 * p.length →
    laws_markHoleS.l0 k (p ++ l) n p.length = some (n + 3 * d, p ++ upH n d) := by
  induction d with
  | zero =>
    intro k p l n hi hk hl hn
    obtain ⟨k, rfl⟩ : ∃ j, k = j + 1 := ⟨k - 1, by omega⟩
    obtain rfl := List.length_eq_zero_iff.1 hi
    rw [laws_markHoleS.l0, if_neg (by simp)]
    simp [upH]
  | succ d ih =>
    intro k p l n hi hk hl hn
    obtain ⟨k, rfl⟩ : ∃ j, k = j + 1 := ⟨k - 1, by omega⟩
    obtain ⟨x, r, rfl⟩ : ∃ x r, l = x :: r := by
      cases l with
      | nil => simp at hi
      | cons x r => exact ⟨x, r, rfl⟩
    simp only [List.length_cons] at hi hl
    have hset : ∀ a b : S76, (p ++ a :: r).set p.length b = p ++ b :: r := fun a b => by
      rw [List.set_append_right _ _ (by omega), Nat.sub_self, List.set_cons_zero]
    have hrd : ∀ a : S76, rd_T76 (p ++ a :: r) (p.length : Int) = a := fun a => by
      rw [rdH_get _ p.length (by simp), List.getElem_append_right (by omega)]; simp
    rw [laws_markHoleS.l0, if_pos (by simp; omega), if_pos (by omega), Int.toNat_natCast]
    simp only [Option.bind_some, hset, hrd]
    rw [w64 (x := n + 1) (by omega), w64 (x := n + 1 + 1) (by omega), w64 (x := n + 1 + 1 + 1) (by omega), w64 (by omega)]
    have := ih k (p ++ [⟨n, n + 1, n + 1 + 1⟩]) r (n + 1 + 1 + 1) (by omega) (by omega) (by simp; omega) (by simp; omega)
    rw [show p ++ (⟨n, n + 1, n + 1 + 1⟩ : S76) :: r = (p ++ [⟨n, n + 1, n + 1 + 1⟩]) ++ r by simp, show ((p.length : Int) + 1) = (((p ++ [(⟨n, n + 1, n + 1 + 1⟩ : S76)]).length : Nat) : Int) by simp, this, upH]
    simp only [List.append_assoc, List.singleton_append]
    rw [show n + 1 + 1 + 1 = n + 3 by omega, show n + 1 + 1 = n + 2 by omega]
    congr 2; omega
theorem markHoles_eq (l : List S76) (hl : l.length ≤ 1048576) (n : Int) (hn : 1 ≤ n ∧ n ≤ 10000000) (k : Nat) (hk : l.length < k) : laws_markHoleS.f k l n = some (n + 3 * (l.length : Int), upH n l.length) := by
  unfold laws_markHoleS.f
  have := markHoles_loop l.length k [] l n rfl hk (by simpa using hl) (by simp; omega)
  simpa using this

theorem heldHoles_loop (d : Nat) : ∀ (k : Nat) (p : List S76) (n : Int), d < k → p.length + d ≤ 1048576 → 1 ≤ n ∧ n ≤ 10000000 + 3 * p.length →
    laws_heldHoleS.l0 k (p ++ upH n d) n p.length = some (n + 3 * d) := by
  induction d with
  | zero =>
    intro k p n hk hl hn
    obtain ⟨k, rfl⟩ : ∃ j, k = j + 1 := ⟨k - 1, by omega⟩
    rw [laws_heldHoleS.l0, if_neg (by simp [upH])]; simp
  | succ d ih =>
    intro k p n hk hl hn
    obtain ⟨k, rfl⟩ : ∃ j, k = j + 1 := ⟨k - 1, by omega⟩
    rw [upH, laws_heldHoleS.l0, if_pos (by simp; omega), if_pos (by omega), rdH_get _ p.length (by simp), List.getElem_append_right (by omega)]
    simp only [Nat.sub_self, List.getElem_cons_zero, if_true]
    rw [w64 (x := n + 1) (by omega), if_pos rfl, w64 (x := n + 1 + 1) (by omega), if_pos (by omega), w64 (x := n + 1 + 1 + 1) (by omega), w64 (by omega)]
    have := ih k (p ++ [⟨n, n + 1, n + 2⟩]) (n + 3) (by omega) (by simp; omega) (by simp; omega)
    rw [show p ++ (⟨n, n + 1, n + 2⟩ : S76) :: upH (n + 3) d = (p ++ [⟨n, n + 1, n + 2⟩]) ++ upH (n + 3) d by simp, show ((p.length : Int) + 1) = (((p ++ [(⟨n, n + 1, n + 2⟩ : S76)]).length : Nat) : Int) by simp, show n + 1 + 1 + 1 = n + 3 by omega, this]
    congr 1; omega
theorem heldHoles_eq (d : Nat) (hl : d ≤ 1048576) (n : Int) (hn : 1 ≤ n ∧ n ≤ 10000000) (k : Nat) (hk : d < k) : laws_heldHoleS.f k (upH n d) n = some (n + 3 * (d : Int)) := by
  unfold laws_heldHoleS.f
  have := heldHoles_loop d k [] n hk (by simpa using hl) (by simp; omega)
  simpa using this

/-- sheets: holes in order, none of a track touching an earlier one -/
def HoleOK (x : S76) : Bool := decide (0 ≤ x.f0 ∧ x.f0 ≤ 19 ∧ 0 ≤ x.f1 ∧ x.f1 < x.f2 ∧ x.f2 ≤ 2000)
def hBefore (a b : S76) : Bool := decide (a.f1 < b.f1 ∨ (a.f1 = b.f1 ∧ a.f0 < b.f0))
def lastOK (p : List S76) (x : S76) : Bool := match p.getLast? with
  | none => true
  | some y => hBefore y x
def apartOK (p : List S76) (x : S76) : Bool := p.all fun y => !(decide (x.f0 = y.f0) && decide (y.f2 ≥ x.f1))
def chkSheet (p : List S76) : List S76 → Bool
  | [] => true
  | x :: r => HoleOK x && lastOK p x && apartOK p x && chkSheet (p ++ [x]) r
def SheetB (l : List S76) : Bool := chkSheet [] l && decide (l.length ≤ 60)
def fuelH (i : Nat) : Nat → Nat
  | 0 => 1
  | d + 1 => i + 3 + fuelH (i + 1) d
theorem lastOK_take (l : List S76) (i : Nat) (h : i + 1 < l.length) : lastOK (l.take (i + 1)) l[i + 1] = hBefore l[i] l[i + 1] := by
  unfold lastOK
  rw [List.take_succ_eq_append_getElem (show i < l.length by omega), List.getLast?_concat]

theorem specSheet_row (l : List S76) (x7 : List S76) (x8 x9 a b c : Int) (p : List S76) (hp : p.length ≤ 1048576) (x : S76) (hx : x = ⟨a, b, c⟩) (d : Nat) : ∀ (k j : Nat), j + d = p.length →
    spec_shGood.l1 (k + d + 1) l x7 x8 x9 p p.length j a b c = if apartOK (p.drop j) x then spec_shGood.l0 k l x7 x8 (wrap64 (x9 + 1)) else some false := by
  induction d with
  | zero =>
    intro k j hj
    rw [spec_shGood.l1, if_neg (by omega), List.drop_of_length_le (by omega)]
    rfl
  | succ d ih =>
    intro k j hj
    subst hx
    rw [spec_shGood.l1, if_pos (by omega), if_pos (by omega), if_pos (by omega), rdH_get p j (by omega), drop_get p j (by omega), w64 (by omega), show k + (d + 1) = k + d + 1 by omega, show ((j : Int) + 1) = ((j + 1 : Nat) : Int) by omega, ih k (j + 1) (by omega)]
    unfold apartOK
    rw [List.all_cons]
    by_cases h1 : a = p[j].f0
    · by_cases h2 : p[j].f2 ≥ b
      · rw [if_pos (by omega), if_pos h2]; simp [h1, h2]
      · rw [if_pos (by omega), if_neg h2]; simp [h1, h2]
    · rw [if_neg (by omega)]; simp [h1]
theorem shHole_eq (a b c : Int) : spec_shHole.f a b c = some (HoleOK ⟨a, b, c⟩) := by
  unfold spec_shHole.f HoleOK
  simp only [in_eq, Option.bind_some, decide_eq_true_eq]
  split
  · split
    · rw [w64 (by omega)]; exact someD (by omega)
    · exact someF (by omega)
  · exact someF (by omega)
theorem shBefore_eq (a b c a' b' c' : Int) : spec_shBefore.f a b c a' b' c' = some (hBefore ⟨a, b, c⟩ ⟨a', b', c'⟩) := by
  unfold spec_shBefore.f hBefore
  simp only []
  split
  · rw [decide_eq_true (by omega)]
  · split
    · exact someD (by omega)
    · exact someF (by omega)
theorem specSheet_loop (l : List S76) (hl : l.length ≤ 1048576) (d : Nat) : ∀ (k i : Nat), i + d = l.length → fuelH i d ≤ k →
    spec_shGood.l0 k l l l.length i = some (chkSheet (l.take i) (l.drop i) && decide (l.length ≤ 60)) := by
  induction d with
  | zero =>
    intro k i hi hk
    unfold fuelH at hk
    obtain ⟨k, rfl⟩ : ∃ j, k = j + 1 := ⟨k - 1, by omega⟩
    rw [spec_shGood.l0, if_neg (by omega), List.drop_of_length_le (by omega)]
    unfold chkSheet
    rw [Bool.true_and]
    exact someD (by omega)
  | succ d ih =>
    intro k i hi hk
    unfold fuelH at hk
    obtain ⟨j, rfl⟩ : ∃ j, k = j + i + 1 + 1 + 1 := ⟨k - i - 3, by omega⟩
    have ht : (l.take i).length = i := by rw [List.length_take]; omega
    have e2 : wrap64 ((i : Int) + 1) = ((i + 1 : Nat) : Int) := by rw [w64 (by omega)]; omega
    rw [spec_shGood.l0, if_pos (by omega), if_pos (by omega), if_pos (by omega), rdH_get l i (by omega), shHole_eq, drop_get l i (by omega), chkSheet]
    simp only [Option.bind_some]
    have hj : ∀ flag : Bool, spec_shGood.j1 (j + i + 1 + 1) l i l l.length i flag l[i].f0 l[i].f1 l[i].f2 = if flag then some false else if apartOK (l.take i) l[i] then spec_shGood.l0 j l l l.length ((i + 1 : Nat) : Int) else some false := by
      intro flag
      rw [spec_shGood.j1]
      cases flag
      · simp only [Bool.false_eq_true, if_false]
        rw [if_pos (by omega), if_pos (by omega), Int.toNat_natCast]
        simp only [Option.bind_some]
        have := specSheet_row l l l.length i l[i].f0 l[i].f1 l[i].f2 (l.take i) (by omega) l[i] rfl i j 0 (by omega)
        rw [List.drop_zero, e2] at this
        exact this
      · simp only [if_true]
    have hrec := ih j (i + 1) (by omega) (by omega)
    rw [List.take_succ_eq_append_getElem (show i < l.length by omega)] at hrec
    by_cases h1 : HoleOK l[i] = true
    · rw [if_pos h1, h1]
      rcases Nat.eq_zero_or_pos i with h0 | h0
      · subst h0
        rw [if_neg (by omega), hj false]
        simp only [Bool.false_eq_true, if_false]
        rw [hrec]
        simp [lastOK, apartOK]
      · obtain ⟨m, rfl⟩ : ∃ m, i = m + 1 := ⟨i - 1, by omega⟩
        have e1 : wrap64 (((m + 1 : Nat) : Int) - 1) = (m : Int) := by rw [w64 (by omega)]; omega
        rw [if_pos (by omega), e1, if_pos (by omega), if_pos (by omega), rdH_get l m (by omega), shBefore_eq]
        simp only [Option.bind_some]
        rw [hj, hrec, lastOK_take l m (by omega)]
        cases hb : hBefore l[m] l[m + 1]
        · simp [hb]
        · cases ha : apartOK (l.take (m + 1)) l[m + 1] <;> simp [hb]
    · rw [if_neg h1, Bool.eq_false_iff.2 h1, hj]; simp
theorem shGood_eq (l : List S76) (hl : l.length ≤ 1048576) (k : Nat) (hk : fuelH 0 l.length ≤ k) : spec_shGood.f k l = some (SheetB l) := by
  unfold spec_shGood.f SheetB
  have := specSheet_loop l hl l.length k 0 (by omega) hk
  rw [List.drop_zero, List.take_zero] at this
  exact this

theorem implSheet_row (l : List S76) (x7 : List S76) (x8 x9 a b c : Int) (p : List S76) (hp : p.length ≤ 1048576) (x : S76) (hx : x = ⟨a, b, c⟩) (d : Nat) : ∀ (k j : Nat), j + d = p.length →
    impl_IsSheet.l1 (k + d + 1) l x7 x8 x9 p p.length j a b c = if apartOK (p.drop j) x then impl_IsSheet.l0 k l x7 x8 (wrap64 (x9 + 1)) else some false := by
  induction d with
  | zero =>
    intro k j hj
    rw [impl_IsSheet.l1, if_neg (by omega), List.drop_of_length_le (by omega)]
    rfl
  | succ d ih =>
    intro k j hj
    subst hx
    rw [impl_IsSheet.l1, if_pos (by omega), if_pos (by omega), if_pos (by omega), rdH_get p j (by omega), drop_get p j (by omega), w64 (by omega), show k + (d + 1) = k + d + 1 by omega, show ((j : Int) + 1) = ((j + 1 : Nat) : Int) by omega, ih k (j + 1) (by omega)]
    unfold apartOK
    rw [List.all_cons]
    by_cases h1 : a = p[j].f0
    · by_cases h2 : p[j].f2 ≥ b
      · rw [if_pos (by omega), if_pos h2]; simp [h1, h2]
      · rw [if_pos (by omega), if_neg h2]; simp [h1, h2]
    · rw [if_neg (by omega)]; simp [h1]
theorem isHole_eq (a b c : Int) : impl_IsHole.f a b c = some (HoleOK ⟨a, b, c⟩) := by
  have ht : impl_isTrack.f a = some (decide (0 ≤ a ∧ a ≤ 19)) := by
    unfold impl_isTrack.f
    split
    · exact someD (by omega)
    · exact someF (by omega)
  unfold impl_IsHole.f HoleOK
  rw [ht]
  simp only [Option.bind_some, decide_eq_true_eq]
  repeat' split
  all_goals first
    | exact someF (by omega)
    | exact someD (by omega)
theorem holeLess_eq (a b c a' b' c' : Int) : impl_holeLess.f a b c a' b' c' = some (hBefore ⟨a, b, c⟩ ⟨a', b', c'⟩) := by
  unfold impl_holeLess.f hBefore
  simp only []
  split
  · exact someD (by omega)
  · exact someD (by omega)
theorem implSheet_loop (l : List S76) (hl : l.length ≤ 1048576) (d : Nat) : ∀ (k i : Nat), i + d = l.length → fuelH i d ≤ k →
    impl_IsSheet.l0 k l l l.length i = some (chkSheet (l.take i) (l.drop i)) := by
  induction d with
  | zero =>
    intro k i hi hk
    unfold fuelH at hk
    obtain ⟨k, rfl⟩ : ∃ j, k = j + 1 := ⟨k - 1, by omega⟩
    rw [impl_IsSheet.l0, if_neg (by omega), List.drop_of_length_le (by omega)]
    rfl
  | succ d ih =>
    intro k i hi hk
    unfold fuelH at hk
    obtain ⟨j, rfl⟩ : ∃ j, k = j + i + 1 + 1 + 1 := ⟨k - i - 3, by omega⟩
    have ht : (l.take i).length = i := by rw [List.length_take]; omega
    have e2 : wrap64 ((i : Int) + 1) = ((i + 1 : Nat) : Int) := by rw [w64 (by omega)]; omega
    rw [impl_IsSheet.l0, if_pos (by omega), if_pos (by omega), if_pos (by omega), rdH_get l i (by omega), isHole_eq, drop_get l i (by omega), chkSheet]
    simp only [Option.bind_some]
    have hj : ∀ flag : Bool, impl_IsSheet.j1 (j + i + 1 + 1) l i l l.length i flag l[i].f0 l[i].f1 l[i].f2 = if flag then some false else if apartOK (l.take i) l[i] then impl_IsSheet.l0 j l l l.length ((i + 1 : Nat) : Int) else some false := by
      intro flag
      rw [impl_IsSheet.j1]
      cases flag
      · simp only [Bool.false_eq_true, if_false]
        rw [if_pos (by omega), if_pos (by omega), Int.toNat_natCast]
        simp only [Option.bind_some]
        have := implSheet_row l l l.length i l[i].f0 l[i].f1 l[i].f2 (l.take i) (by omega) l[i] rfl i j 0 (by omega)
        rw [List.drop_zero, e2] at this
        exact this
      · simp only [if_true]
    have hrec := ih j (i + 1) (by omega) (by omega)
    rw [List.take_succ_eq_append_getElem (show i < l.length by omega)] at hrec
    by_cases h1 : HoleOK l[i] = true
    · rw [if_pos h1, h1]
      rcases Nat.eq_zero_or_pos i with h0 | h0
      · subst h0
        rw [if_neg (by omega), hj false]
        simp only [Bool.false_eq_true, if_false]
        rw [hrec]
        simp [lastOK, apartOK]
      · obtain ⟨m, rfl⟩ : ∃ m, i = m + 1 := ⟨i - 1, by omega⟩
        have e1 : wrap64 (((m + 1 : Nat) : Int) - 1) = (m : Int) := by rw [w64 (by omega)]; omega
        rw [if_pos (by omega), e1, if_pos (by omega), if_pos (by omega), rdH_get l m (by omega), holeLess_eq]
        simp only [Option.bind_some]
        rw [hj, hrec, lastOK_take l m (by omega)]
        cases hb : hBefore l[m] l[m + 1]
        · simp [hb]
        · cases ha : apartOK (l.take (m + 1)) l[m + 1] <;> simp [hb]
    · rw [if_neg h1, Bool.eq_false_iff.2 h1, hj]; simp
theorem isSheet_eq (l : List S76) (hl : l.length ≤ 1048576) (k : Nat) (hk : fuelH 0 l.length ≤ k) : impl_IsSheet.f k l = some (SheetB l) := by
  unfold impl_IsSheet.f SheetB
  by_cases h : l.length ≤ 60
  · have := implSheet_loop l hl l.length k 0 (by omega) hk
    rw [List.drop_zero, List.take_zero] at this
    rw [if_neg (by omega), decide_eq_true h, Bool.and_true]
    exact this
  · rw [if_pos (by omega), decide_eq_false h, Bool.and_false]

def splitOf (l : List S76) (n : Int) : List S76 × List S76 × Bool := if SheetB l = true ∧ 0 ≤ n ∧ n ≤ l.length then (l.take n.toNat, l.drop n.toNat, true) else ([], [], false)
theorem specSplit_eq (l : List S76) (hl : l.length ≤ 1048576) (n : Int) (k : Nat) (hk : fuelH 0 l.length < k) : spec_SplitSheet.f k l n = some (splitOf l n) := by
  unfold spec_SplitSheet.f splitOf
  rw [shGood_eq l hl _ (by omega)]
  simp only [Option.bind_some, in_eq, decide_eq_true_eq, List.nil_append, List.length_nil, Nat.zero_add]
  by_cases h : SheetB l = true
  · rw [if_pos h]
    by_cases hn : 0 ≤ n ∧ n ≤ l.length
    · rw [if_pos hn, if_pos hn.1, if_pos hn.2, if_pos (by rw [List.length_take]; omega), if_pos (by rw [List.length_drop]; omega), if_pos ⟨h, hn⟩]
    · rw [if_neg hn, if_neg (fun hh => hn hh.2)]
  · rw [if_neg h, if_neg (fun hh => h hh.1)]
theorem implSplit_eq (l : List S76) (hl : l.length ≤ 1048576) (n : Int) (k : Nat) (hk : fuelH 0 l.length < k) : impl_SplitSheet.f k l n = some (splitOf l n) := by
  obtain ⟨k, rfl⟩ : ∃ j, k = j + 1 := ⟨k - 1, by omega⟩
  unfold impl_SplitSheet.f splitOf
  rw [isSheet_eq l hl _ (by omega)]
  simp only [Option.bind_some]
  by_cases h : SheetB l = true
  · rw [if_pos h]
    by_cases h0 : n < 0
    · rw [if_pos h0, impl_SplitSheet.j0, if_pos rfl, if_neg (fun hh => by omega)]
    · rw [if_neg h0]
      by_cases h1 : n > l.length
      · rw [decide_eq_true h1, impl_SplitSheet.j0, if_pos rfl, if_neg (fun hh => by omega)]
      · rw [decide_eq_false h1, impl_SplitSheet.j0, if_neg (by decide), if_pos (by omega), if_pos (by omega)]
        unfold slices_Clone_Hole.f
        rw [if_pos (by rw [List.length_take]; omega), if_pos (by rw [List.length_drop]; omega), if_pos ⟨h, by omega, by omega⟩]
        rfl
  · rw [if_neg h, impl_SplitSheet.j0, if_pos rfl, if_neg (fun hh => h hh.1)]
theorem split_length (l : List S76) (n : Int) : (splitOf l n).1.length ≤ l.length ∧ (splitOf l n).2.1.length ≤ l.length := by
  unfold splitOf
  split
  · simp only [List.length_take, List.length_drop]; omega
  · simp

theorem FnExactSplitSheet (l : List S78) (n : Int) (hl : l.length ≤ maxLen) (_ : ∀ x ∈ l, (Lit.int .i64 x.f0).wf = true ∧ (Lit.int .i64 x.f1).wf = true ∧ (Lit.int .i64 x.f2).wf = true) (_ : (Lit.int .i64 n).wf = true) :
    ∃ k, laws_FnExactSplitSheet.f k l n = some true := by
  refine ⟨fuelH 0 l.length + l.length + 20 + 1 + 1 + 1, ?_⟩
  unfold laws_FnExactSplitSheet.f
  rw [szHoles_eq l hl]
  simp only [Option.bind_some]
  by_cases h : l.length ≤ 1048576
  · have h' : (l.map toH).length ≤ 1048576 := by simpa using h
    have e : fuelH 0 (l.map toH).length = fuelH 0 l.length := by simp
    have e2 : (l.map toH).length = l.length := by simp
    have hsl := split_length (l.map toH) n
    generalize hR : splitOf (l.map toH) n = R at hsl
    rw [if_pos h, if_neg (by omega), toHoles_eq l h _ (by omega)]
    simp only [Option.bind_some]
    rw [specSplit_eq _ h' _ _ (by omega), hR]
    simp only [Option.bind_some]
    rw [implSplit_eq _ h' _ _ (by omega), hR]
    simp only [Option.bind_some]
    rw [eqHoles_self _ (by omega) _ (by omega)]
    simp only [Option.bind_some, if_true]
    rw [eqHoles_self _ (by omega) _ (by omega)]
    simp only [Option.bind_some, bne_self_eq_false, if_true]
    rw [laws_FnExactSplitSheet.j0, if_neg (by simp), toHoles_eq l h _ (by omega)]
    simp only [Option.bind_some]
    rw [eqHoles_self _ h' _ (by omega), markHoles_eq _ h' 1 (by omega) _ (by omega)]
    simp only [Option.bind_some, if_true]
    rw [if_neg (by omega), eqHoles_self _ (by omega) _ (by omega)]
    simp only [Option.bind_some, if_true]
    rw [eqHoles_self _ (by omega) _ (by omega)]
    simp only [Option.bind_some, bne_self_eq_false, if_true]
    rw [laws_FnExactSplitSheet.j1, if_neg (by simp), markHoles_eq _ (by omega) 1 (by omega) _ (by omega)]
    simp only [Option.bind_some]
    rw [markHoles_eq _ (by omega) _ (by omega) _ (by omega)]
    simp only [Option.bind_some]
    rw [heldHoles_eq _ (by omega) 1 (by omega) _ (by omega)]
    simp only [Option.bind_some]
    rw [if_neg (by omega), heldHoles_eq _ (by omega) _ (by omega) _ (by omega)]
    simp only [Option.bind_some]
    rw [if_neg (by omega), if_pos trivial, toHoles_eq l h _ (by omega)]
    simp only [Option.bind_some]
    rw [implSplit_eq _ h' _ _ (by omega), hR]
    simp only [Option.bind_some]
    rw [eqHoles_self _ (by omega) _ (by omega)]
    simp only [Option.bind_some, if_true]
    rw [eqHoles_self _ (by omega) _ (by omega)]
    simp only [Option.bind_some, bne_self_eq_false, if_true]
    rw [laws_FnExactSplitSheet.j2, if_neg (by simp), heldHoles_eq _ (by omega) 1 (by omega) _ (by omega)]
    simp only [Option.bind_some]
    rw [if_neg (by omega), heldHoles_eq _ (by omega) _ (by omega) _ (by omega)]
    simp only [Option.bind_some]
    rw [if_neg (by omega), if_pos trivial]
  · rw [if_neg h, if_pos (by omega)]
end Go.Proofs.Ytpgapdhmbgdfjaa.Pure
