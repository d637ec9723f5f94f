import Derived.Test.YtcpliaahkcbinaaGreatDoorPFnStrokesx6
namespace Go.Proofs.YtcpliaahkcbinaaGreatDoor.Pure
open Go.RowKit Go.Proofs.YtcpliaahkcbinaaGreatDoor.PFnStrokes Go.Proofs.YtcpliaahkcbinaaGreatDoorW.PrintWords Go.Proofs.YtcpliaahkcbinaaGreatDoorW.PrintLast
set_option linter.unusedVariables false
set_option linter.unusedSimpArgs false
theorem w64 {x : Int} (h : -9223372036854775808 ≤ x ∧ x ≤ 9223372036854775807) : wrap64 x = x := by
 unfold wrap64; omega
theorem om_ {p : Prop} (h : p := by omega) : p := h
theorem su_ (k : Nat) (h : 0 < k := by omega) : ∃ j, k = j + 1 := ⟨k - 1, by omega⟩
theorem dQ_ {p : Prop} [Decidable p] (h : ¬ p) : some false = some (decide p) := by rw [decide_eq_false h]
theorem dD_ {q p : Prop} [Decidable q] [Decidable p] (h : q ↔ p) : some (decide q) = some (decide p) := by rw [decide_eq_decide.2 h]
theorem iQ_ (a b c : Int) : bK_.f a b c = some (decide (b ≤ a ∧ a ≤ c)) := by
 unfold bK_.f
 by_cases h : a ≥ b
 ·rw [if_pos h]; congr 1; simp [show b ≤ a from h]
 ·rw [if_neg h]; congr 1; simp; omega
theorem du_ (l : List Int) (i : Nat) (h : i < l.length) : rd l (i : Int) = l[i] := by
 unfold rd; rw [Int.toNat_natCast, List.getD_eq_getElem?_getD, List.getElem?_eq_getElem h]; rfl
theorem g6_ (x n : Int) (hx : 0 ≤ x) (hn : 1 ≤ n) : 0 ≤ Int.tmod x n ∧ Int.tmod x n < n := by
 rw [Int.tmod_eq_emod_of_nonneg hx]
 exact ⟨Int.emod_nonneg _ om_, Int.emod_lt_of_pos _ om_⟩
theorem mj_ (x : Int) : 0 ≤ IntKind.u64.wrap x ∧ IntKind.u64.wrap x < 18446744073709551616 := by
 simp only [IntKind.wrap, IntKind.bits, IntKind.signed, Bool.false_and, Bool.false_eq_true, if_false]
 exact ⟨Int.emod_nonneg _ (by decide), Int.emod_lt_of_pos _ (by decide)⟩
theorem lV_ (n : Int) (h0 : 0 ≤ n) (h1 : n < 2 ^ 64) : IntKind.u64.wrap n = n := by
 simp only [IntKind.wrap, IntKind.bits, IntKind.signed, Bool.false_and, Bool.false_eq_true, if_false]
 exact Int.emod_eq_of_lt h0 h1
theorem mY_ (x : Int) : ∃ v, wrap64 (Go.bits .and .u64 ((IntKind.u64.wrap x) / 1099511627776) 255) = v ∧ 0 ≤ v ∧ v ≤ 255 := by
 obtain ⟨h0, h1⟩ := mj_ x
 have hd0 : 0 ≤ IntKind.u64.wrap x / 1099511627776 := by omega
 have hd1 : IntKind.u64.wrap x / 1099511627776 < 2 ^ 64 := by omega
 have e := bits_mask .u64 64 (by decide) (fun n a b => lV_ n a b) 8 (by decide) _ hd0 hd1
 rw [show (255 : Int) = 2 ^ 8 - 1 by decide, e]
 generalize IntKind.u64.wrap x / 1099511627776 = y at hd0 hd1
 have : 0 ≤ y % 2 ^ 8 ∧ y % 2 ^ 8 ≤ 255 := by omega
 exact ⟨_, w64 om_, this.1, this.2⟩
def b7_ (l : List Int) : Prop := l.length ≤ 1048576 ∧ ∀ x ∈ l, 0 ≤ x ∧ x ≤ 255
theorem kj_ (l : List Int) (hl : b7_ l) (a s : Int) (ha : 0 ≤ a ∧ a ≤ 1000000) : ∃ v s', b3_.f l a s = some (v, a + 1, s') ∧ 0 ≤ v ∧ v ≤ 255 := by
 have wa : wrap64 (a + 1) = a + 1 := w64 om_
 unfold b3_.f
 rw [wa]
 clear wa
 by_cases h : a < (l.length : Int)
 ·obtain ⟨n, rfl⟩ : ∃ n : Nat, a = n := ⟨a.toNat, by omega⟩
  have hn : n < l.length := by omega
  rw [if_pos h, if_pos ha.1]
  have hb := hl.2 _ (List.getElem_mem hn)
  by_cases h2 : (n : Int) + 1 ≤ (l.length : Int)
  ·rw [if_pos h2]
   refine ⟨_, _, rfl, ?_⟩
   rw [du_ l n hn, w64 om_]
   exact hb
  ·omega
 ·rw [if_neg h]
  by_cases h2 : a + 1 ≤ (l.length : Int)
  ·rw [if_pos h2]
   exact ⟨_, _, rfl, by omega, by omega⟩
  ·rw [if_neg h2]
   obtain ⟨v, e, h0, h1⟩ := mY_ (IntKind.u64.wrap (IntKind.u64.wrap (s * 6364136223846793005)) + 1442695040888963407)
   exact ⟨v, IntKind.u64.wrap (IntKind.u64.wrap (IntKind.u64.wrap (s * 6364136223846793005)) + 1442695040888963407), by rw [e], h0, h1⟩
theorem cf_ (l : List Int) (hl : b7_ l) (a s : Int) (ha : 0 ≤ a ∧ a ≤ 900000) (n : Int) :
  ∃ v a' s', ar_.f l a s n = some (v, a', s') ∧ 0 ≤ v ∧ (1 ≤ n → v < n) ∧ a ≤ a' ∧ a' ≤ a + 2 := by
 unfold ar_.f
 by_cases h : n ≤ 1
 ·rw [if_pos h]
  exact ⟨0, a, s, rfl, by omega, by omega, by omega, by omega⟩
 ·rw [if_neg h]
  obtain ⟨v, s1, e1, h0, h1⟩ := kj_ l hl a s om_
  rw [e1]
  simp only [Option.bind_some]
  by_cases h2 : n > 200
  ·obtain ⟨u, s2, e2, g0, g1⟩ := kj_ l hl (a + 1) s1 om_
   rw [if_pos h2, e2]
   simp only [Option.bind_some]
   rw [if_neg om_, w64 (x := v * 256) om_, w64 om_]
   have r := g6_ (v * 256 + u) n om_ om_
   exact ⟨_, _, _, rfl, r.1, fun _ => r.2, by omega, by omega⟩
  ·rw [if_neg h2, if_neg om_]
   have r := g6_ v n h0 om_
   exact ⟨_, _, _, rfl, r.1, fun _ => r.2, by omega, by omega⟩
theorem gp_ (l : List Int) (hl : b7_ l) (a s : Int) (ha : 0 ≤ a ∧ a ≤ 900000) (n : Int) :
  ∃ v a' s', bw_.f l a s n = some (v, a', s') ∧ a ≤ a' ∧ a' ≤ a + 2 := by
 obtain ⟨v, a', s', e, _, _, h1, h2⟩ := cf_ l hl a s ha n
 unfold bw_.f
 rw [e]
 exact ⟨_, _, _, rfl, h1, h2⟩
theorem eG_ (l : List Int) (hl : b7_ l) (a s : Int) (ha : 0 ≤ a ∧ a ≤ 900000) (xs : List Int) (hx : 1 ≤ xs.length) :
  ∃ v a' s', aY_.f l a s xs = some (v, a', s') ∧ a ≤ a' ∧ a' ≤ a + 2 := by
 obtain ⟨v, a', s', e, h0, h1, h2, h3⟩ := cf_ l hl a s ha (xs.length : Int)
 unfold aY_.f
 rw [e]
 simp only [Option.bind_some]
 rw [if_pos h0, if_pos (h1 om_)]
 exact ⟨_, _, _, rfl, h2, h3⟩
theorem bX_ {α : Type} (l : List α) (i : Nat) (h : i < l.length) : l.drop i = l[i] :: l.drop (i + 1) := List.drop_eq_getElem_cons h
theorem cO_ (l : List S61) (i : Nat) (h : i < l.length) : ab_ l (i : Int) = l[i] := by
 unfold ab_; rw [Int.toNat_natCast, List.getD_eq_getElem?_getD, List.getElem?_eq_getElem h]; rfl
theorem b8_ (l : List S42) (i : Nat) (h : i < l.length) : ac_ l (i : Int) = l[i] := by
 unfold ac_; rw [Int.toNat_natCast, List.getD_eq_getElem?_getD, List.getElem?_eq_getElem h]; rfl
def ev_ (x : S61) : Bool := decide (0 ≤ x.f0 ∧ x.f0 ≤ 19 ∧ 0 ≤ x.f1 ∧ x.f1 < x.f2 ∧ x.f2 ≤ 2000)
def bP_ (a b : S61) : Bool := decide (a.f1 < b.f1 ∨ (a.f1 = b.f1 ∧ a.f0 < b.f0))
def fO_ (p : List S61) (x : S61) : Bool := match p.getLast? with
 | none => true
 | some y => bP_ y x
def dh_ (p : List S61) (x : S61) : Bool := p.all fun y => !(decide (x.f0 = y.f0) && decide (y.f2 ≥ x.f1))
def c9_ (p : List S61) : List S61 → Bool
 | [] => true
 | x :: r => ev_ x && fO_ p x && dh_ p x && c9_ (p ++ [x]) r
def cE_ (l : List S61) : Bool := c9_ [] l && decide (l.length ≤ 60)
def dp_ (i : Nat) : Nat → Nat
 | 0 => 1
 | d + 1 => i + 3 + dp_ (i + 1) d
theorem gK_ (l : List S61) (i : Nat) (h : i + 1 < l.length) : fO_ (l.take (i + 1)) l[i + 1] = bP_ l[i] l[i + 1] := by
 unfold fO_
 rw [List.take_succ_eq_append_getElem (show i < l.length by omega), List.getLast?_concat]
theorem iO_ (l : List S61) (x7 : List S61) (x8 x9 a b c : Int) (p : List S61) (hp : p.length ≤ 1048576) (x : S61) (hx : x = ⟨a, b, c⟩) (d : Nat) : ∀ (k j : Nat), j + d = p.length →
  aw_.l1 (k + d + 1) l x7 x8 x9 p p.length j a b c = if dh_ (p.drop j) x then aw_.l0 k l x7 x8 (wrap64 (x9 + 1)) else some false := by
 induction d with
 | zero =>
  intro k j hj
  rw [aw_.l1, if_neg om_, List.drop_of_length_le om_]
  rfl
 | succ d ih =>
  intro k j hj
  subst hx
  rw [aw_.l1, if_pos om_, if_pos om_, if_pos om_, cO_ p j om_, bX_ p j om_, w64 om_, show k + (d + 1) = k + d + 1 by omega, show ((j : Int) + 1) = ((j + 1 : Nat) : Int) by omega, ih k (j + 1) om_]
  unfold dh_
  rw [List.all_cons]
  by_cases h1 : a = p[j].f0
  ·by_cases h2 : p[j].f2 ≥ b
   ·rw [if_pos om_, if_pos h2]; simp [h1, h2]
   ·rw [if_pos om_, if_neg h2]; simp [h1, h2]
  ·rw [if_neg om_]; simp [h1]
theorem lR_ (a b c : Int) : c2_.f a b c = some (ev_ ⟨a, b, c⟩) := by
 unfold c2_.f ev_
 simp only [iQ_, Option.bind_some, decide_eq_true_eq]
 split
 ·split
  ·rw [w64 om_]; exact dD_ om_
  ·exact dQ_ om_
 ·exact dQ_ om_
theorem ed_ (a b c a' b' c' : Int) : cm_.f a b c a' b' c' = some (bP_ ⟨a, b, c⟩ ⟨a', b', c'⟩) := by
 unfold cm_.f bP_
 simp only []
 split
 ·rw [decide_eq_true om_]
 ·split
  ·exact dD_ om_
  ·exact dQ_ om_
theorem h8_ (l : List S61) (hl : l.length ≤ 1048576) (d : Nat) : ∀ (k i : Nat), i + d = l.length → dp_ i d ≤ k →
  aw_.l0 k l l l.length i = some (c9_ (l.take i) (l.drop i) && decide (l.length ≤ 60)) := by
 induction d with
 | zero =>
  intro k i hi hk
  unfold dp_ at hk
  obtain ⟨k, rfl⟩ := su_ k
  rw [aw_.l0, if_neg om_, List.drop_of_length_le om_]
  unfold c9_
  rw [Bool.true_and]
  exact dD_ om_
 | succ d ih =>
  intro k i hi hk
  unfold dp_ at hk
  obtain ⟨j, rfl⟩ : ∃ j, k = j + i + 1 + 1 + 1 := ⟨k - i - 3, by omega⟩
  have ht : (l.take i).length = i := by rw [List.length_take]; omega
  have e2 : wrap64 ((i : Int) + 1) = ((i + 1 : Nat) : Int) := by rw [w64 om_]; omega
  rw [aw_.l0, if_pos om_, if_pos om_, if_pos om_, cO_ l i om_, lR_, bX_ l i om_, c9_]
  simp only [Option.bind_some]
  have hj : ∀ flag : Bool, aw_.j1 (j + i + 1 + 1) l i l l.length i flag l[i].f0 l[i].f1 l[i].f2 = if flag then some false else if dh_ (l.take i) l[i] then aw_.l0 j l l l.length ((i + 1 : Nat) : Int) else some false := by
   intro flag
   rw [aw_.j1]
   cases flag
   ·simp only [Bool.false_eq_true, if_false]
    rw [if_pos om_, if_pos om_, Int.toNat_natCast]
    simp only [Option.bind_some]
    have := iO_ l l l.length i l[i].f0 l[i].f1 l[i].f2 (l.take i) om_ l[i] rfl i j 0 om_
    rw [List.drop_zero, e2] at this
    exact this
   ·simp only [if_true]
  have hrec := ih j (i + 1) om_ om_
  rw [List.take_succ_eq_append_getElem (show i < l.length by omega)] at hrec
  by_cases h1 : ev_ l[i] = true
  ·rw [if_pos h1, h1]
   rcases Nat.eq_zero_or_pos i with h0 | h0
   ·subst h0
    rw [if_neg om_, hj false]
    simp only [Bool.false_eq_true, if_false]
    rw [hrec]
    simp [fO_, dh_]
   ·obtain ⟨m, rfl⟩ : ∃ m, i = m + 1 := ⟨i - 1, by omega⟩
    have e1 : wrap64 (((m + 1 : Nat) : Int) - 1) = (m : Int) := by rw [w64 om_]; omega
    rw [if_pos om_, e1, if_pos om_, if_pos om_, cO_ l m om_, ed_]
    simp only [Option.bind_some]
    rw [hj, hrec, gK_ l m om_]
    cases hb : bP_ l[m] l[m + 1]
    ·simp [hb]
    ·cases ha : dh_ (l.take (m + 1)) l[m + 1] <;> simp [hb]
  ·rw [if_neg h1, Bool.eq_false_iff.2 h1, hj]; simp
theorem gk_ (l : List S61) (hl : l.length ≤ 1048576) (k : Nat) (hk : dp_ 0 l.length ≤ k) : aw_.f k l = some (cE_ l) := by
 unfold aw_.f cE_
 have := h8_ l hl l.length k 0 om_ hk
 rw [List.drop_zero, List.take_zero] at this
 exact this
theorem iB_ (l : List S61) (x7 : List S61) (x8 x9 a b c : Int) (p : List S61) (hp : p.length ≤ 1048576) (x : S61) (hx : x = ⟨a, b, c⟩) (d : Nat) : ∀ (k j : Nat), j + d = p.length →
  as_.l1 (k + d + 1) l x7 x8 x9 p p.length j a b c = if dh_ (p.drop j) x then as_.l0 k l x7 x8 (wrap64 (x9 + 1)) else some false := by
 induction d with
 | zero =>
  intro k j hj
  rw [as_.l1, if_neg om_, List.drop_of_length_le om_]
  rfl
 | succ d ih =>
  intro k j hj
  subst hx
  rw [as_.l1, if_pos om_, if_pos om_, if_pos om_, cO_ p j om_, bX_ p j om_, w64 om_, show k + (d + 1) = k + d + 1 by omega, show ((j : Int) + 1) = ((j + 1 : Nat) : Int) by omega, ih k (j + 1) om_]
  unfold dh_
  rw [List.all_cons]
  by_cases h1 : a = p[j].f0
  ·by_cases h2 : p[j].f2 ≥ b
   ·rw [if_pos om_, if_pos h2]; simp [h1, h2]
   ·rw [if_pos om_, if_neg h2]; simp [h1, h2]
  ·rw [if_neg om_]; simp [h1]
theorem lM_ (a b c : Int) : c1_.f a b c = some (ev_ ⟨a, b, c⟩) := by
 have ht : bJ_.f a = some (decide (0 ≤ a ∧ a ≤ 19)) := by
  unfold bJ_.f
  split
  ·exact dD_ om_
  ·exact dQ_ om_
 unfold c1_.f ev_
 rw [ht]
 simp only [Option.bind_some, decide_eq_true_eq]
 repeat' split
 all_goals first
  | exact dQ_ om_
  | exact dD_ om_
theorem jX_ (a b c a' b' c' : Int) : cl_.f a b c a' b' c' = some (bP_ ⟨a, b, c⟩ ⟨a', b', c'⟩) := by
 unfold cl_.f bP_
 simp only []
 split
 ·exact dD_ om_
 ·exact dD_ om_
theorem hY_ (l : List S61) (hl : l.length ≤ 1048576) (d : Nat) : ∀ (k i : Nat), i + d = l.length → dp_ i d ≤ k →
  as_.l0 k l l l.length i = some (c9_ (l.take i) (l.drop i)) := by
 induction d with
 | zero =>
  intro k i hi hk
  unfold dp_ at hk
  obtain ⟨k, rfl⟩ := su_ k
  rw [as_.l0, if_neg om_, List.drop_of_length_le om_]
  rfl
 | succ d ih =>
  intro k i hi hk
  unfold dp_ at hk
  obtain ⟨j, rfl⟩ : ∃ j, k = j + i + 1 + 1 + 1 := ⟨k - i - 3, by omega⟩
  have ht : (l.take i).length = i := by rw [List.length_take]; omega
  have e2 : wrap64 ((i : Int) + 1) = ((i + 1 : Nat) : Int) := by rw [w64 om_]; omega
  rw [as_.l0, if_pos om_, if_pos om_, if_pos om_, cO_ l i om_, lM_, bX_ l i om_, c9_]
  simp only [Option.bind_some]
  have hj : ∀ flag : Bool, as_.j1 (j + i + 1 + 1) l i l l.length i flag l[i].f0 l[i].f1 l[i].f2 = if flag then some false else if dh_ (l.take i) l[i] then as_.l0 j l l l.length ((i + 1 : Nat) : Int) else some false := by
   intro flag
   rw [as_.j1]
   cases flag
   ·simp only [Bool.false_eq_true, if_false]
    rw [if_pos om_, if_pos om_, Int.toNat_natCast]
    simp only [Option.bind_some]
    have := iB_ l l l.length i l[i].f0 l[i].f1 l[i].f2 (l.take i) om_ l[i] rfl i j 0 om_
    rw [List.drop_zero, e2] at this
    exact this
   ·simp only [if_true]
  have hrec := ih j (i + 1) om_ om_
  rw [List.take_succ_eq_append_getElem (show i < l.length by omega)] at hrec
  by_cases h1 : ev_ l[i] = true
  ·rw [if_pos h1, h1]
   rcases Nat.eq_zero_or_pos i with h0 | h0
   ·subst h0
    rw [if_neg om_, hj false]
    simp only [Bool.false_eq_true, if_false]
    rw [hrec]
    simp [fO_, dh_]
   ·obtain ⟨m, rfl⟩ : ∃ m, i = m + 1 := ⟨i - 1, by omega⟩
    have e1 : wrap64 (((m + 1 : Nat) : Int) - 1) = (m : Int) := by rw [w64 om_]; omega
    rw [if_pos om_, e1, if_pos om_, if_pos om_, cO_ l m om_, jX_]
    simp only [Option.bind_some]
    rw [hj, hrec, gK_ l m om_]
    cases hb : bP_ l[m] l[m + 1]
    ·simp [hb]
    ·cases ha : dh_ (l.take (m + 1)) l[m + 1] <;> simp [hb]
  ·rw [if_neg h1, Bool.eq_false_iff.2 h1, hj]; simp
theorem hv_ (l : List S61) (hl : l.length ≤ 1048576) (k : Nat) (hk : dp_ 0 l.length ≤ k) : as_.f k l = some (cE_ l) := by
 unfold as_.f cE_
 by_cases h : l.length ≤ 60
 ·have := hY_ l hl l.length k 0 om_ hk
  rw [List.drop_zero, List.take_zero] at this
  rw [if_neg om_, decide_eq_true h, Bool.and_true]
  exact this
 ·rw [if_pos om_, decide_eq_false h, Bool.and_false]
def Tot {α : Type} (g : Nat → Option α) (Q : α → Prop) : Prop := ∃ r, Q r ∧ ∃ K, ∀ k, K ≤ k → g k = some r
theorem Tot.now {α : Type} {g : Nat → Option α} {Q : α → Prop} (r : α) (h : ∀ k, g k = some r) (q : Q r) : Tot g Q := ⟨r, q, 0, fun k _ => h k⟩
theorem Tot.ge {α : Type} {g : Nat → Option α} {Q : α → Prop} (r : α) (K : Nat) (h : ∀ k, K ≤ k → g k = some r) (q : Q r) : Tot g Q := ⟨r, q, K, h⟩
theorem Tot.step {α : Type} {g h : Nat → Option α} {Q : α → Prop} (hs : ∀ k, g (k + 1) = h k) (e : Tot h Q) : Tot g Q := by
 obtain ⟨r, q, K, hK⟩ := e
 refine ⟨r, q, K + 1, fun k hk => ?_⟩
 obtain ⟨j, rfl⟩ : ∃ j, k = j + 1 := ⟨k - 1, by omega⟩
 rw [hs]
 exact hK j om_
theorem Tot.congr {α : Type} {g h : Nat → Option α} {Q : α → Prop} (hs : ∀ k, g k = h k) (e : Tot h Q) : Tot g Q := by
 obtain ⟨r, q, K, hK⟩ := e
 exact ⟨r, q, K, fun k hk => by rw [hs]; exact hK k hk⟩
theorem Tot.bind {α β : Type} {g : Nat → Option α} {Q : α → Prop} {h : Nat → α → Option β} {R : β → Prop} (e : Tot g Q) (e2 : ∀ a, Q a → Tot (fun k => h k a) R) : Tot (fun k => (g k).bind (h k)) R := by
 obtain ⟨a, q, K, hK⟩ := e
 obtain ⟨r, p, M, hM⟩ := e2 a q
 refine ⟨r, p, K + M, fun k hk => ?_⟩
 simp only []
 rw [hK k om_, Option.bind_some]
 exact hM k om_
theorem Tot.weak {α : Type} {g : Nat → Option α} {Q R : α → Prop} (e : Tot g Q) (h : ∀ a, Q a → R a) : Tot g R := by
 obtain ⟨r, q, K, hK⟩ := e
 exact ⟨r, h r q, K, hK⟩
theorem Tot.mono {α : Type} {g : Nat → Option α} {Q : α → Prop} (e : Tot g Q) : ∃ r, Q r ∧ ∃ K, ∀ k, K ≤ k → g k = some r := e
theorem dl_ (n : Nat) (h : n ≤ 1000000) : wrap64 ((n : Int) + 1) = ((n + 1 : Nat) : Int) := by rw [w64 om_]; omega
def HV (n : Int) (x : S61) : Prop := -2000 ≤ x.f1 ∧ x.f1 ≤ n ∧ -2000 ≤ x.f2 ∧ x.f2 ≤ n
theorem HV.mono {n m : Int} (h : n ≤ m) {x : S61} (hx : HV n x) : HV m x := by unfold HV at *; omega
theorem kp_ {α : Type} (out : List α) (n : α) (p : Nat) : ∀ x ∈ out.take p ++ [n] ++ out.drop p, x ∈ out ∨ x = n := by
 intro x hx
 rcases List.mem_append.1 hx with h | h
 ·rcases List.mem_append.1 h with h | h
  ·exact Or.inl (List.mem_of_mem_take h)
  ·exact Or.inr (List.mem_singleton.1 h)
 ·exact Or.inl (List.mem_of_mem_drop h)
theorem fb_ (l : List S61) (i : Int) (h0 : 0 ≤ i) (h1 : i < l.length) : ab_ l i ∈ l := by
 obtain ⟨n, rfl⟩ : ∃ n : Nat, i = n := ⟨i.toNat, by omega⟩
 rw [cO_ l n om_]
 exact List.getElem_mem _
theorem fg_ (l : List Int) (hl : b7_ l) (a s : Int) (ha : 0 ≤ a ∧ a ≤ 900000) (xs : List Int) (hx : 1 ≤ xs.length) :
  ∃ v a' s', aY_.f l a s xs = some (v, a', s') ∧ a ≤ a' ∧ a' ≤ a + 2 ∧ v ∈ xs := by
 obtain ⟨v, a', s', e, h0, h1, h2, h3⟩ := cf_ l hl a s ha (xs.length : Int)
 have h4 := h1 om_
 unfold aY_.f
 rw [e]
 simp only [Option.bind_some]
 rw [if_pos h0, if_pos h4]
 refine ⟨_, _, _, rfl, h2, h3, ?_⟩
 obtain ⟨n, rfl⟩ : ∃ n : Nat, v = n := ⟨v.toNat, by omega⟩
 rw [du_ xs n om_]
 exact List.getElem_mem _
theorem mg_ (out l : List S61) (hl : out.length ≤ 1000) (a b c : Int) (n i : Int) {Q : List S61 × Bool → Prop}
  (hk : ∀ o : List S61, o.length = out.length + 1 → (∀ x ∈ o, x ∈ out ∨ x = (⟨a, b, c⟩ : S61)) → Tot (fun k => am_.l0 k o l n (wrap64 (i + 1))) Q) :
  ∀ p, p ≤ out.length → Tot (fun k => am_.l1 k out p l n i a b c) Q := by
 intro p
 induction p with
 | zero =>
  intro hp
  refine Tot.step (h := fun k => am_.l0 k (out.take 0 ++ [(⟨a, b, c⟩ : S61)] ++ out.drop 0) l n (wrap64 (i + 1))) (fun k => ?_) (hk _ (by simp) (fun x hx => kp_ out _ 0 x hx))
  rw [am_.l1, if_neg (by simp)]
  simp only [Option.bind_some]
  rw [if_pos om_, if_pos om_]
  simp only [Int.toNat_natCast, List.nil_append]
  rw [if_pos (by simp), if_pos (by simp), if_pos (by simp; omega)]
 | succ p ih =>
  intro hp
  have e1 : wrap64 (((p + 1 : Nat) : Int) - 1) = (p : Int) := by rw [w64 om_]; omega
  by_cases hb : bP_ (⟨a, b, c⟩ : S61) (out[p]'om_) = true
  ·refine Tot.step (h := fun k => am_.l1 k out p l n i a b c) (fun k => ?_) (ih om_)
   rw [am_.l1, if_pos om_, e1, if_pos om_, if_pos om_, cO_ out p om_, ed_]
   simp only [Option.bind_some]
   rw [hb, if_pos rfl]
  ·have hb' : bP_ (⟨a, b, c⟩ : S61) (out[p]'om_) = false := Bool.eq_false_iff.2 hb
   refine Tot.step (h := fun k => am_.l0 k (out.take (p + 1) ++ [(⟨a, b, c⟩ : S61)] ++ out.drop (p + 1)) l n (wrap64 (i + 1))) (fun k => ?_) (hk _ (by simp; omega) (fun x hx => kp_ out _ (p + 1) x hx))
   rw [am_.l1, if_pos om_, e1, if_pos om_, if_pos om_, cO_ out p om_, ed_]
   simp only [Option.bind_some]
   rw [hb', if_neg (by decide), if_pos om_, if_pos om_]
   simp only [Int.toNat_natCast, List.nil_append]
   rw [if_pos (by simp; omega), if_pos (by simp; omega), if_pos (by simp; omega)]
theorem lf_ (l : List S61) (hl : l.length ≤ 100) (d : Nat) : ∀ (i : Nat) (out : List S61), i + d = l.length → out.length = i → (∀ x ∈ out, x ∈ l) → Tot (fun k => am_.l0 k out l l.length i) (fun r => r.1.length ≤ l.length ∧ ∀ x ∈ r.1, x ∈ l) := by
 induction d with
 | zero =>
  intro i out hi ho hin
  refine Tot.step (h := fun k => (aw_.f k out).bind fun t => if t = true then some (out, true) else some ([], false)) (fun k => by rw [am_.l0, if_neg om_]) ?_
  refine Tot.bind (Q := fun _ => True) (Tot.ge _ (dp_ 0 out.length) (fun k hk => gk_ out om_ k hk) trivial) (fun t _ => ?_)
  cases t with
  | true => exact Tot.now _ (fun k => if_pos rfl) ⟨by simp; omega, hin⟩
  | false => exact Tot.now _ (fun k => if_neg (by decide)) ⟨by simp, by simp⟩
 | succ d ih =>
  intro i out hi ho hin
  refine Tot.step (h := fun k => am_.l1 k out (out.length : Nat) l l.length i ((ab_ l i).f0) ((ab_ l i).f1) ((ab_ l i).f2)) (fun k => by rw [am_.l0, if_pos om_, if_pos om_, if_pos om_]) ?_
  refine mg_ out l om_ _ _ _ _ _ (fun o ho' hm => ?_) out.length (Nat.le_refl _)
  rw [dl_ i om_]
  refine ih (i + 1) o om_ om_ (fun x hx => ?_)
  rcases hm x hx with h | h
  ·exact hin x h
  ·rw [h, cO_ l i om_]
   exact List.getElem_mem _
theorem jb_ (l : List S61) (hl : l.length ≤ 90) (a b c : Int) : Tot (fun k => a8_.f k l a b c) (fun r => r.1.length ≤ l.length + 1 ∧ ∀ x ∈ r.1, x ∈ l ∨ x = (⟨a, b, c⟩ : S61)) := by
 refine Tot.congr (h := fun k => (am_.f k (l ++ [(⟨a, b, c⟩ : S61)])).bind fun bt => some (bt.1, bt.2)) (fun k => ?_) ?_
 ·unfold a8_.f
  simp only [Option.bind_some, List.nil_append]
  rw [if_pos (by simp; omega), if_pos (by simp; omega)]
 ·have hs : Tot (fun k => am_.f k (l ++ [(⟨a, b, c⟩ : S61)])) (fun r => r.1.length ≤ (l ++ [(⟨a, b, c⟩ : S61)]).length ∧ ∀ x ∈ r.1, x ∈ l ++ [(⟨a, b, c⟩ : S61)]) := lf_ (l ++ [(⟨a, b, c⟩ : S61)]) (by simp; omega) (l ++ [(⟨a, b, c⟩ : S61)]).length 0 [] om_ rfl (fun x hx => by cases hx)
  exact Tot.bind hs (fun r hr => Tot.now _ (fun _ => rfl) ⟨by simpa using hr.1, fun x hx => by simpa using hr.2 x hx⟩)
theorem kk_ (l : List Int) (hl : b7_ l) (a s : Int) (ha : 0 ≤ a ∧ a ≤ 800000) : ∃ t f e a' s', bL_.f l a s = some (t, f, e, a', s') ∧ a ≤ a' ∧ a' ≤ a + 12 ∧ HV 2100 ⟨t, f, e⟩ := by
 unfold bL_.f
 obtain ⟨v1, a1, s1, e1, b1, c1, l1, u1⟩ := cf_ l hl a s om_ 40
 rw [e1]; simp only [Option.bind_some]
 obtain ⟨v2, a2, s2, e2, b2, c2, l2, u2⟩ := cf_ l hl a1 s1 om_ 60
 rw [e2]; simp only [Option.bind_some]
 obtain ⟨v3, a3, s3, e3, l3, u3, m3⟩ := fg_ l hl a2 s2 om_ [0, 2, 5, v1, v2, 1990] (by simp)
 rw [e3]; simp only [Option.bind_some]
 obtain ⟨v4, a4, s4, e4, _, _, l4, u4⟩ := cf_ l hl a3 s3 om_ 20
 rw [e4]; simp only [Option.bind_some]
 obtain ⟨v5, a5, s5, e5, l5, u5⟩ := eG_ l hl a4 s4 om_ [0, 1, 2, 3, 5, v4] (by simp)
 rw [e5]; simp only [Option.bind_some]
 obtain ⟨v6, a6, s6, e6, l6, u6, m6⟩ := fg_ l hl a5 s5 om_ [1, 2, 3, 4, 10] (by simp)
 rw [e6]; simp only [Option.bind_some]
 have c1' := c1 om_
 have c2' := c2 om_
 have h3 : 0 ≤ v3 ∧ v3 ≤ 1990 := by
  simp only [List.mem_cons, List.not_mem_nil, or_false] at m3
  rcases m3 with h | h | h | h | h | h <;> omega
 have h6 : 1 ≤ v6 ∧ v6 ≤ 10 := by
  simp only [List.mem_cons, List.not_mem_nil, or_false] at m6
  rcases m6 with h | h | h | h | h <;> omega
 refine ⟨_, _, _, a6, s6, rfl, by omega, by omega, ?_⟩
 unfold HV
 simp only
 rw [w64 om_]
 omega
theorem k9_ (l : List Int) (hl : b7_ l) (d : Nat) : ∀ (x : List S61) (a s : Int), x.length + d = 60 → 0 ≤ a → a + 2 * d ≤ 800000 →
  (∀ y ∈ x, HV 2100 y) → Tot (fun k => ak_.l0 k x l a s) (fun r => r.1.length ≤ 60 ∧ a ≤ r.2.1 ∧ r.2.1 ≤ a + 2 * d ∧ ∀ y ∈ r.1, HV 2100 y) := by
 induction d with
 | zero =>
  intro x a s hx h0 ha hv
  exact Tot.step (h := fun _ => some (x, a, s)) (fun k => by rw [ak_.l0, if_neg om_]) (Tot.now _ (fun _ => rfl) ⟨by simp only []; omega, by simp only []; omega, by simp only []; omega, hv⟩)
 | succ d ih =>
  intro x a s hx h0 ha hv
  obtain ⟨v1, a1, s1, e1, b1, c1, l1, u1⟩ := cf_ l hl a s om_ 5
  refine Tot.step (h := fun k => ak_.l0 k (x ++ [_]) l a1 s1) (fun k => by rw [ak_.l0, if_pos om_, e1]; simp only [Option.bind_some]; rw [if_pos om_]) ?_
  refine Tot.weak (ih (x ++ [_]) a1 s1 (by simp; omega) om_ om_ (fun y hy => ?_)) (fun r hr => ⟨hr.1, by omega, by omega, hr.2.2.2⟩)
  rcases List.mem_append.1 hy with h | h
  ·exact hv y h
  ·rw [List.mem_singleton.1 h]
   have c1' := c1 om_
   have e5 : wrap64 ((x.length : Int) / 5) = (x.length : Int) / 5 := w64 om_
   unfold HV
   simp only
   rw [e5, w64 (x := 6 * ((x.length : Int) / 5)) om_, w64 (x := 6 * ((x.length : Int) / 5) + 1) om_, w64 om_]
   omega
theorem kw_ (l : List Int) (hl : b7_ l) (n : Int) (hn : n ≤ 60) (d : Nat) : ∀ (x : List S61) (i : Nat) (a s : Int), i + d = 60 → x.length ≤ 60 → 0 ≤ a → a + 12 * d ≤ 800000 → (∀ y ∈ x, HV 2100 y) →
  Tot (fun k => ak_.l1 k x n i l a s) (fun r => r.1.length ≤ 60 ∧ a ≤ r.2.1 ∧ r.2.1 ≤ a + 12 * d ∧ ∀ y ∈ r.1, HV 2100 y) := by
 have out : ∀ (x : List S61) (i a s : Int) (m : Int), x.length ≤ 60 → 0 ≤ m → (∀ y ∈ x, HV 2100 y) → Tot (fun k => ak_.j2 k x n i false l a s) (fun r => r.1.length ≤ 60 ∧ a ≤ r.2.1 ∧ r.2.1 ≤ a + m ∧ ∀ y ∈ r.1, HV 2100 y) := fun x i a s m hx hm hv =>
  Tot.step (h := fun _ => some (x, a, s)) (fun k => by rw [ak_.j2, if_neg (by decide)]) (Tot.now _ (fun _ => rfl) ⟨hx, by simp only []; omega, by simp only []; omega, hv⟩)
 induction d with
 | zero =>
  intro x i a s hi hx h0 ha hv
  by_cases h : (x.length : Int) < n
  ·exact Tot.step (h := fun k => ak_.j2 k x n i false l a s) (fun k => by rw [ak_.l1, if_pos h, decide_eq_false om_]) (out x i a s _ hx om_ hv)
  ·exact Tot.step (h := fun k => ak_.j2 k x n i false l a s) (fun k => by rw [ak_.l1, if_neg h]) (out x i a s _ hx om_ hv)
 | succ d ih =>
  intro x i a s hi hx h0 ha hv
  by_cases h : (x.length : Int) < n
  ·refine Tot.step (h := fun k => ak_.j2 k x n i true l a s) (fun k => by rw [ak_.l1, if_pos h, decide_eq_true om_]) ?_
   obtain ⟨t, f, e, a1, s1, e1, l1, u1, hvn⟩ := kk_ l hl a s om_
   refine Tot.step (h := fun k => (a8_.f k x t f e).bind fun bt => if bt.2 = true then ak_.l1 k bt.1 n ((i + 1 : Nat) : Int) l a1 s1 else ak_.l1 k x n ((i + 1 : Nat) : Int) l a1 s1)
    (fun k => by rw [ak_.j2, if_pos rfl, e1]; simp only [Option.bind_some]; rw [dl_ i om_]) ?_
   refine Tot.bind (jb_ x om_ t f e) (fun bt hb => ?_)
   by_cases h2 : bt.2 = true
   ·exact (Tot.congr (fun k => if_pos h2) (ih bt.1 (i + 1) a1 s1 om_ om_ om_ om_ (fun y hy => (hb.2 y hy).elim (hv y) (fun h => h ▸ hvn)))).weak (fun r hr => ⟨hr.1, by omega, by omega, hr.2.2.2⟩)
   ·exact (Tot.congr (fun k => if_neg h2) (ih x (i + 1) a1 s1 om_ hx om_ om_ hv)).weak (fun r hr => ⟨hr.1, by omega, by omega, hr.2.2.2⟩)
  ·exact Tot.step (h := fun k => ak_.j2 k x n i false l a s) (fun k => by rw [ak_.l1, if_neg h]) (out x i a s _ hx om_ hv)
theorem ij_ (l : List Int) (hl : b7_ l) (a s : Int) (ha : 0 ≤ a ∧ a ≤ 700000) : Tot (fun k => ak_.f k l a s) (fun r => r.1.length ≤ 60 ∧ a ≤ r.2.1 ∧ r.2.1 ≤ a + 1000 ∧ ∀ y ∈ r.1, HV 2100 y) := by
 obtain ⟨v1, a1, s1, e1, l1, u1⟩ := gp_ l hl a s om_ 24
 by_cases h : v1 = true
 ·refine Tot.congr (h := fun k => ak_.l0 k [] l a1 s1) (fun k => by unfold ak_.f; rw [e1]; simp only [Option.bind_some]; rw [if_pos h]) ?_
  exact Tot.weak (k9_ l hl 60 [] a1 s1 (by simp) om_ om_ (fun y hy => by cases hy)) (fun r hr => ⟨hr.1, by omega, by omega, hr.2.2.2⟩)
 ·obtain ⟨v2, a2, s2, e2, b0, b1, l2, u2⟩ := cf_ l hl a1 s1 om_ 9
  refine Tot.congr (h := fun k => ak_.l1 k [] v2 ((0 : Nat) : Int) l a2 s2) (fun k => by unfold ak_.f; rw [e1]; simp only [Option.bind_some]; rw [if_neg h, e2]; rfl) ?_
  have b2 := b1 om_
  exact (kw_ l hl v2 om_ 60 [] 0 a2 s2 om_ (by simp) om_ om_ (fun y hy => by cases hy)).weak (fun r hr => ⟨hr.1, by omega, by omega, hr.2.2.2⟩)
theorem ku_ (l : List Int) (hl : b7_ l) (a s : Int) (ha : 0 ≤ a ∧ a ≤ 700000) : ∃ t f e a' s', b4_.f l a s = some (t, f, e, a', s') ∧ a ≤ a' ∧ a' ≤ a + 20 ∧ HV 2100 ⟨t, f, e⟩ := by
 unfold b4_.f
 obtain ⟨t, f, e, a1, s1, e1, l1, u1, hvn⟩ := kk_ l hl a s om_
 unfold HV at hvn ⊢
 simp only at hvn
 obtain ⟨v, a2, s2, e2, _, _, l2, u2⟩ := cf_ l hl a1 s1 om_ 24
 rw [e1]; simp only [Option.bind_some]; rw [e2]; simp only [Option.bind_some]
 by_cases h0 : v = 0
 ·obtain ⟨w, a3, s3, e3, l3, u3, m3⟩ := fg_ l hl a2 s2 om_ [-1, 19, 20] (by simp)
  rw [if_pos h0, e3]; exact ⟨_, _, _, a3, s3, rfl, by omega, by omega, hvn⟩
 ·rw [if_neg h0]
  by_cases h1 : v = 1
  ·obtain ⟨w, a3, s3, e3, l3, u3, m3⟩ := fg_ l hl a2 s2 om_ [-1, e] (by simp)
   rw [if_pos h1, e3]; exact ⟨_, _, _, a3, s3, rfl, by omega, by omega, by simp only [List.mem_cons, List.not_mem_nil, or_false] at m3; simp only; rcases m3 with h | h <;> omega⟩
  ·rw [if_neg h1]
   by_cases h2 : v = 2
   ·obtain ⟨w, a3, s3, e3, l3, u3, m3⟩ := fg_ l hl a2 s2 om_ [f, 2000, 2001] (by simp)
    rw [if_pos h2, e3]; exact ⟨_, _, _, a3, s3, rfl, by omega, by omega, by simp only [List.mem_cons, List.not_mem_nil, or_false] at m3; simp only; rcases m3 with h | h | h <;> omega⟩
   ·rw [if_neg h2]; exact ⟨_, _, _, a2, s2, rfl, by omega, by omega, hvn⟩
theorem mb_ (l : List Int) (a s : Int) (d : Nat) : ∀ (x : List S61), x.length + d = 61 → (∀ y ∈ x, HV 2200 y) → Tot (fun k => aA_.l0 k x l a s) (fun r => r.1.length ≤ 61 ∧ a ≤ r.2.1 ∧ r.2.1 ≤ a ∧ ∀ y ∈ r.1, HV 2200 y) := by
 induction d with
 | zero =>
  intro x hx hv
  exact Tot.step (h := fun _ => some (x, a, s)) (fun k => by rw [aA_.l0, if_neg om_]) (Tot.now _ (fun _ => rfl) ⟨by simp only []; omega, by simp only []; omega, by simp only []; omega, hv⟩)
 | succ d ih =>
  intro x hx hv
  exact Tot.step (h := fun k => aA_.l0 k (x ++ [_]) l a s) (fun k => by rw [aA_.l0, if_pos om_, if_pos om_]) (ih (x ++ [_]) (by simp; omega) (fun y hy => by
   rcases List.mem_append.1 hy with h | h
   ·exact hv y h
   ·rw [List.mem_singleton.1 h]
    unfold HV
    simp only
    rw [w64 (x := 3 * (x.length : Int)) om_, w64 om_]
    omega))
def kx_ (a n : Int) (r : List S61 × Int × Int) : Prop := r.1.length ≤ 61 ∧ a ≤ r.2.1 ∧ r.2.1 ≤ a + n ∧ ∀ y ∈ r.1, HV 2200 y
theorem jD_ (l : List Int) (hl : b7_ l) (a s : Int) (ha : 0 ≤ a ∧ a ≤ 600000) : Tot (fun k => aA_.f k l a s) (kx_ a 1100) := by
 refine Tot.bind (ij_ l hl a s om_) (fun bt hb => ?_)
 obtain ⟨x, a1, s1⟩ := bt
 simp only at hb
 have hv : ∀ y ∈ x, HV 2200 y := fun y hy => (hb.2.2.2 y hy).mono om_
 by_cases h : (x.length : Int) > 0
 ·obtain ⟨v, a2, s2, e2, b0, b1, l2, u2⟩ := cf_ l hl a1 s1 om_ (x.length : Int)
  obtain ⟨v3, a3, s3, e3, _, _, l3, u3⟩ := cf_ l hl a2 s2 om_ 30
  have b2 := b1 om_
  refine Tot.congr (h := fun k => if v3 = 0 then ((b4_.f l a3 s3).bind fun bt288 => (if 0 ≤ v then (if v < (x.length : Int) then (some ((x.set (v : Int).toNat (⟨bt288.1, bt288.2.1, bt288.2.2.1⟩ : S61)), bt288.2.2.2.1, bt288.2.2.2.2)) else (none)) else (none))) else (if v3 = 1 then (some ((x ++ [(⟨(ab_ x v).f0, (ab_ x v).f1, (ab_ x v).f2⟩ : S61)]), a3, s3)) else (if v3 = 2 then (some ((x ++ [(⟨(ab_ x v).f0, (ab_ x v).f2, wrap64 (((ab_ x v).f2) + 2)⟩ : S61)]), a3, s3)) else (if v3 = 3 then (aA_.l0 k ([] : List (S61)) l a3 s3) else (some (x, a3, s3)))))) (fun k => ?_) ?_
  ·dsimp only
   rw [if_pos h, e2]; simp only [Option.bind_some]; rw [e3]; simp only [Option.bind_some]
   simp only [if_pos b0, if_pos b2, if_pos (show x.length < 5864062014805 by omega)]
  ·by_cases c0 : v3 = 0
   ·obtain ⟨t, f, e, a4, s4, e4, l4, u4, hvn⟩ := ku_ l hl a3 s3 om_
    refine Tot.now (x.set (v : Int).toNat ⟨t, f, e⟩, a4, s4) (fun k => ?_) ⟨by simp only [List.length_set]; omega, by simp only []; omega, by simp only []; omega, fun y hy => (List.mem_or_eq_of_mem_set hy).elim (hv y) (fun h => h ▸ hvn.mono om_)⟩
    rw [if_pos c0, e4]; simp only [Option.bind_some]; rw [if_pos b0, if_pos b2]
   ·by_cases c1 : v3 = 1
    ·exact Tot.now _ (fun k => (if_neg c0).trans (if_pos c1)) ⟨by simp only [List.length_append, List.length_cons, List.length_nil]; omega, by simp only []; omega, by simp only []; omega, fun y hy => (List.mem_append.1 hy).elim (hv y) (fun h => by rw [List.mem_singleton.1 h]; exact hv _ (fb_ x v b0 b2))⟩
    ·by_cases c2 : v3 = 2
     ·exact Tot.now _ (fun k => (if_neg c0).trans ((if_neg c1).trans (if_pos c2))) ⟨by simp only [List.length_append, List.length_cons, List.length_nil]; omega, by simp only []; omega, by simp only []; omega, fun y hy => (List.mem_append.1 hy).elim (hv y) (fun h => by
       have h9 := hb.2.2.2 _ (fb_ x v b0 b2)
       rw [List.mem_singleton.1 h]
       unfold HV at h9 ⊢
       simp only
       rw [w64 om_]
       omega)⟩
     ·by_cases c3 : v3 = 3
      ·exact (Tot.congr (fun k => (if_neg c0).trans ((if_neg c1).trans ((if_neg c2).trans (if_pos c3)))) (mb_ l a3 s3 61 [] (by simp) (fun y hy => by cases hy))).weak (fun r hr => ⟨hr.1, by omega, by omega, hr.2.2.2⟩)
      ·exact Tot.now _ (fun k => (if_neg c0).trans ((if_neg c1).trans ((if_neg c2).trans (if_neg c3)))) ⟨by simp only []; omega, by simp only []; omega, by simp only []; omega, hv⟩
 ·exact Tot.now _ (fun k => if_neg h) ⟨by simp only []; omega, by simp only []; omega, by simp only []; omega, hv⟩
theorem lL_ (l : List Int) (hl : b7_ l) (a s : Int) (ha : 0 ≤ a ∧ a ≤ 600000) (d : Nat) : ∀ (x : List S61), x.length + d = 20 → (∀ y ∈ x, HV 100 y) → Tot (fun k => ad_.l0 k x l a s) (kx_ a 2000) := by
 induction d with
 | zero =>
  intro x hx hv
  obtain ⟨v, a2, s2, e2, b0, b1, l2, u2⟩ := cf_ l hl a s om_ 2
  have b2 := b1 om_
  have h9 := hv _ (fb_ x 19 om_ om_)
  exact Tot.step (h := fun _ => some (x.set (19 : Int).toNat (⟨(ab_ x 19).f0, (ab_ x 19).f1, wrap64 (((ab_ x 19).f2) + v)⟩ : S61), a2, s2)) (fun k => by rw [ad_.l0, if_neg om_, if_pos om_, e2]; rfl) (Tot.now _ (fun _ => rfl) ⟨by simp only [List.length_set]; omega, by simp only []; omega, by simp only []; omega, fun y hy => (List.mem_or_eq_of_mem_set hy).elim (fun h => (hv y h).mono om_) (fun h => by
   rw [h]
   unfold HV at h9 ⊢
   simp only
   rw [w64 om_]
   omega)⟩)
 | succ d ih =>
  intro x hx hv
  exact Tot.step (h := fun k => ad_.l0 k (x ++ [_]) l a s) (fun k => by rw [ad_.l0, if_pos om_, if_pos om_]) (ih (x ++ [_]) (by simp; omega) (fun y hy => (List.mem_append.1 hy).elim (hv y) (fun h => by rw [List.mem_singleton.1 h]; unfold HV; simp only; omega)))
theorem lZ_ (l : List Int) (hl : b7_ l) (x30 : List S61) (h30 : x30.length ≤ 60) (v30 : ∀ y ∈ x30, HV 2100 y) (d : Nat) : ∀ (x : List S61) (i : Nat) (a s : Int), i + d = x30.length → x.length ≤ i → 0 ≤ a → a + 4 * d ≤ 500000 → (∀ y ∈ x, HV 2200 y) →
  Tot (fun k => ad_.l1 k x x30 x30.length i l a s) (fun r => r.1.length ≤ 61 ∧ a ≤ r.2.1 ∧ r.2.1 ≤ a + 4 * d + 1110 ∧ ∀ y ∈ r.1, HV 2200 y) := by
 induction d with
 | zero =>
  intro x i a s hi hx h0 ha hv
  obtain ⟨v, a1, s1, e1, l1, u1⟩ := gp_ l hl a s om_ 16
  by_cases h : v = true
  ·refine Tot.step (h := fun k => (aA_.f k l a1 s1).bind fun bt => some (bt.1, bt.2.1, bt.2.2)) (fun k => by rw [ad_.l1, if_neg om_, e1]; simp only [Option.bind_some]; rw [if_pos h]) ?_
   exact Tot.bind (jD_ l hl a1 s1 om_) (fun r hr => Tot.now _ (fun _ => rfl) ⟨hr.1, by have := hr.2.1; simp only []; omega, by have := hr.2.2.1; simp only []; omega, hr.2.2.2⟩)
  ·exact Tot.step (h := fun _ => some (x, a1, s1)) (fun k => by rw [ad_.l1, if_neg om_, e1]; simp only [Option.bind_some]; rw [if_neg h]) (Tot.now _ (fun _ => rfl) ⟨by simp only []; omega, by simp only []; omega, by simp only []; omega, hv⟩)
 | succ d ih =>
  intro x i a s hi hx h0 ha hv
  have hp : 0 ≤ (i : Int) := by omega
  have hq : (i : Int) < (x30.length : Int) := by omega
  have key : ∀ (b : Bool) (a1 s1 t f e : Int), a ≤ a1 → a1 ≤ a + 2 → HV 2100 ⟨t, f, e⟩ → Tot (fun k => ad_.j2 k x x30 x30.length i b l a1 s1 t f e) (fun r => r.1.length ≤ 61 ∧ a ≤ r.2.1 ∧ r.2.1 ≤ a + 4 * ((d + 1 : Nat) : Int) + 1110 ∧ ∀ y ∈ r.1, HV 2200 y) := by
   intro b a1 s1 t f e g1 g2 gv
   have fin : ∀ (o : List S61) (a2 s2 : Int), o.length ≤ i + 1 → a1 ≤ a2 → a2 ≤ a1 + 2 → (∀ y ∈ o, HV 2200 y) → Tot (fun k => ad_.l1 k o x30 x30.length ((i + 1 : Nat) : Int) l a2 s2) (fun r => r.1.length ≤ 61 ∧ a ≤ r.2.1 ∧ r.2.1 ≤ a + 4 * ((d + 1 : Nat) : Int) + 1110 ∧ ∀ y ∈ r.1, HV 2200 y) := fun o a2 s2 ho q1 q2 ov =>
    (ih o (i + 1) a2 s2 om_ ho om_ om_ ov).weak (fun r hr => ⟨hr.1, by omega, by omega, hr.2.2.2⟩)
   have goon : ∀ (c : Int) (a2 s2 : Int), a1 ≤ a2 → a2 ≤ a1 + 2 → HV 2200 ⟨t, f, c⟩ → Tot (fun k => (a8_.f k x t f c).bind fun bt => if bt.2 = true then ad_.l1 k bt.1 x30 x30.length ((i + 1 : Nat) : Int) l a2 s2 else ad_.l1 k x x30 x30.length ((i + 1 : Nat) : Int) l a2 s2) (fun r => r.1.length ≤ 61 ∧ a ≤ r.2.1 ∧ r.2.1 ≤ a + 4 * ((d + 1 : Nat) : Int) + 1110 ∧ ∀ y ∈ r.1, HV 2200 y) := fun c a2 s2 q1 q2 cv => by
    refine Tot.bind (jb_ x om_ t f c) (fun bt hb => ?_)
    by_cases h2 : bt.2 = true
    ·exact Tot.congr (fun k => if_pos h2) (fin bt.1 a2 s2 om_ q1 q2 (fun y hy => (hb.2 y hy).elim (hv y) (fun h => h ▸ cv)))
    ·exact Tot.congr (fun k => if_neg h2) (fin x a2 s2 om_ q1 q2 hv)
   cases b with
   | true =>
    obtain ⟨v2, a2, s2, e2, b2, c2, l2, u2⟩ := cf_ l hl a1 s1 om_ 5
    have c2' := c2 om_
    refine Tot.step (h := fun k => (a8_.f k x t f (wrap64 ((wrap64 (f + 4)) + v2))).bind fun bt => if bt.2 = true then ad_.l1 k bt.1 x30 x30.length ((i + 1 : Nat) : Int) l a2 s2 else ad_.l1 k x x30 x30.length ((i + 1 : Nat) : Int) l a2 s2) (fun k => ?_) (goon _ a2 s2 l2 u2 (by unfold HV at gv ⊢; simp only at gv ⊢; rw [w64 (x := f + 4) om_, w64 om_]; omega))
    rw [ad_.j2, if_pos rfl, e2]; simp only [Option.bind_some]; rw [dl_ i om_]
   | false =>
    refine Tot.step (h := fun k => (a8_.f k x t f e).bind fun bt => if bt.2 = true then ad_.l1 k bt.1 x30 x30.length ((i + 1 : Nat) : Int) l a1 s1 else ad_.l1 k x x30 x30.length ((i + 1 : Nat) : Int) l a1 s1) (fun k => ?_) (goon _ a1 s1 om_ om_ (gv.mono om_))
    rw [ad_.j2, if_neg (by decide), dl_ i om_]
  by_cases h : (wrap64 (((ab_ x30 i).f2) - ((ab_ x30 i).f1))) < 4
  ·obtain ⟨v, a1, s1, e1, l1, u1⟩ := gp_ l hl a s om_ 20
   exact Tot.step (h := fun k => ad_.j2 k x x30 x30.length i (!v) l a1 s1 _ _ _) (fun k => by rw [ad_.l1, if_pos hq, if_pos hp, if_pos hq, if_pos h, e1]; rfl) (key _ a1 s1 ((ab_ x30 i).f0) ((ab_ x30 i).f1) ((ab_ x30 i).f2) l1 u1 (v30 _ (fb_ x30 i hp hq)))
  ·exact Tot.step (h := fun k => ad_.j2 k x x30 x30.length i false l a s _ _ _) (fun k => by rw [ad_.l1, if_pos hq, if_pos hp, if_pos hq, if_neg h]) (key _ a s ((ab_ x30 i).f0) ((ab_ x30 i).f1) ((ab_ x30 i).f2) om_ om_ (v30 _ (fb_ x30 i hp hq)))
theorem f8_ (l : List Int) (hl : b7_ l) (a s : Int) (ha : 0 ≤ a ∧ a ≤ 400000) : Tot (fun k => ad_.f k l a s) (kx_ a 4000) := by
 obtain ⟨v1, a1, s1, e1, l1, u1⟩ := gp_ l hl a s om_ 20
 by_cases h : v1 = true
 ·refine Tot.congr (h := fun k => ad_.l0 k [] l a1 s1) (fun k => by unfold ad_.f; rw [e1]; simp only [Option.bind_some]; rw [if_pos h]) ?_
  exact Tot.weak (lL_ l hl a1 s1 om_ 20 [] (by simp) (fun y hy => by cases hy)) (fun r hr => ⟨hr.1, by have := hr.2.1; omega, by have := hr.2.2.1; omega, hr.2.2.2⟩)
 ·refine Tot.congr (h := fun k => (ak_.f k l a1 s1).bind fun bt => ad_.l1 k [] bt.1 (bt.1.length : Int) 0 l bt.2.1 bt.2.2) (fun k => by unfold ad_.f; rw [e1]; simp only [Option.bind_some]; rw [if_neg h]) ?_
  refine Tot.bind (ij_ l hl a1 s1 om_) (fun bt hb => ?_)
  exact (lZ_ l hl bt.1 hb.1 hb.2.2.2 bt.1.length [] 0 bt.2.1 bt.2.2 om_ (by simp) om_ om_ (fun y hy => by cases hy)).weak (fun r hr => ⟨hr.1, by omega, by omega, hr.2.2.2⟩)
theorem kC_ (a b c : Int) (hb : -2000 ≤ b ∧ b ≤ 2200) (hc : -2000 ≤ c ∧ c ≤ 2200) (d : Nat) : ∀ (pos : Int) (t : List S42), b ≤ pos → pos ≤ 5000 → c - 4 < pos + 4 * d → t.length + d ≤ 3000 → Tot (fun k => a5_.l0 k t pos a b c) (fun r => r.length ≤ 3001) := by
 have fin : ∀ (pos : Int) (t : List S42), c - 4 < pos → t.length ≤ 3000 → Tot (fun k => a5_.l0 k t pos a b c) (fun r => r.length ≤ 3001) := by
  intro pos t h1 h2
  have e0 : wrap64 (c - 4) = c - 4 := w64 om_
  by_cases h : (t.length : Int) > 0
  ·have e1 : wrap64 ((t.length : Int) - 1) = ((t.length - 1 : Nat) : Int) := by rw [w64 om_]; omega
   by_cases h3 : (ac_ t ((t.length - 1 : Nat) : Int)).f1 < c - 4
   ·exact Tot.step (h := fun _ => some (t ++ [_])) (fun k => by rw [a5_.l0, e0, if_neg om_, if_pos h, e1, if_pos om_, if_pos om_, if_pos h3, if_pos om_]) (Tot.now _ (fun _ => rfl) (by simp only [List.length_append, List.length_cons, List.length_nil]; omega))
   ·exact Tot.step (h := fun _ => some t) (fun k => by rw [a5_.l0, e0, if_neg om_, if_pos h, e1, if_pos om_, if_pos om_, if_neg h3]) (Tot.now _ (fun _ => rfl) om_)
  ·exact Tot.step (h := fun _ => some t) (fun k => by rw [a5_.l0, e0, if_neg om_, if_neg h]) (Tot.now _ (fun _ => rfl) om_)
 induction d with
 | zero => intro pos t h0 h1 h2 h3; exact fin pos t om_ om_
 | succ d ih =>
  intro pos t h0 h1 h2 h3
  have e0 : wrap64 (c - 4) = c - 4 := w64 om_
  by_cases h : pos ≤ c - 4
  ·exact Tot.step (h := fun k => a5_.l0 k (t ++ [_]) (pos + 4) a b c) (fun k => by rw [a5_.l0, e0, if_pos h, if_pos om_, w64 (x := pos + 4) om_]) (ih (pos + 4) (t ++ [_]) om_ om_ om_ (by simp only [List.length_append, List.length_cons, List.length_nil]; omega))
  ·exact fin pos t om_ om_
theorem iE_ (l : List S61) (hl : l.length ≤ 100) (hv : ∀ x ∈ l, HV 2200 x) (d : Nat) : ∀ (i : Nat) (t : List S42), i + d = l.length → t.length ≤ 4000 * i → Tot (fun k => aU_.l0 k t l l.length i) (fun r => r.1.length ≤ 200) := by
 induction d with
 | zero =>
  intro i t hi ht
  by_cases h : (t.length : Int) > 200
  ·exact Tot.step (h := fun _ => some ([], false)) (fun k => by rw [aU_.l0, if_neg om_, if_pos h]) (Tot.now _ (fun _ => rfl) (by simp))
  ·exact Tot.step (h := fun _ => some (t, true)) (fun k => by rw [aU_.l0, if_neg om_, if_neg h]) (Tot.now _ (fun _ => rfl) (by simp only; omega))
 | succ d ih =>
  intro i t hi ht
  have hp : 0 ≤ (i : Int) := by omega
  have hq : (i : Int) < (l.length : Int) := by omega
  have h9 := hv _ (fb_ l i hp hq)
  unfold HV at h9
  refine Tot.step (h := fun k => (a5_.f k ((ab_ l i).f0) ((ab_ l i).f1) ((ab_ l i).f2)).bind fun t118 => (if (t118.length : Int) = 0 then (some (([] : List (S42)), false)) else (if t.length + t118.length < 8796093022208 then (aU_.l0 k (t ++ t118) l l.length ((i + 1 : Nat) : Int)) else (none)))) (fun k => by rw [aU_.l0, if_pos hq, if_pos hp, if_pos hq, dl_ i om_]) ?_
  refine Tot.bind (Q := fun r : List S42 => r.length ≤ 3001) (show Tot (fun k => a5_.f k _ _ _) _ from kC_ _ _ _ om_ om_ 1100 _ [] om_ om_ om_ (by simp)) (fun r hr => ?_)
  by_cases h : (r.length : Int) = 0
  ·exact Tot.now _ (fun k => if_pos h) (by simp)
  ·exact Tot.congr (fun k => (if_neg h).trans (if_pos om_)) (ih (i + 1) (t ++ r) om_ (by rw [List.length_append]; omega))
def gy_ (a n : Int) (r : List S42 × Int × Int) : Prop := r.1.length ≤ 202 ∧ a ≤ r.2.1 ∧ r.2.1 ≤ a + n
theorem nC_ (l : List Int) (a s : Int) (n : Int) (hn : n ≤ 202) (d : Nat) : ∀ x : List S42, x.length ≤ 202 → n ≤ (x.length : Int) + d → Tot (fun k => ah_.l1 k x n l a s) (gy_ a 0) := by
 have fin : ∀ x : List S42, x.length ≤ 202 → ¬ ((x.length : Int) < n) → Tot (fun k => ah_.l1 k x n l a s) (gy_ a 0) := fun x hx h =>
  Tot.step (h := fun _ => some (x, a, s)) (fun k => by rw [ah_.l1, if_neg h]) (Tot.now _ (fun _ => rfl) ⟨hx, by simp only []; omega, by simp only []; omega⟩)
 induction d with
 | zero => intro x hx h; exact fin x hx om_
 | succ d ih =>
  intro x hx h
  by_cases h2 : (x.length : Int) < n
  ·exact Tot.step (h := fun k => ah_.l1 k (x ++ [_]) n l a s) (fun k => by rw [ah_.l1, if_pos h2, if_pos om_]) (ih (x ++ [_]) (by simp only [List.length_append, List.length_cons, List.length_nil]; omega) (by simp only [List.length_append, List.length_cons, List.length_nil]; omega))
  ·exact fin x hx h2
theorem hW_ (l : List Int) (hl : b7_ l) (x : List S42) (hx : x.length ≤ 202) (a s : Int) (ha : 0 ≤ a ∧ a ≤ 300000) : Tot (fun k => ah_.j2 k x l a s) (gy_ a 20) := by
 by_cases h : (x.length : Int) > 0
 ·obtain ⟨v, a2, s2, e2, b0, b1, l2, u2⟩ := cf_ l hl a s om_ (x.length : Int)
  obtain ⟨v3, a3, s3, e3, _, _, l3, u3⟩ := cf_ l hl a2 s2 om_ 30
  have b2 := b1 om_
  have hd : ∀ k, ah_.j2 (k + 1) x l a s = (if v3 = 0 then ((aY_.f l a3 s3 (([(-1), 19, 20] : List Int))).bind fun bt403 => (some ((x.set (v : Int).toNat (⟨bt403.1, (ac_ x v).f1⟩ : S42)), bt403.2.1, bt403.2.2))) else (if v3 = 1 then ((aY_.f l a3 s3 (([(-1), 1999, 2000] : List Int))).bind fun bt410 => (some ((x.set (v : Int).toNat (⟨(ac_ x v).f0, bt410.1⟩ : S42)), bt410.2.1, bt410.2.2))) else (if v3 = 2 then ((ar_.f l a3 s3 2).bind fun bt414 => (ah_.l1 k x (wrap64 (200 + bt414.1)) l bt414.2.1 bt414.2.2)) else (some (x, a3, s3))))) := by
   intro k
   rw [ah_.j2, if_pos h, e2]; simp only [Option.bind_some]; rw [if_pos b0, if_pos b2, e3]; rfl
  by_cases c0 : v3 = 0
  ·obtain ⟨v4, a4, s4, e4, l4, u4⟩ := eG_ l hl a3 s3 om_ [-1, 19, 20] (by simp)
   exact Tot.step (h := fun _ => some (x.set (v : Int).toNat ⟨v4, (ac_ x v).f1⟩, a4, s4)) (fun k => by rw [hd, if_pos c0, e4]; rfl) (Tot.now _ (fun _ => rfl) ⟨by simp only [List.length_set]; omega, by simp only []; omega, by simp only []; omega⟩)
  ·by_cases c1 : v3 = 1
   ·obtain ⟨v4, a4, s4, e4, l4, u4⟩ := eG_ l hl a3 s3 om_ [-1, 1999, 2000] (by simp)
    exact Tot.step (h := fun _ => some (x.set (v : Int).toNat ⟨(ac_ x v).f0, v4⟩, a4, s4)) (fun k => by rw [hd, if_neg c0, if_pos c1, e4]; rfl) (Tot.now _ (fun _ => rfl) ⟨by simp only [List.length_set]; omega, by simp only []; omega, by simp only []; omega⟩)
   ·by_cases c2 : v3 = 2
    ·obtain ⟨v4, a4, s4, e4, d0, d1, l4, u4⟩ := cf_ l hl a3 s3 om_ 2
     have d2 := d1 om_
     refine Tot.step (h := fun k => ah_.l1 k x (wrap64 (200 + v4)) l a4 s4) (fun k => by rw [hd, if_neg c0, if_neg c1, if_pos c2, e4]; rfl) ?_
     rw [w64 om_]
     exact (nC_ l a4 s4 (200 + v4) om_ 300 x hx om_).weak (fun r hr => ⟨hr.1, by have := hr.2.1; omega, by have := hr.2.2; omega⟩)
    ·exact Tot.step (h := fun _ => some (x, a3, s3)) (fun k => by rw [hd, if_neg c0, if_neg c1, if_neg c2]) (Tot.now _ (fun _ => rfl) ⟨by simp only []; omega, by simp only []; omega, by simp only []; omega⟩)
 ·exact Tot.step (h := fun _ => some (x, a, s)) (fun k => by rw [ah_.j2, if_neg h]) (Tot.now _ (fun _ => rfl) ⟨by simp only []; omega, by simp only []; omega, by simp only []; omega⟩)
theorem nW_ (l : List Int) (hl : b7_ l) (d : Nat) : ∀ (x : List S42) (n a s : Int), n ≤ d → d ≤ 7 → x.length + d ≤ 20 → 0 ≤ a → a + 6 * d ≤ 290000 → Tot (fun k => ah_.l0 k x n l a s) (gy_ a (6 * d + 20)) := by
 induction d with
 | zero =>
  intro x n a s hn hd hx h0 ha
  exact Tot.step (h := fun k => ah_.j2 k x l a s) (fun k => by rw [ah_.l0, if_neg om_]) ((hW_ l hl x om_ a s om_).weak (fun r hr => ⟨hr.1, hr.2.1, by have := hr.2.2; omega⟩))
 | succ d ih =>
  intro x n a s hn hd hx h0 ha
  by_cases h : n > 0
  ·obtain ⟨v1, a1, s1, e1, _, _, l1, u1⟩ := cf_ l hl a s om_ 5
   obtain ⟨v2, a2, s2, e2, _, _, l2, u2⟩ := cf_ l hl a1 s1 om_ 30
   obtain ⟨v3, a3, s3, e3, l3, u3⟩ := eG_ l hl a2 s2 om_ [0, 3, 4, v2, 1998] (by simp)
   refine Tot.step (h := fun k => ah_.l0 k (x ++ [(⟨v1, v3⟩ : S42)]) (wrap64 (n - 1)) l a3 s3) (fun k => by rw [ah_.l0, if_pos h, e1]; simp only [Option.bind_some]; rw [e2]; simp only [Option.bind_some]; rw [e3]; simp only [Option.bind_some]; rw [if_pos om_]) ?_
   rw [w64 om_]
   exact (ih (x ++ [(⟨v1, v3⟩ : S42)]) (n - 1) a3 s3 om_ om_ (by simp only [List.length_append, List.length_cons, List.length_nil]; omega) om_ om_).weak (fun r hr => ⟨hr.1, by have := hr.2.1; omega, by have := hr.2.2; omega⟩)
  ·exact Tot.step (h := fun k => ah_.j2 k x l a s) (fun k => by rw [ah_.l0, if_neg h]) ((hW_ l hl x om_ a s om_).weak (fun r hr => ⟨hr.1, hr.2.1, by have := hr.2.2; omega⟩))
theorem kh_ (l : List Int) (hl : b7_ l) (x : List S42) (hx : x.length ≤ 202) (b : Bool) (a s : Int) (ha : 0 ≤ a ∧ a ≤ 200000) : Tot (fun k => ah_.j0 k x b l a s) (gy_ a 100) := by
 cases b with
 | true =>
  obtain ⟨v1, a1, s1, e1, b0, b1, l1, u1⟩ := cf_ l hl a s om_ 7
  have b2 := b1 om_
  exact Tot.step (h := fun k => ah_.l0 k [] v1 l a1 s1) (fun k => by rw [ah_.j0, if_pos rfl, e1]; rfl) ((nW_ l hl 7 [] v1 a1 s1 om_ om_ (by simp) om_ om_).weak (fun r hr => ⟨hr.1, by have := hr.2.1; omega, by have := hr.2.2; omega⟩))
 | false => exact Tot.step (h := fun k => ah_.j2 k x l a s) (fun k => by rw [ah_.j0, if_neg (by decide)]) ((hW_ l hl x hx a s om_).weak (fun r hr => ⟨hr.1, hr.2.1, by have := hr.2.2; omega⟩))
theorem gF_ (l : List Int) (hl : b7_ l) : Tot (fun k => ah_.f k l 0 0) (gy_ 0 6000) := by
 refine Tot.bind (f8_ l hl 0 0 om_) (fun bt hb => ?_)
 have g1 := hb.2.1
 have g2 := hb.2.2.1
 refine Tot.bind (Q := fun r : List S42 × Bool => r.1.length ≤ 200) (show Tot (fun k => aU_.f k bt.1) _ from iE_ bt.1 (by have := hb.1; omega) hb.2.2.2 bt.1.length 0 [] om_ (by simp)) (fun r hr => ?_)
 by_cases h : r.2 = true
 ·obtain ⟨v1, a1, s1, e1, l1, u1⟩ := gp_ l hl bt.2.1 bt.2.2 om_ 3
  refine Tot.congr (h := fun k => ah_.j0 k r.1 v1 l a1 s1) (fun k => by rw [if_pos h, e1]; rfl) ?_
  exact (kh_ l hl r.1 om_ v1 a1 s1 om_).weak (fun q hq => ⟨hq.1, by have := hq.2.1; omega, by have := hq.2.2; omega⟩)
 ·exact (Tot.congr (fun k => if_neg h) (kh_ l hl r.1 om_ true bt.2.1 bt.2.2 om_)).weak (fun q hq => ⟨hq.1, by have := hq.2.1; omega, by have := hq.2.2; omega⟩)
def aZ_ (x : S42) : Prop := 0 ≤ x.f0 ∧ x.f0 ≤ 19 ∧ 0 ≤ x.f1 ∧ x.f1 ≤ 1999
instance (x : S42) : Decidable (aZ_ x) := by unfold aZ_; infer_instance
def a4_ (l : List S42) : Prop := (∀ x ∈ l, aZ_ x) ∧ l.length ≤ 200
instance (l : List S42) : Decidable (a4_ l) := by unfold a4_; infer_instance
theorem jU_ (a b : Int) : cT_.f a b = some (decide (aZ_ ⟨a, b⟩)) := by
 unfold cT_.f dN_.f
 simp only [iQ_, Option.bind_some, decide_eq_true_eq]
 split
 ·exact dD_ (by unfold aZ_; simp only []; omega)
 ·exact dQ_ (by unfold aZ_; simp only []; omega)
theorem j3_ (l : List S42) (hl : l.length ≤ 1048576) (d : Nat) : ∀ (k i : Nat), i + d = l.length → d < k →
  aQ_.l0 k l l l.length i = some (decide ((∀ x ∈ l.drop i, aZ_ x) ∧ l.length ≤ 200)) := by
 induction d with
 | zero =>
  intro k i hi hk
  obtain ⟨k, rfl⟩ := su_ k
  rw [aQ_.l0, if_neg om_, List.drop_of_length_le om_]
  exact dD_ (by simp; omega)
 | succ d ih =>
  intro k i hi hk
  obtain ⟨k, rfl⟩ := su_ k
  rw [aQ_.l0, if_pos om_, if_pos om_, if_pos om_, b8_ l i om_, jU_, w64 om_, bX_ l i om_]
  simp only [Option.bind_some, decide_eq_true_eq]
  split
  ·rename_i h
   rw [show ((i : Int) + 1) = ((i + 1 : Nat) : Int) by omega, ih k (i + 1) om_ om_]
   exact dD_ (by rw [List.forall_mem_cons]; exact ⟨fun h' => ⟨⟨h, h'.1⟩, h'.2⟩, fun h' => ⟨h'.1.2, h'.2⟩⟩)
  ·rename_i h
   exact dQ_ (by rw [List.forall_mem_cons]; exact fun h' => h h'.1.1)
theorem el_ (l : List S42) (hl : l.length ≤ 1048576) (k : Nat) (hk : l.length < k) : aQ_.f k l = some (decide (a4_ l)) := by
 unfold aQ_.f a4_
 have := j3_ l hl l.length k 0 om_ hk
 rw [List.drop_zero] at this
 exact this
theorem g4_ (l : List S42) (hl : l.length ≤ 1048576) (d : Nat) : ∀ (k i : Nat), i + d = l.length → d < k →
  ap_.l0 k l l l.length i = some (decide ((∀ x ∈ l.drop i, aZ_ x) ∧ l.length ≤ 200)) := by
 induction d with
 | zero =>
  intro k i hi hk
  obtain ⟨k, rfl⟩ := su_ k
  rw [ap_.l0, if_neg om_, List.drop_of_length_le om_]
  exact dD_ (by simp; omega)
 | succ d ih =>
  intro k i hi hk
  obtain ⟨k, rfl⟩ := su_ k
  have ht : bJ_.f l[i].f0 = some (decide (0 ≤ l[i].f0 ∧ l[i].f0 ≤ 19)) := by
   unfold bJ_.f
   split
   ·exact dD_ om_
   ·exact dQ_ om_
  rw [ap_.l0, if_pos om_, if_pos om_, if_pos om_, b8_ l i om_, ht, w64 om_, bX_ l i om_]
  simp only [Option.bind_some, decide_eq_true_eq]
  by_cases h : aZ_ l[i]
  ·have h' := h
   unfold aZ_ at h'
   rw [if_pos om_, if_neg om_, if_neg om_, show ((i : Int) + 1) = ((i + 1 : Nat) : Int) by omega, ih k (i + 1) om_ om_]
   exact dD_ (by rw [List.forall_mem_cons]; exact ⟨fun h' => ⟨⟨h, h'.1⟩, h'.2⟩, fun h' => ⟨h'.1.2, h'.2⟩⟩)
  ·have h' := h
   unfold aZ_ at h'
   have hF : ∀ (p : Prop) [Decidable p], ¬ (p) → some false = some (decide p) := fun p _ hp => dQ_ hp
   have hn : ¬ ((∀ x ∈ l[i] :: l.drop (i + 1), aZ_ x) ∧ l.length ≤ 200) := by rw [List.forall_mem_cons]; exact fun h' => h h'.1.1
   split
   ·split
    ·exact dQ_ hn
    ·split
     ·exact dQ_ hn
     ·omega
   ·exact dQ_ hn
theorem cn_ (l : List S42) (hl : l.length ≤ 1048576) (k : Nat) (hk : l.length < k) : ap_.f k l = some (decide (a4_ l)) := by
 unfold ap_.f a4_
 have := g4_ l hl l.length k 0 om_ hk
 rw [List.drop_zero] at this
 exact this
def stk (a last pos : Int) : Nat → List S42
 | 0 => []
 | d + 1 => if pos ≤ last then ⟨a, pos⟩ :: stk a last (pos + 4) d else []
theorem kY_ (a last : Int) (d : Nat) : ∀ pos, (stk a last pos d).length ≤ d := by
 induction d with
 | zero => intro pos; exact Nat.le_refl _
 | succ d ih =>
  intro pos
  rw [stk]
  split
  ·rw [List.length_cons]; have := ih (pos + 4); omega
  ·simp
def eb_ (a last : Int) (t : List S42) : List S42 := if 0 < t.length then (if (ac_ t ((t.length - 1 : Nat) : Int)).f1 < last then t ++ [⟨a, last⟩] else t) else t
theorem gb_ (a last : Int) (t : List S42) : t.length ≤ (eb_ a last t).length ∧ (eb_ a last t).length ≤ t.length + 1 := by
 unfold eb_
 split
 ·split
  ·rw [List.length_append, List.length_singleton]; omega
  ·omega
 ·omega
def cc_ (x : S61) : List S42 := eb_ x.f0 (x.f2 - 4) (stk x.f0 (x.f2 - 4) x.f1 501)
theorem ge_ (x : S61) : (cc_ x).length ≤ 502 := by
 unfold cc_
 have h1 := gb_ x.f0 (x.f2 - 4) (stk x.f0 (x.f2 - 4) x.f1 501)
 have h2 := kY_ x.f0 (x.f2 - 4) 501 x.f1
 omega
theorem gP_ (x : S61) : ((cc_ x).length = 0) ↔ x.f2 - x.f1 < 4 := by
 unfold cc_
 have h1 := gb_ x.f0 (x.f2 - 4) (stk x.f0 (x.f2 - 4) x.f1 501)
 have h2 : stk x.f0 (x.f2 - 4) x.f1 501 = if x.f1 ≤ x.f2 - 4 then ⟨x.f0, x.f1⟩ :: stk x.f0 (x.f2 - 4) (x.f1 + 4) 500 else [] := rfl
 by_cases h : x.f1 ≤ x.f2 - 4
 ·rw [if_pos h] at h2
  have h3 : (stk x.f0 (x.f2 - 4) x.f1 501).length ≠ 0 := by rw [h2]; simp
  constructor <;> intro h4 <;> omega
 ·rw [if_neg h] at h2
  constructor
  ·intro _; omega
  ·intro _; rw [h2]; rfl
def bU_ (t : List S42) : List S61 → List S42 × Bool
 | [] => if t.length > 200 then ([], false) else (t, true)
 | x :: r => if (cc_ x).length = 0 then ([], false) else bU_ (t ++ cc_ x) r
theorem hK_ (r : List S61) : ∀ t, (bU_ t r).1.length ≤ 200 := by
 induction r with
 | nil => intro t; rw [bU_]; split <;> simp; omega
 | cons x r ih =>
  intro t
  rw [bU_]
  split
  ·simp
  ·exact ih _
theorem j2_ (r : List S61) : ∀ p, c9_ p r = true → ∀ x ∈ r, ev_ x = true := by
 induction r with
 | nil => intro p _ x hx; simp at hx
 | cons y r ih =>
  intro p h x hx
  rw [c9_, Bool.and_eq_true, Bool.and_eq_true, Bool.and_eq_true] at h
  rcases List.mem_cons.1 hx with rfl | hx
  ·exact h.1.1.1
  ·exact ih _ h.2 x hx
theorem eS_ {l : List S61} (h : cE_ l = true) : l.length ≤ 60 ∧ ∀ x ∈ l, 0 ≤ x.f0 ∧ x.f0 ≤ 19 ∧ 0 ≤ x.f1 ∧ x.f1 < x.f2 ∧ x.f2 ≤ 2000 := by
 unfold cE_ at h
 rw [Bool.and_eq_true, decide_eq_true_eq] at h
 refine ⟨h.2, fun x hx => ?_⟩
 have := j2_ l [] h.1 x hx
 unfold ev_ at this
 exact of_decide_eq_true this
theorem kd_ (a b c : Int) (hb : 0 ≤ b ∧ b ≤ 2000) (hc : 0 ≤ c ∧ c ≤ 2000) (d : Nat) : ∀ (k : Nat) (pos : Int) (t : List S42), 0 ≤ pos ∧ pos ≤ 4000 → c - 4 < pos + 4 * d → d < k → t.length + d ≤ 1000000 →
  a5_.l0 k t pos a b c = some (eb_ a (c - 4) (t ++ stk a (c - 4) pos d)) := by
 induction d with
 | zero =>
  intro k pos t hp hd hk ht
  obtain ⟨k, rfl⟩ := su_ k
  rw [a5_.l0, w64 (x := c - 4) om_, if_neg om_, stk, List.append_nil]
  unfold eb_
  by_cases h : 0 < t.length
  ·have e1 : wrap64 ((t.length : Int) - 1) = ((t.length - 1 : Nat) : Int) := by rw [w64 om_]; omega
   rw [if_pos om_, e1, if_pos om_, if_pos om_, if_pos h, if_pos (show t.length < 8796093022208 by omega)]
   split <;> rfl
  ·rw [if_neg om_, if_neg h]
 | succ d ih =>
  intro k pos t hp hd hk ht
  obtain ⟨k, rfl⟩ := su_ k
  by_cases h : pos ≤ c - 4
  ·rw [a5_.l0, w64 (x := c - 4) om_, if_pos h, if_pos om_, w64 om_, ih k (pos + 4) _ om_ om_ om_ (by rw [List.length_append, List.length_singleton]; omega), stk, if_pos h, List.append_assoc]
   rfl
  ·have e := ih (k + 1) pos t hp om_ om_ om_
   cases d with
   | zero =>
    rw [stk, if_neg h]
    rw [stk] at e
    exact e
   | succ d =>
    rw [stk, if_neg h] at e
    rw [stk, if_neg h]
    exact e
theorem lX_ (x : S61) (hx : 0 ≤ x.f0 ∧ x.f0 ≤ 19 ∧ 0 ≤ x.f1 ∧ x.f1 < x.f2 ∧ x.f2 ≤ 2000) (k : Nat) (hk : 600 < k) : a5_.f k x.f0 x.f1 x.f2 = some (cc_ x) := by
 unfold a5_.f
 rw [kd_ x.f0 x.f1 x.f2 om_ om_ 501 k x.f1 [] om_ om_ om_ (by simp), List.nil_append]
 rfl
theorem hE_ (l : List S61) (hl : l.length ≤ 60) (hx : ∀ x ∈ l, 0 ≤ x.f0 ∧ x.f0 ≤ 19 ∧ 0 ≤ x.f1 ∧ x.f1 < x.f2 ∧ x.f2 ≤ 2000) (d : Nat) : ∀ (k i : Nat) (t : List S42), i + d = l.length → d + 700 < k → t.length + 502 * d ≤ 1000000 →
  aU_.l0 k t l l.length i = some (bU_ t (l.drop i)) := by
 induction d with
 | zero =>
  intro k i t hi hk ht
  obtain ⟨k, rfl⟩ := su_ k
  rw [aU_.l0, if_neg om_, List.drop_of_length_le om_, bU_]
  by_cases h : t.length > 200
  ·rw [if_pos om_, if_pos h]
  ·rw [if_neg om_, if_neg h]
 | succ d ih =>
  intro k i t hi hk ht
  obtain ⟨k, rfl⟩ := su_ k
  have hz := ge_ l[i]
  rw [aU_.l0, if_pos om_, if_pos om_, if_pos om_, cO_ l i om_, lX_ _ (hx _ (List.getElem_mem _)) k om_, bX_ l i om_, bU_]
  simp only [Option.bind_some]
  by_cases h : (cc_ l[i]).length = 0
  ·rw [if_pos om_, if_pos h]
  ·rw [if_neg om_, if_neg h, if_pos om_, w64 om_, show ((i : Int) + 1) = ((i + 1 : Nat) : Int) by omega]
   exact ih k (i + 1) _ om_ om_ (by rw [List.length_append]; omega)
theorem jy_ (l : List S61) (h : cE_ l = true) (k : Nat) (hk : 800 < k) : aU_.f k l = some (bU_ [] l) := by
 obtain ⟨h1, h2⟩ := eS_ h
 exact hE_ l h1 h2 l.length k 0 [] om_ om_ (by simp; omega)
theorem g2_ (a b c : Int) (hb : 0 ≤ b ∧ b ≤ 2000) (hc : 0 ≤ c ∧ c ≤ 2000) (d : Nat) : ∀ (k : Nat) (pos : Int) (t : List S42), 0 ≤ pos ∧ pos ≤ 4000 → c - 4 < pos + 4 * d → d < k → t.length + d ≤ 1000000 → (t.length = 0 → pos ≤ c - 4) →
  a2_.l0 k t (c - 4) pos a b c = some (eb_ a (c - 4) (t ++ stk a (c - 4) pos d), true) := by
 induction d with
 | zero =>
  intro k pos t hp hd hk ht hn
  obtain ⟨k, rfl⟩ := su_ k
  have h : 0 < t.length := by
   by_cases h0 : t.length = 0
   ·have := hn h0; omega
   ·omega
  have e1 : wrap64 ((t.length : Int) - 1) = ((t.length - 1 : Nat) : Int) := by rw [w64 om_]; omega
  rw [a2_.l0, if_neg om_, stk, List.append_nil, e1, if_pos om_, if_pos om_, if_pos (show t.length < 8796093022208 by omega)]
  unfold eb_
  rw [if_pos h]
  by_cases h2 : (ac_ t ((t.length - 1 : Nat) : Int)).f1 < c - 4
  ·rw [if_pos h2, if_pos h2]
  ·rw [if_neg h2, if_neg h2]
 | succ d ih =>
  intro k pos t hp hd hk ht hn
  obtain ⟨k, rfl⟩ := su_ k
  by_cases h : pos ≤ c - 4
  ·rw [a2_.l0, if_pos h, if_pos om_, w64 om_, ih k (pos + 4) _ om_ om_ om_ (by rw [List.length_append, List.length_singleton]; omega) (by intro h'; simp at h'), stk, if_pos h, List.append_assoc]
   rfl
  ·have e := ih (k + 1) pos t hp om_ om_ om_ hn
   cases d with
   | zero =>
    rw [stk, if_neg h]
    rw [stk] at e
    exact e
   | succ d =>
    rw [stk, if_neg h] at e
    rw [stk, if_neg h]
    exact e
theorem hI_ (x : S61) (hx : 0 ≤ x.f0 ∧ x.f0 ≤ 19 ∧ 0 ≤ x.f1 ∧ x.f1 < x.f2 ∧ x.f2 ≤ 2000) (k : Nat) (hk : 600 < k) : a2_.f k x.f0 x.f1 x.f2 = some (cc_ x, !((cc_ x).length == 0)) := by
 unfold a2_.f
 have hn := gP_ x
 rw [w64 (x := x.f2 - x.f1) om_, w64 (x := x.f2 - 4) om_]
 by_cases h : x.f2 - x.f1 < 4
 ·have h0 := hn.2 h
  rw [if_pos h, List.length_eq_zero_iff.1 h0]
  rfl
 ·have h0 : ¬ (cc_ x).length = 0 := fun h' => h (hn.1 h')
  rw [if_neg h, g2_ x.f0 x.f1 x.f2 om_ om_ 501 k x.f1 [] om_ om_ om_ (by simp) om_, List.nil_append]
  have : ((cc_ x).length == 0) = false := by simpa using h0
  rw [this]
  rfl
theorem h9_ (l : List S61) (hl : l.length ≤ 60) (hx : ∀ x ∈ l, 0 ≤ x.f0 ∧ x.f0 ≤ 19 ∧ 0 ≤ x.f1 ∧ x.f1 < x.f2 ∧ x.f2 ≤ 2000) (d : Nat) : ∀ (k i : Nat) (t : List S42), i + d = l.length → d + 700 < k → t.length + 502 * d ≤ 1000000 →
  a7_.l0 k t l l.length i = some (bU_ t (l.drop i)) := by
 induction d with
 | zero =>
  intro k i t hi hk ht
  obtain ⟨k, rfl⟩ := su_ k
  rw [a7_.l0, if_neg om_, List.drop_of_length_le om_, bU_]
  by_cases h : t.length > 200
  ·rw [if_pos om_, if_pos h]
  ·rw [if_neg om_, if_neg h]
 | succ d ih =>
  intro k i t hi hk ht
  obtain ⟨k, rfl⟩ := su_ k
  have hz := ge_ l[i]
  rw [a7_.l0, if_pos om_, if_pos om_, if_pos om_, cO_ l i om_, hI_ _ (hx _ (List.getElem_mem _)) k om_, bX_ l i om_, bU_]
  simp only [Option.bind_some]
  by_cases h : (cc_ l[i]).length = 0
  ·rw [h, if_neg (by decide), if_pos rfl]
  ·have : (!((cc_ l[i]).length == 0)) = true := by simpa using h
   rw [if_pos this, if_neg h, if_pos om_, w64 om_, show ((i : Int) + 1) = ((i + 1 : Nat) : Int) by omega]
   exact ih k (i + 1) _ om_ om_ (by rw [List.length_append]; omega)
theorem iZ_ (l : List S61) (h : cE_ l = true) (k : Nat) (hk : 800 < k) : a7_.f k l = some (bU_ [] l) := by
 obtain ⟨h1, h2⟩ := eS_ h
 exact h9_ l h1 h2 l.length k 0 [] om_ om_ (by simp; omega)
theorem oU_ (a last : Int) (ha : 0 ≤ a ∧ a ≤ 19) (hl : last ≤ 1996) (d : Nat) : ∀ pos, 0 ≤ pos → ∀ x ∈ stk a last pos d, aZ_ x := by
 induction d with
 | zero => intro pos _ x hx; simp [stk] at hx
 | succ d ih =>
  intro pos hp x hx
  rw [stk] at hx
  split at hx
  ·rcases List.mem_cons.1 hx with rfl | hx
   ·unfold aZ_; exact ⟨ha.1, ha.2, hp, by simp only; omega⟩
   ·exact ih (pos + 4) om_ x hx
  ·simp at hx
theorem md_ (h : S61) (hh : 0 ≤ h.f0 ∧ h.f0 ≤ 19 ∧ 0 ≤ h.f1 ∧ h.f1 < h.f2 ∧ h.f2 ≤ 2000) : ∀ x ∈ cc_ h, aZ_ x := by
 intro x hx
 have hs := oU_ h.f0 (h.f2 - 4) ⟨hh.1, hh.2.1⟩ om_ 501 h.f1 hh.2.2.1
 unfold cc_ eb_ at hx
 split at hx
 ·rename_i h0
  split at hx
  ·rename_i h1
   rcases List.mem_append.1 hx with hx | hx
   ·exact hs x hx
   ·obtain rfl := List.mem_singleton.1 hx
    have h2 : 0 ≤ h.f2 - 4 := by
     rcases Int.lt_or_le (h.f2 - 4) h.f1 with g | g
     ·exfalso
      have : stk h.f0 (h.f2 - 4) h.f1 501 = [] := by
       show stk h.f0 (h.f2 - 4) h.f1 (500 + 1) = []
       rw [stk, if_neg om_]
      rw [this] at h0
      simp at h0
     ·omega
    unfold aZ_
    exact ⟨hh.1, hh.2.1, h2, by simp only; omega⟩
  ·exact hs x hx
 ·exact hs x hx
theorem lq_ (r : List S61) : ∀ t, (∀ x ∈ t, aZ_ x) → (∀ h ∈ r, 0 ≤ h.f0 ∧ h.f0 ≤ 19 ∧ 0 ≤ h.f1 ∧ h.f1 < h.f2 ∧ h.f2 ≤ 2000) → ∀ x ∈ (bU_ t r).1, aZ_ x := by
 induction r with
 | nil =>
  intro t ht _ x hx
  rw [bU_] at hx
  split at hx
  ·simp at hx
  ·exact ht x hx
 | cons h r ih =>
  intro t ht hr x hx
  rw [bU_] at hx
  split at hx
  ·simp at hx
  ·refine ih (t ++ cc_ h) (fun y hy => ?_) (fun y hy => hr y (List.mem_cons_of_mem _ hy)) x hx
   rcases List.mem_append.1 hy with hy | hy
   ·exact ht y hy
   ·exact md_ h (hr h List.mem_cons_self) y hy
def Evn {α : Type} (g : Nat → Option α) (r : α) : Prop := ∃ K, ∀ k, K ≤ k → g k = some r
theorem Evn.const {α : Type} {g : Nat → Option α} {r : α} (h : ∀ k, g k = some r) : Evn g r := ⟨0, fun k _ => h k⟩
theorem Evn.ge {α : Type} {g : Nat → Option α} {r : α} (K : Nat) (h : ∀ k, K ≤ k → g k = some r) : Evn g r := ⟨K, h⟩
theorem Evn.step {α : Type} {g h : Nat → Option α} {r : α} (hs : ∀ k, g (k + 1) = h k) (e : Evn h r) : Evn g r := by
 obtain ⟨K, hK⟩ := e
 refine ⟨K + 1, fun k hk => ?_⟩
 obtain ⟨j, rfl⟩ : ∃ j, k = j + 1 := ⟨k - 1, by omega⟩
 rw [hs]
 exact hK j om_
theorem Evn.congr {α : Type} {g h : Nat → Option α} {r : α} (hs : ∀ k, g k = h k) (e : Evn h r) : Evn g r := by
 obtain ⟨K, hK⟩ := e
 exact ⟨K, fun k hk => by rw [hs]; exact hK k hk⟩
theorem Evn.bind {α β : Type} {g : Nat → Option α} {a : α} {h : Nat → α → Option β} {r : β} (e : Evn g a) (e2 : Evn (fun k => h k a) r) : Evn (fun k => (g k).bind (h k)) r := by
 obtain ⟨K, hK⟩ := e
 obtain ⟨M, hM⟩ := e2
 refine ⟨K + M, fun k hk => ?_⟩
 simp only []
 rw [hK k om_, Option.bind_some]
 exact hM k om_
theorem Evn.both {α β : Type} {g : Nat → Option α} {h : Nat → Option β} {r : α} {q : β} (e : Evn g r) (f : Evn h q) : ∃ K, ∀ k, K ≤ k → g k = some r ∧ h k = some q := by
 obtain ⟨K, hK⟩ := e
 obtain ⟨M, hM⟩ := f
 exact ⟨K + M, fun k hk => ⟨hK k om_, hM k om_⟩⟩
def Cov (L : List S61) (t s : Int) : Prop := ∃ h ∈ L, h.f0 = t ∧ h.f1 ≤ s ∧ s < h.f2
def fu_ (a b : S61) : Prop := a.f0 < b.f0 ∨ (a.f0 = b.f0 ∧ a.f2 < b.f1)
def cW_ (L : List S61) : Prop := L.Pairwise fu_ ∧ ∀ h ∈ L, h.f1 < h.f2
theorem jF_ : cW_ [] := ⟨List.Pairwise.nil, fun h hh => by simp at hh⟩
theorem ek_ (t s : Int) : ¬ Cov [] t s := fun ⟨h, hh, _⟩ => by simp at hh
theorem dm_ (a : S61) (L : List S61) (t s : Int) : Cov (a :: L) t s ↔ (a.f0 = t ∧ a.f1 ≤ s ∧ s < a.f2) ∨ Cov L t s := by
 unfold Cov
 constructor
 ·rintro ⟨h, hh, hc⟩
  rcases List.mem_cons.1 hh with rfl | hh
  ·exact Or.inl hc
  ·exact Or.inr ⟨h, hh, hc⟩
 ·rintro (hc | ⟨h, hh, hc⟩)
  ·exact ⟨a, List.mem_cons_self, hc⟩
  ·exact ⟨h, List.mem_cons_of_mem _ hh, hc⟩
theorem f0_ (A B : List S61) (t s : Int) : Cov (A ++ B) t s ↔ Cov A t s ∨ Cov B t s := by
 induction A with
 | nil => simp [ek_]
 | cons a A ih => rw [List.cons_append, dm_, dm_, ih, or_assoc]
theorem dW_ {a : S61} {L : List S61} (h : cW_ (a :: L)) : (∀ b ∈ L, fu_ a b) ∧ a.f1 < a.f2 ∧ cW_ L := by
 obtain ⟨h1, h2⟩ := h
 rw [List.pairwise_cons] at h1
 exact ⟨h1.1, h2 a List.mem_cons_self, h1.2, fun x hx => h2 x (List.mem_cons_of_mem _ hx)⟩
theorem hs_ {a : S61} {L : List S61} (h : cW_ (a :: L)) {t s : Int} (hc : Cov (a :: L) t s) : a.f0 < t ∨ (a.f0 = t ∧ a.f1 ≤ s) := by
 obtain ⟨h1, h2, h3⟩ := dW_ h
 rcases (dm_ _ _ _ _).1 hc with ⟨e, e1, e2⟩ | ⟨b, hb, e, e1, e2⟩
 ·exact Or.inr ⟨e, e1⟩
 ·rcases h1 b hb with g | ⟨g1, g2⟩
  ·exact Or.inl om_
  ·exact Or.inr ⟨by omega, by omega⟩
theorem i5_ {a : S61} {L : List S61} (h : cW_ (a :: L)) : ¬ Cov (a :: L) a.f0 a.f2 := by
 obtain ⟨h1, h2, h3⟩ := dW_ h
 intro hc
 rcases (dm_ _ _ _ _).1 hc with ⟨e, e1, e2⟩ | ⟨b, hb, e, e1, e2⟩
 ·omega
 ·rcases h1 b hb with g | ⟨g1, g2⟩
  ·omega
  ·omega
theorem io_ {a : S61} {L : List S61} (h : cW_ (a :: L)) (t s : Int) : Cov L t s ↔ Cov (a :: L) t s ∧ ¬ (a.f0 = t ∧ a.f1 ≤ s ∧ s < a.f2) := by
 obtain ⟨h1, h2, h3⟩ := dW_ h
 rw [dm_]
 constructor
 ·rintro ⟨b, hb, e, e1, e2⟩
  refine ⟨Or.inr ⟨b, hb, e, e1, e2⟩, ?_⟩
  rcases h1 b hb with g | ⟨g1, g2⟩
  ·omega
  ·omega
 ·rintro ⟨hc | hc, hn⟩
  ·exact absurd hc hn
  ·exact hc
theorem fC_ : ∀ (L M : List S61), cW_ L → cW_ M → (∀ t s, Cov L t s ↔ Cov M t s) → L = M
 | [], [], _, _, _ => rfl
 | [], b :: M, _, hM, hc => by
  have h := dW_ hM
  exact absurd ((hc b.f0 b.f1).2 ⟨b, List.mem_cons_self, rfl, Int.le_refl _, h.2.1⟩) (ek_ _ _)
 | a :: L, [], hL, _, hc => by
  have h := dW_ hL
  exact absurd ((hc a.f0 a.f1).1 ⟨a, List.mem_cons_self, rfl, Int.le_refl _, h.2.1⟩) (ek_ _ _)
 | a :: L, b :: M, hL, hM, hc => by
  have ha := dW_ hL
  have hb := dW_ hM
  have ca : Cov (a :: L) a.f0 a.f1 := ⟨a, List.mem_cons_self, rfl, Int.le_refl _, ha.2.1⟩
  have cb : Cov (b :: M) b.f0 b.f1 := ⟨b, List.mem_cons_self, rfl, Int.le_refl _, hb.2.1⟩
  have l1 := hs_ hM ((hc _ _).1 ca)
  have l2 := hs_ hL ((hc _ _).2 cb)
  have e0 : a.f0 = b.f0 := by omega
  have e1 : a.f1 = b.f1 := by omega
  have e2 : a.f2 = b.f2 := by
   rcases Int.lt_trichotomy a.f2 b.f2 with h | h | h
   ·refine absurd ((hc a.f0 a.f2).2 ⟨b, List.mem_cons_self, e0.symm, ?_, h⟩) (i5_ hL)
    have := ha.2.1
    omega
   ·exact h
   ·refine absurd ((hc b.f0 b.f2).1 ⟨a, List.mem_cons_self, e0, ?_, h⟩) (i5_ hM)
    have := hb.2.1
    omega
  have e : a = b := by
   obtain ⟨a0, a1, a2⟩ := a
   obtain ⟨b0, b1, b2⟩ := b
   simp only at e0 e1 e2
   rw [e0, e1, e2]
  subst e
  rw [fC_ L M ha.2.2 hb.2.2 (fun t s => by rw [io_ hL, io_ hM, hc])]
def mg (L : List S61) (t a b : Int) : List S61 := match L.getLast? with
 | none => [⟨t, a, b⟩]
 | some h => if h.f0 = t ∧ a ≤ h.f2 then L.dropLast ++ [⟨h.f0, h.f1, mx h.f2 b⟩] else L ++ [⟨t, a, b⟩]
theorem fJ_ {L : List S61} {x : S61} : cW_ (L ++ [x]) ↔ cW_ L ∧ (∀ h ∈ L, fu_ h x) ∧ x.f1 < x.f2 := by
 unfold cW_
 rw [List.pairwise_append]
 constructor
 ·rintro ⟨⟨h1, _, h3⟩, h4⟩
  exact ⟨⟨h1, fun h hh => h4 h (List.mem_append_left _ hh)⟩, fun h hh => h3 h hh x (List.mem_singleton.2 rfl), h4 x (List.mem_append_right _ (List.mem_singleton.2 rfl))⟩
 ·rintro ⟨⟨h1, h2⟩, h3, h4⟩
  refine ⟨⟨h1, List.pairwise_singleton _ _, fun h hh y hy => by obtain rfl := List.mem_singleton.1 hy; exact h3 h hh⟩, fun h hh => ?_⟩
  rcases List.mem_append.1 hh with hh | hh
  ·exact h2 h hh
  ·obtain rfl := List.mem_singleton.1 hh; exact h4
theorem nw_ (L : List S61) (t a b : Int) (hL : cW_ L) (hab : a < b) (hb : ∀ h ∈ L, h.f0 < t ∨ (h.f0 = t ∧ h.f1 ≤ a)) :
  cW_ (mg L t a b) ∧ (∀ t' s, Cov (mg L t a b) t' s ↔ Cov L t' s ∨ (t = t' ∧ a ≤ s ∧ s < b)) ∧ (∀ h ∈ mg L t a b, h.f0 < t ∨ (h.f0 = t ∧ h.f1 ≤ a)) ∧ (mg L t a b).length ≤ L.length + 1 := by
 unfold mg
 rcases List.eq_nil_or_concat L with rfl | ⟨I, x, hIx⟩
 ·rw [List.getLast?_nil]
  refine ⟨⟨List.pairwise_singleton _ _, fun h hh => by obtain rfl := List.mem_singleton.1 hh; exact hab⟩, fun t' s => by rw [dm_, or_comm], fun h hh => by obtain rfl := List.mem_singleton.1 hh; exact Or.inr ⟨rfl, Int.le_refl _⟩, by simp⟩
 ·rw [List.concat_eq_append] at hIx
  subst hIx
  rw [List.getLast?_concat]
  obtain ⟨n1, n2, n3⟩ := fJ_.1 hL
  have hx := hb x (List.mem_append_right _ (List.mem_singleton.2 rfl))
  have hI : ∀ h ∈ I, h.f0 < t ∨ (h.f0 = t ∧ h.f1 ≤ a) := fun h hh => hb h (List.mem_append_left _ hh)
  by_cases hc : x.f0 = t ∧ a ≤ x.f2
  ·simp only [if_pos hc, List.dropLast_concat]
   have hm : mx x.f2 b = x.f2 ∧ b ≤ x.f2 ∨ mx x.f2 b = b ∧ x.f2 ≤ b := by unfold mx; omega
   refine ⟨fJ_.2 ⟨n1, n2, by simp only; omega⟩, fun t' s => ?_, fun h hh => ?_, by simp⟩
   ·rw [f0_, f0_, dm_, dm_]
    simp only [ek_, or_false]
    constructor
    ·rintro (h | h)
     ·exact Or.inl (Or.inl h)
     ·by_cases g : s < x.f2
      ·exact Or.inl (Or.inr ⟨h.1, h.2.1, g⟩)
      ·exact Or.inr ⟨by omega, by omega, by omega⟩
    ·rintro ((h | h) | h)
     ·exact Or.inl h
     ·exact Or.inr ⟨h.1, h.2.1, by omega⟩
     ·exact Or.inr ⟨by omega, by omega, by omega⟩
   ·rcases List.mem_append.1 hh with hh | hh
    ·exact hI h hh
    ·obtain rfl := List.mem_singleton.1 hh
     simp only
     omega
  ·simp only [if_neg hc]
   refine ⟨fJ_.2 ⟨hL, fun h hh => ?_, hab⟩, fun t' s => ?_, fun h hh => ?_, by simp⟩
   ·unfold fu_
    simp only
    rcases List.mem_append.1 hh with hh | hh
    ·have g1 := hI h hh
     have g2 := n2 h hh
     unfold fu_ at g2
     omega
    ·obtain rfl := List.mem_singleton.1 hh
     omega
   ·rw [f0_, dm_]
    simp only [ek_, or_false]
   ·rcases List.mem_append.1 hh with hh | hh
    ·exact hb h hh
    ·obtain rfl := List.mem_singleton.1 hh
     exact Or.inr ⟨rfl, Int.le_refl _⟩
theorem jr_ {α : Type} {R : α → α → Prop} : ∀ {L : List α}, L.Pairwise R → ∀ a ∈ L, ∀ b ∈ L, a = b ∨ R a b ∨ R b a
 | [], _, a, ha, _, _ => by simp at ha
 | x :: L, h, a, ha, b, hb => by
  rw [List.pairwise_cons] at h
  rcases List.mem_cons.1 ha with e1 | h1
  ·rcases List.mem_cons.1 hb with e2 | h2
   ·exact Or.inl (e1.trans e2.symm)
   ·exact Or.inr (Or.inl (e1 ▸ h.1 b h2))
  ·rcases List.mem_cons.1 hb with e2 | h2
   ·exact Or.inr (Or.inr (e2 ▸ h.1 a h1))
   ·exact jr_ h.2 a h1 b h2
theorem iq_ (a b : S61) : a6_ a b = bP_ a b := rfl
theorem lB_ {L : List S61} (h : cW_ L) : ∀ a ∈ L, ∀ b ∈ L, a6_ a b = false → a6_ b a = false → a = b := by
 intro a ha b hb h1 h2
 unfold a6_ at h1 h2
 have h1 := of_decide_eq_false h1
 have h2 := of_decide_eq_false h2
 rcases jr_ h.1 a ha b hb with e | e | e
 ·exact e
 ·have := h.2 a ha
  unfold fu_ at e
  omega
 ·have := h.2 b hb
  unfold fu_ at e
  omega
def d5_ (L : List S61) : List S61 := L.mergeSort (fun a b => !a6_ b a)
def fI_ (L : List S61) : List S61 × Bool := if cE_ (d5_ L) then (d5_ L, true) else ([], false)
theorem d2_ (L : List S61) : (d5_ L).length = L.length := by unfold d5_; exact (List.mergeSort_perm _ _).length_eq
theorem gq_ {L : List S61} (h : cW_ L) (hl : L.length ≤ 1048576) : bR_.f L = some (d5_ L) := by
 unfold bR_.f d5_
 rw [if_pos ⟨by omega, fun a ha b hb h1 h2 => by rw [lB_ h a ha b hb h1 h2]; exact ⟨rfl, rfl, rfl⟩⟩]
theorem gG_ {L : List S61} (h : cW_ L) (hl : L.length ≤ 1048576) {M : List S61} (hp : M.Perm L) (hs : M.Pairwise (fun a b => a6_ b a = false)) : M = d5_ L := bR_.uniq (gq_ h hl) hp hs
theorem mF_ (L : List S61) (h : 60 < L.length) : cE_ (d5_ L) = false := by
 unfold cE_
 rw [d2_, decide_eq_false om_, Bool.and_false]
theorem kq_ {L : List S61} (h : cW_ L) (hl : L.length ≤ 1048576) (k : Nat) (hk : dp_ 0 L.length ≤ k) : bk_.f k L = some (fI_ L) := by
 unfold bk_.f fI_
 by_cases h60 : (L.length : Int) > 60
 ·rw [if_pos h60, mF_ L om_]
  rfl
 ·rw [if_neg h60]
  unfold ct_.f
  rw [if_pos om_]
  simp only [Option.bind_some]
  rw [gq_ h hl]
  simp only [Option.bind_some]
  rw [hv_ _ (by rw [d2_]; exact hl) k (by rw [d2_]; exact hk)]
  simp only [Option.bind_some]
  cases cE_ (d5_ L) <;> rfl
def dZ_ (a b : S61) : Prop := a6_ b a = false
theorem i4_ {out : List S61} {x : S61} (ho : out.Pairwise dZ_) (j : Nat) (hj : j ≤ out.length) (h1 : ∀ i, j ≤ i → ∀ h : i < out.length, bP_ x out[i] = true) (h2 : ∀ h : 0 < j, bP_ x (out[j - 1]'om_) = false) :
  (out.take j ++ [x] ++ out.drop j).Pairwise dZ_ := by
 have hO := a6_.swo
 rw [List.append_assoc, List.pairwise_append]
 refine ⟨ho.sublist (List.take_sublist _ _), ?_, ?_⟩
 ·rw [List.singleton_append, List.pairwise_cons]
  refine ⟨fun y hy => ?_, ho.sublist (List.drop_sublist _ _)⟩
  obtain ⟨i, hi, rfl⟩ := List.mem_iff_getElem.1 hy
  rw [List.length_drop] at hi
  rw [List.getElem_drop]
  have := h1 (j + i) om_ om_
  unfold dZ_
  rw [iq_]
  unfold bP_ at *
  have := of_decide_eq_true this
  exact decide_eq_false om_
 ·intro a ha y hy
  obtain ⟨i, hi, rfl⟩ := List.mem_iff_getElem.1 ha
  rw [List.length_take] at hi
  rw [List.getElem_take]
  have hj0 : 0 < j := by omega
  have e2 := h2 hj0
  have ea : dZ_ out[i] x := by
   unfold dZ_
   rw [iq_]
   by_cases he : i = j - 1
   ·subst he; exact e2
   ·have := (List.pairwise_iff_getElem.1 ho) i (j - 1) om_ om_ om_
    exact hO.ntrans _ _ _ e2 this
  rcases List.mem_cons.1 (by simpa using hy) with rfl | hy
  ·exact ea
  ·obtain ⟨q, hq, rfl⟩ := List.mem_iff_getElem.1 hy
   rw [List.length_drop] at hq
   rw [List.getElem_drop]
   exact (List.pairwise_iff_getElem.1 ho) i (j + q) om_ om_ om_
theorem jR_ {α : Type} (out : List α) (x : α) (j : Nat) : (out.take j ++ [x] ++ out.drop j).Perm (out ++ [x]) := by
 rw [List.append_assoc]
 have h1 : (out.take j ++ ([x] ++ out.drop j)).Perm (out.take j ++ (out.drop j ++ [x])) := (List.perm_append_comm).append_left _
 refine h1.trans ?_
 rw [← List.append_assoc, List.take_append_drop]
theorem lr_ (out l : List S61) (hl : out.length ≤ 1048576) (x : S61) (n i : Int) {r : List S61 × Bool}
  (hk : ∀ j (_hj : j ≤ out.length), (∀ q, j ≤ q → ∀ h : q < out.length, bP_ x out[q] = true) → (∀ h : 0 < j, bP_ x (out[j - 1]'om_) = false) →
   Evn (fun k => am_.l0 k (out.take j ++ [x] ++ out.drop j) l n (wrap64 (i + 1))) r) :
  ∀ p, p ≤ out.length → (∀ q, p ≤ q → ∀ h : q < out.length, bP_ x out[q] = true) → Evn (fun k => am_.l1 k out p l n i x.f0 x.f1 x.f2) r := by
 intro p
 induction p with
 | zero =>
  intro hp ha
  refine Evn.step (h := fun k => am_.l0 k (out.take 0 ++ [x] ++ out.drop 0) l n (wrap64 (i + 1))) (fun k => ?_) (hk 0 om_ ha (fun h => absurd h om_))
  rw [am_.l1, if_neg (by simp)]
  simp only [Option.bind_some]
  rw [if_pos om_, if_pos om_]
  simp only [Int.toNat_natCast, List.nil_append]
  rw [if_pos (by simp), if_pos (by simp), if_pos (by simp; omega)]
 | succ p ih =>
  intro hp ha
  have e1 : wrap64 (((p + 1 : Nat) : Int) - 1) = (p : Int) := by rw [w64 om_]; omega
  by_cases hb : bP_ x (out[p]'om_) = true
  ·refine Evn.step (h := fun k => am_.l1 k out p l n i x.f0 x.f1 x.f2) (fun k => ?_) (ih om_ (fun q hq h => ?_))
   ·rw [am_.l1, if_pos om_, e1, if_pos om_, if_pos om_, cO_ out p om_, ed_]
    simp only [Option.bind_some]
    rw [hb, if_pos rfl]
   ·by_cases hq' : q = p
    ·subst hq'; exact hb
    ·exact ha q om_ h
  ·have hb' : bP_ x (out[p]'om_) = false := Bool.eq_false_iff.2 hb
   refine Evn.step (h := fun k => am_.l0 k (out.take (p + 1) ++ [x] ++ out.drop (p + 1)) l n (wrap64 (i + 1))) (fun k => ?_) (hk (p + 1) hp ha (fun _ => hb'))
   rw [am_.l1, if_pos om_, e1, if_pos om_, if_pos om_, cO_ out p om_, ed_]
   simp only [Option.bind_some]
   rw [hb', if_neg (by decide), if_pos om_, if_pos om_]
   simp only [Int.toNat_natCast, List.nil_append]
   rw [if_pos (by simp; omega), if_pos (by simp; omega), if_pos (by simp; omega)]
theorem iA_ (l : List S61) (hl : l.length ≤ 1048576) (d : Nat) : ∀ (i : Nat) (out : List S61), i + d = l.length → out.Perm (l.take i) → out.Pairwise dZ_ →
  ∃ M, M.Perm l ∧ M.Pairwise dZ_ ∧ Evn (fun k => am_.l0 k out l l.length i) (if cE_ M then (M, true) else ([], false)) := by
 induction d with
 | zero =>
  intro i out hi hp hs
  have hn : l.take i = l := List.take_of_length_le om_
  rw [hn] at hp
  have hol := hp.length_eq
  refine ⟨out, hp, hs, dp_ 0 out.length + 1, fun k hk => ?_⟩
  obtain ⟨k, rfl⟩ := su_ k
  simp only []
  rw [am_.l0, if_neg om_, gk_ out om_ k om_]
  simp only [Option.bind_some]
  cases cE_ out <;> rfl
 | succ d ih =>
  intro i out hi hp hs
  have hol : out.length = i := by rw [hp.length_eq, List.length_take]; omega
  have hi' : i < l.length := by omega
  have ht : l.take (i + 1) = l.take i ++ [l[i]] := List.take_succ_eq_append_getElem hi'
  have hnext : ∀ j (_hj : j ≤ out.length), (∀ q, j ≤ q → ∀ h : q < out.length, bP_ l[i] out[q] = true) → (∀ h : 0 < j, bP_ l[i] (out[j - 1]'om_) = false) →
    (out.take j ++ [l[i]] ++ out.drop j).Perm (l.take (i + 1)) ∧ (out.take j ++ [l[i]] ++ out.drop j).Pairwise dZ_ := fun j hj h1 h2 =>
   ⟨(jR_ out l[i] j).trans (by rw [ht]; exact hp.append_right _), i4_ hs j hj h1 h2⟩
  obtain ⟨j0, hj0, a0, b0⟩ : ∃ j, ∃ hj : j ≤ out.length, (∀ q, j ≤ q → ∀ h : q < out.length, bP_ l[i] out[q] = true) ∧ (∀ h : 0 < j, bP_ l[i] (out[j - 1]'om_) = false) := by
   have : ∀ p, p ≤ out.length → (∀ q, p ≤ q → ∀ h : q < out.length, bP_ l[i] out[q] = true) → ∃ j, ∃ hj : j ≤ out.length, (∀ q, j ≤ q → ∀ h : q < out.length, bP_ l[i] out[q] = true) ∧ (∀ h : 0 < j, bP_ l[i] (out[j - 1]'om_) = false) := by
    intro p
    induction p with
    | zero => intro hp' ha; exact ⟨0, by omega, ha, fun h => absurd h om_⟩
    | succ p ihp =>
     intro hp' ha
     by_cases hb : bP_ l[i] (out[p]'om_) = true
     ·refine ihp om_ (fun q hq h => ?_)
      by_cases hq' : q = p
      ·subst hq'; exact hb
      ·exact ha q om_ h
     ·exact ⟨p + 1, hp', ha, fun _ => Bool.eq_false_iff.2 hb⟩
   exact this out.length (Nat.le_refl _) (fun q hq h => absurd h om_)
  obtain ⟨M, hM1, hM2, hM3⟩ := ih (i + 1) _ om_ (hnext j0 hj0 a0 b0).1 (hnext j0 hj0 a0 b0).2
  refine ⟨M, hM1, hM2, ?_⟩
  refine Evn.step (h := fun k => am_.l1 k out out.length l l.length i l[i].f0 l[i].f1 l[i].f2) (fun k => ?_) (lr_ out l om_ l[i] l.length i (fun j hj h1 h2 => ?_) out.length (Nat.le_refl _) (fun q hq h => absurd h om_))
  ·rw [am_.l0, if_pos om_, if_pos om_, if_pos om_, cO_ l i hi']
  ·have e : j = j0 := by
    rcases Nat.lt_trichotomy j j0 with h | h | h
    ·have x1 := b0 om_
     rw [h1 (j0 - 1) om_ om_] at x1; cases x1
    ·exact h
    ·have x1 := h2 om_
     rw [a0 (j - 1) om_ om_] at x1; cases x1
   subst e
   rw [show wrap64 ((i : Int) + 1) = ((i + 1 : Nat) : Int) by rw [w64 om_]; omega]
   exact hM3
theorem jQ_ {L : List S61} (h : cW_ L) (hl : L.length ≤ 1048576) : Evn (fun k => am_.f k L) (fI_ L) := by
 obtain ⟨M, h1, h2, h3⟩ := iA_ L hl L.length 0 [] om_ (by simp) List.Pairwise.nil
 have e := gG_ h hl h1 h2
 subst e
 exact h3
def Pun (l : List S42) (t s : Int) : Prop := ∃ x ∈ l, x.f0 = t ∧ x.f1 ≤ s ∧ s < x.f1 + 4 ∧ s < 2000
theorem jC_ {l m : List S42} (h : l.Perm m) (t s : Int) : Pun l t s ↔ Pun m t s := by
 unfold Pun
 constructor
 ·rintro ⟨x, hx, h1⟩; exact ⟨x, h.mem_iff.1 hx, h1⟩
 ·rintro ⟨x, hx, h1⟩; exact ⟨x, h.mem_iff.2 hx, h1⟩
theorem eA_ (l m : List S42) (t s : Int) : Pun (l ++ m) t s ↔ Pun l t s ∨ Pun m t s := by
 unfold Pun
 constructor
 ·rintro ⟨x, hx, h1⟩
  rcases List.mem_append.1 hx with hx | hx
  ·exact Or.inl ⟨x, hx, h1⟩
  ·exact Or.inr ⟨x, hx, h1⟩
 ·rintro (⟨x, hx, h1⟩ | ⟨x, hx, h1⟩)
  ·exact ⟨x, List.mem_append_left _ hx, h1⟩
  ·exact ⟨x, List.mem_append_right _ hx, h1⟩
theorem fM_ (x : S42) (t s : Int) : Pun [x] t s ↔ x.f0 = t ∧ x.f1 ≤ s ∧ s < x.f1 + 4 ∧ s < 2000 := by
 unfold Pun
 constructor
 ·rintro ⟨y, hy, h⟩; obtain rfl := List.mem_singleton.1 hy; exact h
 ·intro h; exact ⟨x, List.mem_singleton.2 rfl, h⟩
theorem hG_ (I : List S61) (h : S61) : ab_ (I ++ [h]) (I.length : Int) = h := by
 rw [cO_ _ I.length (by simp), List.getElem_append_right om_]; simp
theorem ja_ (I : List S61) (h v : S61) : (I ++ [h]).set I.length v = I ++ [v] := by
 rw [List.set_append_right _ _ om_, Nat.sub_self, List.set_cons_zero]
theorem l5_ (t a b : Int) : mg [] t a b = [⟨t, a, b⟩] := rfl
theorem km_ (I : List S61) (h : S61) (t a b : Int) : mg (I ++ [h]) t a b = if h.f0 = t ∧ a ≤ h.f2 then I ++ [⟨h.f0, h.f1, mx h.f2 b⟩] else I ++ [h] ++ [⟨t, a, b⟩] := by
 unfold mg
 rw [List.getLast?_concat]
 simp only [List.dropLast_concat]
theorem hJ_ (out : List S61) (ys : List S42) (i : Nat) (hi : i < ys.length) (hy : ys.length ≤ 1048576) (ho : out.length ≤ 1048576) (h0 : 0 ≤ ys[i].f1 ∧ ys[i].f1 ≤ 1999) (k : Nat) :
  aM_.l0 (k + 1) out ys ys.length i = aM_.l0 k (mg out ys[i].f0 ys[i].f1 (mn (ys[i].f1 + 4) 2000)) ys ys.length ((i + 1 : Nat) : Int) := by
 have ew : wrap64 (ys[i].f1 + 4) = ys[i].f1 + 4 := w64 om_
 have ei : wrap64 ((i : Int) + 1) = ((i + 1 : Nat) : Int) := by rw [w64 om_]; omega
 rw [aM_.l0, if_pos om_, if_pos om_, if_pos om_, b8_ ys i hi, ew, ei]
 rcases List.eq_nil_or_concat out with rfl | ⟨I, h, e⟩
 ·rw [if_neg (by rw [List.length_nil, w64 om_]; omega), if_pos (by simp), l5_]
  rfl
 ·rw [List.concat_eq_append] at e
  subst e
  have el : wrap64 (((I ++ [h]).length : Int) - 1) = (I.length : Int) := by rw [List.length_append, List.length_singleton, w64 (by simp at ho; omega)]; omega
  rw [el, if_pos om_, if_pos om_, if_pos (by simp; omega), hG_, Int.toNat_natCast, ja_, km_]
  by_cases h1 : h.f0 = ys[i].f0
  ·rw [if_pos h1]
   by_cases h2 : h.f2 ≥ ys[i].f1
   ·rw [if_pos h2, if_pos ⟨h1, by omega⟩]
   ·rw [if_neg h2, if_pos om_, if_neg (fun g => h2 om_)]
  ·rw [if_neg h1, if_pos om_, if_neg (fun g => h1 g.1)]
def hl_ (a b : S42) : Prop := ba_ b a = false
theorem hN_ (ys : List S42) (hy : ys.length ≤ 200) (hg : ∀ x ∈ ys, aZ_ x) (hs : ys.Pairwise hl_) (d : Nat) : ∀ (i : Nat) (out : List S61), i + d = ys.length → cW_ out → (∀ t s, Cov out t s ↔ Pun (ys.take i) t s) → out.length ≤ i →
  (∀ h ∈ out, ∀ j, i ≤ j → ∀ hj : j < ys.length, h.f0 < ys[j].f0 ∨ (h.f0 = ys[j].f0 ∧ h.f1 ≤ ys[j].f1)) →
  ∃ L, cW_ L ∧ (∀ t s, Cov L t s ↔ Pun ys t s) ∧ L.length ≤ 200 ∧ Evn (fun k => aM_.l0 k out ys ys.length i) (fI_ L) := by
 induction d with
 | zero =>
  intro i out hi hn hc hl hb
  have ht : ys.take i = ys := List.take_of_length_le om_
  rw [ht] at hc
  refine ⟨out, hn, hc, by omega, ?_⟩
  refine Evn.step (h := fun k => (bk_.f k out).bind fun bt => some (bt.1, bt.2)) (fun k => ?_) ?_
  ·rw [aM_.l0, if_neg om_]
  ·exact ⟨dp_ 0 out.length, fun k hk => by simp only []; rw [kq_ hn om_ k hk]; rfl⟩
 | succ d ih =>
  intro i out hi hn hc hl hb
  have hi' : i < ys.length := by omega
  have hx := hg _ (List.getElem_mem hi')
  unfold aZ_ at hx
  have hm : mn (ys[i].f1 + 4) 2000 = ys[i].f1 + 4 ∧ ys[i].f1 + 4 ≤ 2000 ∨ mn (ys[i].f1 + 4) 2000 = 2000 ∧ 2000 ≤ ys[i].f1 + 4 := by unfold mn; omega
  obtain ⟨m1, m2, m3, m4⟩ := nw_ out ys[i].f0 ys[i].f1 (mn (ys[i].f1 + 4) 2000) hn om_ (fun h hh => hb h hh i (Nat.le_refl _) hi')
  obtain ⟨L, h1, h2, h3, h4⟩ := ih (i + 1) (mg out ys[i].f0 ys[i].f1 (mn (ys[i].f1 + 4) 2000)) om_ m1 (fun t s => by
   rw [m2, hc, List.take_succ_eq_append_getElem hi', eA_, fM_]
   constructor
   ·rintro (h | h)
    ·exact Or.inl h
    ·exact Or.inr om_
   ·rintro (h | h)
    ·exact Or.inl h
    ·exact Or.inr om_) om_ (fun h hh j hj hj' => by
   have e1 := m3 h hh
   have e2 : hl_ ys[i] ys[j] := (List.pairwise_iff_getElem.1 hs) i j hi' hj' om_
   unfold hl_ ba_ at e2
   have e2 := of_decide_eq_false e2
   omega)
  exact ⟨L, h1, h2, h3, Evn.step (fun k => hJ_ out ys i hi' om_ om_ om_ k) h4⟩
theorem gu_ (l : List S42) (hl : a4_ l) : ∃ L, cW_ L ∧ (∀ t s, Cov L t s ↔ Pun l t s) ∧ L.length ≤ 200 ∧ Evn (fun k => aM_.f k l) (fI_ L) := by
 have hll := hl.2
 obtain ⟨ys, hys⟩ : ∃ ys, bF_.f l = some ys := by
  unfold bF_.f
  rw [if_pos ⟨by omega, fun a _ b _ h1 h2 => by
   unfold ba_ at h1 h2
   have h1 := of_decide_eq_false h1
   have h2 := of_decide_eq_false h2
   exact ⟨by omega, by omega⟩⟩]
  exact ⟨_, rfl⟩
 have hp : ys.Perm l ∧ ys.Pairwise hl_ := by
  unfold bF_.f at hys
  split at hys
  ·obtain rfl := Option.some.inj hys
   refine ⟨List.mergeSort_perm _ _, ?_⟩
   have hO := ba_.swo
   have := List.pairwise_mergeSort (le := fun a b => !ba_ b a) (by
    intro a b c h1 h2
    simp only [Bool.not_eq_true'] at *
    exact hO.ntrans c b a h2 h1) (by
    intro a b
    simp only [Bool.or_eq_true, Bool.not_eq_true']
    by_cases h : ba_ b a = true
    ·right
     cases h2 : ba_ a b with
     | false => rfl
     | true => have := hO.trans a b a h2 h; rw [hO.irrefl] at this; cases this
    ·left; exact Bool.eq_false_iff.2 h) l
   exact this.imp (fun h => by unfold hl_; simpa using h)
  ·cases hys
 have hyl := hp.1.length_eq
 obtain ⟨L, h1, h2, h3, h4⟩ := hN_ ys om_ (fun x hx => hl.1 x (hp.1.mem_iff.1 hx)) hp.2 ys.length 0 [] om_ jF_ (fun t s => by simp [ek_, Pun]) (by simp) (fun h hh => by simp at hh)
 refine ⟨L, h1, fun t s => by rw [h2, jC_ hp.1], h3, ?_⟩
 refine Evn.congr (h := fun k => aM_.l0 k [] ys ys.length 0) (fun k => ?_) h4
 unfold aM_.f cA_.f
 rw [if_pos om_]
 simp only [Option.bind_some]
 rw [hys]
 rfl
theorem nI_ (l : List Bool) (i : Nat) (h : i < l.length) : dP_ false l (i : Int) = l[i] := by
 unfold dP_; rw [Int.toNat_natCast, List.getD_eq_getElem?_getD, List.getElem?_eq_getElem h]; rfl
def Arr (arr : List Bool) (P : Int → Prop) : Prop := arr.length = 2001 ∧ ∀ (s : Nat) (h : s < arr.length), arr[s] = true ↔ P s
theorem oa_ {arr : List Bool} {P : Int → Prop} (h : Arr arr P) (i : Nat) (hi : i < 2001) : Arr (arr.set i true) (fun s => P s ∨ s = i) := by
 refine ⟨by rw [List.length_set]; exact h.1, fun s hs => ?_⟩
 rw [List.length_set] at hs
 rw [List.getElem_set]
 by_cases e : i = s
 ·subst e; simp
 ·rw [if_neg e, h.2 s hs]
  constructor
  ·exact Or.inl
  ·rintro (g | g)
   ·exact g
   ·exact absurd om_ e
theorem eU_ {arr : List Bool} {P Q : Int → Prop} (h : Arr arr P) (hq : ∀ s : Nat, P s ↔ Q s) : Arr arr Q := ⟨h.1, fun s hs => (h.2 s hs).trans (hq s)⟩
section
variable (l : List S42) (hg : a4_ l) (all : List S61) (t : Int)
include hg
theorem j9_ {r : List S61 × Bool} (i : Nat) (hi : i < l.length) (d : Nat) : ∀ (j : Nat) (arr : List Bool) (P : Int → Prop), j + d = 4 → Arr arr P →
  (∀ arr', Arr arr' (fun s => P s ∨ (l[i].f0 = t ∧ l[i].f1 + j ≤ s ∧ s < l[i].f1 + 4 ∧ s < 2000)) → Evn (fun k => af_.l1 k l all t arr' l l.length ((i + 1 : Nat) : Int)) r) →
  Evn (fun k => af_.l2 k l all t arr j l l.length i l[i].f0 l[i].f1) r := by
 have hx := hg.1 _ (List.getElem_mem hi)
 unfold aZ_ at hx
 have hll := hg.2
 have ei : wrap64 ((i : Int) + 1) = ((i + 1 : Nat) : Int) := by rw [w64 om_]; omega
 induction d with
 | zero =>
  intro j arr P hj hA hk
  refine Evn.step (h := fun k => af_.j3 k l all t arr j l l.length i false l[i].f0 l[i].f1) (fun k => ?_) (Evn.step (h := fun k => af_.l1 k l all t arr l l.length ((i + 1 : Nat) : Int)) (fun k => ?_) (hk arr (eU_ hA (fun s => ⟨Or.inl, fun h => h.elim id (fun h => absurd h.2 om_)⟩))))
  ·rw [af_.l2, if_neg om_]
  ·rw [af_.j3, if_neg (by decide), ei]
 | succ d ih =>
  intro j arr P hj hA hk
  have ej : wrap64 ((j : Int) + 1) = ((j + 1 : Nat) : Int) := by rw [w64 om_]; omega
  refine Evn.step (h := fun k => af_.j3 k l all t arr j l l.length i (l[i].f0 == t) l[i].f0 l[i].f1) (fun k => by rw [af_.l2, if_pos om_]) ?_
  by_cases he : l[i].f0 = t
  ·have ew : wrap64 (l[i].f1 + (j : Int)) = l[i].f1 + j := w64 om_
   by_cases h2 : l[i].f1 + (j : Int) < 2000
   ·obtain ⟨q, hq⟩ : ∃ q : Nat, l[i].f1 + (j : Int) = q := ⟨(l[i].f1 + (j : Int)).toNat, by omega⟩
    refine Evn.step (h := fun k => af_.l2 k l all t (arr.set q true) ((j + 1 : Nat) : Int) l l.length i l[i].f0 l[i].f1) (fun k => ?_) (ih (j + 1) (arr.set q true) (fun s => P s ∨ s = q) om_ (oa_ hA q om_) (fun arr' h' => hk arr' (eU_ h' (fun s => ?_))))
    ·rw [af_.j3, if_pos (by simp [he]), ew, if_pos h2, if_pos om_, if_pos (by rw [hA.1]; omega), ej, hq, Int.toNat_natCast]
    ·constructor
     ·rintro ((h | h) | h)
      ·exact Or.inl h
      ·exact Or.inr om_
      ·exact Or.inr om_
     ·rintro (h | h)
      ·exact Or.inl (Or.inl h)
      ·by_cases e : (s : Int) = q
       ·exact Or.inl (Or.inr e)
       ·exact Or.inr om_
   ·refine Evn.step (h := fun k => af_.l2 k l all t arr ((j + 1 : Nat) : Int) l l.length i l[i].f0 l[i].f1) (fun k => ?_) (ih (j + 1) arr P om_ hA (fun arr' h' => hk arr' (eU_ h' (fun s => ?_))))
    ·rw [af_.j3, if_pos (by simp [he]), ew, if_neg h2, ej]
    ·constructor
     ·rintro (h | h)
      ·exact Or.inl h
      ·exact Or.inr om_
     ·rintro (h | h)
      ·exact Or.inl h
      ·exact Or.inr om_
  ·refine Evn.step (h := fun k => af_.l1 k l all t arr l l.length ((i + 1 : Nat) : Int)) (fun k => ?_) (hk arr (eU_ hA (fun s => ⟨Or.inl, fun h => h.elim id (fun h => absurd h.1 he)⟩)))
   rw [af_.j3, if_neg (by simp [he]), ei]
theorem mq_ {r : List S61 × Bool} (hk : ∀ arr, Arr arr (fun s => Pun l t s) → Evn (fun k => af_.l3 k l all t arr arr.length ((0 : Nat) : Int)) r) (d : Nat) : ∀ (i : Nat) (arr : List Bool), i + d = l.length → Arr arr (fun s => Pun (l.take i) t s) →
  Evn (fun k => af_.l1 k l all t arr l l.length i) r := by
 have hll := hg.2
 induction d with
 | zero =>
  intro i arr hi hA
  rw [List.take_of_length_le om_] at hA
  refine Evn.step (h := fun k => af_.l3 k l all t arr arr.length ((0 : Nat) : Int)) (fun k => ?_) (hk arr hA)
  rw [af_.l1, if_neg om_]
  rfl
 | succ d ih =>
  intro i arr hi hA
  have hi' : i < l.length := by omega
  refine Evn.step (h := fun k => af_.l2 k l all t arr ((0 : Nat) : Int) l l.length i l[i].f0 l[i].f1) (fun k => ?_) (j9_ l hg all t i hi' 4 0 arr _ om_ hA (fun arr' h' => ih (i + 1) arr' om_ (eU_ h' (fun s => ?_))))
  ·rw [af_.l1, if_pos om_, if_pos om_, if_pos om_, b8_ l i hi']
   rfl
  ·rw [List.take_succ_eq_append_getElem hi', eA_, fM_]
   constructor
   ·rintro (h | h)
    ·exact Or.inl h
    ·exact Or.inr ⟨h.1, by omega, h.2.2⟩
   ·rintro (h | h)
    ·exact Or.inl h
    ·exact Or.inr ⟨h.1, by omega, h.2.2⟩
end
theorem hR_ (l : List S42) (out : List S61) (t : Int) (arr : List Bool) (j : Nat) (hj : j < arr.length) (ha : arr.length = 2001) (ho : out.length ≤ 1048576) (h2 : ∀ h ∈ out, h.f0 < t ∨ (h.f0 = t ∧ h.f2 ≤ j)) (k : Nat) :
  af_.l3 (k + 1 + 1) l out t arr arr.length j = af_.l3 k l (if arr[j] = true then mg out t j ((j : Int) + 1) else out) t arr arr.length ((j + 1 : Nat) : Int) := by
 have ej : wrap64 ((j : Int) + 1) = ((j + 1 : Nat) : Int) := by rw [w64 om_]; omega
 rw [af_.l3, if_pos om_, if_pos om_, if_pos om_, nI_ arr j hj]
 cases hb : arr[j] with
 | false =>
  rw [if_neg (by decide), if_neg (by decide), af_.j5, if_neg (by decide), if_neg (by decide), ej]
 | true =>
  rw [if_pos rfl, if_pos rfl]
  rcases List.eq_nil_or_concat out with rfl | ⟨I, h, e⟩
  ·rw [if_neg (by simp), af_.j5, if_neg (by decide), if_pos rfl, if_pos (by simp), l5_, ej]
   rfl
  ·rw [List.concat_eq_append] at e
   subst e
   have hh := h2 h (List.mem_append_right _ (List.mem_singleton.2 rfl))
   have el : wrap64 (((I ++ [h]).length : Int) - 1) = (I.length : Int) := by rw [List.length_append, List.length_singleton, w64 (by simp at ho; omega)]; omega
   rw [if_pos (by rw [List.length_append, List.length_singleton]; omega), el, if_pos om_, if_pos (by rw [List.length_append, List.length_singleton]; omega), hG_, km_]
   by_cases h1 : h.f0 = t
   ·rw [if_pos h1, af_.j5]
    by_cases h3 : h.f2 = (j : Int)
    ·have em : mx h.f2 ((j : Int) + 1) = ((j + 1 : Nat) : Int) := by unfold mx; omega
     rw [if_pos (by simp [h3]), el, if_pos om_, if_pos (by simp; omega), hG_, Int.toNat_natCast, ja_, if_pos ⟨h1, by omega⟩, ej, em]
    ·rw [if_neg (by simp [h3]), if_pos rfl, if_pos om_, if_neg (fun g => h3 om_), ej]
     rfl
   ·rw [if_neg h1, af_.j5, if_neg (by decide), if_pos rfl, if_pos om_, if_neg (fun g => h1 g.1), ej]
    rfl
theorem lg_ (l : List S42) (t : Int) (ht : 0 ≤ t ∧ t < 20) (arr : List Bool) (hA : Arr arr (fun s => Pun l t s)) {r : List S61 × Bool}
  (hk : ∀ out, cW_ out → (∀ t' s, Cov out t' s ↔ t' < t + 1 ∧ 0 ≤ t' ∧ Pun l t' s) → (∀ h ∈ out, h.f0 < t + 1) → out.length ≤ 2001 * (t.toNat + 1) → Evn (fun k => af_.l0 k l out (t + 1)) r)
  (hp : ∀ s, Pun l t s → 0 ≤ s ∧ s < 2000) (d : Nat) : ∀ (j : Nat) (out : List S61), j + d = 2001 → cW_ out → (∀ t' s, Cov out t' s ↔ 0 ≤ t' ∧ (t' < t ∨ (t' = t ∧ s < j)) ∧ Pun l t' s) → (∀ h ∈ out, h.f0 < t ∨ (h.f0 = t ∧ h.f2 ≤ j)) → out.length ≤ 2001 * t.toNat + j →
  Evn (fun k => af_.l3 k l out t arr arr.length j) r := by
 induction d with
 | zero =>
  intro j out hj hn hc hb hl
  refine Evn.step (h := fun k => af_.l0 k l out (t + 1)) (fun k => ?_) (hk out hn (fun t' s => ?_) (fun h hh => ?_) om_)
  ·rw [af_.l3, if_neg (by rw [hA.1]; omega), w64 om_]
  ·rw [hc]
   constructor
   ·rintro ⟨h1, h2, h3⟩; exact ⟨by omega, h1, h3⟩
   ·rintro ⟨h1, h2, h3⟩
    refine ⟨h2, ?_, h3⟩
    by_cases e : t' = t
    ·subst e; exact Or.inr ⟨rfl, by have := hp s h3; omega⟩
    ·exact Or.inl om_
  ·have := hb h hh; omega
 | succ d ih =>
  intro j out hj hn hc hb hl
  have hj' : j < arr.length := by rw [hA.1]; omega
  have hm : cW_ (if arr[j] = true then mg out t j ((j : Int) + 1) else out) ∧ (∀ t' s, Cov (if arr[j] = true then mg out t j ((j : Int) + 1) else out) t' s ↔ 0 ≤ t' ∧ (t' < t ∨ (t' = t ∧ s < ((j + 1 : Nat) : Int))) ∧ Pun l t' s) ∧
    (∀ h ∈ (if arr[j] = true then mg out t j ((j : Int) + 1) else out), h.f0 < t ∨ (h.f0 = t ∧ h.f2 ≤ ((j + 1 : Nat) : Int))) ∧ (if arr[j] = true then mg out t j ((j : Int) + 1) else out).length ≤ out.length + 1 := by
   have hPj := hA.2 j hj'
   by_cases h : arr[j] = true
   ·have hP := hPj.1 h
    simp only [if_pos h]
    obtain ⟨m1, m2, m3, m4⟩ := nw_ out t j ((j : Int) + 1) hn om_ (fun x hx => by have := hb x hx; have := hn.2 x hx; omega)
    refine ⟨m1, fun t' s => ?_, fun x hx => ?_, m4⟩
    ·rw [m2, hc]
     constructor
     ·rintro (⟨g1, g2, g3⟩ | ⟨g1, g2, g3⟩)
      ·exact ⟨g1, by omega, g3⟩
      ·obtain rfl : s = j := by omega
       subst g1
       exact ⟨by omega, by omega, hP⟩
     ·rintro ⟨g1, g2, g3⟩
      by_cases e : t' = t ∧ s = j
      ·exact Or.inr ⟨e.1.symm, by omega, by omega⟩
      ·exact Or.inl ⟨g1, by omega, g3⟩
    ·have hx3 := m3 x hx
     have hx2 : x.f0 = t → x.f2 ≤ ((j + 1 : Nat) : Int) := by
      intro e
      rcases Int.lt_or_le ((j + 1 : Nat) : Int) x.f2 with g | g
      ·exfalso
       have c := (m2 t ((j + 1 : Nat) : Int)).1 ⟨x, hx, e, by have := m1.2 x hx; omega, g⟩
       rcases c with ⟨y, hy, e1, e2, e3⟩ | c
       ·have := hb y hy; omega
       ·omega
      ·exact g
     omega
   ·simp only [if_neg h]
    refine ⟨hn, fun t' s => ?_, fun x hx => by have := hb x hx; omega, by omega⟩
    rw [hc]
    constructor
    ·rintro ⟨g1, g2, g3⟩; exact ⟨g1, by omega, g3⟩
    ·rintro ⟨g1, g2, g3⟩
     refine ⟨g1, ?_, g3⟩
     by_cases e : t' = t ∧ s = j
     ·exfalso
      obtain ⟨rfl, rfl⟩ := e
      exact h (hPj.2 g3)
     ·omega
  have := ih (j + 1) _ om_ hm.1 hm.2.1 hm.2.2.1 om_
  refine Evn.step (h := fun k => af_.l3 (k + 1) l out t arr arr.length j) (fun k => rfl) ?_
  obtain ⟨K, hK⟩ := this
  refine ⟨K + 1, fun k hk' => ?_⟩
  obtain ⟨q, rfl⟩ : ∃ q, k = q + 1 := ⟨k - 1, by omega⟩
  simp only []
  rw [hR_ l out t arr j hj' hA.1 om_ hb q]
  exact hK q om_
theorem j6_ (l : List S42) (hg : a4_ l) (L : List S61) (hL : cW_ L) (hLl : L.length ≤ 200) (hLc : ∀ t s, Cov L t s ↔ Pun l t s) (d : Nat) : ∀ (t : Nat) (out : List S61), t + d = 20 → cW_ out → (∀ t' s, Cov out t' s ↔ t' < (t : Int) ∧ 0 ≤ t' ∧ Pun l t' s) → (∀ h ∈ out, h.f0 < (t : Int)) → out.length ≤ 2001 * t →
  Evn (fun k => af_.l0 k l out (t : Int)) (fI_ L) := by
 have hll := hg.2
 induction d with
 | zero =>
  intro t out ht hn hc hb hl
  have e : out = L := fC_ out L hn hL (fun t' s => by
   rw [hc, hLc]
   constructor
   ·exact fun h => h.2.2
   ·rintro h
    refine ⟨?_, ?_, h⟩
    ·obtain ⟨x, hx, e, _⟩ := h
     have := hg.1 x hx
     unfold aZ_ at this
     omega
    ·obtain ⟨x, hx, e, _⟩ := h
     have := hg.1 x hx
     unfold aZ_ at this
     omega)
  subst e
  refine Evn.step (h := fun k => (am_.f k out).bind fun bt => some (bt.1, bt.2)) (fun k => by rw [af_.l0, if_neg om_]) ?_
  exact Evn.bind (jQ_ hn om_) (Evn.const (fun k => rfl))
 | succ d ih =>
  intro t out ht hn hc hb hl
  refine Evn.step (h := fun k => af_.l1 k l out (t : Int) (List.replicate 2001 false) l l.length ((0 : Nat) : Int)) (fun k => by rw [af_.l0, if_pos om_, if_pos om_]; rfl) ?_
  refine mq_ l hg out t (fun arr hA => ?_) l.length 0 _ om_ ⟨List.length_replicate, fun s hs => by rw [List.getElem_replicate]; exact ⟨fun h => absurd h (by decide), fun ⟨x, hx, _⟩ => absurd hx (by simp)⟩⟩
  refine lg_ l t om_ arr hA (fun out' h1 h2 h3 h4 => ?_) (fun s hs => ?_) 2001 0 out om_ hn (fun t' s => ?_) (fun h hh => Or.inl (hb h hh)) (by simpa using hl)
  ·exact ih (t + 1) out' om_ h1 h2 h3 (by simpa using h4)
  ·obtain ⟨x, hx, e, e1, e2, e3⟩ := hs
   have := hg.1 x hx
   unfold aZ_ at this
   omega
  ·rw [hc]
   constructor
   ·rintro ⟨g1, g2, g3⟩; exact ⟨g2, Or.inl g1, g3⟩
   ·rintro ⟨g1, g2, g3⟩
    refine ⟨?_, g1, g3⟩
    rcases g2 with g2 | ⟨g2, g4⟩
    ·exact g2
    ·exfalso
     obtain ⟨x, hx, e, e1, e2, e3⟩ := g3
     have := hg.1 x hx
     unfold aZ_ at this
     omega
theorem jh_ (l : List S42) (hg : a4_ l) : ∃ R : List S61 × Bool, R.1.length ≤ 200 ∧ Evn (fun k => aM_.f k l) R ∧ Evn (fun k => af_.l0 k l [] 0) R := by
 obtain ⟨L, h1, h2, h3, h4⟩ := gu_ l hg
 refine ⟨fI_ L, ?_, h4, ?_⟩
 ·unfold fI_
  split
  ·rw [d2_]; exact h3
  ·simp
 ·exact j6_ l hg L h1 h3 h2 20 0 [] om_ jF_ (fun t' s => ⟨fun h => absurd h (ek_ _ _), fun h => absurd h.1 om_⟩) (fun h hh => by simp at hh) (by simp)
theorem nY_ (a last : Int) (h2 : last ≤ 1996) (d : Nat) : ∀ pos, pos ≤ last → last < pos + 4 * d →
  ∃ I e, stk a last pos d = I ++ [⟨a, e⟩] ∧ pos ≤ e ∧ e ≤ last ∧ last < e + 4 ∧ ∀ t s, Pun (stk a last pos d) t s ↔ a = t ∧ pos ≤ s ∧ s < e + 4 := by
 induction d with
 | zero => intro pos h1 h3; exfalso; omega
 | succ d ih =>
  intro pos h1 h3
  rw [stk, if_pos h1]
  by_cases h : pos + 4 ≤ last
  ·obtain ⟨I, e, e1, e2, e3, e4, e5⟩ := ih (pos + 4) h om_
   refine ⟨⟨a, pos⟩ :: I, e, by rw [e1]; rfl, by omega, e3, e4, fun t s => ?_⟩
   rw [show (⟨a, pos⟩ : S42) :: stk a last (pos + 4) d = [⟨a, pos⟩] ++ stk a last (pos + 4) d from rfl, eA_, fM_, e5]
   simp only
   constructor
   ·rintro (g | g)
    ·exact ⟨g.1, g.2.1, by omega⟩
    ·exact ⟨g.1, by omega, g.2.2⟩
   ·rintro ⟨g1, g2, g3⟩
    by_cases g : s < pos + 4
    ·exact Or.inl ⟨g1, g2, g, by omega⟩
    ·exact Or.inr ⟨g1, by omega, g3⟩
  ·have e0 : stk a last (pos + 4) d = [] := by
    cases d with
    | zero => rfl
    | succ d => rw [stk, if_neg h]
   refine ⟨[], pos, by rw [e0]; rfl, Int.le_refl _, h1, by omega, fun t s => ?_⟩
   rw [e0, fM_]
   simp only
   constructor
   ·rintro ⟨g1, g2, g3, g4⟩; exact ⟨g1, g2, g3⟩
   ·rintro ⟨g1, g2, g3⟩; exact ⟨g1, g2, g3, by omega⟩
theorem mU_ (x : S61) (hx : 0 ≤ x.f0 ∧ x.f0 ≤ 19 ∧ 0 ≤ x.f1 ∧ x.f1 < x.f2 ∧ x.f2 ≤ 2000) (hn : (cc_ x).length ≠ 0) (t s : Int) : Pun (cc_ x) t s ↔ x.f0 = t ∧ x.f1 ≤ s ∧ s < x.f2 := by
 have h4 : ¬ x.f2 - x.f1 < 4 := fun h => hn ((gP_ x).2 h)
 obtain ⟨I, e, e1, e2, e3, e4, e5⟩ := nY_ x.f0 (x.f2 - 4) om_ 501 x.f1 om_ om_
 unfold cc_ eb_
 have hl : 0 < (stk x.f0 (x.f2 - 4) x.f1 501).length := by rw [e1]; simp
 have hr : (ac_ (stk x.f0 (x.f2 - 4) x.f1 501) (((stk x.f0 (x.f2 - 4) x.f1 501).length - 1 : Nat) : Int)).f1 = e := by
  rw [b8_ _ _ om_]
  simp [e1]
 rw [if_pos hl, hr]
 by_cases h : e < x.f2 - 4
 ·rw [if_pos h, eA_, fM_, e5]
  simp only
  constructor
  ·rintro (g | g)
   ·exact ⟨g.1, g.2.1, by omega⟩
   ·exact ⟨g.1, by omega, by omega⟩
  ·rintro ⟨g1, g2, g3⟩
   by_cases g : s < e + 4
   ·exact Or.inl ⟨g1, g2, g⟩
   ·exact Or.inr ⟨g1, by omega, by omega, by omega⟩
 ·rw [if_neg h, e5]
  constructor
  ·rintro ⟨g1, g2, g3⟩; exact ⟨g1, g2, by omega⟩
  ·rintro ⟨g1, g2, g3⟩; exact ⟨g1, g2, by omega⟩
theorem jW_ (r : List S61) : ∀ t, (∀ x ∈ r, 0 ≤ x.f0 ∧ x.f0 ≤ 19 ∧ 0 ≤ x.f1 ∧ x.f1 < x.f2 ∧ x.f2 ≤ 2000) → (bU_ t r).2 = true →
  (∀ a s, Pun (bU_ t r).1 a s ↔ Pun t a s ∨ Cov r a s) ∧ (bU_ t r).1.length = t.length + (r.map (fun x => (cc_ x).length)).sum ∧ ∀ x ∈ r, (cc_ x).length ≠ 0 := by
 induction r with
 | nil =>
  intro t _ h
  rw [bU_] at h ⊢
  by_cases g : t.length > 200
  ·rw [if_pos g] at h; exact absurd h (by simp)
  ·rw [if_neg g]
   exact ⟨fun a s => by simp [ek_], by simp, fun x hx => by simp at hx⟩
 | cons x r ih =>
  intro t hr h
  rw [bU_] at h ⊢
  by_cases g : (cc_ x).length = 0
  ·rw [if_pos g] at h; exact absurd h (by simp)
  ·rw [if_neg g] at h ⊢
   obtain ⟨h1, h2, h3⟩ := ih (t ++ cc_ x) (fun y hy => hr y (List.mem_cons_of_mem _ hy)) h
   refine ⟨fun a s => ?_, ?_, fun y hy => ?_⟩
   ·rw [h1, eA_, mU_ x (hr x List.mem_cons_self) g, dm_, or_assoc]
   ·rw [h2, List.length_append, List.map_cons, List.sum_cons]; omega
   ·rcases List.mem_cons.1 hy with rfl | hy
    ·exact g
    ·exact h3 y hy
theorem jw_ {a b : S61} (h : a6_ a b = true) : a6_ b a = false := by
 cases h2 : a6_ b a with
 | false => rfl
 | true => have := a6_.swo.trans a b a h h2; rw [a6_.swo.irrefl] at this; cases this
def i7_ (a b : S61) : Prop := a.f0 = b.f0 → a.f2 < b.f1 ∨ b.f2 < a.f1
theorem lW_ (r : List S61) : ∀ p : List S61, p.Pairwise (fun a b => a6_ a b = true) → p.Pairwise i7_ → c9_ p r = true → (p ++ r).Pairwise (fun a b => a6_ a b = true) ∧ (p ++ r).Pairwise i7_ := by
 induction r with
 | nil => intro p h1 h2 _; rw [List.append_nil]; exact ⟨h1, h2⟩
 | cons x r ih =>
  intro p h1 h2 h
  rw [c9_, Bool.and_eq_true, Bool.and_eq_true, Bool.and_eq_true] at h
  have e : p ++ x :: r = (p ++ [x]) ++ r := by simp
  rw [e]
  refine ih (p ++ [x]) ?_ ?_ h.2
  ·rw [List.pairwise_append]
   refine ⟨h1, List.pairwise_singleton _ _, fun a ha b hb => ?_⟩
   obtain rfl := List.mem_singleton.1 hb
   have hl := h.1.1.2
   unfold fO_ at hl
   rcases List.eq_nil_or_concat p with rfl | ⟨I, y, hp⟩
   ·simp at ha
   ·rw [List.concat_eq_append] at hp
    subst hp
    rw [List.getLast?_concat] at hl
    rcases List.mem_append.1 ha with ha | ha
    ·have := (List.pairwise_append.1 h1).2.2 a ha y (List.mem_singleton.2 rfl)
     exact a6_.swo.trans a y b this hl
    ·obtain rfl := List.mem_singleton.1 ha
     exact hl
  ·rw [List.pairwise_append]
   refine ⟨h2, List.pairwise_singleton _ _, fun a ha b hb => ?_⟩
   obtain rfl := List.mem_singleton.1 hb
   have hl := h.1.2
   unfold dh_ at hl
   have := (List.all_eq_true.1 hl) a ha
   intro e0
   left
   simp only [Bool.not_eq_true', Bool.and_eq_false_iff, decide_eq_false_iff_not] at this
   omega
theorem nn_ {l m : List S61} (h : l.Perm m) (t s : Int) : Cov l t s ↔ Cov m t s := by
 unfold Cov
 constructor
 ·rintro ⟨x, hx, h1⟩; exact ⟨x, h.mem_iff.1 hx, h1⟩
 ·rintro ⟨x, hx, h1⟩; exact ⟨x, h.mem_iff.2 hx, h1⟩
theorem kJ_ {l : List S61} (hS : cE_ l = true) (h2 : (bU_ [] l).2 = true) {L : List S61} (hL : cW_ L) (hLl : L.length ≤ 200) (hc : ∀ t s, Cov L t s ↔ Pun (bU_ [] l).1 t s) : fI_ L = (l, true) := by
 have hf := eS_ hS
 have hp := (jW_ l [] hf.2 h2).1
 have hS' := hS
 unfold cE_ at hS'
 rw [Bool.and_eq_true] at hS'
 have ho := lW_ l [] List.Pairwise.nil List.Pairwise.nil hS'.1
 rw [List.nil_append] at ho
 have hm := List.mergeSort_perm l (fun a b : S61 => decide (a.f0 < b.f0 ∨ (a.f0 = b.f0 ∧ a.f1 ≤ b.f1)))
 have hs := List.pairwise_mergeSort (le := fun a b : S61 => decide (a.f0 < b.f0 ∨ (a.f0 = b.f0 ∧ a.f1 ≤ b.f1))) (by
  intro a b c h1 h2
  have h1 := of_decide_eq_true h1
  have h2 := of_decide_eq_true h2
  exact decide_eq_true om_) (by
  intro a b
  rw [Bool.or_eq_true]
  by_cases g : a.f0 < b.f0 ∨ (a.f0 = b.f0 ∧ a.f1 ≤ b.f1)
  ·exact Or.inl (decide_eq_true g)
  ·exact Or.inr (decide_eq_true om_)) l
 generalize l.mergeSort (fun a b : S61 => decide (a.f0 < b.f0 ∨ (a.f0 = b.f0 ∧ a.f1 ≤ b.f1))) = M at hm hs
 have haw : M.Pairwise i7_ := (hm.pairwise_iff (R := i7_) (fun {a b} h e => (h e.symm).symm)).2 ho.2
 have hM : cW_ M := by
  refine ⟨(hs.and haw).imp_of_mem (fun {a b} ha hb h => ?_), fun x hx => (hf.2 x (hm.mem_iff.1 hx)).2.2.2.1⟩
  have h1 := of_decide_eq_true h.1
  have h2 := h.2
  have := hf.2 a (hm.mem_iff.1 ha)
  have := hf.2 b (hm.mem_iff.1 hb)
  unfold i7_ at h2
  unfold fu_
  by_cases e : a.f0 = b.f0
  ·have := h2 e
   omega
  ·omega
 have e : M = L := fC_ M L hM hL (fun t s => by
  rw [nn_ hm, hc, hp]
  simp [Pun])
 have hpl : l.Perm L := e ▸ hm.symm
 have hin := gG_ hL om_ hpl (ho.1.imp (fun {a b} h => jw_ h))
 unfold fI_
 rw [← hin, if_pos hS]
def dO_ (a b : Int) : Int := if a ≤ b then b - a else a - b
def way (ac : Int) (a b : S42) : Int := dO_ a.f1 b.f1 + ac * dO_ a.f0 b.f0
def dn_ (ac : Int) : List S42 → Int
 | a :: b :: r => way ac a b + dn_ ac (b :: r)
 | _ => 0
theorem e5_ {ac : Int} (hac : 1 ≤ ac ∧ ac ≤ 50) {a b : S42} (ha : aZ_ a) (hb : aZ_ b) : 0 ≤ ac * dO_ a.f0 b.f0 ∧ ac * dO_ a.f0 b.f0 ≤ 950 ∧ 0 ≤ way ac a b ∧ way ac a b ≤ 3000 := by
 unfold aZ_ at ha hb
 have h0 : 0 ≤ dO_ a.f0 b.f0 ∧ dO_ a.f0 b.f0 ≤ 19 := by unfold dO_; split <;> omega
 have h1 : 0 ≤ dO_ a.f1 b.f1 ∧ dO_ a.f1 b.f1 ≤ 1999 := by unfold dO_; split <;> omega
 have h2 : 0 ≤ ac * dO_ a.f0 b.f0 := Int.mul_nonneg om_ h0.1
 have h3 : ac * dO_ a.f0 b.f0 ≤ 50 * 19 := Int.mul_le_mul hac.2 h0.2 h0.1 om_
 unfold way; omega
theorem lQ_ {a b : Int} (ha : 0 ≤ a ∧ a ≤ 5000) (hb : 0 ≤ b ∧ b ≤ 5000) : c5_.f (wrap64 (a - b)) = some (dO_ a b) := by
 unfold c5_.f dM_.f dO_
 rw [w64 (x := a - b) om_, w64 om_]
 by_cases h : a - b > -(a - b)
 ·rw [if_pos h, if_neg om_]; rfl
 ·rw [if_neg h]
  split
  ·simp; omega
  ·omega
theorem kN_ {ac : Int} (hac : 1 ≤ ac ∧ ac ≤ 50) {a b : S42} (ha : aZ_ a) (hb : aZ_ b) : dC_.f a.f0 a.f1 b.f0 b.f1 ac = some (way ac a b) := by
 have hw := e5_ hac ha hb
 unfold aZ_ at ha hb
 unfold dC_.f
 rw [lQ_ om_ om_, lQ_ om_ om_]
 simp only [Option.bind_some]
 unfold way at hw ⊢
 rw [w64 (x := ac * dO_ a.f0 b.f0) om_, w64 om_]
theorem ko_ {a b : Int} (ha : 0 ≤ a ∧ a ≤ 5000) (hb : 0 ≤ b ∧ b ≤ 5000) : cD_.f a b = some (dO_ a b) := by
 unfold cD_.f dO_ mx
 rw [w64 (x := a - b) om_, w64 om_]
 congr 1
 split <;> split <;> omega
theorem g8_ {ac : Int} (hac : 1 ≤ ac ∧ ac ≤ 50) {a b : S42} (ha : aZ_ a) (hb : aZ_ b) : bB_.f a.f0 a.f1 b.f0 b.f1 ac = some (way ac a b) := by
 have hw := e5_ hac ha hb
 unfold aZ_ at ha hb
 unfold bB_.f
 rw [ko_ om_ om_, ko_ om_ om_]
 simp only [Option.bind_some]
 unfold way at hw ⊢
 rw [w64 (x := ac * dO_ a.f0 b.f0) om_, w64 om_]
theorem iy_ {ac : Int} (hac : 1 ≤ ac ∧ ac ≤ 50) (l : List S42) (hok : a4_ l) (d : Nat) : ∀ (k i : Nat) (n : Int), i + d = l.length → d < k → 1 ≤ i → 0 ≤ n ∧ n ≤ 3000 * i →
  aS_.l0 k l ac n i = some (n + dn_ ac (l.drop (i - 1))) := by
 have hl := hok.2
 induction d with
 | zero =>
  intro k i n hi hk h1 hn
  obtain ⟨k, rfl⟩ := su_ k
  rw [aS_.l0, if_neg om_, bX_ l (i - 1) om_, List.drop_of_length_le om_]
  simp [dn_]
 | succ d ih =>
  intro k i n hi hk h1 hn
  obtain ⟨k, rfl⟩ := su_ k
  obtain ⟨j, rfl⟩ : ∃ j, i = j + 1 := ⟨i - 1, by omega⟩
  have e1 : wrap64 (((j + 1 : Nat) : Int) - 1) = (j : Int) := by rw [w64 om_]; omega
  have e2 : wrap64 (((j + 1 : Nat) : Int) + 1) = ((j + 1 + 1 : Nat) : Int) := by rw [w64 om_]; omega
  have ha : aZ_ l[j] := hok.1 _ (List.getElem_mem _)
  have hb : aZ_ l[j + 1] := hok.1 _ (List.getElem_mem _)
  have hw := e5_ hac ha hb
  rw [aS_.l0, if_pos om_, e1, e2, if_pos om_, if_pos om_, if_pos om_, b8_ l (j + 1) om_, b8_ l j om_, g8_ hac ha hb, Nat.add_sub_cancel, bX_ l j om_, bX_ l (j + 1) om_, dn_, ← bX_ l (j + 1) om_]
  simp only [Option.bind_some]
  rw [w64 om_, ih k (j + 1 + 1) _ om_ om_ om_ om_, Nat.add_sub_cancel]
  congr 1; omega
theorem jS_ {ac : Int} (hac : 1 ≤ ac ∧ ac ≤ 50) (l : List S42) (hok : a4_ l) (k : Nat) (hk : 202 < k) : aS_.f k l ac = some (dn_ ac l) := by
 have hl := hok.2
 unfold aS_.f
 by_cases h : l.length = 0
 ·obtain ⟨k, rfl⟩ := su_ k
  rw [aS_.l0, if_neg om_, List.length_eq_zero_iff.1 h]; rfl
 ·have := iy_ hac l hok (l.length - 1) k 1 0 om_ om_ om_ om_
  simpa using this
theorem gS_ (ac : Int) : co_.f ac = some (decide (1 ≤ ac ∧ ac ≤ 50)) := by
 unfold co_.f
 split
 ·exact dD_ om_
 ·exact dQ_ om_
theorem fe_ (l : List S42) (hl : l.length ≤ 1048576) (ac : Int) (k : Nat) (hk : l.length + 300 < k) : bC_.f k l ac = some (if a4_ l ∧ 1 ≤ ac ∧ ac ≤ 50 then (dn_ ac l, true) else (0, false)) := by
 unfold bC_.f
 rw [cn_ l hl _ om_, gS_]
 simp only [Option.bind_some, decide_eq_true_eq]
 by_cases h : a4_ l
 ·by_cases hm : 1 ≤ ac ∧ ac ≤ 50
  ·rw [if_pos h, if_pos hm, if_pos ⟨h, hm⟩, jS_ hm l h k om_]; rfl
  ·rw [if_pos h, if_neg hm, if_neg (fun h => hm h.2)]
 ·rw [if_neg h, if_neg (fun h' => h h'.1)]
def bY_ (m : Int) (out : List Int) (x : S42) : List Int := out.set (Int.tmod x.f0 m).toNat (rd out (Int.tmod x.f0 m) + 1)
def eK_ (m : Int) (l : List S42) : List Int := l.foldl (bY_ m) (List.replicate m.toNat 0)
theorem gW_ {out : List Int} {n : Int} (hn : 0 ≤ n) (h : ∀ x ∈ out, 0 ≤ x ∧ x ≤ n) (i : Int) : 0 ≤ rd out i ∧ rd out i ≤ n := by
 unfold rd
 rw [List.getD_eq_getElem?_getD]
 cases he : out[i.toNat]? with
 | none => simp; omega
 | some v => exact h v (List.mem_of_getElem? he)
theorem eP_ {m : Int} {out : List Int} {n : Int} (hn : 0 ≤ n) (h : ∀ x ∈ out, 0 ≤ x ∧ x ≤ n) (x : S42) : ∀ y ∈ bY_ m out x, 0 ≤ y ∧ y ≤ n + 1 := by
 intro y hy
 unfold bY_ at hy
 have hb := gW_ hn h (Int.tmod x.f0 m)
 rcases List.mem_or_eq_of_mem_set hy with hy | hy
 ·have := h y hy; omega
 ·omega
theorem fz_ (m : Int) (out : List Int) (x : S42) : (bY_ m out x).length = out.length := by
 unfold bY_; simp
theorem iH_ {m : Int} (hm : 1 ≤ m ∧ m ≤ 5) (l : List S42) (hok : a4_ l) (d : Nat) : ∀ (k i : Nat) (out : List Int), i + d = l.length → d < k → out.length = m.toNat → (∀ x ∈ out, 0 ≤ x ∧ x ≤ (i : Int)) →
  aX_.l0 k m out l l.length i = some ((l.drop i).foldl (bY_ m) out, true) := by
 have hl := hok.2
 induction d with
 | zero =>
  intro k i out hi hk ho hb
  obtain ⟨k, rfl⟩ := su_ k
  rw [aX_.l0, if_neg om_, List.drop_of_length_le om_]
  rfl
 | succ d ih =>
  intro k i out hi hk ho hb
  obtain ⟨k, rfl⟩ := su_ k
  have hx : aZ_ l[i] := hok.1 _ (List.getElem_mem _)
  have hx' := hx
  unfold aZ_ at hx'
  have ht : Int.tmod l[i].f0 m = l[i].f0 % m := Int.tmod_eq_emod_of_nonneg hx'.1
  have t0 := Int.emod_nonneg l[i].f0 (show m ≠ 0 by omega)
  have t1 := Int.emod_lt_of_pos l[i].f0 (show 0 < m by omega)
  have hr := gW_ om_ hb (Int.tmod l[i].f0 m)
  rw [aX_.l0, if_pos om_, if_pos om_, if_pos om_, if_neg om_, b8_ l i om_, if_pos om_, if_pos om_, w64 om_, w64 om_, bX_ l i om_, List.foldl_cons]
  rw [show ((i : Int) + 1) = ((i + 1 : Nat) : Int) by omega]
  refine ih k (i + 1) _ om_ om_ (by rw [List.length_set]; exact ho) ?_
  have := eP_ (m := m) om_ hb l[i]
  unfold bY_ at this
  intro x hx
  have := this x hx
  omega
theorem iz_ (l : List S42) (hl : l.length ≤ 1048576) (m : Int) (k : Nat) (hk : l.length + 300 < k) : aX_.f k l m = some (if a4_ l ∧ 1 ≤ m ∧ m ≤ 5 then (eK_ m l, true) else ([], false)) := by
 obtain ⟨k, rfl⟩ := su_ k
 unfold aX_.f dt_.f
 rw [el_ l hl _ om_]
 simp only [Option.bind_some, decide_eq_true_eq, iQ_, aX_.j0]
 by_cases h : a4_ l
 ·by_cases hm : 1 ≤ m ∧ m ≤ 5
  ·have := iH_ hm l h l.length k 0 (List.replicate m.toNat 0) om_ om_ (by simp) (fun x hx => by rw [List.eq_of_mem_replicate hx]; simp)
   rw [if_pos h, if_neg (by simp [hm]), if_pos om_, if_pos om_, if_pos ⟨h, hm⟩]
   rw [List.drop_zero] at this
   exact this
  ·rw [if_pos h, if_pos (by simp; omega), if_neg (fun h => hm h.2)]
 ·rw [if_neg h, if_pos trivial, if_neg (fun h' => h h'.1)]
theorem iM_ {m : Int} (hm : 1 ≤ m ∧ m ≤ 5) (l : List S42) (hok : a4_ l) (d : Nat) : ∀ (k i : Nat) (out : List Int), i + d = l.length → d < k → out.length = m.toNat → (∀ x ∈ out, 0 ≤ x ∧ x ≤ (i : Int)) →
  aO_.l0 k m out l l.length i = some ((l.drop i).foldl (bY_ m) out, true) := by
 have hl := hok.2
 induction d with
 | zero =>
  intro k i out hi hk ho hb
  obtain ⟨k, rfl⟩ := su_ k
  rw [aO_.l0, if_neg om_, List.drop_of_length_le om_]
  rfl
 | succ d ih =>
  intro k i out hi hk ho hb
  obtain ⟨k, rfl⟩ := su_ k
  have hx : aZ_ l[i] := hok.1 _ (List.getElem_mem _)
  have hx' := hx
  unfold aZ_ at hx'
  have ht : Int.tmod l[i].f0 m = l[i].f0 % m := Int.tmod_eq_emod_of_nonneg hx'.1
  have t0 := Int.emod_nonneg l[i].f0 (show m ≠ 0 by omega)
  have t1 := Int.emod_lt_of_pos l[i].f0 (show 0 < m by omega)
  have hr := gW_ om_ hb (Int.tmod l[i].f0 m)
  rw [aO_.l0, if_pos om_, if_pos om_, if_pos om_, if_neg om_, b8_ l i om_, if_pos om_, if_pos om_, w64 om_, w64 om_, bX_ l i om_, List.foldl_cons]
  rw [show ((i : Int) + 1) = ((i + 1 : Nat) : Int) by omega]
  refine ih k (i + 1) _ om_ om_ (by rw [List.length_set]; exact ho) ?_
  have := eP_ (m := m) om_ hb l[i]
  unfold bY_ at this
  intro x hx
  have := this x hx
  omega
theorem ga_ (l : List S42) (hl : l.length ≤ 1048576) (m : Int) (k : Nat) (hk : l.length + 300 < k) : aO_.f k l m = some (if a4_ l ∧ 1 ≤ m ∧ m ≤ 5 then (eK_ m l, true) else ([], false)) := by
 obtain ⟨k, rfl⟩ := su_ k
 have ht : da_.f m = some (decide (1 ≤ m ∧ m ≤ 5)) := by
  unfold da_.f
  split
  ·exact dD_ om_
  ·exact dQ_ om_
 unfold aO_.f
 rw [cn_ l hl _ om_, ht]
 simp only [Option.bind_some, decide_eq_true_eq, aO_.j0]
 by_cases h : a4_ l
 ·by_cases hm : 1 ≤ m ∧ m ≤ 5
  ·have := iM_ hm l h l.length k 0 (List.replicate m.toNat 0) om_ om_ (by simp) (fun x hx => by rw [List.eq_of_mem_replicate hx]; simp)
   rw [if_pos h, if_neg (by simp [hm]), if_pos om_, if_pos om_, if_pos ⟨h, hm⟩]
   rw [List.drop_zero] at this
   exact this
  ·rw [if_pos h, if_pos (by simp; omega), if_neg (fun h => hm h.2)]
 ·rw [if_neg h, if_pos trivial, if_neg (fun h' => h h'.1)]
theorem jZ_ (m : Int) (l : List S42) : (eK_ m l).length = m.toNat := by
 unfold eK_
 have : ∀ (l : List S42) (out : List Int), (l.foldl (bY_ m) out).length = out.length := by
  intro l
  induction l with
  | nil => intro out; rfl
  | cons x r ih => intro out; rw [List.foldl_cons, ih, fz_]
 rw [this]; simp
theorem jP_ (d : Array Int) (hs : ∀ i j, i ≤ j → j < d.size → d[i]! ≤ d[j]!) : ∀ m, m ≤ d.size → (Lib.compactUpTo d m).Pairwise (· < ·) ∧ ∀ x, x ∈ Lib.compactUpTo d m ↔ ∃ j, j < m ∧ d[j]! = x := by
 intro m
 induction m with
 | zero => intro _; exact ⟨by simp [Lib.compactUpTo], fun x => by simp [Lib.compactUpTo]⟩
 | succ m ih =>
  intro hm
  obtain ⟨h1, h2⟩ := ih om_
  rw [Lib.compactUpTo_succ]
  cases hk : Lib.keeps d m with
  | true =>
   rw [if_pos rfl]
   have hlt : ∀ x ∈ Lib.compactUpTo d m, x < d[m]! := by
    intro x hx
    obtain ⟨j, hj, rfl⟩ := (h2 x).1 hx
    have e1 := hs j (m - 1) om_ om_
    have e2 := hs (m - 1) m om_ om_
    have e3 : d[m]! ≠ d[m - 1]! := by
     intro he
     rw [Lib.keeps_neg om_ he] at hk
     cases hk
    omega
   refine ⟨List.pairwise_append.2 ⟨h1, List.pairwise_singleton _ _, fun a ha b hb => by rw [List.mem_singleton.1 hb]; exact hlt a ha⟩, fun x => ?_⟩
   rw [List.mem_append, List.mem_singleton, h2]
   constructor
   ·rintro (⟨j, hj, rfl⟩ | rfl)
    ·exact ⟨j, by omega, rfl⟩
    ·exact ⟨m, by omega, rfl⟩
   ·rintro ⟨j, hj, rfl⟩
    by_cases h : j = m
    ·subst h; exact Or.inr rfl
    ·exact Or.inl ⟨j, by omega, rfl⟩
  | false =>
   rw [if_neg (by decide), List.append_nil]
   have hm0 : 0 < m := by
    rcases Nat.eq_zero_or_pos m with h | h
    ·subst h; simp [Lib.keeps] at hk
    ·exact h
   have he : d[m]! = d[m - 1]! := by
    apply Classical.byContradiction
    intro hne
    rw [Lib.keeps_pos hne] at hk
    cases hk
   refine ⟨h1, fun x => ?_⟩
   rw [h2]
   constructor
   ·rintro ⟨j, hj, rfl⟩; exact ⟨j, by omega, rfl⟩
   ·rintro ⟨j, hj, rfl⟩
    by_cases h : j = m
    ·subst h; exact ⟨j - 1, by omega, he.symm⟩
    ·exact ⟨j, by omega, rfl⟩
def fa_ (l : List Int) : List Int := Lib.compact (l.mergeSort fun x y => decide (x ≤ y))
theorem ju_ (l : List Int) : (fa_ l).Pairwise (· < ·) ∧ ∀ x, x ∈ fa_ l ↔ x ∈ l := by
 have hp := List.mergeSort_perm l (fun x y : Int => decide (x ≤ y))
 have hs : (l.mergeSort fun x y => decide (x ≤ y)).Pairwise (fun a b => decide (a ≤ b) = true) := List.pairwise_mergeSort (le := fun x y : Int => decide (x ≤ y)) (fun a b c h1 h2 => by simp at *; omega) (fun a b => by simp; omega) l
 unfold fa_ Lib.compact
 generalize (l.mergeSort fun x y => decide (x ≤ y)) = z at hp hs
 have hs2 : ∀ i j, i ≤ j → j < z.toArray.size → z.toArray[i]! ≤ z.toArray[j]! := by
  intro i j hij hj
  have hj' : j < z.length := by simpa using hj
  rw [getElem!_pos z.toArray j hj, getElem!_pos z.toArray i om_]
  by_cases h : i = j
  ·subst h; exact Int.le_refl _
  ·have := List.pairwise_iff_getElem.1 hs i j om_ hj' om_
   simpa using this
 obtain ⟨h1, h2⟩ := jP_ z.toArray hs2 z.length (by simp)
 refine ⟨h1, fun x => ?_⟩
 rw [h2, ← hp.mem_iff]
 constructor
 ·rintro ⟨j, hj, rfl⟩
  rw [getElem!_pos z.toArray j (by simpa using hj)]
  simp
 ·intro hx
  obtain ⟨j, hj, rfl⟩ := List.mem_iff_getElem.1 hx
  exact ⟨j, hj, by rw [getElem!_pos z.toArray j (by simpa using hj)]; simp⟩
theorem gL_ : ∀ (a b : List Int), a.Pairwise (· < ·) → b.Pairwise (· < ·) → (∀ x, x ∈ a ↔ x ∈ b) → a = b
 | [], [], _, _, _ => rfl
 | [], y :: b, _, _, h => by have := (h y).2 List.mem_cons_self; cases this
 | x :: a, [], _, _, h => by have := (h x).1 List.mem_cons_self; cases this
 | x :: a, y :: b, ha, hb, h => by
  rw [List.pairwise_cons] at ha hb
  have e : x = y := by
   rcases List.mem_cons.1 ((h x).1 List.mem_cons_self) with e | e
   ·exact e
   ·rcases List.mem_cons.1 ((h y).2 List.mem_cons_self) with e2 | e2
    ·exact e2.symm
    ·have := hb.1 x e; have := ha.1 y e2; omega
  subst e
  rw [gL_ a b ha.2 hb.2 (fun z => ?_)]
  have hz := h z
  rw [List.mem_cons, List.mem_cons] at hz
  constructor
  ·intro hza
   rcases hz.1 (Or.inr hza) with e | e
   ·have := ha.1 z hza; omega
   ·exact e
  ·intro hzb
   rcases hz.2 (Or.inr hzb) with e | e
   ·have := hb.1 z hzb; omega
   ·exact e
def cd_ (l : List S42) (s : Int) : List S42 := l.filter fun x => decide (x.f1 = s)
def Low (a b : S42) : Prop := a.f0 ≤ b.f0
def ew_ (l : List S42) (s : Int) : List S42 := (cd_ l s).mergeSort fun a b => decide (a.f0 ≤ b.f0)
theorem ez_ (l : List S42) (s : Int) : ∀ x ∈ cd_ l s, x.f1 = s := fun x hx => by
 have := (List.mem_filter.1 hx).2
 simpa using this
theorem eD_ (l : List S42) (s : Int) : (cd_ l s).length ≤ l.length := List.length_filter_le _ _
theorem dT_ (l : List S42) (s : Int) : (ew_ l s).Perm (cd_ l s) := List.mergeSort_perm _ _
theorem fE_ (l : List S42) (s : Int) : (ew_ l s).Pairwise Low := by
 have := List.pairwise_mergeSort (le := fun a b : S42 => decide (a.f0 ≤ b.f0)) (fun a b c h1 h2 => by simp at *; omega) (fun a b => by simp; omega) (cd_ l s)
 exact this.imp (fun h => by simpa [Low] using h)
theorem fD_ (l : List S42) (s : Int) : (ew_ l s).length ≤ l.length := by rw [(dT_ l s).length_eq]; exact eD_ l s
theorem j5_ {l : List S42} {s : Int} {a b : S42} (ha : a ∈ cd_ l s) (hb : b ∈ cd_ l s) (h : a.f0 = b.f0) : a = b := by
 have h1 := ez_ l s a ha
 have h2 := ez_ l s b hb
 obtain ⟨a0, a1⟩ := a
 obtain ⟨b0, b1⟩ := b
 simp only at h h1 h2
 rw [h, h1, h2]
theorem mi_ {l : List S42} {s : Int} {P : List S42} (hp : P.Perm (cd_ l s)) (hs : P.Pairwise Low) : P = ew_ l s := by
 refine dR_ Low P (ew_ l s) (hp.trans (dT_ l s).symm) hs (fE_ l s) (fun a ha b hb h1 h2 => ?_)
 exact j5_ (hp.mem_iff.1 ha) (hp.mem_iff.1 hb) (Int.le_antisymm h1 h2)
def c8_ (l : List S42) (i : Nat) (s : Int) : List S42 := if i % 2 = 0 then ew_ l s else (ew_ l s).reverse
def ans (l : List S42) : Nat → List Int → List S42
 | _, [] => []
 | i, s :: r => c8_ l i s ++ ans l (i + 1) r
def cP_ (l : List S42) : Int → Nat → List Int
 | _, 0 => []
 | s, d + 1 => if (cd_ l s).length = 0 then cP_ l (s + 1) d else s :: cP_ l (s + 1) d
theorem e2_ (l : List S42) (i : Nat) (s : Int) : (c8_ l i s).length = (ew_ l s).length := by
 unfold c8_
 split
 ·rfl
 ·rw [List.length_reverse]
theorem fi_ (l : List S42) (d : Nat) : ∀ s : Int, (cP_ l s d).Pairwise (· < ·) ∧ ∀ x, x ∈ cP_ l s d ↔ (s ≤ x ∧ x < s + d ∧ (cd_ l x).length ≠ 0) := by
 induction d with
 | zero => intro s; exact ⟨List.Pairwise.nil, fun x => ⟨fun h => (by cases h), fun h => om_⟩⟩
 | succ d ih =>
  intro s
  obtain ⟨h1, h2⟩ := ih (s + 1)
  unfold cP_
  by_cases h : (cd_ l s).length = 0
  ·rw [if_pos h]
   refine ⟨h1, fun x => ?_⟩
   rw [h2]
   constructor
   ·rintro ⟨a, b, c⟩; exact ⟨by omega, by omega, c⟩
   ·rintro ⟨a, b, c⟩
    have : x ≠ s := by rintro rfl; exact c h
    exact ⟨by omega, by omega, c⟩
  ·rw [if_neg h]
   refine ⟨List.pairwise_cons.2 ⟨fun x hx => by have := (h2 x).1 hx; omega, h1⟩, fun x => ?_⟩
   rw [List.mem_cons, h2]
   constructor
   ·rintro (rfl | ⟨a, b, c⟩)
    ·exact ⟨by omega, by omega, h⟩
    ·exact ⟨by omega, by omega, c⟩
   ·rintro ⟨a, b, c⟩
    by_cases hx : x = s
    ·exact Or.inl hx
    ·exact Or.inr ⟨by omega, by omega, c⟩
theorem kM_ (l : List S42) (hok : ∀ x ∈ l, aZ_ x) : fa_ (l.map fun x => x.f1) = cP_ l 0 2000 := by
 obtain ⟨a1, a2⟩ := ju_ (l.map fun x => x.f1)
 obtain ⟨b1, b2⟩ := fi_ l 2000 0
 refine gL_ _ _ a1 b1 (fun x => ?_)
 rw [a2, b2, List.mem_map]
 constructor
 ·rintro ⟨y, hy, rfl⟩
  have := hok y hy
  unfold aZ_ at this
  refine ⟨by omega, by omega, ?_⟩
  have hm : y ∈ cd_ l y.f1 := List.mem_filter.2 ⟨hy, by simp⟩
  have := List.length_pos_of_mem hm
  omega
 ·rintro ⟨_, _, h⟩
  obtain ⟨y, hy⟩ := List.exists_mem_of_length_pos (by omega : 0 < (cd_ l x).length)
  exact ⟨y, (List.mem_filter.1 hy).1, ez_ l x y hy⟩
theorem hy_ (l : List S42) (s : Int) (i : Nat) (h : i < l.length) : cd_ (l.take (i + 1)) s = cd_ (l.take i) s ++ (if l[i].f1 = s then [l[i]] else []) := by
 unfold cd_
 rw [List.take_succ_eq_append_getElem h, List.filter_append]
 congr 1
 by_cases hc : l[i].f1 = s
 ·rw [if_pos hc, List.filter_cons_of_pos (by simpa using hc), List.filter_nil]
 ·rw [if_neg hc, List.filter_cons_of_neg (by simpa using hc), List.filter_nil]
theorem ky_ (l : List S42) (hl : l.length ≤ 1000) (i : Nat) (s : Int) : bW_.f i (cd_ l s) = some (c8_ l i s) := by
 have hc : (cd_ l s).length ≤ 8796093022208 ∧ ∀ a ∈ cd_ l s, ∀ b ∈ cd_ l s, bx_ i a b = false → bx_ i b a = false → a.f0 = b.f0 ∧ a.f1 = b.f1 := by
  refine ⟨by have := eD_ l s; omega, fun a ha b hb h1 h2 => ⟨?_, by rw [ez_ l s a ha, ez_ l s b hb]⟩⟩
  unfold bx_ at h1 h2
  split at h1
  ·rename_i hn
   rw [if_pos hn] at h2
   have := of_decide_eq_false h1; have := of_decide_eq_false h2; omega
  ·rename_i hn
   rw [if_neg hn] at h2
   have := of_decide_eq_false h1; have := of_decide_eq_false h2; omega
 have hf : bW_.f i (cd_ l s) = some ((cd_ l s).mergeSort (fun a b => !bx_ i b a)) := by unfold bW_.f; rw [if_pos hc]
 rw [hf]
 congr 1
 have hmod : Int.tmod (i : Int) 2 = ((i % 2 : Nat) : Int) := by rw [Int.tmod_eq_emod_of_nonneg om_]; omega
 symm
 refine bW_.uniq hf ?_ ?_
 ·unfold c8_
  split
  ·exact dT_ l s
  ·exact (List.reverse_perm _).trans (dT_ l s)
 ·unfold c8_ bx_
  by_cases h : i % 2 = 0
  ·rw [if_pos h]
   refine (fE_ l s).imp (fun {a b} hab => ?_)
   unfold Low at hab
   rw [if_pos (by rw [hmod, h]; rfl)]
   exact decide_eq_false om_
  ·rw [if_neg h, List.pairwise_reverse]
   refine (fE_ l s).imp (fun {a b} hab => ?_)
   unfold Low at hab
   rw [if_neg (by rw [hmod]; omega)]
   exact decide_eq_false om_
theorem nP_ (l : List S42) (hl : l.length ≤ 1000) (out : List S42) (i : Nat) (s : Int) (T : List Int) {Q : List S42 × Bool → Prop} (ho : out.length + l.length ≤ 8000000) (hi : i ≤ 1000000)
  (hk : Tot (fun k => an_.l1 k l (out ++ c8_ l i s) T T.length ((i + 1 : Nat) : Int)) Q) (d : Nat) : ∀ j : Nat, j + d = l.length →
  Tot (fun k => an_.l2 k l out i s (cd_ (l.take j) s) T T.length i l l.length j) Q := by
 induction d with
 | zero =>
  intro j hj
  refine Tot.step (h := fun k => an_.l1 k l (out ++ c8_ l i s) T T.length ((i + 1 : Nat) : Int)) (fun k => ?_) hk
  have hr := fD_ l s
  have hr2 := e2_ l i s
  rw [an_.l2, if_neg om_, List.take_of_length_le om_, ky_ l hl i s]
  simp only [Option.bind_some]
  rw [if_pos om_, dl_ i om_]
 | succ d ih =>
  intro j hj
  have hlt : j < l.length := by omega
  have h1 := eD_ (l.take j) s
  rw [List.length_take] at h1
  refine Tot.step (h := fun k => an_.l2 k l out i s (cd_ (l.take (j + 1)) s) T T.length i l l.length ((j + 1 : Nat) : Int)) (fun k => ?_) (ih (j + 1) om_)
  rw [an_.l2, if_pos om_, if_pos om_, if_pos om_, b8_ l j hlt, hy_ l s j hlt, dl_ j om_]
  by_cases hc : l[j].f1 = s
  ·rw [if_pos hc, if_pos hc, if_pos om_]
  ·rw [if_neg hc, if_neg hc, List.append_nil]
theorem nJ_ (l : List S42) (hl : l.length ≤ 1000) (T : List Int) (hT : T.length ≤ 2000) (d : Nat) : ∀ (i : Nat) (out : List S42), i + d = T.length → out.length + 1000 * d ≤ 4000000 →
  Tot (fun k => an_.l1 k l out T T.length i) (fun r => r = (out ++ ans l i (T.drop i), true)) := by
 induction d with
 | zero =>
  intro i out hi ho
  refine Tot.step (h := fun _ => some (out, true)) (fun k => by rw [an_.l1, if_neg om_]) (Tot.now _ (fun _ => rfl) ?_)
  rw [List.drop_of_length_le om_, ans, List.append_nil]
 | succ d ih =>
  intro i out hi ho
  have hlt : i < T.length := by omega
  have hr := fD_ l T[i]
  have hr2 := e2_ l i T[i]
  refine Tot.step (h := fun k => an_.l2 k l out i T[i] (cd_ (l.take 0) T[i]) T T.length i l l.length ((0 : Nat) : Int)) (fun k => ?_) ?_
  ·rw [an_.l1, if_pos om_, if_pos om_, if_pos om_, du_ T i hlt]
   rfl
  ·refine nP_ l hl out i T[i] T om_ om_ ?_ l.length 0 om_
   refine (ih (i + 1) (out ++ c8_ l i T[i]) om_ (by rw [List.length_append]; omega)).weak (fun r hr => ?_)
   rw [hr, List.drop_eq_getElem_cons hlt, ans, List.append_assoc]
theorem nS_ (l : List S42) (hl : l.length ≤ 1000) {Q : List S42 × Bool → Prop} (hk : Tot (fun k => an_.l1 k l [] (fa_ (l.map fun x => x.f1)) (fa_ (l.map fun x => x.f1)).length ((0 : Nat) : Int)) Q) (d : Nat) : ∀ j : Nat, j + d = l.length →
  Tot (fun k => an_.l0 k l ((l.take j).map fun x => x.f1) l l.length j) Q := by
 induction d with
 | zero =>
  intro j hj
  refine Tot.step (fun k => ?_) hk
  rw [an_.l0, if_neg om_, List.take_of_length_le om_]
  unfold bD_.f bp_.f
  rw [if_pos (by rw [List.length_map]; omega)]
  rfl
 | succ d ih =>
  intro j hj
  have hlt : j < l.length := by omega
  refine Tot.step (h := fun k => an_.l0 k l ((l.take (j + 1)).map fun x => x.f1) l l.length ((j + 1 : Nat) : Int)) (fun k => ?_) (ih (j + 1) om_)
  rw [an_.l0, if_pos om_, if_pos om_, if_pos om_, if_pos (by rw [List.length_map, List.length_take]; omega), b8_ l j hlt, dl_ j om_, List.take_succ_eq_append_getElem hlt, List.map_append]
  rfl
theorem jt_ (l : List S42) (d : Nat) : ∀ s : Int, (cP_ l s d).length ≤ d := by
 induction d with
 | zero => intro s; exact Nat.le_refl _
 | succ d ih =>
  intro s
  have := ih (s + 1)
  unfold cP_
  split
  ·omega
  ·rw [List.length_cons]; omega
def fm_ (l : List S42) : List S42 × Bool := if a4_ l then (ans l 0 (cP_ l 0 2000), true) else ([], false)
theorem kc_ (l : List S42) (hl : l.length ≤ 1048576) : Tot (fun k => an_.f k l) (fun r => r = fm_ l) := by
 refine Tot.bind (Q := fun t => t = decide (a4_ l)) (Tot.ge _ (l.length + 1) (fun k hk => cn_ l hl k om_) rfl) (fun t ht => ?_)
 subst ht
 unfold fm_
 by_cases h : a4_ l
 ·rw [if_pos h]
  refine Tot.congr (fun k => if_pos (decide_eq_true h)) ?_
  have hl2 : l.length ≤ 200 := h.2
  refine nS_ l om_ ?_ l.length 0 om_
  rw [kM_ l h.1]
  have := jt_ l 2000 0
  exact (nJ_ l om_ (cP_ l 0 2000) this (cP_ l 0 2000).length 0 [] om_ (by rw [List.length_nil]; omega)).weak (fun r hr => by rw [hr, List.drop_zero, List.nil_append])
 ·rw [if_neg h]
  exact Tot.now _ (fun k => if_neg (by rw [decide_eq_false h]; decide)) rfl
theorem nV_ {P : List S42} {x : S42} (hP : P.Pairwise Low) (q : Nat) (hq : q ≤ P.length) (h1 : q = 0 ∨ ∃ h : q - 1 < P.length, ¬ (P[q - 1].f0 > x.f0)) (h2 : ∀ j, q ≤ j → (h : j < P.length) → P[j].f0 > x.f0) :
  (P.take q ++ [x] ++ P.drop q).Pairwise Low ∧ (P.take q ++ [x] ++ P.drop q).Perm (P ++ [x]) := by
 have hd : ∀ b ∈ P.drop q, b.f0 > x.f0 := by
  intro b hb
  obtain ⟨j, hj, rfl⟩ := List.mem_iff_getElem.1 hb
  rw [List.getElem_drop]
  rw [List.length_drop] at hj
  exact h2 (q + j) om_ om_
 have ht : ∀ a ∈ P.take q, a.f0 ≤ x.f0 := by
  intro a ha
  obtain ⟨j, hj, rfl⟩ := List.mem_iff_getElem.1 ha
  rw [List.length_take] at hj
  rw [List.getElem_take]
  rcases h1 with h0 | ⟨h, hle⟩
  ·omega
  ·by_cases hjq : j = q - 1
   ·subst hjq; omega
   ·have := List.pairwise_iff_getElem.1 hP j (q - 1) om_ h om_
    unfold Low at this
    omega
 have hs : (P.take q ++ P.drop q).Pairwise Low := by rw [List.take_append_drop]; exact hP
 rw [List.pairwise_append] at hs
 refine ⟨?_, ?_⟩
 ·rw [List.append_assoc, List.pairwise_append]
  refine ⟨hs.1, List.pairwise_cons.2 ⟨fun b hb => Int.le_of_lt (hd b hb), hs.2.1⟩, fun a ha b hb => ?_⟩
  rcases List.mem_cons.1 hb with e | e
  ·rw [e]; exact ht a ha
  ·exact hs.2.2 a ha b e
 ·rw [List.append_assoc]
  refine (List.perm_middle (a := x) (l₁ := P.take q) (l₂ := P.drop q)).trans ?_
  rw [List.take_append_drop]
  exact (List.perm_append_singleton x P).symm
theorem nF_ (l out : List S42) (fl : Bool) (s : Int) (P : List S42) (hP : P.length ≤ 1000) (n : Int) (i : Int) (a b : Int) {Q : List S42 × Bool → Prop}
  (hk : ∀ q : Nat, q ≤ P.length → (q = 0 ∨ ∃ h : q - 1 < P.length, ¬ (P[q - 1].f0 > a)) → (∀ j, q ≤ j → (h : j < P.length) → P[j].f0 > a) → Tot (fun k => ai_.l1 k l out fl s (P.take q ++ [(⟨a, b⟩ : S42)] ++ P.drop q) l n (wrap64 (i + 1))) Q) :
  ∀ p : Nat, p ≤ P.length → (∀ j, p ≤ j → (h : j < P.length) → P[j].f0 > a) → Tot (fun k => ai_.l2 k l out fl s P p l n i a b) Q := by
 intro p
 induction p with
 | zero =>
  intro hp h2
  refine Tot.step (h := fun k => ai_.l1 k l out fl s (P.take 0 ++ [(⟨a, b⟩ : S42)] ++ P.drop 0) l n (wrap64 (i + 1))) (fun k => ?_) (hk 0 hp (Or.inl rfl) h2)
  rw [ai_.l2, if_neg (by simp)]
  simp only [Option.bind_some, List.nil_append, Int.toNat_natCast]
  rw [if_pos om_, if_pos om_, if_pos (by simp), if_pos (by simp), if_pos (by simp; omega)]
 | succ p ih =>
  intro hp h2
  have e1 : wrap64 (((p + 1 : Nat) : Int) - 1) = (p : Int) := by rw [w64 om_]; omega
  by_cases hc : P[p].f0 > a
  ·refine Tot.step (h := fun k => ai_.l2 k l out fl s P p l n i a b) (fun k => ?_) (ih om_ (fun j hj h => ?_))
   ·rw [ai_.l2, if_pos om_, e1, if_pos om_, if_pos om_, b8_ P p om_, if_pos hc]
   ·by_cases hjp : j = p
    ·subst hjp; exact hc
    ·exact h2 j om_ h
  ·refine Tot.step (h := fun k => ai_.l1 k l out fl s (P.take (p + 1) ++ [(⟨a, b⟩ : S42)] ++ P.drop (p + 1)) l n (wrap64 (i + 1))) (fun k => ?_) (hk (p + 1) hp (Or.inr ⟨by omega, hc⟩) h2)
   rw [ai_.l2, if_pos om_, e1, if_pos om_, if_pos om_, b8_ P p om_, if_neg hc]
   simp only [Option.bind_some, List.nil_append, Int.toNat_natCast]
   rw [if_pos om_, if_pos om_, if_pos (by simp; omega), if_pos (by simp; omega), if_pos (by simp; omega)]
theorem nN_ (l : List S42) (hl : l.length ≤ 1000) (out : List S42) (fl : Bool) (s : Int) {Q : List S42 × Bool → Prop} (hk : Tot (fun k => ai_.l3 k l out fl s (ew_ l s) (ew_ l s).length ((0 : Nat) : Int)) Q) (d : Nat) :
  ∀ (i : Nat) (P : List S42), i + d = l.length → P.Perm (cd_ (l.take i) s) → P.Pairwise Low → Tot (fun k => ai_.l1 k l out fl s P l l.length i) Q := by
 induction d with
 | zero =>
  intro i P hi hp hs
  rw [List.take_of_length_le om_] at hp
  obtain rfl := mi_ hp hs
  exact Tot.step (fun k => by rw [ai_.l1, if_neg om_]; rfl) hk
 | succ d ih =>
  intro i P hi hp hs
  have hlt : i < l.length := by omega
  have hpl : P.length ≤ 1000 := by rw [hp.length_eq]; have := eD_ (l.take i) s; rw [List.length_take] at this; omega
  have hra := hy_ l s i hlt
  by_cases hc : l[i].f1 = s
  ·rw [if_pos hc] at hra
   refine Tot.step (h := fun k => ai_.l2 k l out fl s P P.length l l.length i l[i].f0 l[i].f1) (fun k => by rw [ai_.l1, if_pos om_, if_pos om_, if_pos om_, b8_ l i hlt, if_pos hc]) ?_
   refine nF_ l out fl s P hpl l.length i l[i].f0 l[i].f1 (fun q hq h1 h2 => ?_) P.length (Nat.le_refl _) (fun j hj h => by omega)
   have hins := nV_ (x := l[i]) hs q hq h1 h2
   rw [dl_ i om_]
   refine ih (i + 1) _ om_ ?_ hins.1
   rw [hra]
   exact hins.2.trans (hp.append_right _)
  ·rw [if_neg hc, List.append_nil] at hra
   refine Tot.step (h := fun k => ai_.l1 k l out fl s P l l.length ((i + 1 : Nat) : Int)) (fun k => by rw [ai_.l1, if_pos om_, if_pos om_, if_pos om_, b8_ l i hlt, if_neg hc, dl_ i om_]) (ih (i + 1) P om_ (by rw [hra]; exact hp) hs)
def fd_ (fl : Bool) (P : List S42) : List S42 := if fl = true then P.reverse else P
theorem jN_ (fl : Bool) (P : List S42) : (fd_ fl P).length = P.length := by unfold fd_; split <;> simp
theorem nE_ (l : List S42) (fl : Bool) (s : Int) (P : List S42) (hP : P.length ≤ 1000) (out : List S42) (ho : out.length ≤ 8000000) {Q : List S42 × Bool → Prop}
  (hk : Tot (fun k => ai_.l0 k l (out ++ fd_ fl P) (if P.length = 0 then fl else !fl) (wrap64 (s + 1))) Q) (d : Nat) : ∀ j : Nat, j + d = P.length → Tot (fun k => ai_.l3 k l (out ++ (fd_ fl P).take j) fl s P P.length j) Q := by
 have hdl := jN_ fl P
 induction d with
 | zero =>
  intro j hj
  rw [List.take_of_length_le om_]
  refine Tot.step (fun k => ?_) hk
  rw [ai_.l3, if_neg om_]
  by_cases h : P.length = 0
  ·rw [if_neg om_, if_pos h]
  ·rw [if_pos om_, if_neg h]
 | succ d ih =>
  intro j hj
  have hlt : j < P.length := by omega
  have hlt2 : j < (fd_ fl P).length := by omega
  have hol : (out ++ (fd_ fl P).take j).length ≤ 8001000 := by rw [List.length_append, List.length_take]; omega
  refine Tot.step (h := fun k => ai_.l3 k l (out ++ (fd_ fl P).take (j + 1)) fl s P P.length ((j + 1 : Nat) : Int)) (fun k => ?_) (ih (j + 1) om_)
  rw [List.take_succ_eq_append_getElem hlt2, ← List.append_assoc, ai_.l3, if_pos om_]
  cases fl with
  | true =>
   have e1 : wrap64 (wrap64 ((P.length : Int) - 1) - j) = ((P.length - 1 - j : Nat) : Int) := by rw [w64 (x := (P.length : Int) - 1) om_, w64 om_]; omega
   rw [if_pos rfl, e1, if_pos om_, if_pos om_]
   simp only [Option.bind_some]
   rw [if_pos (by rw [List.length_cons, List.length_nil]; omega), dl_ j om_, b8_ P (P.length - 1 - j) om_]
   have e2 : (fd_ true P)[j] = P[P.length - 1 - j] := by
    simp only [fd_, if_true]
    rw [List.getElem_reverse]
   rw [e2]
  | false =>
   rw [if_neg (by decide), if_pos om_, if_pos om_]
   simp only [Option.bind_some]
   rw [if_pos (by rw [List.length_cons, List.length_nil]; omega), dl_ j om_, b8_ P j hlt]
   rfl
theorem nZ_ (l : List S42) (i : Nat) (s : Int) : fd_ (decide (i % 2 = 1)) (ew_ l s) = c8_ l i s := by
 unfold fd_ c8_
 by_cases h : i % 2 = 0
 ·rw [if_pos h, if_neg (by simp; omega)]
 ·rw [if_neg h, if_pos (by simp; omega)]
theorem nz_ (l : List S42) (hl : l.length ≤ 1000) (d : Nat) : ∀ (m : Nat) (i : Nat) (out : List S42), m + d = 2000 → out.length + 1000 * d ≤ 4000000 →
  Tot (fun k => ai_.l0 k l out (decide (i % 2 = 1)) m) (fun r => r = (out ++ ans l i (cP_ l m d), true)) := by
 induction d with
 | zero =>
  intro m i out hm ho
  refine Tot.step (h := fun _ => some (out, true)) (fun k => by rw [ai_.l0, if_neg om_]) (Tot.now _ (fun _ => rfl) ?_)
  rw [cP_, ans, List.append_nil]
 | succ d ih =>
  intro m i out hm ho
  have hpl := fD_ l m
  have hpe := (dT_ l m).length_eq
  refine Tot.step (h := fun k => ai_.l1 k l out (decide (i % 2 = 1)) m [] l l.length ((0 : Nat) : Int)) (fun k => by rw [ai_.l0, if_pos om_]; rfl) ?_
  refine nN_ l hl out (decide (i % 2 = 1)) m ?_ l.length 0 [] om_ (by simp [cd_]) List.Pairwise.nil
  have := nE_ l (decide (i % 2 = 1)) m (ew_ l m) om_ out om_ (Q := fun r => r = (out ++ ans l i (cP_ l m (d + 1)), true)) ?_ (ew_ l m).length 0 om_
  ·rw [List.take_zero, List.append_nil] at this
   exact this
  ·rw [nZ_, dl_ m om_]
   have hro := e2_ l i m
   by_cases h : (ew_ l m).length = 0
   ·rw [if_pos h]
    have e1 : c8_ l i m = [] := List.length_eq_zero_iff.1 om_
    rw [e1, List.append_nil]
    refine (ih (m + 1) i out om_ om_).weak (fun r hr => ?_)
    rw [hr]
    conv => rhs; rw [cP_, if_pos om_]
    rfl
   ·rw [if_neg h]
    have e2 : (!decide (i % 2 = 1)) = decide ((i + 1) % 2 = 1) := by
     rcases Nat.mod_two_eq_zero_or_one i with e | e
     ·rw [decide_eq_false om_, decide_eq_true om_]; rfl
     ·rw [decide_eq_true om_, decide_eq_false om_]; rfl
    rw [e2]
    refine (ih (m + 1) (i + 1) (out ++ c8_ l i m) om_ (by rw [List.length_append]; omega)).weak (fun r hr => ?_)
    rw [hr]
    conv => rhs; rw [cP_, if_neg om_, ans]
    rw [List.append_assoc]
    rfl
theorem j8_ (l : List S42) (hl : l.length ≤ 1048576) : Tot (fun k => ai_.f k l) (fun r => r = fm_ l) := by
 refine Tot.bind (Q := fun t => t = decide (a4_ l)) (Tot.ge _ (l.length + 1) (fun k hk => el_ l hl k om_) rfl) (fun t ht => ?_)
 subst ht
 unfold fm_
 by_cases h : a4_ l
 ·rw [if_pos h]
  refine Tot.congr (fun k => if_pos (decide_eq_true h)) ?_
  have hl2 : l.length ≤ 200 := h.2
  exact (nz_ l om_ 2000 0 0 [] om_ (by rw [List.length_nil]; omega)).weak (fun r hr => by rw [hr, List.nil_append]; rfl)
 ·rw [if_neg h]
  exact Tot.now _ (fun k => if_neg (by rw [decide_eq_false h]; decide)) rfl
open Go.Lib in
def num (n : Nat) : ByteArray := ⟨(Go.Lib.decDigits n).toArray⟩
theorem ov_ (a b : List UInt8) : (⟨a.toArray⟩ : ByteArray) ++ ⟨b.toArray⟩ = ⟨(a ++ b).toArray⟩ := by
 apply ByteArray.ext
 rw [ByteArray.data_append]
 simp
theorem ik_ (d : Nat) (h : d < 10) : strOfNums [wrap64 (48 + (d : Int)) % 256] = ⟨[UInt8.ofNat (48 + d)].toArray⟩ := by
 rw [w64 om_, show (48 + (d : Int)) % 256 = ((48 + d : Nat) : Int) by omega]
 unfold strOfNums
 rfl
theorem li_ : ∀ (m n : Nat), n ≤ m → (Go.Lib.decDigits n).length ≤ n + 1 := by
 intro m
 induction m with
 | zero =>
  intro n hn
  rw [Go.Lib.decDigits, dif_pos om_]
  simp
 | succ m ih =>
  intro n hn
  rw [Go.Lib.decDigits]
  split
  ·simp
  ·rw [List.length_append]
   have := ih (n / 10) om_
   simp only [List.length_cons, List.length_nil]
   omega
theorem dz_ (n : Nat) : (num n).size ≤ n + 1 := by
 have := li_ n n (Nat.le_refl _)
 unfold num
 simpa [ByteArray.size] using this
theorem iY_ : ∀ (k n : Nat), n ≤ 1999 → n < k → be_.f k (n : Int) = some (num n) := by
 intro k
 induction k with
 | zero => intro n h1 h2; omega
 | succ k ih =>
  intro n h1 h2
  rw [be_.f]
  by_cases h : n < 10
  ·rw [if_pos om_, ik_ n h]
   unfold num
   rw [Go.Lib.decDigits, dif_pos h]
  ·have e1 : Int.tdiv (n : Int) 10 = ((n / 10 : Nat) : Int) := by
    rw [Int.tdiv_eq_ediv_of_nonneg om_]; omega
   have e2 : Int.tmod (n : Int) 10 = ((n % 10 : Nat) : Int) := by
    rw [Int.tmod_eq_emod_of_nonneg om_]; omega
   rw [if_neg om_, e1, e2, w64 om_, ih (n / 10) om_ om_]
   simp only [Option.bind_some]
   rw [ik_ (n % 10) om_]
   have hs := dz_ (n / 10)
   have h1' : (⟨[UInt8.ofNat (48 + n % 10)].toArray⟩ : ByteArray).size = 1 := rfl
   rw [h1', if_pos om_]
   unfold num
   rw [ov_]
   conv => rhs; rw [Go.Lib.decDigits, dif_neg h]
theorem i1_ (n : Nat) : Go.Lib.itoa (n : Int) = Go.Lib.decDigits n := by
 unfold Go.Lib.itoa
 rw [if_neg om_, Int.toNat_natCast]
theorem m8_ (a b k : Nat) (ha : a ≤ 1999) (hb : b ≤ 1999) (hk : 3 ≤ k) : bl_.f k [(a : Int), (b : Int)] = some (num a ++ ⟨#[32]⟩ ++ num b) := by
 obtain ⟨k, rfl⟩ : ∃ j, k = j + 3 := ⟨k - 3, by omega⟩
 unfold bl_.f
 have r0 : rd [(a : Int), (b : Int)] 0 = a := rfl
 have r1 : rd [(a : Int), (b : Int)] 1 = b := rfl
 have t0 : strconv_Itoa.f (a : Int) = some (num a) := by unfold strconv_Itoa.f num; rw [if_pos om_, i1_]
 have t1 : strconv_Itoa.f (b : Int) = some (num b) := by unfold strconv_Itoa.f num; rw [if_pos om_, i1_]
 have sa := dz_ a
 have sb := dz_ b
 rw [bl_.l0, if_pos (by simp), if_pos om_, if_pos (by simp), r0, t0]
 simp only [Option.bind_some, List.length_nil, Nat.zero_lt_succ, if_true, List.nil_append]
 rw [w64 om_, show (0 : Int) + 1 = 1 from rfl, bl_.l0, if_pos (by simp), if_pos om_, if_pos (by simp), r1, t1]
 simp only [Option.bind_some]
 rw [if_pos (by simp), w64 om_, show (1 : Int) + 1 = 2 from rfl, bl_.l0, if_neg (by simp)]
 have ej : Go.Lib.join (([num a] ++ [num b]).map (·.data.toList)) (⟨#[32]⟩ : ByteArray).data.toList = (num a).data.toList ++ [32] ++ (num b).data.toList := by
  simp [Go.Lib.join, List.intercalate]
 unfold strings_Join.f
 rw [ej]
 have hl : ((num a).data.toList ++ [32] ++ (num b).data.toList).length ≤ 140737488355328 := by
  have e1 : (num a).data.toList.length = (num a).size := by rw [Array.length_toList]; rfl
  have e2 : (num b).data.toList.length = (num b).size := by rw [Array.length_toList]; rfl
  rw [List.length_append, List.length_append, e1, e2]
  simp only [List.length_cons, List.length_nil]
  omega
 rw [if_pos ⟨by simp, hl⟩]
 simp only [Option.bind_some]
 refine congrArg some (ByteArray.ext ?_)
 rw [ByteArray.data_append, ByteArray.data_append]
 simp
def ex_ (x : S42) : ByteArray := num x.f0.toNat ++ ⟨#[32]⟩ ++ num x.f1.toNat ++ ⟨#[10]⟩
def dL_ : List S42 → ByteArray → ByteArray
 | [], s => s
 | x :: r, s => dL_ r (s ++ ex_ x)
theorem ip_ (x : S42) (h : aZ_ x) : (ex_ x).size ≤ 2030 := by
 unfold aZ_ at h
 have := dz_ x.f0.toNat
 have := dz_ x.f1.toNat
 have e1 : (⟨#[32]⟩ : ByteArray).size = 1 := rfl
 have e2 : (⟨#[10]⟩ : ByteArray).size = 1 := rfl
 unfold ex_
 rw [ByteArray.size_append, ByteArray.size_append, ByteArray.size_append, e1, e2]
 omega
theorem iK_ (l : List S42) (hl : l.length ≤ 200) (hg : ∀ x ∈ l, aZ_ x) (d : Nat) : ∀ (k i : Nat) (s : ByteArray), i + d = l.length → d + 3000 < k → s.size ≤ 2030 * i →
  aL_.l0 k s l l.length i = some (dL_ (l.drop i) s, true) := by
 induction d with
 | zero =>
  intro k i s hi hk hs
  obtain ⟨k, rfl⟩ := su_ k
  rw [aL_.l0, if_neg om_, List.drop_of_length_le om_]
  rfl
 | succ d ih =>
  intro k i s hi hk hs
  obtain ⟨k, rfl⟩ := su_ k
  have hx := hg _ (List.getElem_mem (l := l) (n := i) om_)
  have hls := ip_ _ hx
  have hx' := hx
  unfold aZ_ at hx'
  have e0 : l[i].f0 = ((l[i].f0.toNat : Nat) : Int) := by omega
  have e1 : l[i].f1 = ((l[i].f1.toNat : Nat) : Int) := by omega
  have s0 := dz_ l[i].f0.toNat
  have s1 := dz_ l[i].f1.toNat
  have c1 : (⟨#[32]⟩ : ByteArray).size = 1 := rfl
  have c2 : (⟨#[10]⟩ : ByteArray).size = 1 := rfl
  have hN : be_.f k l[i].f0 = some (num l[i].f0.toNat) := by rw [e0, iY_ k _ om_ om_, Int.toNat_natCast]
  have hM : be_.f k l[i].f1 = some (num l[i].f1.toNat) := by rw [e1, iY_ k _ om_ om_, Int.toNat_natCast]
  rw [aL_.l0, if_pos om_, if_pos om_, if_pos om_, b8_ l i om_, hN, hM]
  simp only [Option.bind_some]
  have hw : ((num l[i].f0.toNat ++ (⟨#[32]⟩ : ByteArray)) ++ num l[i].f1.toNat) ++ (⟨#[10]⟩ : ByteArray) = ex_ l[i] := rfl
  rw [if_pos om_, if_pos (by rw [ByteArray.size_append, c1]; omega), if_pos (by rw [ByteArray.size_append, ByteArray.size_append, c1]; omega), hw, if_pos om_, w64 om_, bX_ l i om_,
   show ((i : Int) + 1) = ((i + 1 : Nat) : Int) by omega]
  exact ih k (i + 1) _ om_ om_ (by rw [ByteArray.size_append]; omega)
theorem j1_ (l : List S42) (hl : l.length ≤ 1048576) (k : Nat) (hk : l.length + 3000 < k) : aL_.f k l = some (if a4_ l then (dL_ l ⟨#[]⟩, true) else (⟨#[]⟩, false)) := by
 unfold aL_.f
 rw [el_ l hl k om_]
 simp only [Option.bind_some, decide_eq_true_eq]
 by_cases h : a4_ l
 ·rw [if_pos h, if_pos h]
  have := iK_ l h.2 h.1 l.length k 0 ⟨#[]⟩ om_ om_ (Nat.le_refl 0)
  rw [List.drop_zero] at this
  exact this
 ·rw [if_neg h, if_neg h]
theorem iN_ (l : List S42) (hl : l.length ≤ 200) (hg : ∀ x ∈ l, aZ_ x) (d : Nat) : ∀ (k i : Nat) (s : ByteArray), i + d = l.length → d + 3000 < k → s.size ≤ 2030 * i →
  aN_.l0 k s l l.length i = some (dL_ (l.drop i) s, true) := by
 induction d with
 | zero =>
  intro k i s hi hk hs
  obtain ⟨k, rfl⟩ := su_ k
  rw [aN_.l0, if_neg om_, List.drop_of_length_le om_]
  rfl
 | succ d ih =>
  intro k i s hi hk hs
  obtain ⟨k, rfl⟩ := su_ k
  have hx := hg _ (List.getElem_mem (l := l) (n := i) om_)
  have hls := ip_ _ hx
  have hx' := hx
  unfold aZ_ at hx'
  have e0 : l[i].f0 = ((l[i].f0.toNat : Nat) : Int) := by omega
  have e1 : l[i].f1 = ((l[i].f1.toNat : Nat) : Int) := by omega
  have s0 := dz_ l[i].f0.toNat
  have s1 := dz_ l[i].f1.toNat
  have c1 : (⟨#[32]⟩ : ByteArray).size = 1 := rfl
  have hW : bl_.f k [l[i].f0, l[i].f1] = some (num l[i].f0.toNat ++ ⟨#[32]⟩ ++ num l[i].f1.toNat) := by
   rw [e0, e1, m8_ _ _ k om_ om_ om_, Int.toNat_natCast, Int.toNat_natCast]
  rw [aN_.l0, if_pos om_, if_pos om_, if_pos om_, b8_ l i om_, hW]
  simp only [Option.bind_some]
  have hw : ((num l[i].f0.toNat ++ (⟨#[32]⟩ : ByteArray)) ++ num l[i].f1.toNat) ++ (⟨#[10]⟩ : ByteArray) = ex_ l[i] := rfl
  rw [if_pos (by rw [ByteArray.size_append, ByteArray.size_append, c1]; omega), hw, if_pos om_, w64 om_, bX_ l i om_,
   show ((i : Int) + 1) = ((i + 1 : Nat) : Int) by omega]
  exact ih k (i + 1) _ om_ om_ (by rw [ByteArray.size_append]; omega)
theorem j0_ (l : List S42) (hl : l.length ≤ 1048576) (k : Nat) (hk : l.length + 3000 < k) : aN_.f k l = some (if a4_ l then (dL_ l ⟨#[]⟩, true) else (⟨#[]⟩, false)) := by
 unfold aN_.f
 rw [cn_ l hl k om_]
 simp only [Option.bind_some, decide_eq_true_eq]
 by_cases h : a4_ l
 ·rw [if_pos h, if_pos h]
  have := iN_ l h.2 h.1 l.length k 0 ⟨#[]⟩ om_ om_ (Nat.le_refl 0)
  rw [List.drop_zero] at this
  exact this
 ·rw [if_neg h, if_neg h]
theorem nl_ (l : List Int) (hl : l.length ≤ 1000) (n : Int) (d : Nat) : ∀ (k i : Nat), i + d = l.length → d < k → bj_.l0 k n l l.length i = some (decide (n ∈ l.drop i)) := by
 induction d with
 | zero =>
  intro k i hi hk
  obtain ⟨k, rfl⟩ := su_ k
  rw [bj_.l0, if_neg om_, List.drop_of_length_le om_]
  simp
 | succ d ih =>
  intro k i hi hk
  obtain ⟨k, rfl⟩ := su_ k
  have hi' : i < l.length := by omega
  have e := ih k (i + 1) om_ om_
  rw [bj_.l0, if_pos om_, if_pos om_, if_pos om_, du_ l i hi', (show wrap64 ((i : Int) + 1) = ((i + 1 : Nat) : Int) by rw [w64 om_]; omega), e, bX_ l i hi']
  by_cases h : l[i] = n
  ·rw [if_pos h]
   congr 1
   rw [eq_comm, decide_eq_true_eq]
   rw [h]; exact List.mem_cons_self
  ·rw [if_neg h]
   congr 1
   rw [decide_eq_decide, List.mem_cons]
   exact ⟨fun h' => .inr h', fun h' => h'.elim (fun e => absurd e.symm h) id⟩
theorem oh_ (l : List Int) (hl : l.length ≤ 1000) (n : Int) (k : Nat) (hk : l.length < k) : bj_.f k l n = some (decide (n ∈ l)) := by
 unfold bj_.f
 have := nl_ l hl n l.length k 0 om_ hk
 exact this
def dc_ (l : List S42) (ac : Int) (o : List Int) (i : Int) : Int := way ac (ac_ l (rd o ((o.length : Int) - 1))) (ac_ l i)
def bT_ (l : List S42) (ac : Int) : Nat → List Int → Int → List (List Int × Int)
 | 0, o, w => [(o, w)]
 | d + 1, o, w => (List.range' 0 l.length).flatMap (fun i : Nat => if (i : Int) ∈ o then [] else bT_ l ac d (o ++ [(i : Int)]) (w + dc_ l ac o (i : Int)))
def df_ (b x : List Int × Int) : List Int × Int := if b.2 < 0 ∨ x.2 < b.2 then x else b
def eu_ (b x : List Int × Int) : List Int × Int := if 0 < b.1.length ∧ x.2 ≥ b.2 then b else x
def dr_ (l : List S42) (d : Nat) (o : List Int) (w : Int) : Prop := o.length + d = l.length ∧ 1 ≤ o.length ∧ (∀ x ∈ o, 0 ≤ x ∧ x < l.length) ∧ 0 ≤ w ∧ w ≤ 3000 * o.length
theorem h7_ (o : List Int) (i : Int) (h0 : 0 ≤ i) (h1 : i < o.length) : rd o i ∈ o := by
 obtain ⟨n, rfl⟩ : ∃ n : Nat, i = n := ⟨i.toNat, by omega⟩
 rw [du_ o n om_]
 exact List.getElem_mem _
theorem eI_ (l : List S42) (i : Int) (h0 : 0 ≤ i) (h1 : i < l.length) : ac_ l i ∈ l := by
 obtain ⟨n, rfl⟩ : ∃ n : Nat, i = n := ⟨i.toNat, by omega⟩
 rw [b8_ l n om_]
 exact List.getElem_mem _
theorem dr_.last {l : List S42} {d : Nat} {o : List Int} {w : Int} (h : dr_ l d o w) : 0 ≤ rd o ((o.length : Int) - 1) ∧ rd o ((o.length : Int) - 1) < l.length := by
 obtain ⟨h1, h2, h3, _⟩ := h
 exact h3 _ (h7_ o _ om_ om_)
theorem eB_ {l : List S42} (hl : ∀ x ∈ l, aZ_ x) {ac : Int} (hac : 1 ≤ ac ∧ ac ≤ 50) {d : Nat} {o : List Int} {w : Int} (h : dr_ l d o w) (i : Int) (h0 : 0 ≤ i) (h1 : i < l.length) : 0 ≤ dc_ l ac o i ∧ dc_ l ac o i ≤ 3000 := by
 have hw := e5_ hac (hl _ (eI_ l _ h.last.1 h.last.2)) (hl _ (eI_ l i h0 h1))
 exact hw.2.2
theorem dr_.next {l : List S42} (hl : ∀ x ∈ l, aZ_ x) {ac : Int} (hac : 1 ≤ ac ∧ ac ≤ 50) {d : Nat} {o : List Int} {w : Int} (h : dr_ l (d + 1) o w) (i : Nat) (h1 : i < l.length) : dr_ l d (o ++ [(i : Int)]) (w + dc_ l ac o (i : Int)) := by
 have hs := eB_ hl hac h (i : Int) om_ om_
 obtain ⟨h2, h3, h4, h5, h6⟩ := h
 refine ⟨by simp; omega, by simp, ?_, by omega, by simp only [List.length_append, List.length_cons, List.length_nil]; omega⟩
 intro x hx
 rcases List.mem_append.1 hx with hx | hx
 ·exact h4 x hx
 ·rw [List.mem_singleton] at hx
  subst hx
  omega
theorem fp_ {l : List S42} (hl : ∀ x ∈ l, aZ_ x) {ac : Int} (hac : 1 ≤ ac ∧ ac ≤ 50) : ∀ (d : Nat) (o : List Int) (w : Int), dr_ l d o w → ∀ x ∈ bT_ l ac d o w, w ≤ x.2 ∧ 0 < x.1.length
 | 0, o, w, h => by
  intro x hx
  rw [bT_, List.mem_singleton] at hx
  subst hx
  exact ⟨Int.le_refl _, by have := h.2.1; simp only; omega⟩
 | d + 1, o, w, h => by
  intro x hx
  rw [bT_, List.mem_flatMap] at hx
  obtain ⟨i, hi, hx⟩ := hx
  have hi2 : i < l.length := by have := List.mem_range'_1.1 hi; omega
  split at hx
  ·cases hx
  ·have h1 := fp_ hl hac d _ _ (h.next hl hac i hi2) x hx
   have h2 := eB_ hl hac h (i : Int) om_ om_
   exact ⟨by omega, h1.2⟩
theorem g3_ (b : List Int × Int) : ∀ (L : List (List Int × Int)), 0 < b.1.length → (∀ x ∈ L, b.2 ≤ x.2) → L.foldl eu_ b = b
 | [], _, _ => rfl
 | a :: L, h, hL => by
  rw [List.foldl_cons]
  have e : eu_ b a = b := if_pos ⟨h, hL a (by simp)⟩
  rw [e]
  exact g3_ b L h (fun x hx => hL x (List.mem_cons_of_mem _ hx))
theorem gr_ : ∀ (L : List (List Int × Int)) (b : List Int × Int), 0 < b.1.length → 0 ≤ b.2 → (∀ x ∈ L, 0 ≤ x.2 ∧ 0 < x.1.length) → L.foldl df_ b = L.foldl eu_ b
 | [], _, _, _, _ => rfl
 | a :: L, b, h1, h2, hL => by
  have ha := hL a (by simp)
  rw [List.foldl_cons, List.foldl_cons]
  by_cases h : a.2 < b.2
  ·rw [show df_ b a = a from if_pos (Or.inr h), show eu_ b a = a from if_neg om_]
   exact gr_ L a ha.2 ha.1 (fun x hx => hL x (List.mem_cons_of_mem _ hx))
  ·rw [show df_ b a = b from if_neg om_, show eu_ b a = b from if_pos ⟨h1, by omega⟩]
   exact gr_ L b h1 h2 (fun x hx => hL x (List.mem_cons_of_mem _ hx))
theorem gZ_ : ∀ (L : List (List Int × Int)) (b : List Int × Int), L.foldl df_ b ∈ b :: L
 | [], b => by simp
 | a :: L, b => by
  rw [List.foldl_cons]
  have h := gZ_ L (df_ b a)
  have e : df_ b a = a ∨ df_ b a = b := by unfold df_; split <;> simp
  rcases List.mem_cons.1 h with h | h
  ·rw [h]
   rcases e with e | e <;> rw [e] <;> simp
  ·exact List.mem_cons_of_mem _ (List.mem_cons_of_mem _ h)
theorem fF_ (l : List S42) (ac : Int) : ∀ (d : Nat) (m : Nat) (w : Int), m + d = l.length → bT_ l ac d ((List.range' 0 m).map (fun i : Nat => (i : Int))) w ≠ []
 | 0, m, w, _ => by simp [bT_]
 | d + 1, m, w, h => by
  intro e
  rw [bT_, List.flatMap_eq_nil_iff] at e
  have e1 := e m (List.mem_range'_1.2 ⟨by omega, by omega⟩)
  rw [if_neg (by
   intro hm
   obtain ⟨x, hx, e2⟩ := List.mem_map.1 hm
   have := List.mem_range'_1.1 hx
   omega)] at e1
  refine fF_ l ac d (m + 1) (w + dc_ l ac ((List.range' 0 m).map (fun i : Nat => (i : Int))) (m : Int)) om_ ?_
  rw [List.range'_concat, List.map_append]
  simpa using e1
def cr_ (l : List S42) (ac : Int) : List Int × Int := (bT_ l ac (l.length - 1) [0] 0).foldl df_ ([], -1)
theorem eM_ (l : List S42) (h : 1 ≤ l.length) : dr_ l (l.length - 1) [0] 0 := ⟨by simp; omega, by simp, fun x hx => by rw [List.mem_singleton] at hx; subst hx; omega, by omega, by simp⟩
theorem iX_ {l : List S42} (hl : ∀ x ∈ l, aZ_ x) {ac : Int} (hac : 1 ≤ ac ∧ ac ≤ 50) (h : 1 ≤ l.length) : (bT_ l ac (l.length - 1) [0] 0).foldl eu_ ([], 0) = cr_ l ac := by
 have hg := fp_ hl hac _ _ _ (eM_ l h)
 have hn := fF_ l ac (l.length - 1) 1 0 om_
 rw [show (List.range' 0 1).map (fun i : Nat => (i : Int)) = [0] from rfl] at hn
 unfold cr_
 generalize bT_ l ac (l.length - 1) [0] 0 = L at *
 cases L with
 | nil => exact absurd rfl hn
 | cons a L =>
  have ha := hg a (by simp)
  rw [List.foldl_cons, List.foldl_cons, show eu_ ([], 0) a = a from if_neg (fun hh => by simp at hh), show df_ ([], -1) a = a from if_pos (Or.inl (by decide))]
  exact (gr_ L a ha.2 om_ (fun x hx => by have := hg x (List.mem_cons_of_mem _ hx); exact ⟨by omega, this.2⟩)).symm
theorem gi_ {l : List S42} (hl : ∀ x ∈ l, aZ_ x) {ac : Int} (hac : 1 ≤ ac ∧ ac ≤ 50) : ∀ (d : Nat) (o : List Int) (w : Int), dr_ l d o w → ∀ x ∈ bT_ l ac d o w, dr_ l 0 x.1 x.2
 | 0, o, w, h => by
  intro x hx
  rw [bT_, List.mem_singleton] at hx
  subst hx
  exact h
 | d + 1, o, w, h => by
  intro x hx
  rw [bT_, List.mem_flatMap] at hx
  obtain ⟨i, hi, hx⟩ := hx
  have hi2 : i < l.length := by have := List.mem_range'_1.1 hi; omega
  split at hx
  ·cases hx
  ·exact gi_ hl hac d _ _ (h.next hl hac i hi2) x hx
theorem fS_ {l : List S42} (hl : ∀ x ∈ l, aZ_ x) {ac : Int} (hac : 1 ≤ ac ∧ ac ≤ 50) (h : 1 ≤ l.length) : (∀ x ∈ (cr_ l ac).1, 0 ≤ x ∧ x < (l.length : Int)) ∧ (cr_ l ac).1.length ≤ l.length := by
 have := gZ_ (bT_ l ac (l.length - 1) [0] 0) ([], -1)
 rcases List.mem_cons.1 this with e | e
 ·unfold cr_
  rw [e]
  exact ⟨by simp, by simp⟩
 ·have h2 := gi_ hl hac _ _ _ (eM_ l h) _ e
  exact ⟨h2.2.2.1, by have := h2.1; unfold cr_; omega⟩
theorem kL_ (o : List Int) (ho : o.length ≤ 1000) (n : Int) (d : Nat) : ∀ (k i : Nat), i + d = o.length → d < k →
  ∃ r, aP_.l0 k o n o.length i = some r ∧ decide (r ≥ 0) = decide (n ∈ o.drop i) := by
 induction d with
 | zero =>
  intro k i hi hk
  obtain ⟨k, rfl⟩ := su_ k
  rw [aP_.l0, if_neg om_, List.drop_of_length_le om_]
  exact ⟨-1, rfl, by simp⟩
 | succ d ih =>
  intro k i hi hk
  obtain ⟨k, rfl⟩ := su_ k
  have hi' : i < o.length := by omega
  obtain ⟨r, e, q⟩ := ih k (i + 1) om_ om_
  rw [aP_.l0, if_pos om_, if_pos om_, if_pos om_, du_ o i hi', w64 om_, show ((i : Int) + 1) = ((i + 1 : Nat) : Int) by omega, e, bX_ o i hi']
  by_cases h : n = o[i]
  ·rw [if_pos h]
   refine ⟨i, rfl, ?_⟩
   rw [decide_eq_true (show (i : Int) ≥ 0 by omega), h]
   exact (decide_eq_true List.mem_cons_self).symm
  ·rw [if_neg h]
   refine ⟨r, rfl, ?_⟩
   rw [q, decide_eq_decide, List.mem_cons]
   exact ⟨fun h' => .inr h', fun h' => h'.elim (fun e => absurd e h) id⟩
theorem j7_ (o : List Int) (ho : o.length ≤ 1000) (n : Int) (k : Nat) (hk : o.length < k) : bc_.f k o n = some (decide (n ∈ o)) := by
 unfold bc_.f aP_.f
 obtain ⟨r, e, q⟩ := kL_ o ho n o.length k 0 om_ hk
 have e' : aP_.l0 k o n o.length 0 = some r := e
 rw [e', Option.bind_some, q]
 rfl
theorem js_ {l : List S42} (hn : l.length ≤ 7) (hl : ∀ x ∈ l, aZ_ x) {ac : Int} (hac : 1 ≤ ac ∧ ac ≤ 50) {d : Nat} {o : List Int} {w : Int} (h : dr_ l (d + 1) o w) (k i : Nat) (hi : i < l.length) (b0 : List Int) (b1 : Int) :
  aB_.l0 (k + 1) l o w ac l.length i b0 b1 = (bc_.f k o i).bind fun t => if t = true then aB_.l0 k l o w ac l.length ((i + 1 : Nat) : Int) b0 b1
   else (aB_.f k l (o ++ [(i : Int)]) (w + dc_ l ac o i) ac b0 b1).bind fun bt => aB_.l0 k l o w ac l.length ((i + 1 : Nat) : Int) bt.1 bt.2 := by
 have hb := eB_ hl hac h (i : Int) om_ om_
 have hla := h.last
 have hw := g8_ hac (hl _ (eI_ l _ hla.1 hla.2)) (hl _ (eI_ l (i : Int) om_ om_))
 obtain ⟨h1, h2, h3, h4, h5⟩ := h
 have e1 : wrap64 ((o.length : Int) - 1) = (o.length : Int) - 1 := w64 om_
 have e2 : wrap64 ((i : Int) + 1) = ((i + 1 : Nat) : Int) := by rw [w64 om_]; omega
 have e3 : wrap64 (w + dc_ l ac o i) = w + dc_ l ac o i := w64 om_
 rw [aB_.l0, if_pos om_, e1, e2]
 congr 1
 funext t
 by_cases ht : t = true
 ·rw [if_pos ht, if_pos ht]
 ·rw [if_neg ht, if_neg ht, if_pos om_, if_pos om_, if_pos hla.1, if_pos hla.2, if_pos om_, if_pos om_, hw]
  unfold bp_.f
  rw [if_pos om_]
  simp only [Option.bind_some]
  rw [if_pos om_, show way ac (ac_ l (rd o ((o.length : Int) - 1))) (ac_ l (i : Int)) = dc_ l ac o i from rfl, e3]
theorem he_ {l : List S42} (hn : l.length ≤ 7) (hl : ∀ x ∈ l, aZ_ x) {ac : Int} (hac : 1 ≤ ac ∧ ac ≤ 50) : ∀ (d : Nat) (o : List Int) (w : Int) (b : List Int × Int), dr_ l d o w →
  Evn (fun k => aB_.f k l o w ac b.1 b.2) ((bT_ l ac d o w).foldl df_ b)
 | 0, o, w, b, h => by
  refine Evn.step (h := fun _ => some (df_ b (o, w))) (fun k => ?_) (Evn.const fun _ => rfl)
  have h1 := h.1
  rw [aB_.f, if_pos om_]
  unfold bp_.f df_
  simp only [if_pos (show o.length ≤ 17592186044416 by omega), Option.bind_some]
  by_cases c : b.2 < 0
  ·rw [if_pos c, if_pos (Or.inl c)]
  ·by_cases c2 : w < b.2
   ·rw [if_neg c, if_pos c2, if_pos (Or.inr c2)]
   ·rw [if_neg c, if_neg c2, if_neg om_]
 | d + 1, o, w, b, h => by
  have h1 := h.1
  have ih := fun o w b h' => he_ hn hl hac d o w b h'
  have loop : ∀ (m i : Nat) (b : List Int × Int), i + m = l.length → Evn (fun k => aB_.l0 k l o w ac l.length i b.1 b.2)
    (((List.range' i m).flatMap (fun i : Nat => if (i : Int) ∈ o then [] else bT_ l ac d (o ++ [(i : Int)]) (w + dc_ l ac o (i : Int)))).foldl df_ b) := by
   intro m
   induction m with
   | zero =>
    intro i b hi
    refine Evn.step (h := fun _ => some b) (fun k => ?_) (Evn.const fun _ => rfl)
    rw [aB_.l0, if_neg om_]
   | succ m ihm =>
    intro i b hi
    refine Evn.step (fun k => js_ hn hl hac h k i om_ b.1 b.2) ?_
    refine Evn.bind (Evn.ge (o.length + 1) (fun k hk => j7_ o om_ i k om_)) ?_
    rw [List.range'_succ, List.flatMap_cons, List.foldl_append]
    by_cases c : (i : Int) ∈ o
    ·rw [if_pos c, List.foldl_nil]
     exact Evn.congr (fun k => if_pos (decide_eq_true c)) (ihm (i + 1) b om_)
    ·rw [if_neg c]
     refine Evn.congr (fun k => if_neg (by rw [decide_eq_false c]; decide)) ?_
     exact Evn.bind (ih _ _ b (h.next hl hac i om_)) (ihm (i + 1) _ om_)
  refine Evn.step (h := fun k => aB_.l0 k l o w ac l.length ((0 : Nat) : Int) b.1 b.2) (fun k => ?_) (loop l.length 0 b om_)
  rw [aB_.f, if_neg om_]
  rfl
theorem jg_ {l : List S42} (hn : l.length ≤ 7) (hl : ∀ x ∈ l, aZ_ x) {ac : Int} (hac : 1 ≤ ac ∧ ac ≤ 50) {d : Nat} {o : List Int} {w : Int} (h : dr_ l (d + 1) o w) (k i : Nat) (hi : i < l.length) (b0 : List Int) (b1 : Int) :
  al_.l0 (k + 1) o w l ac l.length i b0 b1 = (bj_.f k o i).bind fun t => if t = true then al_.l0 k o w l ac l.length ((i + 1 : Nat) : Int) b0 b1
   else (al_.f k b0 b1 (o ++ [(i : Int)]) (w + dc_ l ac o i) l ac).bind fun bt => al_.l0 k o w l ac l.length ((i + 1 : Nat) : Int) bt.1 bt.2 := by
 have hb := eB_ hl hac h (i : Int) om_ om_
 have hla := h.last
 have hw := kN_ hac (hl _ (eI_ l _ hla.1 hla.2)) (hl _ (eI_ l (i : Int) om_ om_))
 obtain ⟨h1, h2, h3, h4, h5⟩ := h
 have e1 : wrap64 ((o.length : Int) - 1) = (o.length : Int) - 1 := w64 om_
 have e2 : wrap64 ((i : Int) + 1) = ((i + 1 : Nat) : Int) := by rw [w64 om_]; omega
 have e3 : wrap64 (w + dc_ l ac o i) = w + dc_ l ac o i := w64 om_
 rw [al_.l0, if_pos om_, e1, e2]
 congr 1
 funext t
 by_cases ht : t = true
 ·rw [if_pos ht, if_pos ht]
 ·rw [if_neg ht, if_neg ht, if_pos om_, if_pos om_, if_pos hla.1, if_pos hla.2, hw]
  unfold dj_.f dI_.f
  simp only [Option.bind_some, List.nil_append, List.length_nil, Nat.zero_add]
  rw [if_pos om_, if_pos om_]
  simp only [Option.bind_some]
  rw [if_pos om_, if_pos om_, show way ac (ac_ l (rd o ((o.length : Int) - 1))) (ac_ l (i : Int)) = dc_ l ac o i from rfl, e3]
theorem kP_ {l : List S42} (hn : l.length ≤ 7) (hl : ∀ x ∈ l, aZ_ x) {ac : Int} (hac : 1 ≤ ac ∧ ac ≤ 50) : ∀ (d : Nat) (o : List Int) (w : Int) (b : List Int × Int), dr_ l d o w →
  Evn (fun k => al_.f k b.1 b.2 o w l ac) ((bT_ l ac d o w).foldl eu_ b) := by
 have cut : ∀ (d : Nat) (o : List Int) (w : Int) (b : List Int × Int), dr_ l d o w → Evn (fun k => al_.j0 k o w l ac false b.1 b.2) (if 0 < b.1.length ∧ w ≥ b.2 then b else (bT_ l ac d o w).foldl eu_ b) →
   ¬ (0 < b.1.length ∧ w ≥ b.2) → Evn (fun k => al_.f k b.1 b.2 o w l ac) ((bT_ l ac d o w).foldl eu_ b) := by
  intro d o w b h e c
  rw [if_neg c] at e
  refine Evn.step (h := fun k => al_.j0 k o w l ac false b.1 b.2) (fun k => ?_) e
  rw [al_.f]
  by_cases c1 : (b.1.length : Int) > 0
  ·rw [if_pos c1, decide_eq_false (show ¬ w ≥ b.2 from fun hh => c ⟨by omega, hh⟩)]
  ·rw [if_neg c1]
 have over : ∀ (d : Nat) (o : List Int) (w : Int) (b : List Int × Int), dr_ l d o w → (0 < b.1.length ∧ w ≥ b.2) → Evn (fun k => al_.f k b.1 b.2 o w l ac) ((bT_ l ac d o w).foldl eu_ b) := by
  intro d o w b h c
  have hg := fp_ hl hac d o w h
  rw [g3_ b _ c.1 (fun x hx => by have := hg x hx; omega)]
  refine Evn.step (h := fun k => al_.j0 k o w l ac true b.1 b.2) (fun k => ?_) (Evn.step (h := fun _ => some b) (fun k => ?_) (Evn.const fun _ => rfl))
  ·rw [al_.f, if_pos om_, decide_eq_true c.2]
  ·rw [al_.j0, if_pos rfl]
 intro d
 induction d with
 | zero =>
  intro o w b h
  by_cases c : 0 < b.1.length ∧ w ≥ b.2
  ·exact over 0 o w b h c
  ·refine cut 0 o w b h ?_ c
   rw [if_neg c]
   have h1 := h.1
   refine Evn.step (h := fun _ => some (eu_ b (o, w))) (fun k => ?_) (Evn.const fun _ => rfl)
   rw [al_.j0, if_neg (by decide), if_pos om_]
   unfold eu_
   rw [if_neg c]
 | succ d ih =>
  intro o w b h
  by_cases c : 0 < b.1.length ∧ w ≥ b.2
  ·exact over (d + 1) o w b h c
  ·refine cut (d + 1) o w b h ?_ c
   rw [if_neg c]
   have h1 := h.1
   have loop : ∀ (m i : Nat) (b : List Int × Int), i + m = l.length → Evn (fun k => al_.l0 k o w l ac l.length i b.1 b.2)
     (((List.range' i m).flatMap (fun i : Nat => if (i : Int) ∈ o then [] else bT_ l ac d (o ++ [(i : Int)]) (w + dc_ l ac o (i : Int)))).foldl eu_ b) := by
    intro m
    induction m with
    | zero =>
     intro i b hi
     refine Evn.step (h := fun _ => some b) (fun k => ?_) (Evn.const fun _ => rfl)
     rw [al_.l0, if_neg om_]
    | succ m ihm =>
     intro i b hi
     refine Evn.step (fun k => jg_ hn hl hac h k i om_ b.1 b.2) ?_
     refine Evn.bind (Evn.ge (o.length + 1) (fun k hk => oh_ o om_ i k om_)) ?_
     rw [List.range'_succ, List.flatMap_cons, List.foldl_append]
     by_cases c : (i : Int) ∈ o
     ·rw [if_pos c, List.foldl_nil]
      exact Evn.congr (fun k => if_pos (decide_eq_true c)) (ihm (i + 1) b om_)
     ·rw [if_neg c]
      refine Evn.congr (fun k => if_neg (by rw [decide_eq_false c]; decide)) ?_
      exact Evn.bind (ih _ _ b (h.next hl hac i om_)) (ihm (i + 1) _ om_)
   refine Evn.step (h := fun k => al_.l0 k o w l ac l.length ((0 : Nat) : Int) b.1 b.2) (fun k => ?_) (loop l.length 0 b om_)
   rw [al_.j0, if_neg (by decide), if_neg om_]
   rfl
theorem Evn.map {α β : Type} {g : Nat → Option α} {r : α} (f : α → β) (e : Evn g r) : Evn (fun k => (g k).map f) (f r) := by
 obtain ⟨K, hK⟩ := e
 exact ⟨K, fun k hk => by simp only []; rw [hK k hk]; rfl⟩
def cY_ (l : List S42) (ac : Int) : List S42 × Int × Bool :=
 if a4_ l ∧ l.length ≤ 7 ∧ (1 ≤ ac ∧ ac ≤ 50) then (if l.length = 0 then ([], 0, true) else ((cr_ l ac).1.map (ac_ l), (cr_ l ac).2, true)) else ([], 0, false)
theorem jk_ (l : List S42) (ac : Int) : (cY_ l ac).1.length ≤ 7 := by
 unfold cY_
 split
 ·rename_i h
  split
  ·simp
  ·have := (fS_ h.1.1 h.2.2 om_).2
   simp only [List.length_map]
   omega
 ·simp
theorem jA_ (l : List S42) (o : List Int) (ho : o.length ≤ 7) (hin : ∀ x ∈ o, 0 ≤ x ∧ x < (l.length : Int)) (n : Int) (m : Nat) : ∀ (i : Nat) (x : List S42), i + m = o.length → x.length ≤ i →
  Evn (fun k => az_.l0 k l n x o o.length i) (x ++ (o.drop i).map (ac_ l), n, true) := by
 induction m with
 | zero =>
  intro i x hi hx
  refine Evn.step (h := fun _ => some (x, n, true)) (fun k => ?_) (Evn.const fun _ => ?_)
  ·rw [az_.l0, if_neg om_]
  ·rw [List.drop_of_length_le om_]; simp
 | succ m ih =>
  intro i x hi hx
  have hi' : i < o.length := by omega
  have hr := hin _ (h7_ o (i : Int) om_ om_)
  have := ih (i + 1) (x ++ [ac_ l (rd o (i : Int))]) om_ (by rw [List.length_append, List.length_cons, List.length_nil]; omega)
  rw [List.append_assoc, List.singleton_append, du_ o i hi'] at this
  rw [bX_ o i hi', List.map_cons]
  refine Evn.step (fun k => ?_) this
  rw [az_.l0, if_pos om_, if_pos om_, if_pos om_, if_pos hr.1, if_pos hr.2, if_pos om_, w64 om_, du_ o i hi', show ((i : Int) + 1) = ((i + 1 : Nat) : Int) by omega]
theorem jm_ (l : List S42) (o : List Int) (ho : o.length ≤ 7) (hin : ∀ x ∈ o, 0 ≤ x ∧ x < (l.length : Int)) (n : Int) (m : Nat) : ∀ (i : Nat) (x : List S42), i + m = o.length → x.length ≤ i →
  Evn (fun k => ay_.l0 k l n x o o.length i) (x ++ (o.drop i).map (ac_ l), n, true) := by
 induction m with
 | zero =>
  intro i x hi hx
  refine Evn.step (h := fun _ => some (x, n, true)) (fun k => ?_) (Evn.const fun _ => ?_)
  ·rw [ay_.l0, if_neg om_]
  ·rw [List.drop_of_length_le om_]; simp
 | succ m ih =>
  intro i x hi hx
  have hi' : i < o.length := by omega
  have hr := hin _ (h7_ o (i : Int) om_ om_)
  have := ih (i + 1) (x ++ [ac_ l (rd o (i : Int))]) om_ (by rw [List.length_append, List.length_cons, List.length_nil]; omega)
  rw [List.append_assoc, List.singleton_append, du_ o i hi'] at this
  rw [bX_ o i hi', List.map_cons]
  refine Evn.step (fun k => ?_) this
  rw [ay_.l0, if_pos om_, if_pos om_, if_pos om_, if_pos hr.1, if_pos hr.2, if_pos om_, w64 om_, du_ o i hi', show ((i : Int) + 1) = ((i + 1 : Nat) : Int) by omega]
theorem fl_ (l : List S42) (ac : Int) (c : Bool) (hc : c = true ↔ ¬ (a4_ l ∧ l.length ≤ 7 ∧ (1 ≤ ac ∧ ac ≤ 50))) : Evn (fun k => az_.j0 k l ac c) (cY_ l ac) := by
 unfold cY_
 by_cases h : a4_ l ∧ l.length ≤ 7 ∧ (1 ≤ ac ∧ ac ≤ 50)
 ·have e : c = false := by cases c; rfl; exact absurd h (hc.1 rfl)
  subst e
  rw [if_pos h]
  by_cases h0 : l.length = 0
  ·rw [if_pos h0]
   refine Evn.step (h := fun _ => some ([], 0, true)) (fun k => ?_) (Evn.const fun _ => rfl)
   rw [az_.j0, if_neg (by decide), if_pos om_]
  ·rw [if_neg h0]
   have hb := fS_ h.1.1 h.2.2 (l := l) om_
   have ht : Evn (fun k => aB_.f k l [0] 0 ac [] (-1)) (cr_ l ac) := he_ h.2.1 h.1.1 h.2.2 _ _ _ ([], -1) (eM_ l om_)
   refine Evn.step (h := fun k => (cV_.f k l ac).bind fun t => (cQ_.f k l ac).bind fun o => az_.l0 k l t [] o (o.length : Int) ((0 : Nat) : Int)) (fun k => ?_) ?_
   ·rw [az_.j0, if_neg (by decide), if_neg om_]
    rfl
   ·refine Evn.bind (ht.map Prod.snd) (Evn.bind (ht.map Prod.fst) ?_)
    have := jA_ l (cr_ l ac).1 om_ hb.1 (cr_ l ac).2 _ 0 [] (Nat.zero_add _) (by simp)
    simpa using this
 ·rw [if_neg h]
  have e : c = true := hc.2 h
  subst e
  refine Evn.step (h := fun _ => some ([], 0, false)) (fun k => ?_) (Evn.const fun _ => rfl)
  rw [az_.j0, if_pos rfl]
theorem ff_ (l : List S42) (ac : Int) (c : Bool) (hc : c = true ↔ ¬ (a4_ l ∧ l.length ≤ 7 ∧ (1 ≤ ac ∧ ac ≤ 50))) : Evn (fun k => ay_.j0 k l ac c) (cY_ l ac) := by
 unfold cY_
 by_cases h : a4_ l ∧ l.length ≤ 7 ∧ (1 ≤ ac ∧ ac ≤ 50)
 ·have e : c = false := by cases c; rfl; exact absurd h (hc.1 rfl)
  subst e
  rw [if_pos h]
  by_cases h0 : l.length = 0
  ·rw [if_pos h0]
   refine Evn.step (h := fun _ => some ([], 0, true)) (fun k => ?_) (Evn.const fun _ => rfl)
   rw [ay_.j0, if_neg (by decide), if_pos om_]
  ·rw [if_neg h0]
   have hb := fS_ h.1.1 h.2.2 (l := l) om_
   have ht : Evn (fun k => al_.f k [] 0 [0] 0 l ac) (cr_ l ac) := by
    have := kP_ h.2.1 h.1.1 h.2.2 _ _ _ ([], 0) (eM_ l om_)
    rw [iX_ h.1.1 h.2.2 om_] at this
    exact this
   refine Evn.step (h := fun k => (cU_.f k l ac).bind fun t => (cS_.f k l ac).bind fun o => ay_.l0 k l t [] o (o.length : Int) ((0 : Nat) : Int)) (fun k => ?_) ?_
   ·rw [ay_.j0, if_neg (by decide), if_neg om_]
    rfl
   ·refine Evn.bind (ht.map Prod.snd) (Evn.bind (ht.map Prod.fst) ?_)
    have := jm_ l (cr_ l ac).1 om_ hb.1 (cr_ l ac).2 _ 0 [] (Nat.zero_add _) (by simp)
    simpa using this
 ·rw [if_neg h]
  have e : c = true := hc.2 h
  subst e
  refine Evn.step (h := fun _ => some ([], 0, false)) (fun k => ?_) (Evn.const fun _ => rfl)
  rw [ay_.j0, if_pos rfl]
theorem jx_ (l : List S42) (hl : l.length ≤ 1048576) (ac : Int) : Evn (fun k => az_.f k l ac) (cY_ l ac) := by
 refine Evn.bind (Evn.ge (l.length + 1) (fun k hk => cn_ l hl k om_)) ?_
 by_cases h : a4_ l
 ·refine Evn.congr (fun k => if_pos (decide_eq_true h)) ?_
  by_cases h7 : (l.length : Int) > 7
  ·exact Evn.congr (fun k => if_pos h7) (fl_ l ac true ⟨fun _ hh => by omega, fun _ => rfl⟩)
  ·refine Evn.congr (fun k => if_neg h7) (Evn.congr (h := fun k => az_.j0 k l ac (!decide (1 ≤ ac ∧ ac ≤ 50))) (fun k => by rw [gS_, Option.bind_some]) (fl_ l ac _ ?_))
   rw [Bool.not_eq_true', decide_eq_false_iff_not]
   exact ⟨fun hh h2 => hh h2.2.2, fun hh h2 => hh ⟨h, by omega, h2⟩⟩
 ·exact Evn.congr (fun k => if_neg (by rw [decide_eq_false h]; decide)) (fl_ l ac true ⟨fun _ hh => h hh.1, fun _ => rfl⟩)
theorem jc_ (l : List S42) (hl : l.length ≤ 1048576) (ac : Int) : Evn (fun k => ay_.f k l ac) (cY_ l ac) := by
 refine Evn.bind (Evn.ge (l.length + 1) (fun k hk => el_ l hl k om_)) ?_
 by_cases h : a4_ l
 ·refine Evn.congr (fun k => if_pos (decide_eq_true h)) ?_
  by_cases h7 : (l.length : Int) > 7
  ·exact Evn.congr (fun k => if_pos h7) (ff_ l ac true ⟨fun _ hh => by omega, fun _ => rfl⟩)
  ·refine Evn.congr (fun k => if_neg h7) (Evn.congr (h := fun k => ay_.j0 k l ac (!decide (1 ≤ ac ∧ ac ≤ 50))) (fun k => by unfold dg_.f; rw [iQ_]; rfl) (ff_ l ac _ ?_))
   rw [Bool.not_eq_true', decide_eq_false_iff_not]
   exact ⟨fun hh h2 => hh h2.2.2, fun hh h2 => hh ⟨h, by omega, h2⟩⟩
 ·exact Evn.congr (fun k => if_neg (by rw [decide_eq_false h]; decide)) (ff_ l ac true ⟨fun _ hh => h hh.1, fun _ => rfl⟩)
theorem ha_ {α : Type} (p q r : α → Bool) (h : ∀ x, r x = (p x || q x)) (hd : ∀ x, ¬ (p x = true ∧ q x = true)) : ∀ l : List α, (l.filter p ++ l.filter q).Perm (l.filter r)
 | [] => List.Perm.refl _
 | a :: l => by
  have ih := ha_ p q r h hd l
  have ha := h a
  have hb := hd a
  cases hp : p a with
  | true =>
   cases hq : q a with
   | true => exact absurd ⟨hp, hq⟩ hb
   | false =>
    rw [List.filter_cons_of_pos hp, List.filter_cons_of_neg (by rw [hq]; decide), List.filter_cons_of_pos (by rw [ha, hp]; rfl), List.cons_append]
    exact ih.cons a
  | false =>
   cases hq : q a with
   | true =>
    rw [List.filter_cons_of_neg (by rw [hp]; decide), List.filter_cons_of_pos hq, List.filter_cons_of_pos (by rw [ha, hp, hq]; rfl)]
    exact List.perm_middle.trans (ih.cons a)
   | false =>
    rw [List.filter_cons_of_neg (by rw [hp]; decide), List.filter_cons_of_neg (by rw [hq]; decide), List.filter_cons_of_neg (by rw [ha, hp, hq]; decide)]
    exact ih
theorem jO_ (l : List S42) (i : Nat) (s : Int) : (c8_ l i s).Perm (cd_ l s) := by
 unfold c8_
 split
 ·exact dT_ l s
 ·exact (List.reverse_perm _).trans (dT_ l s)
theorem jG_ (l : List S42) : ∀ (T : List Int) (i : Nat), T.Pairwise (· < ·) → (ans l i T).Perm (l.filter fun x => decide (x.f1 ∈ T))
 | [], i, _ => by
  rw [ans, List.filter_eq_nil_iff.2 (fun x _ => by simp)]
 | s :: r, i, h => by
  rw [List.pairwise_cons] at h
  rw [ans]
  refine ((jO_ l i s).append (jG_ l r (i + 1) h.2)).trans ?_
  refine ha_ _ _ _ (fun x => ?_) (fun x hx => ?_) l
  ·rw [Bool.eq_iff_iff, Bool.or_eq_true, decide_eq_true_eq, decide_eq_true_eq, decide_eq_true_eq, List.mem_cons]
  ·have h1 := of_decide_eq_true hx.1
   have h2 := h.1 _ (of_decide_eq_true hx.2)
   omega
theorem l1_ (l : List S42) (h : a4_ l) : (fm_ l).2 = true ∧ (fm_ l).1.Perm l := by
 unfold fm_
 rw [if_pos h]
 refine ⟨rfl, (jG_ l _ 0 (fi_ l 2000 0).1).trans ?_⟩
 rw [List.filter_eq_self.2]
 intro x hx
 have hk := h.1 x hx
 unfold aZ_ at hk
 refine decide_eq_true (((fi_ l 2000 0).2 _).2 ⟨by omega, by omega, ?_⟩)
 have : x ∈ cd_ l x.f1 := List.mem_filter.2 ⟨hx, decide_eq_true rfl⟩
 intro e
 rw [List.length_eq_zero_iff.1 e] at this
 cases this
theorem eE_ {l m : List S42} (h : l.Perm m) (hl : a4_ l) : a4_ m := ⟨fun x hx => hl.1 x (h.mem_iff.2 hx), by have := h.length_eq; have := hl.2; omega⟩
theorem mc_ (out : List Int) (i j : Int) (v : Int) : rd (out.set i.toNat v) j = if i.toNat = j.toNat ∧ i.toNat < out.length then v else rd out j := by
 unfold rd
 rw [List.getD_eq_getElem?_getD, List.getElem?_set, List.getD_eq_getElem?_getD]
 by_cases h : i.toNat = j.toNat
 ·by_cases h2 : i.toNat < out.length
  ·rw [if_pos h, if_pos h2, if_pos ⟨h, h2⟩]; rfl
  ·rw [if_pos h, if_neg h2, if_neg (fun e => h2 e.2), List.getElem?_eq_none om_]
 ·rw [if_neg h, if_neg (fun e => h e.1)]
theorem nH_ (out : List Int) (i j : Int) (h : i.toNat = j.toNat) : rd out i = rd out j := by unfold rd; rw [h]
theorem lE_ (m : Int) (out : List Int) (x y : S42) : bY_ m (bY_ m out x) y = bY_ m (bY_ m out y) x := by
 unfold bY_
 rw [mc_, mc_]
 generalize Int.tmod x.f0 m = a
 generalize Int.tmod y.f0 m = b
 by_cases h : a.toNat = b.toNat
 ·rw [nH_ out a b h, h]
 ·rw [if_neg (fun e => h e.1), if_neg (fun e => h e.1.symm), List.set_comm _ _ h]
theorem lU_ (m : Int) {l l' : List S42} (h : l.Perm l') : eK_ m l = eK_ m l' := by
 unfold eK_
 exact h.foldl_eq' (fun x _ y _ z => lE_ m z x y) _
theorem ki_ : ∀ (l : List Int) (i : Nat) (h : i < l.length), (l.set i (l[i] + 1)).sum = l.sum + 1
 | a :: l, 0, _ => by rw [List.set_cons_zero, List.sum_cons, List.sum_cons]; simp only [List.getElem_cons_zero]; omega
 | a :: l, i + 1, h => by
  have := ki_ l i (by simpa using h)
  rw [List.set_cons_succ, List.sum_cons, List.sum_cons]
  simp only [List.getElem_cons_succ]
  omega
theorem ix_ {m : Int} (hm : 1 ≤ m ∧ m ≤ 5) : ∀ (l : List S42) (out : List Int), (∀ x ∈ l, aZ_ x) → out.length = m.toNat → (l.foldl (bY_ m) out).sum = out.sum + l.length
 | [], out, _, _ => by simp
 | a :: l, out, h, ho => by
  have h0 := h a List.mem_cons_self
  unfold aZ_ at h0
  have ht := Int.tmod_eq_emod_of_nonneg h0.1 (b := m)
  have h1 := Int.emod_nonneg a.f0 (show m ≠ 0 by omega)
  have h2 := Int.emod_lt_of_pos a.f0 (show 0 < m by omega)
  rw [List.foldl_cons, ix_ hm l (bY_ m out a) (fun x hx => h x (List.mem_cons_of_mem _ hx)) (by rw [fz_, ho]), List.length_cons]
  have e : (bY_ m out a).sum = out.sum + 1 := by
   unfold bY_
   rw [ht]
   generalize a.f0 % m = t at h1 h2
   obtain ⟨n, rfl⟩ : ∃ n : Nat, t = n := ⟨t.toNat, by omega⟩
   have hn : n < out.length := by omega
   rw [du_ out n hn, Int.toNat_natCast]
   exact ki_ out n hn
  rw [e]
  omega
theorem mG_ {m : Int} (hm : 1 ≤ m ∧ m ≤ 5) (l : List S42) (h : a4_ l) : (eK_ m l).sum = l.length := by
 unfold eK_
 rw [ix_ hm l _ h.1 (by simp)]
 have : (List.replicate m.toNat (0 : Int)).sum = 0 := by
  generalize m.toNat = n
  induction n with
  | zero => rfl
  | succ n ih => rw [List.replicate_succ, List.sum_cons, ih]; rfl
 rw [this]
 omega
theorem kZ_ {m : Int} (l : List S42) : ∀ x ∈ eK_ m l, 0 ≤ x ∧ x ≤ (l.length : Int) := by
 have go : ∀ (l : List S42) (out : List Int) (n : Int), 0 ≤ n → (∀ x ∈ out, 0 ≤ x ∧ x ≤ n) → ∀ x ∈ l.foldl (bY_ m) out, 0 ≤ x ∧ x ≤ n + l.length := by
  intro l
  induction l with
  | nil => intro out n _ h x hx; have := h x hx; simp; omega
  | cons a l ih =>
   intro out n hn h x hx
   have := ih (bY_ m out a) (n + 1) om_ (eP_ hn h a) x hx
   rw [List.length_cons]
   omega
 intro x hx
 have := go l (List.replicate m.toNat 0) 0 om_ (fun y hy => by obtain ⟨_, rfl⟩ := List.mem_replicate.1 hy; omega) x hx
 omega
theorem l9_ (l : List Int) (hl : l.length ≤ 1000) (hb : ∀ x ∈ l, 0 ≤ x ∧ x ≤ 1000) (d : Nat) : ∀ (k i : Nat) (s : Int), i + d = l.length → d < k → 0 ≤ s ∧ s ≤ 1000 * i → bs_.l0 k s l l.length i = some (s + (l.drop i).sum) := by
 induction d with
 | zero =>
  intro k i s hi hk hs
  obtain ⟨k, rfl⟩ := su_ k
  rw [bs_.l0, if_neg om_, List.drop_of_length_le om_]
  simp
 | succ d ih =>
  intro k i s hi hk hs
  obtain ⟨k, rfl⟩ := su_ k
  have hi' : i < l.length := by omega
  have hx := hb _ (List.getElem_mem hi')
  rw [bs_.l0, if_pos om_, if_pos om_, if_pos om_, du_ l i hi', w64 (x := s + l[i]) om_, w64 om_, show ((i : Int) + 1) = ((i + 1 : Nat) : Int) by omega, ih k (i + 1) (s + l[i]) om_ om_ om_, bX_ l i hi', List.sum_cons]
  congr 1
  omega
theorem nU_ (l : List Int) (hl : l.length ≤ 1000) (hb : ∀ x ∈ l, 0 ≤ x ∧ x ≤ 1000) (k : Nat) (hk : l.length < k) : bs_.f k l = some l.sum := by
 unfold bs_.f
 have := l9_ l hl hb l.length k 0 0 om_ hk om_
 rw [List.drop_zero, Int.zero_add] at this
 exact this
def idL (n : Nat) : List Int := (List.range' 0 n).map (fun i : Nat => (i : Int))
theorem jj_ (n : Nat) : idL (n + 1) = idL n ++ [(n : Int)] := by
 unfold idL
 rw [List.range'_concat, List.map_append]
 simp
theorem kl_ (n : Nat) (x : Int) : x ∈ idL n ↔ 0 ≤ x ∧ x < n := by
 unfold idL
 rw [List.mem_map]
 constructor
 ·rintro ⟨i, hi, rfl⟩
  have := List.mem_range'_1.1 hi
  omega
 ·intro h
  exact ⟨x.toNat, List.mem_range'_1.2 ⟨by omega, by omega⟩, by omega⟩
theorem kB_ (n : Nat) : (idL n).length = n := by unfold idL; simp
theorem nM_ (n i : Nat) (h : i < (idL n).length) : (idL n)[i] = (i : Int) := by simp [idL]
theorem kn_ (l : List S42) : (idL l.length).map (ac_ l) = l := by
 refine List.ext_getElem (by simp [kB_]) (fun i h1 h2 => ?_)
 rw [List.getElem_map, nM_, b8_ l i h2]
theorem g1_ : ∀ (n : Nat) (o : List Int), o.Nodup → (∀ x ∈ o, 0 ≤ x ∧ x < (n : Int)) → o.length = n → o.Perm (idL n)
 | 0, o, _, _, h => by rw [List.length_eq_zero_iff.1 h]; exact List.Perm.refl _
 | n + 1, o, hd, hr, h => by
  by_cases hm : (n : Int) ∈ o
  ·have h1 := List.perm_cons_erase hm
   have hd2 : (o.erase (n : Int)).Nodup := hd.erase _
   have ih := g1_ n (o.erase (n : Int)) hd2 (fun x hx => by
    have h2 := (List.Nodup.mem_erase_iff hd).1 hx
    have h3 := hr x h2.2
    have h4 := h2.1
    omega) (by rw [List.length_erase_of_mem hm]; omega)
   rw [jj_]
   exact h1.trans ((ih.cons _).trans (List.perm_append_singleton _ _).symm)
  ·match o, h with
   | a :: t, h =>
    rw [List.nodup_cons] at hd
    have ih := g1_ n t hd.2 (fun x hx => by
     have h3 := hr x (List.mem_cons_of_mem _ hx)
     have : x ≠ (n : Int) := fun e => hm (e ▸ List.mem_cons_of_mem _ hx)
     omega) (by simpa using h)
    have h3 := hr a List.mem_cons_self
    have h4 : a ≠ (n : Int) := fun e => hm (e ▸ List.mem_cons_self)
    exact absurd (ih.mem_iff.2 ((kl_ n a).2 ⟨h3.1, by omega⟩)) hd.1
theorem il_ (ac : Int) : ∀ (L : List S42) (a b : S42), dn_ ac (L ++ [a] ++ [b]) = dn_ ac (L ++ [a]) + way ac a b
 | [], a, b => by simp [dn_]
 | [c], a, b => by simp [dn_] <;> omega
 | c :: e :: L, a, b => by
  have := il_ ac (e :: L) a b
  simp only [List.cons_append] at this ⊢
  rw [dn_, dn_, this]
  omega
theorem l6_ (l : List S42) (ac : Int) (o : List Int) (h : 1 ≤ o.length) (i : Int) : dn_ ac ((o ++ [i]).map (ac_ l)) = dn_ ac (o.map (ac_ l)) + dc_ l ac o i := by
 rcases List.eq_nil_or_concat o with rfl | ⟨I, y, hp⟩
 ·simp at h
 ·rw [List.concat_eq_append] at hp
  subst hp
  have e : rd (I ++ [y]) (((I ++ [y]).length : Int) - 1) = y := by
   rw [List.length_append, List.length_singleton, show (((I.length + 1 : Nat) : Int) - 1) = (I.length : Int) by omega, du_ _ _ (by simp)]
   simp
  unfold dc_
  rw [e, List.map_append, List.map_append]
  simp only [List.map_cons, List.map_nil]
  exact il_ ac _ _ _
theorem fY_ (l : List S42) (ac : Int) : ∀ (d : Nat) (o : List Int) (w : Int), 1 ≤ o.length → o.Nodup → dn_ ac (o.map (ac_ l)) = w → ∀ x ∈ bT_ l ac d o w, dn_ ac (x.1.map (ac_ l)) = x.2 ∧ x.1.Nodup ∧ o <+: x.1
 | 0, o, w, _, hd, h => by
  intro x hx
  rw [bT_, List.mem_singleton] at hx
  subst hx
  exact ⟨h, hd, List.prefix_refl _⟩
 | d + 1, o, w, h1, hd, h => by
  intro x hx
  rw [bT_, List.mem_flatMap] at hx
  obtain ⟨i, hi, hx⟩ := hx
  split at hx
  ·cases hx
  ·rename_i hn
   have := fY_ l ac d (o ++ [(i : Int)]) _ (by simp) (List.nodup_append.2 ⟨hd, by simp, fun a ha b hb e => by
    rw [List.mem_singleton] at hb
    subst hb
    exact hn (e ▸ ha)⟩) (by rw [l6_ l ac o h1, h]) x hx
   exact ⟨this.1, this.2.1, (List.prefix_append o _).trans this.2.2⟩
theorem ih_ (l : List S42) (ac : Int) : ∀ (d m : Nat) (w : Int), m + d = l.length → ∃ v, (idL l.length, v) ∈ bT_ l ac d (idL m) w
 | 0, m, w, h => ⟨w, by
   have : m = l.length := by omega
   subst this
   rw [bT_]
   exact List.mem_singleton.2 rfl⟩
 | d + 1, m, w, h => by
  obtain ⟨v, hv⟩ := ih_ l ac d (m + 1) (w + dc_ l ac (idL m) (m : Int)) om_
  refine ⟨v, ?_⟩
  rw [bT_, List.mem_flatMap]
  refine ⟨m, List.mem_range'_1.2 ⟨by omega, by omega⟩, ?_⟩
  rw [if_neg (fun e => by have := (kl_ m _).1 e; omega), ← jj_]
  exact hv
theorem im_ : ∀ (L : List (List Int × Int)) (b : List Int × Int), 0 ≤ b.2 → (∀ x ∈ L, 0 ≤ x.2) → (L.foldl df_ b).2 ≤ b.2 ∧ ∀ x ∈ L, (L.foldl df_ b).2 ≤ x.2
 | [], b, _, _ => ⟨Int.le_refl _, fun x hx => by cases hx⟩
 | a :: L, b, hb, hL => by
  rw [List.foldl_cons]
  have ha := hL a List.mem_cons_self
  have hu : (df_ b a).2 ≤ b.2 ∧ (df_ b a).2 ≤ a.2 ∧ 0 ≤ (df_ b a).2 := by unfold df_; split <;> omega
  have h := im_ L (df_ b a) hu.2.2 (fun x hx => hL x (List.mem_cons_of_mem _ hx))
  refine ⟨by omega, fun x hx => ?_⟩
  rcases List.mem_cons.1 hx with rfl | hx
  ·omega
  ·exact h.2 x hx
theorem ma_ (l : List S42) (hl : ∀ x ∈ l, aZ_ x) (ac : Int) (hac : 1 ≤ ac ∧ ac ≤ 50) (h : 1 ≤ l.length) : cr_ l ac ∈ bT_ l ac (l.length - 1) [0] 0 ∧ ∀ x ∈ bT_ l ac (l.length - 1) [0] 0, (cr_ l ac).2 ≤ x.2 := by
 have hg := fp_ hl hac _ _ _ (eM_ l h)
 have hn := fF_ l ac (l.length - 1) 1 0 om_
 rw [show (List.range' 0 1).map (fun i : Nat => (i : Int)) = [0] from rfl] at hn
 unfold cr_
 generalize bT_ l ac (l.length - 1) [0] 0 = L at *
 cases L with
 | nil => exact absurd rfl hn
 | cons a L =>
  have ha := hg a (by simp)
  rw [List.foldl_cons, show df_ ([], -1) a = a from if_pos (Or.inl (by decide))]
  have h2 := im_ L a ha.1 (fun x hx => (hg x (List.mem_cons_of_mem _ hx)).1)
  refine ⟨gZ_ L a, fun x hx => ?_⟩
  rcases List.mem_cons.1 hx with rfl | hx
  ·exact h2.1
  ·exact h2.2 x hx
theorem jL_ (l : List S42) (ac : Int) (h : a4_ l ∧ l.length ≤ 7 ∧ (1 ≤ ac ∧ ac ≤ 50)) :
  (cY_ l ac).2.2 = true ∧ (cY_ l ac).1.Perm l ∧ dn_ ac (cY_ l ac).1 = (cY_ l ac).2.1 ∧ (cY_ l ac).2.1 ≤ dn_ ac l ∧ (0 < l.length → ac_ (cY_ l ac).1 0 = ac_ l 0) := by
 unfold cY_
 rw [if_pos h]
 by_cases h0 : l.length = 0
 ·rw [if_pos h0]
  obtain rfl := List.length_eq_zero_iff.1 h0
  exact ⟨rfl, List.Perm.refl _, rfl, Int.le_refl _, fun _ => rfl⟩
 ·rw [if_neg h0]
  obtain ⟨hb, hmin⟩ := ma_ l h.1.1 ac h.2.2 om_
  have hw : dn_ ac (([0] : List Int).map (ac_ l)) = 0 := by simp [dn_]
  have ho := fY_ l ac _ [0] 0 (by simp) (by simp) hw _ hb
  have hi := gi_ h.1.1 h.2.2 _ _ _ (eM_ l om_) _ hb
  obtain ⟨v, hv⟩ := ih_ l ac (l.length - 1) 1 0 om_
  rw [show idL 1 = [0] from rfl] at hv
  have hid := fY_ l ac _ [0] 0 (by simp) (by simp) hw _ hv
  have hm := hmin _ hv
  simp only [kn_] at hid
  have hp := g1_ l.length (cr_ l ac).1 ho.2.1 hi.2.2.1 (by have := hi.1; omega)
  refine ⟨rfl, ?_, ho.1, by simp only; rw [hid.1]; exact hm, fun _ => ?_⟩
  ·have := hp.map (ac_ l)
   rw [kn_] at this
   exact this
  ·obtain ⟨t, ht⟩ := ho.2.2
   have e : (cr_ l ac).1.map (ac_ l) = ac_ l 0 :: t.map (ac_ l) := by rw [← ht]; rfl
   rw [e]
   rfl
theorem lA_ (l : List Int) (hl : b7_ l) (a s : Int) (ha : 0 ≤ a ∧ a ≤ 700000) : ∃ v a' s', b1_.f l a s = some (v, a', s') := by
 unfold b1_.f
 obtain ⟨v1, a1, s1, e1, l1, u1⟩ := eG_ l hl a s om_ [0, 51] (by simp)
 rw [e1]; simp only [Option.bind_some]
 obtain ⟨v2, a2, s2, e2, l2, u2⟩ := eG_ l hl a1 s1 om_ [1, 2, 5, 50, v1] (by simp)
 rw [e2]
 exact ⟨_, _, _, rfl⟩
theorem k0_ (l : List Int) (hl : b7_ l) : Tot (fun k => bu_.f k l) (fun r : List S61 => r.length ≤ 100) := by
 refine Tot.bind (f8_ l hl 0 0 om_) (fun q hq => Tot.now q.1 (fun _ => rfl) (by have := hq.1; omega))
theorem gU_ (l : List Int) (hl : b7_ l) : Tot (fun k => bi_.f k l) (fun r : List S42 => r.length ≤ 202) :=
 Tot.bind (gF_ l hl) (fun q hq => Tot.now q.1 (fun _ => rfl) hq.1)
theorem jV_ (l : List Int) (hl : b7_ l) : Tot (fun k => bm_.f k l) (fun r : List S42 => r.length ≤ 202) :=
 Tot.bind (gU_ l hl) (fun r hr => Tot.now r (fun _ => rfl) hr)
theorem i0_ (l : List Int) (hl : b7_ l) : Tot (fun k => bf_.f k l) (fun r : List S42 => r.length ≤ 202) :=
 Tot.bind (gU_ l hl) (fun r hr => Tot.now r (fun _ => rfl) hr)
theorem iD_ (l : List Int) (hl : b7_ l) : Tot (fun k => bq_.f k l) (fun r : List S42 × Int => r.1.length ≤ 202) := by
 refine Tot.bind (gF_ l hl) (fun q hq => ?_)
 have g1 := hq.2.1
 have g2 := hq.2.2
 have g3 := hq.1
 obtain ⟨v1, a1, s1, e1, c1, d1, l1, u1⟩ := cf_ l hl q.2.1 q.2.2 om_ 12
 obtain ⟨v, a', s', e⟩ := lA_ l hl a1 s1 om_
 have d2 := d1 om_
 have t := Int.tdiv_eq_ediv_of_nonneg (b := 11) c1
 have t0 : 0 ≤ v1 / 11 ∧ v1 / 11 ≤ 1 := by omega
 obtain ⟨n, hn, n0, n1⟩ : ∃ n, (wrap64 (7 + (wrap64 (Int.tdiv v1 11)))) = n ∧ 7 ≤ n ∧ n ≤ 8 := by
  rw [t, w64 (x := v1 / 11) om_, w64 om_]
  exact ⟨_, rfl, by omega, by omega⟩
 by_cases h : (q.1.length : Int) > n
 ·refine Tot.now (q.1.take n.toNat, v) (fun k => ?_) (by simp only [List.length_take]; omega)
  rw [e1]; simp only [Option.bind_some, hn]
  rw [if_pos h, if_pos om_, if_pos om_, e]; rfl
 ·refine Tot.now (q.1, v) (fun k => ?_) g3
  rw [e1]; simp only [Option.bind_some, hn]
  rw [if_neg h, e]; rfl
theorem jT_ (l : List S61) (hl : l.length ≤ 1048576) (d : Nat) : ∀ (k i : Nat), i + d = l.length → d < k → aJ_.l0 k l l l.length i = some true := by
 induction d with
 | zero =>
  intro k i hi hk
  obtain ⟨k, rfl⟩ := su_ k
  rw [aJ_.l0, if_neg om_]
 | succ d ih =>
  intro k i hi hk
  obtain ⟨k, rfl⟩ := su_ k
  rw [aJ_.l0, if_pos om_, if_pos om_, if_pos om_, if_pos om_, if_neg (by simp), w64 om_, show ((i : Int) + 1) = ((i + 1 : Nat) : Int) by omega]
  exact ih k (i + 1) om_ om_
theorem fG_ (l : List S61) (hl : l.length ≤ 1048576) (k : Nat) (hk : l.length < k) : aJ_.f k l l = some true := by
 unfold aJ_.f
 rw [if_pos rfl]
 exact jT_ l hl l.length k 0 om_ hk
theorem iL_ (l : List Int) (hl : l.length ≤ 1048576) (d : Nat) : ∀ (k i : Nat), i + d = l.length → d < k → a3_.l0 k l l l.length i = some true := by
 induction d with
 | zero =>
  intro k i hi hk
  obtain ⟨k, rfl⟩ := su_ k
  rw [a3_.l0, if_neg om_]
 | succ d ih =>
  intro k i hi hk
  obtain ⟨k, rfl⟩ := su_ k
  rw [a3_.l0, if_pos om_, if_pos om_, if_pos om_, if_pos om_, if_pos rfl, w64 om_, show ((i : Int) + 1) = ((i + 1 : Nat) : Int) by omega]
  exact ih k (i + 1) om_ om_
theorem gd_ (l : List Int) (hl : l.length ≤ 1048576) (k : Nat) (hk : l.length < k) : a3_.f k l l = some true := by
 unfold a3_.f
 rw [if_pos rfl]
 exact iL_ l hl l.length k 0 om_ hk
theorem jY_ (l : List S42) (hl : l.length ≤ 1048576) (d : Nat) : ∀ (k i : Nat), i + d = l.length → d < k → aI_.l0 k l l l.length i = some true := by
 induction d with
 | zero =>
  intro k i hi hk
  obtain ⟨k, rfl⟩ := su_ k
  rw [aI_.l0, if_neg om_]
 | succ d ih =>
  intro k i hi hk
  obtain ⟨k, rfl⟩ := su_ k
  rw [aI_.l0, if_pos om_, if_pos om_, if_pos om_, if_pos om_, if_neg (by simp), w64 om_, show ((i : Int) + 1) = ((i + 1 : Nat) : Int) by omega]
  exact ih k (i + 1) om_ om_
theorem fL_ (l : List S42) (hl : l.length ≤ 1048576) (k : Nat) (hk : l.length < k) : aI_.f k l l = some true := by
 unfold aI_.f
 rw [if_pos rfl]
 exact jY_ l hl l.length k 0 om_ hk
def b6_ (l : List S61) : List S42 × Bool := if cE_ l = true then bU_ [] l else ([], false)
theorem hm_ (l : List S61) (hl : l.length ≤ 1048576) (k : Nat) (hk : dp_ 0 l.length + 900 ≤ k) : bG_.f k l = some (b6_ l) ∧ bE_.f k l = some (b6_ l) := by
 unfold bG_.f bE_.f b6_
 rw [gk_ l hl k om_, hv_ l hl k om_]
 simp only [Option.bind_some]
 by_cases h : cE_ l = true
 ·simp only [if_pos h]
  rw [jy_ l h k om_, iZ_ l h k om_]
  exact ⟨rfl, rfl⟩
 ·simp only [if_neg h]
  exact ⟨trivial, trivial⟩
theorem er_ (l : List S61) : (b6_ l).1.length ≤ 200 := by
 unfold b6_
 split
 ·exact hK_ l []
 ·simp
theorem gJ_ {l : List S61} (h : (b6_ l).2 = true) : cE_ l = true ∧ (bU_ [] l).2 = true ∧ (b6_ l).1 = (bU_ [] l).1 ∧ a4_ (b6_ l).1 := by
 have hl := er_ l
 unfold b6_ at h hl ⊢
 by_cases hS : cE_ l = true
 ·rw [if_pos hS] at h hl ⊢
  exact ⟨hS, h, rfl, lq_ l [] (fun x hx => by cases hx) (eS_ hS).2, hl⟩
 ·rw [if_neg hS] at h
  exact absurd h Bool.false_ne_true
theorem i9_ {l : List S61} (h : (b6_ l).2 = true) {s : List S42} (hp : s.Perm (b6_ l).1) : Evn (fun k => aT_.f k s) (l, true) := by
 obtain ⟨hS, h2, he, hok⟩ := gJ_ h
 have hok2 := eE_ hp.symm hok
 obtain ⟨L, n1, c1, l1, hK⟩ := gu_ s hok2
 have hb := kJ_ hS h2 n1 l1 (fun t s' => (c1 t s').trans ((jC_ hp t s').trans (by rw [he])))
 have hl2 := hok2.2
 refine Evn.bind (Evn.ge (s.length + 1) (fun k hk => cn_ s om_ k om_)) ?_
 refine Evn.congr (fun k => if_pos (decide_eq_true hok2)) ?_
 rw [hb] at hK
 exact Evn.bind hK (Evn.const fun _ => rfl)
theorem Evn.tot {α : Type} {g : Nat → Option α} {r : α} (e : Evn g r) : Tot g (fun t => t = r) := by
 obtain ⟨K, hK⟩ := e
 exact ⟨r, rfl, K, hK⟩
theorem jM_ (l : List S42) (h' : l.length ≤ 1048576) : ∃ R : List S61 × Bool, R.1.length ≤ 200 ∧ Evn (fun k => aT_.f k l) R ∧ Evn (fun k => af_.f k l) R := by
 by_cases hg : a4_ l
 ·obtain ⟨R, hR, e1, e2⟩ := jh_ _ hg
  refine ⟨R, hR, ?_, ?_⟩
  ·refine Evn.bind (Evn.ge (l.length + 1) (fun k hk => cn_ l h' k om_)) (Evn.congr (fun k => if_pos (decide_eq_true hg)) ?_)
   exact Evn.bind e1 (Evn.const fun _ => rfl)
  ·exact Evn.bind (Evn.ge (l.length + 1) (fun k hk => el_ l h' k om_)) (Evn.congr (fun k => if_pos (decide_eq_true hg)) e2)
 ·refine ⟨([], false), by simp, ?_, ?_⟩
  ·exact Evn.bind (Evn.ge (l.length + 1) (fun k hk => cn_ l h' k om_)) (Evn.congr (fun k => if_neg (by rw [decide_eq_true_eq]; exact hg)) (Evn.const fun _ => rfl))
  ·exact Evn.bind (Evn.ge (l.length + 1) (fun k hk => el_ l h' k om_)) (Evn.congr (fun k => if_neg (by rw [decide_eq_true_eq]; exact hg)) (Evn.const fun _ => rfl))
theorem mn_ (l1 : List Int) (b1 : b7_ l1) : Tot (fun k => laws_FnStrokes.j5 k l1) (fun r => r = true) := by
 refine Tot.step (fun k => by rw [laws_FnStrokes.j5]) ?_
 refine Tot.bind (jV_ l1 b1) (fun v hv => ?_)
 have hv' : v.length ≤ 202 := hv
 obtain ⟨R, hR, e1, e2⟩ := jM_ v om_
 refine Tot.bind e1.tot (fun t ht => ?_)
 subst ht
 refine Tot.bind e2.tot (fun t' ht' => ?_)
 subst ht'
 refine Tot.bind (i0_ l1 b1) (fun w hw => ?_)
 have hw' : w.length ≤ 202 := hw
 refine Tot.bind (Q := fun t => t = if a4_ w then (dL_ w ⟨#[]⟩, true) else (⟨#[]⟩, false)) (Tot.ge _ (w.length + 3001) (fun k hk => j0_ w om_ k om_) rfl) (fun u hu => ?_)
 refine Tot.bind (Q := fun t => t = u) (Tot.ge _ (w.length + 3001) (fun k hk => by rw [hu]; exact j1_ w om_ k om_) rfl) (fun u' hu' => ?_)
 subst hu'
 refine Tot.congr (fun k => if_pos (by simp)) ?_
 refine Tot.bind (Q := fun t => t = true) (Tot.ge true 300 (fun k hk => fG_ _ om_ k om_) rfl) (fun t ht => ?_)
 subst ht
 refine Tot.congr (fun k => (if_pos rfl).trans ((if_pos (by simp)).trans (if_pos rfl))) ?_
 refine Tot.bind (Q := fun t => t = decide (a4_ w)) (Tot.ge _ (w.length + 1) (fun k hk => cn_ w om_ k om_) rfl) (fun t ht => ?_)
 subst ht
 refine Tot.now true (fun k => ?_) rfl
 rw [hu]
 by_cases h : a4_ w
 ·rw [if_pos h, decide_eq_true h]; rfl
 ·rw [if_neg h, decide_eq_false h]; rfl
theorem oz_ (l1 : List Int) (b1 : b7_ l1) (u o : List S42) (hu : a4_ u) (hp : o.Perm u) (d : Nat) : ∀ i : Nat, i + d = 6 → 1 ≤ i → Tot (fun k => laws_FnStrokes.l0 k l1 u o (i : Int)) (fun r => r = true) := by
 have hu2 := hu.2
 have ho := eE_ hp.symm hu
 have ho2 := ho.2
 induction d with
 | zero =>
  intro i hi h1
  exact Tot.step (fun k => by rw [laws_FnStrokes.l0, if_neg om_]) (mn_ l1 b1)
 | succ d ih =>
  intro i hi h1
  have hm : 1 ≤ (i : Int) ∧ (i : Int) ≤ 5 := by omega
  have hwp := lU_ (i : Int) hp
  have hws := mG_ hm u hu
  have hwl := jZ_ (i : Int) u
  have hwb := kZ_ (m := (i : Int)) u
  refine Tot.step (fun k => by rw [laws_FnStrokes.l0, if_pos om_]) ?_
  refine Tot.bind (Q := fun t => t = (eK_ (i : Int) u, true)) (Tot.ge _ (u.length + 301) (fun k hk => by rw [ga_ u om_ (i : Int) k om_, if_pos ⟨hu, hm⟩]) rfl) (fun t ht => ?_)
  subst ht
  refine Tot.bind (Q := fun t => t = (eK_ (i : Int) u, true)) (Tot.ge _ (o.length + 301) (fun k hk => by rw [ga_ o om_ (i : Int) k om_, if_pos ⟨ho, hm⟩, hwp]) rfl) (fun t ht => ?_)
  subst ht
  refine Tot.bind (Q := fun t => t = (eK_ (i : Int) u, true)) (Tot.ge _ (u.length + 301) (fun k hk => by rw [iz_ u om_ (i : Int) k om_, if_pos ⟨hu, hm⟩]) rfl) (fun t ht => ?_)
  subst ht
  refine Tot.congr (fun k => (if_pos rfl).trans ((if_pos rfl).trans (if_pos rfl))) ?_
  refine Tot.bind (Q := fun t => t = true) (Tot.ge true 10 (fun k hk => gd_ _ (by simp only; omega) k (by simp only; omega)) rfl) (fun t ht => ?_)
  subst ht
  refine Tot.congr (fun k => if_pos rfl) ?_
  refine Tot.bind (Q := fun t => t = true) (Tot.ge true 10 (fun k hk => gd_ _ (by simp only; omega) k (by simp only; omega)) rfl) (fun t ht => ?_)
  subst ht
  refine Tot.congr (fun k => if_pos rfl) ?_
  refine Tot.bind (Q := fun t => t = (u.length : Int)) (Tot.ge _ 10 (fun k hk => by rw [nU_ _ (by simp only; omega) (fun x hx => by have := hwb x hx; omega) k (by simp only; omega), hws]) rfl) (fun t ht => ?_)
  subst ht
  refine Tot.congr (fun k => if_pos rfl) ?_
  rw [dl_ i om_]
  exact ih (i + 1) om_ om_
theorem lz_ (l1 : List Int) (b1 : b7_ l1) : Tot (fun k => laws_FnStrokes.j1 k l1) (fun r => r = true) := by
 refine Tot.step (fun k => by rw [laws_FnStrokes.j1]) ?_
 refine Tot.bind (iD_ l1 b1) (fun q hq => ?_)
 obtain ⟨u, ac⟩ := q
 have hu : u.length ≤ 202 := hq
 refine Tot.bind (jx_ u om_ ac).tot (fun t ht => ?_)
 subst ht
 refine Tot.bind (jc_ u om_ ac).tot (fun t ht => ?_)
 subst ht
 have hsl := jk_ u ac
 refine Tot.congr (fun k => if_neg (by simp)) ?_
 refine Tot.bind (Q := fun t => t = true) (Tot.ge true 10 (fun k hk => fL_ _ om_ k om_) rfl) (fun t ht => ?_)
 subst ht
 refine Tot.congr (h := fun k => laws_FnStrokes.j2 k l1 u ac (cY_ u ac).1 (cY_ u ac).2.2 (cY_ u ac).1 (cY_ u ac).2.1 false) (fun k => (if_pos rfl).trans (by rw [bne_self_eq_false])) ?_
 by_cases h : a4_ u ∧ u.length ≤ 7 ∧ (1 ≤ ac ∧ ac ≤ 50)
 ·obtain ⟨f1, f2, f3, f4, f5⟩ := jL_ u ac h
  have ho := eE_ f2.symm h.1
  have hol := f2.length_eq
  refine Tot.step (fun k => by rw [laws_FnStrokes.j2, if_neg (by decide), if_pos f1]) ?_
  generalize cY_ u ac = R at *
  refine Tot.bind (Q := fun t => t = (R.2.1, true)) (Tot.ge _ (R.1.length + 301) (fun k hk => by rw [fe_ R.1 om_ ac k om_, if_pos ⟨ho, h.2.2⟩, f3]) rfl) (fun t ht => ?_)
  subst ht
  refine Tot.bind (Q := fun t => t = (dn_ ac u, true)) (Tot.ge _ (u.length + 301) (fun k hk => by rw [fe_ u om_ ac k om_, if_pos ⟨h.1, h.2.2⟩]) rfl) (fun t ht => ?_)
  subst ht
  have fin : Tot (fun k => laws_FnStrokes.j3 k l1 u R.1 false) (fun r => r = true) :=
   Tot.step (h := fun k => laws_FnStrokes.l0 k l1 u R.1 ((1 : Nat) : Int)) (fun k => by rw [laws_FnStrokes.j3, if_neg (by decide)]; rfl) (oz_ l1 b1 u R.1 h.1 f2 5 1 om_ om_)
  refine Tot.congr (fun k => (if_pos rfl).trans ((if_pos rfl).trans ((if_pos rfl).trans ((if_neg (by simp only; omega)).trans (if_pos om_))))) ?_
  by_cases h0 : (u.length : Int) > 0
  ·refine Tot.congr (fun k => (if_pos h0).trans ((if_pos om_).trans (if_pos om_))) ?_
   rw [f5 om_]
   simp only [beq_self_eq_true, Bool.not_true, Bool.or_false]
   exact fin
  ·exact Tot.congr (fun k => if_neg h0) fin
 ·have e : (cY_ u ac).2.2 = false := by unfold cY_; rw [if_neg h]
  exact Tot.step (fun k => by rw [laws_FnStrokes.j2, if_neg (by decide), if_neg (by rw [e]; decide)]) (mn_ l1 b1)
theorem o5_ (l1 : List Int) (b1 : b7_ l1) (l : List S61) (hl : l.length ≤ 1048576) : Tot (fun k => laws_FnStrokes.j0 k l1 l (b6_ l).1 (b6_ l).2 (b6_ l).1 false) (fun r => r = true) := by
 by_cases h : (b6_ l).2 = true
 ·have hsl := er_ l
  obtain ⟨hS, h2, he, hok⟩ := gJ_ h
  obtain ⟨r1, r2⟩ := l1_ _ hok
  have p1 := i9_ h (List.Perm.refl (b6_ l).1)
  have p2 := i9_ h r2
  refine Tot.step (fun k => by rw [laws_FnStrokes.j0, if_neg (by decide), if_pos h]) ?_
  generalize (b6_ l).1 = s at *
  have hrl := r2.length_eq
  refine Tot.bind p1.tot (fun t ht => ?_)
  subst ht
  refine Tot.bind (kc_ s om_) (fun t ht => ?_)
  subst ht
  refine Tot.bind (j8_ s om_) (fun t ht => ?_)
  subst ht
  refine Tot.bind p2.tot (fun t ht => ?_)
  subst ht
  refine Tot.congr (fun k => if_pos rfl) ?_
  refine Tot.bind (Q := fun t => t = true) (Tot.ge true (l.length + 1) (fun k hk => fG_ _ hl k om_) rfl) (fun t ht => ?_)
  subst ht
  refine Tot.congr (fun k => (if_pos rfl).trans ((if_pos r1).trans (if_pos r1))) ?_
  refine Tot.bind (Q := fun t => t = true) (Tot.ge true 300 (fun k hk => fL_ _ om_ k om_) rfl) (fun t ht => ?_)
  subst ht
  refine Tot.congr (fun k => (if_pos rfl).trans ((if_pos om_).trans (if_pos rfl))) ?_
  refine Tot.bind (Q := fun t => t = true) (Tot.ge true (l.length + 1) (fun k hk => fG_ _ hl k om_) rfl) (fun t ht => ?_)
  subst ht
  refine Tot.congr (fun k => if_pos rfl) ?_
  refine Tot.bind (Q := fun t => t = true) (Tot.ge true 300 (fun k hk => by rw [cn_ s om_ k om_, decide_eq_true hok]) rfl) (fun t ht => ?_)
  subst ht
  exact Tot.congr (fun k => if_pos rfl) (lz_ l1 b1)
 ·exact Tot.step (fun k => by rw [laws_FnStrokes.j0, if_neg (by decide), if_neg h]) (lz_ l1 b1)
theorem nq_ (l : List Int) (h : ∀ x ∈ l, (Lit.int .u8 x).wf = true) : ∀ x ∈ l, 0 ≤ x ∧ x ≤ 255 := fun x hx => by
 have := h x hx
 simpa [Lit.wf, IntKind.min, IntKind.max, IntKind.signed, IntKind.bits] using this
theorem FnStrokes : laws_FnStrokes.Pure := by
 intro l0 l1 m0 _ w0 m1 _ w1
 unfold maxLen at m0 m1
 by_cases hb : (l0.length : Int) > 1048576
 ·exact ⟨0, by unfold laws_FnStrokes.f do_.f; rw [if_pos hb]; rfl⟩
 ·by_cases hc : (l1.length : Int) > wrap64 (1048576 - (l0.length : Int))
  ·refine ⟨0, ?_⟩
   unfold laws_FnStrokes.f do_.f
   rw [if_neg hb]
   simp only [Option.bind_some]
   rw [if_pos (decide_eq_true hc)]
  ·have hc' := hc
   rw [w64 om_] at hc'
   have b0 : b7_ l0 := ⟨by omega, nq_ l0 w0⟩
   have b1 : b7_ l1 := ⟨by omega, nq_ l1 w1⟩
   have key : Tot (fun k => laws_FnStrokes.f k l0 l1) (fun r => r = true) := by
    refine Tot.congr (h := fun k => (bu_.f k l0).bind fun t703 => ((bE_.f k t703).bind fun bt706 => ((bG_.f k t703).bind fun bt710 => (if (bt706.2 != bt710.2) = true then (laws_FnStrokes.j0 k l1 t703 bt706.1 bt706.2 bt710.1 true) else ((aI_.f k bt706.1 bt710.1).bind fun t714 => (laws_FnStrokes.j0 k l1 t703 bt706.1 bt706.2 bt710.1 (!t714))))))) (fun k => ?_) ?_
    ·unfold laws_FnStrokes.f do_.f
     rw [if_neg hb]
     simp only [Option.bind_some]
     rw [if_neg (by simpa using hc)]
    refine Tot.bind (k0_ l0 b0) (fun l hl => ?_)
    have hl' : l.length ≤ 100 := hl
    have hsl := er_ l
    refine Tot.bind (Q := fun t => t = b6_ l) (Tot.ge _ (dp_ 0 l.length + 900) (fun k hk => (hm_ l om_ k hk).2) rfl) (fun t ht => ?_)
    refine Tot.bind (Q := fun t => t = b6_ l) (Tot.ge _ (dp_ 0 l.length + 900) (fun k hk => (hm_ l om_ k hk).1) rfl) (fun t' ht' => ?_)
    subst ht'
    subst ht
    refine Tot.congr (fun k => if_neg (by simp)) ?_
    refine Tot.bind (Q := fun t => t = true) (Tot.ge true 300 (fun k hk => fL_ _ om_ k om_) rfl) (fun t ht => ?_)
    subst ht
    exact o5_ l1 b1 l om_
   obtain ⟨r, hr, K, hK⟩ := key
   exact ⟨K, (hK K (Nat.le_refl _)).trans (by rw [hr])⟩
end Go.Proofs.YtcpliaahkcbinaaGreatDoor.Pure
