/- FnCores: the law of cores holds for all bytes. No condition. -/
import Derived.Test.YtjogodnkcjhdiaaPFnCoresx9
namespace Go.Proofs.Ytjogodnkcjhdiaa.Pure
open Go.RowKit Go.Proofs.Ytjogodnkcjhdiaa.PFnCores Go.Proofs.YtjogodnkcjhdiaaW.PrintWords Go.Proofs.YtjogodnkcjhdiaaW.PrintLast

set_option linter.unusedVariables false
set_option linter.unusedSimpArgs false

theorem w64 {x : Int} (h : -9223372036854775808 ≤ x ∧ x ≤ 9223372036854775807) : wrap64 x = x := by
  unfold wrap64; omega
theorem someF {p : Prop} [Decidable p] (h : ¬ p) : some false = some (decide p) := by rw [decide_eq_false h]
theorem someD {q p : Prop} [Decidable q] [Decidable p] (h : q ↔ p) : some (decide q) = some (decide p) := by rw [decide_eq_decide.2 h]

theorem in_eq (a b c : Int) : spec_l1In.f a b c = some (decide (b ≤ a ∧ a ≤ c)) := by
  unfold spec_l1In.f
  by_cases h : a ≥ b
  · rw [if_pos h]; congr 1; simp [show b ≤ a from h]
  · rw [if_neg h]; congr 1; simp; omega

theorem fill_step {α : Type} (l : List α) (z : α) (i : Nat) (h : i < l.length) :
    (l.take i ++ List.replicate (l.length - i) z).set i (l[i]'h) = l.take (i + 1) ++ List.replicate (l.length - (i + 1)) z := by
  have hl : (l.take i).length = i := by rw [List.length_take]; omega
  rw [List.set_append_right _ _ (by omega), hl, Nat.sub_self, show l.length - i = (l.length - (i + 1)) + 1 by omega, List.replicate_succ, List.set_cons_zero, List.take_succ_eq_append_getElem h, List.append_assoc]
  rfl
theorem fill_length {α : Type} (l : List α) (z : α) (i : Nat) (h : i ≤ l.length) : (l.take i ++ List.replicate (l.length - i) z).length = l.length := by
  simp; omega

theorem rd_get (l : List Int) (i : Nat) (h : i < l.length) : rd l (i : Int) = l[i] := by
  unfold rd; rw [Int.toNat_natCast, List.getD_eq_getElem?_getD, List.getElem?_eq_getElem h]; rfl

def Good (c g t : Int) : Prop := 100 ≤ c ∧ c ≤ 5000 ∧ 0 ≤ g ∧ g ≤ 50 ∧ 1 ≤ t ∧ t ≤ 500
instance (c g t : Int) : Decidable (Good c g t) := by unfold Good; infer_instance
def turn (c g k : Int) : Int := c + k * g
def full (c g n : Int) : Int := n * c + n * (n - 1) / 2 * g
def wound (c g e : Int) : Int := 8 * full c g (e / 8) + e % 8 * turn c g (e / 8)

theorem tri_bounds {n : Int} (h0 : 0 ≤ n) (h1 : n ≤ 500) : 0 ≤ n * (n - 1) ∧ n * (n - 1) ≤ 250000 := by
  have h2 : 0 ≤ n * (n - 1) := by
    by_cases h : n = 0
    · subst h; simp
    · exact Int.mul_nonneg h0 (by omega)
  have h3 : n * (n - 1) ≤ 500 * (n - 1) ∨ n = 0 := by
    by_cases h : n = 0
    · exact .inr h
    · exact .inl (Int.mul_le_mul_of_nonneg_right h1 (by omega))
  rcases h3 with h3 | h3
  · omega
  · subst h3; simp
theorem turn_bounds {c g k : Int} (hc : 100 ≤ c ∧ c ≤ 5000) (hg : 0 ≤ g ∧ g ≤ 50) (hk : 0 ≤ k ∧ k ≤ 500) : 100 ≤ turn c g k ∧ turn c g k ≤ 30000 ∧ 0 ≤ k * g ∧ k * g ≤ 25000 := by
  have h1 : 0 ≤ k * g := Int.mul_nonneg hk.1 hg.1
  have h2 : k * g ≤ 500 * 50 := Int.mul_le_mul hk.2 hg.2 hg.1 (by omega)
  unfold turn; omega
theorem full_bounds {c g n : Int} (hc : 100 ≤ c ∧ c ≤ 5000) (hg : 0 ≤ g ∧ g ≤ 50) (hn : 0 ≤ n ∧ n ≤ 500) :
    0 ≤ n * c ∧ n * c ≤ 2500000 ∧ 0 ≤ n * (n - 1) / 2 * g ∧ n * (n - 1) / 2 * g ≤ 6250000 ∧ 0 ≤ full c g n ∧ full c g n ≤ 8750000 := by
  obtain ⟨t0, t1⟩ := tri_bounds hn.1 hn.2
  have h1 : 0 ≤ n * c := Int.mul_nonneg hn.1 (by omega)
  have h2 : n * c ≤ 500 * 5000 := Int.mul_le_mul hn.2 hc.2 (by omega) (by omega)
  have h3 : 0 ≤ n * (n - 1) / 2 * g := Int.mul_nonneg (by omega) hg.1
  have h4 : n * (n - 1) / 2 * g ≤ 125000 * 50 := Int.mul_le_mul (by omega) hg.2 hg.1 (by omega)
  unfold full; omega
theorem turn_wrap {c g k : Int} (hc : 100 ≤ c ∧ c ≤ 5000) (hg : 0 ≤ g ∧ g ≤ 50) (hk : 0 ≤ k ∧ k ≤ 500) : wrap64 (c + wrap64 (k * g)) = turn c g k := by
  have := turn_bounds hc hg hk
  rw [w64 (x := k * g) (by omega)]
  exact w64 (by unfold turn at this; omega)
theorem full_wrap {c g n : Int} (hc : 100 ≤ c ∧ c ≤ 5000) (hg : 0 ≤ g ∧ g ≤ 50) (hn : 0 ≤ n ∧ n ≤ 500) :
    wrap64 ((wrap64 (n * c)) + (wrap64 ((wrap64 (Int.tdiv (wrap64 (n * (wrap64 (n - 1)))) 2)) * g))) = full c g n := by
  have h := full_bounds hc hg hn
  obtain ⟨t0, t1⟩ := tri_bounds hn.1 hn.2
  rw [w64 (x := n - 1) (by omega), w64 (x := n * (n - 1)) (by omega), Int.tdiv_eq_ediv_of_nonneg t0, w64 (x := n * (n - 1) / 2) (by omega), w64 (x := n * c) (by omega), w64 (x := n * (n - 1) / 2 * g) (by omega)]
  exact w64 (by unfold full at h; omega)
theorem tri_succ (n : Int) : (n + 1) * (n + 1 - 1) / 2 = n * (n - 1) / 2 + n := by
  have : (n + 1) * (n + 1 - 1) = n * (n - 1) + n * 2 := by
    rw [show n + 1 - 1 = n by omega, Int.mul_sub, Int.add_mul]; omega
  rw [this, Int.add_mul_ediv_right _ _ (by omega)]
theorem full_succ (c g n : Int) : full c g (n + 1) = full c g n + turn c g n := by
  unfold full turn
  rw [tri_succ, Int.add_mul, Int.add_mul]; omega
theorem wound_whole (c g n : Int) : wound c g (8 * n) = 8 * full c g n := by
  unfold wound
  rw [show 8 * n / 8 = n by omega, show 8 * n % 8 = 0 by omega]; simp
theorem wound_succ (c g e : Int) : wound c g (e + 1) = wound c g e + turn c g (e / 8) := by
  unfold wound
  by_cases h : e % 8 = 7
  · rw [show (e + 1) / 8 = e / 8 + 1 by omega, show (e + 1) % 8 = 0 by omega, full_succ, h]; omega
  · rw [show (e + 1) / 8 = e / 8 by omega, show (e + 1) % 8 = e % 8 + 1 by omega, Int.add_mul]; omega
theorem wound_lt {c g : Int} (hc : 100 ≤ c ∧ c ≤ 5000) (hg : 0 ≤ g ∧ g ≤ 50) {a : Int} (ha : 0 ≤ a) (d : Nat) : a + d ≤ 4000 → wound c g a + d ≤ wound c g (a + d) := by
  induction d with
  | zero => intro _; simp
  | succ d ih =>
    intro h
    have h1 := ih (by omega)
    have h2 := wound_succ c g (a + d)
    have h3 := turn_bounds hc hg (k := (a + d) / 8) (by omega)
    rw [show a + ((d + 1 : Nat) : Int) = a + d + 1 by omega, h2]; omega
theorem wound_mono {c g : Int} (hc : 100 ≤ c ∧ c ≤ 5000) (hg : 0 ≤ g ∧ g ≤ 50) {a b : Int} (ha : 0 ≤ a) (hab : a ≤ b) (hb : b ≤ 4000) : wound c g a ≤ wound c g b := by
  have := wound_lt hc hg ha (b - a).toNat (by omega)
  rw [show a + ((b - a).toNat : Int) = b by omega] at this; omega
theorem wound_strict {c g : Int} (hc : 100 ≤ c ∧ c ≤ 5000) (hg : 0 ≤ g ∧ g ≤ 50) {a b : Int} (ha : 0 ≤ a) (hab : a < b) (hb : b ≤ 4000) : wound c g a < wound c g b := by
  have := wound_lt hc hg ha (b - a).toNat (by omega)
  rw [show a + ((b - a).toNat : Int) = b by omega] at this; omega
theorem full_mono {c g : Int} (hc : 100 ≤ c ∧ c ≤ 5000) (hg : 0 ≤ g ∧ g ≤ 50) {a b : Int} (ha : 0 ≤ a) (hab : a ≤ b) (hb : b ≤ 500) : full c g a ≤ full c g b := by
  have := wound_mono hc hg (a := 8 * a) (b := 8 * b) (by omega) (by omega) (by omega)
  rw [wound_whole, wound_whole] at this; omega
theorem wound_bounds {c g e : Int} (hc : 100 ≤ c ∧ c ≤ 5000) (hg : 0 ≤ g ∧ g ≤ 50) (he : 0 ≤ e ∧ e ≤ 4000) : 0 ≤ wound c g e ∧ wound c g e ≤ 70000000 := by
  have h1 := wound_mono hc hg (a := 0) (b := e) (by omega) (by omega) (by omega)
  have h2 := wound_mono hc hg (a := e) (b := 8 * 500) (by omega) (by omega) (by omega)
  have h3 := full_bounds hc hg (n := 500) (by omega)
  rw [wound_whole] at h2
  have h0 : wound c g 0 = 0 := by have := wound_whole c g 0; unfold full at this; simpa using this
  omega

theorem spGood_eq (c g t : Int) : spec_spGood.f c g t = some (decide (Good c g t)) := by
  unfold spec_spGood.f
  simp only [in_eq, Option.bind_some, decide_eq_true_eq]
  repeat' split
  all_goals first
    | exact someF (by unfold Good; omega)
    | exact someD (by unfold Good; omega)

theorem isSpool_eq (c g t : Int) : impl_IsSpool.f c g t = some (decide (Good c g t)) := by
  unfold impl_IsSpool.f
  repeat' split
  all_goals first
    | exact someF (by unfold Good; omega)
    | exact someD (by unfold Good; omega)

theorem spFull_eq {c g t n : Int} (h : Good c g t) (hn : 0 ≤ n ∧ n ≤ 500) : spec_spFull.f c g t n = some (full c g n) := by
  unfold spec_spFull.f Good at *
  rw [full_wrap (by omega) (by omega) hn]

theorem ipFull_eq {c g t n : Int} (h : Good c g t) (hn : 0 ≤ n ∧ n ≤ 500) : impl_woundLength.f c g t n = some (full c g n) := by
  unfold impl_woundLength.f Good at *
  rw [full_wrap (by omega) (by omega) hn]

theorem spTurn_eq {c g t n : Int} (h : Good c g t) (hn : 0 ≤ n ∧ n ≤ 500) : spec_spTurn.f c g t n = some (turn c g n) := by
  unfold spec_spTurn.f Good at *
  rw [turn_wrap (by omega) (by omega) hn]

theorem ipTurn_eq {c g t n : Int} (h : Good c g t) (hn : 0 ≤ n ∧ n ≤ 500) : impl_turnLength.f c g t n = some (turn c g n) := by
  unfold impl_turnLength.f Good at *
  rw [turn_wrap (by omega) (by omega) hn]

theorem wound_wrap {c g t e : Int} (h : Good c g t) (he : 0 ≤ e ∧ e ≤ 4000) : wrap64 ((wrap64 (8 * full c g (e / 8))) + (wrap64 ((Int.tmod e 8) * turn c g (e / 8)))) = wound c g e := by
  unfold Good at h
  have b1 := full_bounds (c := c) (g := g) (n := e / 8) (by omega) (by omega) (by omega)
  have b2 := turn_bounds (c := c) (g := g) (k := e / 8) (by omega) (by omega) (by omega)
  rw [Int.tmod_eq_emod_of_nonneg he.1]
  have b3 : 0 ≤ e % 8 * turn c g (e / 8) := Int.mul_nonneg (by omega) (by omega)
  have b4 : e % 8 * turn c g (e / 8) ≤ 7 * 30000 := Int.mul_le_mul (by omega) (by omega) (by omega) (by omega)
  rw [w64 (x := 8 * full c g (e / 8)) (by omega), w64 (x := e % 8 * turn c g (e / 8)) (by omega), w64 (by omega)]
  rfl
theorem eighth_wrap {e : Int} (he : 0 ≤ e ∧ e ≤ 4000) : wrap64 (Int.tdiv e 8) = e / 8 := by
  rw [Int.tdiv_eq_ediv_of_nonneg he.1]; exact w64 (by omega)

theorem spWound_eq {c g t e : Int} (h : Good c g t) (he : 0 ≤ e ∧ e ≤ 4000) : spec_spWound.f c g t e = some (wound c g e) := by
  unfold spec_spWound.f
  rw [eighth_wrap he, spFull_eq h (by omega), spTurn_eq h (by omega)]
  simp only [Option.bind_some]
  rw [wound_wrap h he]

theorem ipWound_eq {c g t e : Int} (h : Good c g t) (he : 0 ≤ e ∧ e ≤ 4000) : impl_eighthsLength.f c g t e = some (wound c g e) := by
  unfold impl_eighthsLength.f
  rw [eighth_wrap he, ipFull_eq h (by omega), ipTurn_eq h (by omega)]
  simp only [Option.bind_some]
  rw [wound_wrap h he]

/-- what 'the least number of eighths with at least y, up to 8 t, or -1' means -/
def IsFor (c g t y r : Int) : Prop := (r = -1 ∧ wound c g (8 * t) < y) ∨ (0 ≤ r ∧ r ≤ 8 * t ∧ y ≤ wound c g r ∧ ∀ e, 0 ≤ e → e < r → wound c g e < y)
theorem isFor_unique {c g t y r q : Int} (h : Good c g t) (hr : IsFor c g t y r) (hq : IsFor c g t y q) : r = q := by
  unfold Good at h
  rcases hr with ⟨r1, r2⟩ | ⟨r1, r2, r3, r4⟩ <;> rcases hq with ⟨q1, q2⟩ | ⟨q1, q2, q3, q4⟩
  · omega
  · have := wound_mono (c := c) (g := g) (a := q) (b := 8 * t) (by omega) (by omega) q1 q2 (by omega); omega
  · have := wound_mono (c := c) (g := g) (a := r) (b := 8 * t) (by omega) (by omega) r1 r2 (by omega); omega
  · by_cases h1 : r < q
    · have := q4 r r1 h1; omega
    · by_cases h2 : q < r
      · have := r4 q q1 h2; omega
      · omega
theorem spFor_loop {c g t y : Int} (h : Good c g t) (d : Nat) : ∀ (k : Nat) (i : Int), 0 ≤ i → i + d = 8 * t + 1 → d < k → (∀ e, 0 ≤ e → e < i → wound c g e < y) →
    ∃ r, spec_spFor.l0 k y i c g t = some r ∧ IsFor c g t y r := by
  have h' := h
  unfold Good at h'
  induction d with
  | zero =>
    intro k i hi hd hk hb
    obtain ⟨k, rfl⟩ : ∃ j, k = j + 1 := ⟨k - 1, by omega⟩
    refine ⟨-1, ?_, .inl ⟨rfl, hb _ (by omega) (by omega)⟩⟩
    rw [spec_spFor.l0, w64 (x := 8 * t) (by omega), if_neg (by omega)]
  | succ d ih =>
    intro k i hi hd hk hb
    obtain ⟨k, rfl⟩ : ∃ j, k = j + 1 := ⟨k - 1, by omega⟩
    rw [spec_spFor.l0, w64 (x := 8 * t) (by omega), if_pos (by omega), spWound_eq h (by omega), w64 (x := i + 1) (by omega)]
    simp only [Option.bind_some]
    by_cases hy : wound c g i ≥ y
    · rw [if_pos hy]
      exact ⟨i, rfl, .inr ⟨hi, by omega, hy, hb⟩⟩
    · rw [if_neg hy]
      refine ih k (i + 1) (by omega) (by omega) (by omega) (fun e e0 e1 => ?_)
      by_cases he : e = i
      · subst he; omega
      · exact hb e e0 (by omega)
theorem spFor_eq {c g t : Int} (h : Good c g t) (y : Int) (k : Nat) (hk : 5000 < k) : ∃ r, spec_spFor.f k c g t y = some r ∧ IsFor c g t y r := by
  unfold spec_spFor.f
  have h' := h
  unfold Good at h'
  exact spFor_loop h (8 * t + 1).toNat k 0 (by omega) (by omega) (by omega) (fun e e0 e1 => by omega)

theorem ipFor_loop {c g t y : Int} (h : Good c g t) (d : Nat) : ∀ (k : Nat) (lo hi : Int), 0 ≤ lo → lo ≤ hi → hi ≤ 8 * t → hi - lo ≤ d → d < k → y ≤ wound c g hi → (∀ e, 0 ≤ e → e < lo → wound c g e < y) →
    ∃ r, impl_eighthsFor.l0 k y lo hi c g t = some (r, true) ∧ IsFor c g t y r := by
  have h' := h
  unfold Good at h'
  induction d with
  | zero =>
    intro k lo hi h0 h1 h2 hd hk hy hb
    obtain ⟨k, rfl⟩ : ∃ j, k = j + 1 := ⟨k - 1, by omega⟩
    obtain rfl : lo = hi := by omega
    exact ⟨lo, by rw [impl_eighthsFor.l0, if_neg (by omega)], .inr ⟨h0, h2, hy, hb⟩⟩
  | succ d ih =>
    intro k lo hi h0 h1 h2 hd hk hy hb
    obtain ⟨k, rfl⟩ : ∃ j, k = j + 1 := ⟨k - 1, by omega⟩
    by_cases hlt : lo < hi
    · have hm : wrap64 (Int.tdiv (wrap64 (lo + hi)) 2) = (lo + hi) / 2 := by
        rw [w64 (x := lo + hi) (by omega), Int.tdiv_eq_ediv_of_nonneg (by omega)]; exact w64 (by omega)
      rw [impl_eighthsFor.l0, if_pos hlt, hm, ipWound_eq h (by omega)]
      simp only [Option.bind_some]
      by_cases hw : wound c g ((lo + hi) / 2) ≥ y
      · rw [if_pos hw]
        exact ih k lo _ h0 (by omega) (by omega) (by omega) (by omega) hw hb
      · rw [if_neg hw, w64 (by omega)]
        refine ih k _ hi (by omega) (by omega) h2 (by omega) (by omega) hy (fun e e0 e1 => ?_)
        have := wound_mono (c := c) (g := g) (a := e) (b := (lo + hi) / 2) (by omega) (by omega) e0 (by omega) (by omega)
        omega
    · obtain rfl : lo = hi := by omega
      exact ⟨lo, by rw [impl_eighthsFor.l0, if_neg hlt], .inr ⟨h0, h2, hy, hb⟩⟩
theorem ipFor_eq {c g t : Int} (h : Good c g t) (y : Int) (k : Nat) (hk : 5000 < k) : ∃ r, impl_eighthsFor.f k c g t y = some (if r < 0 then (0, false) else (r, true)) ∧ IsFor c g t y r := by
  have h' := h
  unfold Good at h'
  unfold impl_eighthsFor.f
  rw [w64 (x := 8 * t) (by omega), ipWound_eq h (by omega)]
  simp only [Option.bind_some]
  by_cases hw : wound c g (8 * t) < y
  · exact ⟨-1, by rw [if_pos hw, if_pos (by omega)], .inl ⟨rfl, hw⟩⟩
  · obtain ⟨r, hr, hf⟩ := ipFor_loop (y := y) h (8 * t).toNat k 0 (8 * t) (by omega) (by omega) (by omega) (by omega) (by omega) (by omega) (fun e e0 e1 => by omega)
    refine ⟨r, ?_, hf⟩
    rw [if_neg hw, hr]
    rcases hf with ⟨hf, hf'⟩ | ⟨hf, _⟩
    · omega
    · rw [if_neg (by omega)]

def rest (g t y : Int) : Int := y - t * (t - 1) / 2 * g
def least (g t y : Int) : Int := if 100 ≥ (rest g t y + t - 1) / t then 100 else (rest g t y + t - 1) / t
theorem least_suffices {g t y c : Int} (h : Good 100 g t) (hc : 100 ≤ c) : y ≤ full c g t ↔ least g t y ≤ c := by
  unfold Good at h
  unfold full least rest
  have e : (y - t * (t - 1) / 2 * g + t - 1) / t ≤ c ↔ y - t * (t - 1) / 2 * g ≤ t * c := by
    rw [← Int.lt_add_one_iff, Int.ediv_lt_iff_lt_mul (by omega), Int.add_mul, Int.mul_comm c t]; omega
  split <;> omega
theorem spLeast_eq {g t y : Int} (h : Good 100 g t) (hy : 0 ≤ y ∧ y ≤ 100000000) (k : Nat) (hk : 0 < k) :
    spec_LeastCore.f k g t y = some (if least g t y > 5000 then (0, false) else (least g t y, true)) := by
  obtain ⟨k, rfl⟩ : ∃ j, k = j + 1 := ⟨k - 1, by omega⟩
  have h' := h
  unfold Good at h'
  have fb := full_bounds (c := 100) (g := g) (n := t) (by omega) (by omega) (by omega)
  obtain ⟨t0, t1⟩ := tri_bounds (n := t) (by omega) (by omega)
  have e1 : wrap64 (wrap64 (wrap64 (y - wrap64 (wrap64 (Int.tdiv (wrap64 (t * wrap64 (t - 1))) 2) * g)) + t) - 1) = rest g t y + t - 1 := by
    rw [w64 (x := t - 1) (by omega), w64 (x := t * (t - 1)) (by omega), Int.tdiv_eq_ediv_of_nonneg t0, w64 (x := t * (t - 1) / 2) (by omega), w64 (x := t * (t - 1) / 2 * g) (by omega), w64 (x := y - t * (t - 1) / 2 * g) (by omega)]
    unfold rest
    rw [w64 (x := y - t * (t - 1) / 2 * g + t) (by omega), w64 (by omega)]
  have e2 : spec_l1Most.f 100 (wrap64 (Int.tdiv (rest g t y + t - 1) t)) = some (least g t y) := by
    unfold spec_l1Most.f least
    have r0 : -10000000 ≤ rest g t y ∧ rest g t y ≤ 100000000 := by unfold rest; omega
    by_cases hn : 0 ≤ rest g t y + t - 1
    · have d0 := Int.ediv_nonneg hn (show 0 ≤ t by omega)
      have d1 := Int.ediv_le_self t hn
      rw [Int.tdiv_eq_ediv_of_nonneg hn, w64 (by omega)]
      split
      · rw [if_pos (by omega)]
      · by_cases he : (rest g t y + t - 1) / t = 100
        · rw [he, if_pos (by omega)]
        · rw [if_neg (by omega)]
    · have d0 : Int.tdiv (rest g t y + t - 1) t ≤ 0 := by
        have := Int.tdiv_nonneg (a := -(rest g t y + t - 1)) (b := t) (by omega) (by omega)
        rw [Int.neg_tdiv] at this; omega
      have d1 : -100000000 ≤ Int.tdiv (rest g t y + t - 1) t := by
        have := Int.tdiv_le_self (a := -(rest g t y + t - 1)) t (by omega)
        rw [Int.neg_tdiv] at this; omega
      have d2 : (rest g t y + t - 1) / t < 0 := Int.ediv_neg_of_neg_of_pos (by omega) (by omega)
      rw [w64 (by omega), if_pos (by omega), if_pos (by omega)]
  unfold spec_LeastCore.f spec_spLength.f
  simp only [in_eq, Option.bind_some, spec_LeastCore.j0, e1, e2, decide_eq_true_eq]
  rw [if_pos (by omega), if_pos (by omega), if_neg (by simp; omega), if_neg (by omega)]
  split <;> rfl
theorem ipLeast_loop {g t y : Int} (h : Good 100 g t) (hy : 0 ≤ y ∧ y ≤ 100000000) (d : Nat) : ∀ (k : Nat) (c : Int), 100 ≤ c → c + d = 5001 → d < k → c ≤ least g t y →
    impl_LeastCore.l0 k t y c g t = some (if least g t y > 5000 then (0, false) else (least g t y, true)) := by
  have h' := h
  unfold Good at h'
  induction d with
  | zero =>
    intro k c hc hd hk hl
    obtain ⟨k, rfl⟩ : ∃ j, k = j + 1 := ⟨k - 1, by omega⟩
    rw [impl_LeastCore.l0, if_neg (by omega), if_pos (by omega)]
  | succ d ih =>
    intro k c hc hd hk hl
    obtain ⟨k, rfl⟩ : ∃ j, k = j + 1 := ⟨k - 1, by omega⟩
    have hg : Good c g t := by unfold Good; omega
    have hs := least_suffices (y := y) h hc
    rw [impl_LeastCore.l0, if_pos (by omega), ipFull_eq hg (by omega), w64 (x := c + 1) (by omega)]
    simp only [Option.bind_some]
    by_cases he : least g t y = c
    · rw [if_pos (by omega), if_neg (by omega), he]
    · rw [if_neg (by omega)]
      exact ih k (c + 1) (by omega) (by omega) (by omega) (by omega)
theorem ipLeast_eq {g t y : Int} (h : Good 100 g t) (hy : 0 ≤ y ∧ y ≤ 100000000) (k : Nat) (hk : 5001 < k) :
    impl_LeastCore.f k g t y = some (if least g t y > 5000 then (0, false) else (least g t y, true)) := by
  obtain ⟨k, rfl⟩ : ∃ j, k = j + 1 := ⟨k - 1, by omega⟩
  unfold impl_LeastCore.f impl_isLength.f
  rw [isSpool_eq, if_pos (by omega)]
  simp only [Option.bind_some, impl_LeastCore.j0, decide_eq_true_eq]
  rw [if_pos h, if_neg (by simp; omega)]
  refine ipLeast_loop h hy 4901 k 100 (by omega) (by omega) (by omega) ?_
  unfold least; split <;> omega
theorem least_bad {g t y : Int} (h : ¬ (Good 100 g t ∧ 0 ≤ y ∧ y ≤ 100000000)) (k : Nat) (hk : 0 < k) :
    spec_LeastCore.f k g t y = some (0, false) ∧ impl_LeastCore.f k g t y = some (0, false) := by
  obtain ⟨k, rfl⟩ : ∃ j, k = j + 1 := ⟨k - 1, by omega⟩
  constructor
  · unfold spec_LeastCore.f spec_spLength.f
    unfold Good at h
    simp only [in_eq, Option.bind_some, spec_LeastCore.j0, decide_eq_true_eq]
    split
    · split
      · rw [if_pos (by simp; omega)]
      · rw [if_pos trivial]
    · rw [if_pos trivial]
  · unfold impl_LeastCore.f impl_isLength.f
    rw [isSpool_eq]
    simp only [Option.bind_some, impl_LeastCore.j0, decide_eq_true_eq]
    split
    · rename_i hg
      have hy : ¬ (0 ≤ y ∧ y ≤ 100000000) := fun hh => h ⟨hg, hh⟩
      split
      · simp only [Option.bind_some]
        rw [if_pos (by simp; omega)]
      · simp only [Option.bind_some]
        rw [if_pos (by simp)]
    · rw [if_pos trivial]

/-- what is drawn out of bytes is always there -/
theorem tmod_range (x n : Int) (hx : 0 ≤ x) (hn : 1 ≤ n) : 0 ≤ Int.tmod x n ∧ Int.tmod x n < n := by
  rw [Int.tmod_eq_emod_of_nonneg hx]
  exact ⟨Int.emod_nonneg _ (by omega), Int.emod_lt_of_pos _ (by omega)⟩
theorem u64_range (x : Int) : 0 ≤ IntKind.u64.wrap x ∧ IntKind.u64.wrap x < 18446744073709551616 := by
  simp only [IntKind.wrap, IntKind.bits, IntKind.signed, Bool.false_and, Bool.false_eq_true, if_false]
  exact ⟨Int.emod_nonneg _ (by decide), Int.emod_lt_of_pos _ (by decide)⟩
theorem u64_keeps (n : Int) (h0 : 0 ≤ n) (h1 : n < 2 ^ 64) : IntKind.u64.wrap n = n := by
  simp only [IntKind.wrap, IntKind.bits, IntKind.signed, Bool.false_and, Bool.false_eq_true, if_false]
  exact Int.emod_eq_of_lt h0 h1
theorem low_byte (x : Int) : ∃ v, wrap64 (Go.bits .and .u64 ((IntKind.u64.wrap x) / 1099511627776) 255) = v ∧ 0 ≤ v ∧ v ≤ 255 := by
  obtain ⟨h0, h1⟩ := u64_range x
  have hd0 : 0 ≤ IntKind.u64.wrap x / 1099511627776 := by omega
  have hd1 : IntKind.u64.wrap x / 1099511627776 < 2 ^ 64 := by omega
  have e := bits_mask .u64 64 (by decide) (fun n a b => u64_keeps n a b) 8 (by decide) _ hd0 hd1
  rw [show (255 : Int) = 2 ^ 8 - 1 by decide, e]
  generalize IntKind.u64.wrap x / 1099511627776 = y at hd0 hd1
  have : 0 ≤ y % 2 ^ 8 ∧ y % 2 ^ 8 ≤ 255 := by omega
  exact ⟨_, w64 (by omega), this.1, this.2⟩
def Bytes (l : List Int) : Prop := l.length ≤ 1048576 ∧ ∀ x ∈ l, 0 ≤ x ∧ x ≤ 255
theorem next_ok (l : List Int) (hl : Bytes l) (a s : Int) (ha : 0 ≤ a ∧ a ≤ 1000000) : ∃ v s', spec_l1Cur_next.f l a s = some (v, a + 1, s') ∧ 0 ≤ v ∧ v ≤ 255 := by
  have wa : wrap64 (a + 1) = a + 1 := w64 (by omega)
  unfold spec_l1Cur_next.f
  rw [wa]
  clear wa
  by_cases h : a < (l.length : Int)
  · obtain ⟨n, rfl⟩ : ∃ n : Nat, a = n := ⟨a.toNat, by omega⟩
    have hn : n < l.length := by omega
    rw [if_pos h, if_pos ha.1]
    have hb := hl.2 _ (List.getElem_mem hn)
    by_cases h2 : (n : Int) + 1 ≤ (l.length : Int)
    · rw [if_pos h2]
      refine ⟨_, _, rfl, ?_⟩
      rw [rd_get l n hn, w64 (by omega)]
      exact hb
    · omega
  · rw [if_neg h]
    by_cases h2 : a + 1 ≤ (l.length : Int)
    · rw [if_pos h2]
      exact ⟨_, _, rfl, by omega, by omega⟩
    · rw [if_neg h2]
      obtain ⟨v, e, h0, h1⟩ := low_byte (IntKind.u64.wrap (IntKind.u64.wrap (s * 6364136223846793005)) + 1442695040888963407)
      exact ⟨v, IntKind.u64.wrap (IntKind.u64.wrap (IntKind.u64.wrap (s * 6364136223846793005)) + 1442695040888963407), by rw [e], h0, h1⟩
theorem pick_ok (l : List Int) (hl : Bytes l) (a s : Int) (ha : 0 ≤ a ∧ a ≤ 900000) (n : Int) :
    ∃ v a' s', spec_l1Cur_pick.f l a s n = some (v, a', s') ∧ 0 ≤ v ∧ (1 ≤ n → v < n) ∧ a ≤ a' ∧ a' ≤ a + 2 := by
  unfold spec_l1Cur_pick.f
  by_cases h : n ≤ 1
  · rw [if_pos h]
    exact ⟨0, a, s, rfl, by omega, by omega, by omega, by omega⟩
  · rw [if_neg h]
    obtain ⟨v, s1, e1, h0, h1⟩ := next_ok l hl a s (by omega)
    rw [e1]
    simp only [Option.bind_some]
    by_cases h2 : n > 200
    · obtain ⟨u, s2, e2, g0, g1⟩ := next_ok l hl (a + 1) s1 (by omega)
      rw [if_pos h2, e2]
      simp only [Option.bind_some]
      rw [if_neg (by omega), w64 (x := v * 256) (by omega), w64 (by omega)]
      have r := tmod_range (v * 256 + u) n (by omega) (by omega)
      exact ⟨_, _, _, rfl, r.1, fun _ => r.2, by omega, by omega⟩
    · rw [if_neg h2, if_neg (by omega)]
      have r := tmod_range v n h0 (by omega)
      exact ⟨_, _, _, rfl, r.1, fun _ => r.2, by omega, by omega⟩
theorem one_ok (l : List Int) (hl : Bytes l) (a s : Int) (ha : 0 ≤ a ∧ a ≤ 900000) (n : Int) :
    ∃ v a' s', spec_l1Cur_one.f l a s n = some (v, a', s') ∧ a ≤ a' ∧ a' ≤ a + 2 := by
  obtain ⟨v, a', s', e, _, _, h1, h2⟩ := pick_ok l hl a s ha n
  unfold spec_l1Cur_one.f
  rw [e]
  exact ⟨_, _, _, rfl, h1, h2⟩
theorem among_ok (l : List Int) (hl : Bytes l) (a s : Int) (ha : 0 ≤ a ∧ a ≤ 900000) (xs : List Int) (hx : 1 ≤ xs.length) :
    ∃ v a' s', spec_l1Cur_among.f l a s xs = some (v, a', s') ∧ a ≤ a' ∧ a' ≤ a + 2 := by
  obtain ⟨v, a', s', e, h0, h1, h2, h3⟩ := pick_ok l hl a s ha (xs.length : Int)
  unfold spec_l1Cur_among.f
  rw [e]
  simp only [Option.bind_some]
  rw [if_pos h0, if_pos (h1 (by omega))]
  exact ⟨_, _, _, rfl, h2, h3⟩
theorem spool_ok (l : List Int) (hl : Bytes l) (a s : Int) (ha : 0 ≤ a ∧ a ≤ 800000) :
    ∃ c g t a' s', spec_l1Cur_spool.f l a s = some (c, g, t, a', s') ∧ a ≤ a' ∧ a' ≤ a + 14 := by
  unfold spec_l1Cur_spool.f
  obtain ⟨v1, a1, s1, e1, _, _, l1, u1⟩ := pick_ok l hl a s (by omega) 4901
  rw [e1]; simp only [Option.bind_some]
  obtain ⟨v2, a2, s2, e2, l2, u2⟩ := among_ok l hl a1 s1 (by omega) [100, 500, 1000, wrap64 (100 + v1), 5000] (by simp)
  rw [e2]; simp only [Option.bind_some]
  obtain ⟨v3, a3, s3, e3, l3, u3⟩ := among_ok l hl a2 s2 (by omega) [0, 1, 2, 5, 50] (by simp)
  rw [e3]; simp only [Option.bind_some]
  obtain ⟨v4, a4, s4, e4, _, _, l4, u4⟩ := pick_ok l hl a3 s3 (by omega) 500
  rw [e4]; simp only [Option.bind_some]
  obtain ⟨v5, a5, s5, e5, l5, u5⟩ := among_ok l hl a4 s4 (by omega) [1, 2, 10, 50, wrap64 (1 + v4), 500] (by simp)
  rw [e5]; simp only [Option.bind_some]
  obtain ⟨v6, a6, s6, e6, _, _, l6, u6⟩ := pick_ok l hl a5 s5 (by omega) 24
  rw [e6]; simp only [Option.bind_some]
  obtain ⟨v7, a7, s7, e7, l7, u7⟩ := among_ok l hl a6 s6 (by omega) [99, 5001] (by simp)
  obtain ⟨v8, a8, s8, e8, l8, u8⟩ := among_ok l hl a6 s6 (by omega) [(-1), 51] (by simp)
  obtain ⟨v9, a9, s9, e9, l9, u9⟩ := among_ok l hl a6 s6 (by omega) [0, 501] (by simp)
  rw [e7, e8, e9]
  simp only [Option.bind_some]
  by_cases h0 : v6 = 0
  · rw [if_pos h0]; exact ⟨_, _, _, _, _, rfl, by omega, by omega⟩
  · rw [if_neg h0]
    by_cases h1 : v6 = 1
    · rw [if_pos h1]; exact ⟨_, _, _, _, _, rfl, by omega, by omega⟩
    · rw [if_neg h1]
      by_cases h2 : v6 = 2
      · rw [if_pos h2]; exact ⟨_, _, _, _, _, rfl, by omega, by omega⟩
      · rw [if_neg h2]; exact ⟨_, _, _, _, _, rfl, by omega, by omega⟩

theorem gcd_loop (d : Nat) : ∀ (a b : Int), 0 ≤ a → a ≤ 30000 → 0 ≤ b → b ≤ d → b ≤ 30000 → (0 < a ∨ 0 < b) → ∃ r, 0 < r ∧ (∀ k, d < k → impl_gcd.l0 k a b = some r) ∧ r ∣ a ∧ r ∣ b := by
  induction d with
  | zero =>
    intro a b ha ha' hb hd hb' h
    have e : b = 0 := by omega
    subst e
    refine ⟨a, by omega, fun k hk => ?_, Int.dvd_refl a, Int.dvd_zero a⟩
    obtain ⟨k, rfl⟩ : ∃ j, k = j + 1 := ⟨k - 1, by omega⟩
    rw [impl_gcd.l0, if_pos rfl]
  | succ d ih =>
    intro a b ha ha' hb hd hb' h
    by_cases e : b = 0
    · subst e
      refine ⟨a, by omega, fun k hk => ?_, Int.dvd_refl a, Int.dvd_zero a⟩
      obtain ⟨k, rfl⟩ : ∃ j, k = j + 1 := ⟨k - 1, by omega⟩
      rw [impl_gcd.l0, if_pos rfl]
    · have hm : Int.tmod a b = a % b := Int.tmod_eq_emod_of_nonneg ha
      have m0 := Int.emod_nonneg a e
      have m1 := Int.emod_lt_of_pos a (show 0 < b by omega)
      obtain ⟨r, hr, hk', d1, d2⟩ := ih b (a % b) hb hb' m0 (by omega) (by omega) (by omega)
      refine ⟨r, hr, fun k hk => ?_, ?_, d1⟩
      · obtain ⟨k, rfl⟩ : ∃ j, k = j + 1 := ⟨k - 1, by omega⟩
        rw [impl_gcd.l0, if_neg e, hm]; exact hk' k (by omega)
      · have := Int.mul_ediv_add_emod a b
        rw [← this]
        exact Int.dvd_add (Int.dvd_trans d1 (Int.dvd_mul_right b _)) d2
theorem part_low {a b : Int} (ha : 0 < a ∧ a ≤ 30000) (hb : 0 < b ∧ b ≤ 30000) : ∃ p q, 0 < q ∧ q ≤ b ∧ p * b = a * q ∧ (∀ k, 40000 < k → impl_lowest.f k a b = some (p, q)) := by
  obtain ⟨r, hr, hk, d1, d2⟩ := gcd_loop 30000 a b (by omega) (by omega) (by omega) (by omega) (by omega) (by omega)
  have ra : 0 ≤ a / r ∧ a / r ≤ a := ⟨Int.ediv_nonneg (by omega) (by omega), Int.ediv_le_self r (by omega)⟩
  have rb : 0 ≤ b / r ∧ b / r ≤ b := ⟨Int.ediv_nonneg (by omega) (by omega), Int.ediv_le_self r (by omega)⟩
  have ea : wrap64 (Int.tdiv a r) = a / r := by rw [Int.tdiv_eq_ediv_of_nonneg (by omega)]; exact w64 (by omega)
  have eb : wrap64 (Int.tdiv b r) = b / r := by rw [Int.tdiv_eq_ediv_of_nonneg (by omega)]; exact w64 (by omega)
  have ma := Int.ediv_mul_cancel d1
  have mb := Int.ediv_mul_cancel d2
  refine ⟨a / r, b / r, ?_, by omega, ?_, fun k h => ?_⟩
  · by_cases e : b / r = 0
    · rw [e] at mb; simp at mb; omega
    · omega
  · have h1 : a / r * b = a / r * (b / r * r) := by rw [mb]
    have h2 : a * (b / r) = a / r * r * (b / r) := by rw [ma]
    rw [h1, h2, Int.mul_assoc (a / r) r (b / r), Int.mul_comm (b / r) r]
  · unfold impl_lowest.f impl_gcd.f
    rw [hk k (by omega)]
    simp only [Option.bind_some]
    rw [if_neg (by omega), ea, eb]

theorem lw_good {c g t e : Int} (h : Good c g t) (h0 : 0 ≤ e) (h1 : e ≤ 8 * t) : impl_LengthWound.f c g t e = some (wound c g e, true) ∧ spec_LengthWound.f c g t e = some (wound c g e, true) := by
  have hw : wrap64 (8 * t) = 8 * t := w64 (by unfold Good at h; omega)
  have h5 : 0 ≤ e ∧ e ≤ 4000 := by unfold Good at h; omega
  unfold spec_LengthWound.f spec_spEighths.f impl_LengthWound.f impl_isEighths.f
  simp only [Option.bind_some, spGood_eq, isSpool_eq, in_eq, hw]
  exact ⟨by simp [h, h0, h1, ipWound_eq h h5], by simp [h, h0, h1, spWound_eq h h5]⟩
theorem lw_all (c g t e : Int) : ∃ v ok, impl_LengthWound.f c g t e = some (v, ok) ∧ spec_LengthWound.f c g t e = some (v, ok) ∧ (ok = true → Good c g t ∧ 0 ≤ e ∧ e ≤ 8 * t ∧ v = wound c g e) := by
  by_cases h : Good c g t
  · by_cases h0 : 0 ≤ e
    · by_cases h1 : e ≤ 8 * t
      · exact ⟨_, _, (lw_good h h0 h1).1, (lw_good h h0 h1).2, fun _ => ⟨h, h0, h1, rfl⟩⟩
      · have hw : wrap64 (8 * t) = 8 * t := w64 (by unfold Good at h; omega)
        refine ⟨0, false, ?_, ?_, by simp⟩
        · unfold impl_LengthWound.f impl_isEighths.f
          simp only [Option.bind_some, isSpool_eq, hw]
          simp [h, h0, h1]
        · unfold spec_LengthWound.f spec_spEighths.f
          simp only [Option.bind_some, spGood_eq, in_eq, hw]
          simp [h, h0, h1]
    · refine ⟨0, false, ?_, ?_, by simp⟩
      · unfold impl_LengthWound.f impl_isEighths.f
        simp only [Option.bind_some, isSpool_eq]
        simp [h, h0]
      · unfold spec_LengthWound.f spec_spEighths.f
        simp only [Option.bind_some, spGood_eq, in_eq]
        simp [h, h0]
  · refine ⟨0, false, ?_, ?_, by simp⟩
    · unfold impl_LengthWound.f impl_isEighths.f
      simp only [Option.bind_some, isSpool_eq]
      simp [h]
    · unfold spec_LengthWound.f spec_spEighths.f
      simp only [Option.bind_some, spGood_eq, in_eq]
      simp [h]
theorem lo_good {c g t : Int} (h : Good c g t) : impl_LengthOf.f c g t = some (full c g t, true) ∧ spec_LengthOf.f c g t = some (full c g t, true) := by
  have h5 : 0 ≤ t ∧ t ≤ 500 := by unfold Good at h; omega
  unfold spec_LengthOf.f impl_LengthOf.f
  simp only [Option.bind_some, spGood_eq, isSpool_eq]
  exact ⟨by simp [h, ipFull_eq h h5], by simp [h, spFull_eq h h5]⟩
theorem spFull_tot (c g t n : Int) : ∃ r, spec_spFull.f c g t n = some r := by
  unfold spec_spFull.f
  exact ⟨_, rfl⟩
theorem most_tot (a b : Int) : ∃ r, spec_l1Most.f a b = some r := by
  unfold spec_l1Most.f
  split <;> exact ⟨_, rfl⟩
theorem least_tot (a b : Int) : ∃ r, spec_l1Least.f a b = some r := by
  unfold spec_l1Least.f
  split <;> exact ⟨_, rfl⟩
theorem paper_ok (l : List Int) (hl : Bytes l) (a s : Int) (ha : 0 ≤ a ∧ a ≤ 700000) (c g t : Int) (k : Nat) (hk : 0 < k) :
    ∃ v a' s', spec_l1Cur_paperLength.f k l a s c g t = some (v, a', s') ∧ a ≤ a' ∧ a' ≤ a + 10 := by
  obtain ⟨k, rfl⟩ : ∃ j, k = j + 1 := ⟨k - 1, by omega⟩
  have key : ∀ (b : Bool) (a1 s1 : Int), a ≤ a1 → a1 ≤ a + 2 → ∃ v a' s', spec_l1Cur_paperLength.j0 (k + 1) b l a1 s1 c g t = some (v, a', s') ∧ a ≤ a' ∧ a' ≤ a + 10 := by
    intro b a1 s1 g1 g2
    rw [spec_l1Cur_paperLength.j0]
    by_cases hb : b = true
    · rw [if_pos hb]
      obtain ⟨v2, a2, s2, e2, _, _, l2, u2⟩ := pick_ok l hl a1 s1 (by omega) (wrap64 (t + 1))
      rw [e2]; simp only [Option.bind_some]
      obtain ⟨r, hr⟩ := spFull_tot c g t v2
      rw [hr]; simp only [Option.bind_some]
      obtain ⟨v3, a3, s3, e3, _, _, l3, u3⟩ := pick_ok l hl a2 s2 (by omega) 3
      rw [e3]; simp only [Option.bind_some]
      obtain ⟨m, hm⟩ := most_tot 0 (wrap64 ((wrap64 (r + v3)) - 1))
      rw [hm]
      exact ⟨m, a3, s3, rfl, by omega, by omega⟩
    · rw [if_neg hb]
      obtain ⟨v2, a2, s2, e2, _, _, l2, u2⟩ := pick_ok l hl a1 s1 (by omega) 60000
      rw [e2]; simp only [Option.bind_some]
      obtain ⟨v3, a3, s3, e3, l3, u3⟩ := among_ok l hl a2 s2 (by omega) [100000001, (-1)] (by simp)
      rw [e3]; simp only [Option.bind_some]
      obtain ⟨v4, a4, s4, e4, l4, u4⟩ := among_ok l hl a3 s3 (by omega) [0, 1, 1000, v2, 100000000, v3] (by simp)
      rw [e4]
      exact ⟨v4, a4, s4, rfl, by omega, by omega⟩
  unfold spec_l1Cur_paperLength.f
  rw [spGood_eq]
  simp only [Option.bind_some]
  by_cases h : decide (Good c g t) = true
  · rw [if_pos h]
    obtain ⟨v1, a1, s1, e1, l1, u1⟩ := one_ok l hl a s (by omega) 4
    rw [e1]; simp only [Option.bind_some]
    exact key _ a1 s1 l1 u1
  · rw [if_neg h]
    exact key _ a s (by omega) (by omega)
theorem eighths_ok (l : List Int) (hl : Bytes l) (a s : Int) (ha : 0 ≤ a ∧ a ≤ 700000) (c g t : Int) :
    ∃ v a' s', spec_l1Cur_spoolEighths.f l a s c g t = some (v, a', s') ∧ a ≤ a' ∧ a' ≤ a + 10 := by
  unfold spec_l1Cur_spoolEighths.f
  obtain ⟨m, hm⟩ := least_tot t 501
  rw [hm]; simp only [Option.bind_some]
  obtain ⟨q, hq⟩ := most_tot 1 m
  rw [hq]; simp only [Option.bind_some]
  obtain ⟨v1, a1, s1, e1, _, _, l1, u1⟩ := pick_ok l hl a s (by omega) (wrap64 (8 * q))
  rw [e1]; simp only [Option.bind_some]
  obtain ⟨v2, a2, s2, e2, _, _, l2, u2⟩ := pick_ok l hl a1 s1 (by omega) (wrap64 (8 * q))
  rw [e2]; simp only [Option.bind_some]
  obtain ⟨v3, a3, s3, e3, l3, u3⟩ := among_ok l hl a2 s2 (by omega) [wrap64 ((wrap64 (8 * q)) + 1), (-1)] (by simp)
  rw [e3]; simp only [Option.bind_some]
  obtain ⟨v4, a4, s4, e4, l4, u4⟩ := among_ok l hl a3 s3 (by omega) [0, 1, 8, 9, v1, v2, wrap64 (8 * q), v3] (by simp)
  rw [e4]
  exact ⟨v4, a4, s4, rfl, by omega, by omega⟩
theorem drawTL_ok (l : List Int) (hl : Bytes l) : ∃ c g t n, spec_DrawTurnLength.f l = some (c, g, t, n) := by
  unfold spec_DrawTurnLength.f
  obtain ⟨c, g, t, a1, s1, e1, l1, u1⟩ := spool_ok l hl 0 0 (by omega)
  rw [e1]; simp only [Option.bind_some]
  obtain ⟨m, hm⟩ := most_tot 1 t
  rw [hm]; simp only [Option.bind_some]
  obtain ⟨v2, a2, s2, e2, _, _, l2, u2⟩ := pick_ok l hl a1 s1 (by omega) m
  rw [e2]; simp only [Option.bind_some]
  obtain ⟨v3, a3, s3, e3, l3, u3⟩ := among_ok l hl a2 s2 (by omega) [t, (-1)] (by simp)
  rw [e3]; simp only [Option.bind_some]
  obtain ⟨v4, a4, s4, e4, l4, u4⟩ := among_ok l hl a3 s3 (by omega) [0, 1, wrap64 (t - 1), v2, v3] (by simp)
  rw [e4]
  exact ⟨c, g, t, v4, rfl⟩
theorem sr_good {c g t n : Int} (h : Good c g t) (h0 : 0 ≤ n) (h1 : n ≤ t - 1) (k : Nat) (hk : 50000 < k) : ∃ p q, impl_SpeedRatio.f k c g t n = some (p, q, true) ∧ 0 < q ∧ q ≤ c ∧ p * c = turn c g n * q := by
  have h' := h
  unfold Good at h'
  have h4 : 0 ≤ n ∧ n ≤ 500 := by omega
  have h5 : ¬ t ≤ n := by omega
  have h6 : ¬ n < 0 := by omega
  have hb := turn_bounds (c := c) (g := g) (k := n) (by omega) (by omega) h4
  obtain ⟨p, q, q1, q2, hpq, hi⟩ := part_low (a := turn c g n) (b := c) (by omega) (by omega)
  obtain ⟨k, rfl⟩ : ∃ j, k = j + 1 := ⟨k - 1, by omega⟩
  refine ⟨p, q, ?_, q1, q2, hpq⟩
  unfold impl_SpeedRatio.f
  simp only [Option.bind_some, isSpool_eq, impl_SpeedRatio.j0]
  simp [h, h6, h5, ipTurn_eq h h4, hi k (by omega)]
theorem u8_wf (l : List Int) (h : ∀ x ∈ l, (Lit.int .u8 x).wf = true) : ∀ x ∈ l, 0 ≤ x ∧ x ≤ 255 := by
  intro x hx
  have := h x hx
  simp [Lit.wf, IntKind.min, IntKind.max, IntKind.bits, IntKind.signed] at this
  omega

theorem cmp_sym (x y : Int) : ∃ r, cmp_Compare_int.f x y = some r ∧ cmp_Compare_int.f y x = some (-r) ∧ -1 ≤ r ∧ r ≤ 1 := by
  unfold cmp_Compare_int.f cmp_isNaN_int.f
  simp only [Option.bind_some, bne_self_eq_false, Bool.false_eq_true, if_false]
  by_cases h : x < y
  · rw [if_pos h, if_neg (show ¬ y < x by omega), if_pos h]
    exact ⟨-1, rfl, rfl, by omega, by omega⟩
  · by_cases h' : y < x
    · rw [if_neg h, if_pos h', if_pos h']
      exact ⟨1, rfl, rfl, by omega, by omega⟩
    · rw [if_neg h, if_neg h', if_neg h', if_neg h]
      exact ⟨0, rfl, rfl, by omega, by omega⟩
theorem sign_cmp (x y : Int) (hx : 0 ≤ x ∧ x ≤ 8750000) (hy : 0 ≤ y ∧ y ≤ 8750000) : spec_l1Sign.f (wrap64 (x - y)) = cmp_Compare_int.f x y := by
  rw [w64 (by omega)]
  unfold spec_l1Sign.f cmp_Compare_int.f cmp_isNaN_int.f
  simp only [Option.bind_some, bne_self_eq_false, Bool.false_eq_true, if_false]
  by_cases h : x < y
  · rw [if_neg (by omega), if_pos (by omega), if_pos h]
  · by_cases h' : y < x
    · rw [if_pos (by omega), if_neg h, if_pos h']
    · rw [if_neg (by omega), if_neg (by omega), if_neg h, if_neg h']
theorem cs_all (c g t c' g' t' : Int) (k : Nat) (hk : 0 < k) : ∃ r ok, impl_CompareSpools.f k c g t c' g' t' = some (r, ok) ∧ spec_CompareSpools.f k c g t c' g' t' = some (r, ok) ∧
    (ok = true → -1 ≤ r ∧ r ≤ 1 ∧ ∀ j, 0 < j → impl_CompareSpools.f j c' g' t' c g t = some (-r, true)) := by
  obtain ⟨k, rfl⟩ : ∃ j, k = j + 1 := ⟨k - 1, by omega⟩
  by_cases h : Good c g t
  · by_cases h' : Good c' g' t'
    · have b := full_bounds (c := c) (g := g) (n := t) ⟨h.1, h.2.1⟩ ⟨h.2.2.1, h.2.2.2.1⟩ (by unfold Good at h; omega)
      have b' := full_bounds (c := c') (g := g') (n := t') ⟨h'.1, h'.2.1⟩ ⟨h'.2.2.1, h'.2.2.2.1⟩ (by unfold Good at h'; omega)
      have s1 := spFull_eq h (n := t) (by unfold Good at h; omega)
      have s2 := spFull_eq h' (n := t') (by unfold Good at h'; omega)
      have i1 := ipFull_eq h (n := t) (by unfold Good at h; omega)
      have i2 := ipFull_eq h' (n := t') (by unfold Good at h'; omega)
      have e := sign_cmp (full c g t) (full c' g' t') (by omega) (by omega)
      obtain ⟨r, hr, hq, r0, r1⟩ := cmp_sym (full c g t) (full c' g' t')
      refine ⟨r, true, ?_, ?_, fun _ => ⟨r0, r1, fun j hj => ?_⟩⟩
      · unfold impl_CompareSpools.f
        simp only [Option.bind_some, isSpool_eq, impl_CompareSpools.j0]
        simp [h, h', i1, i2, hr]
      · unfold spec_CompareSpools.f
        simp only [Option.bind_some, spGood_eq, spec_CompareSpools.j0]
        simp [h, h', s1, s2, e, hr]
      · obtain ⟨j, rfl⟩ : ∃ i, j = i + 1 := ⟨j - 1, by omega⟩
        unfold impl_CompareSpools.f
        simp only [Option.bind_some, isSpool_eq, impl_CompareSpools.j0]
        simp [h, h', i1, i2, hq]
    · refine ⟨0, false, ?_, ?_, by simp⟩
      · unfold impl_CompareSpools.f
        simp only [Option.bind_some, isSpool_eq, impl_CompareSpools.j0]
        simp [h, h']
      · unfold spec_CompareSpools.f
        simp only [Option.bind_some, spGood_eq, spec_CompareSpools.j0]
        simp [h, h']
  · refine ⟨0, false, ?_, ?_, by simp⟩
    · unfold impl_CompareSpools.f
      simp only [Option.bind_some, isSpool_eq, impl_CompareSpools.j0]
      simp [h]
    · unfold spec_CompareSpools.f
      simp only [Option.bind_some, spGood_eq, spec_CompareSpools.j0]
      simp [h]
theorem re_all (c g t c' g' t' e : Int) (k : Nat) (hk : 6000 < k) : ∃ r ok, impl_RewindEighths.f k c g t c' g' t' e = some (r, ok) ∧ spec_RewindEighths.f k c g t c' g' t' e = some (r, ok) ∧
    (ok = true → Good c g t ∧ Good c' g' t' ∧ (0 ≤ e ∧ e ≤ 8 * t) ∧ (0 ≤ r ∧ r ≤ 8 * t') ∧ wound c g e ≤ wound c' g' r ∧ ∀ i, 0 ≤ i → i < r → wound c' g' i < wound c g e) := by
  obtain ⟨k, rfl⟩ : ∃ j, k = j + 1 := ⟨k - 1, by omega⟩
  unfold spec_RewindEighths.f impl_RewindEighths.f spec_spEighths.f impl_isEighths.f
  simp only [Option.bind_some, spGood_eq, isSpool_eq, in_eq, spec_RewindEighths.j0, impl_RewindEighths.j0]
  by_cases h : Good c g t
  · by_cases h' : Good c' g' t'
    · by_cases h0 : 0 ≤ e
      · by_cases h1 : e ≤ wrap64 (8 * t)
        · have hw : wrap64 (8 * t) = 8 * t := w64 (by unfold Good at h; omega)
          have h1' : e ≤ 8 * t := by rw [← hw]; exact h1
          have he : 0 ≤ e ∧ e ≤ 4000 := by clear hw h1; unfold Good at h; omega
          obtain ⟨r, hr, fr⟩ := spFor_eq h' (wound c g e) k (by omega)
          obtain ⟨q, hq, fq⟩ := ipFor_eq h' (wound c g e) k (by omega)
          obtain rfl := isFor_unique h' fr fq
          by_cases hn : r < 0
          · exact ⟨0, false, by simp [h, h', h0, h1, ipWound_eq h he, hq, hn], by simp [h, h', h0, h1, spWound_eq h he, hr, hn], by simp⟩
          · refine ⟨r, true, by simp [h, h', h0, h1, ipWound_eq h he, hq, hn], by simp [h, h', h0, h1, spWound_eq h he, hr, hn], fun _ => ?_⟩
            rcases fr with ⟨fr, _⟩ | ⟨f1, f2, f3, f4⟩
            · exact absurd (show r < 0 by rw [fr]; decide) hn
            · exact ⟨h, h', ⟨h0, h1'⟩, ⟨f1, f2⟩, f3, f4⟩
        · exact ⟨0, false, by simp [h, h', h0, h1], by simp [h, h', h0, h1], by simp⟩
      · exact ⟨0, false, by simp [h, h', h0], by simp [h, h', h0], by simp⟩
    · by_cases h0 : 0 ≤ e
      · by_cases h1 : e ≤ wrap64 (8 * t)
        · exact ⟨0, false, by simp [h, h', h0, h1], by simp [h, h', h0, h1], by simp⟩
        · exact ⟨0, false, by simp [h, h', h0, h1], by simp [h, h', h0, h1], by simp⟩
      · exact ⟨0, false, by simp [h, h', h0], by simp [h, h', h0], by simp⟩
  · exact ⟨0, false, by simp [h], by simp [h], by simp⟩
theorem lc_all (g t y : Int) (k : Nat) (hk : 5001 < k) : ∃ v ok, impl_LeastCore.f k g t y = some (v, ok) ∧ spec_LeastCore.f k g t y = some (v, ok) ∧
    (ok = true → Good 100 g t ∧ (0 ≤ y ∧ y ≤ 100000000) ∧ v = least g t y ∧ v ≤ 5000) := by
  by_cases h : Good 100 g t ∧ 0 ≤ y ∧ y ≤ 100000000
  · have e1 := spLeast_eq h.1 h.2 k (by omega)
    have e2 := ipLeast_eq h.1 h.2 k hk
    by_cases hn : least g t y > 5000
    · rw [if_pos hn] at e1 e2
      exact ⟨0, false, e2, e1, by simp⟩
    · rw [if_neg hn] at e1 e2
      exact ⟨_, true, e2, e1, fun _ => ⟨h.1, h.2, rfl, by omega⟩⟩
  · obtain ⟨e1, e2⟩ := least_bad (g := g) (t := t) (y := y) h k (by omega)
    exact ⟨0, false, e2, e1, by simp⟩
theorem lo_all (c g t : Int) : ∃ v, impl_LengthOf.f c g t = some (v, decide (Good c g t)) ∧ spec_LengthOf.f c g t = some (v, decide (Good c g t)) ∧ (Good c g t → v = full c g t) := by
  by_cases h : Good c g t
  · obtain ⟨e1, e2⟩ := lo_good h
    rw [decide_eq_true h]
    exact ⟨_, e1, e2, fun _ => rfl⟩
  · rw [decide_eq_false h]
    refine ⟨0, ?_, ?_, fun h' => absurd h' h⟩
    · unfold impl_LengthOf.f
      simp only [Option.bind_some, isSpool_eq]
      simp [h]
    · unfold spec_LengthOf.f
      simp only [Option.bind_some, spGood_eq]
      simp [h]
theorem te_low {a b : Int} (ha : 0 < a ∧ a ≤ 30000) (hb : 0 < b ∧ b ≤ 30000) (k : Nat) (hk : 50000 < k) : ∃ p q, spec_tePart.f k a b = some (p, q) ∧ impl_lowest.f k a b = some (p, q) := by
  have step : ∀ (x y : Int) (d : Nat) (a b : Int), 0 ≤ a → a ≤ 30000 → 0 ≤ b → b ≤ d → b ≤ 30000 → (0 < a ∨ 0 < b) → ∀ k r, d < k → impl_gcd.l0 k a b = some r → spec_tePart.l0 k x y a b = some (wrap64 (Int.tdiv x r), wrap64 (Int.tdiv y r)) := by
    intro x y d
    induction d with
    | zero =>
      intro a b h1 h2 h3 h4 h5 h6 k r hk hr
      obtain ⟨k, rfl⟩ : ∃ j, k = j + 1 := ⟨k - 1, by omega⟩
      rw [impl_gcd.l0, if_pos (by omega)] at hr
      rw [spec_tePart.l0, if_neg (by omega)]
      obtain rfl := Option.some.inj hr
      rw [if_neg (by omega)]
    | succ d ih =>
      intro a b h1 h2 h3 h4 h5 h6 k r hk hr
      obtain ⟨k, rfl⟩ : ∃ j, k = j + 1 := ⟨k - 1, by omega⟩
      by_cases e : b = 0
      · rw [impl_gcd.l0, if_pos e] at hr
        obtain rfl := Option.some.inj hr
        rw [spec_tePart.l0, if_neg (by omega), if_neg (by omega)]
      · have hm : Int.tmod a b = a % b := Int.tmod_eq_emod_of_nonneg h1
        have m0 := Int.emod_nonneg a e
        have m1 := Int.emod_lt_of_pos a (show 0 < b by omega)
        rw [impl_gcd.l0, if_neg e, hm] at hr
        rw [spec_tePart.l0, if_pos (by omega), if_neg e, hm]
        generalize a % b = m at m0 m1 hr ⊢
        exact ih b m h3 h5 m0 (by omega) (by omega) (by omega) k r (by omega) hr
  obtain ⟨p, q, _, _, _, hi⟩ := part_low ha hb
  have h := hi k (by omega)
  refine ⟨p, q, ?_, h⟩
  unfold impl_lowest.f impl_gcd.f at h
  obtain ⟨r, hr, h⟩ := Option.bind_eq_some_iff.1 h
  have e := step a b 30000 a b (by omega) (by omega) (by omega) (by omega) (by omega) (by omega) k r (by omega) hr
  unfold spec_tePart.f
  rw [e]
  by_cases h0 : r = 0
  · rw [if_pos h0] at h; cases h
  · rw [if_neg h0] at h; exact h
theorem sr_all (c g t n : Int) (k : Nat) (hk : 50001 < k) : ∃ p q ok, impl_SpeedRatio.f k c g t n = some (p, q, ok) ∧ spec_SpeedRatio.f k c g t n = some (p, q, ok) := by
  obtain ⟨k, rfl⟩ : ∃ j, k = j + 1 := ⟨k - 1, by omega⟩
  unfold spec_SpeedRatio.f impl_SpeedRatio.f spec_spHas.f
  simp only [Option.bind_some, spGood_eq, isSpool_eq, in_eq, impl_SpeedRatio.j0]
  by_cases h : Good c g t
  · have hw : wrap64 (t - 1) = t - 1 := w64 (by unfold Good at h; omega)
    by_cases h0 : n < 0
    · have : ¬ 0 ≤ n := by omega
      exact ⟨0, 0, false, by simp [h, h0], by simp [h, this]⟩
    · by_cases h1 : n ≥ t
      · have : ¬ n ≤ t - 1 := by omega
        exact ⟨0, 0, false, by simp [h, h0, h1], by simp [h, hw, this]⟩
      · have h2 : 0 ≤ n := by omega
        have h3 : n ≤ t - 1 := by omega
        have h5 : ¬ t ≤ n := by omega
        have h4 : 0 ≤ n ∧ n ≤ 500 := by clear hw; unfold Good at h; omega
        have hb := turn_bounds (c := c) (g := g) (k := n) (by unfold Good at h; omega) (by unfold Good at h; omega) h4
        obtain ⟨p, q, hs, hs2⟩ := te_low (a := turn c g n) (b := c) (by omega) (by unfold Good at h; omega) (k + 1) (by omega)
        obtain ⟨p2, q2, _, _, _, hi⟩ := part_low (a := turn c g n) (b := c) (by omega) (by unfold Good at h; omega)
        have e1 := hi k (by omega)
        have e2 := hi (k + 1) (by omega)
        rw [e2] at hs2
        have e3 : spec_tePart.f (k + 1) (turn c g n) c = some (p2, q2) := by rw [hs]; exact hs2.symm
        exact ⟨p2, q2, true, by simp [h, h0, h5, ipTurn_eq h h4, e1], by simp [h, h2, h3, hw, spTurn_eq h h4, e3]⟩
  · exact ⟨0, 0, false, by simp [h], by simp [h]⟩
theorem drawLC_ok (l : List Int) (hl : Bytes l) (k : Nat) (hk : 0 < k) : ∃ g t y, spec_DrawLeastCore.f k l = some (g, t, y) := by
  unfold spec_DrawLeastCore.f
  obtain ⟨c, g, t, a1, s1, e1, l1, u1⟩ := spool_ok l hl 0 0 (by omega)
  rw [e1]; simp only [Option.bind_some]
  obtain ⟨y, a2, s2, e2, _, _⟩ := paper_ok l hl a1 s1 (by omega) c g t k hk
  rw [e2]
  exact ⟨g, t, y, rfl⟩
theorem drawCS_ok (l : List Int) (hl : Bytes l) : ∃ c g t c' g' t', spec_DrawCompareSpools.f l = some (c, g, t, c', g', t') := by
  unfold spec_DrawCompareSpools.f
  obtain ⟨c, g, t, a1, s1, e1, l1, u1⟩ := spool_ok l hl 0 0 (by omega)
  rw [e1]; simp only [Option.bind_some]
  obtain ⟨v, a2, s2, e2, l2, u2⟩ := one_ok l hl a1 s1 (by omega) 3
  rw [e2]; simp only [Option.bind_some]
  by_cases h : v = true
  · rw [if_pos h]
    obtain ⟨v3, a3, s3, e3, _, _, l3, u3⟩ := pick_ok l hl a2 s2 (by omega) 3
    rw [e3]
    exact ⟨_, _, _, _, _, _, rfl⟩
  · rw [if_neg h]
    obtain ⟨c', g', t', a3, s3, e3, l3, u3⟩ := spool_ok l hl a2 s2 (by omega)
    rw [e3]
    exact ⟨_, _, _, _, _, _, rfl⟩
theorem drawRE_ok (l : List Int) (hl : Bytes l) : ∃ c g t c' g' t' e, spec_DrawRewindEighths.f l = some (c, g, t, c', g', t', e) := by
  unfold spec_DrawRewindEighths.f
  obtain ⟨c, g, t, a1, s1, e1, l1, u1⟩ := spool_ok l hl 0 0 (by omega)
  rw [e1]; simp only [Option.bind_some]
  obtain ⟨c', g', t', a2, s2, e2, l2, u2⟩ := spool_ok l hl a1 s1 (by omega)
  rw [e2]; simp only [Option.bind_some]
  obtain ⟨v, a3, s3, e3, l3, u3⟩ := one_ok l hl a2 s2 (by omega) 3
  rw [e3]; simp only [Option.bind_some]
  obtain ⟨y, a4, s4, e4, _, _⟩ := eighths_ok l hl a3 s3 (by omega) c g t
  rw [e4]; simp only [Option.bind_some]
  by_cases h : v = true
  · rw [if_pos h]
    exact ⟨_, _, _, _, _, _, _, rfl⟩
  · rw [if_neg h]
    exact ⟨_, _, _, _, _, _, _, rfl⟩
theorem drawLO_ok (l : List Int) (hl : Bytes l) : ∃ c g t, spec_DrawLengthOf.f l = some (c, g, t) := by
  unfold spec_DrawLengthOf.f spec_DrawIsSpool.f
  obtain ⟨c, g, t, a1, s1, e1, l1, u1⟩ := spool_ok l hl 0 0 (by omega)
  rw [e1]
  exact ⟨_, _, _, rfl⟩
theorem drawSR_ok (l : List Int) (hl : Bytes l) : ∃ c g t n, spec_DrawSpeedRatio.f l = some (c, g, t, n) := by
  unfold spec_DrawSpeedRatio.f
  obtain ⟨c, g, t, n, e⟩ := drawTL_ok l hl
  rw [e]
  exact ⟨_, _, _, _, rfl⟩
theorem j4_ok (g t y v : Int) (ok : Bool) (hf : ok = true → Good 100 g t ∧ (0 ≤ y ∧ y ≤ 100000000) ∧ v = least g t y ∧ v ≤ 5000) (k : Nat) (hk : 1 < k) : laws_FnCores.j4 k g t y ok v = some true := by
  obtain ⟨k, rfl⟩ : ∃ j, k = j + 1 + 1 := ⟨k - 2, by omega⟩
  rw [laws_FnCores.j4]
  by_cases h : ok = true
  · obtain ⟨hg, hy, hv, v1⟩ := hf h
    have v0 : 100 ≤ v := by
      rw [hv]; unfold least
      by_cases hc : 100 ≥ (rest g t y + t - 1) / t
      · rw [if_pos hc]; omega
      · rw [if_neg hc]; omega
    have gv : Good v g t := by unfold Good at hg ⊢; omega
    have hs := (least_suffices (y := y) hg v0).2 (by omega)
    rw [if_pos h, (lo_good gv).1]
    simp only [Option.bind_some, if_true]
    rw [decide_eq_false (by omega), laws_FnCores.j5, if_neg (by decide)]
    by_cases h1 : v > 100
    · have gw : Good (v - 1) g t := by unfold Good at hg ⊢; omega
      have hn : ¬ y ≤ full (v - 1) g t := fun hh => by have := (least_suffices (y := y) hg (show 100 ≤ v - 1 by omega)).1 hh; omega
      rw [if_pos h1, w64 (x := v - 1) (by omega), (lo_good gw).1]
      simp only [Option.bind_some, if_true]
      rw [decide_eq_true (by omega)]
    · rw [if_neg h1]
  · rw [if_neg h]
theorem j3_ok (g t y v : Int) (ok : Bool) (hf : ok = true → Good 100 g t ∧ (0 ≤ y ∧ y ≤ 100000000) ∧ v = least g t y ∧ v ≤ 5000)
    (a b u w : Int) (hw : Good a b u → w = full a b u) (k : Nat) (hk : 2 < k) : laws_FnCores.j3 k g t y ok v (decide (Good a b u)) w a b u = some true := by
  obtain ⟨k, rfl⟩ : ∃ j, k = j + 1 := ⟨k - 1, by omega⟩
  have base := j4_ok g t y v ok hf k (by omega)
  rw [laws_FnCores.j3]
  by_cases h : Good a b u
  · have hb := h
    unfold Good at hb
    have fb := full_bounds (c := a) (g := b) (n := u) (by omega) (by omega) (by omega)
    have e := (lw_good h (show 0 ≤ 8 * u by omega) (Int.le_refl _)).1
    rw [wound_whole] at e
    rw [if_pos (decide_eq_true h), w64 (x := 8 * u) (by omega), e, hw h]
    simp only [Option.bind_some, if_true]
    rw [w64 (x := 8 * full a b u) (by omega), if_pos rfl]
    exact base
  · rw [if_neg (by simpa using h)]
    exact base
theorem j1_ok (g t y v : Int) (ok : Bool) (hf : ok = true → Good 100 g t ∧ (0 ≤ y ∧ y ≤ 100000000) ∧ v = least g t y ∧ v ≤ 5000)
    (a b u w : Int) (hw : Good a b u → w = full a b u) (c d e c' d' e' n r : Int) (ok2 : Bool)
    (h2 : ok2 = true → Good c d e ∧ Good c' d' e' ∧ (0 ≤ n ∧ n ≤ 8 * e) ∧ (0 ≤ r ∧ r ≤ 8 * e') ∧ wound c d n ≤ wound c' d' r ∧ ∀ i, 0 ≤ i → i < r → wound c' d' i < wound c d n) (k : Nat) (hk : 4 < k) :
    laws_FnCores.j1 k g t y ok v n ok2 r (decide (Good a b u)) w c d e c' d' e' a b u = some true := by
  obtain ⟨k, rfl⟩ : ∃ j, k = j + 1 + 1 := ⟨k - 2, by omega⟩
  rw [laws_FnCores.j1]
  by_cases h : ok2 = true
  · obtain ⟨g1, g2, n0, r0, hle, hlt⟩ := h2 h
    have hb := g2
    unfold Good at hb
    have base := j3_ok g t y v ok hf a b u w hw k (by omega)
    obtain ⟨e1, e2⟩ := lw_good g1 n0.1 n0.2
    rw [if_pos h, e1, e2, (lw_good g2 r0.1 r0.2).1]
    simp only [Option.bind_some, if_true]
    rw [decide_eq_false (show ¬ wound c' d' r < wound c d n by omega), laws_FnCores.j2, if_neg (by decide)]
    by_cases hr : r > 0
    · have hl := hlt (r - 1) (by omega) (by omega)
      rw [if_pos hr, w64 (x := r - 1) (by omega), (lw_good g2 (show 0 ≤ r - 1 by omega) (by omega)).1]
      simp only [Option.bind_some, if_true]
      rw [if_neg (by omega)]
      exact base
    · rw [if_neg hr]
      exact base
  · rw [if_neg h]
    exact j3_ok g t y v ok hf a b u w hw (k + 1) (by omega)
theorem FnCores : laws_FnCores.Pure := by
  intro l0 l1 m0 y0 w0 m1 y1 w1
  refine ⟨60000, ?_⟩
  unfold maxLen at m0 m1
  unfold laws_FnCores.f
  rw [w64 (by omega)]
  by_cases hl : (l0.length : Int) + (l1.length : Int) > 1048576
  · rw [if_pos hl]
  · rw [if_neg hl]
    have b0 : Bytes l0 := ⟨by omega, u8_wf l0 w0⟩
    have b1 : Bytes l1 := ⟨by omega, u8_wf l1 w1⟩
    obtain ⟨g, t, y, d1⟩ := drawLC_ok l0 b0 60000 (by omega)
    rw [d1]; simp only [Option.bind_some]
    obtain ⟨v, ok, f1, f2, hf⟩ := lc_all g t y 60000 (by omega)
    rw [f1, f2]; simp only [Option.bind_some]
    obtain ⟨p, q, r, p', q', r', d2⟩ := drawCS_ok l1 b1
    rw [d2]; simp only [Option.bind_some]
    obtain ⟨s, okc, f3, f4, hc⟩ := cs_all p q r p' q' r' 60000 (by omega)
    rw [f3, f4]; simp only [Option.bind_some]
    obtain ⟨c, d, e, c', d', e', n, d3⟩ := drawRE_ok l1 b1
    rw [d3]; simp only [Option.bind_some]
    obtain ⟨z, ok2, f5, f6, h2⟩ := re_all c d e c' d' e' n 60000 (by omega)
    rw [f5, f6]; simp only [Option.bind_some]
    obtain ⟨a, b, u, d4⟩ := drawLO_ok l1 b1
    rw [d4]; simp only [Option.bind_some]
    obtain ⟨w, f7, f8, hw⟩ := lo_all a b u
    rw [f7, f8]; simp only [Option.bind_some]
    obtain ⟨a', b', u', n', d5⟩ := drawSR_ok l1 b1
    rw [d5]; simp only [Option.bind_some]
    obtain ⟨x1, x2, ok3, f9, f10⟩ := sr_all a' b' u' n' 60000 (by omega)
    rw [f9, f10, isSpool_eq]; simp only [Option.bind_some, bne_self_eq_false, Bool.false_eq_true, if_false, if_true]
    rw [show (60000 : Nat) = 59999 + 1 from rfl, laws_FnCores.j0, if_neg (by decide)]
    have base := j1_ok g t y v ok hf a b u w hw c d e c' d' e' n z ok2 h2 59999 (by omega)
    by_cases hk : okc = true
    · obtain ⟨s0, s1, hs⟩ := hc hk
      rw [if_pos hk, hs 59999 (by omega)]
      simp only [Option.bind_some, if_true]
      rw [w64 (x := -s) (by omega), if_pos rfl]
      exact base
    · rw [if_neg hk]
      exact base
end Go.Proofs.Ytjogodnkcjhdiaa.Pure
