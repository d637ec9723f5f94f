/- FnSpools: the law of spools holds for all bytes. No condition. -/
import Derived.Test.YtjogodnkcjhdiaaPFnSpoolsx8
namespace Go.Proofs.Ytjogodnkcjhdiaa.Pure
open Go.RowKit Go.Proofs.Ytjogodnkcjhdiaa.PFnSpools Go.Proofs.YtjogodnkcjhdiaaW.PrintWords Go.Proofs.YtjogodnkcjhdiaaW.PrintLast

set_option linter.unusedVariables false
set_option linter.unusedSimpArgs false

theorem w64 {x : Int} (h : -9223372036854775808 ≤ x ∧ x ≤ 9223372036854775807) : wrap64 x = x := by
  unfold wrap64; omega
theorem someF {p : Prop} [Decidable p] (h : ¬ p) : some false = some (decide p) := by rw [decide_eq_false h]
theorem someD {q p : Prop} [Decidable q] [Decidable p] (h : q ↔ p) : some (decide q) = some (decide p) := by rw [decide_eq_decide.2 h]

theorem in_eq (a b c : Int) : spec_l1In.f a b c = some (decide (b ≤ a ∧ a ≤ c)) := by
  unfold spec_l1In.f
  by_cases h : a ≥ b
  · rw [if_pos h]; congr 1; simp [show b ≤ a from h]
  · rw [if_neg h]; congr 1; simp; omega

theorem fill_step {α : Type} (l : List α) (z : α) (i : Nat) (h : i < l.length) :
    (l.take i ++ List.replicate (l.length - i) z).set i (l[i]'h) = l.take (i + 1) ++ List.replicate (l.length - (i + 1)) z := by
  have hl : (l.take i).length = i := by rw [List.length_take]; omega
  rw [List.set_append_right _ _ (by omega), hl, Nat.sub_self, show l.length - i = (l.length - (i + 1)) + 1 by omega, List.replicate_succ, List.set_cons_zero, List.take_succ_eq_append_getElem h, List.append_assoc]
  rfl
theorem fill_length {α : Type} (l : List α) (z : α) (i : Nat) (h : i ≤ l.length) : (l.take i ++ List.replicate (l.length - i) z).length = l.length := by
  simp; omega

theorem rd_get (l : List Int) (i : Nat) (h : i < l.length) : rd l (i : Int) = l[i] := by
  unfold rd; rw [Int.toNat_natCast, List.getD_eq_getElem?_getD, List.getElem?_eq_getElem h]; rfl

def Good (c g t : Int) : Prop := 100 ≤ c ∧ c ≤ 5000 ∧ 0 ≤ g ∧ g ≤ 50 ∧ 1 ≤ t ∧ t ≤ 500
instance (c g t : Int) : Decidable (Good c g t) := by unfold Good; infer_instance
def turn (c g k : Int) : Int := c + k * g
def full (c g n : Int) : Int := n * c + n * (n - 1) / 2 * g
def wound (c g e : Int) : Int := 8 * full c g (e / 8) + e % 8 * turn c g (e / 8)

theorem tri_bounds {n : Int} (h0 : 0 ≤ n) (h1 : n ≤ 500) : 0 ≤ n * (n - 1) ∧ n * (n - 1) ≤ 250000 := by
  have h2 : 0 ≤ n * (n - 1) := by
    by_cases h : n = 0
    · subst h; simp
    · exact Int.mul_nonneg h0 (by omega)
  have h3 : n * (n - 1) ≤ 500 * (n - 1) ∨ n = 0 := by
    by_cases h : n = 0
    · exact .inr h
    · exact .inl (Int.mul_le_mul_of_nonneg_right h1 (by omega))
  rcases h3 with h3 | h3
  · omega
  · subst h3; simp
theorem turn_bounds {c g k : Int} (hc : 100 ≤ c ∧ c ≤ 5000) (hg : 0 ≤ g ∧ g ≤ 50) (hk : 0 ≤ k ∧ k ≤ 500) : 100 ≤ turn c g k ∧ turn c g k ≤ 30000 ∧ 0 ≤ k * g ∧ k * g ≤ 25000 := by
  have h1 : 0 ≤ k * g := Int.mul_nonneg hk.1 hg.1
  have h2 : k * g ≤ 500 * 50 := Int.mul_le_mul hk.2 hg.2 hg.1 (by omega)
  unfold turn; omega
theorem full_bounds {c g n : Int} (hc : 100 ≤ c ∧ c ≤ 5000) (hg : 0 ≤ g ∧ g ≤ 50) (hn : 0 ≤ n ∧ n ≤ 500) :
    0 ≤ n * c ∧ n * c ≤ 2500000 ∧ 0 ≤ n * (n - 1) / 2 * g ∧ n * (n - 1) / 2 * g ≤ 6250000 ∧ 0 ≤ full c g n ∧ full c g n ≤ 8750000 := by
  obtain ⟨t0, t1⟩ := tri_bounds hn.1 hn.2
  have h1 : 0 ≤ n * c := Int.mul_nonneg hn.1 (by omega)
  have h2 : n * c ≤ 500 * 5000 := Int.mul_le_mul hn.2 hc.2 (by omega) (by omega)
  have h3 : 0 ≤ n * (n - 1) / 2 * g := Int.mul_nonneg (by omega) hg.1
  have h4 : n * (n - 1) / 2 * g ≤ 125000 * 50 := Int.mul_le_mul (by omega) hg.2 hg.1 (by omega)
  unfold full; omega
theorem turn_wrap {c g k : Int} (hc : 100 ≤ c ∧ c ≤ 5000) (hg : 0 ≤ g ∧ g ≤ 50) (hk : 0 ≤ k ∧ k ≤ 500) : wrap64 (c + wrap64 (k * g)) = turn c g k := by
  have := turn_bounds hc hg hk
  rw [w64 (x := k * g) (by omega)]
  exact w64 (by unfold turn at this; omega)
theorem full_wrap {c g n : Int} (hc : 100 ≤ c ∧ c ≤ 5000) (hg : 0 ≤ g ∧ g ≤ 50) (hn : 0 ≤ n ∧ n ≤ 500) :
    wrap64 ((wrap64 (n * c)) + (wrap64 ((wrap64 (Int.tdiv (wrap64 (n * (wrap64 (n - 1)))) 2)) * g))) = full c g n := by
  have h := full_bounds hc hg hn
  obtain ⟨t0, t1⟩ := tri_bounds hn.1 hn.2
  rw [w64 (x := n - 1) (by omega), w64 (x := n * (n - 1)) (by omega), Int.tdiv_eq_ediv_of_nonneg t0, w64 (x := n * (n - 1) / 2) (by omega), w64 (x := n * c) (by omega), w64 (x := n * (n - 1) / 2 * g) (by omega)]
  exact w64 (by unfold full at h; omega)
theorem tri_succ (n : Int) : (n + 1) * (n + 1 - 1) / 2 = n * (n - 1) / 2 + n := by
  have : (n + 1) * (n + 1 - 1) = n * (n - 1) + n * 2 := by
    rw [show n + 1 - 1 = n by omega, Int.mul_sub, Int.add_mul]; omega
  rw [this, Int.add_mul_ediv_right _ _ (by omega)]
theorem full_succ (c g n : Int) : full c g (n + 1) = full c g n + turn c g n := by
  unfold full turn
  rw [tri_succ, Int.add_mul, Int.add_mul]; omega
theorem wound_whole (c g n : Int) : wound c g (8 * n) = 8 * full c g n := by
  unfold wound
  rw [show 8 * n / 8 = n by omega, show 8 * n % 8 = 0 by omega]; simp
theorem wound_succ (c g e : Int) : wound c g (e + 1) = wound c g e + turn c g (e / 8) := by
  unfold wound
  by_cases h : e % 8 = 7
  · rw [show (e + 1) / 8 = e / 8 + 1 by omega, show (e + 1) % 8 = 0 by omega, full_succ, h]; omega
  · rw [show (e + 1) / 8 = e / 8 by omega, show (e + 1) % 8 = e % 8 + 1 by omega, Int.add_mul]; omega
theorem wound_lt {c g : Int} (hc : 100 ≤ c ∧ c ≤ 5000) (hg : 0 ≤ g ∧ g ≤ 50) {a : Int} (ha : 0 ≤ a) (d : Nat) : a + d ≤ 4000 → wound c g a + d ≤ wound c g (a + d) := by
  induction d with
  | zero => intro _; simp
  | succ d ih =>
    intro h
    have h1 := ih (by omega)
    have h2 := wound_succ c g (a + d)
    have h3 := turn_bounds hc hg (k := (a + d) / 8) (by omega)
    rw [show a + ((d + 1 : Nat) : Int) = a + d + 1 by omega, h2]; omega
theorem wound_mono {c g : Int} (hc : 100 ≤ c ∧ c ≤ 5000) (hg : 0 ≤ g ∧ g ≤ 50) {a b : Int} (ha : 0 ≤ a) (hab : a ≤ b) (hb : b ≤ 4000) : wound c g a ≤ wound c g b := by
  have := wound_lt hc hg ha (b - a).toNat (by omega)
  rw [show a + ((b - a).toNat : Int) = b by omega] at this; omega
theorem wound_strict {c g : Int} (hc : 100 ≤ c ∧ c ≤ 5000) (hg : 0 ≤ g ∧ g ≤ 50) {a b : Int} (ha : 0 ≤ a) (hab : a < b) (hb : b ≤ 4000) : wound c g a < wound c g b := by
  have := wound_lt hc hg ha (b - a).toNat (by omega)
  rw [show a + ((b - a).toNat : Int) = b by omega] at this; omega
theorem full_mono {c g : Int} (hc : 100 ≤ c ∧ c ≤ 5000) (hg : 0 ≤ g ∧ g ≤ 50) {a b : Int} (ha : 0 ≤ a) (hab : a ≤ b) (hb : b ≤ 500) : full c g a ≤ full c g b := by
  have := wound_mono hc hg (a := 8 * a) (b := 8 * b) (by omega) (by omega) (by omega)
  rw [wound_whole, wound_whole] at this; omega
theorem wound_bounds {c g e : Int} (hc : 100 ≤ c ∧ c ≤ 5000) (hg : 0 ≤ g ∧ g ≤ 50) (he : 0 ≤ e ∧ e ≤ 4000) : 0 ≤ wound c g e ∧ wound c g e ≤ 70000000 := by
  have h1 := wound_mono hc hg (a := 0) (b := e) (by omega) (by omega) (by omega)
  have h2 := wound_mono hc hg (a := e) (b := 8 * 500) (by omega) (by omega) (by omega)
  have h3 := full_bounds hc hg (n := 500) (by omega)
  rw [wound_whole] at h2
  have h0 : wound c g 0 = 0 := by have := wound_whole c g 0; unfold full at this; simpa using this
  omega

theorem spGood_eq (c g t : Int) : spec_spGood.f c g t = some (decide (Good c g t)) := by
  unfold spec_spGood.f
  simp only [in_eq, Option.bind_some, decide_eq_true_eq]
  repeat' split
  all_goals first
    | exact someF (by unfold Good; omega)
    | exact someD (by unfold Good; omega)

theorem isSpool_eq (c g t : Int) : impl_IsSpool.f c g t = some (decide (Good c g t)) := by
  unfold impl_IsSpool.f
  repeat' split
  all_goals first
    | exact someF (by unfold Good; omega)
    | exact someD (by unfold Good; omega)

theorem spFull_eq {c g t n : Int} (h : Good c g t) (hn : 0 ≤ n ∧ n ≤ 500) : spec_spFull.f c g t n = some (full c g n) := by
  unfold spec_spFull.f Good at *
  rw [full_wrap (by omega) (by omega) hn]

theorem ipFull_eq {c g t n : Int} (h : Good c g t) (hn : 0 ≤ n ∧ n ≤ 500) : impl_woundLength.f c g t n = some (full c g n) := by
  unfold impl_woundLength.f Good at *
  rw [full_wrap (by omega) (by omega) hn]

theorem spTurn_eq {c g t n : Int} (h : Good c g t) (hn : 0 ≤ n ∧ n ≤ 500) : spec_spTurn.f c g t n = some (turn c g n) := by
  unfold spec_spTurn.f Good at *
  rw [turn_wrap (by omega) (by omega) hn]

theorem ipTurn_eq {c g t n : Int} (h : Good c g t) (hn : 0 ≤ n ∧ n ≤ 500) : impl_turnLength.f c g t n = some (turn c g n) := by
  unfold impl_turnLength.f Good at *
  rw [turn_wrap (by omega) (by omega) hn]

theorem wound_wrap {c g t e : Int} (h : Good c g t) (he : 0 ≤ e ∧ e ≤ 4000) : wrap64 ((wrap64 (8 * full c g (e / 8))) + (wrap64 ((Int.tmod e 8) * turn c g (e / 8)))) = wound c g e := by
  unfold Good at h
  have b1 := full_bounds (c := c) (g := g) (n := e / 8) (by omega) (by omega) (by omega)
  have b2 := turn_bounds (c := c) (g := g) (k := e / 8) (by omega) (by omega) (by omega)
  rw [Int.tmod_eq_emod_of_nonneg he.1]
  have b3 : 0 ≤ e % 8 * turn c g (e / 8) := Int.mul_nonneg (by omega) (by omega)
  have b4 : e % 8 * turn c g (e / 8) ≤ 7 * 30000 := Int.mul_le_mul (by omega) (by omega) (by omega) (by omega)
  rw [w64 (x := 8 * full c g (e / 8)) (by omega), w64 (x := e % 8 * turn c g (e / 8)) (by omega), w64 (by omega)]
  rfl
theorem eighth_wrap {e : Int} (he : 0 ≤ e ∧ e ≤ 4000) : wrap64 (Int.tdiv e 8) = e / 8 := by
  rw [Int.tdiv_eq_ediv_of_nonneg he.1]; exact w64 (by omega)

theorem spWound_eq {c g t e : Int} (h : Good c g t) (he : 0 ≤ e ∧ e ≤ 4000) : spec_spWound.f c g t e = some (wound c g e) := by
  unfold spec_spWound.f
  rw [eighth_wrap he, spFull_eq h (by omega), spTurn_eq h (by omega)]
  simp only [Option.bind_some]
  rw [wound_wrap h he]

theorem ipWound_eq {c g t e : Int} (h : Good c g t) (he : 0 ≤ e ∧ e ≤ 4000) : impl_eighthsLength.f c g t e = some (wound c g e) := by
  unfold impl_eighthsLength.f
  rw [eighth_wrap he, ipFull_eq h (by omega), ipTurn_eq h (by omega)]
  simp only [Option.bind_some]
  rw [wound_wrap h he]

/-- what 'the least number of eighths with at least y, up to 8 t, or -1' means -/
def IsFor (c g t y r : Int) : Prop := (r = -1 ∧ wound c g (8 * t) < y) ∨ (0 ≤ r ∧ r ≤ 8 * t ∧ y ≤ wound c g r ∧ ∀ e, 0 ≤ e → e < r → wound c g e < y)
theorem isFor_unique {c g t y r q : Int} (h : Good c g t) (hr : IsFor c g t y r) (hq : IsFor c g t y q) : r = q := by
  unfold Good at h
  rcases hr with ⟨r1, r2⟩ | ⟨r1, r2, r3, r4⟩ <;> rcases hq with ⟨q1, q2⟩ | ⟨q1, q2, q3, q4⟩
  · omega
  · have := wound_mono (c := c) (g := g) (a := q) (b := 8 * t) (by omega) (by omega) q1 q2 (by omega); omega
  · have := wound_mono (c := c) (g := g) (a := r) (b := 8 * t) (by omega) (by omega) r1 r2 (by omega); omega
  · by_cases h1 : r < q
    · have := q4 r r1 h1; omega
    · by_cases h2 : q < r
      · have := r4 q q1 h2; omega
      · omega
theorem spFor_loop {c g t y : Int} (h : Good c g t) (d : Nat) : ∀ (k : Nat) (i : Int), 0 ≤ i → i + d = 8 * t + 1 → d < k → (∀ e, 0 ≤ e → e < i → wound c g e < y) →
    ∃ r, spec_spFor.l0 k y i c g t = some r ∧ IsFor c g t y r := by
  have h' := h
  unfold Good at h'
  induction d with
  | zero =>
    intro k i hi hd hk hb
    obtain ⟨k, rfl⟩ : ∃ j, k = j + 1 := ⟨k - 1, by omega⟩
    refine ⟨-1, ?_, .inl ⟨rfl, hb _ (by omega) (by omega)⟩⟩
    rw [spec_spFor.l0, w64 (x := 8 * t) (by omega), if_neg (by omega)]
  | succ d ih =>
    intro k i hi hd hk hb
    obtain ⟨k, rfl⟩ : ∃ j, k = j + 1 := ⟨k - 1, by omega⟩
    rw [spec_spFor.l0, w64 (x := 8 * t) (by omega), if_pos (by omega), spWound_eq h (by omega), w64 (x := i + 1) (by omega)]
    simp only [Option.bind_some]
    by_cases hy : wound c g i ≥ y
    · rw [if_pos hy]
      exact ⟨i, rfl, .inr ⟨hi, by omega, hy, hb⟩⟩
    · rw [if_neg hy]
      refine ih k (i + 1) (by omega) (by omega) (by omega) (fun e e0 e1 => ?_)
      by_cases he : e = i
      · subst he; omega
      · exact hb e e0 (by omega)
theorem spFor_eq {c g t : Int} (h : Good c g t) (y : Int) (k : Nat) (hk : 5000 < k) : ∃ r, spec_spFor.f k c g t y = some r ∧ IsFor c g t y r := by
  unfold spec_spFor.f
  have h' := h
  unfold Good at h'
  exact spFor_loop h (8 * t + 1).toNat k 0 (by omega) (by omega) (by omega) (fun e e0 e1 => by omega)

theorem ipFor_loop {c g t y : Int} (h : Good c g t) (d : Nat) : ∀ (k : Nat) (lo hi : Int), 0 ≤ lo → lo ≤ hi → hi ≤ 8 * t → hi - lo ≤ d → d < k → y ≤ wound c g hi → (∀ e, 0 ≤ e → e < lo → wound c g e < y) →
    ∃ r, impl_eighthsFor.l0 k y lo hi c g t = some (r, true) ∧ IsFor c g t y r := by
  have h' := h
  unfold Good at h'
  induction d with
  | zero =>
    intro k lo hi h0 h1 h2 hd hk hy hb
    obtain ⟨k, rfl⟩ : ∃ j, k = j + 1 := ⟨k - 1, by omega⟩
    obtain rfl : lo = hi := by omega
    exact ⟨lo, by rw [impl_eighthsFor.l0, if_neg (by omega)], .inr ⟨h0, h2, hy, hb⟩⟩
  | succ d ih =>
    intro k lo hi h0 h1 h2 hd hk hy hb
    obtain ⟨k, rfl⟩ : ∃ j, k = j + 1 := ⟨k - 1, by omega⟩
    by_cases hlt : lo < hi
    · have hm : wrap64 (Int.tdiv (wrap64 (lo + hi)) 2) = (lo + hi) / 2 := by
        rw [w64 (x := lo + hi) (by omega), Int.tdiv_eq_ediv_of_nonneg (by omega)]; exact w64 (by omega)
      rw [impl_eighthsFor.l0, if_pos hlt, hm, ipWound_eq h (by omega)]
      simp only [Option.bind_some]
      by_cases hw : wound c g ((lo + hi) / 2) ≥ y
      · rw [if_pos hw]
        exact ih k lo _ h0 (by omega) (by omega) (by omega) (by omega) hw hb
      · rw [if_neg hw, w64 (by omega)]
        refine ih k _ hi (by omega) (by omega) h2 (by omega) (by omega) hy (fun e e0 e1 => ?_)
        have := wound_mono (c := c) (g := g) (a := e) (b := (lo + hi) / 2) (by omega) (by omega) e0 (by omega) (by omega)
        omega
    · obtain rfl : lo = hi := by omega
      exact ⟨lo, by rw [impl_eighthsFor.l0, if_neg hlt], .inr ⟨h0, h2, hy, hb⟩⟩
theorem ipFor_eq {c g t : Int} (h : Good c g t) (y : Int) (k : Nat) (hk : 5000 < k) : ∃ r, impl_eighthsFor.f k c g t y = some (if r < 0 then (0, false) else (r, true)) ∧ IsFor c g t y r := by
  have h' := h
  unfold Good at h'
  unfold impl_eighthsFor.f
  rw [w64 (x := 8 * t) (by omega), ipWound_eq h (by omega)]
  simp only [Option.bind_some]
  by_cases hw : wound c g (8 * t) < y
  · exact ⟨-1, by rw [if_pos hw, if_pos (by omega)], .inl ⟨rfl, hw⟩⟩
  · obtain ⟨r, hr, hf⟩ := ipFor_loop (y := y) h (8 * t).toNat k 0 (8 * t) (by omega) (by omega) (by omega) (by omega) (by omega) (by omega) (fun e e0 e1 => by omega)
    refine ⟨r, ?_, hf⟩
    rw [if_neg hw, hr]
    rcases hf with ⟨hf, hf'⟩ | ⟨hf, _⟩
    · omega
    · rw [if_neg (by omega)]

theorem itFor_loop {c g t y r : Int} (h : Good c g t) (hf : IsFor c g t (8 * y) r) (d : Nat) : ∀ (k : Nat) (i : Int), 0 ≤ i → i + d = t + 1 → d < k → (r < 0 ∨ i ≤ (r + 7) / 8) →
    impl_TurnsFor.l0 k y i c g t = some (if r < 0 then (0, false) else ((r + 7) / 8, true)) := by
  have h' := h
  unfold Good at h'
  induction d with
  | zero =>
    intro k i hi hd hk hb
    obtain ⟨k, rfl⟩ : ∃ j, k = j + 1 := ⟨k - 1, by omega⟩
    rw [impl_TurnsFor.l0, if_neg (by omega)]
    rcases hf with ⟨hf, _⟩ | ⟨hf, hf', _⟩
    · rw [if_pos (by omega)]
    · omega
  | succ d ih =>
    intro k i hi hd hk hb
    obtain ⟨k, rfl⟩ : ∃ j, k = j + 1 := ⟨k - 1, by omega⟩
    rw [impl_TurnsFor.l0, if_pos (by omega), ipFull_eq h (by omega), w64 (x := i + 1) (by omega)]
    simp only [Option.bind_some]
    have hw := wound_whole c g i
    rcases hf with ⟨f1, f2⟩ | ⟨f1, f2, f3, f4⟩
    · have := wound_mono (c := c) (g := g) (a := 8 * i) (b := 8 * t) (by omega) (by omega) (by omega) (by omega) (by omega)
      rw [if_neg (by omega)]
      exact ih k (i + 1) (by omega) (by omega) (by omega) (by omega)
    · by_cases he : i = (r + 7) / 8
      · have := wound_mono (c := c) (g := g) (a := r) (b := 8 * i) (by omega) (by omega) (by omega) (by omega) (by omega)
        rw [if_pos (by omega), if_neg (by omega), he]
      · have := f4 (8 * i) (by omega) (by omega)
        rw [if_neg (by omega)]
        exact ih k (i + 1) (by omega) (by omega) (by omega) (by omega)
theorem itFor_eq {c g t y r : Int} (h : Good c g t) (hf : IsFor c g t (8 * y) r) (k : Nat) (hk : 1000 < k) :
    impl_TurnsFor.l0 k y 0 c g t = some (if r < 0 then (0, false) else ((r + 7) / 8, true)) := by
  have h' := h
  unfold Good at h'
  refine itFor_loop h hf (t + 1).toNat k 0 (by omega) (by omega) (by omega) ?_
  unfold IsFor at hf; omega

def pcs : Int → List Int → Int × Int
  | left, [] => (0, left)
  | left, n :: r => if n > left then (0, left) else ((pcs (left - n) r).1 + 1, (pcs (left - n) r).2)
def AllIn (l : List Int) : Prop := ∀ n ∈ l, 1 ≤ n ∧ n ≤ 1000000
instance (l : List Int) : Decidable (AllIn l) := by unfold AllIn; infer_instance
theorem allIn_cons {n : Int} {l : List Int} : AllIn (n :: l) ↔ (1 ≤ n ∧ n ≤ 1000000) ∧ AllIn l := by
  unfold AllIn; simp
theorem drop_get {α : Type} (l : List α) (i : Nat) (h : i < l.length) : l.drop i = l[i] :: l.drop (i + 1) := List.drop_eq_getElem_cons h

theorem l1All_loop (l : List Int) (hl : l.length ≤ 1048576) (d : Nat) : ∀ (k i : Nat), i + d = l.length → d < k → spec_l1All.l0 k 1 1000000 l l.length i = some (decide (AllIn (l.drop i))) := by
  induction d with
  | zero =>
    intro k i hi hk
    obtain ⟨k, rfl⟩ : ∃ j, k = j + 1 := ⟨k - 1, by omega⟩
    rw [spec_l1All.l0, if_neg (by omega), List.drop_of_length_le (by omega), decide_eq_true (by unfold AllIn; simp)]
  | succ d ih =>
    intro k i hi hk
    obtain ⟨k, rfl⟩ : ∃ j, k = j + 1 := ⟨k - 1, by omega⟩
    rw [spec_l1All.l0, if_pos (by omega), if_pos (by omega), if_pos (by omega), rd_get l i (by omega), in_eq, w64 (by omega), drop_get l i (by omega)]
    simp only [Option.bind_some, decide_eq_true_eq]
    split
    · rename_i h
      rw [show ((i : Int) + 1) = ((i + 1 : Nat) : Int) by omega, ih k (i + 1) (by omega) (by omega)]
      exact someD (by rw [allIn_cons]; exact ⟨fun h' => ⟨h, h'⟩, fun h' => h'.2⟩)
    · rename_i h
      exact someF (by rw [allIn_cons]; exact fun h' => h h'.1)
theorem l1All_eq (l : List Int) (hl : l.length ≤ 1048576) (k : Nat) (hk : l.length < k) : spec_l1All.f k l 1 1000000 = some (decide (AllIn l)) := by
  unfold spec_l1All.f
  have := l1All_loop l hl l.length k 0 (by omega) hk
  simpa using this

theorem spPieces_loop (l : List Int) (hl : l.length ≤ 40) (d : Nat) : ∀ (k i : Nat) (left : Int), i + d = l.length → d < k → AllIn (l.drop i) → 0 ≤ left ∧ left ≤ 8750000 →
    spec_PiecesOn.l0 k l left l l.length i = some (i + (pcs left (l.drop i)).1, (pcs left (l.drop i)).2, true) := by
  induction d with
  | zero =>
    intro k i left hi hk ha hb
    obtain ⟨k, rfl⟩ : ∃ j, k = j + 1 := ⟨k - 1, by omega⟩
    rw [spec_PiecesOn.l0, if_neg (by omega), List.drop_of_length_le (by omega), show l.length = i by omega]
    simp [pcs]
  | succ d ih =>
    intro k i left hi hk ha hb
    obtain ⟨k, rfl⟩ : ∃ j, k = j + 1 := ⟨k - 1, by omega⟩
    rw [drop_get l i (by omega), allIn_cons] at ha
    rw [spec_PiecesOn.l0, if_pos (by omega), if_pos (by omega), if_pos (by omega), rd_get l i (by omega), drop_get l i (by omega), pcs]
    by_cases h : l[i] > left
    · rw [if_pos h, if_pos h]; simp
    · rw [if_neg h, if_neg h, w64 (by omega), w64 (by omega), show ((i : Int) + 1) = ((i + 1 : Nat) : Int) by omega, ih k (i + 1) _ (by omega) (by omega) ha.2 (by omega)]
      simp; omega
theorem ipPieces_loop (l : List Int) (hl : l.length ≤ 40) (d : Nat) : ∀ (k i : Nat) (left c : Int), i + d = l.length → d < k → AllIn (l.drop i) → 0 ≤ left ∧ left ≤ 8750000 → 0 ≤ c ∧ c ≤ i →
    impl_PiecesOn.l1 k left c l l.length i = some (c + (pcs left (l.drop i)).1, (pcs left (l.drop i)).2, true) := by
  induction d with
  | zero =>
    intro k i left c hi hk ha hb hc
    obtain ⟨k, rfl⟩ : ∃ j, k = j + 1 := ⟨k - 1, by omega⟩
    rw [impl_PiecesOn.l1, if_neg (by omega), List.drop_of_length_le (by omega)]
    simp [pcs]
  | succ d ih =>
    intro k i left c hi hk ha hb hc
    obtain ⟨k, rfl⟩ : ∃ j, k = j + 1 := ⟨k - 1, by omega⟩
    rw [drop_get l i (by omega), allIn_cons] at ha
    rw [impl_PiecesOn.l1, if_pos (by omega), if_pos (by omega), if_pos (by omega), rd_get l i (by omega), drop_get l i (by omega), pcs]
    by_cases h : l[i] > left
    · rw [if_pos h, if_pos h]; simp
    · rw [if_neg h, if_neg h, w64 (by omega), w64 (by omega), w64 (by omega), show ((i : Int) + 1) = ((i + 1 : Nat) : Int) by omega, ih k (i + 1) _ _ (by omega) (by omega) ha.2 (by omega) (by omega)]
      simp; omega
theorem ipCheck_loop (l : List Int) (hl : l.length ≤ 40) {c g t : Int} (hg : Good c g t) (d : Nat) : ∀ (k i : Nat), i + d = l.length → d + 50 < k → AllIn l ∨ ¬ AllIn (l.drop i) →
    impl_PiecesOn.l0 k l l l.length i c g t = some (if AllIn (l.drop i) then ((pcs (full c g t) l).1, (pcs (full c g t) l).2, true) else (0, 0, false)) := by
  induction d with
  | zero =>
    intro k i hi hk hall
    obtain ⟨k, rfl⟩ : ∃ j, k = j + 1 := ⟨k - 1, by omega⟩
    have ha : AllIn (l.drop i) := by rw [List.drop_of_length_le (by omega)]; unfold AllIn; simp
    have ha' : AllIn l := by
      rcases hall with h | h
      · exact h
      · exact absurd ha h
    have hg' := hg
    unfold Good at hg'
    have fb := full_bounds (c := c) (g := g) (n := t) (by omega) (by omega) (by omega)
    rw [impl_PiecesOn.l0, if_neg (by omega), ipFull_eq hg (by omega), if_pos ha]
    simp only [Option.bind_some]
    have := ipPieces_loop l hl l.length k 0 (full c g t) 0 (by omega) (by omega) (by simpa using ha') (by omega) (by omega)
    simpa using this
  | succ d ih =>
    intro k i hi hk hall
    obtain ⟨k, rfl⟩ : ∃ j, k = j + 1 := ⟨k - 1, by omega⟩
    have hc := @allIn_cons l[i] (l.drop (i + 1))
    rw [← drop_get l i (by omega)] at hc
    rw [impl_PiecesOn.l0, if_pos (by omega), if_pos (by omega), if_pos (by omega), rd_get l i (by omega)]
    by_cases h1 : l[i] < 1
    · rw [if_pos h1, if_neg (fun h => by have := (hc.1 h).1; omega)]
    · by_cases h2 : l[i] > 1000000
      · rw [if_neg h1, if_pos h2, if_neg (fun h => by have := (hc.1 h).1; omega)]
      · rw [if_neg h1, if_neg h2, w64 (by omega), show ((i : Int) + 1) = ((i + 1 : Nat) : Int) by omega, ih k (i + 1) (by omega) (by omega) ?_]
        · by_cases h3 : AllIn (l.drop (i + 1))
          · rw [if_pos h3, if_pos (hc.2 ⟨by omega, h3⟩)]
          · rw [if_neg h3, if_neg (fun h => h3 (hc.1 h).2)]
        · rcases hall with h | h
          · exact .inl h
          · exact .inr (fun h' => h (hc.2 ⟨by omega, h'⟩))
def pieces (c g t : Int) (l : List Int) : Int × Int × Bool := if Good c g t ∧ l.length ≤ 40 ∧ AllIn l then ((pcs (full c g t) l).1, (pcs (full c g t) l).2, true) else (0, 0, false)
theorem spPieces_eq (c g t : Int) (l : List Int) (hl : l.length ≤ 1048576) (k : Nat) (hk : 1048700 < k) : spec_PiecesOn.f k c g t l = some (pieces c g t l) := by
  obtain ⟨k, rfl⟩ : ∃ j, k = j + 1 := ⟨k - 1, by omega⟩
  unfold spec_PiecesOn.f pieces
  rw [spGood_eq, l1All_eq l hl _ (by omega)]
  simp only [Option.bind_some, decide_eq_true_eq, spec_PiecesOn.j0]
  by_cases hg : Good c g t
  · rw [if_pos hg]
    by_cases hn : l.length ≤ 40
    · rw [if_neg (by omega)]
      by_cases ha : AllIn l
      · have hg' := hg
        unfold Good at hg'
        have fb := full_bounds (c := c) (g := g) (n := t) (by omega) (by omega) (by omega)
        rw [if_neg (by simp [ha]), spFull_eq hg (by omega), if_pos ⟨hg, hn, ha⟩]
        simp only [Option.bind_some]
        have := spPieces_loop l hn l.length k 0 (full c g t) (by omega) (by omega) (by simpa using ha) (by omega)
        simpa using this
      · rw [if_pos (by simp [ha]), if_neg (fun h => ha h.2.2)]
    · rw [if_pos (by omega), if_pos trivial, if_neg (fun h => hn h.2.1)]
  · rw [if_neg hg, if_pos trivial, if_neg (fun h => hg h.1)]
theorem ipPieces_eq (c g t : Int) (l : List Int) (k : Nat) (hk : 1048700 < k) : impl_PiecesOn.f k c g t l = some (pieces c g t l) := by
  obtain ⟨k, rfl⟩ : ∃ j, k = j + 1 := ⟨k - 1, by omega⟩
  unfold impl_PiecesOn.f pieces
  rw [isSpool_eq]
  simp only [Option.bind_some, decide_eq_true_eq, impl_PiecesOn.j0]
  by_cases hg : Good c g t
  · rw [if_pos hg]
    by_cases hn : l.length ≤ 40
    · rw [if_neg (by omega), show ((0 : Int)) = ((0 : Nat) : Int) from rfl, ipCheck_loop l hn hg l.length k 0 (by omega) (by omega) ?_]
      · simp [hg, hn]
      · by_cases ha : AllIn l
        · exact .inl ha
        · exact .inr (by simpa using ha)
    · rw [if_pos (by omega), if_neg (fun h => hn h.2.1)]
  · rw [if_neg hg, if_pos trivial, if_neg (fun h => hg h.1)]

/-- what is drawn out of bytes is always there -/
theorem tmod_range (x n : Int) (hx : 0 ≤ x) (hn : 1 ≤ n) : 0 ≤ Int.tmod x n ∧ Int.tmod x n < n := by
  rw [Int.tmod_eq_emod_of_nonneg hx]
  exact ⟨Int.emod_nonneg _ (by omega), Int.emod_lt_of_pos _ (by omega)⟩
theorem u64_range (x : Int) : 0 ≤ IntKind.u64.wrap x ∧ IntKind.u64.wrap x < 18446744073709551616 := by
  simp only [IntKind.wrap, IntKind.bits, IntKind.signed, Bool.false_and, Bool.false_eq_true, if_false]
  exact ⟨Int.emod_nonneg _ (by decide), Int.emod_lt_of_pos _ (by decide)⟩
theorem u64_keeps (n : Int) (h0 : 0 ≤ n) (h1 : n < 2 ^ 64) : IntKind.u64.wrap n = n := by
  simp only [IntKind.wrap, IntKind.bits, IntKind.signed, Bool.false_and, Bool.false_eq_true, if_false]
  exact Int.emod_eq_of_lt h0 h1
theorem low_byte (x : Int) : ∃ v, wrap64 (Go.bits .and .u64 ((IntKind.u64.wrap x) / 1099511627776) 255) = v ∧ 0 ≤ v ∧ v ≤ 255 := by
  obtain ⟨h0, h1⟩ := u64_range x
  have hd0 : 0 ≤ IntKind.u64.wrap x / 1099511627776 := by omega
  have hd1 : IntKind.u64.wrap x / 1099511627776 < 2 ^ 64 := by omega
  have e := bits_mask .u64 64 (by decide) (fun n a b => u64_keeps n a b) 8 (by decide) _ hd0 hd1
  rw [show (255 : Int) = 2 ^ 8 - 1 by decide, e]
  generalize IntKind.u64.wrap x / 1099511627776 = y at hd0 hd1
  have : 0 ≤ y % 2 ^ 8 ∧ y % 2 ^ 8 ≤ 255 := by omega
  exact ⟨_, w64 (by omega), this.1, this.2⟩
def Bytes (l : List Int) : Prop := l.length ≤ 1048576 ∧ ∀ x ∈ l, 0 ≤ x ∧ x ≤ 255
theorem next_ok (l : List Int) (hl : Bytes l) (a s : Int) (ha : 0 ≤ a ∧ a ≤ 1000000) : ∃ v s', spec_l1Cur_next.f l a s = some (v, a + 1, s') ∧ 0 ≤ v ∧ v ≤ 255 := by
  have wa : wrap64 (a + 1) = a + 1 := w64 (by omega)
  unfold spec_l1Cur_next.f
  rw [wa]
  clear wa
  by_cases h : a < (l.length : Int)
  · obtain ⟨n, rfl⟩ : ∃ n : Nat, a = n := ⟨a.toNat, by omega⟩
    have hn : n < l.length := by omega
    rw [if_pos h, if_pos ha.1]
    have hb := hl.2 _ (List.getElem_mem hn)
    by_cases h2 : (n : Int) + 1 ≤ (l.length : Int)
    · rw [if_pos h2]
      refine ⟨_, _, rfl, ?_⟩
      rw [rd_get l n hn, w64 (by omega)]
      exact hb
    · omega
  · rw [if_neg h]
    by_cases h2 : a + 1 ≤ (l.length : Int)
    · rw [if_pos h2]
      exact ⟨_, _, rfl, by omega, by omega⟩
    · rw [if_neg h2]
      obtain ⟨v, e, h0, h1⟩ := low_byte (IntKind.u64.wrap (IntKind.u64.wrap (s * 6364136223846793005)) + 1442695040888963407)
      exact ⟨v, IntKind.u64.wrap (IntKind.u64.wrap (IntKind.u64.wrap (s * 6364136223846793005)) + 1442695040888963407), by rw [e], h0, h1⟩
theorem pick_ok (l : List Int) (hl : Bytes l) (a s : Int) (ha : 0 ≤ a ∧ a ≤ 900000) (n : Int) :
    ∃ v a' s', spec_l1Cur_pick.f l a s n = some (v, a', s') ∧ 0 ≤ v ∧ (1 ≤ n → v < n) ∧ a ≤ a' ∧ a' ≤ a + 2 := by
  unfold spec_l1Cur_pick.f
  by_cases h : n ≤ 1
  · rw [if_pos h]
    exact ⟨0, a, s, rfl, by omega, by omega, by omega, by omega⟩
  · rw [if_neg h]
    obtain ⟨v, s1, e1, h0, h1⟩ := next_ok l hl a s (by omega)
    rw [e1]
    simp only [Option.bind_some]
    by_cases h2 : n > 200
    · obtain ⟨u, s2, e2, g0, g1⟩ := next_ok l hl (a + 1) s1 (by omega)
      rw [if_pos h2, e2]
      simp only [Option.bind_some]
      rw [if_neg (by omega), w64 (x := v * 256) (by omega), w64 (by omega)]
      have r := tmod_range (v * 256 + u) n (by omega) (by omega)
      exact ⟨_, _, _, rfl, r.1, fun _ => r.2, by omega, by omega⟩
    · rw [if_neg h2, if_neg (by omega)]
      have r := tmod_range v n h0 (by omega)
      exact ⟨_, _, _, rfl, r.1, fun _ => r.2, by omega, by omega⟩
theorem one_ok (l : List Int) (hl : Bytes l) (a s : Int) (ha : 0 ≤ a ∧ a ≤ 900000) (n : Int) :
    ∃ v a' s', spec_l1Cur_one.f l a s n = some (v, a', s') ∧ a ≤ a' ∧ a' ≤ a + 2 := by
  obtain ⟨v, a', s', e, _, _, h1, h2⟩ := pick_ok l hl a s ha n
  unfold spec_l1Cur_one.f
  rw [e]
  exact ⟨_, _, _, rfl, h1, h2⟩
theorem among_ok (l : List Int) (hl : Bytes l) (a s : Int) (ha : 0 ≤ a ∧ a ≤ 900000) (xs : List Int) (hx : 1 ≤ xs.length) :
    ∃ v a' s', spec_l1Cur_among.f l a s xs = some (v, a', s') ∧ a ≤ a' ∧ a' ≤ a + 2 := by
  obtain ⟨v, a', s', e, h0, h1, h2, h3⟩ := pick_ok l hl a s ha (xs.length : Int)
  unfold spec_l1Cur_among.f
  rw [e]
  simp only [Option.bind_some]
  rw [if_pos h0, if_pos (h1 (by omega))]
  exact ⟨_, _, _, rfl, h2, h3⟩
theorem spool_ok (l : List Int) (hl : Bytes l) (a s : Int) (ha : 0 ≤ a ∧ a ≤ 800000) :
    ∃ c g t a' s', spec_l1Cur_spool.f l a s = some (c, g, t, a', s') ∧ a ≤ a' ∧ a' ≤ a + 14 := by
  unfold spec_l1Cur_spool.f
  obtain ⟨v1, a1, s1, e1, _, _, l1, u1⟩ := pick_ok l hl a s (by omega) 4901
  rw [e1]; simp only [Option.bind_some]
  obtain ⟨v2, a2, s2, e2, l2, u2⟩ := among_ok l hl a1 s1 (by omega) [100, 500, 1000, wrap64 (100 + v1), 5000] (by simp)
  rw [e2]; simp only [Option.bind_some]
  obtain ⟨v3, a3, s3, e3, l3, u3⟩ := among_ok l hl a2 s2 (by omega) [0, 1, 2, 5, 50] (by simp)
  rw [e3]; simp only [Option.bind_some]
  obtain ⟨v4, a4, s4, e4, _, _, l4, u4⟩ := pick_ok l hl a3 s3 (by omega) 500
  rw [e4]; simp only [Option.bind_some]
  obtain ⟨v5, a5, s5, e5, l5, u5⟩ := among_ok l hl a4 s4 (by omega) [1, 2, 10, 50, wrap64 (1 + v4), 500] (by simp)
  rw [e5]; simp only [Option.bind_some]
  obtain ⟨v6, a6, s6, e6, _, _, l6, u6⟩ := pick_ok l hl a5 s5 (by omega) 24
  rw [e6]; simp only [Option.bind_some]
  obtain ⟨v7, a7, s7, e7, l7, u7⟩ := among_ok l hl a6 s6 (by omega) [99, 5001] (by simp)
  obtain ⟨v8, a8, s8, e8, l8, u8⟩ := among_ok l hl a6 s6 (by omega) [(-1), 51] (by simp)
  obtain ⟨v9, a9, s9, e9, l9, u9⟩ := among_ok l hl a6 s6 (by omega) [0, 501] (by simp)
  rw [e7, e8, e9]
  simp only [Option.bind_some]
  by_cases h0 : v6 = 0
  · rw [if_pos h0]; exact ⟨_, _, _, _, _, rfl, by omega, by omega⟩
  · rw [if_neg h0]
    by_cases h1 : v6 = 1
    · rw [if_pos h1]; exact ⟨_, _, _, _, _, rfl, by omega, by omega⟩
    · rw [if_neg h1]
      by_cases h2 : v6 = 2
      · rw [if_pos h2]; exact ⟨_, _, _, _, _, rfl, by omega, by omega⟩
      · rw [if_neg h2]; exact ⟨_, _, _, _, _, rfl, by omega, by omega⟩

theorem gcd_loop (d : Nat) : ∀ (a b : Int), 0 ≤ a → a ≤ 30000 → 0 ≤ b → b ≤ d → b ≤ 30000 → (0 < a ∨ 0 < b) → ∃ r, 0 < r ∧ (∀ k, d < k → impl_gcd.l0 k a b = some r) ∧ r ∣ a ∧ r ∣ b := by
  induction d with
  | zero =>
    intro a b ha ha' hb hd hb' h
    have e : b = 0 := by omega
    subst e
    refine ⟨a, by omega, fun k hk => ?_, Int.dvd_refl a, Int.dvd_zero a⟩
    obtain ⟨k, rfl⟩ : ∃ j, k = j + 1 := ⟨k - 1, by omega⟩
    rw [impl_gcd.l0, if_pos rfl]
  | succ d ih =>
    intro a b ha ha' hb hd hb' h
    by_cases e : b = 0
    · subst e
      refine ⟨a, by omega, fun k hk => ?_, Int.dvd_refl a, Int.dvd_zero a⟩
      obtain ⟨k, rfl⟩ : ∃ j, k = j + 1 := ⟨k - 1, by omega⟩
      rw [impl_gcd.l0, if_pos rfl]
    · have hm : Int.tmod a b = a % b := Int.tmod_eq_emod_of_nonneg ha
      have m0 := Int.emod_nonneg a e
      have m1 := Int.emod_lt_of_pos a (show 0 < b by omega)
      obtain ⟨r, hr, hk', d1, d2⟩ := ih b (a % b) hb hb' m0 (by omega) (by omega) (by omega)
      refine ⟨r, hr, fun k hk => ?_, ?_, d1⟩
      · obtain ⟨k, rfl⟩ : ∃ j, k = j + 1 := ⟨k - 1, by omega⟩
        rw [impl_gcd.l0, if_neg e, hm]; exact hk' k (by omega)
      · have := Int.mul_ediv_add_emod a b
        rw [← this]
        exact Int.dvd_add (Int.dvd_trans d1 (Int.dvd_mul_right b _)) d2
theorem part_low {a b : Int} (ha : 0 < a ∧ a ≤ 30000) (hb : 0 < b ∧ b ≤ 30000) : ∃ p q, 0 < q ∧ q ≤ b ∧ p * b = a * q ∧ (∀ k, 40000 < k → impl_lowest.f k a b = some (p, q)) := by
  obtain ⟨r, hr, hk, d1, d2⟩ := gcd_loop 30000 a b (by omega) (by omega) (by omega) (by omega) (by omega) (by omega)
  have ra : 0 ≤ a / r ∧ a / r ≤ a := ⟨Int.ediv_nonneg (by omega) (by omega), Int.ediv_le_self r (by omega)⟩
  have rb : 0 ≤ b / r ∧ b / r ≤ b := ⟨Int.ediv_nonneg (by omega) (by omega), Int.ediv_le_self r (by omega)⟩
  have ea : wrap64 (Int.tdiv a r) = a / r := by rw [Int.tdiv_eq_ediv_of_nonneg (by omega)]; exact w64 (by omega)
  have eb : wrap64 (Int.tdiv b r) = b / r := by rw [Int.tdiv_eq_ediv_of_nonneg (by omega)]; exact w64 (by omega)
  have ma := Int.ediv_mul_cancel d1
  have mb := Int.ediv_mul_cancel d2
  refine ⟨a / r, b / r, ?_, by omega, ?_, fun k h => ?_⟩
  · by_cases e : b / r = 0
    · rw [e] at mb; simp at mb; omega
    · omega
  · have h1 : a / r * b = a / r * (b / r * r) := by rw [mb]
    have h2 : a * (b / r) = a / r * r * (b / r) := by rw [ma]
    rw [h1, h2, Int.mul_assoc (a / r) r (b / r), Int.mul_comm (b / r) r]
  · unfold impl_lowest.f impl_gcd.f
    rw [hk k (by omega)]
    simp only [Option.bind_some]
    rw [if_neg (by omega), ea, eb]

theorem tl_all (c g t k : Int) : ∃ v ok, impl_TurnLength.f c g t k = some (v, ok) ∧ spec_TurnLength.f c g t k = some (v, ok) ∧ (ok = true → Good c g t ∧ 0 ≤ k ∧ k ≤ t - 1 ∧ v = turn c g k) := by
  unfold spec_TurnLength.f spec_spHas.f impl_TurnLength.f
  simp only [Option.bind_some, spGood_eq, isSpool_eq, in_eq]
  by_cases h : Good c g t
  · have hw : wrap64 (t - 1) = t - 1 := w64 (by unfold Good at h; omega)
    by_cases h0 : k < 0
    · have : ¬ 0 ≤ k := by omega
      exact ⟨0, false, by simp [h, h0], by simp [h, this], by simp⟩
    · by_cases h1 : k ≥ t
      · have : ¬ k ≤ t - 1 := by omega
        exact ⟨0, false, by simp [h, h0, h1], by simp [h, hw, this], by simp⟩
      · have h2 : 0 ≤ k := by omega
        have h3 : k ≤ t - 1 := by omega
        have h4 : ¬ t ≤ k := by omega
        have h5 : 0 ≤ k ∧ k ≤ 500 := by unfold Good at h; omega
        exact ⟨turn c g k, true, by simp [h, h0, h4, ipTurn_eq h h5], by simp [h, hw, h2, h3, spTurn_eq h h5], fun _ => ⟨h, h2, h3, rfl⟩⟩
  · exact ⟨0, false, by simp [h], by simp [h], by simp⟩
theorem tl_good {c g t k : Int} (h : Good c g t) (h0 : 0 ≤ k) (h1 : k ≤ t - 1) : impl_TurnLength.f c g t k = some (turn c g k, true) := by
  unfold impl_TurnLength.f
  simp only [Option.bind_some, isSpool_eq]
  have h4 : ¬ t ≤ k := by omega
  have h5 : 0 ≤ k ∧ k ≤ 500 := by unfold Good at h; omega
  have h6 : ¬ k < 0 := by omega
  simp [h, h6, h4, ipTurn_eq h h5]

theorem lw_good {c g t e : Int} (h : Good c g t) (h0 : 0 ≤ e) (h1 : e ≤ 8 * t) : impl_LengthWound.f c g t e = some (wound c g e, true) ∧ spec_LengthWound.f c g t e = some (wound c g e, true) := by
  have hw : wrap64 (8 * t) = 8 * t := w64 (by unfold Good at h; omega)
  have h5 : 0 ≤ e ∧ e ≤ 4000 := by unfold Good at h; omega
  unfold spec_LengthWound.f spec_spEighths.f impl_LengthWound.f impl_isEighths.f
  simp only [Option.bind_some, spGood_eq, isSpool_eq, in_eq, hw]
  exact ⟨by simp [h, h0, h1, ipWound_eq h h5], by simp [h, h0, h1, spWound_eq h h5]⟩
theorem lw_all (c g t e : Int) : ∃ v ok, impl_LengthWound.f c g t e = some (v, ok) ∧ spec_LengthWound.f c g t e = some (v, ok) ∧ (ok = true → Good c g t ∧ 0 ≤ e ∧ e ≤ 8 * t ∧ v = wound c g e) := by
  by_cases h : Good c g t
  · by_cases h0 : 0 ≤ e
    · by_cases h1 : e ≤ 8 * t
      · exact ⟨_, _, (lw_good h h0 h1).1, (lw_good h h0 h1).2, fun _ => ⟨h, h0, h1, rfl⟩⟩
      · have hw : wrap64 (8 * t) = 8 * t := w64 (by unfold Good at h; omega)
        refine ⟨0, false, ?_, ?_, by simp⟩
        · unfold impl_LengthWound.f impl_isEighths.f
          simp only [Option.bind_some, isSpool_eq, hw]
          simp [h, h0, h1]
        · unfold spec_LengthWound.f spec_spEighths.f
          simp only [Option.bind_some, spGood_eq, in_eq, hw]
          simp [h, h0, h1]
    · refine ⟨0, false, ?_, ?_, by simp⟩
      · unfold impl_LengthWound.f impl_isEighths.f
        simp only [Option.bind_some, isSpool_eq]
        simp [h, h0]
      · unfold spec_LengthWound.f spec_spEighths.f
        simp only [Option.bind_some, spGood_eq, in_eq]
        simp [h, h0]
  · refine ⟨0, false, ?_, ?_, by simp⟩
    · unfold impl_LengthWound.f impl_isEighths.f
      simp only [Option.bind_some, isSpool_eq]
      simp [h]
    · unfold spec_LengthWound.f spec_spEighths.f
      simp only [Option.bind_some, spGood_eq, in_eq]
      simp [h]
theorem lo_good {c g t : Int} (h : Good c g t) : impl_LengthOf.f c g t = some (full c g t, true) ∧ spec_LengthOf.f c g t = some (full c g t, true) := by
  have h5 : 0 ≤ t ∧ t ≤ 500 := by unfold Good at h; omega
  unfold spec_LengthOf.f impl_LengthOf.f
  simp only [Option.bind_some, spGood_eq, isSpool_eq]
  exact ⟨by simp [h, ipFull_eq h h5], by simp [h, spFull_eq h h5]⟩
theorem spFull_tot (c g t n : Int) : ∃ r, spec_spFull.f c g t n = some r := by
  unfold spec_spFull.f
  exact ⟨_, rfl⟩
theorem most_tot (a b : Int) : ∃ r, spec_l1Most.f a b = some r := by
  unfold spec_l1Most.f
  split <;> exact ⟨_, rfl⟩
theorem least_tot (a b : Int) : ∃ r, spec_l1Least.f a b = some r := by
  unfold spec_l1Least.f
  split <;> exact ⟨_, rfl⟩
theorem paper_ok (l : List Int) (hl : Bytes l) (a s : Int) (ha : 0 ≤ a ∧ a ≤ 700000) (c g t : Int) (k : Nat) (hk : 0 < k) :
    ∃ v a' s', spec_l1Cur_paperLength.f k l a s c g t = some (v, a', s') ∧ a ≤ a' ∧ a' ≤ a + 10 := by
  obtain ⟨k, rfl⟩ : ∃ j, k = j + 1 := ⟨k - 1, by omega⟩
  have key : ∀ (b : Bool) (a1 s1 : Int), a ≤ a1 → a1 ≤ a + 2 → ∃ v a' s', spec_l1Cur_paperLength.j0 (k + 1) b l a1 s1 c g t = some (v, a', s') ∧ a ≤ a' ∧ a' ≤ a + 10 := by
    intro b a1 s1 g1 g2
    rw [spec_l1Cur_paperLength.j0]
    by_cases hb : b = true
    · rw [if_pos hb]
      obtain ⟨v2, a2, s2, e2, _, _, l2, u2⟩ := pick_ok l hl a1 s1 (by omega) (wrap64 (t + 1))
      rw [e2]; simp only [Option.bind_some]
      obtain ⟨r, hr⟩ := spFull_tot c g t v2
      rw [hr]; simp only [Option.bind_some]
      obtain ⟨v3, a3, s3, e3, _, _, l3, u3⟩ := pick_ok l hl a2 s2 (by omega) 3
      rw [e3]; simp only [Option.bind_some]
      obtain ⟨m, hm⟩ := most_tot 0 (wrap64 ((wrap64 (r + v3)) - 1))
      rw [hm]
      exact ⟨m, a3, s3, rfl, by omega, by omega⟩
    · rw [if_neg hb]
      obtain ⟨v2, a2, s2, e2, _, _, l2, u2⟩ := pick_ok l hl a1 s1 (by omega) 60000
      rw [e2]; simp only [Option.bind_some]
      obtain ⟨v3, a3, s3, e3, l3, u3⟩ := among_ok l hl a2 s2 (by omega) [100000001, (-1)] (by simp)
      rw [e3]; simp only [Option.bind_some]
      obtain ⟨v4, a4, s4, e4, l4, u4⟩ := among_ok l hl a3 s3 (by omega) [0, 1, 1000, v2, 100000000, v3] (by simp)
      rw [e4]
      exact ⟨v4, a4, s4, rfl, by omega, by omega⟩
  unfold spec_l1Cur_paperLength.f
  rw [spGood_eq]
  simp only [Option.bind_some]
  by_cases h : decide (Good c g t) = true
  · rw [if_pos h]
    obtain ⟨v1, a1, s1, e1, l1, u1⟩ := one_ok l hl a s (by omega) 4
    rw [e1]; simp only [Option.bind_some]
    exact key _ a1 s1 l1 u1
  · rw [if_neg h]
    exact key _ a s (by omega) (by omega)
theorem eighths_ok (l : List Int) (hl : Bytes l) (a s : Int) (ha : 0 ≤ a ∧ a ≤ 700000) (c g t : Int) :
    ∃ v a' s', spec_l1Cur_spoolEighths.f l a s c g t = some (v, a', s') ∧ a ≤ a' ∧ a' ≤ a + 10 := by
  unfold spec_l1Cur_spoolEighths.f
  obtain ⟨m, hm⟩ := least_tot t 501
  rw [hm]; simp only [Option.bind_some]
  obtain ⟨q, hq⟩ := most_tot 1 m
  rw [hq]; simp only [Option.bind_some]
  obtain ⟨v1, a1, s1, e1, _, _, l1, u1⟩ := pick_ok l hl a s (by omega) (wrap64 (8 * q))
  rw [e1]; simp only [Option.bind_some]
  obtain ⟨v2, a2, s2, e2, _, _, l2, u2⟩ := pick_ok l hl a1 s1 (by omega) (wrap64 (8 * q))
  rw [e2]; simp only [Option.bind_some]
  obtain ⟨v3, a3, s3, e3, l3, u3⟩ := among_ok l hl a2 s2 (by omega) [wrap64 ((wrap64 (8 * q)) + 1), (-1)] (by simp)
  rw [e3]; simp only [Option.bind_some]
  obtain ⟨v4, a4, s4, e4, l4, u4⟩ := among_ok l hl a3 s3 (by omega) [0, 1, 8, 9, v1, v2, wrap64 (8 * q), v3] (by simp)
  rw [e4]
  exact ⟨v4, a4, s4, rfl, by omega, by omega⟩
theorem drawTL_ok (l : List Int) (hl : Bytes l) : ∃ c g t n, spec_DrawTurnLength.f l = some (c, g, t, n) := by
  unfold spec_DrawTurnLength.f
  obtain ⟨c, g, t, a1, s1, e1, l1, u1⟩ := spool_ok l hl 0 0 (by omega)
  rw [e1]; simp only [Option.bind_some]
  obtain ⟨m, hm⟩ := most_tot 1 t
  rw [hm]; simp only [Option.bind_some]
  obtain ⟨v2, a2, s2, e2, _, _, l2, u2⟩ := pick_ok l hl a1 s1 (by omega) m
  rw [e2]; simp only [Option.bind_some]
  obtain ⟨v3, a3, s3, e3, l3, u3⟩ := among_ok l hl a2 s2 (by omega) [t, (-1)] (by simp)
  rw [e3]; simp only [Option.bind_some]
  obtain ⟨v4, a4, s4, e4, l4, u4⟩ := among_ok l hl a3 s3 (by omega) [0, 1, wrap64 (t - 1), v2, v3] (by simp)
  rw [e4]
  exact ⟨c, g, t, v4, rfl⟩
theorem sr_good {c g t n : Int} (h : Good c g t) (h0 : 0 ≤ n) (h1 : n ≤ t - 1) (k : Nat) (hk : 50000 < k) : ∃ p q, impl_SpeedRatio.f k c g t n = some (p, q, true) ∧ 0 < q ∧ q ≤ c ∧ p * c = turn c g n * q := by
  have h' := h
  unfold Good at h'
  have h4 : 0 ≤ n ∧ n ≤ 500 := by omega
  have h5 : ¬ t ≤ n := by omega
  have h6 : ¬ n < 0 := by omega
  have hb := turn_bounds (c := c) (g := g) (k := n) (by omega) (by omega) h4
  obtain ⟨p, q, q1, q2, hpq, hi⟩ := part_low (a := turn c g n) (b := c) (by omega) (by omega)
  obtain ⟨k, rfl⟩ : ∃ j, k = j + 1 := ⟨k - 1, by omega⟩
  refine ⟨p, q, ?_, q1, q2, hpq⟩
  unfold impl_SpeedRatio.f
  simp only [Option.bind_some, isSpool_eq, impl_SpeedRatio.j0]
  simp [h, h6, h5, ipTurn_eq h h4, hi k (by omega)]
theorem u8_wf (l : List Int) (h : ∀ x ∈ l, (Lit.int .u8 x).wf = true) : ∀ x ∈ l, 0 ≤ x ∧ x ≤ 255 := by
  intro x hx
  have := h x hx
  simp [Lit.wf, IntKind.min, IntKind.max, IntKind.bits, IntKind.signed] at this
  omega

theorem four (c g t y : Int) (k : Nat) (hk : 6000 < k) : ∃ e tt ok, impl_EighthsFor.f k c g t y = some (e, ok) ∧ spec_EighthsFor.f k c g t y = some (e, ok) ∧ impl_TurnsFor.f k c g t y = some (tt, ok) ∧ spec_TurnsFor.f k c g t y = some (tt, ok) ∧
    (ok = true → Good c g t ∧ (0 ≤ y ∧ y ≤ 100000000) ∧ (0 ≤ e ∧ e ≤ 8 * t) ∧ 8 * y ≤ wound c g e ∧ (∀ i, 0 ≤ i → i < e → wound c g i < 8 * y) ∧ tt = (e + 7) / 8) := by
  obtain ⟨k, rfl⟩ : ∃ j, k = j + 1 := ⟨k - 1, by omega⟩
  unfold spec_EighthsFor.f impl_EighthsFor.f spec_TurnsFor.f impl_TurnsFor.f spec_spLength.f impl_isLength.f
  simp only [Option.bind_some, spGood_eq, isSpool_eq, in_eq, spec_EighthsFor.j0, spec_TurnsFor.j0, impl_TurnsFor.j0]
  by_cases h : Good c g t
  · by_cases h0 : 0 ≤ y
    · by_cases h1 : y ≤ 100000000
      · obtain ⟨r, hr, fr⟩ := spFor_eq h (8 * y) k (by omega)
        obtain ⟨q, hq, fq⟩ := ipFor_eq h (8 * y) (k + 1) (by omega)
        obtain rfl := isFor_unique h fr fq
        have ht := itFor_eq h fr k (by omega)
        have hb : r ≤ 4000 := by unfold Good at h; unfold IsFor at fr; omega
        have hw : wrap64 (8 * y) = 8 * y := w64 (by omega)
        by_cases hn : r < 0
        · exact ⟨0, 0, false, by simp [h, h0, h1, hw, hq, hn], by simp [h, h0, h1, hw, hr, hn], by simp [h, h0, h1, ht, hn], by simp [h, h0, h1, hw, hr, hn], by simp⟩
        · have hv : wrap64 (Int.tdiv (wrap64 (r + 7)) 8) = (r + 7) / 8 := by
            rw [w64 (x := r + 7) (by omega), Int.tdiv_eq_ediv_of_nonneg (by omega)]; exact w64 (by omega)
          refine ⟨r, (r + 7) / 8, true, by simp [h, h0, h1, hw, hq, hn], by simp [h, h0, h1, hw, hr, hn], by simp [h, h0, h1, ht, hn], by simp [h, h0, h1, hw, hr, hn, hv], fun _ => ?_⟩
          rcases fr with ⟨fr, _⟩ | ⟨f1, f2, f3, f4⟩
          · omega
          · exact ⟨h, ⟨h0, h1⟩, ⟨f1, f2⟩, f3, f4, rfl⟩
      · exact ⟨0, 0, false, by simp [h, h0, h1], by simp [h, h0, h1], by simp [h, h0, h1], by simp [h, h0, h1], by simp⟩
    · exact ⟨0, 0, false, by simp [h, h0], by simp [h, h0], by simp [h, h0], by simp [h, h0], by simp⟩
  · exact ⟨0, 0, false, by simp [h], by simp [h], by simp [h], by simp [h], by simp⟩
theorem drawE_ok (l : List Int) (hl : Bytes l) (k : Nat) (hk : 0 < k) : ∃ c g t y, spec_DrawEighthsFor.f k l = some (c, g, t, y) := by
  unfold spec_DrawEighthsFor.f
  obtain ⟨c, g, t, a1, s1, e1, l1, u1⟩ := spool_ok l hl 0 0 (by omega)
  rw [e1]; simp only [Option.bind_some]
  obtain ⟨y, a2, s2, e2, _, _⟩ := paper_ok l hl a1 s1 (by omega) c g t k hk
  rw [e2]
  exact ⟨c, g, t, y, rfl⟩
theorem drawW_ok (l : List Int) (hl : Bytes l) : ∃ c g t y, spec_DrawLengthWound.f l = some (c, g, t, y) := by
  unfold spec_DrawLengthWound.f
  obtain ⟨c, g, t, a1, s1, e1, l1, u1⟩ := spool_ok l hl 0 0 (by omega)
  rw [e1]; simp only [Option.bind_some]
  obtain ⟨y, a2, s2, e2, _, _⟩ := eighths_ok l hl a1 s1 (by omega) c g t
  rw [e2]
  exact ⟨c, g, t, y, rfl⟩
theorem drawP_loop (l : List Int) (hl : Bytes l) (c g t : Int) (n : Nat) (hn : n ≤ 60) (d : Nat) : ∀ (k : Nat) (xs : List Int) (a s : Int), xs.length + d = n → d < k → 0 ≤ a ∧ a + 4 * d ≤ 600000 →
    ∃ ps, spec_DrawPiecesOn.l0 k xs n l a s c g t = some (c, g, t, ps) ∧ ps.length ≤ 100 := by
  induction d with
  | zero =>
    intro k xs a s hx hk ha
    obtain ⟨k, rfl⟩ : ∃ j, k = j + 1 := ⟨k - 1, by omega⟩
    rw [spec_DrawPiecesOn.l0, if_neg (by omega)]
    by_cases h : (n : Int) > 0
    · rw [if_pos h]
      obtain ⟨v1, a1, s1, e1, _, _, l1, u1⟩ := pick_ok l hl a s (by omega) 16
      rw [e1]; simp only [Option.bind_some]
      by_cases h0 : v1 = 0
      · rw [if_pos h0]
        obtain ⟨v2, a2, s2, e2, b0, b1, l2, u2⟩ := pick_ok l hl a1 s1 (by omega) (n : Int)
        rw [e2]; simp only [Option.bind_some]
        obtain ⟨v3, a3, s3, e3, l3, u3⟩ := among_ok l hl a2 s2 (by omega) [0, 1000001] (by simp)
        have b2 := b1 (by omega)
        rw [e3]; simp only [Option.bind_some]
        rw [if_pos b0, if_pos (by omega)]
        exact ⟨_, rfl, by rw [List.length_set]; omega⟩
      · rw [if_neg h0]
        by_cases h1 : v1 = 1
        · rw [if_pos h1, spGood_eq]
          simp only [Option.bind_some]
          by_cases h2 : decide (Good c g t) = true
          · rw [if_pos h2]
            obtain ⟨r, hr⟩ := spFull_tot c g t t
            rw [hr]; simp only [Option.bind_some]
            obtain ⟨v2, a2, s2, e2, _, _, l2, u2⟩ := pick_ok l hl a1 s1 (by omega) 2
            rw [e2]; simp only [Option.bind_some]
            obtain ⟨m, hm⟩ := least_tot 1000000 (wrap64 (r + v2))
            rw [hm]
            exact ⟨[m], rfl, by simp⟩
          · rw [if_neg h2]; exact ⟨_, rfl, by omega⟩
        · rw [if_neg h1]; exact ⟨_, rfl, by omega⟩
    · rw [if_neg h]; exact ⟨_, rfl, by omega⟩
  | succ d ih =>
    intro k xs a s hx hk ha
    obtain ⟨k, rfl⟩ : ∃ j, k = j + 1 := ⟨k - 1, by omega⟩
    rw [spec_DrawPiecesOn.l0, if_pos (by omega)]
    obtain ⟨v1, a1, s1, e1, _, _, l1, u1⟩ := pick_ok l hl a s (by omega) 30000
    rw [e1]; simp only [Option.bind_some]
    obtain ⟨v2, a2, s2, e2, l2, u2⟩ := among_ok l hl a1 s1 (by omega) [1, 100, 1000, wrap64 (1 + v1), 1000000] (by simp)
    rw [e2]; simp only [Option.bind_some]
    rw [if_pos (by omega)]
    exact ih k (xs ++ [v2]) a2 s2 (by rw [List.length_append, List.length_singleton]; omega) (by omega) (by omega)
theorem drawP_ok (l : List Int) (hl : Bytes l) (k : Nat) (hk : 100 < k) : ∃ c g t ps, spec_DrawPiecesOn.f k l = some (c, g, t, ps) ∧ ps.length ≤ 100 := by
  obtain ⟨k, rfl⟩ : ∃ j, k = j + 1 := ⟨k - 1, by omega⟩
  unfold spec_DrawPiecesOn.f
  obtain ⟨c, g, t, a1, s1, e1, l1, u1⟩ := spool_ok l hl 0 0 (by omega)
  rw [e1]; simp only [Option.bind_some]
  obtain ⟨v2, a2, s2, e2, b0, b1, l2, u2⟩ := pick_ok l hl a1 s1 (by omega) 7
  rw [e2]; simp only [Option.bind_some]
  obtain ⟨v3, a3, s3, e3, l3, u3⟩ := one_ok l hl a2 s2 (by omega) 20
  rw [e3]; simp only [Option.bind_some]
  have key : ∀ (m a s : Int), 0 ≤ m ∧ m ≤ 50 → 0 ≤ a ∧ a ≤ 1000 → ∃ c' g' t' ps, spec_DrawPiecesOn.j0 (k + 1) ([] : List Int) m l a s c g t = some (c', g', t', ps) ∧ ps.length ≤ 100 := by
    intro m a s hm ha
    obtain ⟨n, rfl⟩ : ∃ n : Nat, m = n := ⟨m.toNat, by omega⟩
    rw [spec_DrawPiecesOn.j0]
    obtain ⟨ps, h1, h2⟩ := drawP_loop l hl c g t n (by omega) n k [] a s (by simp) (by omega) (by omega)
    exact ⟨c, g, t, ps, h1, h2⟩
  have b2 := b1 (by omega)
  by_cases h : v3 = true
  · rw [if_pos h]
    obtain ⟨v4, a4, s4, e4, d0, d1, l4, u4⟩ := pick_ok l hl a3 s3 (by omega) 2
    have d2 := d1 (by omega)
    rw [e4]; simp only [Option.bind_some]
    rw [w64 (by omega)]
    exact key _ a4 s4 (by omega) (by omega)
  · rw [if_neg h]
    exact key _ a3 s3 (by omega) (by omega)
theorem pcs_ok : ∀ (l : List Int) (left : Int), AllIn l → 0 ≤ left →
    0 ≤ (pcs left l).1 ∧ (pcs left l).1 ≤ l.length ∧ 0 ≤ (pcs left l).2 ∧ (l.take (pcs left l).1.toNat).sum + (pcs left l).2 = left ∧ ((pcs left l).1 < l.length → (pcs left l).2 < l.getD (pcs left l).1.toNat 0) := by
  intro l
  induction l with
  | nil => intro left _ h; simp [pcs, h]
  | cons n r ih =>
    intro left hA h
    obtain ⟨hn, hr⟩ := allIn_cons.1 hA
    unfold pcs
    by_cases hc : n > left
    · rw [if_pos hc]
      refine ⟨by simp, by simp; omega, h, by simp, fun _ => by simpa using hc⟩
    · rw [if_neg hc]
      obtain ⟨h1, h2, h3, h4, h5⟩ := ih (left - n) hr (by omega)
      generalize pcs (left - n) r = P at h1 h2 h3 h4 h5
      obtain ⟨p, q⟩ := P
      simp only at h1 h2 h3 h4 h5 ⊢
      obtain ⟨m, rfl⟩ : ∃ m : Nat, p = m := ⟨p.toNat, by omega⟩
      have e : ((m : Int) + 1).toNat = m + 1 := by omega
      rw [e]
      rw [Int.toNat_natCast] at h4 h5
      refine ⟨by omega, by rw [List.length_cons]; omega, h3, ?_, fun hl => ?_⟩
      · rw [List.take_succ_cons, List.sum_cons]; omega
      · rw [List.getD_cons_succ]; rw [List.length_cons] at hl; exact h5 (by omega)
theorem sum_bound (l : List Int) (h : AllIn l) : 0 ≤ l.sum ∧ l.sum ≤ 1000000 * l.length := by
  induction l with
  | nil => simp
  | cons n r ih =>
    obtain ⟨hn, hr⟩ := allIn_cons.1 h
    have := ih hr
    rw [List.sum_cons, List.length_cons]
    omega
theorem sum_loop (x6 : Int) (x8 : Bool) (x9 x13 : Int) (x16 : List Int) (x20 x21 x30 : Int) (x32 : Bool) (x33 x40 : Int) (x41 : Bool) (x42 : Int) (x43 : Bool) (q1 q2 q3 q4 q5 q6 : Int) (l : List Int) (hl : l.length ≤ 100) (hA : AllIn l) (d : Nat) :
    ∀ (k i : Nat) (s : Int), i + d = l.length → d < k → 0 ≤ s ∧ s + 1000000 * d ≤ 1000000000 →
    laws_FnSpools.l0 k x6 x8 x9 x13 x16 x20 x21 x30 x32 x33 x40 x41 x42 x43 s l l.length i q1 q2 q3 q4 q5 q6 = laws_FnSpools.l0 (k - d) x6 x8 x9 x13 x16 x20 x21 x30 x32 x33 x40 x41 x42 x43 (s + (l.drop i).sum) l l.length l.length q1 q2 q3 q4 q5 q6 := by
  induction d with
  | zero =>
    intro k i s hi hk hs
    rw [List.drop_of_length_le (by omega), show i = l.length by omega]
    simp
  | succ d ih =>
    intro k i s hi hk hs
    obtain ⟨k, rfl⟩ : ∃ j, k = j + 1 := ⟨k - 1, by omega⟩
    have hi' : i < l.length := by omega
    have hb := hA _ (List.getElem_mem hi')
    have e := ih k (i + 1) (s + l[i]) (by omega) (by omega) (by omega)
    have w1 : wrap64 ((i : Int) + 1) = ((i + 1 : Nat) : Int) := by rw [w64 (by omega)]; omega
    rw [laws_FnSpools.l0, if_pos (by omega), if_pos (by omega), if_pos (by omega), rd_get l i hi', w64 (x := s + l[i]) (by omega), w1, e, drop_get l i hi', List.sum_cons, show k + 1 - (d + 1) = k - d by omega, Int.add_assoc]
theorem j6_ok (c g t e y : Int) (h : Good c g t) (he : 0 ≤ e ∧ e ≤ 8 * t) (hy : 0 ≤ y ∧ y ≤ 100000000) (hm : ∀ i, 0 ≤ i → i < e → wound c g i < 8 * y) (k : Nat) (hk : 0 < k) : laws_FnSpools.j6 k y e false c g t = some true := by
  obtain ⟨k, rfl⟩ : ∃ j, k = j + 1 := ⟨k - 1, by omega⟩
  rw [laws_FnSpools.j6, if_neg (by decide)]
  by_cases h0 : e > 0
  · have b : e ≤ 4000 := by unfold Good at h; omega
    have hlt := hm (e - 1) (by omega) (by omega)
    rw [if_pos h0, w64 (x := e - 1) (by omega), (lw_good h (show 0 ≤ e - 1 by omega) (by omega)).1]
    simp only [Option.bind_some, if_true]
    rw [w64 (x := 8 * y) (by omega), if_neg (by omega)]
  · rw [if_neg h0]
theorem j5_ok (c g t e tt y : Int) (ok : Bool) (hf : ok = true → Good c g t ∧ (0 ≤ y ∧ y ≤ 100000000) ∧ (0 ≤ e ∧ e ≤ 8 * t) ∧ 8 * y ≤ wound c g e ∧ (∀ i, 0 ≤ i → i < e → wound c g i < 8 * y) ∧ tt = (e + 7) / 8) (k : Nat) (hk : 1 < k) :
    laws_FnSpools.j5 k y ok e tt c g t = some true := by
  obtain ⟨k, rfl⟩ : ∃ j, k = j + 1 := ⟨k - 1, by omega⟩
  rw [laws_FnSpools.j5]
  by_cases h : ok = true
  · obtain ⟨hg, hy, he, hw, hm, rfl⟩ := hf h
    obtain ⟨e1, e2⟩ := lw_good hg he.1 he.2
    have b : e ≤ 4000 := by unfold Good at hg; omega
    rw [if_pos h, e1, e2]
    simp only [Option.bind_some, if_true]
    rw [w64 (x := 8 * y) (by omega), if_neg (by omega), w64 (x := e + 7) (by omega), Int.tdiv_eq_ediv_of_nonneg (by omega), w64 (by omega), bne_self_eq_false]
    exact j6_ok c g t e y hg he hy hm k (by omega)
  · rw [if_neg h]
theorem j4_ok (c g t e tt y : Int) (ok : Bool) (hf : ok = true → Good c g t ∧ (0 ≤ y ∧ y ≤ 100000000) ∧ (0 ≤ e ∧ e ≤ 8 * t) ∧ 8 * y ≤ wound c g e ∧ (∀ i, 0 ≤ i → i < e → wound c g i < 8 * y) ∧ tt = (e + 7) / 8)
    (a b u n v : Int) (ok2 : Bool) (h2 : ok2 = true → Good a b u ∧ 0 ≤ n ∧ n ≤ 8 * u ∧ v = wound a b n) (k : Nat) (hk : 3 < k) :
    laws_FnSpools.j3 k y ok e tt n ok2 v c g t a b u = some true := by
  obtain ⟨k, rfl⟩ : ∃ j, k = j + 1 + 1 := ⟨k - 2, by omega⟩
  have base := j5_ok c g t e tt y ok hf k (by omega)
  rw [laws_FnSpools.j3]
  by_cases h : ok2 = true
  · obtain ⟨hg, n0, n1, rfl⟩ := h2 h
    rw [if_pos h, laws_FnSpools.j4]
    by_cases h8 : n ≥ 8
    · have hb := hg
      unfold Good at hb
      obtain ⟨e1, e2⟩ := lw_good hg (show 0 ≤ n - 8 by omega) (by omega)
      have hs := wound_strict (c := a) (g := b) (by omega) (by omega) (show 0 ≤ n - 8 by omega) (show n - 8 < n by omega) (by omega)
      rw [if_pos (decide_eq_true h8), w64 (x := n - 8) (by omega), e1, e2]
      simp only [Option.bind_some, if_true]
      rw [if_neg (by omega)]
      exact base
    · rw [if_neg (by simpa using h8)]
      exact base
  · rw [if_neg h, laws_FnSpools.j4, if_neg (by decide)]
    exact base
theorem j1_ok (c g t e tt y : Int) (ok : Bool) (hf : ok = true → Good c g t ∧ (0 ≤ y ∧ y ≤ 100000000) ∧ (0 ≤ e ∧ e ≤ 8 * t) ∧ 8 * y ≤ wound c g e ∧ (∀ i, 0 ≤ i → i < e → wound c g i < 8 * y) ∧ tt = (e + 7) / 8)
    (a b u n v : Int) (ok2 : Bool) (h2 : ok2 = true → Good a b u ∧ 0 ≤ n ∧ n ≤ 8 * u ∧ v = wound a b n) (p q r : Int) (ps : List Int) (k : Nat) (hk : 200 < k) :
    laws_FnSpools.j1 k y ok e tt ps (pieces p q r ps).2.2 (pieces p q r ps).1 (pieces p q r ps).2.1 n ok2 v c g t p q r a b u = some true := by
  obtain ⟨k, rfl⟩ : ∃ j, k = j + 1 := ⟨k - 1, by omega⟩
  rw [laws_FnSpools.j1]
  unfold pieces
  by_cases h : Good p q r ∧ ps.length ≤ 40 ∧ AllIn ps
  · rw [if_pos h]
    obtain ⟨hg, hl, hA⟩ := h
    obtain ⟨e1, e2⟩ := lo_good hg
    have hb := hg
    unfold Good at hb
    have fb := full_bounds (c := p) (g := q) (n := r) (by omega) (by omega) (by omega)
    have f0 : 0 ≤ full p q r ∧ full p q r ≤ 8750000 := by omega
    obtain ⟨c1, c2, c3, c4, c5⟩ := pcs_ok ps (full p q r) hA f0.1
    generalize full p q r = F at *
    generalize pcs F ps = P at *
    obtain ⟨n1, rest⟩ := P
    simp only at c1 c2 c3 c4 c5 ⊢
    obtain ⟨m, rfl⟩ : ∃ m : Nat, n1 = m := ⟨n1.toNat, by omega⟩
    rw [Int.toNat_natCast] at c4 c5
    rw [if_pos trivial, e1, e2]
    simp only [Option.bind_some]
    rw [if_pos (by omega), if_pos (by omega), Int.toNat_natCast]
    have hAt : AllIn (ps.take m) := fun x hx => hA x (List.mem_of_mem_take hx)
    have hlt : (ps.take m).length = m := by rw [List.length_take]; omega
    have sb := sum_bound _ hAt
    have lp := sum_loop y ok e tt ps m rest n ok2 v F true F true c g t a b u (ps.take m) (by omega) hAt m k 0 0 (by omega) (by omega) (by omega)
    rw [List.drop_zero, Int.zero_add] at lp
    have lp' : laws_FnSpools.l0 k y ok e tt ps m rest n ok2 v F true F true 0 (ps.take m) (ps.take m).length 0 c g t a b u = _ := lp
    rw [lp']
    have base := j4_ok c g t e tt y ok hf a b u n v ok2 h2 (k - m - 1) (by omega)
    obtain ⟨j, hj⟩ : ∃ j, k - m = j + 1 := ⟨k - m - 1, by omega⟩
    rw [hj, laws_FnSpools.l0, if_neg (by omega), if_pos rfl, if_pos rfl, if_pos rfl, w64 (by omega), if_pos (by omega)]
    rw [show k - m - 1 = j by omega] at base
    by_cases hm : (m : Int) < (ps.length : Int)
    · have hc := c5 hm
      have hm' : m < ps.length := by omega
      rw [List.getD_eq_getElem?_getD, List.getElem?_eq_getElem hm'] at hc
      simp only [Option.getD_some] at hc
      rw [if_pos hm, if_pos (by omega), rd_get ps m hm', if_neg (by omega)]
      exact base
    · rw [if_neg hm]
      exact base
  · rw [if_neg h]
    simp only [Bool.false_eq_true, if_false]
    exact j4_ok c g t e tt y ok hf a b u n v ok2 h2 k (by omega)
theorem j0_ok (c g t e tt y : Int) (ok : Bool) (hf : ok = true → Good c g t ∧ (0 ≤ y ∧ y ≤ 100000000) ∧ (0 ≤ e ∧ e ≤ 8 * t) ∧ 8 * y ≤ wound c g e ∧ (∀ i, 0 ≤ i → i < e → wound c g i < 8 * y) ∧ tt = (e + 7) / 8)
    (a b u n v : Int) (ok2 : Bool) (h2 : ok2 = true → Good a b u ∧ 0 ≤ n ∧ n ≤ 8 * u ∧ v = wound a b n) (p q r : Int) (ps : List Int)
    (a' b' u' n' v' : Int) (ok3 : Bool) (h3 : ok3 = true → Good a' b' u' ∧ 0 ≤ n' ∧ n' ≤ u' - 1 ∧ v' = turn a' b' n') (k : Nat) (hk : 50100 < k) :
    laws_FnSpools.j0 k y ok e tt ps (pieces p q r ps).2.2 (pieces p q r ps).1 (pieces p q r ps).2.1 n' ok3 v' n ok2 v false c g t p q r a' b' u' a b u = some true := by
  obtain ⟨k, rfl⟩ : ∃ j, k = j + 1 := ⟨k - 1, by omega⟩
  have base := j1_ok c g t e tt y ok hf a b u n v ok2 h2 p q r ps k (by omega)
  rw [laws_FnSpools.j0, if_neg (by decide)]
  by_cases h : ok3 = true
  · obtain ⟨hg, n0, n1, rfl⟩ := h3 h
    have hb := hg
    unfold Good at hb
    obtain ⟨s, w, e1, w0, w1, e2⟩ := sr_good hg n0 n1 k (by omega)
    have e3 := tl_good hg (show (0 : Int) ≤ 0 by omega) (show (0 : Int) ≤ u' - 1 by omega)
    have e4 : turn a' b' 0 = a' := by unfold turn; omega
    have tb := turn_bounds (c := a') (g := b') (k := n') (by omega) (by omega) (by omega)
    have m0 : 0 ≤ turn a' b' n' * w := Int.mul_nonneg (by omega) (by omega)
    have m1 : turn a' b' n' * w ≤ 30000 * 5000 := Int.mul_le_mul (by omega) (by omega) (by omega) (by omega)
    rw [if_pos h, e1, e3]
    simp only [Option.bind_some, if_true]
    rw [if_neg (by omega), e4, e2, if_pos rfl]
    exact base
  · rw [if_neg h]
    exact base
theorem FnSpools : laws_FnSpools.Pure := by
  intro l0 l1 m0 y0 w0 m1 y1 w1
  refine ⟨1048800, ?_⟩
  unfold maxLen at m0 m1
  unfold laws_FnSpools.f
  rw [w64 (by omega)]
  by_cases hl : (l0.length : Int) + (l1.length : Int) > 1048576
  · rw [if_pos hl]
  · rw [if_neg hl]
    have b0 : Bytes l0 := ⟨by omega, u8_wf l0 w0⟩
    have b1 : Bytes l1 := ⟨by omega, u8_wf l1 w1⟩
    obtain ⟨c, g, t, y, d1⟩ := drawE_ok l0 b0 1048800 (by omega)
    rw [d1]; simp only [Option.bind_some]
    obtain ⟨e, tt, ok, f1, f2, f3, f4, hf⟩ := four c g t y 1048800 (by omega)
    rw [f1, f2, f3, f4]; simp only [Option.bind_some]
    obtain ⟨p, q, r, ps, d2, hp⟩ := drawP_ok l1 b1 1048800 (by omega)
    rw [d2]; simp only [Option.bind_some]
    rw [ipPieces_eq p q r ps 1048800 (by omega), spPieces_eq p q r ps (by omega) 1048800 (by omega)]; simp only [Option.bind_some]
    obtain ⟨a', b', u', n', d3⟩ := drawTL_ok l1 b1
    rw [d3]; simp only [Option.bind_some]
    obtain ⟨v', ok3, g1, g2, h3⟩ := tl_all a' b' u' n'
    rw [g1, g2]; simp only [Option.bind_some]
    obtain ⟨a, b, u, n, d4⟩ := drawW_ok l1 b1
    rw [d4]; simp only [Option.bind_some]
    obtain ⟨v, ok2, g3, g4, h2⟩ := lw_all a b u n
    rw [g3, g4]; simp only [Option.bind_some, bne_self_eq_false, Bool.false_eq_true, if_false, if_true]
    exact j0_ok c g t e tt y ok hf a b u n v ok2 h2 p q r ps a' b' u' n' v' ok3 h3 1048800 (by omega)
end Go.Proofs.Ytjogodnkcjhdiaa.Pure
