/- FnExactTurnsFor: the program's TurnsFor answers as the reference's, for all spools and lengths. No condition. -/
import Derived.Test.YtnjmoldagecniaaPFnExactTurnsForx2
namespace Go.Proofs.Ytnjmoldagecniaa.Pure
open Go.RowKit Go.Proofs.Ytnjmoldagecniaa.PFnExactTurnsFor Go.Proofs.YtnjmoldagecniaaW.PrintWords Go.Proofs.YtnjmoldagecniaaW.PrintLast

theorem w64 {x : Int} (h : -9223372036854775808 ≤ x ∧ x ≤ 9223372036854775807) : wrap64 x = x := by
  unfold wrap64; omega
theorem someF {p : Prop} [Decidable p] (h : ¬ p) : some false = some (decide p) := by rw [decide_eq_false h]
theorem someD {q p : Prop} [Decidable q] [Decidable p] (h : q ↔ p) : some (decide q) = some (decide p) := by rw [decide_eq_decide.2 h]

theorem in_eq (a b c : Int) : spec_l1In.f a b c = some (decide (b ≤ a ∧ a ≤ c)) := by
  unfold spec_l1In.f
  by_cases h : a ≥ b
  · rw [if_pos h]; congr 1; simp [show b ≤ a from h]
  · rw [if_neg h]; congr 1; simp; omega

def Good (c g t : Int) : Prop := 100 ≤ c ∧ c ≤ 5000 ∧ 0 ≤ g ∧ g ≤ 50 ∧ 1 ≤ t ∧ t ≤ 500
instance (c g t : Int) : Decidable (Good c g t) := by unfold Good; infer_instance
def turn (c g k : Int) : Int := c + k * g
def full (c g n : Int) : Int := n * c + n * (n - 1) / 2 * g
def wound (c g e : Int) : Int := 8 * full c g (e / 8) + e % 8 * turn c g (e / 8)

theorem tri_bounds {n : Int} (h0 : 0 ≤ n) (h1 : n ≤ 500) : 0 ≤ n * (n - 1) ∧ n * (n - 1) ≤ 250000 := by
  have h2 : 0 ≤ n * (n - 1) := by
    by_cases h : n = 0
    · subst h; simp
    · exact Int.mul_nonneg h0 (by omega)
  have h3 : n * (n - 1) ≤ 500 * (n - 1) ∨ n = 0 := by
    by_cases h : n = 0
    · exact .inr h
    · exact .inl (Int.mul_le_mul_of_nonneg_right h1 (by omega))
  rcases h3 with h3 | h3
  · omega
  · subst h3; simp
theorem turn_bounds {c g k : Int} (hc : 100 ≤ c ∧ c ≤ 5000) (hg : 0 ≤ g ∧ g ≤ 50) (hk : 0 ≤ k ∧ k ≤ 500) : 100 ≤ turn c g k ∧ turn c g k ≤ 30000 ∧ 0 ≤ k * g ∧ k * g ≤ 25000 := by
  have h1 : 0 ≤ k * g := Int.mul_nonneg hk.1 hg.1
  have h2 : k * g ≤ 500 * 50 := Int.mul_le_mul hk.2 hg.2 hg.1 (by omega)
  unfold turn; omega
theorem full_bounds {c g n : Int} (hc : 100 ≤ c ∧ c ≤ 5000) (hg : 0 ≤ g ∧ g ≤ 50) (hn : 0 ≤ n ∧ n ≤ 500) :
    0 ≤ n * c ∧ n * c ≤ 2500000 ∧ 0 ≤ n * (n - 1) / 2 * g ∧ n * (n - 1) / 2 * g ≤ 6250000 ∧ 0 ≤ full c g n ∧ full c g n ≤ 8750000 := by
  obtain ⟨t0, t1⟩ := tri_bounds hn.1 hn.2
  have h1 : 0 ≤ n * c := Int.mul_nonneg hn.1 (by omega)
  have h2 : n * c ≤ 500 * 5000 := Int.mul_le_mul hn.2 hc.2 (by omega) (by omega)
  have h3 : 0 ≤ n * (n - 1) / 2 * g := Int.mul_nonneg (by omega) hg.1
  have h4 : n * (n - 1) / 2 * g ≤ 125000 * 50 := Int.mul_le_mul (by omega) hg.2 hg.1 (by omega)
  unfold full; omega
theorem turn_wrap {c g k : Int} (hc : 100 ≤ c ∧ c ≤ 5000) (hg : 0 ≤ g ∧ g ≤ 50) (hk : 0 ≤ k ∧ k ≤ 500) : wrap64 (c + wrap64 (k * g)) = turn c g k := by
  have := turn_bounds hc hg hk
  rw [w64 (x := k * g) (by omega)]
  exact w64 (by unfold turn at this; omega)
theorem full_wrap {c g n : Int} (hc : 100 ≤ c ∧ c ≤ 5000) (hg : 0 ≤ g ∧ g ≤ 50) (hn : 0 ≤ n ∧ n ≤ 500) :
    wrap64 ((wrap64 (n * c)) + (wrap64 ((wrap64 (Int.tdiv (wrap64 (n * (wrap64 (n - 1)))) 2)) * g))) = full c g n := by
  have h := full_bounds hc hg hn
  obtain ⟨t0, t1⟩ := tri_bounds hn.1 hn.2
  rw [w64 (x := n - 1) (by omega), w64 (x := n * (n - 1)) (by omega), Int.tdiv_eq_ediv_of_nonneg t0, w64 (x := n * (n - 1) / 2) (by omega), w64 (x := n * c) (by omega), w64 (x := n * (n - 1) / 2 * g) (by omega)]
  exact w64 (by unfold full at h; omega)
theorem tri_succ (n : Int) : (n + 1) * (n + 1 - 1) / 2 = n * (n - 1) / 2 + n := by
  have : (n + 1) * (n + 1 - 1) = n * (n - 1) + n * 2 := by
    rw [show n + 1 - 1 = n by omega, Int.mul_sub, Int.add_mul]; omega
  rw [this, Int.add_mul_ediv_right _ _ (by omega)]
theorem full_succ (c g n : Int) : full c g (n + 1) = full c g n + turn c g n := by
  unfold full turn
  rw [tri_succ, Int.add_mul, Int.add_mul]; omega
theorem wound_whole (c g n : Int) : wound c g (8 * n) = 8 * full c g n := by
  unfold wound
  rw [show 8 * n / 8 = n by omega, show 8 * n % 8 = 0 by omega]; simp
theorem wound_succ (c g e : Int) : wound c g (e + 1) = wound c g e + turn c g (e / 8) := by
  unfold wound
  by_cases h : e % 8 = 7
  · rw [show (e + 1) / 8 = e / 8 + 1 by omega, show (e + 1) % 8 = 0 by omega, full_succ, h]; omega
  · rw [show (e + 1) / 8 = e / 8 by omega, show (e + 1) % 8 = e % 8 + 1 by omega, Int.add_mul]; omega
theorem wound_lt {c g : Int} (hc : 100 ≤ c ∧ c ≤ 5000) (hg : 0 ≤ g ∧ g ≤ 50) {a : Int} (ha : 0 ≤ a) (d : Nat) : a + d ≤ 4000 → wound c g a + d ≤ wound c g (a + d) := by
  induction d with
  | zero => intro _; simp
  | succ d ih =>
    intro h
    have h1 := ih (by omega)
    have h2 := wound_succ c g (a + d)
    have h3 := turn_bounds hc hg (k := (a + d) / 8) (by omega)
    rw [show a + ((d + 1 : Nat) : Int) = a + d + 1 by omega, h2]; omega
theorem wound_mono {c g : Int} (hc : 100 ≤ c ∧ c ≤ 5000) (hg : 0 ≤ g ∧ g ≤ 50) {a b : Int} (ha : 0 ≤ a) (hab : a ≤ b) (hb : b ≤ 4000) : wound c g a ≤ wound c g b := by
  have := wound_lt hc hg ha (b - a).toNat (by omega)
  rw [show a + ((b - a).toNat : Int) = b by omega] at this; omega
theorem wound_strict {c g : Int} (hc : 100 ≤ c ∧ c ≤ 5000) (hg : 0 ≤ g ∧ g ≤ 50) {a b : Int} (ha : 0 ≤ a) (hab : a < b) (hb : b ≤ 4000) : wound c g a < wound c g b := by
  have := wound_lt hc hg ha (b - a).toNat (by omega)
  rw [show a + ((b - a).toNat : Int) = b by omega] at this; omega
theorem full_mono {c g : Int} (hc : 100 ≤ c ∧ c ≤ 5000) (hg : 0 ≤ g ∧ g ≤ 50) {a b : Int} (ha : 0 ≤ a) (hab : a ≤ b) (hb : b ≤ 500) : full c g a ≤ full c g b := by
  have := wound_mono hc hg (a := 8 * a) (b := 8 * b) (by omega) (by omega) (by omega)
  rw [wound_whole, wound_whole] at this; omega
theorem wound_bounds {c g e : Int} (hc : 100 ≤ c ∧ c ≤ 5000) (hg : 0 ≤ g ∧ g ≤ 50) (he : 0 ≤ e ∧ e ≤ 4000) : 0 ≤ wound c g e ∧ wound c g e ≤ 70000000 := by
  have h1 := wound_mono hc hg (a := 0) (b := e) (by omega) (by omega) (by omega)
  have h2 := wound_mono hc hg (a := e) (b := 8 * 500) (by omega) (by omega) (by omega)
  have h3 := full_bounds hc hg (n := 500) (by omega)
  rw [wound_whole] at h2
  have h0 : wound c g 0 = 0 := by have := wound_whole c g 0; unfold full at this; simpa using this
  omega

theorem spGood_eq (c g t : Int) : spec_spGood.f c g t = some (decide (Good c g t)) := by
  unfold spec_spGood.f
  simp only [in_eq, Option.bind_some, decide_eq_true_eq]
  repeat' split
  all_goals first
    | exact someF (by unfold Good; omega)
    | exact someD (by unfold Good; omega)

theorem isSpool_eq (c g t : Int) : impl_IsSpool.f c g t = some (decide (Good c g t)) := by
  unfold impl_IsSpool.f
  repeat' split
  all_goals first
    | exact someF (by unfold Good; omega)
    | exact someD (by unfold Good; omega)

theorem spFull_eq {c g t n : Int} (h : Good c g t) (hn : 0 ≤ n ∧ n ≤ 500) : spec_spFull.f c g t n = some (full c g n) := by
  unfold spec_spFull.f Good at *
  rw [full_wrap (by omega) (by omega) hn]

theorem ipFull_eq {c g t n : Int} (h : Good c g t) (hn : 0 ≤ n ∧ n ≤ 500) : impl_woundLength.f c g t n = some (full c g n) := by
  unfold impl_woundLength.f Good at *
  rw [full_wrap (by omega) (by omega) hn]

theorem spTurn_eq {c g t n : Int} (h : Good c g t) (hn : 0 ≤ n ∧ n ≤ 500) : spec_spTurn.f c g t n = some (turn c g n) := by
  unfold spec_spTurn.f Good at *
  rw [turn_wrap (by omega) (by omega) hn]

theorem wound_wrap {c g t e : Int} (h : Good c g t) (he : 0 ≤ e ∧ e ≤ 4000) : wrap64 ((wrap64 (8 * full c g (e / 8))) + (wrap64 ((Int.tmod e 8) * turn c g (e / 8)))) = wound c g e := by
  unfold Good at h
  have b1 := full_bounds (c := c) (g := g) (n := e / 8) (by omega) (by omega) (by omega)
  have b2 := turn_bounds (c := c) (g := g) (k := e / 8) (by omega) (by omega) (by omega)
  rw [Int.tmod_eq_emod_of_nonneg he.1]
  have b3 : 0 ≤ e % 8 * turn c g (e / 8) := Int.mul_nonneg (by omega) (by omega)
  have b4 : e % 8 * turn c g (e / 8) ≤ 7 * 30000 := Int.mul_le_mul (by omega) (by omega) (by omega) (by omega)
  rw [w64 (x := 8 * full c g (e / 8)) (by omega), w64 (x := e % 8 * turn c g (e / 8)) (by omega), w64 (by omega)]
  rfl
theorem eighth_wrap {e : Int} (he : 0 ≤ e ∧ e ≤ 4000) : wrap64 (Int.tdiv e 8) = e / 8 := by
  rw [Int.tdiv_eq_ediv_of_nonneg he.1]; exact w64 (by omega)

theorem spWound_eq {c g t e : Int} (h : Good c g t) (he : 0 ≤ e ∧ e ≤ 4000) : spec_spWound.f c g t e = some (wound c g e) := by
  unfold spec_spWound.f
  rw [eighth_wrap he, spFull_eq h (by omega), spTurn_eq h (by omega)]
  simp only [Option.bind_some]
  rw [wound_wrap h he]

/-- what 'the least number of eighths with at least y, up to 8 t, or -1' means -/
def IsFor (c g t y r : Int) : Prop := (r = -1 ∧ wound c g (8 * t) < y) ∨ (0 ≤ r ∧ r ≤ 8 * t ∧ y ≤ wound c g r ∧ ∀ e, 0 ≤ e → e < r → wound c g e < y)
theorem isFor_unique {c g t y r q : Int} (h : Good c g t) (hr : IsFor c g t y r) (hq : IsFor c g t y q) : r = q := by
  unfold Good at h
  rcases hr with ⟨r1, r2⟩ | ⟨r1, r2, r3, r4⟩ <;> rcases hq with ⟨q1, q2⟩ | ⟨q1, q2, q3, q4⟩
  · omega
  · have := wound_mono (c := c) (g := g) (a := q) (b := 8 * t) (by omega) (by omega) q1 q2 (by omega); omega
  · have := wound_mono (c := c) (g := g) (a := r) (b := 8 * t) (by omega) (by omega) r1 r2 (by omega); omega
  · by_cases h1 : r < q
    · have := q4 r r1 h1; omega
    · by_cases h2 : q < r
      · have := r4 q q1 h2; omega
      · omega
theorem spFor_loop {c g t y : Int} (h : Good c g t) (d : Nat) : ∀ (k : Nat) (i : Int), 0 ≤ i → i + d = 8 * t + 1 → d < k → (∀ e, 0 ≤ e → e < i → wound c g e < y) →
    ∃ r, spec_spFor.l0 k y i c g t = some r ∧ IsFor c g t y r := by
  have h' := h
  unfold Good at h'
  induction d with
  | zero =>
    intro k i hi hd hk hb
    obtain ⟨k, rfl⟩ : ∃ j, k = j + 1 := ⟨k - 1, by omega⟩
    refine ⟨-1, ?_, .inl ⟨rfl, hb _ (by omega) (by omega)⟩⟩
    rw [spec_spFor.l0, w64 (x := 8 * t) (by omega), if_neg (by omega)]
  | succ d ih =>
    intro k i hi hd hk hb
    obtain ⟨k, rfl⟩ : ∃ j, k = j + 1 := ⟨k - 1, by omega⟩
    rw [spec_spFor.l0, w64 (x := 8 * t) (by omega), if_pos (by omega), spWound_eq h (by omega), w64 (x := i + 1) (by omega)]
    simp only [Option.bind_some]
    by_cases hy : wound c g i ≥ y
    · rw [if_pos hy]
      exact ⟨i, rfl, .inr ⟨hi, by omega, hy, hb⟩⟩
    · rw [if_neg hy]
      refine ih k (i + 1) (by omega) (by omega) (by omega) (fun e e0 e1 => ?_)
      by_cases he : e = i
      · subst he; omega
      · exact hb e e0 (by omega)
theorem spFor_eq {c g t : Int} (h : Good c g t) (y : Int) (k : Nat) (hk : 5000 < k) : ∃ r, spec_spFor.f k c g t y = some r ∧ IsFor c g t y r := by
  unfold spec_spFor.f
  have h' := h
  unfold Good at h'
  exact spFor_loop h (8 * t + 1).toNat k 0 (by omega) (by omega) (by omega) (fun e e0 e1 => by omega)

theorem itFor_loop {c g t y r : Int} (h : Good c g t) (hf : IsFor c g t (8 * y) r) (d : Nat) : ∀ (k : Nat) (i : Int), 0 ≤ i → i + d = t + 1 → d < k → (r < 0 ∨ i ≤ (r + 7) / 8) →
    impl_TurnsFor.l0 k y i c g t = some (if r < 0 then (0, false) else ((r + 7) / 8, true)) := by
  have h' := h
  unfold Good at h'
  induction d with
  | zero =>
    intro k i hi hd hk hb
    obtain ⟨k, rfl⟩ : ∃ j, k = j + 1 := ⟨k - 1, by omega⟩
    rw [impl_TurnsFor.l0, if_neg (by omega)]
    rcases hf with ⟨hf, _⟩ | ⟨hf, hf', _⟩
    · rw [if_pos (by omega)]
    · omega
  | succ d ih =>
    intro k i hi hd hk hb
    obtain ⟨k, rfl⟩ : ∃ j, k = j + 1 := ⟨k - 1, by omega⟩
    rw [impl_TurnsFor.l0, if_pos (by omega), ipFull_eq h (by omega), w64 (x := i + 1) (by omega)]
    simp only [Option.bind_some]
    have hw := wound_whole c g i
    rcases hf with ⟨f1, f2⟩ | ⟨f1, f2, f3, f4⟩
    · have := wound_mono (c := c) (g := g) (a := 8 * i) (b := 8 * t) (by omega) (by omega) (by omega) (by omega) (by omega)
      rw [if_neg (by omega)]
      exact ih k (i + 1) (by omega) (by omega) (by omega) (by omega)
    · by_cases he : i = (r + 7) / 8
      · have := wound_mono (c := c) (g := g) (a := r) (b := 8 * i) (by omega) (by omega) (by omega) (by omega) (by omega)
        rw [if_pos (by omega), if_neg (by omega), he]
      · have := f4 (8 * i) (by omega) (by omega)
        rw [if_neg (by omega)]
        exact ih k (i + 1) (by omega) (by omega) (by omega) (by omega)
theorem itFor_eq {c g t y r : Int} (h : Good c g t) (hf : IsFor c g t (8 * y) r) (k : Nat) (hk : 1000 < k) :
    impl_TurnsFor.l0 k y 0 c g t = some (if r < 0 then (0, false) else ((r + 7) / 8, true)) := by
  have h' := h
  unfold Good at h'
  refine itFor_loop h hf (t + 1).toNat k 0 (by omega) (by omega) (by omega) ?_
  unfold IsFor at hf; omega

theorem FnExactTurnsFor (c g t y : Int) (_ : (Lit.int .i64 c).wf = true) (_ : (Lit.int .i64 g).wf = true) (_ : (Lit.int .i64 t).wf = true)
    (_ : (Lit.int .i64 y).wf = true) : ∃ k, laws_FnExactTurnsFor.f k c g t y = some true := by
  refine ⟨5002, ?_⟩
  unfold laws_FnExactTurnsFor.f laws_toSpool.f spec_TurnsFor.f impl_TurnsFor.f spec_spLength.f impl_isLength.f
  simp only [Option.bind_some, spGood_eq, isSpool_eq, in_eq, spec_TurnsFor.j0, impl_TurnsFor.j0]
  by_cases h : Good c g t
  · by_cases h0 : 0 ≤ y
    · by_cases h1 : y ≤ 100000000
      · obtain ⟨r, hr, fr⟩ := spFor_eq h (8 * y) 5001 (by omega)
        have hq := itFor_eq h fr 5001 (by omega)
        have hw : wrap64 (8 * y) = 8 * y := w64 (by omega)
        have hb : r ≤ 4000 := by unfold Good at h; unfold IsFor at fr; omega
        by_cases hn : r < 0
        · simp [h, h0, h1, hw, hr, hq, hn]
        · have hv : wrap64 (Int.tdiv (wrap64 (r + 7)) 8) = (r + 7) / 8 := by
            rw [w64 (x := r + 7) (by omega), Int.tdiv_eq_ediv_of_nonneg (by omega)]; exact w64 (by omega)
          simp [h, h0, h1, hw, hr, hq, hn, hv]
      · simp [h, h0, h1]
    · simp [h, h0]
  · simp [h]
end Go.Proofs.Ytnjmoldagecniaa.Pure
