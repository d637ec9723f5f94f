/- FnExactLeastCore: the program's LeastCore answers as the reference's, for all numbers of kind int. No condition. -/
import Derived.Test.YtnjmoldagecniaaPFnExactLeastCorex1
namespace Go.Proofs.Ytnjmoldagecniaa.Pure
open Go.RowKit Go.Proofs.Ytnjmoldagecniaa.PFnExactLeastCore Go.Proofs.YtnjmoldagecniaaW.PrintWords Go.Proofs.YtnjmoldagecniaaW.PrintLast

set_option linter.unusedVariables false
set_option linter.unusedSimpArgs false

theorem w64 {x : Int} (h : -9223372036854775808 ≤ x ∧ x ≤ 9223372036854775807) : wrap64 x = x := by
  unfold wrap64; omega
theorem someF {p : Prop} [Decidable p] (h : ¬ p) : some false = some (decide p) := by rw [decide_eq_false h]
theorem someD {q p : Prop} [Decidable q] [Decidable p] (h : q ↔ p) : some (decide q) = some (decide p) := by rw [decide_eq_decide.2 h]

theorem in_eq (a b c : Int) : spec_l1In.f a b c = some (decide (b ≤ a ∧ a ≤ c)) := by
  unfold spec_l1In.f
  by_cases h : a ≥ b
  · rw [if_pos h]; congr 1; simp [show b ≤ a from h]
  · rw [if_neg h]; congr 1; simp; omega

def Good (c g t : Int) : Prop := 100 ≤ c ∧ c ≤ 5000 ∧ 0 ≤ g ∧ g ≤ 50 ∧ 1 ≤ t ∧ t ≤ 500
instance (c g t : Int) : Decidable (Good c g t) := by unfold Good; infer_instance
def turn (c g k : Int) : Int := c + k * g
def full (c g n : Int) : Int := n * c + n * (n - 1) / 2 * g
def wound (c g e : Int) : Int := 8 * full c g (e / 8) + e % 8 * turn c g (e / 8)

theorem tri_bounds {n : Int} (h0 : 0 ≤ n) (h1 : n ≤ 500) : 0 ≤ n * (n - 1) ∧ n * (n - 1) ≤ 250000 := by
  have h2 : 0 ≤ n * (n - 1) := by
    by_cases h : n = 0
    · subst h; simp
    · exact Int.mul_nonneg h0 (by omega)
  have h3 : n * (n - 1) ≤ 500 * (n - 1) ∨ n = 0 := by
    by_cases h : n = 0
    · exact .inr h
    · exact .inl (Int.mul_le_mul_of_nonneg_right h1 (by omega))
  rcases h3 with h3 | h3
  · omega
  · subst h3; simp
theorem turn_bounds {c g k : Int} (hc : 100 ≤ c ∧ c ≤ 5000) (hg : 0 ≤ g ∧ g ≤ 50) (hk : 0 ≤ k ∧ k ≤ 500) : 100 ≤ turn c g k ∧ turn c g k ≤ 30000 ∧ 0 ≤ k * g ∧ k * g ≤ 25000 := by
  have h1 : 0 ≤ k * g := Int.mul_nonneg hk.1 hg.1
  have h2 : k * g ≤ 500 * 50 := Int.mul_le_mul hk.2 hg.2 hg.1 (by omega)
  unfold turn; omega
theorem full_bounds {c g n : Int} (hc : 100 ≤ c ∧ c ≤ 5000) (hg : 0 ≤ g ∧ g ≤ 50) (hn : 0 ≤ n ∧ n ≤ 500) :
    0 ≤ n * c ∧ n * c ≤ 2500000 ∧ 0 ≤ n * (n - 1) / 2 * g ∧ n * (n - 1) / 2 * g ≤ 6250000 ∧ 0 ≤ full c g n ∧ full c g n ≤ 8750000 := by
  obtain ⟨t0, t1⟩ := tri_bounds hn.1 hn.2
  have h1 : 0 ≤ n * c := Int.mul_nonneg hn.1 (by omega)
  have h2 : n * c ≤ 500 * 5000 := Int.mul_le_mul hn.2 hc.2 (by omega) (by omega)
  have h3 : 0 ≤ n * (n - 1) / 2 * g := Int.mul_nonneg (by omega) hg.1
  have h4 : n * (n - 1) / 2 * g ≤ 125000 * 50 := Int.mul_le_mul (by omega) hg.2 hg.1 (by omega)
  unfold full; omega
theorem turn_wrap {c g k : Int} (hc : 100 ≤ c ∧ c ≤ 5000) (hg : 0 ≤ g ∧ g ≤ 50) (hk : 0 ≤ k ∧ k ≤ 500) : wrap64 (c + wrap64 (k * g)) = turn c g k := by
  have := turn_bounds hc hg hk
  rw [w64 (x := k * g) (by omega)]
  exact w64 (by unfold turn at this; omega)
theorem full_wrap {c g n : Int} (hc : 100 ≤ c ∧ c ≤ 5000) (hg : 0 ≤ g ∧ g ≤ 50) (hn : 0 ≤ n ∧ n ≤ 500) :
    wrap64 ((wrap64 (n * c)) + (wrap64 ((wrap64 (Int.tdiv (wrap64 (n * (wrap64 (n - 1)))) 2)) * g))) = full c g n := by
  have h := full_bounds hc hg hn
  obtain ⟨t0, t1⟩ := tri_bounds hn.1 hn.2
  rw [w64 (x := n - 1) (by omega), w64 (x := n * (n - 1)) (by omega), Int.tdiv_eq_ediv_of_nonneg t0, w64 (x := n * (n - 1) / 2) (by omega), w64 (x := n * c) (by omega), w64 (x := n * (n - 1) / 2 * g) (by omega)]
  exact w64 (by unfold full at h; omega)
theorem tri_succ (n : Int) : (n + 1) * (n + 1 - 1) / 2 = n * (n - 1) / 2 + n := by
  have : (n + 1) * (n + 1 - 1) = n * (n - 1) + n * 2 := by
    rw [show n + 1 - 1 = n by omega, Int.mul_sub, Int.add_mul]; omega
  rw [this, Int.add_mul_ediv_right _ _ (by omega)]
theorem full_succ (c g n : Int) : full c g (n + 1) = full c g n + turn c g n := by
  unfold full turn
  rw [tri_succ, Int.add_mul, Int.add_mul]; omega
theorem wound_whole (c g n : Int) : wound c g (8 * n) = 8 * full c g n := by
  unfold wound
  rw [show 8 * n / 8 = n by omega, show 8 * n % 8 = 0 by omega]; simp
theorem wound_succ (c g e : Int) : wound c g (e + 1) = wound c g e + turn c g (e / 8) := by
  unfold wound
  by_cases h : e % 8 = 7
  · rw [show (e + 1) / 8 = e / 8 + 1 by omega, show (e + 1) % 8 = 0 by omega, full_succ, h]; omega
  · rw [show (e + 1) / 8 = e / 8 by omega, show (e + 1) % 8 = e % 8 + 1 by omega, Int.add_mul]; omega
theorem wound_lt {c g : Int} (hc : 100 ≤ c ∧ c ≤ 5000) (hg : 0 ≤ g ∧ g ≤ 50) {a : Int} (ha : 0 ≤ a) (d : Nat) : a + d ≤ 4000 → wound c g a + d ≤ wound c g (a + d) := by
  induction d with
  | zero => intro _; simp
  | succ d ih =>
    intro h
    have h1 := ih (by omega)
    have h2 := wound_succ c g (a + d)
    have h3 := turn_bounds hc hg (k := (a + d) / 8) (by omega)
    rw [show a + ((d + 1 : Nat) : Int) = a + d + 1 by omega, h2]; omega
theorem wound_mono {c g : Int} (hc : 100 ≤ c ∧ c ≤ 5000) (hg : 0 ≤ g ∧ g ≤ 50) {a b : Int} (ha : 0 ≤ a) (hab : a ≤ b) (hb : b ≤ 4000) : wound c g a ≤ wound c g b := by
  have := wound_lt hc hg ha (b - a).toNat (by omega)
  rw [show a + ((b - a).toNat : Int) = b by omega] at this; omega
theorem wound_strict {c g : Int} (hc : 100 ≤ c ∧ c ≤ 5000) (hg : 0 ≤ g ∧ g ≤ 50) {a b : Int} (ha : 0 ≤ a) (hab : a < b) (hb : b ≤ 4000) : wound c g a < wound c g b := by
  have := wound_lt hc hg ha (b - a).toNat (by omega)
  rw [show a + ((b - a).toNat : Int) = b by omega] at this; omega
theorem full_mono {c g : Int} (hc : 100 ≤ c ∧ c ≤ 5000) (hg : 0 ≤ g ∧ g ≤ 50) {a b : Int} (ha : 0 ≤ a) (hab : a ≤ b) (hb : b ≤ 500) : full c g a ≤ full c g b := by
  have := wound_mono hc hg (a := 8 * a) (b := 8 * b) (by omega) (by omega) (by omega)
  rw [wound_whole, wound_whole] at this; omega
theorem wound_bounds {c g e : Int} (hc : 100 ≤ c ∧ c ≤ 5000) (hg : 0 ≤ g ∧ g ≤ 50) (he : 0 ≤ e ∧ e ≤ 4000) : 0 ≤ wound c g e ∧ wound c g e ≤ 70000000 := by
  have h1 := wound_mono hc hg (a := 0) (b := e) (by omega) (by omega) (by omega)
  have h2 := wound_mono hc hg (a := e) (b := 8 * 500) (by omega) (by omega) (by omega)
  have h3 := full_bounds hc hg (n := 500) (by omega)
  rw [wound_whole] at h2
  have h0 : wound c g 0 = 0 := by have := wound_whole c g 0; unfold full at this; simpa using this
  omega

theorem isSpool_eq (c g t : Int) : impl_IsSpool.f c g t = some (decide (Good c g t)) := by
  unfold impl_IsSpool.f
  repeat' split
  all_goals first
    | exact someF (by unfold Good; omega)
    | exact someD (by unfold Good; omega)

theorem ipFull_eq {c g t n : Int} (h : Good c g t) (hn : 0 ≤ n ∧ n ≤ 500) : impl_woundLength.f c g t n = some (full c g n) := by
  unfold impl_woundLength.f Good at *
  rw [full_wrap (by omega) (by omega) hn]

def rest (g t y : Int) : Int := y - t * (t - 1) / 2 * g
def least (g t y : Int) : Int := if 100 ≥ (rest g t y + t - 1) / t then 100 else (rest g t y + t - 1) / t
theorem least_suffices {g t y c : Int} (h : Good 100 g t) (hc : 100 ≤ c) : y ≤ full c g t ↔ least g t y ≤ c := by
  unfold Good at h
  unfold full least rest
  have e : (y - t * (t - 1) / 2 * g + t - 1) / t ≤ c ↔ y - t * (t - 1) / 2 * g ≤ t * c := by
    rw [← Int.lt_add_one_iff, Int.ediv_lt_iff_lt_mul (by omega), Int.add_mul, Int.mul_comm c t]; omega
  split <;> omega
theorem spLeast_eq {g t y : Int} (h : Good 100 g t) (hy : 0 ≤ y ∧ y ≤ 100000000) (k : Nat) (hk : 0 < k) :
    spec_LeastCore.f k g t y = some (if least g t y > 5000 then (0, false) else (least g t y, true)) := by
  obtain ⟨k, rfl⟩ : ∃ j, k = j + 1 := ⟨k - 1, by omega⟩
  have h' := h
  unfold Good at h'
  have fb := full_bounds (c := 100) (g := g) (n := t) (by omega) (by omega) (by omega)
  obtain ⟨t0, t1⟩ := tri_bounds (n := t) (by omega) (by omega)
  have e1 : wrap64 (wrap64 (wrap64 (y - wrap64 (wrap64 (Int.tdiv (wrap64 (t * wrap64 (t - 1))) 2) * g)) + t) - 1) = rest g t y + t - 1 := by
    rw [w64 (x := t - 1) (by omega), w64 (x := t * (t - 1)) (by omega), Int.tdiv_eq_ediv_of_nonneg t0, w64 (x := t * (t - 1) / 2) (by omega), w64 (x := t * (t - 1) / 2 * g) (by omega), w64 (x := y - t * (t - 1) / 2 * g) (by omega)]
    unfold rest
    rw [w64 (x := y - t * (t - 1) / 2 * g + t) (by omega), w64 (by omega)]
  have e2 : spec_l1Most.f 100 (wrap64 (Int.tdiv (rest g t y + t - 1) t)) = some (least g t y) := by
    unfold spec_l1Most.f least
    have r0 : -10000000 ≤ rest g t y ∧ rest g t y ≤ 100000000 := by unfold rest; omega
    by_cases hn : 0 ≤ rest g t y + t - 1
    · have d0 := Int.ediv_nonneg hn (show 0 ≤ t by omega)
      have d1 := Int.ediv_le_self t hn
      rw [Int.tdiv_eq_ediv_of_nonneg hn, w64 (by omega)]
      split
      · rw [if_pos (by omega)]
      · by_cases he : (rest g t y + t - 1) / t = 100
        · rw [he, if_pos (by omega)]
        · rw [if_neg (by omega)]
    · have d0 : Int.tdiv (rest g t y + t - 1) t ≤ 0 := by
        have := Int.tdiv_nonneg (a := -(rest g t y + t - 1)) (b := t) (by omega) (by omega)
        rw [Int.neg_tdiv] at this; omega
      have d1 : -100000000 ≤ Int.tdiv (rest g t y + t - 1) t := by
        have := Int.tdiv_le_self (a := -(rest g t y + t - 1)) t (by omega)
        rw [Int.neg_tdiv] at this; omega
      have d2 : (rest g t y + t - 1) / t < 0 := Int.ediv_neg_of_neg_of_pos (by omega) (by omega)
      rw [w64 (by omega), if_pos (by omega), if_pos (by omega)]
  unfold spec_LeastCore.f spec_spLength.f
  simp only [in_eq, Option.bind_some, spec_LeastCore.j0, e1, e2, decide_eq_true_eq]
  rw [if_pos (by omega), if_pos (by omega), if_neg (by simp; omega), if_neg (by omega)]
  split <;> rfl
theorem ipLeast_loop {g t y : Int} (h : Good 100 g t) (hy : 0 ≤ y ∧ y ≤ 100000000) (d : Nat) : ∀ (k : Nat) (c : Int), 100 ≤ c → c + d = 5001 → d < k → c ≤ least g t y →
    impl_LeastCore.l0 k t y c g t = some (if least g t y > 5000 then (0, false) else (least g t y, true)) := by
  have h' := h
  unfold Good at h'
  induction d with
  | zero =>
    intro k c hc hd hk hl
    obtain ⟨k, rfl⟩ : ∃ j, k = j + 1 := ⟨k - 1, by omega⟩
    rw [impl_LeastCore.l0, if_neg (by omega), if_pos (by omega)]
  | succ d ih =>
    intro k c hc hd hk hl
    obtain ⟨k, rfl⟩ : ∃ j, k = j + 1 := ⟨k - 1, by omega⟩
    have hg : Good c g t := by unfold Good; omega
    have hs := least_suffices (y := y) h hc
    rw [impl_LeastCore.l0, if_pos (by omega), ipFull_eq hg (by omega), w64 (x := c + 1) (by omega)]
    simp only [Option.bind_some]
    by_cases he : least g t y = c
    · rw [if_pos (by omega), if_neg (by omega), he]
    · rw [if_neg (by omega)]
      exact ih k (c + 1) (by omega) (by omega) (by omega) (by omega)
theorem ipLeast_eq {g t y : Int} (h : Good 100 g t) (hy : 0 ≤ y ∧ y ≤ 100000000) (k : Nat) (hk : 5001 < k) :
    impl_LeastCore.f k g t y = some (if least g t y > 5000 then (0, false) else (least g t y, true)) := by
  obtain ⟨k, rfl⟩ : ∃ j, k = j + 1 := ⟨k - 1, by omega⟩
  unfold impl_LeastCore.f impl_isLength.f
  rw [isSpool_eq, if_pos (by omega)]
  simp only [Option.bind_some, impl_LeastCore.j0, decide_eq_true_eq]
  rw [if_pos h, if_neg (by simp; omega)]
  refine ipLeast_loop h hy 4901 k 100 (by omega) (by omega) (by omega) ?_
  unfold least; split <;> omega
theorem least_bad {g t y : Int} (h : ¬ (Good 100 g t ∧ 0 ≤ y ∧ y ≤ 100000000)) (k : Nat) (hk : 0 < k) :
    spec_LeastCore.f k g t y = some (0, false) ∧ impl_LeastCore.f k g t y = some (0, false) := by
  obtain ⟨k, rfl⟩ : ∃ j, k = j + 1 := ⟨k - 1, by omega⟩
  constructor
  · unfold spec_LeastCore.f spec_spLength.f
    unfold Good at h
    simp only [in_eq, Option.bind_some, spec_LeastCore.j0, decide_eq_true_eq]
    split
    · split
      · rw [if_pos (by simp; omega)]
      · rw [if_pos trivial]
    · rw [if_pos trivial]
  · unfold impl_LeastCore.f impl_isLength.f
    rw [isSpool_eq]
    simp only [Option.bind_some, impl_LeastCore.j0, decide_eq_true_eq]
    split
    · rename_i hg
      have hy : ¬ (0 ≤ y ∧ y ≤ 100000000) := fun hh => h ⟨hg, hh⟩
      split
      · simp only [Option.bind_some]
        rw [if_pos (by simp; omega)]
      · simp only [Option.bind_some]
        rw [if_pos (by simp)]
    · rw [if_pos trivial]

theorem FnExactLeastCore : laws_FnExactLeastCore.Pure := by
  intro g t y _ _ _
  refine ⟨5002, ?_⟩
  unfold laws_FnExactLeastCore.f
  by_cases h : Good 100 g t
  · by_cases hy : 0 ≤ y ∧ y ≤ 100000000
    · rw [spLeast_eq h hy 5002 (by omega), ipLeast_eq h hy 5002 (by omega)]; simp
    · obtain ⟨e1, e2⟩ := least_bad (g := g) (t := t) (y := y) (fun h => hy h.2) 5002 (by omega)
      rw [e1, e2]; simp
  · obtain ⟨e1, e2⟩ := least_bad (g := g) (t := t) (y := y) (fun h' => h h'.1) 5002 (by omega)
    rw [e1, e2]; simp
end Go.Proofs.Ytnjmoldagecniaa.Pure
