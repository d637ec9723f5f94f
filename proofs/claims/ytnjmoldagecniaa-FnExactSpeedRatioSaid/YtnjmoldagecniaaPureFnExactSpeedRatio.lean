/- FnExactSpeedRatio: the program's SpeedRatio answers as the reference's, for all spools and numbers. No condition. -/
import Derived.Test.YtnjmoldagecniaaPFnExactSpeedRatiox2
namespace Go.Proofs.Ytnjmoldagecniaa.Pure
open Go.RowKit Go.Proofs.Ytnjmoldagecniaa.PFnExactSpeedRatio Go.Proofs.YtnjmoldagecniaaW.PrintWords Go.Proofs.YtnjmoldagecniaaW.PrintLast

theorem w64 {x : Int} (h : -9223372036854775808 ≤ x ∧ x ≤ 9223372036854775807) : wrap64 x = x := by
  unfold wrap64; omega
theorem someF {p : Prop} [Decidable p] (h : ¬ p) : some false = some (decide p) := by rw [decide_eq_false h]
theorem someD {q p : Prop} [Decidable q] [Decidable p] (h : q ↔ p) : some (decide q) = some (decide p) := by rw [decide_eq_decide.2 h]

theorem in_eq (a b c : Int) : spec_l1In.f a b c = some (decide (b ≤ a ∧ a ≤ c)) := by
  unfold spec_l1In.f
  by_cases h : a ≥ b
  · rw [if_pos h]; congr 1; simp [show b ≤ a from h]
  · rw [if_neg h]; congr 1; simp; omega

def Good (c g t : Int) : Prop := 100 ≤ c ∧ c ≤ 5000 ∧ 0 ≤ g ∧ g ≤ 50 ∧ 1 ≤ t ∧ t ≤ 500
instance (c g t : Int) : Decidable (Good c g t) := by unfold Good; infer_instance
def turn (c g k : Int) : Int := c + k * g
def full (c g n : Int) : Int := n * c + n * (n - 1) / 2 * g
def wound (c g e : Int) : Int := 8 * full c g (e / 8) + e % 8 * turn c g (e / 8)

theorem tri_bounds {n : Int} (h0 : 0 ≤ n) (h1 : n ≤ 500) : 0 ≤ n * (n - 1) ∧ n * (n - 1) ≤ 250000 := by
  have h2 : 0 ≤ n * (n - 1) := by
    by_cases h : n = 0
    · subst h; simp
    · exact Int.mul_nonneg h0 (by omega)
  have h3 : n * (n - 1) ≤ 500 * (n - 1) ∨ n = 0 := by
    by_cases h : n = 0
    · exact .inr h
    · exact .inl (Int.mul_le_mul_of_nonneg_right h1 (by omega))
  rcases h3 with h3 | h3
  · omega
  · subst h3; simp
theorem turn_bounds {c g k : Int} (hc : 100 ≤ c ∧ c ≤ 5000) (hg : 0 ≤ g ∧ g ≤ 50) (hk : 0 ≤ k ∧ k ≤ 500) : 100 ≤ turn c g k ∧ turn c g k ≤ 30000 ∧ 0 ≤ k * g ∧ k * g ≤ 25000 := by
  have h1 : 0 ≤ k * g := Int.mul_nonneg hk.1 hg.1
  have h2 : k * g ≤ 500 * 50 := Int.mul_le_mul hk.2 hg.2 hg.1 (by omega)
  unfold turn; omega
theorem full_bounds {c g n : Int} (hc : 100 ≤ c ∧ c ≤ 5000) (hg : 0 ≤ g ∧ g ≤ 50) (hn : 0 ≤ n ∧ n ≤ 500) :
    0 ≤ n * c ∧ n * c ≤ 2500000 ∧ 0 ≤ n * (n - 1) / 2 * g ∧ n * (n - 1) / 2 * g ≤ 6250000 ∧ 0 ≤ full c g n ∧ full c g n ≤ 8750000 := by
  obtain ⟨t0, t1⟩ := tri_bounds hn.1 hn.2
  have h1 : 0 ≤ n * c := Int.mul_nonneg hn.1 (by omega)
  have h2 : n * c ≤ 500 * 5000 := Int.mul_le_mul hn.2 hc.2 (by omega) (by omega)
  have h3 : 0 ≤ n * (n - 1) / 2 * g := Int.mul_nonneg (by omega) hg.1
  have h4 : n * (n - 1) / 2 * g ≤ 125000 * 50 := Int.mul_le_mul (by omega) hg.2 hg.1 (by omega)
  unfold full; omega
theorem turn_wrap {c g k : Int} (hc : 100 ≤ c ∧ c ≤ 5000) (hg : 0 ≤ g ∧ g ≤ 50) (hk : 0 ≤ k ∧ k ≤ 500) : wrap64 (c + wrap64 (k * g)) = turn c g k := by
  have := turn_bounds hc hg hk
  rw [w64 (x := k * g) (by omega)]
  exact w64 (by unfold turn at this; omega)
theorem full_wrap {c g n : Int} (hc : 100 ≤ c ∧ c ≤ 5000) (hg : 0 ≤ g ∧ g ≤ 50) (hn : 0 ≤ n ∧ n ≤ 500) :
    wrap64 ((wrap64 (n * c)) + (wrap64 ((wrap64 (Int.tdiv (wrap64 (n * (wrap64 (n - 1)))) 2)) * g))) = full c g n := by
  have h := full_bounds hc hg hn
  obtain ⟨t0, t1⟩ := tri_bounds hn.1 hn.2
  rw [w64 (x := n - 1) (by omega), w64 (x := n * (n - 1)) (by omega), Int.tdiv_eq_ediv_of_nonneg t0, w64 (x := n * (n - 1) / 2) (by omega), w64 (x := n * c) (by omega), w64 (x := n * (n - 1) / 2 * g) (by omega)]
  exact w64 (by unfold full at h; omega)
theorem tri_succ (n : Int) : (n + 1) * (n + 1 - 1) / 2 = n * (n - 1) / 2 + n := by
  have : (n + 1) * (n + 1 - 1) = n * (n - 1) + n * 2 := by
    rw [show n + 1 - 1 = n by omega, Int.mul_sub, Int.add_mul]; omega
  rw [this, Int.add_mul_ediv_right _ _ (by omega)]
theorem full_succ (c g n : Int) : full c g (n + 1) = full c g n + turn c g n := by
  unfold full turn
  rw [tri_succ, Int.add_mul, Int.add_mul]; omega
theorem wound_whole (c g n : Int) : wound c g (8 * n) = 8 * full c g n := by
  unfold wound
  rw [show 8 * n / 8 = n by omega, show 8 * n % 8 = 0 by omega]; simp
theorem wound_succ (c g e : Int) : wound c g (e + 1) = wound c g e + turn c g (e / 8) := by
  unfold wound
  by_cases h : e % 8 = 7
  · rw [show (e + 1) / 8 = e / 8 + 1 by omega, show (e + 1) % 8 = 0 by omega, full_succ, h]; omega
  · rw [show (e + 1) / 8 = e / 8 by omega, show (e + 1) % 8 = e % 8 + 1 by omega, Int.add_mul]; omega
theorem wound_lt {c g : Int} (hc : 100 ≤ c ∧ c ≤ 5000) (hg : 0 ≤ g ∧ g ≤ 50) {a : Int} (ha : 0 ≤ a) (d : Nat) : a + d ≤ 4000 → wound c g a + d ≤ wound c g (a + d) := by
  induction d with
  | zero => intro _; simp
  | succ d ih =>
    intro h
    have h1 := ih (by omega)
    have h2 := wound_succ c g (a + d)
    have h3 := turn_bounds hc hg (k := (a + d) / 8) (by omega)
    rw [show a + ((d + 1 : Nat) : Int) = a + d + 1 by omega, h2]; omega
theorem wound_mono {c g : Int} (hc : 100 ≤ c ∧ c ≤ 5000) (hg : 0 ≤ g ∧ g ≤ 50) {a b : Int} (ha : 0 ≤ a) (hab : a ≤ b) (hb : b ≤ 4000) : wound c g a ≤ wound c g b := by
  have := wound_lt hc hg ha (b - a).toNat (by omega)
  rw [show a + ((b - a).toNat : Int) = b by omega] at this; omega
theorem wound_strict {c g : Int} (hc : 100 ≤ c ∧ c ≤ 5000) (hg : 0 ≤ g ∧ g ≤ 50) {a b : Int} (ha : 0 ≤ a) (hab : a < b) (hb : b ≤ 4000) : wound c g a < wound c g b := by
  have := wound_lt hc hg ha (b - a).toNat (by omega)
  rw [show a + ((b - a).toNat : Int) = b by omega] at this; omega
theorem full_mono {c g : Int} (hc : 100 ≤ c ∧ c ≤ 5000) (hg : 0 ≤ g ∧ g ≤ 50) {a b : Int} (ha : 0 ≤ a) (hab : a ≤ b) (hb : b ≤ 500) : full c g a ≤ full c g b := by
  have := wound_mono hc hg (a := 8 * a) (b := 8 * b) (by omega) (by omega) (by omega)
  rw [wound_whole, wound_whole] at this; omega
theorem wound_bounds {c g e : Int} (hc : 100 ≤ c ∧ c ≤ 5000) (hg : 0 ≤ g ∧ g ≤ 50) (he : 0 ≤ e ∧ e ≤ 4000) : 0 ≤ wound c g e ∧ wound c g e ≤ 70000000 := by
  have h1 := wound_mono hc hg (a := 0) (b := e) (by omega) (by omega) (by omega)
  have h2 := wound_mono hc hg (a := e) (b := 8 * 500) (by omega) (by omega) (by omega)
  have h3 := full_bounds hc hg (n := 500) (by omega)
  rw [wound_whole] at h2
  have h0 : wound c g 0 = 0 := by have := wound_whole c g 0; unfold full at this; simpa using this
  omega

theorem spGood_eq (c g t : Int) : spec_spGood.f c g t = some (decide (Good c g t)) := by
  unfold spec_spGood.f
  simp only [in_eq, Option.bind_some, decide_eq_true_eq]
  repeat' split
  all_goals first
    | exact someF (by unfold Good; omega)
    | exact someD (by unfold Good; omega)

theorem isSpool_eq (c g t : Int) : impl_IsSpool.f c g t = some (decide (Good c g t)) := by
  unfold impl_IsSpool.f
  repeat' split
  all_goals first
    | exact someF (by unfold Good; omega)
    | exact someD (by unfold Good; omega)

theorem spTurn_eq {c g t n : Int} (h : Good c g t) (hn : 0 ≤ n ∧ n ≤ 500) : spec_spTurn.f c g t n = some (turn c g n) := by
  unfold spec_spTurn.f Good at *
  rw [turn_wrap (by omega) (by omega) hn]

theorem ipTurn_eq {c g t n : Int} (h : Good c g t) (hn : 0 ≤ n ∧ n ≤ 500) : impl_turnLength.f c g t n = some (turn c g n) := by
  unfold impl_turnLength.f Good at *
  rw [turn_wrap (by omega) (by omega) hn]

theorem gcd_loop (x y : Int) (d : Nat) : ∀ (a b : Int), 0 ≤ a → a ≤ 30000 → 0 ≤ b → b ≤ d → b ≤ 30000 → (0 < a ∨ 0 < b) → ∃ r, 0 < r ∧ (∀ k, d < k → spec_tePart.l0 k x y a b = some (wrap64 (Int.tdiv x r), wrap64 (Int.tdiv y r)) ∧ impl_gcd.l0 k a b = some r) ∧ r ∣ a ∧ r ∣ b := by
  induction d with
  | zero =>
    intro a b ha ha' hb hd hb' h
    have e : b = 0 := by omega
    subst e
    refine ⟨a, by omega, fun k hk => ?_, Int.dvd_refl a, Int.dvd_zero a⟩
    obtain ⟨k, rfl⟩ : ∃ j, k = j + 1 := ⟨k - 1, by omega⟩
    exact ⟨by rw [spec_tePart.l0, if_neg (by omega), if_neg (by omega)], by rw [impl_gcd.l0, if_pos rfl]⟩
  | succ d ih =>
    intro a b ha ha' hb hd hb' h
    by_cases e : b = 0
    · subst e
      refine ⟨a, by omega, fun k hk => ?_, Int.dvd_refl a, Int.dvd_zero a⟩
      obtain ⟨k, rfl⟩ : ∃ j, k = j + 1 := ⟨k - 1, by omega⟩
      exact ⟨by rw [spec_tePart.l0, if_neg (by omega), if_neg (by omega)], by rw [impl_gcd.l0, if_pos rfl]⟩
    · have hm : Int.tmod a b = a % b := Int.tmod_eq_emod_of_nonneg ha
      have m0 := Int.emod_nonneg a e
      have m1 := Int.emod_lt_of_pos a (show 0 < b by omega)
      obtain ⟨r, hr, hk', d1, d2⟩ := ih b (a % b) hb hb' m0 (by omega) (by omega) (by omega)
      refine ⟨r, hr, fun k hk => ?_, ?_, d1⟩
      · obtain ⟨k, rfl⟩ : ∃ j, k = j + 1 := ⟨k - 1, by omega⟩
        obtain ⟨h1, h2⟩ := hk' k (by omega)
        exact ⟨by rw [spec_tePart.l0, if_pos (by omega), if_neg e, hm]; exact h1, by rw [impl_gcd.l0, if_neg e, hm]; exact h2⟩
      · have := Int.mul_ediv_add_emod a b
        rw [← this]
        exact Int.dvd_add (Int.dvd_trans d1 (Int.dvd_mul_right b _)) d2
theorem part_same {a b : Int} (ha : 0 < a ∧ a ≤ 30000) (hb : 0 < b ∧ b ≤ 30000) : ∃ p q, 0 < q ∧ q ≤ b ∧ p * b = a * q ∧ (∀ k, 40000 < k → spec_tePart.f k a b = some (p, q)) ∧ (∀ k, 40000 < k → impl_lowest.f k a b = some (p, q)) := by
  obtain ⟨r, hr, hk, d1, d2⟩ := gcd_loop a b 30000 a b (by omega) (by omega) (by omega) (by omega) (by omega) (by omega)
  have ra : 0 ≤ a / r ∧ a / r ≤ a := ⟨Int.ediv_nonneg (by omega) (by omega), Int.ediv_le_self r (by omega)⟩
  have rb : 0 ≤ b / r ∧ b / r ≤ b := ⟨Int.ediv_nonneg (by omega) (by omega), Int.ediv_le_self r (by omega)⟩
  have ea : wrap64 (Int.tdiv a r) = a / r := by rw [Int.tdiv_eq_ediv_of_nonneg (by omega)]; exact w64 (by omega)
  have eb : wrap64 (Int.tdiv b r) = b / r := by rw [Int.tdiv_eq_ediv_of_nonneg (by omega)]; exact w64 (by omega)
  have ma := Int.ediv_mul_cancel d1
  have mb := Int.ediv_mul_cancel d2
  refine ⟨a / r, b / r, ?_, by omega, ?_, fun k h => ?_, fun k h => ?_⟩
  · by_cases e : b / r = 0
    · rw [e] at mb; simp at mb; omega
    · omega
  · have h1 : a / r * b = a / r * (b / r * r) := by rw [mb]
    have h2 : a * (b / r) = a / r * r * (b / r) := by rw [ma]
    rw [h1, h2, Int.mul_assoc (a / r) r (b / r), Int.mul_comm (b / r) r]
  · unfold spec_tePart.f
    rw [(hk k (by omega)).1, ea, eb]
  · unfold impl_lowest.f impl_gcd.f
    rw [(hk k (by omega)).2]
    simp only [Option.bind_some]
    rw [if_neg (by omega), ea, eb]

theorem FnExactSpeedRatio (c g t n : Int) (_ : (Lit.int .i64 c).wf = true) (_ : (Lit.int .i64 g).wf = true) (_ : (Lit.int .i64 t).wf = true)
    (_ : (Lit.int .i64 n).wf = true) : ∃ k, laws_FnExactSpeedRatio.f k c g t n = some true := by
  refine ⟨50002, ?_⟩
  unfold laws_FnExactSpeedRatio.f laws_toSpool.f spec_SpeedRatio.f impl_SpeedRatio.f spec_spHas.f
  simp only [Option.bind_some, spGood_eq, isSpool_eq, in_eq, impl_SpeedRatio.j0]
  by_cases h : Good c g t
  · have hw : wrap64 (t - 1) = t - 1 := w64 (by unfold Good at h; omega)
    by_cases h0 : n < 0
    · have : ¬ 0 ≤ n := by omega
      simp [h, h0, this]
    · by_cases h1 : n ≥ t
      · have : ¬ n ≤ t - 1 := by omega
        simp [h, h0, h1, hw, this]
      · have h2 : 0 ≤ n := by omega
        have h3 : n ≤ t - 1 := by omega
        have h5 : ¬ t ≤ n := by omega
        have h4 : 0 ≤ n ∧ n ≤ 500 := by unfold Good at h; omega
        have hb := turn_bounds (c := c) (g := g) (k := n) (by unfold Good at h; omega) (by unfold Good at h; omega) h4
        obtain ⟨p, q, hpq, _, _, hs, hi⟩ := part_same (a := turn c g n) (b := c) (by omega) (by unfold Good at h; omega)
        simp [h, h0, h2, h3, h5, hw, spTurn_eq h h4, ipTurn_eq h h4, hs 50002 (by omega), hi 50001 (by omega)]
  · simp [h]
end Go.Proofs.Ytnjmoldagecniaa.Pure
