/- FnExactBestMark: the program's BestMark answers as the reference's, for all numbers of kind int. No condition. -/
import Derived.Test.YtnjmoldagecniaaPFnExactBestMarkx1
namespace Go.Proofs.Ytnjmoldagecniaa.Pure
open Go.RowKit Go.Proofs.Ytnjmoldagecniaa.PFnExactBestMark Go.Proofs.YtnjmoldagecniaaW.PrintWords Go.Proofs.YtnjmoldagecniaaW.PrintLast

theorem in_eq (a b c : Int) : spec_l1In.f a b c = some (decide (b ≤ a ∧ a ≤ c)) := by
  unfold spec_l1In.f
  by_cases h : a ≥ b
  · rw [if_pos h]; congr 1; simp [show b ≤ a from h]
  · rw [if_neg h]; congr 1; simp; omega

theorem w64 {x : Int} (h : -9223372036854775808 ≤ x ∧ x ≤ 9223372036854775807) : wrap64 x = x := by
  unfold wrap64; omega

def cost (s e l m : Int) : Int := s / m * e + (m - 1) * l

theorem cost_bounds {s e l m : Int} (hs : 1 ≤ s ∧ s ≤ 200) (he : 0 ≤ e ∧ e ≤ 100) (hl : 0 ≤ l ∧ l ≤ 100) (hm : 1 ≤ m ∧ m ≤ 50) : 0 ≤ cost s e l m ∧ cost s e l m ≤ 100000 := by
  unfold cost
  have h1 : 0 ≤ s / m := Int.ediv_nonneg (by omega) (by omega)
  have h2 : s / m ≤ 200 := by have := Int.ediv_le_self m (show 0 ≤ s by omega); omega
  have h3 : 0 ≤ s / m * e := Int.mul_nonneg h1 he.1
  have h4 : s / m * e ≤ 200 * 100 := Int.mul_le_mul h2 he.2 he.1 (by omega)
  have h5 : 0 ≤ (m - 1) * l := Int.mul_nonneg (by omega) hl.1
  have h6 : (m - 1) * l ≤ 49 * 100 := Int.mul_le_mul (by omega) hl.2 hl.1 (by omega)
  omega

theorem cost_wrap {s e l m : Int} (hs : 1 ≤ s ∧ s ≤ 200) (he : 0 ≤ e ∧ e ≤ 100) (hl : 0 ≤ l ∧ l ≤ 100) (hm : 1 ≤ m ∧ m ≤ 50) :
    wrap64 ((wrap64 ((wrap64 (Int.tdiv s m)) * e)) + (wrap64 ((wrap64 (m - 1)) * l))) = cost s e l m := by
  have h1 : 0 ≤ s / m := Int.ediv_nonneg (by omega) (by omega)
  have h2 : s / m ≤ 200 := by have := Int.ediv_le_self m (show 0 ≤ s by omega); omega
  have h3 : 0 ≤ s / m * e := Int.mul_nonneg h1 he.1
  have h4 : s / m * e ≤ 200 * 100 := Int.mul_le_mul h2 he.2 he.1 (by omega)
  have h5 : 0 ≤ (m - 1) * l := Int.mul_nonneg (by omega) hl.1
  have h6 : (m - 1) * l ≤ 49 * 100 := Int.mul_le_mul (by omega) hl.2 hl.1 (by omega)
  rw [Int.tdiv_eq_ediv_of_nonneg (by omega)]
  rw [w64 (x := s / m) (by omega), w64 (x := m - 1) (by omega), w64 (x := s / m * e) (by omega), w64 (x := (m - 1) * l) (by omega), w64 (by omega)]
  rfl

theorem best_same {s e l : Int} (hs : 1 ≤ s ∧ s ≤ 200) (he : 0 ≤ e ∧ e ≤ 100) (hl : 0 ≤ l ∧ l ≤ 100) (d : Nat) : ∀ (k : Nat) (b c m : Int), 2 ≤ m → m = 51 - (d : Int) → 0 ≤ c → d < k →
    ∃ r, spec_BestMark.l0 k s e l b c m = some r ∧ impl_BestMark.l0 k s e l b c m = some r := by
  induction d with
  | zero =>
    intro k b c m h2 hm hc hk
    obtain ⟨k, rfl⟩ : ∃ j, k = j + 1 := ⟨k - 1, by omega⟩
    exact ⟨(b, c, true), by rw [spec_BestMark.l0, if_neg (by omega)], by rw [impl_BestMark.l0, if_neg (by omega)]⟩
  | succ d ih =>
    intro k b c m h2 hm hc hk
    obtain ⟨k, rfl⟩ : ∃ j, k = j + 1 := ⟨k - 1, by omega⟩
    have hw : wrap64 (m + 1) = m + 1 := w64 (by omega)
    have hcb := cost_bounds hs he hl (m := m) (by omega)
    have h1 : spec_BestMark.l0 (k + 1) s e l b c m = if cost s e l m < c then spec_BestMark.l0 k s e l m (cost s e l m) (m + 1) else spec_BestMark.l0 k s e l b c (m + 1) := by
      rw [spec_BestMark.l0, if_pos (by omega), if_neg (by omega), if_neg (by omega), cost_wrap hs he hl (by omega), hw]
    have h2 : impl_BestMark.l0 (k + 1) s e l b c m = if cost s e l m < c then impl_BestMark.l0 k s e l m (cost s e l m) (m + 1) else impl_BestMark.l0 k s e l b c (m + 1) := by
      rw [impl_BestMark.l0, if_pos (by omega), if_neg (by omega), if_neg (by omega), cost_wrap hs he hl (by omega), hw]
    rw [h1, h2]
    by_cases h : cost s e l m < c
    · rw [if_pos h, if_pos h]; exact ih k _ _ _ (by omega) (by omega) (by omega) (by omega)
    · rw [if_neg h, if_neg h]; exact ih k _ _ _ (by omega) (by omega) (by omega) (by omega)

theorem spec_bad {k : Nat} {s e l : Int} (h : ¬ ((1 ≤ s ∧ s ≤ 200) ∧ (0 ≤ e ∧ e ≤ 100) ∧ (0 ≤ l ∧ l ≤ 100))) : spec_BestMark.f (k + 1) s e l = some (0, 0, false) := by
  unfold spec_BestMark.f
  simp only [in_eq, Option.bind_some, decide_eq_true_eq, spec_BestMark.j0, if_true]
  split
  · split
    · rw [if_pos]; simp; omega
    · rfl
  · rfl
theorem impl_bad {k : Nat} {s e l : Int} (h : ¬ ((1 ≤ s ∧ s ≤ 200) ∧ (0 ≤ e ∧ e ≤ 100) ∧ (0 ≤ l ∧ l ≤ 100))) : impl_BestMark.f (k + 1) s e l = some (0, 0, false) := by
  unfold impl_BestMark.f
  simp only [impl_BestMark.j0, if_true]
  repeat' (split; rfl)
  rename_i h1 h2 h3 h4 h5 h6
  simp only [decide_eq_true_eq] at h6
  omega
theorem spec_good {k : Nat} {s e l : Int} (hs : 1 ≤ s ∧ s ≤ 200) (he : 0 ≤ e ∧ e ≤ 100) (hl : 0 ≤ l ∧ l ≤ 100) : spec_BestMark.f (k + 1) s e l = spec_BestMark.l0 k s e l 0 (-1) 1 := by
  unfold spec_BestMark.f
  simp [in_eq, hs, he, hl, spec_BestMark.j0]
theorem impl_good {k : Nat} {s e l : Int} (hs : 1 ≤ s ∧ s ≤ 200) (he : 0 ≤ e ∧ e ≤ 100) (hl : 0 ≤ l ∧ l ≤ 100) : impl_BestMark.f (k + 1) s e l = impl_BestMark.l0 k s e l 0 0 1 := by
  unfold impl_BestMark.f
  rw [if_neg (by omega), if_neg (by omega), if_neg (by omega), if_neg (by omega), if_neg (by omega), impl_BestMark.j0, if_neg (by simp; omega)]

theorem FnExactBestMark : laws_FnExactBestMark.Pure := by
  intro s e l _ _ _
  refine ⟨60, ?_⟩
  by_cases hg : (1 ≤ s ∧ s ≤ 200) ∧ (0 ≤ e ∧ e ≤ 100) ∧ (0 ≤ l ∧ l ≤ 100)
  · obtain ⟨hs, he, hl⟩ := hg
    obtain ⟨r, h1, h2⟩ := best_same hs he hl 49 58 1 (cost s e l 1) 2 (by omega) (by omega) (cost_bounds hs he hl (m := 1) (by omega)).1 (by omega)
    have hS : spec_BestMark.f 60 s e l = some r := by
      rw [spec_good hs he hl, spec_BestMark.l0, if_pos (by omega), if_neg (by omega), if_pos (by omega), cost_wrap hs he hl (by omega), show wrap64 (1 + 1) = 2 by unfold wrap64; omega]; exact h1
    have hI : impl_BestMark.f 60 s e l = some r := by
      rw [impl_good hs he hl, impl_BestMark.l0, if_pos (by omega), if_neg (by omega), if_pos rfl, cost_wrap hs he hl (by omega), show wrap64 (1 + 1) = 2 by unfold wrap64; omega]; exact h2
    unfold laws_FnExactBestMark.f
    simp [hS, hI]
  · unfold laws_FnExactBestMark.f
    simp [spec_bad hg, impl_bad hg]
end Go.Proofs.Ytnjmoldagecniaa.Pure
