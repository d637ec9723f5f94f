/- FnExactPiecesOn: the program's PiecesOn answers as the reference's, for all spools and slices of lengths. No condition. -/
import Derived.Test.YtnjmoldagecniaaPFnExactPiecesOnx2
namespace Go.Proofs.Ytnjmoldagecniaa.Pure
open Go.RowKit Go.Proofs.Ytnjmoldagecniaa.PFnExactPiecesOn Go.Proofs.YtnjmoldagecniaaW.PrintWords Go.Proofs.YtnjmoldagecniaaW.PrintLast

set_option linter.unusedVariables false
set_option linter.unusedSimpArgs false

theorem w64 {x : Int} (h : -9223372036854775808 ≤ x ∧ x ≤ 9223372036854775807) : wrap64 x = x := by
  unfold wrap64; omega
theorem someF {p : Prop} [Decidable p] (h : ¬ p) : some false = some (decide p) := by rw [decide_eq_false h]
theorem someD {q p : Prop} [Decidable q] [Decidable p] (h : q ↔ p) : some (decide q) = some (decide p) := by rw [decide_eq_decide.2 h]

theorem in_eq (a b c : Int) : spec_l1In.f a b c = some (decide (b ≤ a ∧ a ≤ c)) := by
  unfold spec_l1In.f
  by_cases h : a ≥ b
  · rw [if_pos h]; congr 1; simp [show b ≤ a from h]
  · rw [if_neg h]; congr 1; simp; omega

def Good (c g t : Int) : Prop := 100 ≤ c ∧ c ≤ 5000 ∧ 0 ≤ g ∧ g ≤ 50 ∧ 1 ≤ t ∧ t ≤ 500
instance (c g t : Int) : Decidable (Good c g t) := by unfold Good; infer_instance
def turn (c g k : Int) : Int := c + k * g
def full (c g n : Int) : Int := n * c + n * (n - 1) / 2 * g
def wound (c g e : Int) : Int := 8 * full c g (e / 8) + e % 8 * turn c g (e / 8)

theorem tri_bounds {n : Int} (h0 : 0 ≤ n) (h1 : n ≤ 500) : 0 ≤ n * (n - 1) ∧ n * (n - 1) ≤ 250000 := by
  have h2 : 0 ≤ n * (n - 1) := by
    by_cases h : n = 0
    · subst h; simp
    · exact Int.mul_nonneg h0 (by omega)
  have h3 : n * (n - 1) ≤ 500 * (n - 1) ∨ n = 0 := by
    by_cases h : n = 0
    · exact .inr h
    · exact .inl (Int.mul_le_mul_of_nonneg_right h1 (by omega))
  rcases h3 with h3 | h3
  · omega
  · subst h3; simp
theorem turn_bounds {c g k : Int} (hc : 100 ≤ c ∧ c ≤ 5000) (hg : 0 ≤ g ∧ g ≤ 50) (hk : 0 ≤ k ∧ k ≤ 500) : 100 ≤ turn c g k ∧ turn c g k ≤ 30000 ∧ 0 ≤ k * g ∧ k * g ≤ 25000 := by
  have h1 : 0 ≤ k * g := Int.mul_nonneg hk.1 hg.1
  have h2 : k * g ≤ 500 * 50 := Int.mul_le_mul hk.2 hg.2 hg.1 (by omega)
  unfold turn; omega
theorem full_bounds {c g n : Int} (hc : 100 ≤ c ∧ c ≤ 5000) (hg : 0 ≤ g ∧ g ≤ 50) (hn : 0 ≤ n ∧ n ≤ 500) :
    0 ≤ n * c ∧ n * c ≤ 2500000 ∧ 0 ≤ n * (n - 1) / 2 * g ∧ n * (n - 1) / 2 * g ≤ 6250000 ∧ 0 ≤ full c g n ∧ full c g n ≤ 8750000 := by
  obtain ⟨t0, t1⟩ := tri_bounds hn.1 hn.2
  have h1 : 0 ≤ n * c := Int.mul_nonneg hn.1 (by omega)
  have h2 : n * c ≤ 500 * 5000 := Int.mul_le_mul hn.2 hc.2 (by omega) (by omega)
  have h3 : 0 ≤ n * (n - 1) / 2 * g := Int.mul_nonneg (by omega) hg.1
  have h4 : n * (n - 1) / 2 * g ≤ 125000 * 50 := Int.mul_le_mul (by omega) hg.2 hg.1 (by omega)
  unfold full; omega
theorem turn_wrap {c g k : Int} (hc : 100 ≤ c ∧ c ≤ 5000) (hg : 0 ≤ g ∧ g ≤ 50) (hk : 0 ≤ k ∧ k ≤ 500) : wrap64 (c + wrap64 (k * g)) = turn c g k := by
  have := turn_bounds hc hg hk
  rw [w64 (x := k * g) (by omega)]
  exact w64 (by unfold turn at this; omega)
theorem full_wrap {c g n : Int} (hc : 100 ≤ c ∧ c ≤ 5000) (hg : 0 ≤ g ∧ g ≤ 50) (hn : 0 ≤ n ∧ n ≤ 500) :
    wrap64 ((wrap64 (n * c)) + (wrap64 ((wrap64 (Int.tdiv (wrap64 (n * (wrap64 (n - 1)))) 2)) * g))) = full c g n := by
  have h := full_bounds hc hg hn
  obtain ⟨t0, t1⟩ := tri_bounds hn.1 hn.2
  rw [w64 (x := n - 1) (by omega), w64 (x := n * (n - 1)) (by omega), Int.tdiv_eq_ediv_of_nonneg t0, w64 (x := n * (n - 1) / 2) (by omega), w64 (x := n * c) (by omega), w64 (x := n * (n - 1) / 2 * g) (by omega)]
  exact w64 (by unfold full at h; omega)
theorem tri_succ (n : Int) : (n + 1) * (n + 1 - 1) / 2 = n * (n - 1) / 2 + n := by
  have : (n + 1) * (n + 1 - 1) = n * (n - 1) + n * 2 := by
    rw [show n + 1 - 1 = n by omega, Int.mul_sub, Int.add_mul]; omega
  rw [this, Int.add_mul_ediv_right _ _ (by omega)]
theorem full_succ (c g n : Int) : full c g (n + 1) = full c g n + turn c g n := by
  unfold full turn
  rw [tri_succ, Int.add_mul, Int.add_mul]; omega
theorem wound_whole (c g n : Int) : wound c g (8 * n) = 8 * full c g n := by
  unfold wound
  rw [show 8 * n / 8 = n by omega, show 8 * n % 8 = 0 by omega]; simp
theorem wound_succ (c g e : Int) : wound c g (e + 1) = wound c g e + turn c g (e / 8) := by
  unfold wound
  by_cases h : e % 8 = 7
  · rw [show (e + 1) / 8 = e / 8 + 1 by omega, show (e + 1) % 8 = 0 by omega, full_succ, h]; omega
  · rw [show (e + 1) / 8 = e / 8 by omega, show (e + 1) % 8 = e % 8 + 1 by omega, Int.add_mul]; omega
theorem wound_lt {c g : Int} (hc : 100 ≤ c ∧ c ≤ 5000) (hg : 0 ≤ g ∧ g ≤ 50) {a : Int} (ha : 0 ≤ a) (d : Nat) : a + d ≤ 4000 → wound c g a + d ≤ wound c g (a + d) := by
  induction d with
  | zero => intro _; simp
  | succ d ih =>
    intro h
    have h1 := ih (by omega)
    have h2 := wound_succ c g (a + d)
    have h3 := turn_bounds hc hg (k := (a + d) / 8) (by omega)
    rw [show a + ((d + 1 : Nat) : Int) = a + d + 1 by omega, h2]; omega
theorem wound_mono {c g : Int} (hc : 100 ≤ c ∧ c ≤ 5000) (hg : 0 ≤ g ∧ g ≤ 50) {a b : Int} (ha : 0 ≤ a) (hab : a ≤ b) (hb : b ≤ 4000) : wound c g a ≤ wound c g b := by
  have := wound_lt hc hg ha (b - a).toNat (by omega)
  rw [show a + ((b - a).toNat : Int) = b by omega] at this; omega
theorem wound_strict {c g : Int} (hc : 100 ≤ c ∧ c ≤ 5000) (hg : 0 ≤ g ∧ g ≤ 50) {a b : Int} (ha : 0 ≤ a) (hab : a < b) (hb : b ≤ 4000) : wound c g a < wound c g b := by
  have := wound_lt hc hg ha (b - a).toNat (by omega)
  rw [show a + ((b - a).toNat : Int) = b by omega] at this; omega
theorem full_mono {c g : Int} (hc : 100 ≤ c ∧ c ≤ 5000) (hg : 0 ≤ g ∧ g ≤ 50) {a b : Int} (ha : 0 ≤ a) (hab : a ≤ b) (hb : b ≤ 500) : full c g a ≤ full c g b := by
  have := wound_mono hc hg (a := 8 * a) (b := 8 * b) (by omega) (by omega) (by omega)
  rw [wound_whole, wound_whole] at this; omega
theorem wound_bounds {c g e : Int} (hc : 100 ≤ c ∧ c ≤ 5000) (hg : 0 ≤ g ∧ g ≤ 50) (he : 0 ≤ e ∧ e ≤ 4000) : 0 ≤ wound c g e ∧ wound c g e ≤ 70000000 := by
  have h1 := wound_mono hc hg (a := 0) (b := e) (by omega) (by omega) (by omega)
  have h2 := wound_mono hc hg (a := e) (b := 8 * 500) (by omega) (by omega) (by omega)
  have h3 := full_bounds hc hg (n := 500) (by omega)
  rw [wound_whole] at h2
  have h0 : wound c g 0 = 0 := by have := wound_whole c g 0; unfold full at this; simpa using this
  omega

theorem spGood_eq (c g t : Int) : spec_spGood.f c g t = some (decide (Good c g t)) := by
  unfold spec_spGood.f
  simp only [in_eq, Option.bind_some, decide_eq_true_eq]
  repeat' split
  all_goals first
    | exact someF (by unfold Good; omega)
    | exact someD (by unfold Good; omega)

theorem isSpool_eq (c g t : Int) : impl_IsSpool.f c g t = some (decide (Good c g t)) := by
  unfold impl_IsSpool.f
  repeat' split
  all_goals first
    | exact someF (by unfold Good; omega)
    | exact someD (by unfold Good; omega)

theorem spFull_eq {c g t n : Int} (h : Good c g t) (hn : 0 ≤ n ∧ n ≤ 500) : spec_spFull.f c g t n = some (full c g n) := by
  unfold spec_spFull.f Good at *
  rw [full_wrap (by omega) (by omega) hn]

theorem ipFull_eq {c g t n : Int} (h : Good c g t) (hn : 0 ≤ n ∧ n ≤ 500) : impl_woundLength.f c g t n = some (full c g n) := by
  unfold impl_woundLength.f Good at *
  rw [full_wrap (by omega) (by omega) hn]

theorem fill_step {α : Type} (l : List α) (z : α) (i : Nat) (h : i < l.length) :
    (l.take i ++ List.replicate (l.length - i) z).set i (l[i]'h) = l.take (i + 1) ++ List.replicate (l.length - (i + 1)) z := by
  have hl : (l.take i).length = i := by rw [List.length_take]; omega
  rw [List.set_append_right _ _ (by omega), hl, Nat.sub_self, show l.length - i = (l.length - (i + 1)) + 1 by omega, List.replicate_succ, List.set_cons_zero, List.take_succ_eq_append_getElem h, List.append_assoc]
  rfl
theorem fill_length {α : Type} (l : List α) (z : α) (i : Nat) (h : i ≤ l.length) : (l.take i ++ List.replicate (l.length - i) z).length = l.length := by
  simp; omega

theorem rd_get (l : List Int) (i : Nat) (h : i < l.length) : rd l (i : Int) = l[i] := by
  unfold rd; rw [Int.toNat_natCast, List.getD_eq_getElem?_getD, List.getElem?_eq_getElem h]; rfl

theorem toInts_loop (l : List Int) (hl : l.length ≤ 1048576) (d : Nat) : ∀ (k i : Nat), i + d = l.length → d < k →
    laws_toIntS.l0 k l (l.take i ++ List.replicate (l.length - i) 0) i = some l := by
  induction d with
  | zero =>
    intro k i hi hk
    obtain ⟨k, rfl⟩ : ∃ j, k = j + 1 := ⟨k - 1, by omega⟩
    rw [laws_toIntS.l0, if_neg (by omega), show l.length - i = 0 by omega, List.replicate_zero, List.append_nil, List.take_of_length_le (by omega)]
  | succ d ih =>
    intro k i hi hk
    obtain ⟨k, rfl⟩ : ∃ j, k = j + 1 := ⟨k - 1, by omega⟩
    rw [laws_toIntS.l0, if_pos (by omega), if_pos (by omega), fill_length _ _ _ (by omega), if_pos (by omega), Int.toNat_natCast, rd_get l i (by omega), fill_step l 0 i (by omega), w64 (by omega)]
    exact ih k (i + 1) (by omega) (by omega)
theorem toInts_eq (l : List Int) (hl : l.length ≤ 1048576) (k : Nat) (hk : l.length < k) : laws_toIntS.f k l = some l := by
  unfold laws_toIntS.f
  rw [if_pos (by omega), if_pos (by omega), Int.toNat_natCast]
  have := toInts_loop l hl l.length k 0 (by omega) hk
  simpa using this

theorem eqInts_loop (l : List Int) (hl : l.length ≤ 1048576) (d : Nat) : ∀ (k i : Nat), i + d = l.length → d < k → laws_eqIntS.l0 k l l i = some true := by
  induction d with
  | zero =>
    intro k i hi hk
    obtain ⟨k, rfl⟩ : ∃ j, k = j + 1 := ⟨k - 1, by omega⟩
    rw [laws_eqIntS.l0, if_neg (by omega)]
  | succ d ih =>
    intro k i hi hk
    obtain ⟨k, rfl⟩ : ∃ j, k = j + 1 := ⟨k - 1, by omega⟩
    rw [laws_eqIntS.l0, if_pos (by omega), if_pos (by omega), if_pos (by omega), if_pos rfl, w64 (by omega)]
    exact ih k (i + 1) (by omega) (by omega)
theorem eqInts_self (l : List Int) (hl : l.length ≤ 1048576) (k : Nat) (hk : l.length < k) : laws_eqIntS.f k l l = some true := by
  unfold laws_eqIntS.f
  rw [if_pos rfl]
  exact eqInts_loop l hl l.length k 0 (by omega) hk

def pcs : Int → List Int → Int × Int
  | left, [] => (0, left)
  | left, n :: r => if n > left then (0, left) else ((pcs (left - n) r).1 + 1, (pcs (left - n) r).2)
def AllIn (l : List Int) : Prop := ∀ n ∈ l, 1 ≤ n ∧ n ≤ 1000000
instance (l : List Int) : Decidable (AllIn l) := by unfold AllIn; infer_instance
theorem allIn_cons {n : Int} {l : List Int} : AllIn (n :: l) ↔ (1 ≤ n ∧ n ≤ 1000000) ∧ AllIn l := by
  unfold AllIn; simp
theorem drop_get {α : Type} (l : List α) (i : Nat) (h : i < l.length) : l.drop i = l[i] :: l.drop (i + 1) := List.drop_eq_getElem_cons h

theorem l1All_loop (l : List Int) (hl : l.length ≤ 1048576) (d : Nat) : ∀ (k i : Nat), i + d = l.length → d < k → spec_l1All.l0 k 1 1000000 l l.length i = some (decide (AllIn (l.drop i))) := by
  induction d with
  | zero =>
    intro k i hi hk
    obtain ⟨k, rfl⟩ : ∃ j, k = j + 1 := ⟨k - 1, by omega⟩
    rw [spec_l1All.l0, if_neg (by omega), List.drop_of_length_le (by omega), decide_eq_true (by unfold AllIn; simp)]
  | succ d ih =>
    intro k i hi hk
    obtain ⟨k, rfl⟩ : ∃ j, k = j + 1 := ⟨k - 1, by omega⟩
    rw [spec_l1All.l0, if_pos (by omega), if_pos (by omega), if_pos (by omega), rd_get l i (by omega), in_eq, w64 (by omega), drop_get l i (by omega)]
    simp only [Option.bind_some, decide_eq_true_eq]
    split
    · rename_i h
      rw [show ((i : Int) + 1) = ((i + 1 : Nat) : Int) by omega, ih k (i + 1) (by omega) (by omega)]
      exact someD (by rw [allIn_cons]; exact ⟨fun h' => ⟨h, h'⟩, fun h' => h'.2⟩)
    · rename_i h
      exact someF (by rw [allIn_cons]; exact fun h' => h h'.1)
theorem l1All_eq (l : List Int) (hl : l.length ≤ 1048576) (k : Nat) (hk : l.length < k) : spec_l1All.f k l 1 1000000 = some (decide (AllIn l)) := by
  unfold spec_l1All.f
  have := l1All_loop l hl l.length k 0 (by omega) hk
  simpa using this

theorem spPieces_loop (l : List Int) (hl : l.length ≤ 40) (d : Nat) : ∀ (k i : Nat) (left : Int), i + d = l.length → d < k → AllIn (l.drop i) → 0 ≤ left ∧ left ≤ 8750000 →
    spec_PiecesOn.l0 k l left l l.length i = some (i + (pcs left (l.drop i)).1, (pcs left (l.drop i)).2, true) := by
  induction d with
  | zero =>
    intro k i left hi hk ha hb
    obtain ⟨k, rfl⟩ : ∃ j, k = j + 1 := ⟨k - 1, by omega⟩
    rw [spec_PiecesOn.l0, if_neg (by omega), List.drop_of_length_le (by omega), show l.length = i by omega]
    simp [pcs]
  | succ d ih =>
    intro k i left hi hk ha hb
    obtain ⟨k, rfl⟩ : ∃ j, k = j + 1 := ⟨k - 1, by omega⟩
    rw [drop_get l i (by omega), allIn_cons] at ha
    rw [spec_PiecesOn.l0, if_pos (by omega), if_pos (by omega), if_pos (by omega), rd_get l i (by omega), drop_get l i (by omega), pcs]
    by_cases h : l[i] > left
    · rw [if_pos h, if_pos h]; simp
    · rw [if_neg h, if_neg h, w64 (by omega), w64 (by omega), show ((i : Int) + 1) = ((i + 1 : Nat) : Int) by omega, ih k (i + 1) _ (by omega) (by omega) ha.2 (by omega)]
      simp; omega
theorem ipPieces_loop (l : List Int) (hl : l.length ≤ 40) (d : Nat) : ∀ (k i : Nat) (left c : Int), i + d = l.length → d < k → AllIn (l.drop i) → 0 ≤ left ∧ left ≤ 8750000 → 0 ≤ c ∧ c ≤ i →
    impl_PiecesOn.l1 k left c l l.length i = some (c + (pcs left (l.drop i)).1, (pcs left (l.drop i)).2, true) := by
  induction d with
  | zero =>
    intro k i left c hi hk ha hb hc
    obtain ⟨k, rfl⟩ : ∃ j, k = j + 1 := ⟨k - 1, by omega⟩
    rw [impl_PiecesOn.l1, if_neg (by omega), List.drop_of_length_le (by omega)]
    simp [pcs]
  | succ d ih =>
    intro k i left c hi hk ha hb hc
    obtain ⟨k, rfl⟩ : ∃ j, k = j + 1 := ⟨k - 1, by omega⟩
    rw [drop_get l i (by omega), allIn_cons] at ha
    rw [impl_PiecesOn.l1, if_pos (by omega), if_pos (by omega), if_pos (by omega), rd_get l i (by omega), drop_get l i (by omega), pcs]
    by_cases h : l[i] > left
    · rw [if_pos h, if_pos h]; simp
    · rw [if_neg h, if_neg h, w64 (by omega), w64 (by omega), w64 (by omega), show ((i : Int) + 1) = ((i + 1 : Nat) : Int) by omega, ih k (i + 1) _ _ (by omega) (by omega) ha.2 (by omega) (by omega)]
      simp; omega
theorem ipCheck_loop (l : List Int) (hl : l.length ≤ 40) {c g t : Int} (hg : Good c g t) (d : Nat) : ∀ (k i : Nat), i + d = l.length → d + 50 < k → AllIn l ∨ ¬ AllIn (l.drop i) →
    impl_PiecesOn.l0 k l l l.length i c g t = some (if AllIn (l.drop i) then ((pcs (full c g t) l).1, (pcs (full c g t) l).2, true) else (0, 0, false)) := by
  induction d with
  | zero =>
    intro k i hi hk hall
    obtain ⟨k, rfl⟩ : ∃ j, k = j + 1 := ⟨k - 1, by omega⟩
    have ha : AllIn (l.drop i) := by rw [List.drop_of_length_le (by omega)]; unfold AllIn; simp
    have ha' : AllIn l := by
      rcases hall with h | h
      · exact h
      · exact absurd ha h
    have hg' := hg
    unfold Good at hg'
    have fb := full_bounds (c := c) (g := g) (n := t) (by omega) (by omega) (by omega)
    rw [impl_PiecesOn.l0, if_neg (by omega), ipFull_eq hg (by omega), if_pos ha]
    simp only [Option.bind_some]
    have := ipPieces_loop l hl l.length k 0 (full c g t) 0 (by omega) (by omega) (by simpa using ha') (by omega) (by omega)
    simpa using this
  | succ d ih =>
    intro k i hi hk hall
    obtain ⟨k, rfl⟩ : ∃ j, k = j + 1 := ⟨k - 1, by omega⟩
    have hc := @allIn_cons l[i] (l.drop (i + 1))
    rw [← drop_get l i (by omega)] at hc
    rw [impl_PiecesOn.l0, if_pos (by omega), if_pos (by omega), if_pos (by omega), rd_get l i (by omega)]
    by_cases h1 : l[i] < 1
    · rw [if_pos h1, if_neg (fun h => by have := (hc.1 h).1; omega)]
    · by_cases h2 : l[i] > 1000000
      · rw [if_neg h1, if_pos h2, if_neg (fun h => by have := (hc.1 h).1; omega)]
      · rw [if_neg h1, if_neg h2, w64 (by omega), show ((i : Int) + 1) = ((i + 1 : Nat) : Int) by omega, ih k (i + 1) (by omega) (by omega) ?_]
        · by_cases h3 : AllIn (l.drop (i + 1))
          · rw [if_pos h3, if_pos (hc.2 ⟨by omega, h3⟩)]
          · rw [if_neg h3, if_neg (fun h => h3 (hc.1 h).2)]
        · rcases hall with h | h
          · exact .inl h
          · exact .inr (fun h' => h (hc.2 ⟨by omega, h'⟩))
def pieces (c g t : Int) (l : List Int) : Int × Int × Bool := if Good c g t ∧ l.length ≤ 40 ∧ AllIn l then ((pcs (full c g t) l).1, (pcs (full c g t) l).2, true) else (0, 0, false)
theorem spPieces_eq (c g t : Int) (l : List Int) (hl : l.length ≤ 1048576) (k : Nat) (hk : 1048700 < k) : spec_PiecesOn.f k c g t l = some (pieces c g t l) := by
  obtain ⟨k, rfl⟩ : ∃ j, k = j + 1 := ⟨k - 1, by omega⟩
  unfold spec_PiecesOn.f pieces
  rw [spGood_eq, l1All_eq l hl _ (by omega)]
  simp only [Option.bind_some, decide_eq_true_eq, spec_PiecesOn.j0]
  by_cases hg : Good c g t
  · rw [if_pos hg]
    by_cases hn : l.length ≤ 40
    · rw [if_neg (by omega)]
      by_cases ha : AllIn l
      · have hg' := hg
        unfold Good at hg'
        have fb := full_bounds (c := c) (g := g) (n := t) (by omega) (by omega) (by omega)
        rw [if_neg (by simp [ha]), spFull_eq hg (by omega), if_pos ⟨hg, hn, ha⟩]
        simp only [Option.bind_some]
        have := spPieces_loop l hn l.length k 0 (full c g t) (by omega) (by omega) (by simpa using ha) (by omega)
        simpa using this
      · rw [if_pos (by simp [ha]), if_neg (fun h => ha h.2.2)]
    · rw [if_pos (by omega), if_pos trivial, if_neg (fun h => hn h.2.1)]
  · rw [if_neg hg, if_pos trivial, if_neg (fun h => hg h.1)]
theorem ipPieces_eq (c g t : Int) (l : List Int) (k : Nat) (hk : 1048700 < k) : impl_PiecesOn.f k c g t l = some (pieces c g t l) := by
  obtain ⟨k, rfl⟩ : ∃ j, k = j + 1 := ⟨k - 1, by omega⟩
  unfold impl_PiecesOn.f pieces
  rw [isSpool_eq]
  simp only [Option.bind_some, decide_eq_true_eq, impl_PiecesOn.j0]
  by_cases hg : Good c g t
  · rw [if_pos hg]
    by_cases hn : l.length ≤ 40
    · rw [if_neg (by omega), show ((0 : Int)) = ((0 : Nat) : Int) from rfl, ipCheck_loop l hn hg l.length k 0 (by omega) (by omega) ?_]
      · simp [hg, hn]
      · by_cases ha : AllIn l
        · exact .inl ha
        · exact .inr (by simpa using ha)
    · rw [if_pos (by omega), if_neg (fun h => hn h.2.1)]
  · rw [if_neg hg, if_pos trivial, if_neg (fun h => hg h.1)]

theorem FnExactPiecesOn (c g t : Int) (l : List Int) (_ : (Lit.int .i64 c).wf = true) (_ : (Lit.int .i64 g).wf = true) (_ : (Lit.int .i64 t).wf = true)
    (_ : l.length ≤ maxLen) (_ : ∀ x ∈ l, (Lit.int .i64 x).wf = true) : ∃ k, laws_FnExactPiecesOn.f k c g t l = some true := by
  refine ⟨1048800, ?_⟩
  unfold laws_FnExactPiecesOn.f laws_toSpool.f
  by_cases hl : l.length ≤ 1048576
  · rw [if_neg (by omega), toInts_eq l hl _ (by omega)]
    simp only [Option.bind_some]
    rw [spPieces_eq c g t l hl _ (by omega), ipPieces_eq c g t l _ (by omega)]
    simp only [Option.bind_some, if_true, bne_self_eq_false]
    rw [show (1048800 : Nat) = 1048799 + 1 from rfl, laws_FnExactPiecesOn.j0, if_neg (by simp), toInts_eq l hl _ (by omega)]
    simp only [Option.bind_some]
    rw [eqInts_self l hl _ (by omega)]
    simp
  · rw [if_pos (by omega)]
end Go.Proofs.Ytnjmoldagecniaa.Pure
