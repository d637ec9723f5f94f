/- FnExactStrokesText: the program's StrokesText answers as the reference's, for all slices of strokes. No condition. -/
import Derived.Test.YtadbebmcognplaaDoorPFnExactStrokesTextx3
namespace Go.Proofs.YtadbebmcognplaaDoor.Pure
open Go.RowKit Go.Proofs.YtadbebmcognplaaDoor.PFnExactStrokesText Go.Proofs.YtadbebmcognplaaDoorW.PrintWords Go.Proofs.YtadbebmcognplaaDoorW.PrintLast

set_option linter.unusedVariables false
set_option linter.unusedSimpArgs false

theorem w64 {x : Int} (h : -9223372036854775808 ≤ x ∧ x ≤ 9223372036854775807) : wrap64 x = x := by
  unfold wrap64; omega
theorem someF {p : Prop} [Decidable p] (h : ¬ p) : some false = some (decide p) := by rw [decide_eq_false h]
theorem someD {q p : Prop} [Decidable q] [Decidable p] (h : q ↔ p) : some (decide q) = some (decide p) := by rw [decide_eq_decide.2 h]

theorem in_eq (a b c : Int) : spec_l1In.f a b c = some (decide (b ≤ a ∧ a ≤ c)) := by
  unfold spec_l1In.f
  by_cases h : a ≥ b
  · rw [if_pos h]; congr 1; simp [show b ≤ a from h]
  · rw [if_neg h]; congr 1; simp; omega

theorem drop_get {α : Type} (l : List α) (i : Nat) (h : i < l.length) : l.drop i = l[i] :: l.drop (i + 1) := List.drop_eq_getElem_cons h
theorem map_step {α β : Type} (f : α → β) (l : List α) (z : β) (i : Nat) (h : i < l.length) :
    ((l.take i).map f ++ List.replicate (l.length - i) z).set i (f (l[i]'h)) = (l.take (i + 1)).map f ++ List.replicate (l.length - (i + 1)) z := by
  have hl : ((l.take i).map f).length = i := by rw [List.length_map, List.length_take]; omega
  rw [List.set_append_right _ _ (by omega), hl, Nat.sub_self, show l.length - i = (l.length - (i + 1)) + 1 by omega, List.replicate_succ, List.set_cons_zero, List.take_succ_eq_append_getElem h, List.map_append, List.append_assoc]
  rfl
theorem map_length {α β : Type} (f : α → β) (l : List α) (z : β) (i : Nat) (h : i ≤ l.length) : ((l.take i).map f ++ List.replicate (l.length - i) z).length = l.length := by
  simp; omega

theorem rdS_get (l : List S39) (i : Nat) (h : i < l.length) : rd_T39 l (i : Int) = l[i] := by
  unfold rd_T39; rw [Int.toNat_natCast, List.getD_eq_getElem?_getD, List.getElem?_eq_getElem h]; rfl
theorem eqStrokes_loop (l : List S39) (hl : l.length ≤ 1048576) (d : Nat) : ∀ (k i : Nat), i + d = l.length → d < k → laws_eqStrokeS.l0 k l l i = some true := by
  induction d with
  | zero =>
    intro k i hi hk
    obtain ⟨k, rfl⟩ : ∃ j, k = j + 1 := ⟨k - 1, by omega⟩
    rw [laws_eqStrokeS.l0, if_neg (by omega)]
  | succ d ih =>
    intro k i hi hk
    obtain ⟨k, rfl⟩ : ∃ j, k = j + 1 := ⟨k - 1, by omega⟩
    rw [laws_eqStrokeS.l0, if_pos (by omega), if_pos (by omega), if_pos (by omega)]
    unfold laws_eqStroke.f
    rw [if_pos rfl, if_pos rfl]
    simp only [Option.bind_some, if_true]
    rw [w64 (by omega)]
    exact ih k (i + 1) (by omega) (by omega)
theorem eqStrokes_self (l : List S39) (hl : l.length ≤ 1048576) (k : Nat) (hk : l.length < k) : laws_eqStrokeS.f k l l = some true := by
  unfold laws_eqStrokeS.f
  rw [if_pos rfl]
  exact eqStrokes_loop l hl l.length k 0 (by omega) hk

theorem rdL_get (l : List S42) (i : Nat) (h : i < l.length) : rd_T42 l (i : Int) = l[i] := by
  unfold rd_T42; rw [Int.toNat_natCast, List.getD_eq_getElem?_getD, List.getElem?_eq_getElem h]; rfl
def toS (x : S42) : S39 := ⟨x.f0, x.f1⟩
theorem toStrokes_loop (l : List S42) (hl : l.length ≤ 1048576) (d : Nat) : ∀ (k i : Nat), i + d = l.length → d < k →
    laws_toStrokeS.l0 k l ((l.take i).map toS ++ List.replicate (l.length - i) z39) i = some (l.map toS) := by
  induction d with
  | zero =>
    intro k i hi hk
    obtain ⟨k, rfl⟩ : ∃ j, k = j + 1 := ⟨k - 1, by omega⟩
    rw [laws_toStrokeS.l0, if_neg (by omega), show l.length - i = 0 by omega, List.replicate_zero, List.append_nil, List.take_of_length_le (by omega)]
  | succ d ih =>
    intro k i hi hk
    obtain ⟨k, rfl⟩ : ∃ j, k = j + 1 := ⟨k - 1, by omega⟩
    rw [laws_toStrokeS.l0, if_pos (by omega), if_pos (by omega), rdL_get l i (by omega)]
    unfold laws_toStroke.f
    simp only [Option.bind_some]
    rw [map_length _ _ _ _ (by omega), if_pos (by omega), Int.toNat_natCast]
    have := map_step toS l z39 i (by omega)
    unfold toS at this ⊢
    rw [this, w64 (by omega)]
    exact ih k (i + 1) (by omega) (by omega)
theorem toStrokes_eq (l : List S42) (hl : l.length ≤ 1048576) (k : Nat) (hk : l.length < k) : laws_toStrokeS.f k l = some (l.map toS) := by
  unfold laws_toStrokeS.f
  rw [if_pos (by omega), if_pos (by omega), Int.toNat_natCast]
  have := toStrokes_loop l hl l.length k 0 (by omega) hk
  simpa using this
theorem szStrokes_eq (l : List S42) (hl : l.length ≤ maxLen) : laws_szStrokeS.f l 1048576 = some (if l.length ≤ 1048576 then 1048576 - (l.length : Int) else -1) := by
  unfold maxLen at hl
  unfold laws_szStrokeS.f
  rw [w64 (by omega)]
  split <;> split <;> first | rfl | omega

def StrokeOK (x : S39) : Prop := 0 ≤ x.f0 ∧ x.f0 ≤ 19 ∧ 0 ≤ x.f1 ∧ x.f1 ≤ 1999
instance (x : S39) : Decidable (StrokeOK x) := by unfold StrokeOK; infer_instance
def StrokesOK (l : List S39) : Prop := (∀ x ∈ l, StrokeOK x) ∧ l.length ≤ 200
instance (l : List S39) : Decidable (StrokesOK l) := by unfold StrokesOK; infer_instance
theorem puStroke_eq (a b : Int) : spec_puStroke.f a b = some (decide (StrokeOK ⟨a, b⟩)) := by
  unfold spec_puStroke.f spec_shStep.f
  simp only [in_eq, Option.bind_some, decide_eq_true_eq]
  split
  · exact someD (by unfold StrokeOK; simp only []; omega)
  · exact someF (by unfold StrokeOK; simp only []; omega)
theorem puGood_loop (l : List S39) (hl : l.length ≤ 1048576) (d : Nat) : ∀ (k i : Nat), i + d = l.length → d < k →
    spec_puGood.l0 k l l l.length i = some (decide ((∀ x ∈ l.drop i, StrokeOK x) ∧ l.length ≤ 200)) := by
  induction d with
  | zero =>
    intro k i hi hk
    obtain ⟨k, rfl⟩ : ∃ j, k = j + 1 := ⟨k - 1, by omega⟩
    rw [spec_puGood.l0, if_neg (by omega), List.drop_of_length_le (by omega)]
    exact someD (by simp; omega)
  | succ d ih =>
    intro k i hi hk
    obtain ⟨k, rfl⟩ : ∃ j, k = j + 1 := ⟨k - 1, by omega⟩
    rw [spec_puGood.l0, if_pos (by omega), if_pos (by omega), if_pos (by omega), rdS_get l i (by omega), puStroke_eq, w64 (by omega), drop_get l i (by omega)]
    simp only [Option.bind_some, decide_eq_true_eq]
    split
    · rename_i h
      rw [show ((i : Int) + 1) = ((i + 1 : Nat) : Int) by omega, ih k (i + 1) (by omega) (by omega)]
      exact someD (by rw [List.forall_mem_cons]; exact ⟨fun h' => ⟨⟨h, h'.1⟩, h'.2⟩, fun h' => ⟨h'.1.2, h'.2⟩⟩)
    · rename_i h
      exact someF (by rw [List.forall_mem_cons]; exact fun h' => h h'.1.1)
theorem puGood_eq (l : List S39) (hl : l.length ≤ 1048576) (k : Nat) (hk : l.length < k) : spec_puGood.f k l = some (decide (StrokesOK l)) := by
  unfold spec_puGood.f StrokesOK
  have := puGood_loop l hl l.length k 0 (by omega) hk
  rw [List.drop_zero] at this
  exact this

theorem areStrokes_loop (l : List S39) (hl : l.length ≤ 1048576) (d : Nat) : ∀ (k i : Nat), i + d = l.length → d < k →
    impl_AreStrokes.l0 k l l l.length i = some (decide ((∀ x ∈ l.drop i, StrokeOK x) ∧ l.length ≤ 200)) := by
  induction d with
  | zero =>
    intro k i hi hk
    obtain ⟨k, rfl⟩ : ∃ j, k = j + 1 := ⟨k - 1, by omega⟩
    rw [impl_AreStrokes.l0, if_neg (by omega), List.drop_of_length_le (by omega)]
    exact someD (by simp; omega)
  | succ d ih =>
    intro k i hi hk
    obtain ⟨k, rfl⟩ : ∃ j, k = j + 1 := ⟨k - 1, by omega⟩
    have ht : impl_isTrack.f l[i].f0 = some (decide (0 ≤ l[i].f0 ∧ l[i].f0 ≤ 19)) := by
      unfold impl_isTrack.f
      split
      · exact someD (by omega)
      · exact someF (by omega)
    rw [impl_AreStrokes.l0, if_pos (by omega), if_pos (by omega), if_pos (by omega), rdS_get l i (by omega), ht, w64 (by omega), drop_get l i (by omega)]
    simp only [Option.bind_some, decide_eq_true_eq]
    by_cases h : StrokeOK l[i]
    · have h' := h
      unfold StrokeOK at h'
      rw [if_pos (by omega), if_neg (by omega), if_neg (by omega), show ((i : Int) + 1) = ((i + 1 : Nat) : Int) by omega, ih k (i + 1) (by omega) (by omega)]
      exact someD (by rw [List.forall_mem_cons]; exact ⟨fun h' => ⟨⟨h, h'.1⟩, h'.2⟩, fun h' => ⟨h'.1.2, h'.2⟩⟩)
    · have h' := h
      unfold StrokeOK at h'
      have hF : ∀ (p : Prop) [Decidable p], ¬ (p) → some false = some (decide p) := fun p _ hp => someF hp
      have hn : ¬ ((∀ x ∈ l[i] :: l.drop (i + 1), StrokeOK x) ∧ l.length ≤ 200) := by rw [List.forall_mem_cons]; exact fun h' => h h'.1.1
      split
      · split
        · exact someF hn
        · split
          · exact someF hn
          · omega
      · exact someF hn
theorem areStrokes_eq (l : List S39) (hl : l.length ≤ 1048576) (k : Nat) (hk : l.length < k) : impl_AreStrokes.f k l = some (decide (StrokesOK l)) := by
  unfold impl_AreStrokes.f StrokesOK
  have := areStrokes_loop l hl l.length k 0 (by omega) hk
  rw [List.drop_zero] at this
  exact this

open Go.Lib in
def num (n : Nat) : ByteArray := ⟨(Go.Lib.decDigits n).toArray⟩
theorem ba_app (a b : List UInt8) : (⟨a.toArray⟩ : ByteArray) ++ ⟨b.toArray⟩ = ⟨(a ++ b).toArray⟩ := by
  apply ByteArray.ext
  rw [ByteArray.data_append]
  simp
theorem digit_str (d : Nat) (h : d < 10) : strOfNums [wrap64 (48 + (d : Int)) % 256] = ⟨[UInt8.ofNat (48 + d)].toArray⟩ := by
  rw [w64 (by omega), show (48 + (d : Int)) % 256 = ((48 + d : Nat) : Int) by omega]
  unfold strOfNums
  rfl
theorem digits_len : ∀ (m n : Nat), n ≤ m → (Go.Lib.decDigits n).length ≤ n + 1 := by
  intro m
  induction m with
  | zero =>
    intro n hn
    rw [Go.Lib.decDigits, dif_pos (by omega)]
    simp
  | succ m ih =>
    intro n hn
    rw [Go.Lib.decDigits]
    split
    · simp
    · rw [List.length_append]
      have := ih (n / 10) (by omega)
      simp only [List.length_cons, List.length_nil]
      omega
theorem num_size (n : Nat) : (num n).size ≤ n + 1 := by
  have := digits_len n n (Nat.le_refl _)
  unfold num
  simpa [ByteArray.size] using this
theorem l1Num_eq : ∀ (k n : Nat), n ≤ 1999 → n < k → spec_l1Num.f k (n : Int) = some (num n) := by
  intro k
  induction k with
  | zero => intro n h1 h2; omega
  | succ k ih =>
    intro n h1 h2
    rw [spec_l1Num.f]
    by_cases h : n < 10
    · rw [if_pos (by omega), digit_str n h]
      unfold num
      rw [Go.Lib.decDigits, dif_pos h]
    · have e1 : Int.tdiv (n : Int) 10 = ((n / 10 : Nat) : Int) := by
        rw [Int.tdiv_eq_ediv_of_nonneg (by omega)]; omega
      have e2 : Int.tmod (n : Int) 10 = ((n % 10 : Nat) : Int) := by
        rw [Int.tmod_eq_emod_of_nonneg (by omega)]; omega
      rw [if_neg (by omega), e1, e2, w64 (by omega), ih (n / 10) (by omega) (by omega)]
      simp only [Option.bind_some]
      rw [digit_str (n % 10) (by omega)]
      have hs := num_size (n / 10)
      have h1' : (⟨[UInt8.ofNat (48 + n % 10)].toArray⟩ : ByteArray).size = 1 := rfl
      rw [h1', if_pos (by omega)]
      unfold num
      rw [ba_app]
      conv => rhs; rw [Go.Lib.decDigits, dif_neg h]
theorem itoa_num (n : Nat) : Go.Lib.itoa (n : Int) = Go.Lib.decDigits n := by
  unfold Go.Lib.itoa
  rw [if_neg (by omega), Int.toNat_natCast]
theorem words_eq (a b k : Nat) (ha : a ≤ 1999) (hb : b ≤ 1999) (hk : 3 ≤ k) : impl_words.f k [(a : Int), (b : Int)] = some (num a ++ ⟨#[32]⟩ ++ num b) := by
  obtain ⟨k, rfl⟩ : ∃ j, k = j + 3 := ⟨k - 3, by omega⟩
  unfold impl_words.f
  have r0 : rd [(a : Int), (b : Int)] 0 = a := rfl
  have r1 : rd [(a : Int), (b : Int)] 1 = b := rfl
  have t0 : strconv_Itoa.f (a : Int) = some (num a) := by unfold strconv_Itoa.f num; rw [if_pos (by omega), itoa_num]
  have t1 : strconv_Itoa.f (b : Int) = some (num b) := by unfold strconv_Itoa.f num; rw [if_pos (by omega), itoa_num]
  have sa := num_size a
  have sb := num_size b
  rw [impl_words.l0, if_pos (by simp), if_pos (by omega), if_pos (by simp), r0, t0]
  simp only [Option.bind_some, List.length_nil, Nat.zero_lt_succ, if_true, List.nil_append]
  rw [w64 (by omega), show (0 : Int) + 1 = 1 from rfl, impl_words.l0, if_pos (by simp), if_pos (by omega), if_pos (by simp), r1, t1]
  simp only [Option.bind_some]
  rw [if_pos (by simp), w64 (by omega), show (1 : Int) + 1 = 2 from rfl, impl_words.l0, if_neg (by simp)]
  have ej : Go.Lib.join (([num a] ++ [num b]).map (·.data.toList)) (⟨#[32]⟩ : ByteArray).data.toList = (num a).data.toList ++ [32] ++ (num b).data.toList := by
    simp [Go.Lib.join, List.intercalate]
  unfold strings_Join.f
  rw [ej]
  have hl : ((num a).data.toList ++ [32] ++ (num b).data.toList).length ≤ 140737488355328 := by
    have e1 : (num a).data.toList.length = (num a).size := by rw [Array.length_toList]; rfl
    have e2 : (num b).data.toList.length = (num b).size := by rw [Array.length_toList]; rfl
    rw [List.length_append, List.length_append, e1, e2]
    simp only [List.length_cons, List.length_nil]
    omega
  rw [if_pos ⟨by simp, hl⟩]
  simp only [Option.bind_some]
  refine congrArg some (ByteArray.ext ?_)
  rw [ByteArray.data_append, ByteArray.data_append]
  simp
def strokeLine (x : S39) : ByteArray := num x.f0.toNat ++ ⟨#[32]⟩ ++ num x.f1.toNat ++ ⟨#[10]⟩
def strokesText : List S39 → ByteArray → ByteArray
  | [], s => s
  | x :: r, s => strokesText r (s ++ strokeLine x)
theorem line_size (x : S39) (h : StrokeOK x) : (strokeLine x).size ≤ 2030 := by
  unfold StrokeOK at h
  have := num_size x.f0.toNat
  have := num_size x.f1.toNat
  have e1 : (⟨#[32]⟩ : ByteArray).size = 1 := rfl
  have e2 : (⟨#[10]⟩ : ByteArray).size = 1 := rfl
  unfold strokeLine
  rw [ByteArray.size_append, ByteArray.size_append, ByteArray.size_append, e1, e2]
  omega
theorem specText_loop (l : List S39) (hl : l.length ≤ 200) (hg : ∀ x ∈ l, StrokeOK x) (d : Nat) : ∀ (k i : Nat) (s : ByteArray), i + d = l.length → d + 3000 < k → s.size ≤ 2030 * i →
    spec_StrokesText.l0 k s l l.length i = some (strokesText (l.drop i) s, true) := by
  induction d with
  | zero =>
    intro k i s hi hk hs
    obtain ⟨k, rfl⟩ : ∃ j, k = j + 1 := ⟨k - 1, by omega⟩
    rw [spec_StrokesText.l0, if_neg (by omega), List.drop_of_length_le (by omega)]
    rfl
  | succ d ih =>
    intro k i s hi hk hs
    obtain ⟨k, rfl⟩ : ∃ j, k = j + 1 := ⟨k - 1, by omega⟩
    have hx := hg _ (List.getElem_mem (l := l) (n := i) (by omega))
    have hls := line_size _ hx
    have hx' := hx
    unfold StrokeOK at hx'
    have e0 : l[i].f0 = ((l[i].f0.toNat : Nat) : Int) := by omega
    have e1 : l[i].f1 = ((l[i].f1.toNat : Nat) : Int) := by omega
    have s0 := num_size l[i].f0.toNat
    have s1 := num_size l[i].f1.toNat
    have c1 : (⟨#[32]⟩ : ByteArray).size = 1 := rfl
    have c2 : (⟨#[10]⟩ : ByteArray).size = 1 := rfl
    have hN : spec_l1Num.f k l[i].f0 = some (num l[i].f0.toNat) := by rw [e0, l1Num_eq k _ (by omega) (by omega), Int.toNat_natCast]
    have hM : spec_l1Num.f k l[i].f1 = some (num l[i].f1.toNat) := by rw [e1, l1Num_eq k _ (by omega) (by omega), Int.toNat_natCast]
    rw [spec_StrokesText.l0, if_pos (by omega), if_pos (by omega), if_pos (by omega), rdS_get l i (by omega), hN, hM]
    simp only [Option.bind_some]
    have hw : ((num l[i].f0.toNat ++ (⟨#[32]⟩ : ByteArray)) ++ num l[i].f1.toNat) ++ (⟨#[10]⟩ : ByteArray) = strokeLine l[i] := rfl
    rw [if_pos (by omega), if_pos (by rw [ByteArray.size_append, c1]; omega), if_pos (by rw [ByteArray.size_append, ByteArray.size_append, c1]; omega), hw, if_pos (by omega), w64 (by omega), drop_get l i (by omega),
      show ((i : Int) + 1) = ((i + 1 : Nat) : Int) by omega]
    exact ih k (i + 1) _ (by omega) (by omega) (by rw [ByteArray.size_append]; omega)
theorem specText_eq (l : List S39) (hl : l.length ≤ 1048576) (k : Nat) (hk : l.length + 3000 < k) : spec_StrokesText.f k l = some (if StrokesOK l then (strokesText l ⟨#[]⟩, true) else (⟨#[]⟩, false)) := by
  unfold spec_StrokesText.f
  rw [puGood_eq l hl k (by omega)]
  simp only [Option.bind_some, decide_eq_true_eq]
  by_cases h : StrokesOK l
  · rw [if_pos h, if_pos h]
    have := specText_loop l h.2 h.1 l.length k 0 ⟨#[]⟩ (by omega) (by omega) (Nat.le_refl 0)
    rw [List.drop_zero] at this
    exact this
  · rw [if_neg h, if_neg h]
theorem implText_loop (l : List S39) (hl : l.length ≤ 200) (hg : ∀ x ∈ l, StrokeOK x) (d : Nat) : ∀ (k i : Nat) (s : ByteArray), i + d = l.length → d + 3000 < k → s.size ≤ 2030 * i →
    impl_StrokesText.l0 k s l l.length i = some (strokesText (l.drop i) s, true) := by
  induction d with
  | zero =>
    intro k i s hi hk hs
    obtain ⟨k, rfl⟩ : ∃ j, k = j + 1 := ⟨k - 1, by omega⟩
    rw [impl_StrokesText.l0, if_neg (by omega), List.drop_of_length_le (by omega)]
    rfl
  | succ d ih =>
    intro k i s hi hk hs
    obtain ⟨k, rfl⟩ : ∃ j, k = j + 1 := ⟨k - 1, by omega⟩
    have hx := hg _ (List.getElem_mem (l := l) (n := i) (by omega))
    have hls := line_size _ hx
    have hx' := hx
    unfold StrokeOK at hx'
    have e0 : l[i].f0 = ((l[i].f0.toNat : Nat) : Int) := by omega
    have e1 : l[i].f1 = ((l[i].f1.toNat : Nat) : Int) := by omega
    have s0 := num_size l[i].f0.toNat
    have s1 := num_size l[i].f1.toNat
    have c1 : (⟨#[32]⟩ : ByteArray).size = 1 := rfl
    have hW : impl_words.f k [l[i].f0, l[i].f1] = some (num l[i].f0.toNat ++ ⟨#[32]⟩ ++ num l[i].f1.toNat) := by
      rw [e0, e1, words_eq _ _ k (by omega) (by omega) (by omega), Int.toNat_natCast, Int.toNat_natCast]
    rw [impl_StrokesText.l0, if_pos (by omega), if_pos (by omega), if_pos (by omega), rdS_get l i (by omega), hW]
    simp only [Option.bind_some]
    have hw : ((num l[i].f0.toNat ++ (⟨#[32]⟩ : ByteArray)) ++ num l[i].f1.toNat) ++ (⟨#[10]⟩ : ByteArray) = strokeLine l[i] := rfl
    rw [if_pos (by rw [ByteArray.size_append, ByteArray.size_append, c1]; omega), hw, if_pos (by omega), w64 (by omega), drop_get l i (by omega),
      show ((i : Int) + 1) = ((i + 1 : Nat) : Int) by omega]
    exact ih k (i + 1) _ (by omega) (by omega) (by rw [ByteArray.size_append]; omega)
theorem implText_eq (l : List S39) (hl : l.length ≤ 1048576) (k : Nat) (hk : l.length + 3000 < k) : impl_StrokesText.f k l = some (if StrokesOK l then (strokesText l ⟨#[]⟩, true) else (⟨#[]⟩, false)) := by
  unfold impl_StrokesText.f
  rw [areStrokes_eq l hl k (by omega)]
  simp only [Option.bind_some, decide_eq_true_eq]
  by_cases h : StrokesOK l
  · rw [if_pos h, if_pos h]
    have := implText_loop l h.2 h.1 l.length k 0 ⟨#[]⟩ (by omega) (by omega) (Nat.le_refl 0)
    rw [List.drop_zero] at this
    exact this
  · rw [if_neg h, if_neg h]

theorem FnExactStrokesText (l : List S42) (hl : l.length ≤ maxLen) (_ : ∀ x ∈ l, (Lit.int .i64 x.f0).wf = true ∧ (Lit.int .i64 x.f1).wf = true) : ∃ k, laws_FnExactStrokesText.f k l = some true := by
  refine ⟨1058800, ?_⟩
  unfold laws_FnExactStrokesText.f
  rw [szStrokes_eq l hl]
  simp only [Option.bind_some]
  by_cases h : l.length ≤ 1048576
  · rw [if_pos h, if_neg (by omega), toStrokes_eq l h _ (by omega)]
    simp only [Option.bind_some]
    rw [specText_eq _ (by simpa using h) _ (by simp; omega), implText_eq _ (by simpa using h) _ (by simp; omega)]
    simp only [Option.bind_some, if_true, bne_self_eq_false]
    rw [laws_FnExactStrokesText.j0]
    simp only [Bool.false_eq_true, if_false]
    rw [toStrokes_eq l h _ (by omega)]
    simp only [Option.bind_some]
    rw [eqStrokes_self _ (by simpa using h) _ (by simp; omega)]
    simp
  · rw [if_neg h, if_pos (by omega)]
end Go.Proofs.YtadbebmcognplaaDoor.Pure
