import Derived.Shelf.GgSortMore.Stable
import Derived.Shelf.GgSortFunc.SmallK
import Derived.Deep.Cut
import Derived.Shelf.GgSortMore.Bridge
set_option linter.unusedVariables false
set_option linter.unusedSimpArgs false
namespace Go.Sort
variable {α : Type} [Inhabited α]
def gt (d : Array α) : Nat → α := fun t => d[t]!
def fv_ (a b n : Nat) (f f' : Nat → α) : Prop := ∀ t, f' t = if a ≤ t ∧ t < a + n then f (t + (b - a)) else if b ≤ t ∧ t < b + n then f (t - (b - a)) else f t
def de_ (a m b : Nat) (f f' : Nat → α) : Prop := ∀ t, f' t = if a ≤ t ∧ t < a + (b - m) then f (t + (m - a)) else if a + (b - m) ≤ t ∧ t < b then f (t - (b - m)) else f t
def kV_ (i j : Nat) (f f' : Nat → α) : Prop := ∀ t, f' t = if t = j then f i else if t = i then f j else f t
theorem mX_ (d : Array α) (i j : Nat) (hi : i < d.size) (hj : j < d.size) : kV_ i j (gt d) (gt (swp d i j)) := fun t => swp_get d hi hj t
omit [Inhabited α] in
theorem kz_ (a b : Nat) (f : Nat → α) : fv_ a b 0 f f := by
 intro t
 rw [if_neg (by omega), if_neg (by omega)]
omit [Inhabited α] in
theorem lm_ {a b n : Nat} {f f' f'' : Nat → α} (hab : a + n < b) (h : fv_ a b n f f') (hs : kV_ (a + n) (b + n) f' f'') : fv_ a b (n + 1) f f'' := by
 intro t
 rw [hs t]
 by_cases h1 : t = b + n
 ·rw [if_pos h1, h (a + n), if_neg (by omega), if_neg (by omega), if_neg (by omega), if_pos (by omega)]; exact congrArg f (by omega)
 ·rw [if_neg h1]
  by_cases h2 : t = a + n
  ·rw [if_pos h2, h (b + n), if_neg (by omega), if_neg (by omega), if_pos (by omega)]; exact congrArg f (by omega)
  ·rw [if_neg h2, h t]
   by_cases h3 : a ≤ t ∧ t < a + n
   ·rw [if_pos h3, if_pos (by omega)]
   ·rw [if_neg h3]
    by_cases h4 : b ≤ t ∧ t < b + n
    ·rw [if_pos h4, if_neg (by omega), if_pos (by omega)]
    ·rw [if_neg h4, if_neg (by omega), if_neg (by omega)]
omit [Inhabited α] in
theorem mW_ {m i : Nat} {f g : Nat → α} (hi : i ≤ m) (h : fv_ (m - i) m i f g) : de_ (m - i) m (m + i) f g := by
 intro t
 rw [h t]
 by_cases h1 : m - i ≤ t ∧ t < m - i + i
 ·rw [if_pos h1, if_pos (by omega)]
 ·rw [if_neg h1]
  by_cases h2 : m ≤ t ∧ t < m + i
  ·rw [if_pos h2, if_neg (by omega), if_pos (by omega)]; exact congrArg f (by omega)
  ·rw [if_neg h2, if_neg (by omega), if_neg (by omega)]
omit [Inhabited α] in
theorem lD_ {m i j : Nat} {f f' g : Nat → α} (hi : i ≤ m) (hj : 0 < j) (hij : j < i) (h : fv_ (m - i) m j f f') (hr : de_ (m - (i - j)) m (m + j) f' g) : de_ (m - i) m (m + j) f g := by
 intro t
 rw [hr t]
 by_cases h1 : m - i ≤ t ∧ t < m - i + (m + j - m)
 ·rw [if_neg (by omega), if_neg (by omega), if_pos h1, h t, if_pos (by omega)]
 ·rw [if_neg h1]
  by_cases h2 : m - i + (m + j - m) ≤ t ∧ t < m + j
  ·rw [if_pos h2]
   by_cases h3 : m - (i - j) ≤ t ∧ t < m - (i - j) + (m + j - m)
   ·rw [if_pos h3, h _]
    by_cases h4 : m ≤ t + (m - (m - (i - j))) ∧ t + (m - (m - (i - j))) < m + j
    ·rw [if_neg (by omega), if_pos h4]; exact congrArg f (by omega)
    ·exfalso; omega
   ·rw [if_neg h3, if_pos (by omega), h _]
    by_cases h4 : m - i ≤ t - (m + j - m) ∧ t - (m + j - m) < m - i + j
    ·exfalso; omega
    ·rw [if_neg h4, if_neg (by omega)]
  ·rw [if_neg h2, if_neg (by omega), if_neg (by omega), h t, if_neg (by omega), if_neg (by omega)]
omit [Inhabited α] in
theorem kt_ {m i j : Nat} {f f' g : Nat → α} (hi : i ≤ m) (h0 : 0 < i) (hij : i < j) (h : fv_ (m - i) (m + j - i) i f f') (hr : de_ (m - i) m (m + (j - i)) f' g) : de_ (m - i) m (m + j) f g := by
 intro t
 rw [hr t]
 by_cases h1 : m - i ≤ t ∧ t < m - i + (m + (j - i) - m)
 ·rw [if_pos h1, if_pos (by omega), h _]
  by_cases h4 : m - i ≤ t + (m - (m - i)) ∧ t + (m - (m - i)) < m - i + i
  ·exfalso; omega
  ·rw [if_neg h4, if_neg (by omega)]
 ·rw [if_neg h1]
  by_cases h2 : m - i + (m + (j - i) - m) ≤ t ∧ t < m + (j - i)
  ·rw [if_pos h2, h _, if_pos (by omega), if_pos (by omega)]; exact congrArg f (by omega)
  ·rw [if_neg h2, h t]
   by_cases h3 : m + j - i ≤ t ∧ t < m + j - i + i
   ·rw [if_neg (by omega), if_pos h3, if_neg (by omega), if_pos (by omega)]; exact congrArg f (by omega)
   ·rw [if_neg (by omega), if_neg h3, if_neg (by omega), if_neg (by omega)]
omit [Inhabited α] in
theorem gT_ (m b : Nat) (f : Nat → α) : de_ m m b f f := by
 intro t
 by_cases h1 : m ≤ t ∧ t < m + (b - m)
 ·rw [if_pos h1]; exact congrArg f (by omega)
 ·rw [if_neg h1, if_neg (by omega)]
omit [Inhabited α] in
theorem gI_ (a m : Nat) (f : Nat → α) (h : a ≤ m) : de_ a m m f f := by
 intro t
 rw [if_neg (by omega)]
 split
 ·exact congrArg f (by omega)
 ·rfl
omit [Inhabited α] in
theorem od_ {a k : Nat} {f f' f'' : Nat → α} (hk : a ≤ k) (h : de_ a (a + 1) (k + 1) f f') (hs : kV_ k (k + 1) f' f'') : de_ a (a + 1) (k + 2) f f'' := by
 intro t
 rw [hs t]
 by_cases h1 : t = k + 1
 ·rw [if_pos h1, h k, if_neg (by omega), if_pos (by omega), if_neg (by omega), if_pos (by omega)]; exact congrArg f (by omega)
 ·rw [if_neg h1]
  by_cases h2 : t = k
  ·rw [if_pos h2, h (k + 1), if_neg (by omega), if_neg (by omega), if_pos (by omega)]; exact congrArg f (by omega)
  ·rw [if_neg h2, h t]
   by_cases h3 : a ≤ t ∧ t < a + (k + 1 - (a + 1))
   ·rw [if_pos h3, if_pos (by omega)]
   ·rw [if_neg h3, if_neg (by omega), if_neg (by omega), if_neg (by omega)]
omit [Inhabited α] in
theorem lF_ {m k : Nat} {f f' f'' : Nat → α} (hk : k + 1 ≤ m) (h : de_ (k + 1) m (m + 1) f f') (hs : kV_ (k + 1) k f' f'') : de_ k m (m + 1) f f'' := by
 intro t
 rw [hs t]
 by_cases h1 : t = k
 ·rw [if_pos h1, h (k + 1), if_pos (by omega), if_pos (by omega)]; exact congrArg f (by omega)
 ·rw [if_neg h1]
  by_cases h2 : t = k + 1
  ·rw [if_pos h2, h k, if_neg (by omega), if_neg (by omega), if_neg (by omega), if_pos (by omega)]; exact congrArg f (by omega)
  ·rw [if_neg h2, h t]
   by_cases h3 : k + 1 + (m + 1 - m) ≤ t ∧ t < m + 1
   ·rw [if_neg (by omega), if_pos h3, if_neg (by omega), if_pos (by omega)]
   ·rw [if_neg (by omega), if_neg h3, if_neg (by omega), if_neg (by omega)]
def cX_ (lt : α → α → Bool) (a b : Nat) (f : Nat → α) : Prop := ∀ i j, a ≤ i → i < j → j < b → lt (f j) (f i) = false
omit [Inhabited α] in
theorem cX_.le {lt : α → α → Bool} (hO : SWO lt) {a b : Nat} {f : Nat → α} (h : cX_ lt a b f) {i j : Nat} (hi : a ≤ i) (hij : i ≤ j) (hj : j < b) : lt (f j) (f i) = false := by
 rcases Nat.lt_or_ge i j with e | e
 ·exact h i j hi e hj
 ·rw [show j = i by omega]; exact hO.irrefl _
omit [Inhabited α] in
theorem mt_ {lt : α → α → Bool} (hO : SWO lt) {x y : α} (hxy : lt x y = true) : lt y x = false := by
 cases hyx : lt y x with
 | false => rfl
 | true => have := hO.trans x y x hxy hyx; rw [hO.irrefl] at this; cases this
omit [Inhabited α] in
theorem nu_ {lt : α → α → Bool} (hO : SWO lt) {m b : Nat} {f : Nat → α} (h : cX_ lt m b f) (x : α) {i j : Nat} (hi : m ≤ i) (hij : i ≤ j) (hj : j < b) (hp : lt (f j) x = true) : lt (f i) x = true := by
 cases e : lt (f i) x with
 | true => rfl
 | false => rw [hO.ntrans _ _ _ (h.le hO hi hij hj) e] at hp; cases hp
omit [Inhabited α] in
theorem np_ {lt : α → α → Bool} (hO : SWO lt) {a m : Nat} {f : Nat → α} (h : cX_ lt a m f) (x : α) {i j : Nat} (hi : a ≤ i) (hij : i ≤ j) (hj : j < m) (hp : lt x (f i) = true) : lt x (f j) = true := by
 cases e : lt x (f j) with
 | true => rfl
 | false => rw [hO.ntrans _ _ _ e (h.le hO hi hij hj)] at hp; cases hp
omit [Inhabited α] in
theorem nt_ {lt : α → α → Bool} (hO : SWO lt) {a m b p : Nat} {f : Nat → α} (hl : cX_ lt a m f) (hr : cX_ lt m b f) {c c' : Nat} (h1 : a ≤ c) (h2 : c ≤ c') (h3 : c' < m) (h4 : m ≤ p - c') (h5 : p - c < b) (hp : lt (f (p - c)) (f c) = true) : lt (f (p - c')) (f c') = true := by
 cases e : lt (f (p - c')) (f c') with
 | true => rfl
 | false =>
  have e1 := hr.le hO h4 (show p - c' ≤ p - c by omega) h5
  rw [hO.ntrans _ _ _ e1 (hO.ntrans _ _ _ e (hl.le hO h1 h2 h3))] at hp; cases hp
omit [Inhabited α] in
theorem oq_ {lt : α → α → Bool} (hO : SWO lt) {a b i : Nat} {f f' : Nat → α} (hs : cX_ lt (a + 1) b f) (hi : a + 1 ≤ i) (hib : i ≤ b) (h1 : ∀ h, a + 1 ≤ h → h < i → lt (f h) (f a) = true) (h2 : ∀ h, i ≤ h → h < b → lt (f h) (f a) = false) (hr : de_ a (a + 1) i f f') : cX_ lt a b f' := by
 intro p q hp hpq hq
 rw [hr p, hr q]
 by_cases q1 : q < i - 1
 ·rw [if_pos (by omega), if_pos (by omega)]; exact hs _ _ (by omega) (by omega) (by omega)
 ·by_cases q2 : q = i - 1
  ·rw [if_neg (by omega), if_pos (by omega), if_pos (by omega), show q - (i - (a + 1)) = a by omega]
   exact mt_ hO (h1 _ (by omega) (by omega))
  ·rw [if_neg (by omega), if_neg (by omega)]
   by_cases p1 : p < i - 1
   ·rw [if_pos (by omega)]; exact hs _ _ (by omega) (by omega) (by omega)
   ·by_cases p2 : p = i - 1
    ·rw [if_neg (by omega), if_pos (by omega), show p - (i - (a + 1)) = a by omega]; exact h2 _ (by omega) (by omega)
    ·rw [if_neg (by omega), if_neg (by omega)]; exact hs _ _ (by omega) (by omega) (by omega)
omit [Inhabited α] in
theorem oC_ {lt : α → α → Bool} (hO : SWO lt) {a m i : Nat} {f f' : Nat → α} (hs : cX_ lt a m f) (hi : a ≤ i) (hib : i ≤ m) (h1 : ∀ h, a ≤ h → h < i → lt (f m) (f h) = false) (h2 : ∀ h, i ≤ h → h < m → lt (f m) (f h) = true) (hr : de_ i m (m + 1) f f') : cX_ lt a (m + 1) f' := by
 intro p q hp hpq hq
 rw [hr p, hr q]
 by_cases q1 : q < i
 ·rw [if_neg (by omega), if_neg (by omega), if_neg (by omega), if_neg (by omega)]; exact hs _ _ (by omega) (by omega) (by omega)
 ·by_cases q2 : q = i
  ·rw [if_pos (by omega), if_neg (by omega), if_neg (by omega), show q + (m - i) = m by omega]; exact h1 _ (by omega) (by omega)
  ·rw [if_neg (by omega), if_pos (by omega)]
   by_cases p1 : p < i
   ·rw [if_neg (by omega), if_neg (by omega)]; exact hs _ _ (by omega) (by omega) (by omega)
   ·by_cases p2 : p = i
    ·rw [if_pos (by omega), show p + (m - i) = m by omega]; exact mt_ hO (h2 _ (by omega) (by omega))
    ·rw [if_neg (by omega), if_pos (by omega)]; exact hs _ _ (by omega) (by omega) (by omega)
omit [Inhabited α] in
theorem oF_ {lt : α → α → Bool} (hO : SWO lt) {a m b mid s e s0 r0 : Nat} {f f' : Nat → α} (hl : cX_ lt a m f) (hr : cX_ lt m b f) (_ham : a < m) (_hmb : m < b) (hmid : mid = (a + b) / 2) (hcase : (mid < m ∧ s0 = mid + m - b ∧ r0 = mid) ∨ (m ≤ mid ∧ s0 = a ∧ r0 = m))
  (hs0 : s0 ≤ s) (hsr : s ≤ r0) (he : e = mid + m - s) (h1 : ∀ c, s0 ≤ c → c < s → lt (f (mid + m - 1 - c)) (f c) = false) (h2 : ∀ c, s ≤ c → c < r0 → lt (f (mid + m - 1 - c)) (f c) = true) (hR : de_ s m e f f') :
  a ≤ s ∧ s ≤ mid ∧ mid ≤ e ∧ e ≤ b ∧ s ≤ m ∧ m ≤ e ∧ cX_ lt a s f' ∧ cX_ lt s mid f' ∧ cX_ lt mid e f' ∧ cX_ lt e b f' ∧ ∀ p q, a ≤ p → p < mid → mid ≤ q → q < b → lt (f' q) (f' p) = false := by
 have b1 : a ≤ s ∧ s ≤ mid ∧ mid ≤ e ∧ e ≤ b ∧ s ≤ m ∧ m ≤ e ∧ s + (e - m) = mid := by omega
 obtain ⟨b1, b2, b3, b4, b5, b6, b7⟩ := b1
 have f1 : ∀ t, t < s → f' t = f t := fun t ht => by rw [hR t, if_neg (by omega), if_neg (by omega)]
 have f2 : ∀ t, s ≤ t → t < mid → f' t = f (t + (m - s)) := fun t h h' => by rw [hR t, if_pos (by omega)]
 have f3 : ∀ t, mid ≤ t → t < e → f' t = f (t - (e - m)) := fun t h h' => by rw [hR t, if_neg (by omega), if_pos (by omega)]
 have f4 : ∀ t, e ≤ t → f' t = f t := fun t h => by rw [hR t, if_neg (by omega), if_neg (by omega)]
 refine ⟨b1, b2, b3, b4, b5, b6, ?_, ?_, ?_, ?_, ?_⟩
 ·intro i j hi hij hj; rw [f1 i (by omega), f1 j hj]; exact hl i j hi hij (by omega)
 ·intro i j hi hij hj; rw [f2 i hi (by omega), f2 j (by omega) hj]; exact hr _ _ (by omega) (by omega) (by omega)
 ·intro i j hi hij hj; rw [f3 i hi (by omega), f3 j (by omega) hj]; exact hl _ _ (by omega) (by omega) (by omega)
 ·intro i j hi hij hj; rw [f4 i hi, f4 j (by omega)]; exact hr i j (by omega) hij hj
 ·intro p q hp hpm hq hqb
  by_cases ps : p < s
  ·rw [f1 p ps]
   by_cases qe : q < e
   ·rw [f3 q hq qe]; exact hl _ _ hp (by omega) (by omega)
   ·rw [f4 q (by omega)]
    have hc := h1 (s - 1) (by omega) (by omega)
    rw [show mid + m - 1 - (s - 1) = e by omega] at hc
    exact hO.ntrans _ _ _ (hO.ntrans _ _ _ (hr.le hO b6 (show e ≤ q by omega) hqb) hc) (hl.le hO hp (show p ≤ s - 1 by omega) (by omega))
  ·rw [f2 p (by omega) hpm]
   by_cases qe : q < e
   ·rw [f3 q hq qe]
    have hc := h2 s (Nat.le_refl _) (by omega)
    rw [show mid + m - 1 - s = e - 1 by omega] at hc
    exact hO.ntrans _ _ _ (hO.ntrans _ _ _ (hl.le hO b1 (show s ≤ q - (e - m) by omega) (by omega)) (mt_ hO hc)) (hr.le hO (show m ≤ p + (m - s) by omega) (show p + (m - s) ≤ e - 1 by omega) (by omega))
   ·rw [f4 q (by omega)]; exact hr _ _ (by omega) (by omega) hqb
theorem pM_ {lt : α → α → Bool} {a mid b : Nat} {d d1 d2 : Array α} (hab : a ≤ mid) (hmb : mid ≤ b) (hb : b ≤ d.size) (p1 : PermIn a mid d d1) (p2 : PermIn mid b d1 d2) (s1 : SortedIn lt a mid d1) (s2 : SortedIn lt mid b d2)
  (hx : ∀ p q, a ≤ p → p < mid → mid ≤ q → q < b → lt d[q]! d[p]! = false) : PermIn a b d d2 ∧ SortedIn lt a b d2 := by
 have hs : d1.size = d.size := p1.1
 refine ⟨permIn_trans _ _ _ _ _ (permIn_mono _ _ a mid a b (Nat.le_refl _) hmb hb p1) (permIn_mono _ _ mid b a b hab (Nat.le_refl _) (by rw [hs]; exact hb) p2), ?_⟩
 intro i j hi hij hj
 have l2 : ∀ t, t < mid → d2[t]! = d1[t]! := fun t ht => p2.2.1 t (Or.inl ht)
 have r1 : ∀ t, mid ≤ t → d1[t]! = d[t]! := fun t ht => p1.2.1 t (Or.inr ht)
 by_cases jm : j < mid
 ·rw [l2 i (by omega), l2 j jm]; exact s1 i j hi hij jm
 ·by_cases im : mid ≤ i
  ·exact s2 i j im hij hj
  ·rw [l2 i (by omega)]
   have q1 : ∀ q, mid ≤ q → q < b → lt d[q]! d1[i]! = false := fun q hq hq' =>
    permIn_all d d1 a mid (fun x => lt d[q]! x = false) (by omega) p1 (fun p hp hp' => hx p q hp hp' hq hq') i hi (by omega)
   exact permIn_all d1 d2 mid b (fun x => lt x d1[i]! = false) (by rw [hs]; exact hb) p2 (fun q hq hq' => by rw [r1 q hq]; exact q1 q hq hq') j (by omega) hj
def eJ_ (lt : α → α → Bool) (bs lo n : Nat) (f : Nat → α) : Prop := ∀ i j, lo ≤ i → i < j → j < n → i / bs = j / bs → lt (f j) (f i) = false
theorem l4_ {bs c i : Nat} (h : bs * c ≤ i) (h' : i < bs * c + bs) : i / bs = c := by
 have h0 : 0 < bs := by omega
 rw [Nat.div_eq_iff h0]
 refine ⟨by rw [Nat.mul_comm]; exact h, ?_⟩
 rw [Nat.mul_comm c bs]; omega
theorem oJ_ {bs c i j : Nat} (h0 : 0 < bs) (h : bs * c ≤ j) (e : i / bs = j / bs) : bs * c ≤ i := by
 have h1 : c ≤ j / bs := by rw [Nat.le_div_iff_mul_le h0, Nat.mul_comm]; exact h
 rw [← e, Nat.le_div_iff_mul_le h0, Nat.mul_comm] at h1
 exact h1
omit [Inhabited α] in
theorem eJ_.sort {lt : α → α → Bool} {bs lo n c : Nat} {f : Nat → α} (h : eJ_ lt bs lo n f) (hc : lo ≤ bs * c) {u : Nat} (hu : u ≤ n) (hu' : u ≤ bs * c + bs) : cX_ lt (bs * c) u f := fun i j hi hij hj => h i j (by omega) hij (by omega) ((l4_ hi (by omega)).trans (l4_ (c := c) (by omega) (by omega)).symm)
theorem f7_ {lt : α → α → Bool} {bs c u : Nat} {d d' : Array α} (h0 : 0 < bs) (h : eJ_ lt bs 0 (bs * c) (gt d)) (p : PermIn (bs * c) u d d') (s : SortedIn lt (bs * c) u d') : eJ_ lt bs 0 u (gt d') := by
 intro i j _ hij hj e
 by_cases jm : j < bs * c
 ·have e1 : gt d' i = gt d i := p.2.1 i (Or.inl (by omega))
  have e2 : gt d' j = gt d j := p.2.1 j (Or.inl jm)
  rw [e1, e2]; exact h i j (Nat.zero_le _) hij jm e
 ·exact s i j (oJ_ h0 (by omega) e) hij hj
omit [Inhabited α] in
theorem nD_ {lt : α → α → Bool} {bs n : Nat} {f : Nat → α} (h : eJ_ lt bs 0 n f) (hn : n ≤ bs) : cX_ lt 0 n f := fun i j hi hij hj => h i j hi hij hj (by rw [Nat.div_eq_of_lt (by omega), Nat.div_eq_of_lt (by omega)])
theorem m3_ {lt : α → α → Bool} {bs lo u n : Nat} {d d' : Array α} (hlu : lo ≤ u) (p : PermIn lo u d d') (h : eJ_ lt bs lo n (gt d)) : eJ_ lt bs u n (gt d') := by
 intro i j hi hij hj e
 have e1 : gt d' i = gt d i := p.2.1 i (Or.inr hi)
 have e2 : gt d' j = gt d j := p.2.1 j (Or.inr (by omega))
 rw [e1, e2]; exact h i j (by omega) hij hj e
end Go.Sort
namespace Go.Proofs
open Go.Shelf Go.RowKit Go.Lib Go.Sort
variable {P : Program} {ρ : Ren} {α : Type} [Inhabited α]
def SWK (enc : α → List Value) (k : Nat) (w0 : World) (blk off : Nat) (dk : Array α) (W : World) : Prop :=
 w0.grownBy W (some blk) ∧ W.heap[blk]? = (w0.heap[blk]?).map (onCells (putCells id off (flatK enc k dk)))
def db_ (P : Program) (g : Nat) (lb : Array Value) (enc : α → List Value) (k : Nat) (lt : α → α → Bool) (blk off size : Nat) (w : World) : Prop :=
 ∀ (W : World) (dk : Array α), SWK enc k w blk off dk W → dk.size = size → ∀ i j : Nat, i < size → j < size →
  Calls P g (#[.int .i64 i, .int .i64 j] ++ lb) W fun e w' => e = .returned (.bool (lt dk[i]! dk[j]!)) ∧ Go.RowKit.Below W.heap.size W w'
theorem jv_ (w : World) (row : Option Nat) : w.grownBy w row := ⟨rfl, rfl, rfl, Nat.le_refl _, fun _ _ _ => rfl⟩
theorem e1_ {w w1 w2 : World} {row : Option Nat} (h : w.grownBy w1 row) (h' : w1.grownBy w2 row) : w.grownBy w2 row :=
 ⟨h'.os.trans h.os, h'.tape.trans h.tape, h'.output.trans h.output, Nat.le_trans h.size h'.size, fun k hk hne => (h'.block k (Nat.lt_of_lt_of_le hk h.size) hne).trans (h.block k hk hne)⟩
theorem f9_ {w w1 : World} {row : Option Nat} (h : Go.RowKit.Below w.heap.size w w1) : w.grownBy w1 row := ⟨h.os, h.tape, h.output, h.size, fun k hk _ => h.block k hk⟩
theorem jB_ (w : World) (q : Nat) : Go.RowKit.Below w.heap.size w (w.drewN q) := ⟨rfl, rfl, rfl, Nat.le_refl _, fun _ _ => rfl⟩
theorem jz_ (w : World) (o : Obj) : Go.RowKit.Below w.heap.size w (w.alloc o) := (Go.RowKit.Below.refl _ w).alloc (Nat.le_refl _) o
theorem mf_ {w : World} {blk : Nat} {f : Array Value → Array Value} (h : mapBlock w blk f = w) : w.heap[blk]? = (w.heap[blk]?).map (onCells f) := by
 have := congrArg (fun W : World => W.heap[blk]?) h
 simp only [mapBlock, Array.getElem?_modify, if_true] at this
 exact this.symm
theorem gE_ (off : Nat) (F F' c : Array Value) (h : F'.size = F.size) : putCells id off F' (putCells id off F c) = putCells id off F' c := by
 apply Array.ext_getElem?
 intro t
 simp only [putCells, Array.getElem?_mapIdx, Option.map_map]
 congr 1
 funext x
 simp only [Function.comp, h]
 split <;> rfl
section
variable {enc : α → List Value} {k : Nat} {w0 W : World} {blk off : Nat} {dk : Array α}
theorem SWK.start (h : HoldsK enc k w0 blk off dk) : SWK enc k w0 blk off dk w0 := ⟨jv_ _ _, mf_ (putRowK_self enc k w0 blk off dk h)⟩
theorem SWK.below (h : SWK enc k w0 blk off dk W) (hblk : blk < w0.heap.size) {W' : World} (hb : Go.RowKit.Below W.heap.size W W') : SWK enc k w0 blk off dk W' :=
 ⟨e1_ h.1 (f9_ hb), (hb.block blk (Nat.lt_of_lt_of_le hblk h.1.size)).trans h.2⟩
theorem SWK.drewN (h : SWK enc k w0 blk off dk W) (q : Nat) : SWK enc k w0 blk off dk (W.drewN q) := ⟨e1_ h.1 (f9_ (jB_ W q)), h.2⟩
theorem SWK.alloc (h : SWK enc k w0 blk off dk W) (hblk : blk < w0.heap.size) (o : Obj) : SWK enc k w0 blk off dk (W.alloc o) := h.below hblk (jz_ W o)
theorem SWK.le (h : SWK enc k w0 blk off dk W) : w0.heap.size ≤ W.heap.size := h.1.size
theorem SWK.lt (h : SWK enc k w0 blk off dk W) (hblk : blk < w0.heap.size) : blk < W.heap.size := Nat.lt_of_lt_of_le hblk h.le
theorem SWK.on (h : SWK enc k w0 blk off dk W) (hblk : blk < w0.heap.size) {dk' : Array α} {W' : World} (h' : SWK enc k W blk off dk' W') (hs : dk'.size = dk.size) : SWK enc k w0 blk off dk' W' := by
 refine ⟨e1_ h.1 h'.1, ?_⟩
 rw [h'.2, h.2, Option.map_map]
 congr 1
 funext o
 cases o with
 | cells c e fr => simp only [Function.comp, onCells]; rw [gE_ _ _ _ _ (by rw [size_flatK, size_flatK, hs])]
 | _ => rfl
theorem SWK.holds (h : SWK enc k w0 blk off dk W) (hblk : blk < w0.heap.size) {d0 : Array α} (h0 : HoldsK enc k w0 blk off d0) (hs : dk.size = d0.size) : HoldsK enc k W blk off dk := by
 have hp := holdsK_putRowK enc k w0 blk off d0 dk h0 hs
 have e : W.heap[blk]? = (putRowK enc k w0 blk off dk).heap[blk]? := by
  rw [h.2]; unfold putRowK putRow mapBlock; simp only [Array.getElem?_modify, if_true]
 intro j hj
 have := hp j hj
 refine ⟨(World.cell?_of_block (a := ⟨blk, off + j, none⟩) e).trans this.1, (World.frozen?_of_block (a := ⟨blk, off + j, none⟩) e).trans this.2⟩
theorem SWK.cell (h : SWK enc k w0 blk off dk W) (a : Addr) (ha : a.block ≠ blk) (hb : a.block < w0.heap.size) : W.cell? a = w0.cell? a :=
 World.cell?_of_block (h.1.block a.block hb (fun e => ha (Option.some.inj e)))
theorem kS_ (enc : α → List Value) (k : Nat) (W : World) (blk off : Nat) (d : Array α) : SWK enc k W blk off d (putRowK enc k W blk off d) := by
 refine ⟨⟨rfl, rfl, rfl, by unfold putRowK putRow mapBlock; simp, fun i hi hne => ?_⟩, ?_⟩
 ·unfold putRowK putRow mapBlock
  rw [Array.getElem?_modify, if_neg (fun e => hne (by rw [e]))]
 ·unfold putRowK putRow mapBlock
  simp only [Array.getElem?_modify, if_true]
theorem SWK.swap (hk : ∀ x, (enc x).length = k) (h : SWK enc k w0 blk off dk W) (hblk : blk < w0.heap.size) {d0 : Array α} (h0 : HoldsK enc k w0 blk off d0) (hs : dk.size = d0.size) (i j : Nat) (hi : i < dk.size) (hj : j < dk.size) :
  SWK enc k w0 blk off (swp dk i j) ((W.setCells blk (off + i * k) (enc dk[j]!)).setCells blk (off + j * k) (enc dk[i]!)) := by
 have hH := h.holds hblk h0 hs
 have e := swap_worldK enc k hk W 0 0 blk off dk i j hi hj
 have e0 : putRowK enc k (Sort.ahead W 0) blk off dk = W := putRowK_self enc k W blk off dk hH
 rw [e0] at e
 have e1 : W.drewN 0 = W := rfl
 rw [e1] at e
 rw [e]
 exact SWK.on h hblk (kS_ enc k W blk off (swp dk i j)) (by rw [size_swp])
theorem SWK.less {g : Nat} {lb : Array Value} {lt : α → α → Bool} {size : Nat} (h : SWK enc k w0 blk off dk W) (hblk : blk < w0.heap.size) (hL : db_ P g lb enc k lt blk off size w0) (hs : dk.size = size) (i j : Nat) (hi : i < size) (hj : j < size) :
  Calls P g (#[.int .i64 i, .int .i64 j] ++ lb) W fun e w' => e = .returned (.bool (lt dk[i]! dk[j]!)) ∧ Hid (SWK enc k w0 blk off dk w') :=
 (hL W dk h hs i j hi hj).mono fun e w' ⟨he, hb⟩ => ⟨he, h.below hblk hb⟩
theorem SWK.lessReads {g : Nat} {lb : Array Value} {lt : α → α → Bool} {size : Nat} (h : SWK enc k w0 blk off dk W) (hL : db_ P g lb enc k lt blk off size w0) (hblk : blk < w0.heap.size) (hs : dk.size = size) : db_ P g lb enc k lt blk off size W :=
 fun W' dk' h' hs' i j hi hj => hL W' dk' (SWK.on h hblk h' (by rw [hs', hs])) hs' i j hi hj
end
set_option maxHeartbeats 2000000 in
set_option maxRecDepth 100000 in
theorem fZ_ (L : LaysGt.n49 P ρ) (enc : α → List Value) (k : Nat) (hk : ∀ x, (enc x).length = k) (g : Nat) (lb : Array Value) (sf : Nat) (sb : Array Value) (blk off a b n : Nat) (d : Array α) (W : World)
  (hswap : SwapSwapsK P sf sb enc k blk off d.size) (hH : HoldsK enc k W blk off d) (hblk : blk < W.heap.size) (hab : a + n ≤ b) (hb : b + n ≤ d.size) (hsz : d.size < 1152921504606846976) :
  Calls P (ρ.f 49) #[.agg #[.func (.func g) #[] lb, .func (.func sf) #[] sb], .int .i64 a, .int .i64 b, .int .i64 n] W fun e w' =>
   e = .returned (.tuple #[]) ∧ ∃ d', fv_ a b n (gt d) (gt d') ∧ PermIn a (b + n) d d' ∧ SWK enc k W blk off d' w' := by
 have mixed := L.mixed; have t0 := L.t0; have a0 := L.a0; have z0 := L.z0; have v0 := L.v0; have t3 := L.t3; have a3 := L.a3; have z3 := L.z3; have v3 := L.v3; have t4 := L.t4; have a4 := L.a4; have z4 := L.z4; have v4 := L.v4; have t26 := L.t26; have a26 := L.a26; have z26 := L.z26; have v26 := L.v26; have t38 := L.t38; have a38 := L.a38; have z38 := L.z38; have v38 := L.v38; have t42 := L.t42; have a42 := L.a42; have z42 := L.z42; have v42 := L.v42
 have u42 := run_underlying L.t42
 have hW1 : SWK enc k W blk off d (W.alloc (.cells #[.func (.func g) #[] lb, .func (.func sf) #[] sb] (ρ.t 42))) := (SWK.start hH).alloc hblk _
 have hH1 : HoldsK enc k (W.alloc (.cells #[.func (.func g) #[] lb, .func (.func sf) #[] sb] (ρ.t 42))) blk off d := hW1.holds hblk hH rfl
 have hb1 : blk < (W.alloc (.cells #[.func (.func g) #[] lb, .func (.func sf) #[] sb] (ρ.t 42))).heap.size := hW1.lt hblk
 have hB1 : W.heap.size < (W.alloc (.cells #[.func (.func g) #[] lb, .func (.func sf) #[] sb] (ρ.t 42))).heap.size := by rw [alloc_eq_grow, size_grow]; show _ < _ + 1; omega
 have b1 : (W.alloc (.cells #[.func (.func g) #[] lb, .func (.func sf) #[] sb] (ρ.t 42))).cell? ⟨W.heap.size, 1, none⟩ = some (.func (.func sf) #[] sb) := by simp
 have AW : Hid _ := hW1
 have AH : Hid _ := hH1
 have A1 : Hid _ := b1
 clear hW1 hH1 b1
 go_enter L.f49, BodyGt.n49_ntmps ρ
 go_wp2
 go_loopw [8] (fun vi wr => ∃ (i : Nat) (dk : Array α), vi = .int .i64 i ∧ i ≤ n ∧ dk.size = d.size ∧ Hid (fv_ a b i (gt d) (gt dk)) ∧ Hid (PermIn a (b + n) d dk) ∧ Hid (SWK enc k (W.alloc (.cells #[.func (.func g) #[] lb, .func (.func sf) #[] sb] (ρ.t 42))) blk off dk wr))
  (fun vi _ => n - (intOf vi).toNat)
 case atStart => exact ⟨0, d, rfl, Nat.zero_le _, rfl, kz_ _ _ _, permIn_refl _ _ _, SWK.start AH.out⟩
 case round =>
  obtain ⟨i, dk, rfl, hin, hs, hR, hP, hS⟩ := hrel
  have c1 : wr.cell? ⟨W.heap.size, 1, none⟩ = some (.func (.func sf) #[] sb) := by rw [hS.out.cell _ (by show W.heap.size ≠ blk; omega) hB1]; exact A1.out
  by_cases hlt : i < n
  ·have hsw := hswap wr dk (hS.out.holds hb1 AH.out hs) hs (a + i) (b + i) (by omega) (by omega)
   rw [show ((a + i : Nat) : Int) = (a : Int) + (i : Int) by omega, show ((b + i : Nat) : Int) = (b : Int) + (i : Int) by omega] at hsw
   have hS' := hS.out.swap hk hb1 AH.out hs (a + i) (b + i) (by omega) (by omega)
   have hR' := lm_ (by omega) hR.out (mX_ dk (a + i) (b + i) (by omega) (by omega))
   have hP' := permIn_trans _ _ _ _ _ hP.out (swp_permIn dk a (b + n) (a + i) (b + i) (by omega) (by omega) (by omega) (by omega) (by omega))
   have B1 : Hid _ := hS'
   have B2 : Hid _ := hR'
   have B3 : Hid _ := hP'
   clear hS' hR' hP'
   go_wp2
   refine ⟨⟨i + 1, swp dk (a + i) (b + i), by go_num, by omega, by rw [size_swp]; exact hs, B2, B3, B1⟩, ?_⟩
   simp [intOf]; omega
  ·go_wp2
   go_end0
   have e : i = n := by omega
   subst e
   exact ⟨rfl, dk, hR.out, hP.out, SWK.on AW.out hblk hS.out hs⟩
end Go.Proofs
namespace Go.Proofs
open Go.Shelf Go.RowKit Go.Lib Go.Sort
variable {P : Program} {ρ : Ren} {α : Type} [Inhabited α]
set_option maxHeartbeats 2000000 in
set_option maxRecDepth 100000 in
theorem nK_ (L : LaysGt.n42 P ρ) (enc : α → List Value) (k : Nat) (hk : ∀ x, (enc x).length = k) (g : Nat) (lb : Array Value) (sf : Nat) (sb : Array Value) (blk off a m b : Nat) (d : Array α) (W : World)
  (hswap : SwapSwapsK P sf sb enc k blk off d.size) (hH : HoldsK enc k W blk off d) (hblk : blk < W.heap.size) (ham : a < m) (hmb : m < b) (hb : b ≤ d.size) (hsz : d.size < 1152921504606846976) :
  Calls P (ρ.f 42) #[.agg #[.func (.func g) #[] lb, .func (.func sf) #[] sb], .int .i64 a, .int .i64 m, .int .i64 b] W fun e w' =>
   e = .returned (.tuple #[]) ∧ ∃ d', de_ a m b (gt d) (gt d') ∧ PermIn a b d d' ∧ SWK enc k W blk off d' w' := by
 have mixed := L.mixed; have t0 := L.t0; have a0 := L.a0; have z0 := L.z0; have v0 := L.v0; have t3 := L.t3; have a3 := L.a3; have z3 := L.z3; have v3 := L.v3; have t4 := L.t4; have a4 := L.a4; have z4 := L.z4; have v4 := L.v4; have t26 := L.t26; have a26 := L.a26; have z26 := L.z26; have v26 := L.v26; have t38 := L.t38; have a38 := L.a38; have z38 := L.z38; have v38 := L.v38; have t42 := L.t42; have a42 := L.a42; have z42 := L.z42; have v42 := L.v42
 have u42 := run_underlying L.t42
 have e49 : ∀ args w, (callFunc (ρ.f 49) args).run P w = .ok (.enter (ρ.f 49) args) w := enters_of L.f49 (by kernel_rfl) rfl
 have hW1 : SWK enc k W blk off d (W.alloc (.cells #[.func (.func g) #[] lb, .func (.func sf) #[] sb] (ρ.t 42))) := (SWK.start hH).alloc hblk _
 have hH1 : HoldsK enc k (W.alloc (.cells #[.func (.func g) #[] lb, .func (.func sf) #[] sb] (ρ.t 42))) blk off d := hW1.holds hblk hH rfl
 have hb1 : blk < (W.alloc (.cells #[.func (.func g) #[] lb, .func (.func sf) #[] sb] (ρ.t 42))).heap.size := hW1.lt hblk
 have hB1 : W.heap.size < (W.alloc (.cells #[.func (.func g) #[] lb, .func (.func sf) #[] sb] (ρ.t 42))).heap.size := by rw [alloc_eq_grow, size_grow]; show _ < _ + 1; omega
 have b0 : (W.alloc (.cells #[.func (.func g) #[] lb, .func (.func sf) #[] sb] (ρ.t 42))).cell? ⟨W.heap.size, 0, none⟩ = some (.func (.func g) #[] lb) := by simp
 have b1 : (W.alloc (.cells #[.func (.func g) #[] lb, .func (.func sf) #[] sb] (ρ.t 42))).cell? ⟨W.heap.size, 1, none⟩ = some (.func (.func sf) #[] sb) := by simp
 have AW : Hid _ := hW1
 have AH : Hid _ := hH1
 have A0 : Hid _ := b0
 have A1 : Hid _ := b1
 clear hW1 hH1 b0 b1
 have LR : LaysGt.n49 P ρ := { L with }
 go_enter L.f42, BodyGt.n42_ntmps ρ
 go_wp2
 go_loopw [8, 9] (fun vi vj wr => ∃ (i j : Nat) (dk : Array α), vi = .int .i64 i ∧ vj = .int .i64 j ∧ 0 < i ∧ 0 < j ∧ a + i ≤ m ∧ m + j ≤ b ∧ dk.size = d.size ∧ Hid (∀ g, de_ (m - i) m (m + j) (gt dk) g → de_ a m b (gt d) g) ∧ Hid (PermIn a b d dk) ∧ Hid (SWK enc k (W.alloc (.cells #[.func (.func g) #[] lb, .func (.func sf) #[] sb] (ρ.t 42))) blk off dk wr))
  (fun vi vj _ => (intOf vi).toNat + (intOf vj).toNat)
 case atStart => exact ⟨m - a, b - m, d, by go_num, by go_num, by omega, by omega, by omega, by omega, rfl, fun g h => by rw [show m - (m - a) = a by omega, show m + (b - m) = b by omega] at h; exact h, permIn_refl _ _ _, SWK.start AH.out⟩
 case round =>
  obtain ⟨i, j, dk, rfl, rfl, hi0, hj0, hia, hjb, hs, hR, hP, hS⟩ := hrel
  have c0 : wr.cell? ⟨W.heap.size, 0, none⟩ = some (.func (.func g) #[] lb) := by rw [hS.out.cell _ (by show W.heap.size ≠ blk; omega) hB1]; exact A0.out
  have c1 : wr.cell? ⟨W.heap.size, 1, none⟩ = some (.func (.func sf) #[] sb) := by rw [hS.out.cell _ (by show W.heap.size ≠ blk; omega) hB1]; exact A1.out
  have hsw : SwapSwapsK P sf sb enc k blk off dk.size := by rw [hs]; exact hswap
  by_cases hij : i = j
  ·subst hij
   have hc := fZ_ LR enc k hk g lb sf sb blk off (m - i) m i dk wr hsw (hS.out.holds hb1 AH.out hs) (hS.out.lt hb1) (by omega) (by omega) (by omega)
   rw [show ((m - i : Nat) : Int) = (m : Int) - (i : Int) by omega] at hc
   have HS : Hid _ := hsw
   clear hsw
   go_wp2_with (go_at_fn (ρ.f 49); refine hc.mono ?_; rintro e w1 ⟨rfl, d1, hR1, hP1, hS1⟩)
   go_end0
   exact ⟨rfl, d1, hR.out _ (mW_ (by omega) hR1), permIn_trans _ _ _ _ _ hP.out (permIn_mono _ _ (m - i) (m + i) a b (by omega) (by omega) (by omega) hP1), SWK.on AW.out hblk (SWK.on hS.out hb1 hS1 hP1.1) (hP1.1.trans hs)⟩
  ·by_cases hgt : j < i
   ·have hc := fZ_ LR enc k hk g lb sf sb blk off (m - i) m j dk wr hsw (hS.out.holds hb1 AH.out hs) (hS.out.lt hb1) (by omega) (by omega) (by omega)
    rw [show ((m - i : Nat) : Int) = (m : Int) - (i : Int) by omega] at hc
    have HS : Hid _ := hsw
    clear hsw
    have hij' : ¬ ((i : Int) = (j : Int)) := by omega
    go_wp2_with (go_at_fn (ρ.f 49); refine hc.mono ?_; rintro e w1 ⟨rfl, d1, hR1, hP1, hS1⟩)
    refine ⟨⟨i - j, j, d1, by go_num, rfl, by omega, hj0, by omega, hjb, hP1.1.trans hs, ?_, ?_, ?_⟩, ?_⟩
    ·exact fun g h => hR.out g (lD_ (by omega) hj0 hgt hR1 h)
    ·exact permIn_trans _ _ _ _ _ hP.out (permIn_mono _ _ (m - i) (m + j) a b (by omega) (by omega) (by omega) hP1)
    ·exact SWK.on hS.out hb1 hS1 hP1.1
    ·simp [intOf]; omega
   ·have hc := fZ_ LR enc k hk g lb sf sb blk off (m - i) (m + j - i) i dk wr hsw (hS.out.holds hb1 AH.out hs) (hS.out.lt hb1) (by omega) (by omega) (by omega)
    rw [show ((m - i : Nat) : Int) = (m : Int) - (i : Int) by omega, show ((m + j - i : Nat) : Int) = (m : Int) + (j : Int) - (i : Int) by omega] at hc
    have HS : Hid _ := hsw
    clear hsw
    have hij' : ¬ ((i : Int) = (j : Int)) := by omega
    go_wp2_with (go_at_fn (ρ.f 49); refine hc.mono ?_; rintro e w1 ⟨rfl, d1, hR1, hP1, hS1⟩)
    refine ⟨⟨i, j - i, d1, rfl, by go_num, hi0, by omega, hia, by omega, hP1.1.trans hs, ?_, ?_, ?_⟩, ?_⟩
    ·exact fun g h => hR.out g (kt_ (by omega) hi0 (by omega) hR1 h)
    ·exact permIn_trans _ _ _ _ _ hP.out (permIn_mono _ _ (m - i) (m + j - i + i) a b (by omega) (by omega) (by omega) hP1)
    ·exact SWK.on hS.out hb1 hS1 hP1.1
    ·simp [intOf]; omega
end Go.Proofs
namespace Go.Proofs
open Go.Shelf Go.RowKit Go.Lib Go.Sort
variable {P : Program} {ρ : Ren} {α : Type} [Inhabited α]
set_option maxHeartbeats 4000000 in
set_option maxRecDepth 100000 in
theorem l8_ (L : LaysGt.n30 P ρ) (enc : α → List Value) (k : Nat) (hk : ∀ x, (enc x).length = k) (lt : α → α → Bool) (hO : SWO lt) (g : Nat) (lb : Array Value) (sf : Nat) (sb : Array Value) (blk off a b : Nat) (d : Array α) (W : World)
  (eg : ∀ args w, (callFunc g args).run P w = .ok (.enter g args) w) (hless : db_ P g lb enc k lt blk off d.size W)
  (hswap : SwapSwapsK P sf sb enc k blk off d.size) (hH : HoldsK enc k W blk off d) (hblk : blk < W.heap.size) (hab : a + 1 < b) (hb : b ≤ d.size) (hsz : d.size < 1152921504606846976) (hR : SortedIn lt (a + 1) b d) :
  Calls P (ρ.f 30) #[.agg #[.func (.func g) #[] lb, .func (.func sf) #[] sb], .int .i64 a, .int .i64 ((a : Int) + 1), .int .i64 b] W fun e w' =>
   e = .returned (.tuple #[]) ∧ ∃ d', PermIn a b d d' ∧ SortedIn lt a b d' ∧ SWK enc k W blk off d' w' := by
 have mixed := L.mixed; have t0 := L.t0; have a0 := L.a0; have z0 := L.z0; have v0 := L.v0; have t3 := L.t3; have a3 := L.a3; have z3 := L.z3; have v3 := L.v3; have t4 := L.t4; have a4 := L.a4; have z4 := L.z4; have v4 := L.v4; have t26 := L.t26; have a26 := L.a26; have z26 := L.z26; have v26 := L.v26; have t38 := L.t38; have a38 := L.a38; have z38 := L.z38; have v38 := L.v38; have t42 := L.t42; have a42 := L.a42; have z42 := L.z42; have v42 := L.v42; have t47 := L.t47; have a47 := L.a47; have z47 := L.z47; have v47 := L.v47
 have u42 := run_underlying L.t42
 have hW1 : SWK enc k W blk off d (W.alloc (.cells #[.func (.func g) #[] lb, .func (.func sf) #[] sb] (ρ.t 42))) := (SWK.start hH).alloc hblk _
 have hH1 : HoldsK enc k (W.alloc (.cells #[.func (.func g) #[] lb, .func (.func sf) #[] sb] (ρ.t 42))) blk off d := hW1.holds hblk hH rfl
 have hL1 : db_ P g lb enc k lt blk off d.size (W.alloc (.cells #[.func (.func g) #[] lb, .func (.func sf) #[] sb] (ρ.t 42))) := hW1.lessReads hless hblk rfl
 have hb1 : blk < (W.alloc (.cells #[.func (.func g) #[] lb, .func (.func sf) #[] sb] (ρ.t 42))).heap.size := hW1.lt hblk
 have hB1 : W.heap.size < (W.alloc (.cells #[.func (.func g) #[] lb, .func (.func sf) #[] sb] (ρ.t 42))).heap.size := by rw [alloc_eq_grow, size_grow]; show _ < _ + 1; omega
 have b0 : (W.alloc (.cells #[.func (.func g) #[] lb, .func (.func sf) #[] sb] (ρ.t 42))).cell? ⟨W.heap.size, 0, none⟩ = some (.func (.func g) #[] lb) := by simp
 have b1 : (W.alloc (.cells #[.func (.func g) #[] lb, .func (.func sf) #[] sb] (ρ.t 42))).cell? ⟨W.heap.size, 1, none⟩ = some (.func (.func sf) #[] sb) := by simp
 have AW : Hid _ := hW1
 have AH : Hid _ := hH1
 have AL : Hid _ := hL1
 have A0 : Hid _ := b0
 have A1 : Hid _ := b1
 have AR : Hid _ := hR
 clear hW1 hH1 b0 b1 hL1 hless hR
 go_enter L.f30, BodyGt.n30_ntmps ρ
 go_wp2
 rw [show ((a : Int) + 1 - (a : Int) == 1) = true by rw [beq_iff_eq]; omega]
 go_loopw [8, 9] (fun vi vj wr => ∃ (i j : Nat), vi = .int .i64 i ∧ vj = .int .i64 j ∧ a + 1 ≤ i ∧ i ≤ j ∧ j ≤ b ∧ Hid (∀ h, a + 1 ≤ h → h < i → lt d[h]! d[a]! = true) ∧ Hid (∀ h, j ≤ h → h < b → lt d[h]! d[a]! = false) ∧ Hid (SWK enc k (W.alloc (.cells #[.func (.func g) #[] lb, .func (.func sf) #[] sb] (ρ.t 42))) blk off d wr))
  (fun vi vj _ => (intOf vj).toNat - (intOf vi).toNat)
 case atStart => exact ⟨a + 1, b, by go_num, rfl, Nat.le_refl _, by omega, Nat.le_refl _, fun h h1 h2 => absurd h1 (by omega), fun h h1 h2 => absurd h1 (by omega), SWK.start AH.out⟩
 case round =>
  obtain ⟨i, j, rfl, rfl, hia, hij, hjb, hT, hF, hS⟩ := hrel
  have c0 : wr.cell? ⟨W.heap.size, 0, none⟩ = some (.func (.func g) #[] lb) := by rw [hS.out.cell _ (by show W.heap.size ≠ blk; omega) hB1]; exact A0.out
  by_cases hlt : i < j
  ·have hl := SWK.less hS.out hb1 AL.out rfl ((i + j) / 2) a (by omega) (by omega)
   rw [show (((i + j) / 2 : Nat) : Int) = ((i : Int) + (j : Int)) / 2 by omega] at hl
   cases hlv : lt d[(i + j) / 2]! d[a]! with
   | true =>
    rw [hlv] at hl
    go_wp2_with (go_at_fn g; refine hl.mono ?_; rintro e w' ⟨rfl, hS'⟩)
    go_roundw
    case rel => exact ⟨(i + j) / 2 + 1, j, by go_num, rfl, by omega, by omega, hjb, fun h h1 h2 => nu_ hO (f := gt d) AR.out _ h1 (show h ≤ (i + j) / 2 by omega) (by omega) hlv, hF, hS'⟩
    case measure => simp [intOf]; omega
   | false =>
    rw [hlv] at hl
    go_wp2_with (go_at_fn g; refine hl.mono ?_; rintro e w' ⟨rfl, hS'⟩)
    have hF' : ∀ h, (i + j) / 2 ≤ h → h < b → lt d[h]! d[a]! = false := by
     intro h h1 h2
     cases hv : lt d[h]! d[a]! with
     | false => rfl
     | true =>
      have := nu_ hO (f := gt d) AR.out d[a]! (show a + 1 ≤ (i + j) / 2 by omega) h1 h2 hv
      rw [show gt d ((i + j) / 2) = d[(i + j) / 2]! from rfl, hlv] at this; cases this
    go_roundw
    case rel => exact ⟨i, (i + j) / 2, rfl, by go_num, hia, by omega, by omega, hT, hF', hS'⟩
    case measure => simp [intOf]; omega
  ·have e : j = i := by omega
   subst e
   go_wp2
   go_loopw [11] (fun vk wr => ∃ (kk : Nat) (dk : Array α), vk = .int .i64 kk ∧ a ≤ kk ∧ kk + 1 ≤ j ∧ dk.size = d.size ∧ Hid (de_ a (a + 1) (kk + 1) (gt d) (gt dk)) ∧ Hid (PermIn a b d dk) ∧ Hid (SWK enc k (W.alloc (.cells #[.func (.func g) #[] lb, .func (.func sf) #[] sb] (ρ.t 42))) blk off dk wr))
    (fun vk _ => j - (intOf vk).toNat)
   case atStart => exact ⟨a, d, rfl, Nat.le_refl _, hia, rfl, gI_ _ _ _ (by omega), permIn_refl _ _ _, hS⟩
   case round =>
    clear c0 hS
    obtain ⟨kk, dk, rfl, hak, hkj, hs, hR, hP, hS⟩ := hrel
    have c1 : wr.cell? ⟨W.heap.size, 1, none⟩ = some (.func (.func sf) #[] sb) := by rw [hS.out.cell _ (by show W.heap.size ≠ blk; omega) hB1]; exact A1.out
    by_cases hlt2 : kk + 1 < j
    ·have hsw := hswap wr dk (hS.out.holds hb1 AH.out hs) hs kk (kk + 1) (by omega) (by omega)
     rw [show ((kk + 1 : Nat) : Int) = (kk : Int) + 1 by omega] at hsw
     have B1 : Hid _ := hS.out.swap hk hb1 AH.out hs kk (kk + 1) (by omega) (by omega)
     have B2 : Hid _ := od_ hak hR.out (mX_ dk kk (kk + 1) (by omega) (by omega))
     have B3 : Hid _ := permIn_trans _ _ _ _ _ hP.out (swp_permIn dk a b kk (kk + 1) (by omega) (by omega) (by omega) (by omega) (by omega))
     go_wp2
     refine ⟨⟨kk + 1, swp dk kk (kk + 1), by go_num, by omega, by omega, by rw [size_swp]; exact hs, B2, B3, B1⟩, ?_⟩
     simp [intOf]; omega
    ·have e : j = kk + 1 := by omega
     go_wp2
     (try simp only [Exit.inBlock, Exit.then]); refine bodyPost_ret (results_none rfl _ _ _) rfl ?_
     exact ⟨rfl, dk, hP.out, oq_ hO (f := gt d) AR.out hia hjb hT.out hF.out (by rw [e]; exact hR.out), SWK.on AW.out hblk hS.out hs⟩
end Go.Proofs
namespace Go.Proofs
open Go.Shelf Go.RowKit Go.Lib Go.Sort
variable {P : Program} {ρ : Ren} {α : Type} [Inhabited α]
set_option maxHeartbeats 4000000 in
set_option maxRecDepth 100000 in
theorem lx_ (L : LaysGt.n30 P ρ) (enc : α → List Value) (k : Nat) (hk : ∀ x, (enc x).length = k) (lt : α → α → Bool) (hO : SWO lt) (g : Nat) (lb : Array Value) (sf : Nat) (sb : Array Value) (blk off a m : Nat) (d : Array α) (W : World)
  (eg : ∀ args w, (callFunc g args).run P w = .ok (.enter g args) w) (hless : db_ P g lb enc k lt blk off d.size W)
  (hswap : SwapSwapsK P sf sb enc k blk off d.size) (hH : HoldsK enc k W blk off d) (hblk : blk < W.heap.size) (ham : a + 1 < m) (hb : m + 1 ≤ d.size) (hsz : d.size < 1152921504606846976) (hR : SortedIn lt a m d) :
  Calls P (ρ.f 30) #[.agg #[.func (.func g) #[] lb, .func (.func sf) #[] sb], .int .i64 a, .int .i64 m, .int .i64 ((m : Int) + 1)] W fun e w' =>
   e = .returned (.tuple #[]) ∧ ∃ d', PermIn a (m + 1) d d' ∧ SortedIn lt a (m + 1) d' ∧ SWK enc k W blk off d' w' := by
 have mixed := L.mixed; have t0 := L.t0; have a0 := L.a0; have z0 := L.z0; have v0 := L.v0; have t3 := L.t3; have a3 := L.a3; have z3 := L.z3; have v3 := L.v3; have t4 := L.t4; have a4 := L.a4; have z4 := L.z4; have v4 := L.v4; have t26 := L.t26; have a26 := L.a26; have z26 := L.z26; have v26 := L.v26; have t38 := L.t38; have a38 := L.a38; have z38 := L.z38; have v38 := L.v38; have t42 := L.t42; have a42 := L.a42; have z42 := L.z42; have v42 := L.v42; have t47 := L.t47; have a47 := L.a47; have z47 := L.z47; have v47 := L.v47
 have u42 := run_underlying L.t42
 have hW1 : SWK enc k W blk off d (W.alloc (.cells #[.func (.func g) #[] lb, .func (.func sf) #[] sb] (ρ.t 42))) := (SWK.start hH).alloc hblk _
 have hH1 : HoldsK enc k (W.alloc (.cells #[.func (.func g) #[] lb, .func (.func sf) #[] sb] (ρ.t 42))) blk off d := hW1.holds hblk hH rfl
 have hL1 : db_ P g lb enc k lt blk off d.size (W.alloc (.cells #[.func (.func g) #[] lb, .func (.func sf) #[] sb] (ρ.t 42))) := hW1.lessReads hless hblk rfl
 have hb1 : blk < (W.alloc (.cells #[.func (.func g) #[] lb, .func (.func sf) #[] sb] (ρ.t 42))).heap.size := hW1.lt hblk
 have hB1 : W.heap.size < (W.alloc (.cells #[.func (.func g) #[] lb, .func (.func sf) #[] sb] (ρ.t 42))).heap.size := by rw [alloc_eq_grow, size_grow]; show _ < _ + 1; omega
 have b0 : (W.alloc (.cells #[.func (.func g) #[] lb, .func (.func sf) #[] sb] (ρ.t 42))).cell? ⟨W.heap.size, 0, none⟩ = some (.func (.func g) #[] lb) := by simp
 have b1 : (W.alloc (.cells #[.func (.func g) #[] lb, .func (.func sf) #[] sb] (ρ.t 42))).cell? ⟨W.heap.size, 1, none⟩ = some (.func (.func sf) #[] sb) := by simp
 have AW : Hid _ := hW1
 have AH : Hid _ := hH1
 have AL : Hid _ := hL1
 have A0 : Hid _ := b0
 have A1 : Hid _ := b1
 have AR : Hid _ := hR
 clear hW1 hH1 b0 b1 hL1 hless hR
 go_enter L.f30, BodyGt.n30_ntmps ρ
 have hne : ((m : Int) - (a : Int) == 1) = false := by rw [beq_eq_false_iff_ne]; omega
 have hne2 : ¬ ((m : Int) - (a : Int) = 1) := by omega
 go_wp2
 rw [show ((m : Int) + 1 - (m : Int) == 1) = true by rw [beq_iff_eq]; omega]
 (try rw [hne])
 clear hne hne2
 go_loopw [12, 13] (fun vi vj wr => ∃ (i j : Nat), vi = .int .i64 i ∧ vj = .int .i64 j ∧ a ≤ i ∧ i ≤ j ∧ j ≤ m ∧ Hid (∀ h, a ≤ h → h < i → lt d[m]! d[h]! = false) ∧ Hid (∀ h, j ≤ h → h < m → lt d[m]! d[h]! = true) ∧ Hid (SWK enc k (W.alloc (.cells #[.func (.func g) #[] lb, .func (.func sf) #[] sb] (ρ.t 42))) blk off d wr))
  (fun vi vj _ => (intOf vj).toNat - (intOf vi).toNat)
 case atStart => exact ⟨a, m, rfl, rfl, Nat.le_refl _, by omega, Nat.le_refl _, fun h h1 h2 => absurd h1 (by omega), fun h h1 h2 => absurd h1 (by omega), SWK.start AH.out⟩
 case round =>
  obtain ⟨i, j, rfl, rfl, hia, hij, hjb, hT, hF, hS⟩ := hrel
  have c0 : wr.cell? ⟨W.heap.size, 0, none⟩ = some (.func (.func g) #[] lb) := by rw [hS.out.cell _ (by show W.heap.size ≠ blk; omega) hB1]; exact A0.out
  by_cases hlt : i < j
  ·have hl := SWK.less hS.out hb1 AL.out rfl m ((i + j) / 2) (by omega) (by omega)
   rw [show (((i + j) / 2 : Nat) : Int) = ((i : Int) + (j : Int)) / 2 by omega] at hl
   cases hlv : lt d[m]! d[(i + j) / 2]! with
   | false =>
    rw [hlv] at hl
    have hT' : ∀ h, a ≤ h → h < (i + j) / 2 + 1 → lt d[m]! d[h]! = false := by
     intro h h1 h2
     cases hv : lt d[m]! d[h]! with
     | false => rfl
     | true =>
      have := np_ hO (f := gt d) AR.out d[m]! h1 (show h ≤ (i + j) / 2 by omega) (by omega) hv
      rw [show gt d ((i + j) / 2) = d[(i + j) / 2]! from rfl, hlv] at this; cases this
    go_wp2_with (go_at_fn g; refine hl.mono ?_; rintro e w' ⟨rfl, hS'⟩)
    go_roundw
    case rel => exact ⟨(i + j) / 2 + 1, j, by go_num, rfl, by omega, by omega, hjb, hT', hF, hS'⟩
    case measure => simp [intOf]; omega
   | true =>
    rw [hlv] at hl
    go_wp2_with (go_at_fn g; refine hl.mono ?_; rintro e w' ⟨rfl, hS'⟩)
    have hF' : ∀ h, (i + j) / 2 ≤ h → h < m → lt d[m]! d[h]! = true := fun h h1 h2 => np_ hO (f := gt d) AR.out d[m]! (show a ≤ (i + j) / 2 by omega) h1 h2 hlv
    go_roundw
    case rel => exact ⟨i, (i + j) / 2, rfl, by go_num, hia, by omega, by omega, hT, hF', hS'⟩
    case measure => simp [intOf]; omega
  ·have e : j = i := by omega
   subst e
   go_wp2
   go_loopw [15] (fun vk wr => ∃ (kk : Nat) (dk : Array α), vk = .int .i64 kk ∧ j ≤ kk ∧ kk ≤ m ∧ dk.size = d.size ∧ Hid (de_ kk m (m + 1) (gt d) (gt dk)) ∧ Hid (PermIn a (m + 1) d dk) ∧ Hid (SWK enc k (W.alloc (.cells #[.func (.func g) #[] lb, .func (.func sf) #[] sb] (ρ.t 42))) blk off dk wr))
    (fun vk _ => (intOf vk).toNat)
   case atStart => exact ⟨m, d, rfl, hjb, Nat.le_refl _, rfl, gT_ _ _ _, permIn_refl _ _ _, hS⟩
   case round =>
    clear c0 hS
    obtain ⟨kk, dk, rfl, hak, hkj, hs, hR, hP, hS⟩ := hrel
    have c1 : wr.cell? ⟨W.heap.size, 1, none⟩ = some (.func (.func sf) #[] sb) := by rw [hS.out.cell _ (by show W.heap.size ≠ blk; omega) hB1]; exact A1.out
    by_cases hlt2 : j < kk
    ·obtain ⟨kp, rfl⟩ : ∃ kp, kk = kp + 1 := ⟨kk - 1, by omega⟩
     have hsw := hswap wr dk (hS.out.holds hb1 AH.out hs) hs (kp + 1) kp (by omega) (by omega)
     rw [show ((kp + 1 : Nat) : Int) = (kp : Int) + 1 by omega] at hsw
     have B1 : Hid _ := hS.out.swap hk hb1 AH.out hs (kp + 1) kp (by omega) (by omega)
     have B2 : Hid _ := lF_ hkj hR.out (mX_ dk (kp + 1) kp (by omega) (by omega))
     have B3 : Hid _ := permIn_trans _ _ _ _ _ hP.out (swp_permIn dk a (m + 1) (kp + 1) kp (by omega) (by omega) (by omega) (by omega) (by omega))
     go_wp2
     refine ⟨⟨kp, swp dk (kp + 1) kp, by go_num, by omega, by omega, by rw [size_swp]; exact hs, B2, B3, B1⟩, ?_⟩
     simp [intOf]
    ·have e : j = kk := by omega
     go_wp2
     (try simp only [Exit.inBlock, Exit.then]); refine bodyPost_ret (results_none rfl _ _ _) rfl ?_
     exact ⟨rfl, dk, hP.out, oC_ hO (f := gt d) AR.out hia hjb hT.out hF.out (by rw [e]; exact hR.out), SWK.on AW.out hblk hS.out hs⟩
end Go.Proofs
namespace Go.Proofs
open Go.Shelf Go.RowKit Go.Lib Go.Sort
variable {P : Program} {ρ : Ren} {α : Type} [Inhabited α]
def me_ (P : Program) (ρ : Ren) (enc : α → List Value) (k : Nat) (lt : α → α → Bool) (g : Nat) (lb : Array Value) (sf : Nat) (sb : Array Value) (blk off sz n : Nat) : Prop :=
 ∀ (a m b : Nat) (d : Array α) (W : World), b - a < n → d.size = sz → db_ P g lb enc k lt blk off sz W → HoldsK enc k W blk off d → blk < W.heap.size → a < m → m < b → b ≤ sz → SortedIn lt a m d → SortedIn lt m b d →
  Calls P (ρ.f 30) #[.agg #[.func (.func g) #[] lb, .func (.func sf) #[] sb], .int .i64 a, .int .i64 m, .int .i64 b] W fun e w' =>
   e = .returned (.tuple #[]) ∧ ∃ d', PermIn a b d d' ∧ SortedIn lt a b d' ∧ SWK enc k W blk off d' w'
set_option maxHeartbeats 8000000 in
set_option maxRecDepth 100000 in
theorem lN_ (L : LaysGt.n30 P ρ) (enc : α → List Value) (k : Nat) (hk : ∀ x, (enc x).length = k) (lt : α → α → Bool) (hO : SWO lt) (g : Nat) (lb : Array Value) (sf : Nat) (sb : Array Value) (blk off a m b : Nat) (d : Array α) (W : World)
  (eg : ∀ args w, (callFunc g args).run P w = .ok (.enter g args) w) (IH : me_ P ρ enc k lt g lb sf sb blk off d.size (b - a)) (hless : db_ P g lb enc k lt blk off d.size W)
  (hswap : SwapSwapsK P sf sb enc k blk off d.size) (hH : HoldsK enc k W blk off d) (hblk : blk < W.heap.size) (ham : a + 1 < m) (hmb : m + 1 < b) (hb : b ≤ d.size) (hsz : d.size < 1152921504606846976) (hRl : SortedIn lt a m d) (hRr : SortedIn lt m b d) :
  Calls P (ρ.f 30) #[.agg #[.func (.func g) #[] lb, .func (.func sf) #[] sb], .int .i64 a, .int .i64 m, .int .i64 b] W fun e w' =>
   e = .returned (.tuple #[]) ∧ ∃ d', PermIn a b d d' ∧ SortedIn lt a b d' ∧ SWK enc k W blk off d' w' := by
 have mixed := L.mixed; have t0 := L.t0; have a0 := L.a0; have z0 := L.z0; have v0 := L.v0; have t3 := L.t3; have a3 := L.a3; have z3 := L.z3; have v3 := L.v3; have t4 := L.t4; have a4 := L.a4; have z4 := L.z4; have v4 := L.v4; have t26 := L.t26; have a26 := L.a26; have z26 := L.z26; have v26 := L.v26; have t38 := L.t38; have a38 := L.a38; have z38 := L.z38; have v38 := L.v38; have t42 := L.t42; have a42 := L.a42; have z42 := L.z42; have v42 := L.v42; have t47 := L.t47; have a47 := L.a47; have z47 := L.z47; have v47 := L.v47
 have u42 := run_underlying L.t42
 have e42 : ∀ args w, (callFunc (ρ.f 42) args).run P w = .ok (.enter (ρ.f 42) args) w := enters_of L.f42 (by kernel_rfl) rfl
 have e30 : ∀ args w, (callFunc (ρ.f 30) args).run P w = .ok (.enter (ρ.f 30) args) w := enters_of L.f30 (by kernel_rfl) rfl
 have hW1 : SWK enc k W blk off d (W.alloc (.cells #[.func (.func g) #[] lb, .func (.func sf) #[] sb] (ρ.t 42))) := (SWK.start hH).alloc hblk _
 have hH1 : HoldsK enc k (W.alloc (.cells #[.func (.func g) #[] lb, .func (.func sf) #[] sb] (ρ.t 42))) blk off d := hW1.holds hblk hH rfl
 have hL1 : db_ P g lb enc k lt blk off d.size (W.alloc (.cells #[.func (.func g) #[] lb, .func (.func sf) #[] sb] (ρ.t 42))) := hW1.lessReads hless hblk rfl
 have hb1 : blk < (W.alloc (.cells #[.func (.func g) #[] lb, .func (.func sf) #[] sb] (ρ.t 42))).heap.size := hW1.lt hblk
 have hB1 : W.heap.size < (W.alloc (.cells #[.func (.func g) #[] lb, .func (.func sf) #[] sb] (ρ.t 42))).heap.size := by rw [alloc_eq_grow, size_grow]; show _ < _ + 1; omega
 have b0 : (W.alloc (.cells #[.func (.func g) #[] lb, .func (.func sf) #[] sb] (ρ.t 42))).cell? ⟨W.heap.size, 0, none⟩ = some (.func (.func g) #[] lb) := by simp
 have b1 : (W.alloc (.cells #[.func (.func g) #[] lb, .func (.func sf) #[] sb] (ρ.t 42))).cell? ⟨W.heap.size, 1, none⟩ = some (.func (.func sf) #[] sb) := by simp
 have AW : Hid _ := hW1
 have AH : Hid _ := hH1
 have AL : Hid _ := hL1
 have A0 : Hid _ := b0
 have A1 : Hid _ := b1
 have ARl : Hid _ := hRl
 have ARr : Hid _ := hRr
 clear hW1 hH1 b0 b1 hL1 hless hRl hRr
 have LR : LaysGt.n42 P ρ := { L with }
 have hne : ¬ ((m : Int) - (a : Int) = 1) := by omega
 have hne2 : ¬ ((b : Int) - (m : Int) = 1) := by omega
 obtain ⟨mid, hmid⟩ : ∃ mid : Nat, mid = (a + b) / 2 := ⟨_, rfl⟩
 have AM : Hid (mid = (a + b) / 2) := hmid
 have hm1 : 2 * mid ≤ a + b := by omega
 have hm2 : a + b ≤ 2 * mid + 1 := by omega
 clear hmid
 go_enter L.f30, BodyGt.n30_ntmps ρ
 go_upto_if 106 with (fail)
 go_cut [16, 17, 18, 19] from 23 (fun v16 v17 v18 v19 wc => ∃ (s0 r0 : Nat), v16 = .int .i64 mid ∧ v17 = .int .i64 ((mid + m : Nat) : Int) ∧ v18 = .int .i64 s0 ∧ v19 = .int .i64 r0 ∧ Hid ((mid < m ∧ s0 = mid + m - b ∧ r0 = mid) ∨ (m ≤ mid ∧ s0 = a ∧ r0 = m)) ∧ Hid (SWK enc k (W.alloc (.cells #[.func (.func g) #[] lb, .func (.func sf) #[] sb] (ρ.t 42))) blk off d wc))
 case first =>
  have ed : ((a : Int) + (b : Int)) / 2 = (mid : Int) := by have := AM.out; omega
  rw [ed]
  clear ed
  by_cases hc : mid < m
  ·go_wp2
   go_meet
   case rel => exact ⟨mid + m - b, mid, rfl, by go_num, by go_num, rfl, .inl ⟨hc, rfl, rfl⟩, SWK.start AH.out⟩
  ·go_wp2
   go_meet
   case rel => exact ⟨a, m, rfl, by go_num, rfl, rfl, .inr ⟨by omega, rfl, rfl⟩, SWK.start AH.out⟩
 case rest =>
  obtain ⟨s0, r0, rfl, rfl, rfl, rfl, hC, hS0⟩ := hcut
  have hF : a ≤ s0 ∧ s0 ≤ r0 ∧ r0 ≤ m ∧ r0 ≤ mid ∧ mid + m ≤ b + s0 := by have := hC.out; omega
  obtain ⟨hF1, hF2, hF3, hF4, hF5⟩ := hF
  obtain ⟨nn, hnn⟩ : ∃ nn, nn = mid + m := ⟨_, rfl⟩
  rw [← hnn]
  have AN : Hid (nn = mid + m) := hnn
  have hn1 : nn ≤ b + s0 := by omega
  have hn2 : mid + m ≤ nn := by omega
  have hn3 : nn ≤ mid + m := by omega
  clear hnn
  go_wp2
  go_loopw [18, 19] (fun vi vj wr => ∃ (i j : Nat), vi = .int .i64 i ∧ vj = .int .i64 j ∧ s0 ≤ i ∧ i ≤ j ∧ j ≤ r0 ∧ Hid (∀ c, s0 ≤ c → c < i → lt d[nn - 1 - c]! d[c]! = false) ∧ Hid (∀ c, j ≤ c → c < r0 → lt d[nn - 1 - c]! d[c]! = true) ∧ Hid (SWK enc k (W.alloc (.cells #[.func (.func g) #[] lb, .func (.func sf) #[] sb] (ρ.t 42))) blk off d wr))
   (fun vi vj _ => (intOf vj).toNat - (intOf vi).toNat)
  case atStart => exact ⟨s0, r0, rfl, rfl, Nat.le_refl _, hF2, Nat.le_refl _, fun c h1 h2 => absurd h1 (by omega), fun c h1 h2 => absurd h1 (by omega), hS0⟩
  case round =>
   clear hS0
   obtain ⟨i, j, rfl, rfl, hia, hij, hjb, hT, hF, hS⟩ := hrel
   have c0 : wr.cell? ⟨W.heap.size, 0, none⟩ = some (.func (.func g) #[] lb) := by rw [hS.out.cell _ (by show W.heap.size ≠ blk; omega) hB1]; exact A0.out
   by_cases hlt : i < j
   ·have hl := SWK.less hS.out hb1 AL.out rfl (nn - 1 - (i + j) / 2) ((i + j) / 2) (by omega) (by omega)
    rw [show ((nn - 1 - (i + j) / 2 : Nat) : Int) = (nn : Int) - 1 - ((i : Int) + (j : Int)) / 2 by omega, show (((i + j) / 2 : Nat) : Int) = ((i : Int) + (j : Int)) / 2 by omega] at hl
    cases hlv : lt d[nn - 1 - (i + j) / 2]! d[(i + j) / 2]! with
    | false =>
     rw [hlv] at hl
     have hT' : ∀ c, s0 ≤ c → c < (i + j) / 2 + 1 → lt d[nn - 1 - c]! d[c]! = false := by
      intro c h1 h2
      cases hv : lt d[nn - 1 - c]! d[c]! with
      | false => rfl
      | true =>
       have := nt_ hO (f := gt d) (p := nn - 1) ARl.out ARr.out (show a ≤ c by omega) (show c ≤ (i + j) / 2 by omega) (by omega) (by omega) (by omega) hv
       rw [show lt (gt d (nn - 1 - (i + j) / 2)) (gt d ((i + j) / 2)) = lt d[nn - 1 - (i + j) / 2]! d[(i + j) / 2]! from rfl, hlv] at this; cases this
     go_wp2_with (go_at_fn g; refine hl.mono ?_; rintro e w' ⟨rfl, hS'⟩)
     go_roundw
     case rel => exact ⟨(i + j) / 2 + 1, j, by go_num, rfl, by omega, by omega, hjb, hT', hF, hS'⟩
     case measure => simp [intOf]; omega
    | true =>
     rw [hlv] at hl
     have hF' : ∀ c, (i + j) / 2 ≤ c → c < r0 → lt d[nn - 1 - c]! d[c]! = true := fun c h1 h2 => nt_ hO (f := gt d) (p := nn - 1) ARl.out ARr.out (show a ≤ (i + j) / 2 by omega) h1 (by omega) (by omega) (by omega) hlv
     go_wp2_with (go_at_fn g; refine hl.mono ?_; rintro e w' ⟨rfl, hS'⟩)
     go_roundw
     case rel => exact ⟨i, (i + j) / 2, rfl, by go_num, hia, by omega, by omega, hT, hF', hS'⟩
     case measure => simp [intOf]; omega
   ·have e : j = i := by omega
    subst e
    clear c0
    go_upto_region 40 with (fail)
    go_cut [22, 145] from 23 (fun v22 v145 wc => v22 = .int .i64 ((nn - j : Nat) : Int) ∧ v145 = .bool (decide (j < m ∧ j < mid)) ∧ Hid (SWK enc k (W.alloc (.cells #[.func (.func g) #[] lb, .func (.func sf) #[] sb] (ρ.t 42))) blk off d wc))
    case first =>
     have ed : (nn : Int) - (j : Int) = ((nn - j : Nat) : Int) := by omega
     rw [ed]
     clear ed
     by_cases h1 : j < m
     ·by_cases h2 : j < mid
      ·have h3 : m < nn - j := by omega
       go_wp2
       go_meet
       case rel => exact ⟨rfl, by rw [decide_eq_true (show j < m ∧ j < mid from ⟨h1, h2⟩)], hS⟩
      ·have h3 : ¬ m < nn - j := by omega
       go_wp2
       go_meet
       case rel => exact ⟨rfl, by rw [decide_eq_false (show ¬ (j < m ∧ j < mid) from fun h => h2 h.2)], hS⟩
     ·go_wp2
      go_meet
      case rel => exact ⟨rfl, by rw [decide_eq_false (show ¬ (j < m ∧ j < mid) from fun h => h1 h.1)], hS⟩
    case rest =>
     clear hS
     obtain ⟨rfl, rfl, hS⟩ := hcut
     have HM : ∀ d1 : Array α, de_ j m (nn - j) (gt d) (gt d1) → a ≤ j ∧ j ≤ mid ∧ mid ≤ nn - j ∧ nn - j ≤ b ∧ j ≤ m ∧ m ≤ nn - j ∧ cX_ lt a j (gt d1) ∧ cX_ lt j mid (gt d1) ∧ cX_ lt mid (nn - j) (gt d1) ∧ cX_ lt (nn - j) b (gt d1) ∧ ∀ p q, a ≤ p → p < mid → mid ≤ q → q < b → lt (gt d1 q) (gt d1 p) = false := fun d1 h =>
      oF_ hO (f := gt d) ARl.out ARr.out (by omega) (by omega) AM.out hC.out hia hjb (by rw [AN.out]) (fun c h1 h2 => by rw [← AN.out]; exact hT.out c h1 h2) (fun c h1 h2 => by rw [← AN.out]; exact hF.out c h1 h2) h
     have BM : Hid _ := HM
     clear HM
     go_upto_if 145 with (fail)
     go_cut [22] from 23 (fun v22 wc => ∃ d1 : Array α, v22 = .int .i64 ((nn - j : Nat) : Int) ∧ d1.size = d.size ∧ Hid (de_ j m (nn - j) (gt d) (gt d1)) ∧ Hid (PermIn a b d d1) ∧ Hid (SWK enc k (W.alloc (.cells #[.func (.func g) #[] lb, .func (.func sf) #[] sb] (ρ.t 42))) blk off d1 wc))
     case first =>
      by_cases hrot : j < m ∧ j < mid
      ·rw [decide_eq_true hrot]
       have c0 : wc.cell? ⟨W.heap.size, 0, none⟩ = some (.func (.func g) #[] lb) := by rw [hS.out.cell _ (by show W.heap.size ≠ blk; omega) hB1]; exact A0.out
       have c1 : wc.cell? ⟨W.heap.size, 1, none⟩ = some (.func (.func sf) #[] sb) := by rw [hS.out.cell _ (by show W.heap.size ≠ blk; omega) hB1]; exact A1.out
       have hc := nK_ LR enc k hk g lb sf sb blk off j m (nn - j) d wc hswap (hS.out.holds hb1 AH.out rfl) (hS.out.lt hb1) hrot.1 (by omega) (by omega) hsz
       go_wp2_with (go_at_fn (ρ.f 42); refine hc.mono ?_; rintro e w1 ⟨rfl, d1, hR1, hP1, hS1⟩)
       go_meet
       case rel => exact ⟨d1, rfl, hP1.1, hR1, permIn_mono _ _ j (nn - j) a b (by omega) (by omega) hb hP1, SWK.on hS.out hb1 hS1 hP1.1⟩
      ·rw [decide_eq_false hrot]
       have hR0 : de_ j m (nn - j) (gt d) (gt d) := by
        by_cases h1 : j < m
        ·rw [show nn - j = m by omega]; exact gI_ _ _ _ (by omega)
        ·rw [show m = j by omega]; exact gT_ _ _ _
       have BR0 : Hid _ := hR0
       clear hR0
       go_wp2
       go_meet
       case rel => exact ⟨d, rfl, rfl, BR0, permIn_refl _ _ _, hS⟩
     case rest =>
      clear hS
      obtain ⟨d1, rfl, hs1, hR1, hP1, hS⟩ := hcut
      have HM := BM.out d1 hR1.out
      obtain ⟨g1, g2, g3, g4, g5, g6, o1, o2, o3, o4, o5⟩ := HM
      have O1 : Hid _ := o1
      have O2 : Hid _ := o2
      have O3 : Hid _ := o3
      have O4 : Hid _ := o4
      have O5 : Hid _ := o5
      clear o1 o2 o3 o4 o5 BM hT hF hR1
      go_upto_region 42 with (fail)
      go_cut [158] from 23 (fun v158 wc => v158 = .bool (decide (a < j ∧ j < mid)) ∧ Hid (SWK enc k (W.alloc (.cells #[.func (.func g) #[] lb, .func (.func sf) #[] sb] (ρ.t 42))) blk off d1 wc))
      case first =>
       by_cases h1 : a < j
       ·by_cases h2 : j < mid
        ·go_wp2
         go_meet
         case rel => exact ⟨by rw [decide_eq_true (show a < j ∧ j < mid from ⟨h1, h2⟩)], hS⟩
        ·go_wp2
         go_meet
         case rel => exact ⟨by rw [decide_eq_false (show ¬ (a < j ∧ j < mid) from fun h => h2 h.2)], hS⟩
       ·go_wp2
        go_meet
        case rel => exact ⟨by rw [decide_eq_false (show ¬ (a < j ∧ j < mid) from fun h => h1 h.1)], hS⟩
      case rest =>
       clear hS
       obtain ⟨rfl, hS⟩ := hcut
       go_upto_if 158 with (fail)
       go_cut [] from 23 (fun wc => ∃ d2 : Array α, d2.size = d.size ∧ Hid (PermIn a mid d1 d2) ∧ Hid (SortedIn lt a mid d2) ∧ Hid (SWK enc k (W.alloc (.cells #[.func (.func g) #[] lb, .func (.func sf) #[] sb] (ρ.t 42))) blk off d2 wc))
       case first =>
        by_cases hgo : a < j ∧ j < mid
        ·rw [decide_eq_true hgo]
         have c0 : wc.cell? ⟨W.heap.size, 0, none⟩ = some (.func (.func g) #[] lb) := by rw [hS.out.cell _ (by show W.heap.size ≠ blk; omega) hB1]; exact A0.out
         have c1 : wc.cell? ⟨W.heap.size, 1, none⟩ = some (.func (.func sf) #[] sb) := by rw [hS.out.cell _ (by show W.heap.size ≠ blk; omega) hB1]; exact A1.out
         have hc := IH a j mid d1 wc (by omega) hs1 (hS.out.lessReads AL.out hb1 hs1) (hS.out.holds hb1 AH.out hs1) (hS.out.lt hb1) hgo.1 hgo.2 (by omega) O1.out O2.out
         go_wp2_with (go_at_fn (ρ.f 30); refine hc.mono ?_; rintro e w1 ⟨rfl, d2, hP2, hT2, hS2⟩)
         go_meet
         case rel => exact ⟨d2, hP2.1.trans hs1, hP2, hT2, SWK.on hS.out hb1 hS2 hP2.1⟩
        ·rw [decide_eq_false hgo]
         have hT0 : SortedIn lt a mid d1 := by
          by_cases h1 : a < j
          ·rw [show mid = j by omega]; exact O1.out
          ·rw [show a = j by omega]; exact O2.out
         have BT0 : Hid _ := hT0
         clear hT0
         go_wp2
         go_meet
         case rel => exact ⟨d1, hs1, permIn_refl _ _ _, BT0, hS⟩
       case rest =>
        clear hS
        obtain ⟨d2, hs2, hP2, hT2, hS⟩ := hcut
        have o3 : SortedIn lt mid (nn - j) d2 := fun p q h1 h2 h3 => by
         rw [hP2.out.2.1 p (Or.inr h1), hP2.out.2.1 q (Or.inr (by omega))]; exact O3.out p q h1 h2 h3
        have o4 : SortedIn lt (nn - j) b d2 := fun p q h1 h2 h3 => by
         rw [hP2.out.2.1 p (Or.inr (by omega)), hP2.out.2.1 q (Or.inr (by omega))]; exact O4.out p q h1 h2 h3
        have Q3 : Hid _ := o3
        have Q4 : Hid _ := o4
        clear o3 o4
        go_upto_region 44 with (fail)
        go_cut [171] from 23 (fun v171 wc => v171 = .bool (decide (mid < nn - j ∧ nn - j < b)) ∧ Hid (SWK enc k (W.alloc (.cells #[.func (.func g) #[] lb, .func (.func sf) #[] sb] (ρ.t 42))) blk off d2 wc))
        case first =>
         by_cases h1 : mid < nn - j
         ·by_cases h2 : nn - j < b
          ·go_wp2
           go_meet
           case rel => exact ⟨by rw [decide_eq_true (show mid < nn - j ∧ nn - j < b from ⟨h1, h2⟩)], hS⟩
          ·go_wp2
           go_meet
           case rel => exact ⟨by rw [decide_eq_false (show ¬ (mid < nn - j ∧ nn - j < b) from fun h => h2 h.2)], hS⟩
         ·go_wp2
          go_meet
          case rel => exact ⟨by rw [decide_eq_false (show ¬ (mid < nn - j ∧ nn - j < b) from fun h => h1 h.1)], hS⟩
        case rest =>
         clear hS
         obtain ⟨rfl, hS⟩ := hcut
         have FIN : ∀ (d3 : Array α) (w3 : World), PermIn mid b d2 d3 → SortedIn lt mid b d3 → SWK enc k wc blk off d3 w3 → ∃ d', PermIn a b d d' ∧ SortedIn lt a b d' ∧ SWK enc k W blk off d' w3 := fun d3 w3 p s h => by
          have gl := pM_ (d := d1) (by omega) (by omega) (by omega) hP2.out p hT2.out s O5.out
          exact ⟨d3, permIn_trans _ _ _ _ _ hP1.out gl.1, gl.2, SWK.on AW.out hblk (SWK.on hS.out hb1 h p.1) (p.1.trans hs2)⟩
         have BF : Hid _ := FIN
         clear FIN
         by_cases hgo : mid < nn - j ∧ nn - j < b
         ·rw [decide_eq_true hgo]
          have c0 : wc.cell? ⟨W.heap.size, 0, none⟩ = some (.func (.func g) #[] lb) := by rw [hS.out.cell _ (by show W.heap.size ≠ blk; omega) hB1]; exact A0.out
          have c1 : wc.cell? ⟨W.heap.size, 1, none⟩ = some (.func (.func sf) #[] sb) := by rw [hS.out.cell _ (by show W.heap.size ≠ blk; omega) hB1]; exact A1.out
          have hc := IH mid (nn - j) b d2 wc (by omega) hs2 (hS.out.lessReads AL.out hb1 hs2) (hS.out.holds hb1 AH.out hs2) (hS.out.lt hb1) hgo.1 hgo.2 hb Q3.out Q4.out
          go_wp2_with (go_at_fn (ρ.f 30); refine hc.mono ?_; rintro e w1 ⟨rfl, d3, hP3, hT3, hS3⟩)
          go_end0
          exact ⟨rfl, BF.out d3 _ hP3 hT3 hS3⟩
         ·rw [decide_eq_false hgo]
          have hT0 : SortedIn lt mid b d2 := by
           by_cases h1 : mid < nn - j
           ·rw [show b = nn - j by omega]; exact Q3.out
           ·rw [show mid = nn - j by omega]; exact Q4.out
          have BT0 : Hid _ := hT0
          clear hT0
          go_wp2
          go_end0
          exact ⟨rfl, BF.out d2 _ (permIn_refl _ _ _) BT0.out (SWK.start (hS.out.holds hb1 AH.out hs2))⟩
end Go.Proofs
namespace Go.Proofs
open Go.Shelf Go.RowKit Go.Lib Go.Sort
variable {P : Program} {ρ : Ren} {α : Type} [Inhabited α]
theorem ox_ (L : LaysGt.n30 P ρ) (enc : α → List Value) (k : Nat) (hk : ∀ x, (enc x).length = k) (lt : α → α → Bool) (hO : SWO lt) (g : Nat) (lb : Array Value) (sf : Nat) (sb : Array Value) (blk off sz : Nat)
  (eg : ∀ args w, (callFunc g args).run P w = .ok (.enter g args) w) (hswap : SwapSwapsK P sf sb enc k blk off sz) (hsz : sz < 1152921504606846976) : ∀ n, me_ P ρ enc k lt g lb sf sb blk off sz n := by
 intro n
 induction n with
 | zero => intro a m b d W h; exact absurd h (by omega)
 | succ n ih =>
  intro a m b d W h hds hless hH hblk ham hmb hb h1 h2
  subst hds
  by_cases e1 : m = a + 1
  ·subst e1
   rw [show ((a + 1 : Nat) : Int) = (a : Int) + 1 by omega]
   exact l8_ L enc k hk lt hO g lb sf sb blk off a b d W eg hless hswap hH hblk hmb hb hsz h2
  ·by_cases e2 : b = m + 1
   ·subst e2
    rw [show ((m + 1 : Nat) : Int) = (m : Int) + 1 by omega]
    exact lx_ L enc k hk lt hO g lb sf sb blk off a m d W eg hless hswap hH hblk (by omega) hb hsz h1
   ·exact lN_ L enc k hk lt hO g lb sf sb blk off a m b d W eg (fun a' m' b' d' W' h' => ih a' m' b' d' W' (by omega)) hless hswap hH hblk (by omega) (by omega) hb hsz h1 h2
set_option maxHeartbeats 2000000 in
set_option maxRecDepth 100000 in
theorem lb_ (L : LaysGg.n26 P ρ) (enc : α → List Value) (k : Nat) (hk : ∀ x, (enc x).length = k) (lt : α → α → Bool) (g : Nat) (lb : Array Value) (sf : Nat) (sb : Array Value) (blk off a b : Nat) (d : Array α) (w : World)
  (eg : ∀ args w, (callFunc g args).run P w = .ok (.enter g args) w) (hless : db_ P g lb enc k lt blk off d.size w) (hswap : SwapSwapsK P sf sb enc k blk off d.size)
  (hH : HoldsK enc k w blk off d) (hblk : blk < w.heap.size) (hab : a ≤ b) (hb : b ≤ d.size) (hsz : d.size < 4611686018427387904) :
  Calls P (ρ.f 26) #[.agg #[.func (.func g) #[] lb, .func (.func sf) #[] sb], .int .i64 a, .int .i64 b] w fun e w' =>
   e = .returned (.tuple #[]) ∧ SWK enc k w blk off (Sort.insertionSort lt d a b) w' := by
 have mixed := L.mixed; have t0 := L.t0; have a0 := L.a0; have z0 := L.z0; have v0 := L.v0; have t3 := L.t3; have a3 := L.a3; have z3 := L.z3; have v3 := L.v3; have t4 := L.t4; have a4 := L.a4; have z4 := L.z4; have v4 := L.v4; have t26 := L.t26; have a26 := L.a26; have z26 := L.z26; have v26 := L.v26; have t37 := L.t37; have a37 := L.a37; have z37 := L.z37; have v37 := L.v37; have t44 := L.t44; have a44 := L.a44; have z44 := L.z44; have v44 := L.v44
 have u44 := run_underlying L.t44
 have hW1 : SWK enc k w blk off d (w.alloc (.cells #[.func (.func g) #[] lb, .func (.func sf) #[] sb] (ρ.t 44))) := (SWK.start hH).alloc hblk _
 have hH1 : HoldsK enc k (w.alloc (.cells #[.func (.func g) #[] lb, .func (.func sf) #[] sb] (ρ.t 44))) blk off d := hW1.holds hblk hH rfl
 have hb1 : blk < (w.alloc (.cells #[.func (.func g) #[] lb, .func (.func sf) #[] sb] (ρ.t 44))).heap.size := hW1.lt hblk
 have hB1 : w.heap.size < (w.alloc (.cells #[.func (.func g) #[] lb, .func (.func sf) #[] sb] (ρ.t 44))).heap.size := by rw [alloc_eq_grow, size_grow]; show _ < _ + 1; omega
 have b0 : (w.alloc (.cells #[.func (.func g) #[] lb, .func (.func sf) #[] sb] (ρ.t 44))).cell? ⟨w.heap.size, 0, none⟩ = some (.func (.func g) #[] lb) := by simp
 have b1 : (w.alloc (.cells #[.func (.func g) #[] lb, .func (.func sf) #[] sb] (ρ.t 44))).cell? ⟨w.heap.size, 1, none⟩ = some (.func (.func sf) #[] sb) := by simp
 have AW : Hid _ := hW1
 have AH : Hid _ := hH1
 have A0 : Hid _ := b0
 have A1 : Hid _ := b1
 have AL : Hid (db_ P g lb enc k lt blk off d.size (w.alloc (.cells #[.func (.func g) #[] lb, .func (.func sf) #[] sb] (ρ.t 44)))) := hW1.lessReads hless hblk rfl
 clear hW1 hH1 b0 b1 hless
 go_enter L.f26, BodyGg.n26_ntmps ρ
 go_wp2
 go_loopw [6] (fun vi wr => ∃ (i : Nat) (dk : Array α), vi = .int .i64 i ∧ a < i ∧ i ≤ b + 1 ∧ dk.size = d.size ∧ Hid (SWK enc k (w.alloc (.cells #[.func (.func g) #[] lb, .func (.func sf) #[] sb] (ρ.t 44))) blk off dk wr) ∧
   Hid (insOuter lt a b i dk = insOuter lt a b (a + 1) d)) (fun vi _ => b + 1 - (intOf vi).toNat)
 case atStart => exact ⟨a + 1, d, by go_num, by omega, by omega, rfl, SWK.start AH.out, (rfl : _ = _)⟩
 case round =>
  obtain ⟨i, dk, rfl, hai, hib, hsk, hS0, HO⟩ := hrel
  go_wp2
  ·
   go_loopw [7] (fun vj wr2 => ∃ (j : Nat) (dj : Array α), vj = .int .i64 j ∧ a ≤ j ∧ j ≤ i ∧ dj.size = d.size ∧ Hid (SWK enc k (w.alloc (.cells #[.func (.func g) #[] lb, .func (.func sf) #[] sb] (ρ.t 44))) blk off dj wr2) ∧
     Hid (insInner lt a j dj = insInner lt a i dk)) (fun vj _ => (intOf vj).toNat)
   case atStart => exact ⟨i, dk, rfl, by omega, Nat.le_refl _, hsk, hS0, (rfl : _ = _)⟩
   case round =>
    clear hS0
    obtain ⟨j, dj, rfl, haj, hji, hsj, hS, HI⟩ := hrel
    have hlt : i < b := by assumption
    have c0 : wr.cell? ⟨w.heap.size, 0, none⟩ = some (.func (.func g) #[] lb) := by rw [hS.out.cell _ (by show w.heap.size ≠ blk; omega) hB1]; exact A0.out
    have out : (j ≤ a ∨ lt dj[j]! dj[j - 1]! = false) → insOuter lt a b (i + 1) dj = insOuter lt a b (a + 1) d := fun hs => by
     rw [← HO.out, insOuter_go _ _ _ _ _ hlt, ← HI.out, insInner_stop _ _ _ _ hs]
    have OUT : Hid _ := out
    clear out
    by_cases hja : a < j
    ·have hl := SWK.less hS.out hb1 AL.out hsj j (j - 1) (by omega) (by omega)
     rw [show (((j - 1 : Nat) : Int)) = (j : Int) - 1 by omega] at hl
     cases hlv : lt dj[j]! dj[j - 1]! with
     | true =>
      rw [hlv] at hl
      go_wp2_with (go_at_fn g; refine hl.mono ?_; rintro e w' ⟨rfl, hS'⟩; have c1 : w'.cell? ⟨w.heap.size, 1, none⟩ = some (.func (.func sf) #[] sb) := by (rw [hS'.out.cell _ (by show w.heap.size ≠ blk; omega) hB1]; exact A1.out))
      have hs := hswap w' dj (hS'.out.holds hb1 AH.out hsj) hsj j (j - 1) (by omega) (by omega)
      rw [show (((j - 1 : Nat) : Int)) = (j : Int) - 1 by omega] at hs
      rw [hs, Oper.upon_value]
      have B1 : Hid _ := hS'.out.swap hk hb1 AH.out hsj j (j - 1) (by omega) (by omega)
      have B2 : Hid (insInner lt a (j - 1) (swp dj j (j - 1)) = insInner lt a i dk) := by
       show _ = _
       rw [← HI.out, insInner_go lt a j dj hja hlv]
      clear hs
      go_wp2
      go_roundw
      case rel =>
       (repeat apply Exists.intro)
       refine ⟨⟨j - 1, swp dj j (j - 1), by congr 1 <;> omega, by omega, by omega, by rw [size_swp]; exact hsj, B1, B2⟩, by rw [decide_eq_true hlt, show ((j - 1 : Nat) : Int) = (j : Int) - 1 by omega]⟩
      case measure => simp [intOf]; omega
     | false =>
      rw [hlv] at hl
      go_wp2_with (go_at_fn g; refine hl.mono ?_; rintro e w' ⟨rfl, hS'⟩)
      go_roundw
      case rel => exact ⟨i + 1, dj, by go_num, by omega, by omega, hsj, hS', OUT.out (Or.inr hlv)⟩
      case measure => simp [intOf]; omega
    ·go_wp2
     go_roundw
     case rel => exact ⟨i + 1, dj, by go_num, by omega, by omega, hsj, hS, OUT.out (Or.inl (by omega))⟩
     case measure => simp [intOf]; omega
  ·
   have hge : ¬ i < b := by assumption
   go_end0
   have e : Sort.insertionSort lt d a b = dk := by unfold Sort.insertionSort; rw [← HO.out, insOuter_stop _ _ _ _ _ hge]
   rw [e]
   exact ⟨rfl, SWK.on AW.out hblk hS0.out hsk⟩
theorem nT_ (L : LaysGt.n29 P ρ) (enc : α → List Value) (k : Nat) (hk : ∀ x, (enc x).length = k) (lt : α → α → Bool) (hO : SWO lt) (g : Nat) (lb : Array Value) (sf : Nat) (sb : Array Value) (blk off a b : Nat) (d : Array α) (W : World)
  (eg : ∀ args w, (callFunc g args).run P w = .ok (.enter g args) w) (hless : db_ P g lb enc k lt blk off d.size W) (hswap : SwapSwapsK P sf sb enc k blk off d.size)
  (hH : HoldsK enc k W blk off d) (hblk : blk < W.heap.size) (hab : a ≤ b) (hb : b ≤ d.size) (hsz : d.size < 1152921504606846976) :
  Calls P (ρ.f 29) #[.agg #[.func (.func g) #[] lb, .func (.func sf) #[] sb], .int .i64 a, .int .i64 b] W fun e w' =>
   e = .returned (.tuple #[]) ∧ ∃ d', PermIn a b d d' ∧ SortedIn lt a b d' ∧ SWK enc k W blk off d' w' := by
 have LI : LaysGg.n26 P ρ.viaGt := L.elder
 refine (lb_ LI enc k hk lt g lb sf sb blk off a b d W eg hless hswap hH hblk hab hb (by omega)).mono ?_
 rintro e w' ⟨he, hS⟩
 have h := insertionSort_holds (lt := lt) hO d a b hab hb
 exact ⟨he, _, h.1, h.2, hS⟩
set_option maxHeartbeats 8000000 in
set_option maxRecDepth 100000 in
theorem nL_ (L : LaysGt.n15 P ρ) (enc : α → List Value) (k : Nat) (hk : ∀ x, (enc x).length = k) (lt : α → α → Bool) (hO : SWO lt) (g : Nat) (lb : Array Value) (sf : Nat) (sb : Array Value) (blk off : Nat) (d : Array α) (W : World)
  (eg : ∀ args w, (callFunc g args).run P w = .ok (.enter g args) w) (hless : db_ P g lb enc k lt blk off d.size W)
  (hswap : SwapSwapsK P sf sb enc k blk off d.size) (hH : HoldsK enc k W blk off d) (hblk : blk < W.heap.size) (hsz : d.size < 1152921504606846976) :
  Calls P (ρ.f 15) #[.agg #[.func (.func g) #[] lb, .func (.func sf) #[] sb], .int .i64 d.size] W fun e w' =>
   e = .returned (.tuple #[]) ∧ ∃ d', PermIn 0 d.size d d' ∧ SortedIn lt 0 d.size d' ∧ SWK enc k W blk off d' w' := by
 have mixed := L.mixed; have t0 := L.t0; have a0 := L.a0; have z0 := L.z0; have v0 := L.v0; have t3 := L.t3; have a3 := L.a3; have z3 := L.z3; have v3 := L.v3; have t4 := L.t4; have a4 := L.a4; have z4 := L.z4; have v4 := L.v4; have t26 := L.t26; have a26 := L.a26; have z26 := L.z26; have v26 := L.v26; have t38 := L.t38; have a38 := L.a38; have z38 := L.z38; have v38 := L.v38; have t42 := L.t42; have a42 := L.a42; have z42 := L.z42; have v42 := L.v42; have t47 := L.t47; have a47 := L.a47; have z47 := L.z47; have v47 := L.v47
 have u42 := run_underlying L.t42
 have e29 : ∀ args w, (callFunc (ρ.f 29) args).run P w = .ok (.enter (ρ.f 29) args) w := enters_of L.f29 (by kernel_rfl) rfl
 have e30 : ∀ args w, (callFunc (ρ.f 30) args).run P w = .ok (.enter (ρ.f 30) args) w := enters_of L.f30 (by kernel_rfl) rfl
 have L29 : LaysGt.n29 P ρ := { L with }
 have L30 : LaysGt.n30 P ρ := { L with }
 have hW1 : SWK enc k W blk off d (W.alloc (.cells #[.func (.func g) #[] lb, .func (.func sf) #[] sb] (ρ.t 42))) := (SWK.start hH).alloc hblk _
 have hH1 : HoldsK enc k (W.alloc (.cells #[.func (.func g) #[] lb, .func (.func sf) #[] sb] (ρ.t 42))) blk off d := hW1.holds hblk hH rfl
 have hL1 : db_ P g lb enc k lt blk off d.size (W.alloc (.cells #[.func (.func g) #[] lb, .func (.func sf) #[] sb] (ρ.t 42))) := hW1.lessReads hless hblk rfl
 have hb1 : blk < (W.alloc (.cells #[.func (.func g) #[] lb, .func (.func sf) #[] sb] (ρ.t 42))).heap.size := hW1.lt hblk
 have hB1 : W.heap.size < (W.alloc (.cells #[.func (.func g) #[] lb, .func (.func sf) #[] sb] (ρ.t 42))).heap.size := by rw [alloc_eq_grow, size_grow]; show _ < _ + 1; omega
 have b0 : (W.alloc (.cells #[.func (.func g) #[] lb, .func (.func sf) #[] sb] (ρ.t 42))).cell? ⟨W.heap.size, 0, none⟩ = some (.func (.func g) #[] lb) := by simp
 have b1 : (W.alloc (.cells #[.func (.func g) #[] lb, .func (.func sf) #[] sb] (ρ.t 42))).cell? ⟨W.heap.size, 1, none⟩ = some (.func (.func sf) #[] sb) := by simp
 have AW : Hid _ := hW1
 have AH : Hid _ := hH1
 have AL : Hid _ := hL1
 have A0 : Hid _ := b0
 have A1 : Hid _ := b1
 clear hW1 hH1 b0 b1 hL1 hless
 obtain ⟨N, hN⟩ : ∃ N, d.size = N := ⟨_, rfl⟩
 have HN : Hid _ := hN
 rw [hN] at hswap hsz ⊢
 have AL' : Hid (db_ P g lb enc k lt blk off N (W.alloc (.cells #[.func (.func g) #[] lb, .func (.func sf) #[] sb] (ρ.t 42)))) := by rw [← HN.out]; exact AL.out
 clear hN AL
 have IC : ∀ (a b : Nat) (dk : Array α) (w : World), dk.size = N → SWK enc k (W.alloc (.cells #[.func (.func g) #[] lb, .func (.func sf) #[] sb] (ρ.t 42))) blk off dk w → a ≤ b → b ≤ N → Calls P (ρ.f 29) #[.agg #[.func (.func g) #[] lb, .func (.func sf) #[] sb], .int .i64 a, .int .i64 b] w fun e w' =>
   e = .returned (.tuple #[]) ∧ ∃ d', PermIn a b dk d' ∧ SortedIn lt a b d' ∧ SWK enc k (W.alloc (.cells #[.func (.func g) #[] lb, .func (.func sf) #[] sb] (ρ.t 42))) blk off d' w' := fun a b dk w hs hS hab hbN =>
  (nT_ L29 enc k hk lt hO g lb sf sb blk off a b dk w eg (by rw [hs]; exact hS.lessReads AL'.out hb1 hs) (by rw [hs]; exact hswap) (hS.holds hb1 AH.out (by rw [hs, HN.out])) (hS.lt hb1) hab (by omega) (by omega)).mono fun _ _ ⟨he, d', p, s, h⟩ => ⟨he, d', p, s, SWK.on hS hb1 h p.1⟩
 have MC : ∀ (a m b : Nat) (dk : Array α) (w : World), dk.size = N → SWK enc k (W.alloc (.cells #[.func (.func g) #[] lb, .func (.func sf) #[] sb] (ρ.t 42))) blk off dk w → a < m → m < b → b ≤ N → SortedIn lt a m dk → SortedIn lt m b dk → Calls P (ρ.f 30) #[.agg #[.func (.func g) #[] lb, .func (.func sf) #[] sb], .int .i64 a, .int .i64 m, .int .i64 b] w fun e w' =>
   e = .returned (.tuple #[]) ∧ ∃ d', PermIn a b dk d' ∧ SortedIn lt a b d' ∧ SWK enc k (W.alloc (.cells #[.func (.func g) #[] lb, .func (.func sf) #[] sb] (ρ.t 42))) blk off d' w' := fun a m b dk w hs hS ham hmb hbN s1 s2 =>
  (ox_ L30 enc k hk lt hO g lb sf sb blk off N eg hswap hsz (b - a + 1) a m b dk w (by omega) hs (hS.lessReads AL'.out hb1 hs) (hS.holds hb1 AH.out (by rw [hs, HN.out])) (hS.lt hb1) ham hmb hbN s1 s2).mono fun _ _ ⟨he, d', p, s, h⟩ => ⟨he, d', p, s, SWK.on hS hb1 h p.1⟩
 have B1 : Hid _ := IC
 have B2 : Hid _ := MC
 have BX : Hid (∀ (dk : Array α) (w : World), SWK enc k (W.alloc (.cells #[.func (.func g) #[] lb, .func (.func sf) #[] sb] (ρ.t 42))) blk off dk w → w.cell? ⟨W.heap.size, 0, none⟩ = some (.func (.func g) #[] lb) ∧ w.cell? ⟨W.heap.size, 1, none⟩ = some (.func (.func sf) #[] sb)) := fun dk w hS =>
  ⟨by rw [hS.cell _ (by show W.heap.size ≠ blk; omega) hB1]; exact A0.out, by rw [hS.cell _ (by show W.heap.size ≠ blk; omega) hB1]; exact A1.out⟩
 clear IC MC hswap A0 A1 eg
 have AS : Hid (SWK enc k (W.alloc (.cells #[.func (.func g) #[] lb, .func (.func sf) #[] sb] (ρ.t 42))) blk off d (W.alloc (.cells #[.func (.func g) #[] lb, .func (.func sf) #[] sb] (ρ.t 42)))) := SWK.start AH.out
 go_enter L.f15, BodyGt.n15_ntmps ρ
 go_wp2
 go_loopw [5, 6] (fun va vb wr => ∃ (q : Nat) (dk : Array α), va = .int .i64 ((20 * q : Nat) : Int) ∧ vb = .int .i64 ((20 * q + 20 : Nat) : Int) ∧ 20 * q ≤ N ∧ dk.size = N ∧ Hid (eJ_ lt 20 0 (20 * q) (gt dk)) ∧ Hid (PermIn 0 N d dk) ∧ Hid (SWK enc k (W.alloc (.cells #[.func (.func g) #[] lb, .func (.func sf) #[] sb] (ρ.t 42))) blk off dk wr))
  (fun va _ _ => N - (intOf va).toNat)
 case atStart => exact ⟨0, d, rfl, rfl, by omega, HN.out, fun i j h1 h2 h3 => absurd h3 (by omega), permIn_refl _ _ _, AS⟩
 case round =>
  obtain ⟨q, dk, rfl, rfl, hq, hs, hB, hP, hS⟩ := hrel
  obtain ⟨c0, c1⟩ := BX.out dk wr hS.out
  by_cases hle : 20 * q + 20 ≤ N
  ·have hc := B1.out (20 * q) (20 * q + 20) dk wr hs hS.out (by omega) hle
   go_wp2_with (go_at_fn (ρ.f 29); refine hc.mono ?_; rintro e w1 ⟨rfl, d1, hP1, hT1, hS1⟩)
   refine ⟨⟨q + 1, d1, by go_num, by go_num, by omega, hP1.1.trans hs, ?_, ?_, hS1⟩, ?_⟩
   ·exact f7_ (c := q) (by omega) hB.out (by rw [show 20 * q + 20 = 20 * (q + 1) by omega] at hP1; exact hP1) (by rw [show 20 * q + 20 = 20 * (q + 1) by omega] at hT1; exact hT1)
   ·exact permIn_trans _ _ _ _ _ hP.out (permIn_mono _ _ (20 * q) (20 * q + 20) 0 N (Nat.zero_le _) hle (by omega) hP1)
   ·simp [intOf]; omega
  ·have hc := B1.out (20 * q) N dk wr hs hS.out hq (Nat.le_refl _)
   go_upto_region 8 with (go_at_fn (ρ.f 29); refine hc.mono ?_; rintro e w1 ⟨rfl, d1, hP1, hT1, hS1⟩)
   have hB0 : eJ_ lt 20 0 N (gt d1) := f7_ (c := q) (by omega) hB.out hP1 hT1
   have hP0 : PermIn 0 N d d1 := permIn_trans _ _ _ _ _ hP.out (permIn_mono _ _ (20 * q) N 0 N (Nat.zero_le _) (Nat.le_refl _) (by omega) hP1)
   have hs0 : d1.size = N := hP1.1.trans hs
   have C1 : Hid _ := hB0
   have C2 : Hid _ := hP0
   have C3 : Hid _ := hS1
   clear hB0 hP0 hS1 hP1 hT1 hc c0 c1
   go_loopw [4] (fun v4 wr => ∃ (bs : Nat) (dk : Array α), v4 = .int .i64 bs ∧ 20 ≤ bs ∧ bs ≤ 2 * N + 20 ∧ dk.size = N ∧ Hid (eJ_ lt bs 0 N (gt dk)) ∧ Hid (PermIn 0 N d dk) ∧ Hid (SWK enc k (W.alloc (.cells #[.func (.func g) #[] lb, .func (.func sf) #[] sb] (ρ.t 42))) blk off dk wr))
    (fun v4 _ => N - (intOf v4).toNat)
   case atStart => exact ⟨20, d1, rfl, Nat.le_refl _, by omega, hs0, C1, C2, C3⟩
   case round =>
    clear hS hP hB hs C1 C2 C3 hs0
    obtain ⟨bs, dk2, rfl, hb20, hbN, hs, hB, hP, hS⟩ := hrel
    by_cases hlt : bs < N
    ·go_wp2
     go_loopw [5, 6] (fun va vb wr => ∃ (A q : Nat) (dk : Array α), va = .int .i64 A ∧ vb = .int .i64 ((A + 2 * bs : Nat) : Int) ∧ A ≤ N ∧ dk.size = N ∧ Hid (A = 2 * bs * q) ∧ Hid (eJ_ lt (2 * bs) 0 A (gt dk)) ∧ Hid (eJ_ lt bs A N (gt dk)) ∧ Hid (PermIn 0 N d dk) ∧ Hid (SWK enc k (W.alloc (.cells #[.func (.func g) #[] lb, .func (.func sf) #[] sb] (ρ.t 42))) blk off dk wr))
      (fun va _ _ => N - (intOf va).toNat)
     case atStart => exact ⟨0, 0, dk2, rfl, by go_num, by omega, hs, rfl, fun i j h1 h2 h3 => absurd h3 (by omega), hB, hP, hS⟩
     case round =>
      clear hS hP hB hs
      obtain ⟨A, q2, dk3, rfl, rfl, hAN, hs, hA, hB1', hB2', hP, hS⟩ := hrel
      obtain ⟨c0, c1⟩ := BX.out dk3 wr hS.out
      have hA1 : A = bs * (2 * q2) := by rw [hA.out, Nat.mul_comm 2 bs, Nat.mul_assoc]
      have hA2 : A + bs = bs * (2 * q2 + 1) := by rw [Nat.mul_succ, ← hA1]
      have T1 : ∀ u, u ≤ N → u ≤ A + bs → SortedIn lt A u dk3 := fun u h1 h2 => by
       have := hB2'.out.sort (c := 2 * q2) (by omega) h1 (by omega)
       rw [← hA1] at this; exact this
      have T2 : ∀ u, u ≤ N → u ≤ A + bs + bs → SortedIn lt (A + bs) u dk3 := fun u h1 h2 => by
       have := hB2'.out.sort (c := 2 * q2 + 1) (by omega) h1 (by omega)
       rw [← hA2] at this; exact this
      have D1 : Hid _ := T1
      have D2 : Hid _ := T2
      clear T1 T2 hA1 hA2
      by_cases hle : A + 2 * bs ≤ N
      ·have hc := B2.out A (A + bs) (A + 2 * bs) dk3 wr hs hS.out (by omega) (by omega) hle (D1.out _ (by omega) (by omega)) (D2.out _ hle (by omega))
       rw [show ((A + bs : Nat) : Int) = (A : Int) + (bs : Int) by omega] at hc
       go_wp2_with (go_at_fn (ρ.f 30); refine hc.mono ?_; rintro e w1 ⟨rfl, d2, hP2, hT2, hS2⟩)
       refine ⟨⟨A + 2 * bs, q2 + 1, d2, by go_num, by go_num, hle, hP2.1.trans hs, ?_, ?_, ?_, ?_, hS2⟩, ?_⟩
       ·show _ = _; rw [Nat.mul_succ, ← hA.out]
       ·have h0 := hB1'.out
        rw [hA.out] at hP2 hT2 h0 ⊢
        exact f7_ (c := q2) (by omega) h0 hP2 hT2
       ·exact m3_ (by omega) hP2 hB2'.out
       ·exact permIn_trans _ _ _ _ _ hP.out (permIn_mono _ _ A (A + 2 * bs) 0 N (Nat.zero_le _) hle (by omega) hP2)
       ·simp [intOf]; omega
      ·have FIN : ∀ d2 : Array α, PermIn A N dk3 d2 → SortedIn lt A N d2 → eJ_ lt (2 * bs) 0 N (gt d2) ∧ PermIn 0 N d d2 := fun d2 p s => by
        have h0 := hB1'.out
        refine ⟨?_, permIn_trans _ _ _ _ _ hP.out (permIn_mono _ _ A N 0 N (Nat.zero_le _) (Nat.le_refl _) (by omega) p)⟩
        rw [hA.out] at p s h0
        exact f7_ (c := q2) (by omega) h0 p s
       have BF : Hid _ := FIN
       clear FIN
       by_cases hm : A + bs < N
       ·have hc := B2.out A (A + bs) N dk3 wr hs hS.out (by omega) hm (Nat.le_refl _) (D1.out _ (by omega) (by omega)) (D2.out _ (Nat.le_refl _) (by omega))
        rw [show ((A + bs : Nat) : Int) = (A : Int) + (bs : Int) by omega] at hc
        go_wp2_with (go_at_fn (ρ.f 30); refine hc.mono ?_; rintro e w1 ⟨rfl, d2, hP2, hT2, hS2⟩)
        have hf := BF.out d2 hP2 hT2
        refine ⟨⟨2 * bs, d2, by go_num, by omega, by omega, hP2.1.trans hs, hf.1, hf.2, hS2⟩, ?_⟩
        simp [intOf]; omega
       ·have hf := BF.out dk3 (permIn_refl _ _ _) (D1.out _ (Nat.le_refl _) (by omega))
        have F1 : Hid _ := hf
        clear hf
        go_wp2
        refine ⟨⟨2 * bs, dk3, by go_num, by omega, by omega, hs, F1.out.1, F1.out.2, hS⟩, ?_⟩
        simp [intOf]; omega
    ·go_wp2
     go_end0
     exact ⟨rfl, dk2, hP.out, nD_ hB.out (by omega), SWK.on AW.out hblk hS.out (by rw [hs, HN.out])⟩
end Go.Proofs
namespace Go.Proofs
open Go.Shelf Go.RowKit Go.Lib Go.Sort
variable {P : Program} {ρ : Ren} {α : Type} [Inhabited α]
theorem jf_ (L : LaysGt.n8 P ρ) (t e : TypeId) (i ie : TypeInfo) (hi : P.info? t = some i) (hd : i.desc = .slice e) (hpk : P.packed t = false) (hie : P.info? e = some ie) (ke : Nat) (hke : ∀ w, (Extern.Rtype.kind e).run P w = .ok ke w)
  (enc : α → List Value) (k : Nat) (hk : ∀ x, (enc x).length = k) (hs1 : ie.size = k) (hagg : ∀ w, (isAgg e).run P w = .ok true w) (h1 : ∀ x, ∀ v ∈ enc x, v.oneCell' = true) (lt : α → α → Bool) (hO : SWO lt) (g : Nat) (lb : Array Value)
  (eg : ∀ args w, (callFunc g args).run P w = .ok (.enter g args) w) (blk off c : Nat) (d : Array α) (h2 : 2 ≤ d.size) (hsz : d.size < 1152921504606846976)
  (f : Nat) (hf : P.funcs.findIdx? (·.name == "internal/reflectlite" ++ ".Swapper$" ++ toString (swapperK d.size ie ke)) = some f)
  (gS : Bool) (hx : ∀ args W, (callFunc f args).run P W = ((Extern.ReflectliteSwapper.swap gS args).run P W).andThen fun v w' => .ok (.value v) w')
  (w : World) (hless : db_ P g lb enc k lt blk off d.size w) (hH : HoldsK enc k w blk off d) (hblk : blk < w.heap.size) :
  Calls P (ρ.f 8) #[.iface t (.slice (some ⟨blk, off, none⟩) d.size c), .func (.func g) #[] lb] w fun e w' =>
   e = .returned (.tuple #[]) ∧ ∃ d', PermIn 0 d.size d d' ∧ SortedIn lt 0 d.size d' ∧ SWK enc k w blk off d' w' := by
 refine Any.sort_SliceStable_of_stable L t e i ie hi hd hpk hie ke hke _ d.size c (by omega) f hf (.func g) #[] lb w _ ?_
 have hB : sliceBound P e ie ke (some ⟨blk, off, none⟩) d.size c = #[.slice (some ⟨blk, off, none⟩) d.size c, typeHandle P e] := by
  unfold sliceBound; rw [if_neg (swapperK_gt _ _ _ h2)]
 have hW : stableWorld P ρ t (some ⟨blk, off, none⟩) d.size c w = grow w #[.cells #[.slice (some ⟨blk, off, none⟩) d.size c] t, .cells #[.pointer (some ⟨P.globals.size, t, none⟩), .pointer (some ⟨w.heap.size, 0, none⟩), .int .u64 151] (ρ.t 36)] := by
  unfold stableWorld; rw [alloc_eq_grow, alloc_eq_grow, grow_grow]; rfl
 generalize (#[.cells #[.slice (some ⟨blk, off, none⟩) d.size c] t, .cells #[.pointer (some ⟨P.globals.size, t, none⟩), .pointer (some ⟨w.heap.size, 0, none⟩), .int .u64 151] (ρ.t 36)] : Array Obj) = os0 at hW
 rw [hB, hW]
 have hb0 : Go.RowKit.Below w.heap.size w (Sort.grow w os0) := ⟨rfl, rfl, rfl, by rw [size_grow]; omega, fun i hi => by unfold Sort.grow; exact Array.getElem?_append_left hi⟩
 have hS0 := (SWK.start hH).below hblk hb0
 refine (nL_ (P := P) (ρ := ρ) { L with } enc k hk lt hO g lb f _ blk off d (Sort.grow w os0) eg (hS0.lessReads hless hblk rfl) (swapSwapsK_of_literal gS f hx e ie hie enc k hk hs1 hagg h1 blk off d.size c) (hS0.holds hblk hH rfl) (hS0.lt hblk) hsz).mono ?_
 rintro e w' ⟨rfl, d', p, s, h⟩
 exact ⟨rfl, d', p, s, SWK.on hS0 hblk h p.1⟩
end Go.Proofs
