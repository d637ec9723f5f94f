/- FnPins: the law of pins holds for all bytes. No condition. -/
import Derived.Test.YtdipcpcbclobpaaDoorPFnPinsx16
namespace Go.Proofs.YtdipcpcbclobpaaDoor.Pure
open Go.RowKit Go.Proofs.YtdipcpcbclobpaaDoor.PFnPins Go.Proofs.YtdipcpcbclobpaaDoorW.PrintWords Go.Proofs.YtdipcpcbclobpaaDoorW.PrintLast

set_option linter.unusedVariables false
set_option linter.unusedSimpArgs false

theorem w64 {x : Int} (h : -9223372036854775808 ≤ x ∧ x ≤ 9223372036854775807) : wrap64 x = x := by
  unfold wrap64; omega
theorem someF {p : Prop} [Decidable p] (h : ¬ p) : some false = some (decide p) := by rw [decide_eq_false h]
theorem someD {q p : Prop} [Decidable q] [Decidable p] (h : q ↔ p) : some (decide q) = some (decide p) := by rw [decide_eq_decide.2 h]

theorem in_eq (a b c : Int) : spec_l1In.f a b c = some (decide (b ≤ a ∧ a ≤ c)) := by
  unfold spec_l1In.f
  by_cases h : a ≥ b
  · rw [if_pos h]; congr 1; simp [show b ≤ a from h]
  · rw [if_neg h]; congr 1; simp; omega

theorem fill_step {α : Type} (l : List α) (z : α) (i : Nat) (h : i < l.length) :
    (l.take i ++ List.replicate (l.length - i) z).set i (l[i]'h) = l.take (i + 1) ++ List.replicate (l.length - (i + 1)) z := by
  have hl : (l.take i).length = i := by rw [List.length_take]; omega
  rw [List.set_append_right _ _ (by omega), hl, Nat.sub_self, show l.length - i = (l.length - (i + 1)) + 1 by omega, List.replicate_succ, List.set_cons_zero, List.take_succ_eq_append_getElem h, List.append_assoc]
  rfl
theorem fill_length {α : Type} (l : List α) (z : α) (i : Nat) (h : i ≤ l.length) : (l.take i ++ List.replicate (l.length - i) z).length = l.length := by
  simp; omega

theorem rd_get (l : List Int) (i : Nat) (h : i < l.length) : rd l (i : Int) = l[i] := by
  unfold rd; rw [Int.toNat_natCast, List.getD_eq_getElem?_getD, List.getElem?_eq_getElem h]; rfl

/-- what is drawn out of bytes is always there -/
theorem tmod_range (x n : Int) (hx : 0 ≤ x) (hn : 1 ≤ n) : 0 ≤ Int.tmod x n ∧ Int.tmod x n < n := by
  rw [Int.tmod_eq_emod_of_nonneg hx]
  exact ⟨Int.emod_nonneg _ (by omega), Int.emod_lt_of_pos _ (by omega)⟩
theorem u64_range (x : Int) : 0 ≤ IntKind.u64.wrap x ∧ IntKind.u64.wrap x < 18446744073709551616 := by
  simp only [IntKind.wrap, IntKind.bits, IntKind.signed, Bool.false_and, Bool.false_eq_true, if_false]
  exact ⟨Int.emod_nonneg _ (by decide), Int.emod_lt_of_pos _ (by decide)⟩
theorem u64_keeps (n : Int) (h0 : 0 ≤ n) (h1 : n < 2 ^ 64) : IntKind.u64.wrap n = n := by
  simp only [IntKind.wrap, IntKind.bits, IntKind.signed, Bool.false_and, Bool.false_eq_true, if_false]
  exact Int.emod_eq_of_lt h0 h1
theorem low_byte (x : Int) : ∃ v, wrap64 (Go.bits .and .u64 ((IntKind.u64.wrap x) / 1099511627776) 255) = v ∧ 0 ≤ v ∧ v ≤ 255 := by
  obtain ⟨h0, h1⟩ := u64_range x
  have hd0 : 0 ≤ IntKind.u64.wrap x / 1099511627776 := by omega
  have hd1 : IntKind.u64.wrap x / 1099511627776 < 2 ^ 64 := by omega
  have e := bits_mask .u64 64 (by decide) (fun n a b => u64_keeps n a b) 8 (by decide) _ hd0 hd1
  rw [show (255 : Int) = 2 ^ 8 - 1 by decide, e]
  generalize IntKind.u64.wrap x / 1099511627776 = y at hd0 hd1
  have : 0 ≤ y % 2 ^ 8 ∧ y % 2 ^ 8 ≤ 255 := by omega
  exact ⟨_, w64 (by omega), this.1, this.2⟩
def Bytes (l : List Int) : Prop := l.length ≤ 1048576 ∧ ∀ x ∈ l, 0 ≤ x ∧ x ≤ 255
theorem next_ok (l : List Int) (hl : Bytes l) (a s : Int) (ha : 0 ≤ a ∧ a ≤ 1000000) : ∃ v s', spec_l1Cur_next.f l a s = some (v, a + 1, s') ∧ 0 ≤ v ∧ v ≤ 255 := by
  have wa : wrap64 (a + 1) = a + 1 := w64 (by omega)
  unfold spec_l1Cur_next.f
  rw [wa]
  clear wa
  by_cases h : a < (l.length : Int)
  · obtain ⟨n, rfl⟩ : ∃ n : Nat, a = n := ⟨a.toNat, by omega⟩
    have hn : n < l.length := by omega
    rw [if_pos h, if_pos ha.1]
    have hb := hl.2 _ (List.getElem_mem hn)
    by_cases h2 : (n : Int) + 1 ≤ (l.length : Int)
    · rw [if_pos h2]
      refine ⟨_, _, rfl, ?_⟩
      rw [rd_get l n hn, w64 (by omega)]
      exact hb
    · omega
  · rw [if_neg h]
    by_cases h2 : a + 1 ≤ (l.length : Int)
    · rw [if_pos h2]
      exact ⟨_, _, rfl, by omega, by omega⟩
    · rw [if_neg h2]
      obtain ⟨v, e, h0, h1⟩ := low_byte (IntKind.u64.wrap (IntKind.u64.wrap (s * 6364136223846793005)) + 1442695040888963407)
      exact ⟨v, IntKind.u64.wrap (IntKind.u64.wrap (IntKind.u64.wrap (s * 6364136223846793005)) + 1442695040888963407), by rw [e], h0, h1⟩
theorem pick_ok (l : List Int) (hl : Bytes l) (a s : Int) (ha : 0 ≤ a ∧ a ≤ 900000) (n : Int) :
    ∃ v a' s', spec_l1Cur_pick.f l a s n = some (v, a', s') ∧ 0 ≤ v ∧ (1 ≤ n → v < n) ∧ a ≤ a' ∧ a' ≤ a + 2 := by
  unfold spec_l1Cur_pick.f
  by_cases h : n ≤ 1
  · rw [if_pos h]
    exact ⟨0, a, s, rfl, by omega, by omega, by omega, by omega⟩
  · rw [if_neg h]
    obtain ⟨v, s1, e1, h0, h1⟩ := next_ok l hl a s (by omega)
    rw [e1]
    simp only [Option.bind_some]
    by_cases h2 : n > 200
    · obtain ⟨u, s2, e2, g0, g1⟩ := next_ok l hl (a + 1) s1 (by omega)
      rw [if_pos h2, e2]
      simp only [Option.bind_some]
      rw [if_neg (by omega), w64 (x := v * 256) (by omega), w64 (by omega)]
      have r := tmod_range (v * 256 + u) n (by omega) (by omega)
      exact ⟨_, _, _, rfl, r.1, fun _ => r.2, by omega, by omega⟩
    · rw [if_neg h2, if_neg (by omega)]
      have r := tmod_range v n h0 (by omega)
      exact ⟨_, _, _, rfl, r.1, fun _ => r.2, by omega, by omega⟩
theorem one_ok (l : List Int) (hl : Bytes l) (a s : Int) (ha : 0 ≤ a ∧ a ≤ 900000) (n : Int) :
    ∃ v a' s', spec_l1Cur_one.f l a s n = some (v, a', s') ∧ a ≤ a' ∧ a' ≤ a + 2 := by
  obtain ⟨v, a', s', e, _, _, h1, h2⟩ := pick_ok l hl a s ha n
  unfold spec_l1Cur_one.f
  rw [e]
  exact ⟨_, _, _, rfl, h1, h2⟩
theorem among_ok (l : List Int) (hl : Bytes l) (a s : Int) (ha : 0 ≤ a ∧ a ≤ 900000) (xs : List Int) (hx : 1 ≤ xs.length) :
    ∃ v a' s', spec_l1Cur_among.f l a s xs = some (v, a', s') ∧ a ≤ a' ∧ a' ≤ a + 2 := by
  obtain ⟨v, a', s', e, h0, h1, h2, h3⟩ := pick_ok l hl a s ha (xs.length : Int)
  unfold spec_l1Cur_among.f
  rw [e]
  simp only [Option.bind_some]
  rw [if_pos h0, if_pos (h1 (by omega))]
  exact ⟨_, _, _, rfl, h2, h3⟩

/-- with enough rounds there is an answer, and it is as Q says -/
def Tot {α : Type} (g : Nat → Option α) (Q : α → Prop) : Prop := ∃ r, Q r ∧ ∃ K, ∀ k, K ≤ k → g k = some r
theorem Tot.now {α : Type} {g : Nat → Option α} {Q : α → Prop} (r : α) (h : ∀ k, g k = some r) (q : Q r) : Tot g Q := ⟨r, q, 0, fun k _ => h k⟩
theorem Tot.ge {α : Type} {g : Nat → Option α} {Q : α → Prop} (r : α) (K : Nat) (h : ∀ k, K ≤ k → g k = some r) (q : Q r) : Tot g Q := ⟨r, q, K, h⟩
theorem Tot.step {α : Type} {g h : Nat → Option α} {Q : α → Prop} (hs : ∀ k, g (k + 1) = h k) (e : Tot h Q) : Tot g Q := by
  obtain ⟨r, q, K, hK⟩ := e
  refine ⟨r, q, K + 1, fun k hk => ?_⟩
  obtain ⟨j, rfl⟩ : ∃ j, k = j + 1 := ⟨k - 1, by omega⟩
  rw [hs]
  exact hK j (by omega)
theorem Tot.congr {α : Type} {g h : Nat → Option α} {Q : α → Prop} (hs : ∀ k, g k = h k) (e : Tot h Q) : Tot g Q := by
  obtain ⟨r, q, K, hK⟩ := e
  exact ⟨r, q, K, fun k hk => by rw [hs]; exact hK k hk⟩
theorem Tot.bind {α β : Type} {g : Nat → Option α} {Q : α → Prop} {h : Nat → α → Option β} {R : β → Prop} (e : Tot g Q) (e2 : ∀ a, Q a → Tot (fun k => h k a) R) : Tot (fun k => (g k).bind (h k)) R := by
  obtain ⟨a, q, K, hK⟩ := e
  obtain ⟨r, p, M, hM⟩ := e2 a q
  refine ⟨r, p, K + M, fun k hk => ?_⟩
  simp only []
  rw [hK k (by omega), Option.bind_some]
  exact hM k (by omega)
theorem Tot.weak {α : Type} {g : Nat → Option α} {Q R : α → Prop} (e : Tot g Q) (h : ∀ a, Q a → R a) : Tot g R := by
  obtain ⟨r, q, K, hK⟩ := e
  exact ⟨r, h r q, K, hK⟩
theorem Tot.mono {α : Type} {g : Nat → Option α} {Q : α → Prop} (e : Tot g Q) : ∃ r, Q r ∧ ∃ K, ∀ k, K ≤ k → g k = some r := e

/-- with enough rounds the answer is r -/
def Evn {α : Type} (g : Nat → Option α) (r : α) : Prop := ∃ K, ∀ k, K ≤ k → g k = some r
theorem Evn.const {α : Type} {g : Nat → Option α} {r : α} (h : ∀ k, g k = some r) : Evn g r := ⟨0, fun k _ => h k⟩
theorem Evn.ge {α : Type} {g : Nat → Option α} {r : α} (K : Nat) (h : ∀ k, K ≤ k → g k = some r) : Evn g r := ⟨K, h⟩
theorem Evn.step {α : Type} {g h : Nat → Option α} {r : α} (hs : ∀ k, g (k + 1) = h k) (e : Evn h r) : Evn g r := by
  obtain ⟨K, hK⟩ := e
  refine ⟨K + 1, fun k hk => ?_⟩
  obtain ⟨j, rfl⟩ : ∃ j, k = j + 1 := ⟨k - 1, by omega⟩
  rw [hs]
  exact hK j (by omega)
theorem Evn.congr {α : Type} {g h : Nat → Option α} {r : α} (hs : ∀ k, g k = h k) (e : Evn h r) : Evn g r := by
  obtain ⟨K, hK⟩ := e
  exact ⟨K, fun k hk => by rw [hs]; exact hK k hk⟩
theorem Evn.bind {α β : Type} {g : Nat → Option α} {a : α} {h : Nat → α → Option β} {r : β} (e : Evn g a) (e2 : Evn (fun k => h k a) r) : Evn (fun k => (g k).bind (h k)) r := by
  obtain ⟨K, hK⟩ := e
  obtain ⟨M, hM⟩ := e2
  refine ⟨K + M, fun k hk => ?_⟩
  simp only []
  rw [hK k (by omega), Option.bind_some]
  exact hM k (by omega)
theorem Evn.both {α β : Type} {g : Nat → Option α} {h : Nat → Option β} {r : α} {q : β} (e : Evn g r) (f : Evn h q) : ∃ K, ∀ k, K ≤ k → g k = some r ∧ h k = some q := by
  obtain ⟨K, hK⟩ := e
  obtain ⟨M, hM⟩ := f
  exact ⟨K + M, fun k hk => ⟨hK k (by omega), hM k (by omega)⟩⟩

theorem w_next (n : Nat) (h : n ≤ 1000000) : wrap64 ((n : Int) + 1) = ((n + 1 : Nat) : Int) := by rw [w64 (by omega)]; omega

/-- pins: valid ones, their order -/
def PinOK (x : S33) : Bool := decide ((0 ≤ x.f0 ∧ x.f0 ≤ 19) ∧ (0 ≤ x.f1 ∧ x.f1 ≤ 359) ∧ (0 ≤ x.f2 ∧ x.f2 ≤ 3))
def pLt (a b : S33) : Bool := decide (a.f2 < b.f2 ∨ (a.f2 = b.f2 ∧ (a.f1 < b.f1 ∨ (a.f1 = b.f1 ∧ a.f0 < b.f0))))
def PLt (a b : S33) : Prop := pLt a b = true
theorem plt_irrefl (a : S33) : ¬ PLt a a := by
  unfold PLt pLt
  simp
theorem plt_asymm {a b : S33} (h : PLt a b) : ¬ PLt b a := by
  unfold PLt pLt at *
  have := of_decide_eq_true h
  intro h2
  have := of_decide_eq_true h2
  omega
theorem plt_trans {a b c : S33} (h : PLt a b) (g : PLt b c) : PLt a c := by
  unfold PLt pLt at *
  have := of_decide_eq_true h
  have := of_decide_eq_true g
  exact decide_eq_true (by omega)
theorem plt_total {a b : S33} (h : pLt a b = false) (g : pLt b a = false) : a = b := by
  unfold pLt at *
  have h := of_decide_eq_false h
  have g := of_decide_eq_false g
  obtain ⟨a0, a1, a2⟩ := a
  obtain ⟨b0, b1, b2⟩ := b
  dsimp only at h g
  obtain rfl : a0 = b0 := by omega
  obtain rfl : a1 = b1 := by omega
  obtain rfl : a2 = b2 := by omega
  rfl
def Srt (l : List S33) : Prop := l.Pairwise PLt
theorem srt_nodup {l : List S33} (h : Srt l) : l.Nodup := by
  unfold List.Nodup
  exact List.Pairwise.imp (fun {a b} (hab : PLt a b) (e : a = b) => plt_irrefl b (e ▸ hab)) h
theorem srt_unique : ∀ (L M : List S33), Srt L → Srt M → (∀ t, t ∈ L ↔ t ∈ M) → L = M
  | [], [], _, _, _ => rfl
  | [], b :: M, _, _, h => absurd ((h b).2 List.mem_cons_self) (by simp)
  | a :: L, [], _, _, h => absurd ((h a).1 List.mem_cons_self) (by simp)
  | a :: L, b :: M, hL, hM, h => by
    unfold Srt at hL hM
    rw [List.pairwise_cons] at hL hM
    have e : a = b := by
      rcases List.mem_cons.1 ((h a).1 List.mem_cons_self) with e | e
      · exact e
      · rcases List.mem_cons.1 ((h b).2 List.mem_cons_self) with e2 | e2
        · exact e2.symm
        · exact absurd (hL.1 b e2) (plt_asymm (hM.1 a e))
    subst e
    rw [srt_unique L M hL.2 hM.2 (fun t => ?_)]
    have ht := h t
    rw [List.mem_cons, List.mem_cons] at ht
    constructor
    · intro m
      rcases ht.1 (.inr m) with e | e
      · exact absurd (e ▸ hL.1 t m) (plt_irrefl _)
      · exact e
    · intro m
      rcases ht.2 (.inr m) with e | e
      · exact absurd (e ▸ hM.1 t m) (plt_irrefl _)
      · exact e
/-- valid pins -/
def chkP (p : Option S33) : List S33 → Bool
  | [] => true
  | x :: r => PinOK x && (p.all fun y => pLt y x) && chkP (some x) r
def PinsB (l : List S33) : Bool := chkP none l && decide (l.length ≤ 60)
theorem chkP_iff (l : List S33) : ∀ p, chkP p l = true ↔ ((∀ x ∈ l, PinOK x = true) ∧ Srt l ∧ ∀ y, p = some y → ∀ x ∈ l, PLt y x) := by
  induction l with
  | nil => intro p; simp [chkP, Srt]
  | cons x r ih =>
    intro p
    unfold chkP
    rw [Bool.and_eq_true, Bool.and_eq_true, ih (some x)]
    unfold Srt
    rw [List.pairwise_cons, List.forall_mem_cons]
    constructor
    · rintro ⟨⟨h1, h2⟩, h3, h4, h5⟩
      have h6 := h5 x rfl
      refine ⟨⟨h1, h3⟩, ⟨h6, h4⟩, fun y hy z hz => ?_⟩
      subst hy
      have h7 : PLt y x := by
        have : pLt y x = true := by simpa using h2
        exact this
      rcases List.mem_cons.1 hz with e | e
      · rw [e]; exact h7
      · exact plt_trans h7 (h6 z e)
    · rintro ⟨⟨h1, h3⟩, ⟨h6, h4⟩, h5⟩
      refine ⟨⟨h1, ?_⟩, h3, h4, fun y hy z hz => ?_⟩
      · cases p with
        | none => rfl
        | some y => exact h5 y rfl x (by simp)
      · obtain rfl := Option.some.inj hy
        exact h6 z hz
theorem pinsB_iff (l : List S33) : PinsB l = true ↔ (∀ x ∈ l, PinOK x = true) ∧ Srt l ∧ l.length ≤ 60 := by
  unfold PinsB
  rw [Bool.and_eq_true, chkP_iff, decide_eq_true_eq]
  simp [and_assoc]
/-- pins in order -/
def pSort (l : List S33) : List S33 := l.mergeSort fun a b => !pLt b a
theorem pSort_mem (l : List S33) (x : S33) : x ∈ pSort l ↔ x ∈ l := List.mem_mergeSort
theorem pSort_length (l : List S33) : (pSort l).length = l.length := List.length_mergeSort _
theorem pSort_srt {l : List S33} (h : l.Nodup) : Srt (pSort l) := by
  have hp : (pSort l).Perm l := List.mergeSort_perm _ _
  have nd : (pSort l).Pairwise (fun a b => a ≠ b) := hp.symm.pairwise h (fun h => h.symm)
  have so : (pSort l).Pairwise (fun a b => (!pLt b a) = true) := by
    unfold pSort
    refine List.pairwise_mergeSort (fun a b c h1 h2 => ?_) (fun a b => ?_) _
    · simp only [Bool.not_eq_true'] at *
      unfold pLt at *
      have h1 := of_decide_eq_false h1
      have h2 := of_decide_eq_false h2
      exact decide_eq_false (by omega)
    · simp only [Bool.or_eq_true, Bool.not_eq_true']
      unfold pLt
      by_cases h : b.f2 < a.f2 ∨ (b.f2 = a.f2 ∧ (b.f1 < a.f1 ∨ (b.f1 = a.f1 ∧ b.f0 < a.f0)))
      · right; exact decide_eq_false (by omega)
      · left; exact decide_eq_false h
  refine List.Pairwise.imp ?_ (nd.and so)
  intro a b hab
  have h2 : pLt b a = false := by simpa using hab.2
  cases h3 : pLt a b with
  | true => exact h3
  | false => exact absurd (plt_total h3 h2) hab.1
/-- a sorted, valid row of pins from a row of valid pins of which no two are the same -/
theorem pSort_pins {l : List S33} (h : l.Nodup) (hv : ∀ x ∈ l, PinOK x = true) (hl : l.length ≤ 60) : PinsB (pSort l) = true :=
  (pinsB_iff _).2 ⟨fun x hx => hv x ((pSort_mem l x).1 hx), pSort_srt h, by rw [pSort_length]; exact hl⟩
theorem map_nodup {l : List S33} (g : S33 → S33) (h : l.Nodup) (hi : ∀ a ∈ l, ∀ b ∈ l, g a = g b → a = b) : (l.map g).Nodup := by
  unfold List.Nodup at *
  rw [List.pairwise_map]
  exact List.Pairwise.imp_of_mem (fun {a b} ha hb hne e => hne (hi a ha b hb e)) h
/-- a tune that is turned -/
def turnP (s b : Int) (x : S33) : S33 := if x.f2 = s then ⟨x.f0, (x.f1 + b) % 360, x.f2⟩ else x
theorem turn_ok {s b : Int} (hb : 0 ≤ b ∧ b ≤ 359) {x : S33} (h : PinOK x = true) : PinOK (turnP s b x) = true := by
  unfold PinOK at *
  have h := of_decide_eq_true h
  unfold turnP
  split
  · exact decide_eq_true (by dsimp only; omega)
  · exact decide_eq_true h
theorem turn_back {s b : Int} (hb : 0 ≤ b ∧ b ≤ 359) {x : S33} (h : PinOK x = true) : turnP s ((360 - b) % 360) (turnP s b x) = x := by
  unfold PinOK at h
  have h := of_decide_eq_true h
  obtain ⟨x0, x1, x2⟩ := x
  unfold turnP
  dsimp only at *
  by_cases e : x2 = s
  · rw [if_pos e, if_pos e]
    dsimp only
    congr 1
    omega
  · rw [if_neg e, if_neg e]
theorem turn_shift (s b : Int) (x : S33) : (turnP s b x).f2 = x.f2 := by
  unfold turnP
  split <;> rfl
/-- two tunes swapped -/
def swapP (a b : Int) (x : S33) : S33 := if x.f2 = a then ⟨x.f0, x.f1, b⟩ else if x.f2 = b then ⟨x.f0, x.f1, a⟩ else x
theorem swap_ok {a b : Int} (ha : 0 ≤ a ∧ a ≤ 3) (hb : 0 ≤ b ∧ b ≤ 3) {x : S33} (h : PinOK x = true) : PinOK (swapP a b x) = true := by
  unfold PinOK at *
  have h := of_decide_eq_true h
  unfold swapP
  split
  · exact decide_eq_true (by dsimp only; omega)
  · split
    · exact decide_eq_true (by dsimp only; omega)
    · exact decide_eq_true h
theorem swap_back (a b : Int) (x : S33) : swapP b a (swapP a b x) = x := by
  obtain ⟨x0, x1, x2⟩ := x
  unfold swapP
  dsimp only
  by_cases e : x2 = a
  · rw [if_pos e]
    dsimp only
    rw [if_pos rfl, e]
  · rw [if_neg e]
    by_cases e2 : x2 = b
    · rw [if_pos e2]
      dsimp only
      by_cases e3 : a = b
      · exact absurd (e2.trans e3.symm) e
      · rw [if_neg e3, if_pos rfl, e2]
    · rw [if_neg e2]
      dsimp only
      rw [if_neg e2, if_neg e]
theorem inj_of_back {g k : S33 → S33} {l : List S33} (h : ∀ x ∈ l, k (g x) = x) : ∀ a ∈ l, ∀ b ∈ l, g a = g b → a = b := fun a ha b hb e => by rw [← h a ha, ← h b hb, e]
/-- sorted again behind a change and the change that undoes it -/
theorem back_sort {g k : S33 → S33} {l : List S33} (hl : Srt l) (h : ∀ x ∈ l, k (g x) = x) : pSort ((pSort (l.map g)).map k) = l := by
  have hm : ∀ t, t ∈ (pSort (l.map g)).map k ↔ t ∈ l := fun t => by
    rw [List.mem_map]
    constructor
    · rintro ⟨y, hy, rfl⟩
      rw [pSort_mem, List.mem_map] at hy
      obtain ⟨x, hx, rfl⟩ := hy
      rw [h x hx]; exact hx
    · intro ht
      exact ⟨g t, (pSort_mem _ _).2 (List.mem_map.2 ⟨t, ht, rfl⟩), h t ht⟩
  have nd : ((pSort (l.map g)).map k).Nodup := by
    refine map_nodup k (srt_nodup (pSort_srt (map_nodup g (srt_nodup hl) (inj_of_back h)))) (fun a ha b hb e => ?_)
    rw [pSort_mem, List.mem_map] at ha hb
    obtain ⟨x, hx, rfl⟩ := ha
    obtain ⟨y, hy, rfl⟩ := hb
    rw [h x hx, h y hy] at e
    rw [e]
  exact srt_unique _ _ (pSort_srt nd) hl (fun t => (pSort_mem _ t).trans (hm t))
/-- the pins of a tune, or the others -/
def partP (l : List S33) (s : Int) (own : Bool) : List S33 := l.filter fun x => decide (x.f2 = s) == own
theorem part_len (l : List S33) (s : Int) : (partP l s true).length + (partP l s false).length = l.length := by
  unfold partP
  induction l with
  | nil => rfl
  | cons x r ih =>
    rw [List.filter_cons, List.filter_cons]
    by_cases h : x.f2 = s
    · rw [decide_eq_true h, if_pos (by rfl), if_neg (by decide), List.length_cons, List.length_cons]; omega
    · rw [decide_eq_false h, if_neg (by decide), if_pos (by rfl), List.length_cons, List.length_cons]; omega
theorem part_others {l : List S33} (hl : Srt l) (s b : Int) (hi : ∀ a ∈ l, ∀ c ∈ l, turnP s b a = turnP s b c → a = c) : partP (pSort (l.map (turnP s b))) s false = partP l s false := by
  refine srt_unique _ _ ((pSort_srt (map_nodup _ (srt_nodup hl) hi)).filter _) (hl.filter _) (fun t => ?_)
  unfold partP
  rw [List.mem_filter, List.mem_filter, pSort_mem, List.mem_map]
  constructor
  · rintro ⟨⟨x, hx, rfl⟩, h⟩
    rw [turn_shift] at h
    have hne : ¬ x.f2 = s := by simpa using h
    have e : turnP s b x = x := by unfold turnP; rw [if_neg hne]
    rw [e]
    exact ⟨hx, h⟩
  · rintro ⟨hx, h⟩
    have hne : ¬ t.f2 = s := by simpa using h
    exact ⟨⟨t, hx, by unfold turnP; rw [if_neg hne]⟩, h⟩
/-- the tracks that a tune plays at an angle -/
def playL (l : List S33) (s a : Int) : List Int := (l.filter fun x => decide (x.f2 = s ∧ x.f1 = a)).map (·.f0)
theorem play_turned {l : List S33} (s b : Int) {x : S33} (hx : x ∈ partP l s true) : x.f0 ∈ playL (pSort (l.map (turnP s b))) s ((x.f1 + b) % 360) := by
  unfold partP at hx
  rw [List.mem_filter] at hx
  have hs : x.f2 = s := by simpa using hx.2
  unfold playL
  rw [List.mem_map]
  refine ⟨turnP s b x, List.mem_filter.2 ⟨(pSort_mem _ _).2 (List.mem_map.2 ⟨x, hx.1, rfl⟩), ?_⟩, ?_⟩
  · unfold turnP
    rw [if_pos hs]
    exact decide_eq_true ⟨hs, rfl⟩
  · unfold turnP
    rw [if_pos hs]
/-- the least way to a pin of a tune -/
def dstP (a : Int) (x : S33) : Int := (x.f1 - a + 360) % 360

theorem drop_get {α : Type} (l : List α) (i : Nat) (h : i < l.length) : l.drop i = l[i] :: l.drop (i + 1) := List.drop_eq_getElem_cons h
theorem rdP_get (l : List S33) (i : Nat) (h : i < l.length) : rd_T33 l (i : Int) = l[i] := by
  unfold rd_T33; rw [Int.toNat_natCast, List.getD_eq_getElem?_getD, List.getElem?_eq_getElem h]; rfl
theorem plt_ntrans {a b c : S33} (h : pLt a b = false) (g : pLt b c = false) : pLt a c = false := by
  unfold pLt at *
  have h := of_decide_eq_false h
  have g := of_decide_eq_false g
  exact decide_eq_false (by omega)
theorem specPin_eq (x : S33) : spec_cyPin.f x.f0 x.f1 x.f2 = some (PinOK x) := by
  unfold spec_cyPin.f spec_cyShift.f PinOK
  rw [in_eq, in_eq, in_eq]
  simp only [Option.bind_some, decide_eq_true_eq]
  by_cases h1 : 0 ≤ x.f0 ∧ x.f0 ≤ 19
  · rw [if_pos h1]
    by_cases h2 : 0 ≤ x.f1 ∧ x.f1 ≤ 359
    · rw [if_pos h2]
      exact someD ⟨fun h => ⟨h1, h2, h⟩, fun h => h.2.2⟩
    · rw [if_neg h2]
      exact someF (fun h => h2 h.2.1)
  · rw [if_neg h1]
    exact someF (fun h => h1 h.1)
theorem implShift_eq (s : Int) : impl_isShift.f s = some (decide (0 ≤ s ∧ s ≤ 3)) := by
  unfold impl_isShift.f
  by_cases h : s ≥ 0
  · rw [if_pos h]; exact someD (by omega)
  · rw [if_neg h]; exact someF (by omega)
theorem implAngle_eq (s : Int) : impl_isAngle.f s = some (decide (0 ≤ s ∧ s ≤ 359)) := by
  unfold impl_isAngle.f
  by_cases h : s ≥ 0
  · rw [if_pos h]; exact someD (by omega)
  · rw [if_neg h]; exact someF (by omega)
theorem specShift_eq (s : Int) : spec_cyShift.f s = some (decide (0 ≤ s ∧ s ≤ 3)) := by
  unfold spec_cyShift.f
  rw [in_eq]
  rfl
theorem specAngle_eq (s : Int) : spec_cyAngle.f s = some (decide (0 ≤ s ∧ s ≤ 359)) := by
  unfold spec_cyAngle.f
  rw [in_eq]
  rfl
theorem implPin_eq (x : S33) : impl_isPin.f x.f0 x.f1 x.f2 = some (PinOK x) := by
  unfold impl_isPin.f impl_isTrack.f PinOK
  rw [implShift_eq]
  by_cases h1 : x.f0 ≥ 0
  · rw [if_pos h1]
    simp only [Option.bind_some, decide_eq_true_eq]
    by_cases h2 : x.f0 < 20
    · rw [if_pos h2]
      by_cases h3 : x.f1 ≥ 0
      · rw [if_pos h3]
        by_cases h4 : x.f1 < 360
        · rw [if_pos h4]; exact someD (by omega)
        · rw [if_neg h4]; exact someF (by omega)
      · rw [if_neg h3]; exact someF (by omega)
    · rw [if_neg h2]; exact someF (by omega)
  · rw [if_neg h1]
    simp only [Option.bind_some]
    rw [if_neg (by decide)]
    exact someF (by omega)
theorem cyBefore_eq (a b : S33) : spec_cyBefore.f a.f0 a.f1 a.f2 b.f0 b.f1 b.f2 = some (pLt a b) := by
  unfold spec_cyBefore.f pLt
  repeat' split
  all_goals (exact someD (by omega))
theorem pinLess_eq (a b : S33) : impl_pinLess.f a.f0 a.f1 a.f2 b.f0 b.f1 b.f2 = some (pLt a b) := cyBefore_eq a b
theorem chkP_cons (p : Option S33) (x : S33) (r : List S33) : chkP p (x :: r) = (PinOK x && (p.all fun y => pLt y x) && chkP (some x) r) := rfl
def PrevP (l : List S33) (i : Nat) (p : Option S33) : Prop := (i = 0 ∧ p = none) ∨ ∃ (j : Nat) (hj : j < l.length), i = j + 1 ∧ p = some l[j]
theorem prev_next (l : List S33) (i : Nat) (h : i < l.length) : PrevP l (i + 1) (some l[i]) := .inr ⟨i, h, rfl, rfl⟩
theorem goodS_loop (l : List S33) (hl : l.length ≤ 1048576) (d : Nat) : ∀ (k i : Nat) (p : Option S33), i + d = l.length → d < k → PrevP l i p → spec_cyGood.l0 k l l l.length i = some (chkP p (l.drop i) && decide (l.length ≤ 60)) := by
  induction d with
  | zero =>
    intro k i p hi hk hp
    obtain ⟨k, rfl⟩ : ∃ j, k = j + 1 := ⟨k - 1, by omega⟩
    rw [spec_cyGood.l0, if_neg (by omega), List.drop_of_length_le (by omega)]
    unfold chkP
    rw [Bool.true_and]
    exact someD (by omega)
  | succ d ih =>
    intro k i p hi hk hp
    obtain ⟨k, rfl⟩ : ∃ j, k = j + 1 := ⟨k - 1, by omega⟩
    have hi' : i < l.length := by omega
    have e := ih k (i + 1) (some l[i]) (by omega) (by omega) (prev_next l i hi')
    have ew : wrap64 ((i : Int) + 1) = ((i + 1 : Nat) : Int) := by rw [w64 (by omega)]; omega
    rw [spec_cyGood.l0, if_pos (by omega), if_pos (by omega), if_pos (by omega), rdP_get l i hi', specPin_eq, drop_get l i hi', ew, e]
    simp only [Option.bind_some]
    rw [chkP_cons]
    by_cases h1 : PinOK l[i] = true
    · rw [if_pos h1, h1, Bool.true_and]
      rcases hp with ⟨h0, rfl⟩ | ⟨j, hj, h0, rfl⟩
      · subst h0
        rw [if_neg (by omega)]
        rfl
      · subst h0
        have ew2 : wrap64 (((j + 1 : Nat) : Int) - 1) = (j : Int) := by rw [w64 (by omega)]; omega
        rw [if_pos (by omega), ew2, if_pos (by omega), if_pos (by omega), rdP_get l j hj, cyBefore_eq]
        simp only [Option.bind_some, Option.all_some]
        cases pLt l[j] l[j + 1] with
        | true => rw [if_pos rfl, Bool.true_and]
        | false => rw [if_neg (by decide)]; rfl
    · rw [if_neg h1, Bool.eq_false_iff.2 h1]
      rfl
theorem goodI_loop (l : List S33) (hl : l.length ≤ 1048576) (d : Nat) : ∀ (k i : Nat) (p : Option S33), i + d = l.length → d < k → PrevP l i p → impl_ArePins.l0 k l l l.length i = some (chkP p (l.drop i) && decide (l.length ≤ 60)) := by
  induction d with
  | zero =>
    intro k i p hi hk hp
    obtain ⟨k, rfl⟩ : ∃ j, k = j + 1 := ⟨k - 1, by omega⟩
    rw [impl_ArePins.l0, if_neg (by omega), List.drop_of_length_le (by omega)]
    unfold chkP
    rw [Bool.true_and]
    exact someD (by omega)
  | succ d ih =>
    intro k i p hi hk hp
    obtain ⟨k, rfl⟩ : ∃ j, k = j + 1 := ⟨k - 1, by omega⟩
    have hi' : i < l.length := by omega
    have e := ih k (i + 1) (some l[i]) (by omega) (by omega) (prev_next l i hi')
    have ew : wrap64 ((i : Int) + 1) = ((i + 1 : Nat) : Int) := by rw [w64 (by omega)]; omega
    rw [impl_ArePins.l0, if_pos (by omega), if_pos (by omega), if_pos (by omega), rdP_get l i hi', implPin_eq, drop_get l i hi', ew, e]
    simp only [Option.bind_some]
    rw [chkP_cons]
    by_cases h1 : PinOK l[i] = true
    · rw [if_pos h1, h1, Bool.true_and]
      rcases hp with ⟨h0, rfl⟩ | ⟨j, hj, h0, rfl⟩
      · subst h0
        rw [if_neg (by omega)]
        rfl
      · subst h0
        have ew2 : wrap64 (((j + 1 : Nat) : Int) - 1) = (j : Int) := by rw [w64 (by omega)]; omega
        rw [if_pos (by omega), ew2, if_pos (by omega), if_pos (by omega), rdP_get l j hj, pinLess_eq]
        simp only [Option.bind_some, Option.all_some]
        cases pLt l[j] l[j + 1] with
        | true => rw [if_pos rfl, Bool.true_and]
        | false => rw [if_neg (by decide)]; rfl
    · rw [if_neg h1, Bool.eq_false_iff.2 h1]
      rfl
theorem cyGood_eq (l : List S33) (hl : l.length ≤ 1048576) (k : Nat) (hk : l.length < k) : spec_cyGood.f k l = some (PinsB l) := by
  unfold spec_cyGood.f PinsB
  exact goodS_loop l hl l.length k 0 none (by omega) hk (.inl ⟨rfl, rfl⟩)
theorem arePins_eq (l : List S33) (hl : l.length ≤ 1048576) (k : Nat) (hk : l.length < k) : impl_ArePins.f k l = some (PinsB l) := by
  unfold impl_ArePins.f PinsB
  exact goodI_loop l hl l.length k 0 none (by omega) hk (.inl ⟨rfl, rfl⟩)
def NotAfter (a b : S33) : Prop := pLt b a = false
theorem insert_order {out : List S33} {x : S33} (ho : out.Pairwise NotAfter) (j : Nat) (hj : j ≤ out.length) (h1 : ∀ i, j ≤ i → ∀ h : i < out.length, pLt x out[i] = true) (h2 : ∀ h : 0 < j, pLt x (out[j - 1]'(by omega)) = false) :
    (out.take j ++ [x] ++ out.drop j).Pairwise NotAfter := by
  rw [List.append_assoc, List.pairwise_append]
  refine ⟨ho.sublist (List.take_sublist _ _), ?_, ?_⟩
  · rw [List.singleton_append, List.pairwise_cons]
    refine ⟨fun y hy => ?_, ho.sublist (List.drop_sublist _ _)⟩
    obtain ⟨i, hi, rfl⟩ := List.mem_iff_getElem.1 hy
    rw [List.length_drop] at hi
    rw [List.getElem_drop]
    have := h1 (j + i) (by omega) (by omega)
    unfold NotAfter
    unfold pLt at *
    have := of_decide_eq_true this
    exact decide_eq_false (by omega)
  · intro a ha y hy
    obtain ⟨i, hi, rfl⟩ := List.mem_iff_getElem.1 ha
    rw [List.length_take] at hi
    rw [List.getElem_take]
    have hj0 : 0 < j := by omega
    have e2 := h2 hj0
    -- what lies ahead is not after x
    have ea : NotAfter out[i] x := by
      unfold NotAfter
      by_cases he : i = j - 1
      · subst he; exact e2
      · have := (List.pairwise_iff_getElem.1 ho) i (j - 1) (by omega) (by omega) (by omega)
        exact plt_ntrans e2 this
    rcases List.mem_cons.1 (by simpa using hy) with rfl | hy
    · exact ea
    · obtain ⟨q, hq, rfl⟩ := List.mem_iff_getElem.1 hy
      rw [List.length_drop] at hq
      rw [List.getElem_drop]
      exact (List.pairwise_iff_getElem.1 ho) i (j + q) (by omega) (by omega) (by omega)
theorem insert_perm {α : Type} (out : List α) (x : α) (j : Nat) : (out.take j ++ [x] ++ out.drop j).Perm (out ++ [x]) := by
  rw [List.append_assoc]
  have h1 : (out.take j ++ ([x] ++ out.drop j)).Perm (out.take j ++ (out.drop j ++ [x])) := (List.perm_append_comm).append_left _
  refine h1.trans ?_
  rw [← List.append_assoc, List.take_append_drop]
/-- the place of a further hole -/
theorem place_loop (out l : List S33) (hl : out.length ≤ 1048576) (x : S33) (n i : Int) {r : List S33 × Bool}
    (hk : ∀ j (_hj : j ≤ out.length), (∀ q, j ≤ q → ∀ h : q < out.length, pLt x out[q] = true) → (∀ h : 0 < j, pLt x (out[j - 1]'(by omega)) = false) →
      Evn (fun k => spec_cySorted.l0 k (out.take j ++ [x] ++ out.drop j) l n (wrap64 (i + 1))) r) :
    ∀ p, p ≤ out.length → (∀ q, p ≤ q → ∀ h : q < out.length, pLt x out[q] = true) → Evn (fun k => spec_cySorted.l1 k out p l n i x.f0 x.f1 x.f2) r := by
  intro p
  induction p with
  | zero =>
    intro hp ha
    refine Evn.step (h := fun k => spec_cySorted.l0 k (out.take 0 ++ [x] ++ out.drop 0) l n (wrap64 (i + 1))) (fun k => ?_) (hk 0 (by omega) ha (fun h => absurd h (by omega)))
    rw [spec_cySorted.l1, if_neg (by simp)]
    simp only [Option.bind_some]
    rw [if_pos (by omega), if_pos (by omega)]
    simp only [Int.toNat_natCast, List.nil_append]
    rw [if_pos (by simp), if_pos (by simp), if_pos (by simp; omega)]
  | succ p ih =>
    intro hp ha
    have e1 : wrap64 (((p + 1 : Nat) : Int) - 1) = (p : Int) := by rw [w64 (by omega)]; omega
    by_cases hb : pLt x (out[p]'(by omega)) = true
    · refine Evn.step (h := fun k => spec_cySorted.l1 k out p l n i x.f0 x.f1 x.f2) (fun k => ?_) (ih (by omega) (fun q hq h => ?_))
      · rw [spec_cySorted.l1, if_pos (by omega), e1, if_pos (by omega), if_pos (by omega), rdP_get out p (by omega), cyBefore_eq]
        simp only [Option.bind_some]
        rw [hb, if_pos rfl]
      · by_cases hq' : q = p
        · subst hq'; exact hb
        · exact ha q (by omega) h
    · have hb' : pLt x (out[p]'(by omega)) = false := Bool.eq_false_iff.2 hb
      refine Evn.step (h := fun k => spec_cySorted.l0 k (out.take (p + 1) ++ [x] ++ out.drop (p + 1)) l n (wrap64 (i + 1))) (fun k => ?_) (hk (p + 1) hp ha (fun _ => hb'))
      rw [spec_cySorted.l1, if_pos (by omega), e1, if_pos (by omega), if_pos (by omega), rdP_get out p (by omega), cyBefore_eq]
      simp only [Option.bind_some]
      rw [hb', if_neg (by decide), if_pos (by omega), if_pos (by omega)]
      simp only [Int.toNat_natCast, List.nil_append]
      rw [if_pos (by simp; omega), if_pos (by simp; omega), if_pos (by simp; omega)]
theorem cySorted_loop (l : List S33) (hl : l.length ≤ 1048576) (d : Nat) : ∀ (i : Nat) (out : List S33), i + d = l.length → out.Perm (l.take i) → out.Pairwise NotAfter →
    ∃ M, M.Perm l ∧ M.Pairwise NotAfter ∧ Evn (fun k => spec_cySorted.l0 k out l l.length i) (if PinsB M then (M, true) else ([], false)) := by
  induction d with
  | zero =>
    intro i out hi hp hs
    have hn : l.take i = l := List.take_of_length_le (by omega)
    rw [hn] at hp
    have hol := hp.length_eq
    refine ⟨out, hp, hs, out.length + 2, fun k hk => ?_⟩
    obtain ⟨k, rfl⟩ : ∃ j, k = j + 1 := ⟨k - 1, by omega⟩
    simp only []
    rw [spec_cySorted.l0, if_neg (by omega), cyGood_eq out (by omega) k (by omega)]
    simp only [Option.bind_some]
    cases PinsB out <;> rfl
  | succ d ih =>
    intro i out hi hp hs
    have hol : out.length = i := by rw [hp.length_eq, List.length_take]; omega
    have hi' : i < l.length := by omega
    -- which place it comes to doesn't matter: each is in order
    have ht : l.take (i + 1) = l.take i ++ [l[i]] := List.take_succ_eq_append_getElem hi'
    have hnext : ∀ j (_hj : j ≤ out.length), (∀ q, j ≤ q → ∀ h : q < out.length, pLt l[i] out[q] = true) → (∀ h : 0 < j, pLt l[i] (out[j - 1]'(by omega)) = false) →
        (out.take j ++ [l[i]] ++ out.drop j).Perm (l.take (i + 1)) ∧ (out.take j ++ [l[i]] ++ out.drop j).Pairwise NotAfter := fun j hj h1 h2 =>
      ⟨(insert_perm out l[i] j).trans (by rw [ht]; exact hp.append_right _), insert_order hs j hj h1 h2⟩
    obtain ⟨j0, hj0, a0, b0⟩ : ∃ j, ∃ hj : j ≤ out.length, (∀ q, j ≤ q → ∀ h : q < out.length, pLt l[i] out[q] = true) ∧ (∀ h : 0 < j, pLt l[i] (out[j - 1]'(by omega)) = false) := by
      have : ∀ p, p ≤ out.length → (∀ q, p ≤ q → ∀ h : q < out.length, pLt l[i] out[q] = true) → ∃ j, ∃ hj : j ≤ out.length, (∀ q, j ≤ q → ∀ h : q < out.length, pLt l[i] out[q] = true) ∧ (∀ h : 0 < j, pLt l[i] (out[j - 1]'(by omega)) = false) := by
        intro p
        induction p with
        | zero => intro hp' ha; exact ⟨0, by omega, ha, fun h => absurd h (by omega)⟩
        | succ p ihp =>
          intro hp' ha
          by_cases hb : pLt l[i] (out[p]'(by omega)) = true
          · refine ihp (by omega) (fun q hq h => ?_)
            by_cases hq' : q = p
            · subst hq'; exact hb
            · exact ha q (by omega) h
          · exact ⟨p + 1, hp', ha, fun _ => Bool.eq_false_iff.2 hb⟩
      exact this out.length (Nat.le_refl _) (fun q hq h => absurd h (by omega))
    obtain ⟨M, hM1, hM2, hM3⟩ := ih (i + 1) _ (by omega) (hnext j0 hj0 a0 b0).1 (hnext j0 hj0 a0 b0).2
    refine ⟨M, hM1, hM2, ?_⟩
    refine Evn.step (h := fun k => spec_cySorted.l1 k out out.length l l.length i l[i].f0 l[i].f1 l[i].f2) (fun k => ?_) (place_loop out l (by omega) l[i] l.length i (fun j hj h1 h2 => ?_) out.length (Nat.le_refl _) (fun q hq h => absurd h (by omega)))
    · rw [spec_cySorted.l0, if_pos (by omega), if_pos (by omega), if_pos (by omega), rdP_get l i hi']
    · have e : j = j0 := by
        rcases Nat.lt_trichotomy j j0 with h | h | h
        · have x1 := b0 (by omega)
          rw [h1 (j0 - 1) (by omega) (by omega)] at x1; cases x1
        · exact h
        · have x1 := h2 (by omega)
          rw [a0 (j - 1) (by omega) (by omega)] at x1; cases x1
      subst e
      rw [show wrap64 ((i : Int) + 1) = ((i + 1 : Nat) : Int) by rw [w64 (by omega)]; omega]
      exact hM3
def pOut (L : List S33) : List S33 × Bool := if PinsB (pSort L) then (pSort L, true) else ([], false)
theorem cySorted_eq {L : List S33} (h : L.Nodup) (hl : L.length ≤ 1048576) : Evn (fun k => spec_cySorted.f k L) (pOut L) := by
  obtain ⟨M, h1, h2, h3⟩ := cySorted_loop L hl L.length 0 [] (by omega) (by simp) List.Pairwise.nil
  have hM : Srt M := by
    have nd : M.Pairwise (fun a b => a ≠ b) := h1.symm.pairwise h (fun h => h.symm)
    refine List.Pairwise.imp ?_ (nd.and h2)
    intro a b hab
    have hba : pLt b a = false := hab.2
    cases h3 : pLt a b with
    | true => exact h3
    | false => exact absurd (plt_total h3 hba) hab.1
  have e : M = pSort L := srt_unique M _ hM (pSort_srt h) (fun t => by rw [pSort_mem]; exact h1.mem_iff)
  subst e
  exact h3
theorem pinsOf_eq {L : List S33} (hl : L.length ≤ 1048576) (k : Nat) (hk : L.length < k) : impl_pinsOf.f k L = some (pOut L) := by
  unfold impl_pinsOf.f slices_Clone_Pin.f
  rw [if_pos (by omega)]
  simp only [Option.bind_some]
  have e : impl_sortPins.f L = some (pSort L) := by
    unfold impl_sortPins.f
    rw [if_pos ⟨by omega, fun a _ b _ h1 h2 => by
      have e := plt_total (a := a) (b := b) h1 h2
      subst e
      exact ⟨rfl, rfl, rfl⟩⟩]
    rfl
  rw [e]
  simp only [Option.bind_some]
  rw [arePins_eq _ (by rw [pSort_length]; exact hl) k (by rw [pSort_length]; exact hk)]
  simp only [Option.bind_some]
  unfold pOut
  split <;> rfl

theorem placeP_tot (out l : List S33) (hl : out.length ≤ 1000) (a b c : Int) (n i : Int) {Q : List S33 × Bool → Prop}
    (hk : ∀ o : List S33, o.length = out.length + 1 → Tot (fun k => spec_cySorted.l0 k o l n (wrap64 (i + 1))) Q) :
    ∀ p, p ≤ out.length → Tot (fun k => spec_cySorted.l1 k out p l n i a b c) Q := by
  intro p
  induction p with
  | zero =>
    intro hp
    refine Tot.step (h := fun k => spec_cySorted.l0 k (out.take 0 ++ [(⟨a, b, c⟩ : S33)] ++ out.drop 0) l n (wrap64 (i + 1))) (fun k => ?_) (hk _ (by simp))
    rw [spec_cySorted.l1, if_neg (by simp)]
    simp only [Option.bind_some]
    rw [if_pos (by omega), if_pos (by omega)]
    simp only [Int.toNat_natCast, List.nil_append]
    rw [if_pos (by simp), if_pos (by simp), if_pos (by simp; omega)]
  | succ p ih =>
    intro hp
    have e1 : wrap64 (((p + 1 : Nat) : Int) - 1) = (p : Int) := by rw [w64 (by omega)]; omega
    by_cases hb : pLt (⟨a, b, c⟩ : S33) (out[p]'(by omega)) = true
    · refine Tot.step (h := fun k => spec_cySorted.l1 k out p l n i a b c) (fun k => ?_) (ih (by omega))
      rw [spec_cySorted.l1, if_pos (by omega), e1, if_pos (by omega), if_pos (by omega), rdP_get out p (by omega), show spec_cyBefore.f a b c out[p].f0 out[p].f1 out[p].f2 = some (pLt (⟨a, b, c⟩ : S33) out[p]) from cyBefore_eq (⟨a, b, c⟩ : S33) out[p]]
      simp only [Option.bind_some]
      rw [hb, if_pos rfl]
    · have hb' : pLt (⟨a, b, c⟩ : S33) (out[p]'(by omega)) = false := Bool.eq_false_iff.2 hb
      refine Tot.step (h := fun k => spec_cySorted.l0 k (out.take (p + 1) ++ [(⟨a, b, c⟩ : S33)] ++ out.drop (p + 1)) l n (wrap64 (i + 1))) (fun k => ?_) (hk _ (by simp; omega))
      rw [spec_cySorted.l1, if_pos (by omega), e1, if_pos (by omega), if_pos (by omega), rdP_get out p (by omega), show spec_cyBefore.f a b c out[p].f0 out[p].f1 out[p].f2 = some (pLt (⟨a, b, c⟩ : S33) out[p]) from cyBefore_eq (⟨a, b, c⟩ : S33) out[p]]
      simp only [Option.bind_some]
      rw [hb', if_neg (by decide), if_pos (by omega), if_pos (by omega)]
      simp only [Int.toNat_natCast, List.nil_append]
      rw [if_pos (by simp; omega), if_pos (by simp; omega), if_pos (by simp; omega)]
theorem sortedP_tot (l : List S33) (hl : l.length ≤ 100) (d : Nat) : ∀ (i : Nat) (out : List S33), i + d = l.length → out.length = i → Tot (fun k => spec_cySorted.l0 k out l l.length i) (fun r => r.1.length ≤ l.length) := by
  induction d with
  | zero =>
    intro i out hi ho
    refine Tot.step (h := fun k => (spec_cyGood.f k out).bind fun t => if t = true then some (out, true) else some ([], false)) (fun k => by rw [spec_cySorted.l0, if_neg (by omega)]) ?_
    refine Tot.bind (Q := fun _ => True) (Tot.ge _ (out.length + 1) (fun k hk => cyGood_eq out (by omega) k hk) trivial) (fun t _ => ?_)
    cases t with
    | true => exact Tot.now _ (fun k => if_pos rfl) (by simp; omega)
    | false => exact Tot.now _ (fun k => if_neg (by decide)) (by simp)
  | succ d ih =>
    intro i out hi ho
    refine Tot.step (h := fun k => spec_cySorted.l1 k out (out.length : Nat) l l.length i ((rd_T33 l i).f0) ((rd_T33 l i).f1) ((rd_T33 l i).f2)) (fun k => by rw [spec_cySorted.l0, if_pos (by omega), if_pos (by omega), if_pos (by omega)]) ?_
    refine placeP_tot out l (by omega) _ _ _ _ _ (fun o ho' => ?_) out.length (Nat.le_refl _)
    rw [w_next i (by omega)]
    exact ih (i + 1) o (by omega) (by omega)

theorem w_suc (i : Nat) (h : i ≤ 1000000) : wrap64 ((i : Int) + 1) = ((i + 1 : Nat) : Int) := by rw [w64 (by omega)]; omega
/-- a row changed place by place -/
def midL (g : S33 → S33) (l : List S33) (i : Nat) : List S33 := (l.take i).map g ++ l.drop i
theorem mid_length (g : S33 → S33) (l : List S33) (i : Nat) (h : i ≤ l.length) : (midL g l i).length = l.length := by
  unfold midL
  rw [List.length_append, List.length_map, List.length_take, List.length_drop]; omega
theorem mid_get (g : S33 → S33) (l : List S33) (i : Nat) (h : i < l.length) : rd_T33 (midL g l i) (i : Int) = l[i] := by
  rw [rdP_get _ i (by rw [mid_length g l i (by omega)]; exact h)]
  unfold midL
  have e : ((l.take i).map g).length = i := by rw [List.length_map, List.length_take]; omega
  rw [List.getElem_append_right (by omega)]
  simp only [e, Nat.sub_self, List.getElem_drop]
  rfl
theorem mid_set (g : S33 → S33) (l : List S33) (i : Nat) (h : i < l.length) : (midL g l i).set i (g l[i]) = midL g l (i + 1) := by
  unfold midL
  have e : ((l.take i).map g).length = i := by rw [List.length_map, List.length_take]; omega
  rw [List.set_append_right _ _ (by omega), e, Nat.sub_self, drop_get l i h, List.set_cons_zero, List.take_succ_eq_append_getElem h, List.map_append, List.append_assoc]
  rfl
theorem mid_same (g : S33 → S33) (l : List S33) (i : Nat) (h : i < l.length) (e : g l[i] = l[i]) : midL g l i = midL g l (i + 1) := by
  rw [← mid_set g l i h, e]
  unfold midL
  have e : ((l.take i).map g).length = i := by rw [List.length_map, List.length_take]; omega
  rw [List.set_append_right _ _ (by omega), e, Nat.sub_self, drop_get l i h, List.set_cons_zero]
theorem mid_all (g : S33 → S33) (l : List S33) : midL g l l.length = l.map g := by
  unfold midL
  rw [List.take_length, List.drop_length, List.append_nil]
theorem tmod360 {x : Int} (h : 0 ≤ x ∧ x ≤ 100000) : Int.tmod (wrap64 x) 360 = x % 360 := by
  rw [w64 (by omega), Int.tmod_eq_emod_of_nonneg h.1]
theorem pin_f1 {x : S33} (h : PinOK x = true) : 0 ≤ x.f1 ∧ x.f1 ≤ 359 := by
  unfold PinOK at h
  exact (of_decide_eq_true h).2.1
/-- TurnTune -/
def tuGood (l : List S33) (s b : Int) : Bool := PinsB l && decide ((0 ≤ s ∧ s ≤ 3) ∧ (0 ≤ b ∧ b ≤ 359))
def tuOut (l : List S33) (s b : Int) : List S33 × Bool := if tuGood l s b = true then (pSort (l.map (turnP s b)), true) else ([], false)
theorem tu_facts {l : List S33} {s b : Int} (h : tuGood l s b = true) : (∀ x ∈ l, PinOK x = true) ∧ Srt l ∧ l.length ≤ 60 ∧ (0 ≤ s ∧ s ≤ 3) ∧ (0 ≤ b ∧ b ≤ 359) ∧
    (∀ x ∈ l, turnP s ((360 - b) % 360) (turnP s b x) = x) ∧ (l.map (turnP s b)).Nodup ∧ PinsB (pSort (l.map (turnP s b))) = true := by
  unfold tuGood at h
  rw [Bool.and_eq_true, decide_eq_true_eq] at h
  obtain ⟨h0, h1, h2⟩ := h
  obtain ⟨g1, g2, g3⟩ := (pinsB_iff l).1 h0
  have hb : ∀ x ∈ l, turnP s ((360 - b) % 360) (turnP s b x) = x := fun x hx => turn_back h2 (g1 x hx)
  have nd := map_nodup (turnP s b) (srt_nodup g2) (inj_of_back hb)
  refine ⟨g1, g2, g3, h1, h2, hb, nd, pSort_pins nd (fun x hx => ?_) (by rw [List.length_map]; exact g3)⟩
  obtain ⟨y, hy, rfl⟩ := List.mem_map.1 hx
  exact turn_ok h2 (g1 y hy)
theorem implTurn_loop (l : List S33) (hl : l.length ≤ 1000) (hv : ∀ x ∈ l, PinOK x = true) (s b : Int) (hb : 0 ≤ b ∧ b ≤ 359) (d : Nat) : ∀ (k i : Nat), i + d = l.length → d + 1002 < k →
    impl_turnTune.l0 k s b (midL (turnP s b) l i) l.length i = some (pOut (l.map (turnP s b))) := by
  induction d with
  | zero =>
    intro k i hi hk
    obtain ⟨k, rfl⟩ : ∃ j, k = j + 1 := ⟨k - 1, by omega⟩
    have hi' : i = l.length := by omega
    subst hi'
    rw [impl_turnTune.l0, if_neg (by omega), mid_all, pinsOf_eq (by rw [List.length_map]; omega) k (by rw [List.length_map]; omega)]
    rfl
  | succ d ih =>
    intro k i hi hk
    obtain ⟨k, rfl⟩ : ∃ j, k = j + 1 := ⟨k - 1, by omega⟩
    have hi' : i < l.length := by omega
    have e := ih k (i + 1) (by omega) (by omega)
    have hf := pin_f1 (hv _ (List.getElem_mem hi'))
    rw [impl_turnTune.l0, if_pos (by omega), if_pos (by omega), if_pos (by rw [mid_length _ _ _ (by omega)]; omega), mid_get _ _ _ hi', w_suc i (by omega)]
    by_cases h : l[i].f2 = s
    · rw [if_pos h, tmod360 (by omega), Int.toNat_natCast]
      have eg : (⟨l[i].f0, (l[i].f1 + b) % 360, l[i].f2⟩ : S33) = turnP s b l[i] := by unfold turnP; rw [if_pos h]
      rw [eg, mid_set _ _ _ hi', e]
    · rw [if_neg h, mid_same _ _ _ hi' (by unfold turnP; rw [if_neg h]), e]
theorem implTurn_eq (l : List S33) (hl : l.length ≤ 1000) (s b : Int) (k : Nat) (hk : 5000 ≤ k) : impl_TurnTune.f k l s b = some (tuOut l s b) := by
  unfold impl_TurnTune.f tuOut tuGood
  rw [arePins_eq l (by omega) k (by omega), implShift_eq]
  simp only [Option.bind_some, decide_eq_true_eq]
  by_cases h0 : PinsB l = true
  · rw [if_pos h0, h0, Bool.true_and]
    by_cases h1 : 0 ≤ s ∧ s ≤ 3
    · rw [if_pos h1]
      by_cases h2 : b < 0
      · rw [if_pos h2, decide_eq_false (by omega)]; rfl
      · rw [if_neg h2]
        by_cases h3 : b ≥ 360
        · rw [if_pos h3, decide_eq_false (by omega)]; rfl
        · rw [if_neg h3, if_pos (decide_eq_true (by omega))]
          have hg : tuGood l s b = true := by unfold tuGood; rw [h0, Bool.true_and]; exact decide_eq_true (by omega)
          obtain ⟨g1, g2, g3, _, g5, _, _, g8⟩ := tu_facts hg
          unfold impl_turnTune.f slices_Clone_Pin.f
          rw [if_pos (by omega)]
          simp only [Option.bind_some]
          have e := implTurn_loop l hl g1 s b g5 l.length k 0 (by omega) (by omega)
          have e0 : midL (turnP s b) l 0 = l := rfl
          rw [e0] at e
          have e' : impl_turnTune.l0 k s b l (l.length : Int) 0 = some (pOut (l.map (turnP s b))) := e
          rw [e']
          unfold pOut
          rw [if_pos g8]
          rfl
    · rw [if_neg h1, decide_eq_false (fun h => h1 h.1)]; rfl
  · rw [if_neg h0, Bool.eq_false_iff.2 h0]; rfl
theorem specTurn_loop (l : List S33) (hl : l.length ≤ 1000) (hv : ∀ x ∈ l, PinOK x = true) (s b : Int) (hb : 0 ≤ b ∧ b ≤ 359) (nd : (l.map (turnP s b)).Nodup) (d : Nat) : ∀ (i : Nat), i + d = l.length →
    Evn (fun k => spec_cyTurn.l0 k s b ((l.take i).map (turnP s b)) l l.length i) (pOut (l.map (turnP s b))).1 := by
  induction d with
  | zero =>
    intro i hi
    have hi' : i = l.length := by omega
    subst hi'
    refine Evn.step (h := fun k => (spec_cySorted.f k (l.map (turnP s b))).bind fun q => some q.1) (fun k => by rw [spec_cyTurn.l0, if_neg (by omega), List.take_length]) ?_
    exact Evn.bind (cySorted_eq nd (by rw [List.length_map]; omega)) (Evn.const (fun _ => rfl))
  | succ d ih =>
    intro i hi
    have hi' : i < l.length := by omega
    have e := ih (i + 1) (by omega)
    have hf := pin_f1 (hv _ (List.getElem_mem hi'))
    have ht : (l.take (i + 1)).map (turnP s b) = (l.take i).map (turnP s b) ++ [turnP s b l[i]] := by rw [List.take_succ_eq_append_getElem hi', List.map_append]; rfl
    rw [ht] at e
    refine Evn.step (fun k => ?_) e
    have hlen : ((l.take i).map (turnP s b)).length < 5864062014805 := by rw [List.length_map, List.length_take]; omega
    rw [spec_cyTurn.l0, if_pos (by omega), if_pos (by omega), if_pos (by omega), rdP_get l i hi', w_suc i (by omega), if_pos hlen, if_pos hlen]
    by_cases h : l[i].f2 = s
    · rw [if_pos h, tmod360 (by omega)]
      have eg : (⟨l[i].f0, (l[i].f1 + b) % 360, l[i].f2⟩ : S33) = turnP s b l[i] := by unfold turnP; rw [if_pos h]
      rw [eg]
    · rw [if_neg h]
      have eg : (⟨l[i].f0, l[i].f1, l[i].f2⟩ : S33) = turnP s b l[i] := by unfold turnP; rw [if_neg h]
      rw [eg]
theorem specTurn_eq (l : List S33) (hl : l.length ≤ 1000) (s b : Int) : Evn (fun k => spec_TurnTune.f k l s b) (tuOut l s b) := by
  by_cases h : tuGood l s b = true
  · obtain ⟨g1, g2, g3, g4, g5, _, nd, g8⟩ := tu_facts h
    have h0 := (pinsB_iff l).2 ⟨g1, g2, g3⟩
    obtain ⟨K, hK⟩ := specTurn_loop l hl g1 s b g5 nd l.length 0 (by omega)
    refine ⟨K + 2000, fun k hk => ?_⟩
    have e : spec_cyTurn.f k l s b = some (pOut (l.map (turnP s b))).1 := hK k (by omega)
    show spec_TurnTune.f k l s b = _
    unfold spec_TurnTune.f
    rw [cyGood_eq l (by omega) k (by omega), specShift_eq, specAngle_eq, e]
    simp only [Option.bind_some, decide_eq_true_eq]
    rw [if_pos h0, if_pos g4, if_pos g5]
    unfold tuOut pOut
    rw [if_pos h, if_pos g8]
  · refine ⟨2000, fun k hk => ?_⟩
    show spec_TurnTune.f k l s b = _
    unfold spec_TurnTune.f tuOut
    rw [if_neg h, cyGood_eq l (by omega) k (by omega), specShift_eq, specAngle_eq]
    simp only [Option.bind_some, decide_eq_true_eq]
    by_cases h0 : PinsB l = true
    · rw [if_pos h0]
      by_cases h1 : 0 ≤ s ∧ s ≤ 3
      · rw [if_pos h1]
        by_cases h2 : 0 ≤ b ∧ b ≤ 359
        · exact absurd (by unfold tuGood; rw [h0, Bool.true_and]; exact decide_eq_true ⟨h1, h2⟩) h
        · rw [if_neg h2]
      · rw [if_neg h1]
    · rw [if_neg h0]
/-- SwapTunes -/
def swGood (l : List S33) (a b : Int) : Bool := PinsB l && decide ((0 ≤ a ∧ a ≤ 3) ∧ (0 ≤ b ∧ b ≤ 3))
def swOut (l : List S33) (a b : Int) : List S33 × Bool := if swGood l a b = true then (pSort (l.map (swapP a b)), true) else ([], false)
theorem sw_facts {l : List S33} {a b : Int} (h : swGood l a b = true) : (∀ x ∈ l, PinOK x = true) ∧ Srt l ∧ l.length ≤ 60 ∧ (0 ≤ a ∧ a ≤ 3) ∧ (0 ≤ b ∧ b ≤ 3) ∧
    (l.map (swapP a b)).Nodup ∧ PinsB (pSort (l.map (swapP a b))) = true := by
  unfold swGood at h
  rw [Bool.and_eq_true, decide_eq_true_eq] at h
  obtain ⟨h0, h1, h2⟩ := h
  obtain ⟨g1, g2, g3⟩ := (pinsB_iff l).1 h0
  have nd := map_nodup (swapP a b) (srt_nodup g2) (inj_of_back (k := swapP b a) (fun x _ => swap_back a b x))
  refine ⟨g1, g2, g3, h1, h2, nd, pSort_pins nd (fun x hx => ?_) (by rw [List.length_map]; exact g3)⟩
  obtain ⟨y, hy, rfl⟩ := List.mem_map.1 hx
  exact swap_ok h1 h2 (g1 y hy)
theorem implSwap_loop (l : List S33) (hl : l.length ≤ 1000) (a b : Int) (d : Nat) : ∀ (k i : Nat), i + d = l.length → d + 1002 < k →
    impl_SwapTunes.l0 k a b (midL (swapP a b) l i) l.length i = some (pOut (l.map (swapP a b))) := by
  induction d with
  | zero =>
    intro k i hi hk
    obtain ⟨k, rfl⟩ : ∃ j, k = j + 1 := ⟨k - 1, by omega⟩
    have hi' : i = l.length := by omega
    subst hi'
    rw [impl_SwapTunes.l0, if_neg (by omega), mid_all, pinsOf_eq (by rw [List.length_map]; omega) k (by rw [List.length_map]; omega)]
    rfl
  | succ d ih =>
    intro k i hi hk
    obtain ⟨k, rfl⟩ : ∃ j, k = j + 1 := ⟨k - 1, by omega⟩
    have hi' : i < l.length := by omega
    have e := ih k (i + 1) (by omega) (by omega)
    rw [impl_SwapTunes.l0, if_pos (by omega), if_pos (by omega), if_pos (by rw [mid_length _ _ _ (by omega)]; omega), mid_get _ _ _ hi', w_suc i (by omega), Int.toNat_natCast]
    by_cases h : l[i].f2 = a
    · rw [if_pos h]
      have eg : (⟨l[i].f0, l[i].f1, b⟩ : S33) = swapP a b l[i] := by unfold swapP; rw [if_pos h]
      rw [eg, mid_set _ _ _ hi', e]
    · rw [if_neg h]
      by_cases h2 : l[i].f2 = b
      · rw [if_pos h2]
        have eg : (⟨l[i].f0, l[i].f1, a⟩ : S33) = swapP a b l[i] := by unfold swapP; rw [if_neg h, if_pos h2]
        rw [eg, mid_set _ _ _ hi', e]
      · rw [if_neg h2, mid_same _ _ _ hi' (by unfold swapP; rw [if_neg h, if_neg h2]), e]
theorem implSwap_eq (l : List S33) (hl : l.length ≤ 1000) (a b : Int) (k : Nat) (hk : 5000 ≤ k) : impl_SwapTunes.f k l a b = some (swOut l a b) := by
  obtain ⟨k, rfl⟩ : ∃ j, k = j + 1 := ⟨k - 1, by omega⟩
  unfold impl_SwapTunes.f swOut swGood
  rw [arePins_eq l (by omega) (k + 1) (by omega), implShift_eq, implShift_eq]
  simp only [Option.bind_some, decide_eq_true_eq]
  by_cases h0 : PinsB l = true
  · rw [if_pos h0, h0, Bool.true_and]
    by_cases h1 : 0 ≤ a ∧ a ≤ 3
    · rw [if_pos h1]
      by_cases h2 : 0 ≤ b ∧ b ≤ 3
      · rw [decide_eq_true h2, decide_eq_true (⟨h1, h2⟩ : (0 ≤ a ∧ a ≤ 3) ∧ (0 ≤ b ∧ b ≤ 3))]
        have hg : swGood l a b = true := by unfold swGood; rw [h0, Bool.true_and]; exact decide_eq_true ⟨h1, h2⟩
        obtain ⟨_, _, g3, _, _, _, g8⟩ := sw_facts hg
        rw [impl_SwapTunes.j0, if_neg (by decide)]
        unfold slices_Clone_Pin.f
        rw [if_pos (by omega)]
        simp only [Option.bind_some]
        have e := implSwap_loop l hl a b l.length k 0 (by omega) (by omega)
        have e0 : midL (swapP a b) l 0 = l := rfl
        rw [e0] at e
        have e' : impl_SwapTunes.l0 k a b l (l.length : Int) 0 = some (pOut (l.map (swapP a b))) := e
        rw [e']
        unfold pOut
        rw [if_pos g8]
        rfl
      · rw [decide_eq_false h2, decide_eq_false (fun h : (0 ≤ a ∧ a ≤ 3) ∧ (0 ≤ b ∧ b ≤ 3) => h2 h.2), impl_SwapTunes.j0, if_pos (show (!false) = true from rfl)]
        rfl
    · rw [if_neg h1, decide_eq_false (fun h => h1 h.1), impl_SwapTunes.j0, if_pos rfl]; rfl
  · rw [if_neg h0, Bool.eq_false_iff.2 h0, impl_SwapTunes.j0, if_pos rfl]; rfl
theorem specSwap_loop (l : List S33) (hl : l.length ≤ 1000) (a b : Int) (nd : (l.map (swapP a b)).Nodup) (d : Nat) : ∀ (i : Nat), i + d = l.length →
    Evn (fun k => spec_SwapTunes.l0 k a b ((l.take i).map (swapP a b)) l l.length i) (pOut (l.map (swapP a b))) := by
  induction d with
  | zero =>
    intro i hi
    have hi' : i = l.length := by omega
    subst hi'
    refine Evn.step (h := fun k => (spec_cySorted.f k (l.map (swapP a b))).bind fun q => some (q.1, q.2)) (fun k => by rw [spec_SwapTunes.l0, if_neg (by omega), List.take_length]) ?_
    exact Evn.bind (cySorted_eq nd (by rw [List.length_map]; omega)) (Evn.const (fun _ => rfl))
  | succ d ih =>
    intro i hi
    have hi' : i < l.length := by omega
    have e := ih (i + 1) (by omega)
    have ht : (l.take (i + 1)).map (swapP a b) = (l.take i).map (swapP a b) ++ [swapP a b l[i]] := by rw [List.take_succ_eq_append_getElem hi', List.map_append]; rfl
    rw [ht] at e
    refine Evn.step (fun k => ?_) e
    have hlen : ((l.take i).map (swapP a b)).length < 5864062014805 := by rw [List.length_map, List.length_take]; omega
    rw [spec_SwapTunes.l0, if_pos (by omega), if_pos (by omega), if_pos (by omega), rdP_get l i hi', w_suc i (by omega), if_pos hlen, if_pos hlen, if_pos hlen]
    by_cases h : l[i].f2 = a
    · rw [if_pos h]
      have eg : (⟨l[i].f0, l[i].f1, b⟩ : S33) = swapP a b l[i] := by unfold swapP; rw [if_pos h]
      rw [eg]
    · rw [if_neg h]
      by_cases h2 : l[i].f2 = b
      · rw [if_pos h2]
        have eg : (⟨l[i].f0, l[i].f1, a⟩ : S33) = swapP a b l[i] := by unfold swapP; rw [if_neg h, if_pos h2]
        rw [eg]
      · rw [if_neg h2]
        have eg : (⟨l[i].f0, l[i].f1, l[i].f2⟩ : S33) = swapP a b l[i] := by unfold swapP; rw [if_neg h, if_neg h2]
        rw [eg]
theorem specSwap_eq (l : List S33) (hl : l.length ≤ 1000) (a b : Int) : Evn (fun k => spec_SwapTunes.f k l a b) (swOut l a b) := by
  by_cases h : swGood l a b = true
  · obtain ⟨g1, g2, g3, g4, g5, nd, g8⟩ := sw_facts h
    have h0 := (pinsB_iff l).2 ⟨g1, g2, g3⟩
    obtain ⟨K, hK⟩ := specSwap_loop l hl a b nd l.length 0 (by omega)
    refine ⟨K + 2000, fun k hk => ?_⟩
    obtain ⟨k, rfl⟩ : ∃ j, k = j + 1 := ⟨k - 1, by omega⟩
    have e : spec_SwapTunes.l0 k a b ([] : List S33) l (l.length : Int) 0 = some (pOut (l.map (swapP a b))) := hK k (by omega)
    show spec_SwapTunes.f (k + 1) l a b = _
    unfold spec_SwapTunes.f
    rw [cyGood_eq l (by omega) (k + 1) (by omega), specShift_eq, specShift_eq]
    simp only [Option.bind_some, decide_eq_true_eq]
    rw [if_pos h0, if_pos g4, decide_eq_true g5, spec_SwapTunes.j0, if_neg (by decide), e]
    unfold swOut pOut
    rw [if_pos h, if_pos g8]
  · refine ⟨2000, fun k hk => ?_⟩
    obtain ⟨k, rfl⟩ : ∃ j, k = j + 1 := ⟨k - 1, by omega⟩
    show spec_SwapTunes.f (k + 1) l a b = _
    unfold spec_SwapTunes.f swOut
    rw [if_neg h, cyGood_eq l (by omega) (k + 1) (by omega), specShift_eq, specShift_eq]
    simp only [Option.bind_some, decide_eq_true_eq]
    by_cases h0 : PinsB l = true
    · rw [if_pos h0]
      by_cases h1 : 0 ≤ a ∧ a ≤ 3
      · rw [if_pos h1]
        by_cases h2 : 0 ≤ b ∧ b ≤ 3
        · exact absurd (by unfold swGood; rw [h0, Bool.true_and]; exact decide_eq_true ⟨h1, h2⟩) h
        · rw [decide_eq_false h2, spec_SwapTunes.j0, if_pos (show (!false) = true from rfl)]
      · rw [if_neg h1, spec_SwapTunes.j0, if_pos rfl]
    · rw [if_neg h0, spec_SwapTunes.j0, if_pos rfl]

/-- parts -/
theorem part_cons (x : S33) (l : List S33) (s : Int) (o : Bool) : partP (x :: l) s o = if (((x.f2 == s) == o) = true) then x :: partP l s o else partP l s o := by
  unfold partP
  rw [List.filter_cons]
  rfl
theorem part_le (l : List S33) (s : Int) (o : Bool) : (partP l s o).length ≤ l.length := List.length_filter_le _ _
theorem tunePins_loop (l : List S33) (hl : l.length ≤ 1000) (s : Int) (o : Bool) (d : Nat) : ∀ (k i : Nat) (acc : List S33), i + d = l.length → d < k → acc.length ≤ i →
    impl_tunePins.l0 k s o acc l l.length i = some (acc ++ partP (l.drop i) s o) := by
  induction d with
  | zero =>
    intro k i acc hi hk ha
    obtain ⟨k, rfl⟩ : ∃ j, k = j + 1 := ⟨k - 1, by omega⟩
    rw [impl_tunePins.l0, if_neg (by omega), List.drop_of_length_le (by omega), show partP [] s o = [] from rfl, List.append_nil]
  | succ d ih =>
    intro k i acc hi hk ha
    obtain ⟨k, rfl⟩ : ∃ j, k = j + 1 := ⟨k - 1, by omega⟩
    have hi' : i < l.length := by omega
    rw [impl_tunePins.l0, if_pos (by omega), if_pos (by omega), if_pos (by omega), rdP_get l i hi', w_suc i (by omega), drop_get l i hi', part_cons]
    by_cases h : ((l[i].f2 == s) == o) = true
    · rw [if_pos h, if_pos h, if_pos (by omega), ih k (i + 1) _ (by omega) (by omega) (by rw [List.length_append, List.length_singleton]; omega), List.append_assoc]
      rfl
    · rw [if_neg h, if_neg h, ih k (i + 1) _ (by omega) (by omega) (by omega)]
theorem tunePins_eq (l : List S33) (hl : l.length ≤ 1000) (s : Int) (o : Bool) (k : Nat) (hk : 1001 ≤ k) : impl_tunePins.f k l s o = some (partP l s o) := by
  unfold impl_tunePins.f
  have e := tunePins_loop l hl s o l.length k 0 [] (by omega) (by omega) (by simp)
  exact e
theorem cyPart_loop (l : List S33) (hl : l.length ≤ 1000) (s : Int) (o : Bool) (d : Nat) : ∀ (k i : Nat) (acc : List S33), i + d = l.length → d < k → acc.length ≤ i →
    spec_cyPart.l0 k s o acc l l.length i = some (acc ++ partP (l.drop i) s o) := by
  induction d with
  | zero =>
    intro k i acc hi hk ha
    obtain ⟨k, rfl⟩ : ∃ j, k = j + 1 := ⟨k - 1, by omega⟩
    rw [spec_cyPart.l0, if_neg (by omega), List.drop_of_length_le (by omega), show partP [] s o = [] from rfl, List.append_nil]
  | succ d ih =>
    intro k i acc hi hk ha
    obtain ⟨k, rfl⟩ : ∃ j, k = j + 1 := ⟨k - 1, by omega⟩
    have hi' : i < l.length := by omega
    rw [spec_cyPart.l0, if_pos (by omega), if_pos (by omega), if_pos (by omega), rdP_get l i hi', w_suc i (by omega), drop_get l i hi', part_cons]
    by_cases h : ((l[i].f2 == s) == o) = true
    · rw [if_pos h, if_pos h, if_pos (by omega), ih k (i + 1) _ (by omega) (by omega) (by rw [List.length_append, List.length_singleton]; omega), List.append_assoc]
      rfl
    · rw [if_neg h, if_neg h, ih k (i + 1) _ (by omega) (by omega) (by omega)]
theorem cyPart_eq (l : List S33) (hl : l.length ≤ 1000) (s : Int) (o : Bool) (k : Nat) (hk : 1001 ≤ k) : spec_cyPart.f k l s o = some (partP l s o) := by
  unfold spec_cyPart.f
  have e := cyPart_loop l hl s o l.length k 0 [] (by omega) (by omega) (by simp)
  exact e
theorem tuneOf_both (l : List S33) (hl : l.length ≤ 1000) (h : PinsB l = true) (s : Int) (hs : 0 ≤ s ∧ s ≤ 3) (k : Nat) (hk : 2000 ≤ k) : impl_TuneOf.f k l s = some (partP l s true, true) ∧ spec_TuneOf.f k l s = some (partP l s true, true) := by
  unfold impl_TuneOf.f spec_TuneOf.f
  rw [arePins_eq l (by omega) k (by omega), cyGood_eq l (by omega) k (by omega), implShift_eq, specShift_eq, tunePins_eq l hl s true k (by omega), cyPart_eq l hl s true k (by omega)]
  simp only [Option.bind_some, decide_eq_true_eq]
  rw [if_pos h, if_pos hs]
  exact ⟨rfl, rfl⟩
theorem without_both (l : List S33) (hl : l.length ≤ 1000) (h : PinsB l = true) (s : Int) (hs : 0 ≤ s ∧ s ≤ 3) (k : Nat) (hk : 2000 ≤ k) : impl_WithoutTune.f k l s = some (partP l s false, true) ∧ spec_WithoutTune.f k l s = some (partP l s false, true) := by
  unfold impl_WithoutTune.f spec_WithoutTune.f
  rw [arePins_eq l (by omega) k (by omega), cyGood_eq l (by omega) k (by omega), implShift_eq, specShift_eq, tunePins_eq l hl s false k (by omega), cyPart_eq l hl s false k (by omega)]
  simp only [Option.bind_some, decide_eq_true_eq]
  rw [if_pos h, if_pos hs]
  exact ⟨rfl, rfl⟩
/-- PlayedAt -/
theorem play_cons (x : S33) (l : List S33) (s a : Int) : playL (x :: l) s a = if x.f2 = s ∧ x.f1 = a then x.f0 :: playL l s a else playL l s a := by
  unfold playL
  rw [List.filter_cons]
  by_cases h : x.f2 = s ∧ x.f1 = a
  · rw [if_pos (decide_eq_true h), if_pos h]; rfl
  · rw [if_neg (by rw [decide_eq_true_eq]; exact h), if_neg h]
theorem play_part (l : List S33) (s a : Int) : playL (partP l s true) s a = playL l s a := by
  induction l with
  | nil => rfl
  | cons x r ih =>
    rw [part_cons, play_cons]
    by_cases h : x.f2 = s
    · rw [if_pos (by simp [h]), play_cons, ih]
    · rw [if_neg (by simp [h]), if_neg (fun q => h q.1), ih]
theorem implPlay_loop (l : List S33) (hl : l.length ≤ 1000) (s a : Int) (hs : ∀ x ∈ l, x.f2 = s) (d : Nat) : ∀ (k i : Nat) (acc : List Int), i + d = l.length → d < k → acc.length ≤ i →
    impl_PlayedAt.l0 k a acc l l.length i = some (acc ++ playL (l.drop i) s a, true) := by
  induction d with
  | zero =>
    intro k i acc hi hk ha
    obtain ⟨k, rfl⟩ : ∃ j, k = j + 1 := ⟨k - 1, by omega⟩
    rw [impl_PlayedAt.l0, if_neg (by omega), List.drop_of_length_le (by omega), show playL [] s a = [] from rfl, List.append_nil]
  | succ d ih =>
    intro k i acc hi hk ha
    obtain ⟨k, rfl⟩ : ∃ j, k = j + 1 := ⟨k - 1, by omega⟩
    have hi' : i < l.length := by omega
    have h2 := hs _ (List.getElem_mem hi')
    rw [impl_PlayedAt.l0, if_pos (by omega), if_pos (by omega), if_pos (by omega), rdP_get l i hi', w_suc i (by omega), drop_get l i hi', play_cons]
    by_cases h : l[i].f1 = a
    · rw [if_pos h, if_pos (show l[i].f2 = s ∧ l[i].f1 = a from ⟨h2, h⟩), if_pos (by omega), ih k (i + 1) _ (by omega) (by omega) (by rw [List.length_append, List.length_singleton]; omega), List.append_assoc]
      rfl
    · rw [if_neg h, if_neg (show ¬ (l[i].f2 = s ∧ l[i].f1 = a) from fun q => h q.2), ih k (i + 1) _ (by omega) (by omega) (by omega)]
theorem specPlay_loop (l : List S33) (hl : l.length ≤ 1000) (s a : Int) (d : Nat) : ∀ (k i : Nat) (acc : List Int), i + d = l.length → d < k → acc.length ≤ i →
    spec_PlayedAt.l0 k s a acc l l.length i = some (acc ++ playL (l.drop i) s a, true) := by
  induction d with
  | zero =>
    intro k i acc hi hk ha
    obtain ⟨k, rfl⟩ : ∃ j, k = j + 1 := ⟨k - 1, by omega⟩
    rw [spec_PlayedAt.l0, if_neg (by omega), List.drop_of_length_le (by omega), show playL [] s a = [] from rfl, List.append_nil]
  | succ d ih =>
    intro k i acc hi hk ha
    obtain ⟨k, rfl⟩ : ∃ j, k = j + 1 := ⟨k - 1, by omega⟩
    have hi' : i < l.length := by omega
    rw [spec_PlayedAt.l0, if_pos (by omega), if_pos (by omega), if_pos (by omega), rdP_get l i hi', w_suc i (by omega), drop_get l i hi', play_cons]
    by_cases h2 : l[i].f2 = s
    · rw [if_pos h2]
      by_cases h : l[i].f1 = a
      · rw [if_pos h, if_pos (show l[i].f2 = s ∧ l[i].f1 = a from ⟨h2, h⟩), if_pos (by omega), ih k (i + 1) _ (by omega) (by omega) (by rw [List.length_append, List.length_singleton]; omega), List.append_assoc]
        rfl
      · rw [if_neg h, if_neg (show ¬ (l[i].f2 = s ∧ l[i].f1 = a) from fun q => h q.2), ih k (i + 1) _ (by omega) (by omega) (by omega)]
    · rw [if_neg h2, if_neg (show ¬ (l[i].f2 = s ∧ l[i].f1 = a) from fun q => h2 q.1), ih k (i + 1) _ (by omega) (by omega) (by omega)]
def plGood (l : List S33) (s a : Int) : Bool := PinsB l && decide ((0 ≤ s ∧ s ≤ 3) ∧ (0 ≤ a ∧ a ≤ 359))
def plOut (l : List S33) (s a : Int) : List Int × Bool := if plGood l s a = true then (playL l s a, true) else ([], false)
theorem part_shift (l : List S33) (s : Int) : ∀ x ∈ partP l s true, x.f2 = s := fun x hx => by
  unfold partP at hx
  rw [List.mem_filter] at hx
  simpa using hx.2
theorem play_both (l : List S33) (hl : l.length ≤ 1000) (s a : Int) (k : Nat) (hk : 3000 ≤ k) : impl_PlayedAt.f k l s a = some (plOut l s a) ∧ spec_PlayedAt.f k l s a = some (plOut l s a) := by
  obtain ⟨k, rfl⟩ : ∃ j, k = j + 1 := ⟨k - 1, by omega⟩
  have hp := part_le l s true
  have e1 : impl_PlayedAt.l0 k a ([] : List Int) (partP l s true) ((partP l s true).length : Int) 0 = some (playL l s a, true) := by
    have := implPlay_loop (partP l s true) (by omega) s a (part_shift l s) (partP l s true).length k 0 [] (by omega) (by omega) (by simp)
    rw [List.drop_zero, play_part] at this
    exact this
  have e2 : spec_PlayedAt.l0 k s a ([] : List Int) l (l.length : Int) 0 = some (playL l s a, true) := specPlay_loop l hl s a l.length k 0 [] (by omega) (by omega) (by simp)
  unfold impl_PlayedAt.f spec_PlayedAt.f plOut plGood
  rw [arePins_eq l (by omega) (k + 1) (by omega), cyGood_eq l (by omega) (k + 1) (by omega), implShift_eq, specShift_eq, implAngle_eq, specAngle_eq]
  simp only [Option.bind_some, decide_eq_true_eq]
  by_cases h0 : PinsB l = true
  · rw [if_pos h0, if_pos h0, h0, Bool.true_and]
    by_cases h1 : 0 ≤ s ∧ s ≤ 3
    · rw [if_pos h1, if_pos h1]
      by_cases h2 : 0 ≤ a ∧ a ≤ 359
      · rw [decide_eq_true h2, if_pos (decide_eq_true ⟨h1, h2⟩), impl_PlayedAt.j0, spec_PlayedAt.j0, if_neg (by decide), if_neg (by decide), tunePins_eq l hl s true k (by omega), e2]
        simp only [Option.bind_some]
        rw [e1]
        first | exact ⟨rfl, rfl⟩ | exact ⟨rfl, trivial⟩
      · rw [decide_eq_false h2, if_neg (by rw [decide_eq_true_eq]; exact fun h => h2 h.2), impl_PlayedAt.j0, spec_PlayedAt.j0, if_pos (show (!false) = true from rfl), if_pos (show (!false) = true from rfl)]
        exact ⟨rfl, rfl⟩
    · rw [if_neg h1, if_neg h1, if_neg (by rw [decide_eq_true_eq]; exact fun h => h1 h.1), impl_PlayedAt.j0, spec_PlayedAt.j0, if_pos rfl, if_pos rfl]
      exact ⟨rfl, rfl⟩
  · rw [if_neg h0, if_neg h0, Bool.eq_false_iff.2 h0, impl_PlayedAt.j0, spec_PlayedAt.j0, if_pos rfl, if_pos rfl]
    exact ⟨rfl, rfl⟩
/-- NextPlayed -/
def nextS (s a : Int) : Int → List S33 → Int
  | b, [] => b
  | b, x :: r => nextS s a (if x.f2 = s then (if b < 0 then dstP a x else if dstP a x < b then dstP a x else b) else b) r
def nextI (a : Int) : Int → List S33 → Int
  | b, [] => b
  | b, x :: r => nextI a (mn b (dstP a x)) r
theorem dst_range {a : Int} (ha : 0 ≤ a ∧ a ≤ 359) {x : S33} (hx : PinOK x = true) : 0 ≤ dstP a x ∧ dstP a x ≤ 359 ∧ Int.tmod (wrap64 ((wrap64 (x.f1 - a)) + 360)) 360 = dstP a x ∧ (a + dstP a x) % 360 = x.f1 := by
  have hf := pin_f1 hx
  unfold dstP
  refine ⟨by omega, by omega, ?_, by omega⟩
  rw [w64 (x := x.f1 - a) (by omega), tmod360 (by omega)]
theorem nextS_cons (s a b : Int) (x : S33) (r : List S33) : nextS s a b (x :: r) = nextS s a (if x.f2 = s then (if b < 0 then dstP a x else if dstP a x < b then dstP a x else b) else b) r := rfl
theorem next_rel {a : Int} (ha : 0 ≤ a ∧ a ≤ 359) (s : Int) (l : List S33) (hv : ∀ x ∈ l, PinOK x = true) : ∀ (b c : Int), ((b = -1 ∧ c = 360) ∨ (b = c ∧ 0 ≤ b ∧ b ≤ 359)) →
    ((nextS s a b l = -1 ∧ nextI a c (partP l s true) = 360) ∨ (nextS s a b l = nextI a c (partP l s true) ∧ 0 ≤ nextS s a b l ∧ nextS s a b l ≤ 359)) ∧
    (nextS s a b l = b ∨ ∃ x ∈ l, x.f2 = s ∧ dstP a x = nextS s a b l) := by
  induction l with
  | nil => intro b c h; exact ⟨h, .inl rfl⟩
  | cons x r ih =>
    intro b c h
    have hx := dst_range ha (hv x List.mem_cons_self)
    obtain ⟨d0, d1, _, _⟩ := hx
    have ih := ih (fun y hy => hv y (List.mem_cons_of_mem _ hy))
    rw [part_cons, nextS_cons]
    by_cases hs : x.f2 = s
    · rw [if_pos hs, if_pos (show ((x.f2 == s) == true) = true by simp [hs])]
      have en : nextI a c (x :: partP r s true) = nextI a (mn c (dstP a x)) (partP r s true) := rfl
      rw [en]
      have key : ∀ b', (b' = if b < 0 then dstP a x else if dstP a x < b then dstP a x else b) → ((b' = -1 ∧ mn c (dstP a x) = 360) ∨ (b' = mn c (dstP a x) ∧ 0 ≤ b' ∧ b' ≤ 359)) ∧ (b' = b ∨ b' = dstP a x) := by
        intro b' e
        unfold mn
        subst e
        repeat' split
        all_goals omega
      obtain ⟨k1, k2⟩ := key _ rfl
      obtain ⟨i1, i2⟩ := ih _ _ k1
      refine ⟨i1, ?_⟩
      rcases i2 with e | ⟨y, hy, q⟩
      · rcases k2 with e2 | e2
        · exact .inl (e.trans e2)
        · exact .inr ⟨x, List.mem_cons_self, hs, (e.trans e2).symm⟩
      · exact .inr ⟨y, List.mem_cons_of_mem _ hy, q⟩
    · rw [if_neg hs, if_neg (show ¬ ((x.f2 == s) == true) = true by simp [hs])]
      obtain ⟨i1, i2⟩ := ih b c h
      refine ⟨i1, ?_⟩
      rcases i2 with e | ⟨y, hy, q⟩
      · exact .inl e
      · exact .inr ⟨y, List.mem_cons_of_mem _ hy, q⟩
theorem implNext_loop (l : List S33) (hl : l.length ≤ 1000) (hv : ∀ x ∈ l, PinOK x = true) {a : Int} (ha : 0 ≤ a ∧ a ≤ 359) (d : Nat) : ∀ (k i : Nat) (c : Int), i + d = l.length → d < k →
    impl_NextPlayed.l0 k a c l l.length i = some (if nextI a c (l.drop i) = 360 then (0, false) else (nextI a c (l.drop i), true)) := by
  induction d with
  | zero =>
    intro k i c hi hk
    obtain ⟨k, rfl⟩ : ∃ j, k = j + 1 := ⟨k - 1, by omega⟩
    rw [impl_NextPlayed.l0, if_neg (by omega), List.drop_of_length_le (by omega), show nextI a c [] = c from rfl]
    split <;> rfl
  | succ d ih =>
    intro k i c hi hk
    obtain ⟨k, rfl⟩ : ∃ j, k = j + 1 := ⟨k - 1, by omega⟩
    have hi' : i < l.length := by omega
    obtain ⟨_, _, e, _⟩ := dst_range ha (hv _ (List.getElem_mem hi'))
    rw [impl_NextPlayed.l0, if_pos (by omega), if_pos (by omega), if_pos (by omega), rdP_get l i hi', w_suc i (by omega), e, ih k (i + 1) _ (by omega) (by omega), drop_get l i hi']
    rfl
theorem specNext_loop (l : List S33) (hl : l.length ≤ 1000) (hv : ∀ x ∈ l, PinOK x = true) (s : Int) {a : Int} (ha : 0 ≤ a ∧ a ≤ 359) (d : Nat) : ∀ (k i : Nat) (b : Int), i + d = l.length → d < k →
    spec_NextPlayed.l0 k s a b l l.length i = some (if nextS s a b (l.drop i) < 0 then (0, false) else (nextS s a b (l.drop i), true)) := by
  induction d with
  | zero =>
    intro k i b hi hk
    obtain ⟨k, rfl⟩ : ∃ j, k = j + 1 := ⟨k - 1, by omega⟩
    rw [spec_NextPlayed.l0, if_neg (by omega), List.drop_of_length_le (by omega), show nextS s a b [] = b from rfl]
    split <;> rfl
  | succ d ih =>
    intro k i b hi hk
    obtain ⟨k, rfl⟩ : ∃ j, k = j + 1 := ⟨k - 1, by omega⟩
    have hi' : i < l.length := by omega
    obtain ⟨_, _, e, _⟩ := dst_range ha (hv _ (List.getElem_mem hi'))
    rw [spec_NextPlayed.l0, if_pos (by omega), if_pos (by omega), if_pos (by omega), rdP_get l i hi', w_suc i (by omega), e, drop_get l i hi', nextS_cons]
    by_cases hs : l[i].f2 = s
    · rw [if_pos hs, if_pos hs]
      by_cases hb : b < 0
      · rw [if_pos hb, if_pos hb]; exact ih k (i + 1) _ (by omega) (by omega)
      · rw [if_neg hb, if_neg hb]
        by_cases hd : dstP a l[i] < b
        · rw [if_pos hd, if_pos hd]; exact ih k (i + 1) _ (by omega) (by omega)
        · rw [if_neg hd, if_neg hd]; exact ih k (i + 1) _ (by omega) (by omega)
    · rw [if_neg hs, if_neg hs]; exact ih k (i + 1) _ (by omega) (by omega)
def nxOut (l : List S33) (s a : Int) : Int × Bool := if plGood l s a = true then (if nextS s a (-1) l < 0 then (0, false) else (nextS s a (-1) l, true)) else (0, false)
theorem pl_facts {l : List S33} {s a : Int} (h : plGood l s a = true) : PinsB l = true ∧ (∀ x ∈ l, PinOK x = true) ∧ (0 ≤ s ∧ s ≤ 3) ∧ (0 ≤ a ∧ a ≤ 359) := by
  unfold plGood at h
  rw [Bool.and_eq_true, decide_eq_true_eq] at h
  exact ⟨h.1, ((pinsB_iff l).1 h.1).1, h.2.1, h.2.2⟩
theorem next_both (l : List S33) (hl : l.length ≤ 1000) (s a : Int) (k : Nat) (hk : 3000 ≤ k) : impl_NextPlayed.f k l s a = some (nxOut l s a) ∧ spec_NextPlayed.f k l s a = some (nxOut l s a) := by
  obtain ⟨k, rfl⟩ : ∃ j, k = j + 1 := ⟨k - 1, by omega⟩
  unfold impl_NextPlayed.f spec_NextPlayed.f nxOut plGood
  rw [arePins_eq l (by omega) (k + 1) (by omega), cyGood_eq l (by omega) (k + 1) (by omega), implShift_eq, specShift_eq, implAngle_eq, specAngle_eq]
  simp only [Option.bind_some, decide_eq_true_eq]
  by_cases h0 : PinsB l = true
  · rw [if_pos h0, if_pos h0, h0, Bool.true_and]
    by_cases h1 : 0 ≤ s ∧ s ≤ 3
    · rw [if_pos h1, if_pos h1]
      by_cases h2 : 0 ≤ a ∧ a ≤ 359
      · have hv := ((pinsB_iff l).1 h0).1
        have hp := part_le l s true
        have hvp : ∀ x ∈ partP l s true, PinOK x = true := fun x hx => hv x (List.mem_filter.1 hx).1
        have e1 : impl_NextPlayed.l0 k a 360 (partP l s true) ((partP l s true).length : Int) 0 = _ := implNext_loop (partP l s true) (by omega) hvp h2 (partP l s true).length k 0 360 (by omega) (by omega)
        have e2 : spec_NextPlayed.l0 k s a (-1) l (l.length : Int) 0 = _ := specNext_loop l hl hv s h2 l.length k 0 (-1) (by omega) (by omega)
        rw [List.drop_zero] at e1 e2
        rw [decide_eq_true h2, if_pos (decide_eq_true ⟨h1, h2⟩), impl_NextPlayed.j0, spec_NextPlayed.j0, if_neg (show ¬ (!true) = true by decide), if_neg (show ¬ (!true) = true by decide), tunePins_eq l hl s true k (by omega), e2]
        simp only [Option.bind_some]
        rw [e1]
        refine ⟨?_, by first | rfl | trivial⟩
        obtain ⟨q, -⟩ := next_rel h2 s l hv (-1) 360 (.inl ⟨rfl, rfl⟩)
        rcases q with ⟨q1, q2⟩ | ⟨q1, q2, q3⟩
        · rw [if_pos q2, if_pos (by omega)]
        · rw [if_neg (by omega), if_neg (by omega), q1]
      · rw [decide_eq_false h2, if_neg (by rw [decide_eq_true_eq]; exact fun h => h2 h.2), impl_NextPlayed.j0, spec_NextPlayed.j0, if_pos (show (!false) = true from rfl), if_pos (show (!false) = true from rfl)]
        exact ⟨rfl, rfl⟩
    · rw [if_neg h1, if_neg h1, if_neg (by rw [decide_eq_true_eq]; exact fun h => h1 h.1), impl_NextPlayed.j0, spec_NextPlayed.j0, if_pos rfl, if_pos rfl]
      exact ⟨rfl, rfl⟩
  · rw [if_neg h0, if_neg h0, Bool.eq_false_iff.2 h0, impl_NextPlayed.j0, spec_NextPlayed.j0, if_pos rfl, if_pos rfl]
    exact ⟨rfl, rfl⟩
/-- what is played next is played there -/
theorem next_plays {l : List S33} {s a : Int} (h : (nxOut l s a).2 = true) : plGood l s a = true ∧ 0 ≤ (nxOut l s a).1 ∧ (nxOut l s a).1 ≤ 359 ∧ plGood l s ((a + (nxOut l s a).1) % 360) = true ∧ playL l s ((a + (nxOut l s a).1) % 360) ≠ [] := by
  unfold nxOut at h ⊢
  by_cases hg : plGood l s a = true
  · rw [if_pos hg] at h ⊢
    obtain ⟨h0, hv, h1, h2⟩ := pl_facts hg
    obtain ⟨q, q2⟩ := next_rel h2 s l hv (-1) 360 (.inl ⟨rfl, rfl⟩)
    by_cases hn : nextS s a (-1) l < 0
    · rw [if_pos hn] at h; exact absurd h (by decide)
    · rw [if_neg hn]
      dsimp only
      have hr : 0 ≤ nextS s a (-1) l ∧ nextS s a (-1) l ≤ 359 := by
        rcases q with q | q
        · omega
        · exact q.2
      rcases q2 with e | ⟨x, hx, hs, hd⟩
      · omega
      · obtain ⟨_, _, _, e⟩ := dst_range h2 (hv x hx)
        rw [hd] at e
        have hf := pin_f1 (hv x hx)
        refine ⟨hg, hr.1, hr.2, ?_, fun hc => ?_⟩
        · unfold plGood
          rw [h0, Bool.true_and]
          exact decide_eq_true ⟨h1, by omega⟩
        · rw [e] at hc
          have : x.f0 ∈ playL l s x.f1 := by
            unfold playL
            rw [List.mem_map]
            exact ⟨x, List.mem_filter.2 ⟨hx, decide_eq_true ⟨hs, rfl⟩⟩, rfl⟩
          rw [hc] at this
          simp at this
  · rw [if_neg hg] at h; exact absurd h (by decide)

open Go.Lib in
def num (n : Nat) : ByteArray := ⟨(Go.Lib.decDigits n).toArray⟩
theorem ba_app (a b : List UInt8) : (⟨a.toArray⟩ : ByteArray) ++ ⟨b.toArray⟩ = ⟨(a ++ b).toArray⟩ := by
  apply ByteArray.ext
  rw [ByteArray.data_append]
  simp
theorem digit_str (d : Nat) (h : d < 10) : strOfNums [wrap64 (48 + (d : Int)) % 256] = ⟨[UInt8.ofNat (48 + d)].toArray⟩ := by
  rw [w64 (by omega), show (48 + (d : Int)) % 256 = ((48 + d : Nat) : Int) by omega]
  unfold strOfNums
  rfl
theorem digits_len : ∀ (m n : Nat), n ≤ m → (Go.Lib.decDigits n).length ≤ n + 1 := by
  intro m
  induction m with
  | zero =>
    intro n hn
    rw [Go.Lib.decDigits, dif_pos (by omega)]
    simp
  | succ m ih =>
    intro n hn
    rw [Go.Lib.decDigits]
    split
    · simp
    · rw [List.length_append]
      have := ih (n / 10) (by omega)
      simp only [List.length_cons, List.length_nil]
      omega
theorem num_size (n : Nat) : (num n).size ≤ n + 1 := by
  have := digits_len n n (Nat.le_refl _)
  unfold num
  simpa [ByteArray.size] using this
theorem l1Num_eq : ∀ (k n : Nat), n ≤ 1999 → n < k → spec_l1Num.f k (n : Int) = some (num n) := by
  intro k
  induction k with
  | zero => intro n h1 h2; omega
  | succ k ih =>
    intro n h1 h2
    rw [spec_l1Num.f]
    by_cases h : n < 10
    · rw [if_pos (by omega), digit_str n h]
      unfold num
      rw [Go.Lib.decDigits, dif_pos h]
    · have e1 : Int.tdiv (n : Int) 10 = ((n / 10 : Nat) : Int) := by
        rw [Int.tdiv_eq_ediv_of_nonneg (by omega)]; omega
      have e2 : Int.tmod (n : Int) 10 = ((n % 10 : Nat) : Int) := by
        rw [Int.tmod_eq_emod_of_nonneg (by omega)]; omega
      rw [if_neg (by omega), e1, e2, w64 (by omega), ih (n / 10) (by omega) (by omega)]
      simp only [Option.bind_some]
      rw [digit_str (n % 10) (by omega)]
      have hs := num_size (n / 10)
      have h1' : (⟨[UInt8.ofNat (48 + n % 10)].toArray⟩ : ByteArray).size = 1 := rfl
      rw [h1', if_pos (by omega)]
      unfold num
      rw [ba_app]
      conv => rhs; rw [Go.Lib.decDigits, dif_neg h]
theorem itoa_num (n : Nat) : Go.Lib.itoa (n : Int) = Go.Lib.decDigits n := by
  unfold Go.Lib.itoa
  rw [if_neg (by omega), Int.toNat_natCast]

theorem words3_eq (a b c k : Nat) (ha : a ≤ 1999) (hb : b ≤ 1999) (hc : c ≤ 1999) (hk : 4 ≤ k) : impl_words.f k [(a : Int), (b : Int), (c : Int)] = some (num a ++ ⟨#[32]⟩ ++ num b ++ ⟨#[32]⟩ ++ num c) := by
  obtain ⟨k, rfl⟩ : ∃ j, k = j + 4 := ⟨k - 4, by omega⟩
  unfold impl_words.f
  have r0 : rd [(a : Int), (b : Int), (c : Int)] 0 = a := rfl
  have r1 : rd [(a : Int), (b : Int), (c : Int)] 1 = b := rfl
  have r2 : rd [(a : Int), (b : Int), (c : Int)] 2 = c := rfl
  have t0 : strconv_Itoa.f (a : Int) = some (num a) := by unfold strconv_Itoa.f num; rw [if_pos (by omega), itoa_num]
  have t1 : strconv_Itoa.f (b : Int) = some (num b) := by unfold strconv_Itoa.f num; rw [if_pos (by omega), itoa_num]
  have t2 : strconv_Itoa.f (c : Int) = some (num c) := by unfold strconv_Itoa.f num; rw [if_pos (by omega), itoa_num]
  have sa := num_size a
  have sb := num_size b
  have sc := num_size c
  rw [impl_words.l0, if_pos (by simp), if_pos (by omega), if_pos (by simp), r0, t0]
  simp only [Option.bind_some, List.length_nil, Nat.zero_lt_succ, if_true, List.nil_append]
  rw [w64 (by omega), show (0 : Int) + 1 = 1 from rfl, impl_words.l0, if_pos (by simp), if_pos (by omega), if_pos (by simp), r1, t1]
  simp only [Option.bind_some]
  rw [if_pos (by simp), w64 (by omega), show (1 : Int) + 1 = 2 from rfl, impl_words.l0, if_pos (by simp), if_pos (by omega), if_pos (by simp), r2, t2]
  simp only [Option.bind_some]
  rw [if_pos (by simp), w64 (by omega), show (2 : Int) + 1 = 3 from rfl, impl_words.l0, if_neg (by simp)]
  have ej : Go.Lib.join (([num a] ++ [num b] ++ [num c]).map (·.data.toList)) (⟨#[32]⟩ : ByteArray).data.toList = (num a).data.toList ++ [32] ++ (num b).data.toList ++ [32] ++ (num c).data.toList := by
    simp [Go.Lib.join, List.intercalate]
  unfold strings_Join.f
  rw [ej]
  have hl : ((num a).data.toList ++ [32] ++ (num b).data.toList ++ [32] ++ (num c).data.toList).length ≤ 140737488355328 := by
    have e1 : (num a).data.toList.length = (num a).size := by rw [Array.length_toList]; rfl
    have e2 : (num b).data.toList.length = (num b).size := by rw [Array.length_toList]; rfl
    have e3 : (num c).data.toList.length = (num c).size := by rw [Array.length_toList]; rfl
    simp only [List.length_append, e1, e2, e3, List.length_cons, List.length_nil]
    omega
  rw [if_pos ⟨by simp, hl⟩]
  simp only [Option.bind_some]
  refine congrArg some (ByteArray.ext ?_)
  simp only [ByteArray.data_append]
  simp
def pinLine (x : S33) : ByteArray := num x.f2.toNat ++ ⟨#[32]⟩ ++ num x.f1.toNat ++ ⟨#[32]⟩ ++ num x.f0.toNat ++ ⟨#[10]⟩
def pinsText : List S33 → ByteArray → ByteArray
  | [], s => s
  | x :: r, s => pinsText r (s ++ pinLine x)
theorem pin_nums {x : S33} (h : PinOK x = true) : x.f0 = ((x.f0.toNat : Nat) : Int) ∧ x.f1 = ((x.f1.toNat : Nat) : Int) ∧ x.f2 = ((x.f2.toNat : Nat) : Int) ∧ x.f0.toNat ≤ 19 ∧ x.f1.toNat ≤ 359 ∧ x.f2.toNat ≤ 3 := by
  unfold PinOK at h
  have h := of_decide_eq_true h
  omega
theorem pline_size {x : S33} (h : PinOK x = true) : (pinLine x).size ≤ 500 := by
  obtain ⟨_, _, _, h1, h2, h3⟩ := pin_nums h
  have := num_size x.f0.toNat
  have := num_size x.f1.toNat
  have := num_size x.f2.toNat
  have e1 : (⟨#[32]⟩ : ByteArray).size = 1 := rfl
  have e2 : (⟨#[10]⟩ : ByteArray).size = 1 := rfl
  unfold pinLine
  simp only [ByteArray.size_append, e1, e2]
  omega
theorem specPText_loop (l : List S33) (hl : l.length ≤ 200) (hg : ∀ x ∈ l, PinOK x = true) (d : Nat) : ∀ (k i : Nat) (s : ByteArray), i + d = l.length → d + 3000 < k → s.size ≤ 500 * i →
    spec_PinsText.l0 k s l l.length i = some (pinsText (l.drop i) s, true) := by
  induction d with
  | zero =>
    intro k i s hi hk hs
    obtain ⟨k, rfl⟩ : ∃ j, k = j + 1 := ⟨k - 1, by omega⟩
    rw [spec_PinsText.l0, if_neg (by omega), List.drop_of_length_le (by omega)]
    rfl
  | succ d ih =>
    intro k i s hi hk hs
    obtain ⟨k, rfl⟩ : ∃ j, k = j + 1 := ⟨k - 1, by omega⟩
    have hx := hg _ (List.getElem_mem (l := l) (n := i) (by omega))
    have hls := pline_size hx
    obtain ⟨e0, e1, e2, b0, b1, b2⟩ := pin_nums hx
    have s0 := num_size l[i].f0.toNat
    have s1 := num_size l[i].f1.toNat
    have s2 := num_size l[i].f2.toNat
    have c1 : (⟨#[32]⟩ : ByteArray).size = 1 := rfl
    have c2 : (⟨#[10]⟩ : ByteArray).size = 1 := rfl
    have hN : spec_l1Num.f k l[i].f0 = some (num l[i].f0.toNat) := by rw [e0, l1Num_eq k _ (by omega) (by omega), Int.toNat_natCast]
    have hM : spec_l1Num.f k l[i].f1 = some (num l[i].f1.toNat) := by rw [e1, l1Num_eq k _ (by omega) (by omega), Int.toNat_natCast]
    have hO : spec_l1Num.f k l[i].f2 = some (num l[i].f2.toNat) := by rw [e2, l1Num_eq k _ (by omega) (by omega), Int.toNat_natCast]
    rw [spec_PinsText.l0, if_pos (by omega), if_pos (by omega), if_pos (by omega), rdP_get l i (by omega), hN, hM, hO]
    simp only [Option.bind_some]
    have hw : ((((num l[i].f2.toNat ++ (⟨#[32]⟩ : ByteArray)) ++ num l[i].f1.toNat) ++ (⟨#[32]⟩ : ByteArray)) ++ num l[i].f0.toNat) ++ (⟨#[10]⟩ : ByteArray) = pinLine l[i] := rfl
    rw [if_pos (by omega), if_pos (by simp only [ByteArray.size_append, c1]; omega), if_pos (by simp only [ByteArray.size_append, c1]; omega), if_pos (by simp only [ByteArray.size_append, c1]; omega), if_pos (by simp only [ByteArray.size_append, c1]; omega), hw, if_pos (by omega), w64 (by omega), drop_get l i (by omega),
      show ((i : Int) + 1) = ((i + 1 : Nat) : Int) by omega]
    exact ih k (i + 1) _ (by omega) (by omega) (by rw [ByteArray.size_append]; omega)
theorem implPText_loop (l : List S33) (hl : l.length ≤ 200) (hg : ∀ x ∈ l, PinOK x = true) (d : Nat) : ∀ (k i : Nat) (s : ByteArray), i + d = l.length → d + 3000 < k → s.size ≤ 500 * i →
    impl_PinsText.l0 k s l l.length i = some (pinsText (l.drop i) s, true) := by
  induction d with
  | zero =>
    intro k i s hi hk hs
    obtain ⟨k, rfl⟩ : ∃ j, k = j + 1 := ⟨k - 1, by omega⟩
    rw [impl_PinsText.l0, if_neg (by omega), List.drop_of_length_le (by omega)]
    rfl
  | succ d ih =>
    intro k i s hi hk hs
    obtain ⟨k, rfl⟩ : ∃ j, k = j + 1 := ⟨k - 1, by omega⟩
    have hx := hg _ (List.getElem_mem (l := l) (n := i) (by omega))
    have hls := pline_size hx
    obtain ⟨e0, e1, e2, b0, b1, b2⟩ := pin_nums hx
    have s0 := num_size l[i].f0.toNat
    have s1 := num_size l[i].f1.toNat
    have s2 := num_size l[i].f2.toNat
    have c1 : (⟨#[32]⟩ : ByteArray).size = 1 := rfl
    have hW : impl_words.f k [l[i].f2, l[i].f1, l[i].f0] = some (num l[i].f2.toNat ++ ⟨#[32]⟩ ++ num l[i].f1.toNat ++ ⟨#[32]⟩ ++ num l[i].f0.toNat) := by
      rw [e0, e1, e2, words3_eq _ _ _ k (by omega) (by omega) (by omega) (by omega), Int.toNat_natCast, Int.toNat_natCast, Int.toNat_natCast]
    rw [impl_PinsText.l0, if_pos (by omega), if_pos (by omega), if_pos (by omega), rdP_get l i (by omega), hW]
    simp only [Option.bind_some]
    have hw : ((((num l[i].f2.toNat ++ (⟨#[32]⟩ : ByteArray)) ++ num l[i].f1.toNat) ++ (⟨#[32]⟩ : ByteArray)) ++ num l[i].f0.toNat) ++ (⟨#[10]⟩ : ByteArray) = pinLine l[i] := rfl
    rw [if_pos (by simp only [ByteArray.size_append, c1]; omega), hw, if_pos (by omega), w64 (by omega), drop_get l i (by omega),
      show ((i : Int) + 1) = ((i + 1 : Nat) : Int) by omega]
    exact ih k (i + 1) _ (by omega) (by omega) (by rw [ByteArray.size_append]; omega)
def ptOut (l : List S33) : ByteArray × Bool := if PinsB l = true then (pinsText l ⟨#[]⟩, true) else (⟨#[]⟩, false)
theorem text_both (l : List S33) (hl : l.length ≤ 1000) (k : Nat) (hk : 5000 ≤ k) : impl_PinsText.f k l = some (ptOut l) ∧ spec_PinsText.f k l = some (ptOut l) := by
  unfold impl_PinsText.f spec_PinsText.f ptOut
  rw [arePins_eq l (by omega) k (by omega), cyGood_eq l (by omega) k (by omega)]
  simp only [Option.bind_some]
  by_cases h : PinsB l = true
  · obtain ⟨g1, g2, g3⟩ := (pinsB_iff l).1 h
    rw [if_pos h, if_pos h, if_pos h]
    have e1 := implPText_loop l (by omega) g1 l.length k 0 ⟨#[]⟩ (by omega) (by omega) (Nat.le_refl 0)
    have e2 := specPText_loop l (by omega) g1 l.length k 0 ⟨#[]⟩ (by omega) (by omega) (Nat.le_refl 0)
    rw [List.drop_zero] at e1 e2
    exact ⟨e1, e2⟩
  · rw [if_neg h, if_neg h, if_neg h]
    exact ⟨rfl, rfl⟩

/-- draws of pins -/
theorem pin_ok (l : List Int) (hl : Bytes l) (a s : Int) (ha : 0 ≤ a ∧ a ≤ 800000) : ∃ t f e a' s', spec_l1Cur_pin.f l a s = some (t, f, e, a', s') ∧ a ≤ a' ∧ a' ≤ a + 12 := by
  obtain ⟨v1, a1, s1, e1, _, _, l1, u1⟩ := pick_ok l hl a s (by omega) 20
  obtain ⟨v2, a2, s2, e2, l2, u2⟩ := among_ok l hl a1 s1 (by omega) [0, 1, 1, 2, v1] (by simp)
  obtain ⟨v3, a3, s3, e3, _, _, l3, u3⟩ := pick_ok l hl a2 s2 (by omega) 360
  obtain ⟨v4, a4, s4, e4, l4, u4⟩ := among_ok l hl a3 s3 (by omega) [0, 10, 90, 359, v3] (by simp)
  obtain ⟨v5, a5, s5, e5, _, _, l5, u5⟩ := pick_ok l hl a4 s4 (by omega) 4
  refine ⟨v2, v4, v5, a5, s5, ?_, by omega, by omega⟩
  unfold spec_l1Cur_pin.f
  simp only [e1, e2, e3, e4, e5, Option.bind_some]
theorem shiftOf_ok (l : List Int) (hl : Bytes l) (a s : Int) (ha : 0 ≤ a ∧ a ≤ 800000) : ∃ v a' s', spec_l1Cur_shiftOf.f l a s = some (v, a', s') ∧ a ≤ a' ∧ a' ≤ a + 12 := by
  obtain ⟨v1, a1, s1, e1, l1, u1⟩ := among_ok l hl a s (by omega) [4, (-1)] (by simp)
  obtain ⟨v2, a2, s2, e2, l2, u2⟩ := among_ok l hl a1 s1 (by omega) [0, 1, 2, 3, 0, 1, v1] (by simp)
  refine ⟨v2, a2, s2, ?_, by omega, by omega⟩
  unfold spec_l1Cur_shiftOf.f
  simp only [e1, e2, Option.bind_some]
theorem angleOf_ok (l : List Int) (hl : Bytes l) (a s : Int) (ha : 0 ≤ a ∧ a ≤ 800000) : ∃ v a' s', spec_l1Cur_angleOf.f l a s = some (v, a', s') ∧ a ≤ a' ∧ a' ≤ a + 12 := by
  obtain ⟨v1, a1, s1, e1, _, _, l1, u1⟩ := pick_ok l hl a s (by omega) 360
  obtain ⟨v2, a2, s2, e2, l2, u2⟩ := among_ok l hl a1 s1 (by omega) [360, (-1)] (by simp)
  obtain ⟨v3, a3, s3, e3, l3, u3⟩ := among_ok l hl a2 s2 (by omega) [0, 1, 10, 90, v1, 359, v2] (by simp)
  refine ⟨v3, a3, s3, ?_, by omega, by omega⟩
  unfold spec_l1Cur_angleOf.f
  simp only [e1, e2, e3, Option.bind_some]
def PnOut (r : List S33 × Int × Int) : Prop := r.1.length ≤ 400 ∧ 0 ≤ r.2.1 ∧ r.2.1 ≤ 10000
theorem pinsl1_tot (l : List Int) (a s : Int) (ha : 0 ≤ a ∧ a ≤ 10000) (d : Nat) : ∀ (x : List S33) (n : Int), x.length + d = 400 → Tot (fun k => spec_l1Cur_pins.l1 k x n l a s) PnOut := by
  induction d with
  | zero =>
    intro x n hx
    exact Tot.step (h := fun _ => some (x, a, s)) (fun k => by rw [spec_l1Cur_pins.l1, if_neg (by omega)]) (Tot.now _ (fun _ => rfl) ⟨by simp only []; omega, ha.1, ha.2⟩)
  | succ d ih =>
    intro x n hx
    by_cases h : (x.length : Int) < 61
    · exact Tot.step (h := fun k => spec_l1Cur_pins.l1 k (x ++ [(⟨19, wrap64 (5 * n), 3⟩ : S33)]) (wrap64 (n + 1)) l a s) (fun k => by rw [spec_l1Cur_pins.l1, if_pos h]; simp only [Option.bind_some]; rw [if_pos (by simp only [List.length_singleton]; omega)]) (ih _ _ (by simp; omega))
    · exact Tot.step (h := fun _ => some (x, a, s)) (fun k => by rw [spec_l1Cur_pins.l1, if_neg h]) (Tot.now _ (fun _ => rfl) ⟨by simp only []; omega, ha.1, ha.2⟩)
theorem pins_end (l : List Int) (hl : Bytes l) (x : List S33) (n i : Int) (hx : x.length ≤ 320) (a s : Int) (ha : 0 ≤ a ∧ a ≤ 9000) : Tot (fun k => spec_l1Cur_pins.j2 k x n i false l a s) PnOut := by
  refine Tot.step (fun k => by rw [spec_l1Cur_pins.j2, if_neg (by decide)]) ?_
  by_cases h : (x.length : Int) > 0
  · refine Tot.congr (fun k => if_pos h) ?_
    obtain ⟨v, a1, s1, e1, b0, b1, l1, u1⟩ := pick_ok l hl a s (by omega) (x.length : Int)
    obtain ⟨v2, a2, s2, e2, _, _, l2, u2⟩ := pick_ok l hl a1 s1 (by omega) 36
    have b2 := b1 (by omega)
    obtain ⟨t0, c0, d0, f0, m0, n0⟩ := among_ok l hl a2 s2 (by omega) [(-1), 19, 20] (by simp)
    obtain ⟨t1, c1, d1, f1, m1, n1⟩ := among_ok l hl a2 s2 (by omega) [(-1), 359, 360] (by simp)
    obtain ⟨t2, c2, d2, f2, m2, n2⟩ := among_ok l hl a2 s2 (by omega) [(-1), 3, 4] (by simp)
    rw [e1]
    simp only [Option.bind_some]
    refine Tot.congr (fun k => (if_pos b0).trans (if_pos b2)) ?_
    rw [e2]
    simp only [Option.bind_some]
    by_cases q0 : v2 = 0
    · refine Tot.congr (fun k => if_pos q0) ?_
      rw [f0]
      exact Tot.now _ (fun _ => rfl) ⟨by simp only [List.length_set]; omega, by simp only []; omega, by simp only []; omega⟩
    · refine Tot.congr (fun k => if_neg q0) ?_
      by_cases q1 : v2 = 1
      · refine Tot.congr (fun k => if_pos q1) ?_
        rw [f1]
        exact Tot.now _ (fun _ => rfl) ⟨by simp only [List.length_set]; omega, by simp only []; omega, by simp only []; omega⟩
      · refine Tot.congr (fun k => if_neg q1) ?_
        by_cases q2 : v2 = 2
        · refine Tot.congr (fun k => if_pos q2) ?_
          rw [f2]
          exact Tot.now _ (fun _ => rfl) ⟨by simp only [List.length_set]; omega, by simp only []; omega, by simp only []; omega⟩
        · refine Tot.congr (fun k => if_neg q2) ?_
          by_cases q3 : v2 = 3
          · refine Tot.congr (fun k => (if_pos q3).trans ((if_pos (by omega)).trans (if_pos (by simp only [List.length_singleton]; omega)))) ?_
            exact Tot.now _ (fun _ => rfl) ⟨by simp only [List.length_append, List.length_singleton]; omega, by simp only []; omega, by simp only []; omega⟩
          · refine Tot.congr (fun k => if_neg q3) ?_
            by_cases q4 : v2 = 4
            · exact Tot.congr (fun k => if_pos q4) (pinsl1_tot l a2 s2 (by omega) (400 - x.length) x 0 (by omega))
            · exact Tot.congr (fun k => if_neg q4) (Tot.now _ (fun _ => rfl) ⟨by simp only []; omega, by simp only []; omega, by simp only []; omega⟩)
  · exact Tot.congr (fun k => if_neg h) (Tot.now _ (fun _ => rfl) ⟨by simp only []; omega, by simp only []; omega, by simp only []; omega⟩)
theorem sortP_tot (l : List S33) (hl : l.length ≤ 100) : Tot (fun k => spec_cySorted.f k l) (fun r => r.1.length ≤ l.length) := sortedP_tot l hl l.length 0 [] (by omega) rfl
theorem pins_loop (l : List Int) (hl : Bytes l) (n : Int) (hn : n ≤ 60) (d : Nat) : ∀ (x : List S33) (i : Nat) (a s : Int), i + d = 300 → x.length ≤ 60 → 0 ≤ a → a + 12 * d ≤ 4000 →
    Tot (fun k => spec_l1Cur_pins.l0 k x n i l a s) PnOut := by
  induction d with
  | zero =>
    intro x i a s hi hx h0 ha
    refine Tot.step (h := fun k => spec_l1Cur_pins.j2 k x n i false l a s) (fun k => ?_) (pins_end l hl x n i (by omega) a s (by omega))
    rw [spec_l1Cur_pins.l0]
    split
    · rw [decide_eq_false (by omega)]
    · rfl
  | succ d ih =>
    intro x i a s hi hx h0 ha
    by_cases h : (x.length : Int) < n
    · refine Tot.step (h := fun k => spec_l1Cur_pins.j2 k x n i true l a s) (fun k => by rw [spec_l1Cur_pins.l0, if_pos h, decide_eq_true (by omega)]) ?_
      obtain ⟨t, f, e, a1, s1, e1, l1, u1⟩ := pin_ok l hl a s (by omega)
      have go : ∀ (y : S33), Tot (fun k => (spec_cySorted.f k (([] ++ x) ++ [y])).bind fun bt => (if bt.2 = true then (spec_l1Cur_pins.l0 k bt.1 n (wrap64 ((i : Int) + 1)) l a1 s1) else (spec_l1Cur_pins.l0 k x n (wrap64 ((i : Int) + 1)) l a1 s1))) PnOut := fun y => by
        rw [show wrap64 ((i : Int) + 1) = ((i + 1 : Nat) : Int) by rw [w64 (by omega)]; omega, List.nil_append]
        refine Tot.bind (sortP_tot (x ++ [y]) (by simp; omega)) (fun bt hb => ?_)
        rw [List.length_append, List.length_singleton] at hb
        by_cases h2 : bt.2 = true
        · exact Tot.congr (fun k => if_pos h2) (ih bt.1 (i + 1) a1 s1 (by omega) (by omega) (by omega) (by omega))
        · exact Tot.congr (fun k => if_neg h2) (ih x (i + 1) a1 s1 (by omega) (by omega) (by omega) (by omega))
      refine Tot.step (fun k => by rw [spec_l1Cur_pins.j2, if_pos rfl, e1]) ?_
      simp only [Option.bind_some]
      by_cases h6 : n = 60
      · refine Tot.congr (fun k => (if_pos h6).trans ((if_pos (by simp; omega)).trans (if_pos (by simp; omega)))) ?_
        exact go _
      · refine Tot.congr (fun k => (if_neg h6).trans ((if_pos (by simp; omega)).trans (if_pos (by simp; omega)))) ?_
        exact go _
    · refine Tot.step (h := fun k => spec_l1Cur_pins.j2 k x n i false l a s) (fun k => by rw [spec_l1Cur_pins.l0, if_neg h]) (pins_end l hl x n i (by omega) a s (by omega))
theorem pins_tot (l : List Int) (hl : Bytes l) : Tot (fun k => spec_l1Cur_pins.f k l 0 0) PnOut := by
  obtain ⟨v, a1, s1, e1, b0, b1, l1, u1⟩ := pick_ok l hl 0 0 (by omega) 9
  obtain ⟨v2, a2, s2, e2, l2, u2⟩ := one_ok l hl a1 s1 (by omega) 24
  have b2 := b1 (by omega)
  refine Tot.congr (fun k => by unfold spec_l1Cur_pins.f; rw [e1]) ?_
  simp only [Option.bind_some]
  rw [e2]
  simp only [Option.bind_some]
  have go : ∀ n : Int, n ≤ 60 → Tot (fun k => spec_l1Cur_pins.j0 k ([] : List S33) n l a2 s2) PnOut := fun n hn =>
    Tot.step (h := fun k => spec_l1Cur_pins.l0 k ([] : List S33) n ((0 : Nat) : Int) l a2 s2) (fun k => by rw [spec_l1Cur_pins.j0]; rfl) (pins_loop l hl n hn 300 [] 0 a2 s2 (by omega) (by simp) (by omega) (by omega))
  by_cases h : v2 = true
  · exact Tot.congr (fun k => if_pos h) (go 60 (by omega))
  · exact Tot.congr (fun k => if_neg h) (go v (by omega))
theorem drawTurn_tot (l : List Int) (hl : Bytes l) : Tot (fun k => spec_DrawTurnTune.f k l) (fun r => r.1.length ≤ 400) := by
  refine Tot.congr (fun k => by unfold spec_DrawTurnTune.f; rfl) ?_
  refine Tot.bind (pins_tot l hl) (fun b hb => ?_)
  obtain ⟨x, a, s⟩ := b
  obtain ⟨h0, h1, h2⟩ := hb
  simp only at h0 h1 h2
  obtain ⟨v1, a1, s1, e1, l1, u1⟩ := shiftOf_ok l hl a s (by omega)
  obtain ⟨v2, a2, s2, e2, l2, u2⟩ := angleOf_ok l hl a1 s1 (by omega)
  refine Tot.now (x, v1, v2) (fun k => ?_) h0
  simp only [e1, e2, Option.bind_some]
theorem drawSwap_tot (l : List Int) (hl : Bytes l) : Tot (fun k => spec_DrawSwapTunes.f k l) (fun r => r.1.length ≤ 400) := by
  refine Tot.congr (fun k => by unfold spec_DrawSwapTunes.f; rfl) ?_
  refine Tot.bind (pins_tot l hl) (fun b hb => ?_)
  obtain ⟨x, a, s⟩ := b
  obtain ⟨h0, h1, h2⟩ := hb
  simp only at h0 h1 h2
  obtain ⟨v1, a1, s1, e1, l1, u1⟩ := shiftOf_ok l hl a s (by omega)
  obtain ⟨v2, a2, s2, e2, l2, u2⟩ := shiftOf_ok l hl a1 s1 (by omega)
  refine Tot.now (x, v1, v2) (fun k => ?_) h0
  simp only [e1, e2, Option.bind_some]
theorem drawNext_tot (l : List Int) (hl : Bytes l) : Tot (fun k => spec_DrawNextPlayed.f k l) (fun r => r.1.length ≤ 400) := by
  refine Tot.congr (fun k => by unfold spec_DrawNextPlayed.f; rfl) ?_
  exact Tot.bind (drawTurn_tot l hl) (fun b hb => Tot.now (b.1, b.2.1, b.2.2) (fun _ => rfl) hb)
theorem drawText_tot (l : List Int) (hl : Bytes l) : Tot (fun k => spec_DrawPinsText.f k l) (fun r => r.length ≤ 400) := by
  refine Tot.congr (fun k => by unfold spec_DrawPinsText.f spec_DrawArePins.f; rfl) ?_
  refine Tot.bind (Q := fun r : List S33 => r.length ≤ 400) ?_ (fun b hb => Tot.now b (fun _ => rfl) hb)
  exact Tot.bind (pins_tot l hl) (fun b hb => Tot.now b.1 (fun _ => rfl) hb.1)
theorem drawPlay_tot (l : List Int) (hl : Bytes l) : Tot (fun k => spec_DrawPlayedAt.f k l) (fun r => r.1.length ≤ 400) := by
  refine Tot.congr (fun k => by unfold spec_DrawPlayedAt.f; rfl) ?_
  refine Tot.bind (pins_tot l hl) (fun b hb => ?_)
  obtain ⟨x, a, s⟩ := b
  obtain ⟨h0, h1, h2⟩ := hb
  simp only at h0 h1 h2
  have fin : ∀ (a s : Int), 0 ≤ a → a ≤ 20000 → Tot (fun k => spec_DrawPlayedAt.j0 k x false l a s) (fun r => r.1.length ≤ 400) := fun a s q1 q2 => by
    obtain ⟨v1, a1, s1, e1, l1, u1⟩ := shiftOf_ok l hl a s (by omega)
    obtain ⟨v2, a2, s2, e2, l2, u2⟩ := angleOf_ok l hl a1 s1 (by omega)
    refine Tot.step (h := fun _ => some (x, v1, v2)) (fun k => ?_) (Tot.now _ (fun _ => rfl) h0)
    rw [spec_DrawPlayedAt.j0, if_neg (by decide)]
    simp only [e1, e2, Option.bind_some]
  by_cases hp : (x.length : Int) > 0
  · obtain ⟨v, a1, s1, e1, l1, u1⟩ := one_ok l hl a s (by omega) 2
    refine Tot.congr (h := fun k => spec_DrawPlayedAt.j0 k x v l a1 s1) (fun k => (if_pos hp).trans (by rw [e1]; rfl)) ?_
    by_cases hv : v = true
    · subst hv
      obtain ⟨p, a2, s2, e2, b0, b1, l2, u2⟩ := pick_ok l hl a1 s1 (by omega) (x.length : Int)
      have b2 := b1 (by omega)
      refine Tot.step (h := fun _ => some (x, (rd_T33 x p).f2, (rd_T33 x p).f1)) (fun k => ?_) (Tot.now _ (fun _ => rfl) h0)
      rw [spec_DrawPlayedAt.j0, if_pos rfl, e2]
      simp only [Option.bind_some]
      rw [if_pos b0, if_pos b2]
    · rw [Bool.eq_false_iff.2 hv]
      exact fin a1 s1 (by omega) (by omega)
  · exact Tot.congr (fun k => if_neg hp) (fin a s (by omega) (by omega))

theorem pSameP_loop (l : List S33) (hl : l.length ≤ 1000) (d : Nat) : ∀ (k i : Nat), i + d = l.length → d < k → laws_pSamePins.l0 k l l l.length i = some true := by
  induction d with
  | zero =>
    intro k i hi hk
    obtain ⟨k, rfl⟩ : ∃ j, k = j + 1 := ⟨k - 1, by omega⟩
    rw [laws_pSamePins.l0, if_neg (by omega)]
  | succ d ih =>
    intro k i hi hk
    obtain ⟨k, rfl⟩ : ∃ j, k = j + 1 := ⟨k - 1, by omega⟩
    rw [laws_pSamePins.l0, if_pos (by omega), if_pos (by omega), if_pos (by omega), if_pos (by omega), if_neg (by simp), w_suc i (by omega)]
    exact ih k (i + 1) (by omega) (by omega)
theorem pSamePins_self (l : List S33) (hl : l.length ≤ 1000) (k : Nat) (hk : 1001 ≤ k) : laws_pSamePins.f k l l = some true := by
  unfold laws_pSamePins.f
  rw [if_pos rfl]
  exact pSameP_loop l hl l.length k 0 (by omega) (by omega)
theorem pIn_loop (l : List Int) (hl : l.length ≤ 1000) (n : Int) (d : Nat) : ∀ (k i : Nat), i + d = l.length → d < k → laws_pIn.l0 k n l l.length i = some (decide (n ∈ l.drop i)) := by
  induction d with
  | zero =>
    intro k i hi hk
    obtain ⟨k, rfl⟩ : ∃ j, k = j + 1 := ⟨k - 1, by omega⟩
    rw [laws_pIn.l0, if_neg (by omega), List.drop_of_length_le (by omega)]
    simp
  | succ d ih =>
    intro k i hi hk
    obtain ⟨k, rfl⟩ : ∃ j, k = j + 1 := ⟨k - 1, by omega⟩
    have hi' : i < l.length := by omega
    have e := ih k (i + 1) (by omega) (by omega)
    rw [laws_pIn.l0, if_pos (by omega), if_pos (by omega), if_pos (by omega), rd_get l i hi', w_suc i (by omega), e, drop_get l i hi']
    by_cases h : l[i] = n
    · rw [if_pos h]
      congr 1
      rw [eq_comm, decide_eq_true_eq]
      rw [h]; exact List.mem_cons_self
    · rw [if_neg h]
      congr 1
      rw [decide_eq_decide, List.mem_cons]
      exact ⟨fun h' => .inr h', fun h' => h'.elim (fun e => absurd e.symm h) id⟩
theorem pIn_eq (l : List Int) (hl : l.length ≤ 1000) (n : Int) (k : Nat) (hk : l.length < k) : laws_pIn.f k l n = some (decide (n ∈ l)) := by
  unfold laws_pIn.f
  have := pIn_loop l hl n l.length k 0 (by omega) hk
  exact this
theorem sameI_loop (l : List Int) (hl : l.length ≤ 1048576) (d : Nat) : ∀ (k i : Nat), i + d = l.length → d < k → laws_sameInts.l0 k l l l.length i = some true := by
  induction d with
  | zero =>
    intro k i hi hk
    obtain ⟨k, rfl⟩ : ∃ j, k = j + 1 := ⟨k - 1, by omega⟩
    rw [laws_sameInts.l0, if_neg (by omega)]
  | succ d ih =>
    intro k i hi hk
    obtain ⟨k, rfl⟩ : ∃ j, k = j + 1 := ⟨k - 1, by omega⟩
    rw [laws_sameInts.l0, if_pos (by omega), if_pos (by omega), if_pos (by omega), if_pos (by omega), if_pos rfl, w64 (by omega), show ((i : Int) + 1) = ((i + 1 : Nat) : Int) by omega]
    exact ih k (i + 1) (by omega) (by omega)
theorem sameI_self (l : List Int) (hl : l.length ≤ 1048576) (k : Nat) (hk : l.length < k) : laws_sameInts.f k l l = some true := by
  unfold laws_sameInts.f
  rw [if_pos rfl]
  exact sameI_loop l hl l.length k 0 (by omega) hk
theorem playL_le (l : List S33) (s a : Int) : (playL l s a).length ≤ l.length := by
  unfold playL
  rw [List.length_map]
  exact List.length_filter_le _ _
theorem plOut_le (l : List S33) (s a : Int) : (plOut l s a).1.length ≤ l.length := by
  unfold plOut
  split
  · exact playL_le l s a
  · simp
theorem law_j7 (l : List Int) (hl : Bytes l) : Tot (fun k => laws_FnPins.j7 k l) (fun r => r = true) := by
  refine Tot.step (fun k => by rw [laws_FnPins.j7]) ?_
  refine Tot.bind (drawPlay_tot l hl) (fun q hq => ?_)
  obtain ⟨v, s, a⟩ := q
  have hv : v.length ≤ 400 := hq
  refine Tot.bind (Q := fun r => r = plOut v s a) (Tot.ge _ 3000 (fun k hk => (play_both v (by omega) s a k hk).1) rfl) (fun r hr => ?_)
  subst hr
  refine Tot.bind (Q := fun r => r = plOut v s a) (Tot.ge _ 3000 (fun k hk => (play_both v (by omega) s a k hk).2) rfl) (fun r hr => ?_)
  subst hr
  refine Tot.bind (drawText_tot l hl) (fun u hu => ?_)
  refine Tot.bind (Q := fun r => r = ptOut u) (Tot.ge _ 5000 (fun k hk => (text_both u (by omega) k hk).1) rfl) (fun r hr => ?_)
  subst hr
  refine Tot.bind (Q := fun r => r = ptOut u) (Tot.ge _ 5000 (fun k hk => (text_both u (by omega) k hk).2) rfl) (fun r hr => ?_)
  subst hr
  refine Tot.congr (fun k => if_pos (by simp)) ?_
  have hp := plOut_le v s a
  refine Tot.bind (Q := fun t => t = true) (Tot.ge true 1000 (fun k hk => sameI_self _ (by omega) k (by omega)) rfl) (fun t ht => ?_)
  subst ht
  refine Tot.now true (fun k => ?_) rfl
  rw [if_pos rfl, if_pos (by simp)]
  simp
theorem law_j5 (l : List Int) (hl : Bytes l) : Tot (fun k => laws_FnPins.j5 k l) (fun r => r = true) := by
  refine Tot.step (fun k => by rw [laws_FnPins.j5]) ?_
  refine Tot.bind (drawNext_tot l hl) (fun q hq => ?_)
  obtain ⟨v, s, a⟩ := q
  have hv : v.length ≤ 400 := hq
  refine Tot.bind (Q := fun r => r = nxOut v s a) (Tot.ge _ 3000 (fun k hk => (next_both v (by omega) s a k hk).1) rfl) (fun r hr => ?_)
  subst hr
  refine Tot.bind (Q := fun r => r = nxOut v s a) (Tot.ge _ 3000 (fun k hk => (next_both v (by omega) s a k hk).2) rfl) (fun r hr => ?_)
  subst hr
  refine Tot.congr (h := fun k => laws_FnPins.j6 k l v s a (nxOut v s a).2 (nxOut v s a).1 false) (fun k => by rw [if_neg (by simp)]; simp only [bne_self_eq_false]) ?_
  refine Tot.step (fun k => by rw [laws_FnPins.j6, if_neg (by decide)]) ?_
  by_cases h : (nxOut v s a).2 = true
  · obtain ⟨g, h1, h2, h3, h4⟩ := next_plays h
    obtain ⟨_, _, _, ga⟩ := pl_facts g
    refine Tot.congr (fun k => if_pos h) ?_
    rw [tmod360 (by omega)]
    refine Tot.bind (Q := fun r => r = (playL v s ((a + (nxOut v s a).1) % 360), true)) (Tot.ge _ 3000 (fun k hk => ?_) rfl) (fun r hr => ?_)
    · rw [(play_both v (by omega) s _ k hk).1]
      unfold plOut
      rw [if_pos h3]
    · subst hr
      refine Tot.congr (fun k => (if_pos rfl).trans ((if_neg ?_).trans ((if_neg (by omega)).trans (if_neg (by omega))))) (law_j7 l hl)
      intro e
      exact h4 (List.length_eq_zero_iff.1 (by dsimp only at e; omega))
  · exact Tot.congr (fun k => if_neg h) (law_j7 l hl)
theorem sw_big {l : List S33} {a b : Int} (hl : l.length ≤ 400) : (swOut l a b).1.length ≤ 400 := by
  unfold swOut
  split
  · rw [pSort_length, List.length_map]; exact hl
  · simp
theorem tu_big {l : List S33} {a b : Int} (hl : l.length ≤ 400) : (tuOut l a b).1.length ≤ 400 := by
  unfold tuOut
  split
  · rw [pSort_length, List.length_map]; exact hl
  · simp
theorem swap_again {l : List S33} {a b : Int} (h : swGood l a b = true) : swOut (pSort (l.map (swapP a b))) b a = (l, true) := by
  obtain ⟨g1, g2, g3, g4, g5, nd, g8⟩ := sw_facts h
  unfold swOut
  have hg : swGood (pSort (l.map (swapP a b))) b a = true := by
    unfold swGood
    rw [g8, Bool.true_and]
    exact decide_eq_true ⟨g5, g4⟩
  rw [if_pos hg, back_sort g2 (fun x _ => swap_back a b x)]
theorem law_j3 (l : List Int) (hl : Bytes l) : Tot (fun k => laws_FnPins.j3 k l) (fun r => r = true) := by
  refine Tot.step (fun k => by rw [laws_FnPins.j3]) ?_
  refine Tot.bind (drawSwap_tot l hl) (fun q hq => ?_)
  obtain ⟨u, a, b⟩ := q
  have hu : u.length ≤ 400 := hq
  have hb := sw_big (a := a) (b := b) hu
  refine Tot.bind (Q := fun r => r = swOut u a b) (Tot.ge _ 5000 (fun k hk => implSwap_eq u (by omega) a b k hk) rfl) (fun r hr => ?_)
  subst hr
  obtain ⟨K, hK⟩ := specSwap_eq u (by omega) a b
  refine Tot.bind (Q := fun r => r = swOut u a b) (Tot.ge _ K (fun k hk => hK k hk) rfl) (fun r hr => ?_)
  subst hr
  refine Tot.congr (fun k => if_neg (by simp)) ?_
  refine Tot.bind (Q := fun t => t = true) (Tot.ge true 1001 (fun k hk => pSamePins_self _ (by omega) k hk) rfl) (fun t ht => ?_)
  subst ht
  refine Tot.step (h := fun k => if (swOut u a b).2 = true then ((impl_SwapTunes.f k (swOut u a b).1 b a).bind fun bt610 => (if bt610.2 = true then ((laws_pSamePins.f k bt610.1 u).bind fun t614 => (if t614 = true then ((impl_ArePins.f k (swOut u a b).1).bind fun t615 => (if t615 = true then (laws_FnPins.j5 k l) else (some false))) else (some false))) else (some false))) else (laws_FnPins.j5 k l)) (fun k => by dsimp only; rw [laws_FnPins.j4, if_neg (by decide)]) ?_
  by_cases h : (swOut u a b).2 = true
  · have hg : swGood u a b = true := by
      unfold swOut at h
      by_cases q : swGood u a b = true
      · exact q
      · rw [if_neg q] at h; exact absurd h (by decide)
    obtain ⟨g1, g2, g3, g4, g5, nd, g8⟩ := sw_facts hg
    have e : swOut u a b = (pSort (u.map (swapP a b)), true) := by unfold swOut; rw [if_pos hg]
    rw [e]
    rw [e] at hb
    dsimp only at hb ⊢
    refine Tot.congr (fun k => if_pos rfl) ?_
    refine Tot.bind (Q := fun r => r = (u, true)) (Tot.ge _ 5000 (fun k hk => by rw [implSwap_eq _ (by omega) b a k hk, swap_again hg]) rfl) (fun r hr => ?_)
    subst hr
    refine Tot.congr (fun k => if_pos rfl) ?_
    refine Tot.bind (Q := fun t => t = true) (Tot.ge true 1001 (fun k hk => pSamePins_self u (by omega) k hk) rfl) (fun t ht => ?_)
    subst ht
    refine Tot.congr (fun k => if_pos rfl) ?_
    refine Tot.bind (Q := fun t => t = true) (Tot.ge true 1001 (fun k hk => by rw [arePins_eq _ (by omega) k (by omega), g8]) rfl) (fun t ht => ?_)
    subst ht
    exact Tot.congr (fun k => if_pos rfl) (law_j5 l hl)
  · exact Tot.congr (fun k => if_neg h) (law_j5 l hl)
theorem turn_again {l : List S33} {s b : Int} (h : tuGood l s b = true) : tuOut (pSort (l.map (turnP s b))) s ((360 - b) % 360) = (l, true) := by
  obtain ⟨g1, g2, g3, g4, g5, hb, nd, g8⟩ := tu_facts h
  unfold tuOut
  have hg : tuGood (pSort (l.map (turnP s b))) s ((360 - b) % 360) = true := by
    unfold tuGood
    rw [g8, Bool.true_and]
    exact decide_eq_true ⟨g4, by omega⟩
  rw [if_pos hg, back_sort g2 hb]
theorem law_l0 (x1 : List Int) (hx : Bytes x1) {l : List S33} {s b : Int} (h : tuGood l s b = true) (d : Nat) : ∀ i : Nat, i + d = (partP l s true).length →
    Tot (fun k => laws_FnPins.l0 k x1 s b (pSort (l.map (turnP s b))) (partP l s true) (partP l s true).length i) (fun r => r = true) := by
  obtain ⟨g1, g2, g3, g4, g5, hb, nd, g8⟩ := tu_facts h
  have hlen : (pSort (l.map (turnP s b))).length ≤ 60 := by rw [pSort_length, List.length_map]; exact g3
  have hpl := part_le l s true
  induction d with
  | zero =>
    intro i hi
    exact Tot.step (h := fun k => laws_FnPins.j3 k x1) (fun k => by rw [laws_FnPins.l0, if_neg (by omega)]) (law_j3 x1 hx)
  | succ d ih =>
    intro i hi
    have hi' : i < (partP l s true).length := by omega
    have hm : (partP l s true)[i] ∈ partP l s true := List.getElem_mem hi'
    have hml : (partP l s true)[i] ∈ l := by
      have := List.mem_filter.1 (show (partP l s true)[i] ∈ l.filter _ from hm)
      exact this.1
    have hf := pin_f1 (g1 _ hml)
    have hp := play_turned s b hm
    refine Tot.step (fun k => by rw [laws_FnPins.l0, if_pos (by omega), if_pos (by omega), if_pos (by omega), rdP_get _ i hi', tmod360 (by omega), w_suc i (by omega)]) ?_
    refine Tot.bind (Q := fun r => r = (playL (pSort (l.map (turnP s b))) s (((partP l s true)[i].f1 + b) % 360), true)) (Tot.ge _ 3000 (fun k hk => ?_) rfl) (fun r hr => ?_)
    · rw [(play_both _ (by omega) s _ k hk).1]
      unfold plOut
      have hg : plGood (pSort (l.map (turnP s b))) s (((partP l s true)[i].f1 + b) % 360) = true := by
        unfold plGood
        rw [g8, Bool.true_and]
        exact decide_eq_true ⟨g4, by omega⟩
      rw [if_pos hg]
    · subst hr
      have hle := playL_le (pSort (l.map (turnP s b))) s (((partP l s true)[i].f1 + b) % 360)
      refine Tot.congr (fun k => if_pos rfl) ?_
      refine Tot.bind (Q := fun t => t = true) (Tot.ge true 1001 (fun k hk => by dsimp only; rw [pIn_eq (playL (pSort (l.map (turnP s b))) s (((partP l s true)[i].f1 + b) % 360)) (by omega) _ k (by omega), decide_eq_true hp]) rfl) (fun t ht => ?_)
      subst ht
      exact Tot.congr (fun k => if_pos rfl) (ih (i + 1) (by omega))
theorem law_j0 (x1 : List Int) (hx : Bytes x1) (l : List S33) (hl : l.length ≤ 400) (s b : Int) : Tot (fun k => laws_FnPins.j0 k x1 l s b (tuOut l s b).1 (tuOut l s b).2 false) (fun r => r = true) := by
  refine Tot.step (fun k => by rw [laws_FnPins.j0, if_neg (by decide)]) ?_
  by_cases h : (tuOut l s b).2 = true
  · have hg : tuGood l s b = true := by
      unfold tuOut at h
      by_cases q : tuGood l s b = true
      · exact q
      · rw [if_neg q] at h; exact absurd h (by decide)
    obtain ⟨g1, g2, g3, g4, g5, hb, nd, g8⟩ := tu_facts hg
    have h0 := (pinsB_iff l).2 ⟨g1, g2, g3⟩
    have e : tuOut l s b = (pSort (l.map (turnP s b)), true) := by unfold tuOut; rw [if_pos hg]
    have hlen : (pSort (l.map (turnP s b))).length ≤ 60 := by rw [pSort_length, List.length_map]; exact g3
    have ho := part_others g2 s b (inj_of_back hb)
    have hpl := part_len l s
    have q1 := part_le l s true
    have q2 := part_le l s false
    rw [e]
    dsimp only
    refine Tot.congr (fun k => if_pos rfl) ?_
    rw [show Int.tmod (wrap64 (360 - b)) 360 = (360 - b) % 360 from tmod360 (by omega)]
    refine Tot.bind (Q := fun r => r = (l, true)) (Tot.ge _ 5000 (fun k hk => by rw [implTurn_eq _ (by omega) s _ k hk, turn_again hg]) rfl) (fun r hr => ?_)
    subst hr
    refine Tot.bind (Q := fun r => r = (partP l s true, true)) (Tot.ge _ 2000 (fun k hk => (tuneOf_both l (by omega) h0 s g4 k hk).1) rfl) (fun r hr => ?_)
    subst hr
    refine Tot.bind (Q := fun r => r = (partP l s true, true)) (Tot.ge _ 2000 (fun k hk => (tuneOf_both l (by omega) h0 s g4 k hk).2) rfl) (fun r hr => ?_)
    subst hr
    refine Tot.bind (Q := fun r => r = (partP l s false, true)) (Tot.ge _ 2000 (fun k hk => (without_both l (by omega) h0 s g4 k hk).1) rfl) (fun r hr => ?_)
    subst hr
    refine Tot.bind (Q := fun r => r = (partP l s false, true)) (Tot.ge _ 2000 (fun k hk => (without_both l (by omega) h0 s g4 k hk).2) rfl) (fun r hr => ?_)
    subst hr
    refine Tot.bind (Q := fun r => r = (partP l s false, true)) (Tot.ge _ 2000 (fun k hk => by rw [(without_both _ (by omega) g8 s g4 k hk).1, ho]) rfl) (fun r hr => ?_)
    subst hr
    dsimp only
    refine Tot.congr (fun k => if_pos rfl) ?_
    refine Tot.bind (Q := fun t => t = true) (Tot.ge true 1001 (fun k hk => pSamePins_self _ (by omega) k hk) rfl) (fun t ht => ?_)
    subst ht
    refine Tot.congr (fun k => (if_pos rfl).trans ((if_pos rfl).trans (if_pos rfl))) ?_
    refine Tot.bind (Q := fun t => t = true) (Tot.ge true 1001 (fun k hk => pSamePins_self _ (by omega) k hk) rfl) (fun t ht => ?_)
    subst ht
    refine Tot.congr (fun k => (if_pos rfl).trans ((if_pos rfl).trans (if_pos rfl))) ?_
    refine Tot.bind (Q := fun t => t = true) (Tot.ge true 1001 (fun k hk => pSamePins_self _ (by omega) k hk) rfl) (fun t ht => ?_)
    subst ht
    refine Tot.congr (fun k => (if_pos rfl).trans ((if_pos (by rw [w64 (by omega)]; omega)).trans (if_pos rfl))) ?_
    refine Tot.bind (Q := fun t => t = true) (Tot.ge true 1001 (fun k hk => pSamePins_self _ (by omega) k hk) rfl) (fun t ht => ?_)
    subst ht
    refine Tot.congr (fun k => if_pos rfl) ?_
    refine Tot.bind (Q := fun t => t = true) (Tot.ge true 1001 (fun k hk => by rw [arePins_eq _ (by omega) k (by omega), g8]) rfl) (fun t ht => ?_)
    subst ht
    refine Tot.step (h := fun k => laws_FnPins.l0 k x1 s b (pSort (l.map (turnP s b))) (partP l s true) (partP l s true).length ((0 : Nat) : Int)) (fun k => by rw [laws_FnPins.j1, if_neg (by decide)]; rfl) ?_
    exact law_l0 x1 hx hg (partP l s true).length 0 (by omega)
  · exact Tot.congr (fun k => if_neg h) (law_j3 x1 hx)

theorem u8_wf (l : List Int) (h : ∀ x ∈ l, (Lit.int .u8 x).wf = true) : ∀ x ∈ l, 0 ≤ x ∧ x ≤ 255 := fun x hx => by
  have := h x hx
  simpa [Lit.wf, IntKind.min, IntKind.max, IntKind.signed, IntKind.bits] using this
theorem FnPins : laws_FnPins.Pure := by
  intro l0 l1 m0 _ w0 m1 _ w1
  unfold maxLen at m0 m1
  by_cases hb : (l0.length : Int) > 1048576
  · refine ⟨0, ?_⟩
    unfold laws_FnPins.f laws_big.f
    rw [if_pos hb]
    rfl
  · by_cases hc : (l1.length : Int) > wrap64 (1048576 - (l0.length : Int))
    · refine ⟨0, ?_⟩
      unfold laws_FnPins.f laws_big.f
      rw [if_neg hb]
      simp only [Option.bind_some]
      rw [if_pos (decide_eq_true hc)]
    · have hc' := hc
      rw [w64 (by omega)] at hc'
      have b0 : Bytes l0 := ⟨by omega, u8_wf l0 w0⟩
      have b1 : Bytes l1 := ⟨by omega, u8_wf l1 w1⟩
      have key : Tot (fun k => laws_FnPins.f k l0 l1) (fun r => r = true) := by
        refine Tot.congr (h := fun k => (spec_DrawTurnTune.f k l0).bind fun ca => ((impl_TurnTune.f k ca.1 ca.2.1 ca.2.2).bind fun ef => ((spec_TurnTune.f k ca.1 ca.2.1 ca.2.2).bind fun gw => (if (ef.2 != gw.2) = true then (laws_FnPins.j0 k l1 ca.1 ca.2.1 ca.2.2 ef.1 ef.2 true) else ((laws_pSamePins.f k ef.1 gw.1).bind fun m5 => (laws_FnPins.j0 k l1 ca.1 ca.2.1 ca.2.2 ef.1 ef.2 (!m5))))))) (fun k => ?_) ?_
        · unfold laws_FnPins.f laws_big.f
          rw [if_neg hb]
          simp only [Option.bind_some]
          rw [if_neg (by simpa using hc)]
        refine Tot.bind (drawTurn_tot l0 b0) (fun q hq => ?_)
        obtain ⟨x, s, b⟩ := q
        have hx : x.length ≤ 400 := hq
        have hto := tu_big (a := s) (b := b) hx
        refine Tot.bind (Q := fun t => t = tuOut x s b) (Tot.ge _ 5000 (fun k hk => implTurn_eq x (by omega) s b k hk) rfl) (fun t ht => ?_)
        subst ht
        obtain ⟨K, hK⟩ := specTurn_eq x (by omega) s b
        refine Tot.bind (Q := fun t => t = tuOut x s b) (Tot.ge _ K (fun k hk => hK k hk) rfl) (fun t ht => ?_)
        subst ht
        refine Tot.congr (fun k => if_neg (by simp)) ?_
        refine Tot.bind (Q := fun t => t = true) (Tot.ge true 1001 (fun k hk => pSamePins_self _ (by omega) k hk) rfl) (fun t ht => ?_)
        subst ht
        exact law_j0 l1 b1 x hx s b
      obtain ⟨r, hr, K, hK⟩ := key
      exact ⟨K, (hK K (Nat.le_refl _)).trans (by rw [hr])⟩
end Go.Proofs.YtdipcpcbclobpaaDoor.Pure
