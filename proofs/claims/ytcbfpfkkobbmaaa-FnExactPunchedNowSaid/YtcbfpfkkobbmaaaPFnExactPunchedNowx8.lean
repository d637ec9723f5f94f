-- written by a program of this session: the kit's print, with outer functions of the session's own (wip/ext)
import Derived.Test.YtcbfpfkkobbmaaaPFnExactPunchedNowx0
import Derived.Test.YtcbfpfkkobbmaaaPFnExactPunchedNowx6
import Derived.Test.YtcbfpfkkobbmaaaPFnExactPunchedNowx7
namespace Go.Proofs.Ytcbfpfkkobbmaaa.PFnExactPunchedNow
open Go.RowKit Go.Proofs.YtcbfpfkkobbmaaaW.PrintWords Go.Proofs.YtcbfpfkkobbmaaaW.PrintLast Go.Proofs.YtcbfpfkkobbmaaaW.PrintMore
attribute [local go_sem] max2_int min2_int max_two min_two max_three min_three max_four min_four   -- for this text's walks alone
set_option linter.unusedVariables false
set_option linter.unusedSimpArgs false

/-! ### slices_Clone_Hole: function 63: by this session -/
def slices_Clone_Hole.f (l0 : List (S58)) : Option (List (S58)) := if l0.length ≤ 5864062014805 then some l0 else none
set_option maxHeartbeats 8000000 in
set_option maxRecDepth 100000 in
theorem slices_Clone_Hole.calls (A0 : Option Addr) (c0 : Nat) (l0 : List (S58)) (r : List (S58)) (w : World) (hr0 : Kd.C k58 w A0 l0.length l0) (hc0 : l0.length ≤ c0) (h : slices_Clone_Hole.f l0 = some r) :
  Calls Try.prog 63 #[.slice A0 l0.length c0] w fun e w' => ∃ v0_ : Value, e = .returned (v0_) ∧ Kd.R k58 58 w' w.heap.size (fun _ => True) v0_ r ∧ Below w.heap.size w w' := by
 have hn : l0.length ≤ 5864062014805 ∧ l0 = r := by
  unfold slices_Clone_Hole.f at h
  split at h
  ·exact ⟨by assumption, Option.some.inj h⟩
  ·cases h
 obtain ⟨hn, rfl⟩ := hn
 clear h
 have hq : ∀ (w : World) (a : Option Addr) (n c n' c' : Nat), (binOp .eql 24 (.slice a n c) (.slice none n' c')).run Try.prog w = .ok (.bool a.isNone) w := fun w a n c n' c' => Lib.run_eql_slice_nil w _ _ a n c n' c' Try.underlying24
 have HC := Aside0.mk hr0
 have HN := Aside0.mk hn
 have HB := Aside0.mk (Below.refl w.heap.size w)
 clear hr0 hn
 rcases A0 with _ | ad
 ·have h0 : l0 = [] := by
   cases l0 with
   | nil => rfl
   | cons x xs =>
    obtain ⟨ad, h, _⟩ := HC.out.2.2 (by simp)
    cases h
  subst h0
  clear HC HN
  go_enter Try.func63, Try.ntmps63
  go_wp2
  go_ret
  exact ⟨_, rfl, Kd.R_nil _ _ _ _ _, Below.refl _ _⟩
 ·go_enter Try.func63, Try.ntmps63
  go_wp2_with (at_builtin; refine Kd.R_append_rows k58 (w0 := w) w.heap.size rfl _ _ 24 58 (.agg #[(.int .i64 0), (.int .i64 0), (.int .i64 0)]) 24 rfl Try.underlying24 (by kernel_rfl) rfl (by decide) (by omega) (.slice (some ⟨w.heap.size, 0, none⟩) 0 0) [] l0 _ _ _ (fun _ => True) (fun _ => False) rfl rfl ?aO ?aR (fun _ _ h => h) (fun _ h => h.elim) ?aF ?aB ?aS ?aL ?_)
  case aO => exact ⟨fun _ _ => trivial, [], World.ownsRow_made w #[] 0 (Nat.le_refl _) (Nat.zero_le _) (by simp), Reps.none _ _⟩
  case aR => exact Kd.C_alloc HC.out _
  case aF => exact fun _ _ => trivial
  case aB => exact below_alloc (Below.refl _ _) _
  case aS => simp
  case aL => have := HN.out; simp only [List.length_nil]; omega
  intro v1 w1 ho hb hg hat
  go_wp2
  go_ret
  exact ⟨_, rfl, ho, hb⟩

/-! ### impl_sheetOf_1: function 64 -/
def impl_sheetOf_1.f (a0 : Int) (a1 : Int) (l2 : List (S58)) : Option (Bool) := if 0 ≤ a0 then (if a0 < (l2.length : Int) then (if 0 ≤ a1 then (if a1 < (l2.length : Int) then ((impl_holeLess.f ((rd_T58 l2 a0).f0) ((rd_T58 l2 a0).f1) ((rd_T58 l2 a0).f2) ((rd_T58 l2 a1).f0) ((rd_T58 l2 a1).f1) ((rd_T58 l2 a1).f2)).bind fun t278 => (some t278)) else (none)) else (none)) else (none)) else (none)
def impl_sheetOf_1.T1 : Bool × List (List Nat × List Nat) := (true, [([], []), ([], []), ([0, 1], [0, 1]), ([2], [2]), ([], []), ([], []), ([4, 5], [4, 5]), ([6], [6]), ([3, 7], [3, 7]), ([8, 8, 0, 1, 2, 3, 4, 5, 6, 7, 8], [8])])
def impl_sheetOf_1.B1 : List Nat := [0, 0, 3, 7, 0, 0, 48, 112, 255, 511]
theorem impl_sheetOf_1.tab1 : rtab .any (opsOf Try.f64 1) = impl_sheetOf_1.T1 := by kernel_rfl
theorem impl_sheetOf_1.bits1 : waitsOk impl_sheetOf_1.T1.2 impl_sheetOf_1.B1 = true := by kernel_rfl
set_option maxHeartbeats 8000000 in
set_option maxRecDepth 100000 in
theorem impl_sheetOf_1.calls (a0 : Int) (a1 : Int) (p2 : Nat) (A2 : Option Addr) (c2 : Nat) (l2 : List (S58)) (r : Bool) (w : World) (hr2 : Kd.C k58 w A2 l2.length l2) (hc2 : l2.length ≤ c2) (hb2 : w.heap[p2]? = some (.cells #[.slice A2 l2.length c2] 24 (0, 0))) (h : impl_sheetOf_1.f a0 a1 l2 = some r) :
  Calls Try.prog 64 #[.int .i64 a0, .int .i64 a1, .pointer (some ⟨p2, 0, none⟩)] w fun e w' => e = .returned (.bool r) ∧ Below w.heap.size w w' := by
 have hu24 := Try.underlying24
 have hu58 := Try.underlying58
 have HR2 := Aside0.mk hr2
 have HC2 := Aside0.mk hc2
 clear hr2 hc2
 have HB := Aside0.mk (Below.refl w.heap.size w)
 have BK275 := Aside0.mk hb2
 clear hb2
 have H : (if 0 ≤ a0 then (if a0 < (l2.length : Int) then (if 0 ≤ a1 then (if a1 < (l2.length : Int) then ((impl_holeLess.f ((rd_T58 l2 a0).f0) ((rd_T58 l2 a0).f1) ((rd_T58 l2 a0).f2) ((rd_T58 l2 a1).f0) ((rd_T58 l2 a1).f1) ((rd_T58 l2 a1).f2)).bind fun t278 => (some t278)) else (none)) else (none)) else (none)) else (none)) = some r := h
 clear h
 by_cases c4 : 0 ≤ a0
 ·rw [if_pos c4] at H
  have c4b0 : decide (0 ≤ a0) = true := decide_eq_true c4
  clear c4
  by_cases c5 : a0 < (l2.length : Int)
  ·rw [if_pos c5] at H
   have c5b0 : decide (a0 < (l2.length : Int)) = true := decide_eq_true c5
   clear c5
   by_cases c6 : 0 ≤ a1
   ·rw [if_pos c6] at H
    have c6b0 : decide (0 ≤ a1) = true := decide_eq_true c6
    clear c6
    by_cases c7 : a1 < (l2.length : Int)
    ·rw [if_pos c7] at H
     have c7b0 : decide (a1 < (l2.length : Int)) = true := decide_eq_true c7
     clear c7
     replace H := Option.bind_eq_some_iff.mp H
     obtain ⟨t278, A80, H⟩ := H
     replace H : (some t278) = some r := H
     have A8 := Aside0.mk A80
     clear A80
     obtain rfl := Option.some.inj H
     go_enter Try.func64, Try.ntmps64
     try go_wp2
     have n0_ := Aside0.mk (blk_drew BK275.out)
     have n1_ := Aside0.mk (below_drew1 HB.out)
     clear BK275
     clear HB
     have BK275 := n0_
     have HB := n1_
     clear n0_ n1_
     have p276 : 0 ≤ (a0 : Int) := of_decide_eq_true (by first | (with_reducible assumption) | assumption)
     have q276 : a0 < (l2.length : Int) := of_decide_eq_true (by first | (with_reducible assumption) | assumption)
     obtain ⟨ad276, e276, hx276_0, hx276_1, hx276_2⟩ := at_T58 HR2.out a0 p276 q276
     have hw276_2 := hx276_2
     have hw276_1 := hx276_1
     have hw276_0 := hx276_0
     cases e276
     replace hx276_0 := (HB.out.cell (World.block_lt_of_cell? w _ hx276_0)).trans hx276_0
     replace hx276_1 := (HB.out.cell (World.block_lt_of_cell? w _ hx276_1)).trans hx276_1
     replace hx276_2 := (HB.out.cell (World.block_lt_of_cell? w _ hx276_2)).trans hx276_2
     replace p276 := eq_true p276
     replace q276 := eq_true q276
     have p277 : 0 ≤ (a1 : Int) := of_decide_eq_true (by first | (with_reducible assumption) | assumption)
     have q277 : a1 < (l2.length : Int) := of_decide_eq_true (by first | (with_reducible assumption) | assumption)
     obtain ⟨ad277, e277, hx277_0, hx277_1, hx277_2⟩ := at_T58 HR2.out a1 p277 q277
     have hw277_2 := hx277_2
     have hw277_1 := hx277_1
     have hw277_0 := hx277_0
     obtain rfl : ad276 = ad277 := (by injection e277)
     replace hx277_0 := (HB.out.cell (World.block_lt_of_cell? w _ hx277_0)).trans hx277_0
     replace hx277_1 := (HB.out.cell (World.block_lt_of_cell? w _ hx277_1)).trans hx277_1
     replace hx277_2 := (HB.out.cell (World.block_lt_of_cell? w _ hx277_2)).trans hx277_2
     replace p277 := eq_true p277
     replace q277 := eq_true q277
     refine start_ (n := 10) (S := fun w' => w'.cell? ⟨p2, 0, none⟩ = some (.slice (some ad276) l2.length c2) ∧ w'.cell? (ad276.add ((a0).toNat * 3)) = some (.int .i64 ((rd_T58 l2 a0).f0)) ∧ w'.cell? ⟨(ad276.add ((a0).toNat * 3)).block, (ad276.add ((a0).toNat * 3)).off + 1, none⟩ = some (.int .i64 ((rd_T58 l2 a0).f1)) ∧ w'.cell? ⟨(ad276.add ((a0).toNat * 3)).block, (ad276.add ((a0).toNat * 3)).off + 2, none⟩ = some (.int .i64 ((rd_T58 l2 a0).f2)) ∧ w'.cell? (ad276.add ((a1).toNat * 3)) = some (.int .i64 ((rd_T58 l2 a1).f0)) ∧ w'.cell? ⟨(ad276.add ((a1).toNat * 3)).block, (ad276.add ((a1).toNat * 3)).off + 1, none⟩ = some (.int .i64 ((rd_T58 l2 a1).f1)) ∧ w'.cell? ⟨(ad276.add ((a1).toNat * 3)).block, (ad276.add ((a1).toNat * 3)).off + 2, none⟩ = some (.int .i64 ((rd_T58 l2 a1).f2))) (ds := []) #[false, false, false, false, false, false, false, false, false, false] (by kernel_rfl) rfl rfl ⟨(blk_cell BK275.out 0).trans rfl, ((HB.out.cell (World.block_lt_of_cell? w _ hw276_0)).trans hw276_0), ((HB.out.cell (World.block_lt_of_cell? w _ hw276_1)).trans hw276_1), ((HB.out.cell (World.block_lt_of_cell? w _ hw276_2)).trans hw276_2), ((HB.out.cell (World.block_lt_of_cell? w _ hw277_0)).trans hw277_0), ((HB.out.cell (World.block_lt_of_cell? w _ hw277_1)).trans hw277_1), ((HB.out.cell (World.block_lt_of_cell? w _ hw277_2)).trans hw277_2)⟩ (fun hHeld => ?_); refine with_tabW impl_sheetOf_1.tab1 impl_sheetOf_1.bits1 (fun HT_ HW_ => ?_)
     generalize w.drew = w9 at BK275 HB hx276_0 hx276_1 hx276_2 hx277_0 hx277_1 hx277_2 hHeld ⊢
     refine pure_ (i := 1) (N := some 7) (v := ?_) (a' := ?_) #[false, true, false, false, false, false, false, false, false, false] rfl rfl (any_of HT_.out (by kernel_rfl)) (fun _ _ _ h => h) (Or.inl ⟨by rfl, ?_⟩) ?_ ?_
     rotate_left
     ·intro w'
      go_simp
      with_reducible rfl
     rotate_left
     ·simp only [Act.put, List.setIfInBounds_toArray, List.set_cons_zero, List.set_cons_succ, i64_w, i32_w]
      rfl
     refine pure_ (i := 5) (N := some 11) (v := ?_) (a' := ?_) #[false, true, false, false, false, true, false, false, false, false] rfl rfl (any_of HT_.out (by kernel_rfl)) (fun _ _ _ h => h) (Or.inl ⟨by rfl, ?_⟩) ?_ ?_
     rotate_left
     ·intro w'
      go_simp
      with_reducible rfl
     rotate_left
     ·simp only [Act.put, List.setIfInBounds_toArray, List.set_cons_zero, List.set_cons_succ, i64_w, i32_w]
      rfl
     refine take_ (i := 0) (N := some 6) (v := ?_) (a' := ?_) #[true, true, false, false, false, true, false, false, false, false] rfl rfl (take_ofW HT_.out HW_.out (by kernel_rfl)) (fun _ _ _ h => h) (Or.inl ⟨by rfl, ?_⟩) hHeld ?_ ?_
     rotate_left
     ·rintro w' ⟨s0, s1, s2, s3, s4, s5, s6⟩
      go_simp
      with_reducible rfl
     rotate_left
     ·simp only [Act.put, List.setIfInBounds_toArray, List.set_cons_zero, List.set_cons_succ, i64_w, i32_w]
      rfl
     refine pure_ (i := 2) (N := some 8) (v := ?_) (a' := ?_) #[true, true, true, false, false, true, false, false, false, false] rfl rfl (any_of HT_.out (by kernel_rfl)) (fun _ _ _ h => h) (Or.inl ⟨by rfl, ?_⟩) ?_ ?_
     rotate_left
     ·intro w'
      go_simp
      with_reducible rfl
     rotate_left
     ·simp only [Act.put, List.setIfInBounds_toArray, List.set_cons_zero, List.set_cons_succ, i64_w, i32_w]
      rfl
     refine take_ (i := 3) (N := some 9) (v := ?_) (a' := ?_) #[true, true, true, true, false, true, false, false, false, false] rfl rfl (take_ofW HT_.out HW_.out (by kernel_rfl)) (fun _ _ _ h => h) (Or.inl ⟨by rfl, ?_⟩) hHeld ?_ ?_
     rotate_left
     ·rintro w' ⟨s0, s1, s2, s3, s4, s5, s6⟩
      go_simp
      with_reducible rfl
     rotate_left
     ·simp only [Act.put, List.setIfInBounds_toArray, List.set_cons_zero, List.set_cons_succ, i64_w, i32_w]
      rfl
     refine take_ (i := 4) (N := some 10) (v := ?_) (a' := ?_) #[true, true, true, true, true, true, false, false, false, false] rfl rfl (take_ofW HT_.out HW_.out (by kernel_rfl)) (fun _ _ _ h => h) (Or.inl ⟨by rfl, ?_⟩) hHeld ?_ ?_
     rotate_left
     ·rintro w' ⟨s0, s1, s2, s3, s4, s5, s6⟩
      go_simp
      with_reducible rfl
     rotate_left
     ·simp only [Act.put, List.setIfInBounds_toArray, List.set_cons_zero, List.set_cons_succ, i64_w, i32_w]
      rfl
     refine pure_ (i := 6) (N := some 12) (v := ?_) (a' := ?_) #[true, true, true, true, true, true, true, false, false, false] rfl rfl (any_of HT_.out (by kernel_rfl)) (fun _ _ _ h => h) (Or.inl ⟨by rfl, ?_⟩) ?_ ?_
     rotate_left
     ·intro w'
      go_simp
      with_reducible rfl
     rotate_left
     ·simp only [Act.put, List.setIfInBounds_toArray, List.set_cons_zero, List.set_cons_succ, i64_w, i32_w]
      rfl
     refine take_ (i := 7) (N := some 13) (v := ?_) (a' := ?_) #[true, true, true, true, true, true, true, true, false, false] rfl rfl (take_ofW HT_.out HW_.out (by kernel_rfl)) (fun _ _ _ h => h) (Or.inl ⟨by rfl, ?_⟩) hHeld ?_ ?_
     rotate_left
     ·rintro w' ⟨s0, s1, s2, s3, s4, s5, s6⟩
      go_simp
      with_reducible rfl
     rotate_left
     ·simp only [Act.put, List.setIfInBounds_toArray, List.set_cons_zero, List.set_cons_succ, i64_w, i32_w]
      rfl
     refine one_ (i := 8) (N := some 14) #[true, true, true, true, true, true, true, true, true, false] rfl rfl (one_of HT_.out (by kernel_rfl)) (by decide) (fun K hK => ?_)
     refine goes_ Try.func65 (by kernel_rfl) rfl #[.agg #[.int .i64 ((rd_T58 l2 a0).f0), .int .i64 ((rd_T58 l2 a0).f1), .int .i64 ((rd_T58 l2 a0).f2)], .agg #[.int .i64 ((rd_T58 l2 a1).f0), .int .i64 ((rd_T58 l2 a1).f1), .int .i64 ((rd_T58 l2 a1).f2)]] (by rfl) rfl rfl (by (try simp only [List.map_toArray, List.map_cons, List.map_nil]); first | done | rfl | (simp only [List.length_drop, List.length_take]; rfl)) ?_
     with_reducible refine (impl_holeLess.calls ((rd_T58 l2 a0).f0) ((rd_T58 l2 a0).f1) ((rd_T58 l2 a0).f2) ((rd_T58 l2 a1).f0) ((rd_T58 l2 a1).f1) ((rd_T58 l2 a1).f2) t278 _ A8.out).mono ?_
     rintro e w10 ⟨rfl, hb⟩
     refine ⟨_, rfl, ?_⟩
     have n0_ := Aside0.mk (blk_below (g := p2) (o := .cells #[.slice (some ad276) l2.length c2] 24 (0, 0)) (by (with_reducible repeat (first | refine blk_drewN ?_ _ | refine blk_drew ?_ | refine blk_alloc ?_ _)); exact BK275.out) hb)
     have n1_ := Aside0.mk (below_step (by repeat (first | (with_reducible first | exact HB.out | apply below_alloc | apply pw_below_drewN | apply below_drew1 | refine below_set ?_ GE275.out) | exact HB.out)) hb)
     clear BK275
     clear HB
     have BK275 := n0_
     have HB := n1_
     clear n0_ n1_
     (try clear hb)
     (try clear hb2)
     (try clear hk)
     (try clear hi)
     refine hK.out _ _ ⟨(blk_cell BK275.out 0).trans rfl, ((HB.out.cell (World.block_lt_of_cell? w _ hw276_0)).trans hw276_0), ((HB.out.cell (World.block_lt_of_cell? w _ hw276_1)).trans hw276_1), ((HB.out.cell (World.block_lt_of_cell? w _ hw276_2)).trans hw276_2), ((HB.out.cell (World.block_lt_of_cell? w _ hw277_0)).trans hw277_0), ((HB.out.cell (World.block_lt_of_cell? w _ hw277_1)).trans hw277_1), ((HB.out.cell (World.block_lt_of_cell? w _ hw277_2)).trans hw277_2)⟩ (fun hHeld => ?_)
     clear hK K
     refine norm_ (a' := ?_) ?_ ?_
     rotate_left
     ·show Act.put _ (some 14) _ = _
      simp only [Act.put, List.setIfInBounds_toArray, List.set_cons_zero, List.set_cons_succ, i64_w, i32_w]
      rfl
     refine pure_ (i := 9) (N := some 5) (v := ?_) (a' := ?_) #[true, true, true, true, true, true, true, true, true, true] rfl rfl (any_of HT_.out (by kernel_rfl)) (fun _ _ _ h => h) (Or.inl ⟨by rfl, ?_⟩) ?_ ?_
     rotate_left
     ·intro w'
      go_simp
      with_reducible rfl
     rotate_left
     ·simp only [Act.put, List.setIfInBounds_toArray, List.set_cons_zero, List.set_cons_succ, i64_w, i32_w]
      rfl
     refine done_ (done_of HT_.out (by kernel_rfl)) ?_
     try go_wp2
     go_ret
     exact ⟨by first | rfl | (simp [errW_none, errW_some] <;> rfl) | (simp [*, errW_none, errW_some] <;> rfl), by repeat (first | (with_reducible first | exact HB.out | apply below_alloc | apply pw_below_drewN | apply below_drew1 | refine below_set ?_ GE275.out) | exact HB.out)⟩
    ·rw [if_neg c7] at H
     exact absurd H (by simp)
   ·rw [if_neg c6] at H
    exact absurd H (by simp)
  ·rw [if_neg c5] at H
   exact absurd H (by simp)
 ·rw [if_neg c4] at H
  exact absurd H (by simp)

/-- A state of type 58 at block g of W; what its slices lead to came in by w0. -/
def IsS58 (w0 W : World) (g : Nat) (f0 : Int) (f1 : Int) (f2 : Int) : Prop := W.heap[g]? = some (.cells #[.int .i64 f0, .int .i64 f1, .int .i64 f2] 58 (0, 0)) ∧ w0.heap.size ≤ g
theorem IsS58.grown {w0 W : World} {g : Nat} {f0 : Int} {f1 : Int} {f2 : Int} {W1 : World} {row : Option Nat} (h : IsS58 w0 W g f0 f1 f2) (hw : W.grownBy W1 row) (hne : some g ≠ row) : IsS58 w0 W1 g f0 f1 f2 := by
 obtain ⟨hb, hg⟩ := h
 exact ⟨blk_grown hb hw hne, hg⟩
theorem IsS58.own_neN {w0 W : World} {g : Nat} {f0 : Int} {f1 : Int} {f2 : Int} {α : Type} {d : Kd α} {e : Nat} {base : Nat} {ok : Nat → Prop} {v : Value} {xs : List α} (h : IsS58 w0 W g f0 f1 f2) (ho : Kd.N d e W base ok v xs) (ht : e ≠ 58) : some g ≠ v.ownBlock := by
 obtain ⟨hb, hg⟩ := h
 exact Kd.N_ne ho hb ht
theorem IsS58.fresh {w0 W : World} {g : Nat} {f0 : Int} {f1 : Int} {f2 : Int} (h : IsS58 w0 W g f0 f1 f2) : ∀ k, W.heap.size ≤ k → k ≠ g := by
 obtain ⟨hb, hg⟩ := h
 exact Kd.freshB hb
theorem IsS58.kept {w0 W : World} {g : Nat} {f0 : Int} {f1 : Int} {f2 : Int} {W1 : World} {S : Nat → Prop} (h : IsS58 w0 W g f0 f1 f2) (hk : Kept W W1 S) (hne : ¬ S g) : IsS58 w0 W1 g f0 f1 f2 := by
 obtain ⟨hb, hg⟩ := h
 exact ⟨blk_kept hb hk hne, hg⟩
theorem IsS58.below {w0 W : World} {g : Nat} {f0 : Int} {f1 : Int} {f2 : Int} {W1 : World} (h : IsS58 w0 W g f0 f1 f2) (hw : Below W.heap.size W W1) : IsS58 w0 W1 g f0 f1 f2 := h.grown (grown_of_below hw none) (by simp)
theorem IsS58.alloc {w0 W : World} {g : Nat} {f0 : Int} {f1 : Int} {f2 : Int} (h : IsS58 w0 W g f0 f1 f2) (o : Obj) : IsS58 w0 (W.alloc o) g f0 f1 f2 := h.below (below_alloc (Below.refl _ _) o)
theorem IsS58.drewN {w0 W : World} {g : Nat} {f0 : Int} {f1 : Int} {f2 : Int} (h : IsS58 w0 W g f0 f1 f2) (m : Nat) : IsS58 w0 (W.drewN m) g f0 f1 f2 := h
theorem IsS58.drew {w0 W : World} {g : Nat} {f0 : Int} {f1 : Int} {f2 : Int} (h : IsS58 w0 W g f0 f1 f2) : IsS58 w0 W.drew g f0 f1 f2 := h
theorem IsS58.at_ {w0 W : World} {g : Nat} {f0 : Int} {f1 : Int} {f2 : Int} {w' : World} {m : Nat} (hq : W.drewN m = w') (h : IsS58 w0 W g f0 f1 f2) : IsS58 w0 w' g f0 f1 f2 := by subst hq; exact IsS58.drewN h m
theorem IsS58.apart {w0 W : World} {g : Nat} {f0 : Int} {f1 : Int} {f2 : Int} {α : Type} {d : Kd α} {e : Nat} {base : Nat} {ok : Nat → Prop} {v : Value} {xs : List α} (h : IsS58 w0 W g f0 f1 f2) (ho : d.R e W base ok v xs) (ht : ∀ q, q ∈ e :: d.E → q ≠ 58) : d.R e W base (fun k => ok k ∧ k ≠ g) v xs := by
 obtain ⟨hb, hg⟩ := h
 exact Kd.R_types ho hb ht
theorem IsS58.own_ne {w0 W : World} {g : Nat} {f0 : Int} {f1 : Int} {f2 : Int} {α : Type} {d : Kd α} {e : Nat} {base : Nat} {ok : Nat → Prop} {v : Value} {xs : List α} (h : IsS58 w0 W g f0 f1 f2) (ho : d.R e W base ok v xs) (ht : e ≠ 58) : some g ≠ v.ownBlock := by
 obtain ⟨hb, hg⟩ := h
 exact Kd.R_ne ho hb ht
theorem IsS58.apartQ {w0 W : World} {g : Nat} {f0 : Int} {f1 : Int} {f2 : Int} {α : Type} {d : Kd α} {e : Nat} {base : Nat} {ok : Nat → Prop} {v : Value} {xs : List α} (h : IsS58 w0 W g f0 f1 f2) (ho : d.Q e W base ok v xs) (ht : ∀ q, q ∈ e :: d.E → q ≠ 58) : d.Q e W base (fun k => ok k ∧ k ≠ g) v xs := by
 obtain ⟨hb, hg⟩ := h
 exact Kd.Q_types ho hb ht
theorem IsS58.own_neQ {w0 W : World} {g : Nat} {f0 : Int} {f1 : Int} {f2 : Int} {α : Type} {d : Kd α} {e : Nat} {base : Nat} {ok : Nat → Prop} {v : Value} {xs : List α} (h : IsS58 w0 W g f0 f1 f2) (ho : d.Q e W base ok v xs) (ht : e ≠ 58) : some g ≠ v.ownBlock := by
 obtain ⟨hb, hg⟩ := h
 exact Kd.Q_ne ho hb ht
theorem IsS58.apartS {w0 W : World} {g : Nat} {f0 : Int} {f1 : Int} {f2 : Int} {α : Type} {d : Kd α} {e : Nat} {base : Nat} {ok : Nat → Prop} {v : Value} {xs : List α} (h : IsS58 w0 W g f0 f1 f2) (ho : d.S e W base ok v xs) (ht : ∀ q, q ∈ e :: d.E → q ≠ 58) : d.S e W base (fun k => ok k ∧ k ≠ g) v xs := by
 obtain ⟨hb, hg⟩ := h
 exact Kd.S_types ho hb ht
theorem IsS58.own_neS {w0 W : World} {g : Nat} {f0 : Int} {f1 : Int} {f2 : Int} {α : Type} {d : Kd α} {e : Nat} {base : Nat} {ok : Nat → Prop} {v : Value} {xs : List α} (h : IsS58 w0 W g f0 f1 f2) (ho : d.S e W base ok v xs) (ht : e ≠ 58) : some g ≠ v.ownBlock := by
 obtain ⟨hb, hg⟩ := h
 exact Kd.S_ne ho hb ht
theorem IsS58.lt {w0 W : World} {g : Nat} {f0 : Int} {f1 : Int} {f2 : Int} (h : IsS58 w0 W g f0 f1 f2) : g < W.heap.size := by
 obtain ⟨hb, hg⟩ := h
 exact blk_lt hb
theorem IsS58.ge {w0 W : World} {g : Nat} {f0 : Int} {f1 : Int} {f2 : Int} (h : IsS58 w0 W g f0 f1 f2) : w0.heap.size ≤ g := by
 obtain ⟨hb, hg⟩ := h
 exact hg
theorem IsS58.ne_blk {w0 W : World} {g : Nat} {f0 : Int} {f1 : Int} {f2 : Int} {a : Nat} {cs : Array Value} {t : TypeId} {fr : Nat × Nat} (h : IsS58 w0 W g f0 f1 f2) (hb2 : W.heap[a]? = some (.cells cs t fr)) (ht : t ≠ 58) : g ≠ a := by
 obtain ⟨hb, hg⟩ := h
 rintro rfl
 rw [hb] at hb2
 injection hb2 with hb2
 injection hb2 with _ ht2
 exact ht ht2.symm
theorem IsS58.far {w0 W : World} {g : Nat} {f0 : Int} {f1 : Int} {f2 : Int} {p : Addr} (h : IsS58 w0 W g f0 f1 f2) (hne : g ≠ p.block) (u : Value) : IsS58 w0 (W.setCell p u) g f0 f1 f2 := by
 obtain ⟨hb, hg⟩ := h
 exact ⟨blk_far hb hne u, hg⟩
theorem cellS58_0 {W : World} {g : Nat} {f0 : Int} {f1 : Int} {f2 : Int} (h : W.heap[g]? = some (.cells #[.int .i64 f0, .int .i64 f1, .int .i64 f2] 58 (0, 0))) : W.cell? ⟨g, 0, none⟩ = some (.int .i64 f0) := (blk_cell h 0).trans rfl
theorem IsS58.set_0 {w0 W : World} {g : Nat} {f0 : Int} {f1 : Int} {f2 : Int} (h : IsS58 w0 W g f0 f1 f2) (x : Int) : IsS58 w0 (W.setCell ⟨g, 0, none⟩ (.int .i64 x)) g x f1 f2 := by
 obtain ⟨hb, hg⟩ := h
 exact ⟨by simpa using blk_set hb 0 (.int .i64 x), hg⟩
theorem cellS58_1 {W : World} {g : Nat} {f0 : Int} {f1 : Int} {f2 : Int} (h : W.heap[g]? = some (.cells #[.int .i64 f0, .int .i64 f1, .int .i64 f2] 58 (0, 0))) : W.cell? ⟨g, 1, none⟩ = some (.int .i64 f1) := (blk_cell h 1).trans rfl
theorem IsS58.set_1 {w0 W : World} {g : Nat} {f0 : Int} {f1 : Int} {f2 : Int} (h : IsS58 w0 W g f0 f1 f2) (x : Int) : IsS58 w0 (W.setCell ⟨g, 1, none⟩ (.int .i64 x)) g f0 x f2 := by
 obtain ⟨hb, hg⟩ := h
 exact ⟨by simpa using blk_set hb 1 (.int .i64 x), hg⟩
theorem cellS58_2 {W : World} {g : Nat} {f0 : Int} {f1 : Int} {f2 : Int} (h : W.heap[g]? = some (.cells #[.int .i64 f0, .int .i64 f1, .int .i64 f2] 58 (0, 0))) : W.cell? ⟨g, 2, none⟩ = some (.int .i64 f2) := (blk_cell h 2).trans rfl
theorem IsS58.set_2 {w0 W : World} {g : Nat} {f0 : Int} {f1 : Int} {f2 : Int} (h : IsS58 w0 W g f0 f1 f2) (x : Int) : IsS58 w0 (W.setCell ⟨g, 2, none⟩ (.int .i64 x)) g f0 f1 x := by
 obtain ⟨hb, hg⟩ := h
 exact ⟨by simpa using blk_set hb 2 (.int .i64 x), hg⟩
theorem IsS58.new (w0 W : World) (f0 : Int) (f1 : Int) (f2 : Int) (hB : Below w0.heap.size w0 W) : IsS58 w0 (W.alloc (.cells #[.int .i64 f0, .int .i64 f1, .int .i64 f2] 58)) W.heap.size f0 f1 f2 := ⟨by simpa using heap_alloc_new W _, hB.size⟩
/-! ### impl_sheetOf: function 45: by this session -/
instance impl_sheetOf_inh : Inhabited S58 := ⟨z58⟩
def impl_holeLt (a b : S58) : Bool := decide (a.f1 < b.f1 ∨ (a.f1 = b.f1 ∧ a.f0 < b.f0))
theorem impl_holeLt.swo : Go.Sort.SWO impl_holeLt := by
 constructor
 ·intro x; unfold impl_holeLt; exact decide_eq_false (by omega)
 ·intro x y z h1 h2; unfold impl_holeLt at *; have := of_decide_eq_true h1; have := of_decide_eq_true h2; exact decide_eq_true (by omega)
 ·intro x y z h1 h2; unfold impl_holeLt at *; have := of_decide_eq_false h1; have := of_decide_eq_false h2; exact decide_eq_false (by omega)
/-- The row in order, where two that come before neither of them are the same. -/
def impl_sortHoles.f (l : List S58) : Option (List S58) := if l.length ≤ 8796093022208 ∧ ∀ a ∈ l, ∀ b ∈ l, impl_holeLt a b = false → impl_holeLt b a = false → a.f0 = b.f0 ∧ a.f1 = b.f1 ∧ a.f2 = b.f2 then some (l.mergeSort (fun a b => !impl_holeLt b a)) else none
theorem impl_sortHoles.uniq {l r ys : List S58} (h : impl_sortHoles.f l = some r) (hp : ys.Perm l) (hs : ys.Pairwise (fun a b => impl_holeLt b a = false)) : ys = r := by
 unfold impl_sortHoles.f at h
 split at h
 ·rename_i hc
  obtain rfl := Option.some.inj h
  have hO := impl_holeLt.swo
  have hm := List.mergeSort_perm l (fun a b => !impl_holeLt b a)
  have hq : (l.mergeSort (fun a b => !impl_holeLt b a)).Pairwise (fun a b => impl_holeLt b a = false) := by
   have := List.pairwise_mergeSort (le := fun a b => !impl_holeLt b a) (by
    intro a b c h1 h2
    simp only [Bool.not_eq_true'] at *
    exact hO.ntrans c b a h2 h1) (by
    intro a b
    simp only [Bool.or_eq_true, Bool.not_eq_true']
    by_cases h : impl_holeLt b a = true
    ·right
     cases h2 : impl_holeLt a b with
     | false => rfl
     | true => have := hO.trans a b a h2 h; rw [hO.irrefl] at this; cases this
    ·left; exact Bool.eq_false_iff.2 h) l
   exact this.imp (fun h => by simpa using h)
  refine order_unique (fun a b => impl_holeLt b a = false) ys _ (hp.trans hm.symm) hs hq (fun a ha b hb h1 h2 => ?_)
  have := hc.2 a (hp.mem_iff.1 ha) b (hp.mem_iff.1 hb) h2 h1
  obtain ⟨a0, a1, a2⟩ := a
  obtain ⟨b0, b1, b2⟩ := b
  simp only at this
  obtain ⟨rfl, rfl, rfl⟩ := this
  rfl
 ·cases h
theorem impl_sortHoles.short {l r : List S58} (h : impl_sortHoles.f l = some r) : l.length < 1152921504606846976 := by
 unfold impl_sortHoles.f at h
 split at h
 ·omega
 ·cases h
theorem impl_sheetOf_1.lt (i j : Nat) (l : List S58) (hi : i < l.length) (hj : j < l.length) : impl_sheetOf_1.f i j l = some (impl_holeLt l[i]! l[j]!) := by
 have e1 : rd_T58 l (i : Int) = l[i]! := by unfold rd_T58; rw [Int.toNat_natCast, List.getD_eq_getElem?_getD, List.getElem?_eq_getElem hi, getElem!_pos l i hi]; rfl
 have e2 : rd_T58 l (j : Int) = l[j]! := by unfold rd_T58; rw [Int.toNat_natCast, List.getD_eq_getElem?_getD, List.getElem?_eq_getElem hj, getElem!_pos l j hj]; rfl
 unfold impl_sheetOf_1.f
 rw [if_pos (by omega), if_pos (by omega), if_pos (by omega), if_pos (by omega), e1, e2]
 unfold impl_holeLess.f impl_holeLt
 split
 ·simp only [Option.bind_some, Option.some.injEq, decide_eq_decide]; omega
 ·simp only [Option.bind_some, Option.some.injEq, decide_eq_decide]; omega
noncomputable def impl_sheetOf.ie : TypeInfo := (Try.prog.info? 58).get (by kernel_rfl)
noncomputable def impl_sheetOf.it : TypeInfo := (Try.prog.info? 24).get (by kernel_rfl)
set_option maxHeartbeats 2000000 in
/-- sort.SliceStable with this closure, at a row of the call's own that a boxed variable holds. -/
theorem impl_sheetOf.sorts (xs zs : List S58) (A : Option Addr) (c : Nat) (gb base : Nat) (W : World) (hz : impl_sortHoles.f xs = some zs) (hR : Kd.R k58 58 W base (fun k_ => k_ ≠ gb) (.slice A xs.length c) xs)
  (hbx : W.heap[gb]? = some (.cells #[.slice A xs.length c] 24 (0, 0))) :
  Calls Try.prog 48 #[.iface 24 (.slice A xs.length c), .func (.func 64) #[] #[.pointer (some ⟨gb, 0, none⟩)]] W fun e' w' => e' = .returned (.tuple #[]) ∧
   xs.length = zs.length ∧ Kd.R k58 58 w' base (fun k_ => k_ ≠ gb) (.slice A zs.length c) zs ∧ w'.heap[gb]? = some (.cells #[.slice A zs.length c] 24 (0, 0)) ∧ W.grownBy w' (Value.ownBlock (.slice A xs.length c)) := by
 have hgb : gb < W.heap.size := (Array.getElem?_eq_some_iff.1 hbx).1
 have hne : some gb ≠ Value.ownBlock (.slice A xs.length c) := fun e => hR.1 gb e.symm rfl
 have hK : ∀ n, Lib.swapperK n impl_sheetOf.ie 25 = if n = 0 then 1 else if n = 1 then 2 else 9 := by
  intro n
  have a : impl_sheetOf.ie.hasPointers = false := by kernel_rfl
  have b : impl_sheetOf.ie.bytes = 24 := by kernel_rfl
  rcases Nat.lt_or_ge n 2 with h | h
  ·rcases Nat.eq_zero_or_pos n with h0 | h0
   ·subst h0; simp [Lib.swapperK]
   ·obtain rfl : n = 1 := by omega
    simp [Lib.swapperK]
  ·have c : (n == 0) = false := by simp; omega
   have d : (n == 1) = false := by simp; omega
   rw [if_neg (by omega), if_neg (by omega)]
   simp [Lib.swapperK, a, b, c, d]
 have hf : ∀ n, Try.prog.funcs.findIdx? (·.name == "internal/reflectlite" ++ ".Swapper$" ++ toString (Lib.swapperK n impl_sheetOf.ie 25)) = some (if n = 0 then 81 else if n = 1 then 82 else 89) := by
  intro n
  rw [hK]
  by_cases h0 : n = 0
  ·rw [if_pos h0, if_pos h0]; kernel_rfl
  ·rw [if_neg h0, if_neg h0]
   by_cases h1 : n = 1
   ·rw [if_pos h1, if_pos h1]; kernel_rfl
   ·rw [if_neg h1, if_neg h1]; kernel_rfl
 refine (sort_rows Try.laysGt8 24 58 impl_sheetOf.it impl_sheetOf.ie (by kernel_rfl) (by kernel_rfl) (by kernel_rfl) (by kernel_rfl) 25 (fun _ => by kernel_rfl) k58 (fun x => [.int .i64 x.f0, .int .i64 x.f1, .int .i64 x.f2]) (fun w base ok x cs => by show k58.M w base ok x cs ↔ _; exact ⟨k58_openM, fun h => h ▸ k58_mkM _ _ _ _⟩) (fun _ => rfl) (by kernel_rfl) (fun _ => by kernel_rfl) impl_holeLt impl_holeLt.swo 64 #[.pointer (some ⟨gb, 0, none⟩)]
  (enters_of Try.func64 (by kernel_rfl) rfl) false _ hf (fun n h2 args W => by
   rw [if_neg (by omega), if_neg (by omega)]
   exact run_callFunc_extern Try.func89 (by kernel_rfl) (by kernel_rfl) (by kernel_rfl) (e := Extern.ReflectliteSwapper.swap false) (by kernel_rfl) args W) A c xs base (fun k_ => k_ ≠ gb) W (impl_sortHoles.short hz) hR ?_).mono ?_
 ·intro W' ys hl hC hg i j hi hj
  have hb' : W'.heap[gb]? = some (.cells #[.slice A ys.length c] 24 (0, 0)) := by rw [hg.block gb hgb hne, hbx, hl]
  have hc : xs.length ≤ c := (Kd.R_reads' hR).2.1
  have := impl_sheetOf_1.calls i j gb A c ys (impl_holeLt ys[i]! ys[j]!) W' (by rw [hl]; exact hC) (by omega) hb' (impl_sheetOf_1.lt i j ys (by omega) (by omega))
  exact this.mono fun e w h => ⟨h.1, h.2⟩
 ·rintro e' w' ⟨he, ys, hp, hs, ho, hg⟩
  obtain rfl := impl_sortHoles.uniq hz hp hs
  have hl := hp.length_eq
  rw [← hl] at ho
  exact ⟨he, hl.symm, ho, by rw [hg.block gb hgb hne, hbx, hl], hg⟩
def impl_sheetOf.f (k : Nat) (l0 : List (S58)) : Option ((List (S58)) × Bool) := if (l0.length : Int) > 60 then (some (([] : List (S58)), false)) else ((slices_Clone_Hole.f l0).bind fun t231 => ((impl_sortHoles.f t231).bind fun t234 => ((impl_IsSheet.f k t234).bind fun t237 => (if t237 = true then (some (t234, true)) else (some (([] : List (S58)), false))))))
theorem impl_sheetOf.mono : ∀ a0 k, LeO (impl_sheetOf.f k a0) (impl_sheetOf.f (k + 1) a0) := by
 intro a0 k
 unfold impl_sheetOf.f
 repeat' first
   | (with_reducible exact impl_IsSheet.mono _ _)
   | (with_reducible exact LeO.refl _)
   | (with_reducible exact LeO.none _)
   | (with_reducible refine LeO.ite ?_ ?_)
   | (with_reducible refine LeO.bind ?_ (fun _ => ?_))
   | exact impl_IsSheet.mono _ _
   | exact LeO.none _
   | refine LeO.ite ?_ ?_
   | refine LeO.bind ?_ (fun _ => ?_)
set_option maxHeartbeats 8000000 in
set_option maxRecDepth 100000 in
theorem impl_sheetOf.calls (k : Nat) (A0 : Option Addr) (c0 : Nat) (l0 : List (S58)) (r1 : List (S58)) (r2 : Bool) (w : World) (hr0 : Kd.C k58 w A0 l0.length l0) (hc0 : l0.length ≤ c0) (h : impl_sheetOf.f k l0 = some (r1, r2)) :
  Calls Try.prog 45 #[.slice A0 l0.length c0] w fun e w' => ∃ v0_ : Value, e = .returned (.tuple #[v0_, .bool r2]) ∧ Kd.R k58 58 w' w.heap.size (fun _ => True) v0_ r1 ∧ Below w.heap.size w w' := by
 have HR0 := Aside0.mk hr0
 have HC0 := Aside0.mk hc0
 clear hr0 hc0
 have HB := Aside0.mk (Below.refl w.heap.size w)
 have H : (if (l0.length : Int) > 60 then (some (([] : List (S58)), false)) else ((slices_Clone_Hole.f l0).bind fun t231 => ((impl_sortHoles.f t231).bind fun t234 => ((impl_IsSheet.f k t234).bind fun t237 => (if t237 = true then (some (t234, true)) else (some (([] : List (S58)), false))))))) = some (r1, r2) := h
 clear h
 by_cases c2 : (l0.length : Int) > 60
 ·rw [if_pos c2] at H
  have c2b0 : decide (60 < (l0.length : Int)) = true := decide_eq_true c2
  have c2b1 : decide (60 < l0.length) = true := decide_eq_true (by omega)
  clear c2
  simp only [Option.some.injEq, Prod.mk.injEq] at H
  obtain ⟨rfl, rfl⟩ := H
  go_enter Try.func45, Try.ntmps45
  go_wp2
  go_ret2
  exact ⟨_, by first | rfl | (simp [errW_none, errW_some] <;> rfl) | (simp [*, errW_none, errW_some] <;> rfl), by first | exact Kd.R_nil _ _ _ _ _ | exact Kd.N_nil _ _ _ _ _ | exact Kd.V_nil _ _ _ _ _ | exact Kd.Q_nil _ _ _ _ _ | exact Kd.S_nil _ _ _ _ _, by repeat (first | (with_reducible first | exact HB.out | apply below_alloc | apply pw_below_drewN | apply below_drew1) | exact HB.out)⟩
 ·rw [if_neg c2] at H
  have c2b0 : decide (60 < (l0.length : Int)) = false := decide_eq_false c2
  have c2b1 : decide (60 < l0.length) = false := decide_eq_false (by omega)
  clear c2
  replace H := Option.bind_eq_some_iff.mp H
  obtain ⟨t231, A30, H⟩ := H
  (try dsimp only at H)
  have A3 := Aside0.mk A30
  clear A30
  replace H := Option.bind_eq_some_iff.mp H
  obtain ⟨t234, A40, H⟩ := H
  (try dsimp only at H)
  have A4 := Aside0.mk A40
  clear A40
  replace H := Option.bind_eq_some_iff.mp H
  obtain ⟨t237, A50, H⟩ := H
  (try dsimp only at H)
  have A5 := Aside0.mk A50
  clear A50
  by_cases c6 : t237 = true
  ·subst c6
   have H1 : (some (t234, true)) = some (r1, r2) := by rw [if_pos rfl] at H; exact H
   clear H
   have H := H1
   clear H1
   simp only [Option.some.injEq, Prod.mk.injEq] at H
   obtain ⟨rfl, rfl⟩ := H
   go_enter Try.func45, Try.ntmps45
   go_wp2_with (first | ((with_reducible refine gate_callee (f := 63) rfl ?_); refine goesL_ (some 9) rfl rfl Try.func63 (by kernel_rfl) rfl #[.slice A0 l0.length c0] rfl (by (try simp only [List.map_toArray, List.map_cons, List.map_nil]); first | done | rfl | (simp only [List.length_drop, List.length_take]; rfl)) ?_; (with_reducible refine (slices_Clone_Hole.calls _ _ l0 t231 _ ?side1 ?side2 A3.out).mono ?_); (case side1 => repeat (first | exact HR0.out | (with_reducible refine Kd.C_alloc ?_ _) | (with_reducible refine Kd.C_drewN ?_ _) | (with_reducible refine Kd.C_drew ?_))); (case side2 => exact HC0.out); rintro e w7 ⟨v232, rfl, ho0, hb⟩; refine ⟨_, rfl, ?_⟩; have n0_ := Aside0.mk (Kd.R_lower ho0 (below_size (by repeat (first | (with_reducible first | exact HB.out | apply below_alloc | apply pw_below_drewN | apply below_drew1) | exact HB.out)))); have n1_ := Aside0.mk (below_step (by repeat (first | (with_reducible first | exact HB.out | apply below_alloc | apply pw_below_drewN | apply below_drew1) | exact HB.out)) hb); clear HB; have HO233 := n0_; have HB := n1_; clear n0_ n1_; (try clear hb); (try clear hb2); (try clear hk); (try clear hi); (try clear ho0); obtain ⟨Ao8, co8, eo8⟩ := Kd.R_slice HO233.out; subst eo8) | ((with_reducible refine gate_dst (N := 4) rfl ?_); refine box_event ?hg (N := 4) ?hd (cs := #[.slice none 0 0]) (t := 24) ?hr ?_; (case hd => rfl); (case hg => rfl); (case hr => first | (go_simp; done) | (go_simp; rfl)); intro gbS hg wS hbox hb; have n0_ := Aside0.mk (Kd.R_mono (Kd.R_below (Kd.R_elderB (by (with_reducible repeat (first | apply Kd.R_alloc | apply Kd.R_drewN | apply Kd.R_drew)); exact HO233.out) gbS (Nat.le_of_eq hg.symm)) hb) (ok' := fun k_ => k_ ≠ gbS) (fun _ hk => hk.2)); have n1_ := Aside0.mk (below_step (by repeat (first | (with_reducible first | exact HB.out | apply below_alloc | apply pw_below_drewN | apply below_drew1) | exact HB.out)) hb); have n2_ := Aside0.mk hbox; have n3_ := Aside0.mk ((by rw [hg]; exact (below_size (by repeat (first | (with_reducible first | exact HB.out | apply below_alloc | apply pw_below_drewN | apply below_drew1) | exact HB.out))) : w.heap.size ≤ gbS)); clear HO233; clear HB; have HO233 := n0_; have HB := n1_; have BKS := n2_; have GES := n3_; clear n0_ n1_ n2_ n3_; clear hb hbox hg; have hcS : wS.cell? ⟨gbS, 0, none⟩ = some (.slice none 0 0) := (blk_cell BKS.out 0).trans rfl; have hfS := blk_frozen BKS.out 0) | ((with_reducible refine gate_callee (f := 48) rfl ?_); refine goesL_ (some 13) rfl rfl Try.func48 (by kernel_rfl) rfl #[.iface 24 (.slice Ao8 t231.length co8), .func (.func 64) #[] #[.pointer (some ⟨gbS, 0, none⟩)]] rfl (by (try simp only [List.map_toArray, List.map_cons, List.map_nil]); first | done | rfl) ?_; refine (impl_sheetOf.sorts t231 t234 Ao8 co8 gbS w.heap.size (wS.setCell ⟨gbS, 0, none⟩ (.slice Ao8 t231.length co8)) A4.out (Kd.R_far (p := ⟨gbS, 0, none⟩) HO233.out (fun _ hk => hk) (.slice Ao8 t231.length co8)) (blk_put (cs := #[.slice none 0 0]) BKS.out 0 (.slice Ao8 t231.length co8) rfl)).mono ?_; rintro e wT ⟨rfl, hln, ho, hbx, hg⟩; refine ⟨_, rfl, ?_⟩; have n1_ := Aside0.mk ((below_set HB.out GES.out).grown hg (by first | exact below_size (below_set HB.out GES.out) | exact (below_set HB.out GES.out).size) (fun k_ hk_ => Kd.R_base HO233.out k_ hk_)); clear HO233 HB BKS hcS hfS hg; have HO236 := Aside0.mk ho; have HB := n1_; have BKS := Aside0.mk hbx; clear ho hbx n1_; have hcS : wT.cell? ⟨gbS, 0, none⟩ = some (.slice Ao8 t234.length co8) := (blk_cell BKS.out 0).trans rfl; rw [hln]) | ((with_reducible refine gate_callee (f := 59) rfl ?_); refine goesL_ (some 15) rfl rfl Try.func59 (by kernel_rfl) rfl #[.slice Ao8 t234.length co8] rfl (by (try simp only [List.map_toArray, List.map_cons, List.map_nil]); first | done | rfl | (simp only [List.length_drop, List.length_take]; rfl)) ?_; (with_reducible refine (impl_IsSheet.calls k _ _ t234 true _ ?side1 ?side2 A5.out).mono ?_); (case side1 => repeat (first | exact (Kd.R_reads' HO236.out).2.2 | (with_reducible refine Kd.C_alloc ?_ _) | (with_reducible refine Kd.C_drewN ?_ _) | (with_reducible refine Kd.C_drew ?_))); (case side2 => exact (Kd.R_reads' HO236.out).2.1); rintro e w11 ⟨rfl, hb⟩; refine ⟨_, rfl, ?_⟩; have n0_ := Aside0.mk (blk_below (g := gbS) BKS.out hb); have n1_ := Aside0.mk (Kd.R_below (by (with_reducible repeat (first | apply Kd.R_alloc | apply Kd.R_drewN | apply Kd.R_drew)); exact HO236.out) hb); have n2_ := Aside0.mk (below_step (by repeat (first | (with_reducible first | exact HB.out | apply below_alloc | apply pw_below_drewN | apply below_drew1) | exact HB.out)) hb); clear HO236; clear HB; clear BKS hcS; have BKS := n0_; have hcS : w11.cell? ⟨gbS, 0, none⟩ = some (.slice Ao8 t234.length co8) := (blk_cell BKS.out 0).trans rfl; have HO236 := n1_; have HB := n2_; clear n0_ n1_ n2_; (try clear hb); (try clear hb2); (try clear hk); (try clear hi)))
   go_ret2
   exact ⟨_, by first | rfl | (simp [errW_none, errW_some] <;> rfl) | (simp [*, errW_none, errW_some] <;> rfl), by (with_reducible repeat (first | apply Kd.R_alloc | apply Kd.R_drewN | apply Kd.R_drew)); exact Kd.R_mono HO236.out (fun _ hk => trivial), by repeat (first | (with_reducible first | exact HB.out | apply below_alloc | apply pw_below_drewN | apply below_drew1) | exact HB.out)⟩
  ·replace c6 := Bool.eq_false_iff.mpr c6
   subst c6
   have H1 : (some (([] : List (S58)), false)) = some (r1, r2) := by rw [if_neg (show ¬ (false = true) by decide)] at H; exact H
   clear H
   have H := H1
   clear H1
   simp only [Option.some.injEq, Prod.mk.injEq] at H
   obtain ⟨rfl, rfl⟩ := H
   go_enter Try.func45, Try.ntmps45
   go_wp2_with (first | ((with_reducible refine gate_callee (f := 63) rfl ?_); refine goesL_ (some 9) rfl rfl Try.func63 (by kernel_rfl) rfl #[.slice A0 l0.length c0] rfl (by (try simp only [List.map_toArray, List.map_cons, List.map_nil]); first | done | rfl | (simp only [List.length_drop, List.length_take]; rfl)) ?_; (with_reducible refine (slices_Clone_Hole.calls _ _ l0 t231 _ ?side1 ?side2 A3.out).mono ?_); (case side1 => repeat (first | exact HR0.out | (with_reducible refine Kd.C_alloc ?_ _) | (with_reducible refine Kd.C_drewN ?_ _) | (with_reducible refine Kd.C_drew ?_))); (case side2 => exact HC0.out); rintro e w12 ⟨v232, rfl, ho0, hb⟩; refine ⟨_, rfl, ?_⟩; have n0_ := Aside0.mk (Kd.R_lower ho0 (below_size (by repeat (first | (with_reducible first | exact HB.out | apply below_alloc | apply pw_below_drewN | apply below_drew1) | exact HB.out)))); have n1_ := Aside0.mk (below_step (by repeat (first | (with_reducible first | exact HB.out | apply below_alloc | apply pw_below_drewN | apply below_drew1) | exact HB.out)) hb); clear HB; have HO233 := n0_; have HB := n1_; clear n0_ n1_; (try clear hb); (try clear hb2); (try clear hk); (try clear hi); (try clear ho0); obtain ⟨Ao13, co13, eo13⟩ := Kd.R_slice HO233.out; subst eo13) | ((with_reducible refine gate_dst (N := 4) rfl ?_); refine box_event ?hg (N := 4) ?hd (cs := #[.slice none 0 0]) (t := 24) ?hr ?_; (case hd => rfl); (case hg => rfl); (case hr => first | (go_simp; done) | (go_simp; rfl)); intro gbS hg wS hbox hb; have n0_ := Aside0.mk (Kd.R_mono (Kd.R_below (Kd.R_elderB (by (with_reducible repeat (first | apply Kd.R_alloc | apply Kd.R_drewN | apply Kd.R_drew)); exact HO233.out) gbS (Nat.le_of_eq hg.symm)) hb) (ok' := fun k_ => k_ ≠ gbS) (fun _ hk => hk.2)); have n1_ := Aside0.mk (below_step (by repeat (first | (with_reducible first | exact HB.out | apply below_alloc | apply pw_below_drewN | apply below_drew1) | exact HB.out)) hb); have n2_ := Aside0.mk hbox; have n3_ := Aside0.mk ((by rw [hg]; exact (below_size (by repeat (first | (with_reducible first | exact HB.out | apply below_alloc | apply pw_below_drewN | apply below_drew1) | exact HB.out))) : w.heap.size ≤ gbS)); clear HO233; clear HB; have HO233 := n0_; have HB := n1_; have BKS := n2_; have GES := n3_; clear n0_ n1_ n2_ n3_; clear hb hbox hg; have hcS : wS.cell? ⟨gbS, 0, none⟩ = some (.slice none 0 0) := (blk_cell BKS.out 0).trans rfl; have hfS := blk_frozen BKS.out 0) | ((with_reducible refine gate_callee (f := 48) rfl ?_); refine goesL_ (some 13) rfl rfl Try.func48 (by kernel_rfl) rfl #[.iface 24 (.slice Ao13 t231.length co13), .func (.func 64) #[] #[.pointer (some ⟨gbS, 0, none⟩)]] rfl (by (try simp only [List.map_toArray, List.map_cons, List.map_nil]); first | done | rfl) ?_; refine (impl_sheetOf.sorts t231 t234 Ao13 co13 gbS w.heap.size (wS.setCell ⟨gbS, 0, none⟩ (.slice Ao13 t231.length co13)) A4.out (Kd.R_far (p := ⟨gbS, 0, none⟩) HO233.out (fun _ hk => hk) (.slice Ao13 t231.length co13)) (blk_put (cs := #[.slice none 0 0]) BKS.out 0 (.slice Ao13 t231.length co13) rfl)).mono ?_; rintro e wT ⟨rfl, hln, ho, hbx, hg⟩; refine ⟨_, rfl, ?_⟩; have n1_ := Aside0.mk ((below_set HB.out GES.out).grown hg (by first | exact below_size (below_set HB.out GES.out) | exact (below_set HB.out GES.out).size) (fun k_ hk_ => Kd.R_base HO233.out k_ hk_)); clear HO233 HB BKS hcS hfS hg; have HO236 := Aside0.mk ho; have HB := n1_; have BKS := Aside0.mk hbx; clear ho hbx n1_; have hcS : wT.cell? ⟨gbS, 0, none⟩ = some (.slice Ao13 t234.length co13) := (blk_cell BKS.out 0).trans rfl; rw [hln]) | ((with_reducible refine gate_callee (f := 59) rfl ?_); refine goesL_ (some 15) rfl rfl Try.func59 (by kernel_rfl) rfl #[.slice Ao13 t234.length co13] rfl (by (try simp only [List.map_toArray, List.map_cons, List.map_nil]); first | done | rfl | (simp only [List.length_drop, List.length_take]; rfl)) ?_; (with_reducible refine (impl_IsSheet.calls k _ _ t234 false _ ?side1 ?side2 A5.out).mono ?_); (case side1 => repeat (first | exact (Kd.R_reads' HO236.out).2.2 | (with_reducible refine Kd.C_alloc ?_ _) | (with_reducible refine Kd.C_drewN ?_ _) | (with_reducible refine Kd.C_drew ?_))); (case side2 => exact (Kd.R_reads' HO236.out).2.1); rintro e w16 ⟨rfl, hb⟩; refine ⟨_, rfl, ?_⟩; have n0_ := Aside0.mk (blk_below (g := gbS) BKS.out hb); have n1_ := Aside0.mk (Kd.R_below (by (with_reducible repeat (first | apply Kd.R_alloc | apply Kd.R_drewN | apply Kd.R_drew)); exact HO236.out) hb); have n2_ := Aside0.mk (below_step (by repeat (first | (with_reducible first | exact HB.out | apply below_alloc | apply pw_below_drewN | apply below_drew1) | exact HB.out)) hb); clear HO236; clear HB; clear BKS hcS; have BKS := n0_; have hcS : w16.cell? ⟨gbS, 0, none⟩ = some (.slice Ao13 t234.length co13) := (blk_cell BKS.out 0).trans rfl; have HO236 := n1_; have HB := n2_; clear n0_ n1_ n2_; (try clear hb); (try clear hb2); (try clear hk); (try clear hi)))
   go_ret2
   exact ⟨_, by first | rfl | (simp [errW_none, errW_some] <;> rfl) | (simp [*, errW_none, errW_some] <;> rfl), by first | exact Kd.R_nil _ _ _ _ _ | exact Kd.N_nil _ _ _ _ _ | exact Kd.V_nil _ _ _ _ _ | exact Kd.Q_nil _ _ _ _ _ | exact Kd.S_nil _ _ _ _ _, by repeat (first | (with_reducible first | exact HB.out | apply below_alloc | apply pw_below_drewN | apply below_drew1) | exact HB.out)⟩

/-! ### slices_Clone_Stroke: function 54: by this session -/
def slices_Clone_Stroke.f (l0 : List (S56)) : Option (List (S56)) := if l0.length ≤ 8796093022208 then some l0 else none
set_option maxHeartbeats 8000000 in
set_option maxRecDepth 100000 in
theorem slices_Clone_Stroke.calls (A0 : Option Addr) (c0 : Nat) (l0 : List (S56)) (r : List (S56)) (w : World) (hr0 : Kd.C k56 w A0 l0.length l0) (hc0 : l0.length ≤ c0) (h : slices_Clone_Stroke.f l0 = some r) :
  Calls Try.prog 54 #[.slice A0 l0.length c0] w fun e w' => ∃ v0_ : Value, e = .returned (v0_) ∧ Kd.R k56 56 w' w.heap.size (fun _ => True) v0_ r ∧ Below w.heap.size w w' := by
 have hn : l0.length ≤ 8796093022208 ∧ l0 = r := by
  unfold slices_Clone_Stroke.f at h
  split at h
  ·exact ⟨by assumption, Option.some.inj h⟩
  ·cases h
 obtain ⟨hn, rfl⟩ := hn
 clear h
 have hq : ∀ (w : World) (a : Option Addr) (n c n' c' : Nat), (binOp .eql 27 (.slice a n c) (.slice none n' c')).run Try.prog w = .ok (.bool a.isNone) w := fun w a n c n' c' => Lib.run_eql_slice_nil w _ _ a n c n' c' Try.underlying27
 have HC := Aside0.mk hr0
 have HN := Aside0.mk hn
 have HB := Aside0.mk (Below.refl w.heap.size w)
 clear hr0 hn
 rcases A0 with _ | ad
 ·have h0 : l0 = [] := by
   cases l0 with
   | nil => rfl
   | cons x xs =>
    obtain ⟨ad, h, _⟩ := HC.out.2.2 (by simp)
    cases h
  subst h0
  clear HC HN
  go_enter Try.func54, Try.ntmps54
  go_wp2
  go_ret
  exact ⟨_, rfl, Kd.R_nil _ _ _ _ _, Below.refl _ _⟩
 ·go_enter Try.func54, Try.ntmps54
  go_wp2_with (at_builtin; refine Kd.R_append_rows k56 (w0 := w) w.heap.size rfl _ _ 27 56 (.agg #[(.int .i64 0), (.int .i64 0)]) 16 rfl Try.underlying27 (by kernel_rfl) rfl (by decide) (by omega) (.slice (some ⟨w.heap.size, 0, none⟩) 0 0) [] l0 _ _ _ (fun _ => True) (fun _ => False) rfl rfl ?aO ?aR (fun _ _ h => h) (fun _ h => h.elim) ?aF ?aB ?aS ?aL ?_)
  case aO => exact ⟨fun _ _ => trivial, [], World.ownsRow_made w #[] 0 (Nat.le_refl _) (Nat.zero_le _) (by simp), Reps.none _ _⟩
  case aR => exact Kd.C_alloc HC.out _
  case aF => exact fun _ _ => trivial
  case aB => exact below_alloc (Below.refl _ _) _
  case aS => simp
  case aL => have := HN.out; simp only [List.length_nil]; omega
  intro v1 w1 ho hb hg hat
  go_wp2
  go_ret
  exact ⟨_, rfl, ho, hb⟩

/-! ### impl_punchedBy_1: function 55 -/
def impl_punchedBy_1.f (a0 : Int) (a1 : Int) (l2 : List (S56)) : Option (Bool) := if 0 ≤ a0 then (if a0 < (l2.length : Int) then (if 0 ≤ a1 then (if a1 < (l2.length : Int) then (if ((rd_T56 l2 a0).f0) = ((rd_T56 l2 a1).f0) then (some (decide (((rd_T56 l2 a0).f1) < ((rd_T56 l2 a1).f1)))) else (some (decide (((rd_T56 l2 a0).f0) < ((rd_T56 l2 a1).f0))))) else (none)) else (none)) else (none)) else (none)
set_option maxHeartbeats 8000000 in
set_option maxRecDepth 100000 in
theorem impl_punchedBy_1.calls (a0 : Int) (a1 : Int) (p2 : Nat) (A2 : Option Addr) (c2 : Nat) (l2 : List (S56)) (r : Bool) (w : World) (hr2 : Kd.C k56 w A2 l2.length l2) (hc2 : l2.length ≤ c2) (hb2 : w.heap[p2]? = some (.cells #[.slice A2 l2.length c2] 27 (0, 0))) (h : impl_punchedBy_1.f a0 a1 l2 = some r) :
  Calls Try.prog 55 #[.int .i64 a0, .int .i64 a1, .pointer (some ⟨p2, 0, none⟩)] w fun e w' => e = .returned (.bool r) ∧ Drawn0 w w' := by
 have hu27 := Try.underlying27
 have hu3 := Try.underlying3
 have HR2 := Aside0.mk hr2
 have HC2 := Aside0.mk hc2
 clear hr2 hc2
 have BK279 := Aside0.mk hb2
 clear hb2
 have H : (if 0 ≤ a0 then (if a0 < (l2.length : Int) then (if 0 ≤ a1 then (if a1 < (l2.length : Int) then (if ((rd_T56 l2 a0).f0) = ((rd_T56 l2 a1).f0) then (some (decide (((rd_T56 l2 a0).f1) < ((rd_T56 l2 a1).f1)))) else (some (decide (((rd_T56 l2 a0).f0) < ((rd_T56 l2 a1).f0))))) else (none)) else (none)) else (none)) else (none)) = some r := h
 clear h
 by_cases c4 : 0 ≤ a0
 ·rw [if_pos c4] at H
  have c4b0 : decide (0 ≤ a0) = true := decide_eq_true c4
  clear c4
  by_cases c5 : a0 < (l2.length : Int)
  ·rw [if_pos c5] at H
   have c5b0 : decide (a0 < (l2.length : Int)) = true := decide_eq_true c5
   clear c5
   by_cases c6 : 0 ≤ a1
   ·rw [if_pos c6] at H
    have c6b0 : decide (0 ≤ a1) = true := decide_eq_true c6
    clear c6
    by_cases c7 : a1 < (l2.length : Int)
    ·rw [if_pos c7] at H
     have c7b0 : decide (a1 < (l2.length : Int)) = true := decide_eq_true c7
     clear c7
     by_cases c8 : ((rd_T56 l2 a0).f0) = ((rd_T56 l2 a1).f0)
     ·rw [if_pos c8] at H
      have c8b0 : (((rd_T56 l2 a0).f0) == ((rd_T56 l2 a1).f0)) = true := beq_iff_eq.mpr c8
      have c8b1 : (((rd_T56 l2 a0).f0) != ((rd_T56 l2 a1).f0)) = false := bne_eq_false_iff_eq.mpr c8
      clear c8
      obtain rfl := Option.some.inj H
      have hcz9_0 : w.cell? ⟨p2, 0, none⟩ = some (.slice A2 l2.length c2) := (blk_cell BK279.out 0).trans rfl
      have hfz9_0 := blk_frozen BK279.out 0
      have p280 : 0 ≤ (a0 : Int) := of_decide_eq_true (by first | (with_reducible assumption) | assumption)
      have q280 : a0 < (l2.length : Int) := of_decide_eq_true (by first | (with_reducible assumption) | assumption)
      obtain ⟨ad280, e280, hx280_0, hx280_1⟩ := at_T56 HR2.out a0 p280 q280
      cases e280
      replace p280 := eq_true p280
      replace q280 := eq_true q280
      have p281 : 0 ≤ (a1 : Int) := of_decide_eq_true (by first | (with_reducible assumption) | assumption)
      have q281 : a1 < (l2.length : Int) := of_decide_eq_true (by first | (with_reducible assumption) | assumption)
      obtain ⟨ad281, e281, hx281_0, hx281_1⟩ := at_T56 HR2.out a1 p281 q281
      obtain rfl : ad280 = ad281 := (by injection e281)
      replace p281 := eq_true p281
      replace q281 := eq_true q281
      have p282 : 0 ≤ (a0 : Int) := of_decide_eq_true (by first | (with_reducible assumption) | assumption)
      have q282 : a0 < (l2.length : Int) := of_decide_eq_true (by first | (with_reducible assumption) | assumption)
      obtain ⟨ad282, e282, hx282_0, hx282_1⟩ := at_T56 HR2.out a0 p282 q282
      obtain rfl : ad280 = ad282 := (by injection e282)
      replace p282 := eq_true p282
      replace q282 := eq_true q282
      have p283 : 0 ≤ (a1 : Int) := of_decide_eq_true (by first | (with_reducible assumption) | assumption)
      have q283 : a1 < (l2.length : Int) := of_decide_eq_true (by first | (with_reducible assumption) | assumption)
      obtain ⟨ad283, e283, hx283_0, hx283_1⟩ := at_T56 HR2.out a1 p283 q283
      obtain rfl : ad280 = ad283 := (by injection e283)
      replace p283 := eq_true p283
      replace q283 := eq_true q283
      go_enter Try.func55, Try.ntmps55
      go_wp2
      repeat (go_quiet (fail); try go_wp2)
      go_ret
      exact ⟨by first | rfl | (simp; done) | (simp [*]; done), by repeat (first | exact Drawn0.refl _ | apply Drawn0.step)⟩
     ·rw [if_neg c8] at H
      have c8b0 : (((rd_T56 l2 a0).f0) == ((rd_T56 l2 a1).f0)) = false := beq_eq_false_iff_ne.mpr c8
      have c8b1 : (((rd_T56 l2 a0).f0) != ((rd_T56 l2 a1).f0)) = true := bne_iff_ne.mpr c8
      obtain rfl := Option.some.inj H
      have hcz10_0 : w.cell? ⟨p2, 0, none⟩ = some (.slice A2 l2.length c2) := (blk_cell BK279.out 0).trans rfl
      have hfz10_0 := blk_frozen BK279.out 0
      have p280 : 0 ≤ (a0 : Int) := of_decide_eq_true (by first | (with_reducible assumption) | assumption)
      have q280 : a0 < (l2.length : Int) := of_decide_eq_true (by first | (with_reducible assumption) | assumption)
      obtain ⟨ad280, e280, hx280_0, hx280_1⟩ := at_T56 HR2.out a0 p280 q280
      cases e280
      replace p280 := eq_true p280
      replace q280 := eq_true q280
      have p281 : 0 ≤ (a1 : Int) := of_decide_eq_true (by first | (with_reducible assumption) | assumption)
      have q281 : a1 < (l2.length : Int) := of_decide_eq_true (by first | (with_reducible assumption) | assumption)
      obtain ⟨ad281, e281, hx281_0, hx281_1⟩ := at_T56 HR2.out a1 p281 q281
      obtain rfl : ad280 = ad281 := (by injection e281)
      replace p281 := eq_true p281
      replace q281 := eq_true q281
      have p284 : 0 ≤ (a0 : Int) := of_decide_eq_true (by first | (with_reducible assumption) | assumption)
      have q284 : a0 < (l2.length : Int) := of_decide_eq_true (by first | (with_reducible assumption) | assumption)
      obtain ⟨ad284, e284, hx284_0, hx284_1⟩ := at_T56 HR2.out a0 p284 q284
      obtain rfl : ad280 = ad284 := (by injection e284)
      replace p284 := eq_true p284
      replace q284 := eq_true q284
      have p285 : 0 ≤ (a1 : Int) := of_decide_eq_true (by first | (with_reducible assumption) | assumption)
      have q285 : a1 < (l2.length : Int) := of_decide_eq_true (by first | (with_reducible assumption) | assumption)
      obtain ⟨ad285, e285, hx285_0, hx285_1⟩ := at_T56 HR2.out a1 p285 q285
      obtain rfl : ad280 = ad285 := (by injection e285)
      replace p285 := eq_true p285
      replace q285 := eq_true q285
      go_enter Try.func55, Try.ntmps55
      go_wp2
      repeat (go_quiet (fail); try go_wp2)
      go_ret
      exact ⟨by first | rfl | (simp; done) | (simp [*]; done), by repeat (first | exact Drawn0.refl _ | apply Drawn0.step)⟩
    ·rw [if_neg c7] at H
     exact absurd H (by simp)
   ·rw [if_neg c6] at H
    exact absurd H (by simp)
  ·rw [if_neg c5] at H
   exact absurd H (by simp)
 ·rw [if_neg c4] at H
  exact absurd H (by simp)

end Go.Proofs.Ytcbfpfkkobbmaaa.PFnExactPunchedNow
