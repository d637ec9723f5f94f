-- written by a program of this session: the kit's print, with outer functions of the session's own (wip/ext)
import Derived.Test.YtflefblmaopaiaaPFnStopsx0
import Derived.Test.YtflefblmaopaiaaPFnStopsx2
import Derived.Test.YtflefblmaopaiaaPFnStopsx4
namespace Go.Proofs.Ytflefblmaopaiaa.PFnStops
open Go.RowKit Go.Proofs.YtflefblmaopaiaaW.PrintWords Go.Proofs.YtflefblmaopaiaaW.PrintLast Go.Proofs.YtflefblmaopaiaaW.PrintMore
attribute [local go_sem] max2_int min2_int max_two min_two max_three min_three max_four min_four   -- for this text's walks alone
set_option linter.unusedVariables false
set_option linter.unusedSimpArgs false
theorem mo5_ {p : Prop} (h : p := by repeat' first | (with_reducible first | apply ih0 | apply ih0 | apply ih1 | apply ih1 | apply ih2 | apply ih2 | apply spec_shSorted.mono | apply spec_shSorted.mono | apply spec_shWith.mono | apply spec_shWith.mono | exact LeO.refl _ | exact LeO.none _ | refine LeO.ite ?_ ?_ | refine LeO.bind ?_ (fun _ => ?_)) | exact LeO.none _ | refine LeO.ite ?_ ?_ | refine LeO.bind ?_ (fun _ => ?_)) : p := h

/-! ### spec_shWith: function 44 -/
def spec_shWith.f (k : Nat) (l0 : List (S64)) (a1_0 : Int) (a1_1 : Int) (a1_2 : Int) : Option ((List (S64)) × Bool) := (some (([] : List (S64)) : List (S64))).bind fun y184 => (if y184.length + l0.length < 5864062014805 then ((some (y184 ++ l0 : List (S64))).bind fun y187 => ((some (([(⟨a1_0, a1_1, a1_2⟩ : S64)] : List (S64)) : List (S64))).bind fun y190 => (if y187.length + y190.length < 5864062014805 then ((spec_shSorted.f k (y187 ++ y190)).bind fun bt196 => (some (bt196.1, bt196.2))) else (none)))) else (none))
theorem spec_shWith.mono : ∀ a0 a1 a2 a3 k, LeO (spec_shWith.f k a0 a1 a2 a3) (spec_shWith.f (k + 1) a0 a1 a2 a3) := by
 intro a0 a1 a2 a3 k
 unfold spec_shWith.f
 exact mo5_
def spec_shWith.T1 : Bool × List (List Nat × List Nat) := (true, [([], []), ([], []), ([0, 1], [0, 1]), ([], []), ([3], [3]), ([2, 4, 2], [2, 4]), ([5, 5], [5]), ([6], [6]), ([6], [6]), ([7, 6, 0, 1, 2, 3, 4, 5, 6, 7, 8], [7]), ([8, 9, 0, 1, 2, 3, 4, 5, 6, 7, 8, 9], [8])])
def spec_shWith.B1 : List Nat := [0, 0, 3, 0, 8, 31, 63, 127, 127, 511, 1023]
theorem spec_shWith.tab1 : rtab .any (opsOf Try.f44 1) = spec_shWith.T1 := by kernel_rfl
theorem spec_shWith.bits1 : waitsOk spec_shWith.T1.2 spec_shWith.B1 = true := by kernel_rfl
set_option maxHeartbeats 8000000 in
set_option maxRecDepth 100000 in
theorem spec_shWith.calls (k : Nat) (A0 : Option Addr) (c0 : Nat) (l0 : List (S64)) (a1_0 : Int) (a1_1 : Int) (a1_2 : Int) (r1 : List (S64)) (r2 : Bool) (w : World) (hr0 : Kd.C k64 w A0 l0.length l0) (hc0 : l0.length ≤ c0) (h : spec_shWith.f k l0 a1_0 a1_1 a1_2 = some (r1, r2)) :
  Calls Try.prog 44 #[.slice A0 l0.length c0, .agg #[.int .i64 a1_0, .int .i64 a1_1, .int .i64 a1_2]] w fun e w' => ∃ v0_ : Value, e = .returned (.tuple #[v0_, .bool r2]) ∧ Kd.R k64 64 w' w.heap.size (fun _ => True) v0_ r1 ∧ Below w.heap.size w w' := by
 have hu64 := Try.underlying64
 have HR0 := Aside0.mk hr0
 have HC0 := Aside0.mk hc0
 clear hr0 hc0
 have HB := Aside0.mk (Below.refl w.heap.size w)
 have H : ((some (([] : List (S64)) : List (S64))).bind fun y184 => (if y184.length + l0.length < 5864062014805 then ((some (y184 ++ l0 : List (S64))).bind fun y187 => ((some (([(⟨a1_0, a1_1, a1_2⟩ : S64)] : List (S64)) : List (S64))).bind fun y190 => (if y187.length + y190.length < 5864062014805 then ((spec_shSorted.f k (y187 ++ y190)).bind fun bt196 => (some (bt196.1, bt196.2))) else (none)))) else (none))) = some (r1, r2) := h
 clear h
 obtain ⟨y184, hy184⟩ : ∃ y_ : List (S64), y_ = (([] : List (S64))) := ⟨_, rfl⟩
 replace H : (if y184.length + l0.length < 5864062014805 then ((some (y184 ++ l0 : List (S64))).bind fun y187 => ((some (([(⟨a1_0, a1_1, a1_2⟩ : S64)] : List (S64)) : List (S64))).bind fun y190 => (if y187.length + y190.length < 5864062014805 then ((spec_shSorted.f k (y187 ++ y190)).bind fun bt196 => (some (bt196.1, bt196.2))) else (none)))) else (none)) = some (r1, r2) := by first | (rw [hy184]; with_reducible exact H) | (have H2_ := (Option.bind_some _ _).symm.trans H; rw [hy184]; with_reducible exact H2_) | (have H2_ := (Option.bind_some _ _).symm.trans H; with_reducible exact H2_) | with_reducible exact H | (rw [hy184]; exact H) | exact H
 have Ny184 := Aside0.mk hy184
 clear hy184
 by_cases c3 : y184.length + l0.length < 5864062014805
 ·rw [if_pos c3] at H
  have LMc3 := Aside0.mk c3
  clear c3
  obtain ⟨y187, hy187⟩ : ∃ y_ : List (S64), y_ = (y184 ++ l0) := ⟨_, rfl⟩
  replace H : ((some (([(⟨a1_0, a1_1, a1_2⟩ : S64)] : List (S64)) : List (S64))).bind fun y190 => (if y187.length + y190.length < 5864062014805 then ((spec_shSorted.f k (y187 ++ y190)).bind fun bt196 => (some (bt196.1, bt196.2))) else (none))) = some (r1, r2) := by first | (rw [hy187]; with_reducible exact H) | (have H2_ := (Option.bind_some _ _).symm.trans H; rw [hy187]; with_reducible exact H2_) | (have H2_ := (Option.bind_some _ _).symm.trans H; with_reducible exact H2_) | with_reducible exact H | (rw [hy187]; exact H) | exact H
  have Ny187 := Aside0.mk hy187
  clear hy187
  obtain ⟨y190, hy190⟩ : ∃ y_ : List (S64), y_ = (([(⟨a1_0, a1_1, a1_2⟩ : S64)] : List (S64))) := ⟨_, rfl⟩
  replace H : (if y187.length + y190.length < 5864062014805 then ((spec_shSorted.f k (y187 ++ y190)).bind fun bt196 => (some (bt196.1, bt196.2))) else (none)) = some (r1, r2) := by first | (rw [hy190]; with_reducible exact H) | (have H2_ := (Option.bind_some _ _).symm.trans H; rw [hy190]; with_reducible exact H2_) | (have H2_ := (Option.bind_some _ _).symm.trans H; with_reducible exact H2_) | with_reducible exact H | (rw [hy190]; exact H) | exact H
  have Ny190 := Aside0.mk hy190
  clear hy190
  by_cases c4 : y187.length + y190.length < 5864062014805
  ·rw [if_pos c4] at H
   have LMc4 := Aside0.mk c4
   clear c4
   obtain ⟨y193, hy193⟩ : ∃ y_ : List (S64), y_ = (y187 ++ y190) := ⟨_, rfl⟩
   replace H : ((spec_shSorted.f k y193).bind fun bt196 => (some (bt196.1, bt196.2))) = some (r1, r2) := by first | (rw [hy193]; with_reducible exact H) | (have H2_ := (Option.bind_some _ _).symm.trans H; rw [hy193]; with_reducible exact H2_) | (have H2_ := (Option.bind_some _ _).symm.trans H; with_reducible exact H2_) | with_reducible exact H | (rw [hy193]; exact H) | exact H
   have Ny193 := Aside0.mk hy193
   clear hy193
   replace H := Option.bind_eq_some_iff.mp H
   obtain ⟨⟨t196, t197⟩, A50, H⟩ := H
   replace H : (some (t196, t197)) = some (r1, r2) := H
   have A5 := Aside0.mk A50
   clear A50
   simp only [Option.some.injEq, Prod.mk.injEq] at H
   obtain ⟨rfl, rfl⟩ := H
   go_enter Try.func44, Try.ntmps44
   try go_wp2_with (first | ((with_reducible refine gate_dst (N := 3) rfl ?_); refine bv_ 3 64 #[.int .i64 a1_0, .int .i64 a1_1, .int .i64 a1_2] ?_; intro gb183 hg w6 hbox hb; refine k4_ (below_step (Z3) hb) (hbox) ((Z26 : w.heap.size ≤ gb183)) ((Z26 : w.heap.size ≤ gb183)) ?_; clear HB; intro HB BK183 GW183 GE183; clear hb hbox hg))
   refine k2_ (blk_drew BK183.out) (below_drew1 HB.out) ?_
   clear BK183 HB
   intro BK183 HB
   refine start_ (n := 11) (S := fun w' => w'.cell? ⟨gb183, 0, none⟩ = some (.int .i64 a1_0) ∧ w'.cell? ⟨gb183, 1, none⟩ = some (.int .i64 a1_1) ∧ w'.cell? ⟨gb183, 2, none⟩ = some (.int .i64 a1_2)) (ds := []) (M_ 0 11) (by kernel_rfl) rfl rfl ⟨(blk_cell BK183.out 0).trans rfl, (blk_cell BK183.out 1).trans rfl, (blk_cell BK183.out 2).trans rfl⟩ (fun hHeld => ?_); refine with_tabW spec_shWith.tab1 spec_shWith.bits1 (fun HT_ HW_ => ?_)
   generalize w6.drew = w7 at BK183 HB hHeld ⊢
   refine pu_ 1 7 (N_ 11 2) ?_
   refine tk3_ 3 9 (N_ 11 10) hHeld ?_
   refine join_ (σ := Value × Value × Value) 6 (M_ 5 6) (fun s_ => [(6, s_.1), (8, s_.2.1), (10, s_.2.2)]) (fun s_ w' => (w'.cell? ⟨gb183, 0, none⟩ = some (.int .i64 a1_0) ∧ w'.cell? ⟨gb183, 1, none⟩ = some (.int .i64 a1_1) ∧ w'.cell? ⟨gb183, 2, none⟩ = some (.int .i64 a1_2)) ∧ (Kd.R k64 64 w' w.heap.size (fun k_ => some k_ ≠ (s_.2.2 : Value).ownBlock ∧ k_ ≠ gb183) s_.2.1 y187) ∧ (Kd.R k64 64 w' w.heap.size (fun k_ => some k_ ≠ (s_.2.1 : Value).ownBlock ∧ k_ ≠ gb183) s_.2.2 y190) ∧ (w'.heap[gb183]? = some (.cells #[.int .i64 a1_0, .int .i64 a1_1, .int .i64 a1_2] 64 (0, 0))) ∧ (Below w.heap.size w w')) ?_ ?_
   rotate_left
   ·intro hCont
    refine two_ (i := 0) (j := 4) (Ni := some 6) (Nj := some 10) (N_ 11 11) (N_ 11 26) rfl rfl rfl rfl (two_of HT_.out (by kernel_rfl)) (by decide) (by decide) (fun K hK => ?_) (fun K hK => ?_)
    ·skip
     refine Kd.R_lit_step k64 _ 64 ?hg (N := 6) ?hd (xs := ([] : List (S64))) (inner := []) (ok := fun _ => True) (okp := fun _ => True) ?hr ?hp (fun _ hk => hk) trivial (Below.refl _ _) (Nat.le_refl _) (by simp) ?_; (case hd => rfl); (case hg => rfl); (case hr => exact Z100); (case hp => exact (Reps.none _ _))
     intro v185 w8 ho9 hb hg_ hnew_
     clear hg_ hnew_
     (first | rw [← Ny184.out] at ho9 | (simp only [Int.reduceToNat] at ho9; rw [← Ny184.out] at ho9))
     have n0_ := Aside0.mk (Kd.R_lower (Kd.R_newB ho9 (g := gb183) (o := .cells #[.int .i64 a1_0, .int .i64 a1_1, .int .i64 a1_2] 64 (0, 0)) (Z2 BK183.out)) (below_size (Z28)))
     have n1_ := Aside0.mk (blk_below (g := gb183) (o := .cells #[.int .i64 a1_0, .int .i64 a1_1, .int .i64 a1_2] 64 (0, 0)) (Z2 BK183.out) hb)
     have n2_ := Aside0.mk (below_step (Z28) hb)
     clear BK183
     clear HB
     have HO186 := n0_
     have BK183 := n1_
     have HB := n2_
     clear n0_ n1_ n2_
     clear hb ho9
     refine hK.out _ _ ⟨(blk_cell BK183.out 0).trans rfl, (blk_cell BK183.out 1).trans rfl, (blk_cell BK183.out 2).trans rfl⟩ (fun hHeld => ?_)
     clear hK K
     refine norm_ (a' := ?_) ?_ ?_
     rotate_left
     ·show Act.put _ (some 6) _ = _
      simp only [Act.put, List.setIfInBounds_toArray, List.set_cons_zero, List.set_cons_succ, i64_w, i32_w]
      rfl
     refine two_ (i := 2) (j := 4) (Ni := some 8) (Nj := some 10) (M_ 4 7) (N_ 11 27) rfl rfl rfl rfl (two_of HT_.out (by kernel_rfl)) (by decide) (by decide) (fun K hK => ?_) (fun K hK => ?_)
     ·skip
      refine Kd.R_append_rows_step k64 (w0 := w) w.heap.size (by rfl) (.tmp 6) (.tmp 7) 23 64 (.agg #[(.int .i64 0), (.int .i64 0), (.int .i64 0)]) 24 rfl Try.underlying23 info64 rfl (by decide) (by omega) v185 y184 l0 _ _ _ (fun k_ => k_ ≠ gb183) (fun _ => False) rfl rfl ?aO ?aR (fun _ _ h => h) (fun _ h => h.elim) ?aF ?aB ?aS ?aL ?_
      (case aR => exact Z10 HR0.out)
      (case aB => exact Z28)
      (case aF => exact (fun k_ hk => Kd.freshB (g := gb183) (o := .cells #[.int .i64 a1_0, .int .i64 a1_1, .int .i64 a1_2] 64 (0, 0)) (Z2 BK183.out) k_ hk))
      (case aO => exact Z83 HO186.out)
      (case aS => exact (below_size (Z28)))
      (case aL => have := LMc3.out; omega)
      intro v188 w10 ho hb hg hat
      rw [← Ny187.out] at ho
      have n0_ := Aside0.mk (blk_grown (g := gb183) (o := .cells #[.int .i64 a1_0, .int .i64 a1_1, .int .i64 a1_2] 64 (0, 0)) (Z2 BK183.out) hg (Kd.R_away HO186.out (fun _ hk => hk.2)))
      have n1_ := Aside0.mk (hb)
      have n2_ := Aside0.mk (ho)
      clear BK183
      clear HB
      clear HO186
      have BK183 := n0_
      have HB := n1_
      have HO189 := n2_
      clear n0_ n1_ n2_
      clear ho hb hg hat
      refine hK.out _ _ ⟨(blk_cell BK183.out 0).trans rfl, (blk_cell BK183.out 1).trans rfl, (blk_cell BK183.out 2).trans rfl⟩ (fun hHeld => ?_)
      clear hK K
      refine norm_ (a' := ?_) ?_ ?_
      rotate_left
      ·show Act.put _ (some 8) _ = _
       simp only [Act.put, List.setIfInBounds_toArray, List.set_cons_zero, List.set_cons_succ, i64_w, i32_w]
       rfl
      refine one_ (i := 4) (N := some 10) (M_ 5 6) rfl rfl (one_of HT_.out (by kernel_rfl)) (by decide) (fun K hK => ?_)
      refine Kd.R_lit_step k64 _ 64 ?hg (N := 10) ?hd (xs := ([(⟨a1_0, a1_1, a1_2⟩ : S64)] : List (S64))) (inner := [.int .i64 a1_0, .int .i64 a1_1, .int .i64 a1_2]) (ok := fun _ => True) (okp := fun _ => True) ?hr ?hp (fun _ hk => hk) trivial (Below.refl _ _) (Nat.le_refl _) (by simp) ?_; (case hd => rfl); (case hg => rfl); (case hr => exact Z100); (case hp => exact (Reps.c3 (show Kd.M k64 _ _ _ (⟨a1_0, a1_1, a1_2⟩ : S64) [.int .i64 a1_0, .int .i64 a1_1, .int .i64 a1_2] from (k64_mkM _ _ _ (⟨a1_0, a1_1, a1_2⟩ : S64) )) (Reps.none _ _)))
      intro v191 w11 ho12 hb hg_ hnew_
      clear hg_ hnew_
      (first | rw [← Ny190.out] at ho12 | (simp only [Int.reduceToNat] at ho12; rw [← Ny190.out] at ho12))
      have n0_ := Aside0.mk (Kd.R_elder' (Z1 HO189.out) (Kd.R_base ho12) hb)
      have n1_ := Aside0.mk (Kd.R_lower (Kd.R_newB (Kd.R_new' ho12 (Yd_ HO189.out)) (g := gb183) (o := .cells #[.int .i64 a1_0, .int .i64 a1_1, .int .i64 a1_2] 64 (0, 0)) (Z2 BK183.out)) (below_size (Z28)))
      have n2_ := Aside0.mk (blk_below (g := gb183) (o := .cells #[.int .i64 a1_0, .int .i64 a1_1, .int .i64 a1_2] 64 (0, 0)) (Z2 BK183.out) hb)
      have n3_ := Aside0.mk (below_step (Z28) hb)
      clear HO189
      clear BK183
      clear HB
      have HO189 := n0_
      have HO192 := n1_
      have BK183 := n2_
      have HB := n3_
      clear n0_ n1_ n2_ n3_
      clear hb ho12
      refine hK.out _ _ ⟨(blk_cell BK183.out 0).trans rfl, (blk_cell BK183.out 1).trans rfl, (blk_cell BK183.out 2).trans rfl⟩ (fun hHeld => ?_)
      clear hK K
      refine norm_ (a' := ?_) ?_ ?_
      rotate_left
      ·show Act.put _ (some 10) _ = _
       simp only [Act.put, List.setIfInBounds_toArray, List.set_cons_zero, List.set_cons_succ, i64_w, i32_w]
       rfl
      exact norm_ (Z109) (hCont (v185, v188, v191) _ ⟨hHeld, (Z158 HO189.out), (Z134 HO192.out), (Z2 BK183.out), (Z28)⟩)
     skip
     refine Kd.R_lit_step k64 _ 64 ?hg (N := 10) ?hd (xs := ([(⟨a1_0, a1_1, a1_2⟩ : S64)] : List (S64))) (inner := [.int .i64 a1_0, .int .i64 a1_1, .int .i64 a1_2]) (ok := fun _ => True) (okp := fun _ => True) ?hr ?hp (fun _ hk => hk) trivial (Below.refl _ _) (Nat.le_refl _) (by simp) ?_; (case hd => rfl); (case hg => rfl); (case hr => exact Z100); (case hp => exact (Reps.c3 (show Kd.M k64 _ _ _ (⟨a1_0, a1_1, a1_2⟩ : S64) [.int .i64 a1_0, .int .i64 a1_1, .int .i64 a1_2] from (k64_mkM _ _ _ (⟨a1_0, a1_1, a1_2⟩ : S64) )) (Reps.none _ _)))
     intro v191 w10 ho11 hb hg_ hnew_
     clear hg_ hnew_
     (first | rw [← Ny190.out] at ho11 | (simp only [Int.reduceToNat] at ho11; rw [← Ny190.out] at ho11))
     have n0_ := Aside0.mk (Kd.R_elder' (Z1 HO186.out) (Kd.R_base ho11) hb)
     have n1_ := Aside0.mk (Kd.R_lower (Kd.R_newB (Kd.R_new' ho11 (Yd_ HO186.out)) (g := gb183) (o := .cells #[.int .i64 a1_0, .int .i64 a1_1, .int .i64 a1_2] 64 (0, 0)) (Z2 BK183.out)) (below_size (Z28)))
     have n2_ := Aside0.mk (blk_below (g := gb183) (o := .cells #[.int .i64 a1_0, .int .i64 a1_1, .int .i64 a1_2] 64 (0, 0)) (Z2 BK183.out) hb)
     have n3_ := Aside0.mk (below_step (Z28) hb)
     clear HO186
     clear BK183
     clear HB
     have HO186 := n0_
     have HO192 := n1_
     have BK183 := n2_
     have HB := n3_
     clear n0_ n1_ n2_ n3_
     clear hb ho11
     refine hK.out _ _ ⟨(blk_cell BK183.out 0).trans rfl, (blk_cell BK183.out 1).trans rfl, (blk_cell BK183.out 2).trans rfl⟩ (fun hHeld => ?_)
     clear hK K
     refine norm_ (a' := ?_) ?_ ?_
     rotate_left
     ·show Act.put _ (some 10) _ = _
      simp only [Act.put, List.setIfInBounds_toArray, List.set_cons_zero, List.set_cons_succ, i64_w, i32_w]
      rfl
     refine one_ (i := 2) (N := some 8) (M_ 5 6) rfl rfl (one_of HT_.out (by kernel_rfl)) (by decide) (fun K hK => ?_)
     refine Kd.R_append_rows_step k64 (w0 := w) w.heap.size (by rfl) (.tmp 6) (.tmp 7) 23 64 (.agg #[(.int .i64 0), (.int .i64 0), (.int .i64 0)]) 24 rfl Try.underlying23 info64 rfl (by decide) (by omega) v185 y184 l0 _ _ _ (fun k_ => some k_ ≠ (v191 : Value).ownBlock ∧ k_ ≠ gb183) (fun _ => False) rfl rfl ?aO ?aR (fun _ _ h => h) (fun _ h => h.elim) ?aF ?aB ?aS ?aL ?_
     (case aR => exact Z10 HR0.out)
     (case aB => exact Z28)
     (case aF => exact (fun k_ hk => ⟨Kd.fresh' (Yd_ HO192.out) k_ hk, Kd.freshB (g := gb183) (o := .cells #[.int .i64 a1_0, .int .i64 a1_1, .int .i64 a1_2] 64 (0, 0)) (Z2 BK183.out) k_ hk⟩))
     (case aO => exact (by (with_reducible repeat (first | apply Kd.R_alloc | apply Kd.R_drewN | apply Kd.R_drew)); exact Kd.R_mono HO186.out (fun _ hk => ⟨hk.2, hk.1.2⟩)))
     (case aS => exact (below_size (Z28)))
     (case aL => have := LMc3.out; omega)
     intro v188 w12 ho hb hg hat
     rw [← Ny187.out] at ho
     have n0_ := Aside0.mk (blk_grown (g := gb183) (o := .cells #[.int .i64 a1_0, .int .i64 a1_1, .int .i64 a1_2] 64 (0, 0)) (Z2 BK183.out) hg (Kd.R_away HO186.out (fun _ hk => hk.1.2)))
     have n1_ := Aside0.mk (Kd.R_after (ok := (fun k_ => k_ ≠ gb183)) (by (with_reducible repeat (first | apply Kd.R_alloc | apply Kd.R_drewN | apply Kd.R_drew)); exact Kd.R_mono HO192.out (fun _ hk => ⟨hk.2, hk.1.2⟩)) hg hat)
     have n2_ := Aside0.mk (hb)
     have n3_ := Aside0.mk (ho)
     clear BK183
     clear HO192
     clear HB
     clear HO186
     have BK183 := n0_
     have HO192 := n1_
     have HB := n2_
     have HO189 := n3_
     clear n0_ n1_ n2_ n3_
     clear ho hb hg hat
     refine hK.out _ _ ⟨(blk_cell BK183.out 0).trans rfl, (blk_cell BK183.out 1).trans rfl, (blk_cell BK183.out 2).trans rfl⟩ (fun hHeld => ?_)
     clear hK K
     refine norm_ (a' := ?_) ?_ ?_
     rotate_left
     ·show Act.put _ (some 8) _ = _
      simp only [Act.put, List.setIfInBounds_toArray, List.set_cons_zero, List.set_cons_succ, i64_w, i32_w]
      rfl
     exact norm_ (Z109) (hCont (v185, v188, v191) _ ⟨hHeld, (Z1 HO189.out), (Z158 HO192.out), (Z2 BK183.out), (Z28)⟩)
    skip
    refine Kd.R_lit_step k64 _ 64 ?hg (N := 10) ?hd (xs := ([(⟨a1_0, a1_1, a1_2⟩ : S64)] : List (S64))) (inner := [.int .i64 a1_0, .int .i64 a1_1, .int .i64 a1_2]) (ok := fun _ => True) (okp := fun _ => True) ?hr ?hp (fun _ hk => hk) trivial (Below.refl _ _) (Nat.le_refl _) (by simp) ?_; (case hd => rfl); (case hg => rfl); (case hr => exact Z100); (case hp => exact (Reps.c3 (show Kd.M k64 _ _ _ (⟨a1_0, a1_1, a1_2⟩ : S64) [.int .i64 a1_0, .int .i64 a1_1, .int .i64 a1_2] from (k64_mkM _ _ _ (⟨a1_0, a1_1, a1_2⟩ : S64) )) (Reps.none _ _)))
    intro v191 w8 ho9 hb hg_ hnew_
    clear hg_ hnew_
    (first | rw [← Ny190.out] at ho9 | (simp only [Int.reduceToNat] at ho9; rw [← Ny190.out] at ho9))
    have n0_ := Aside0.mk (Kd.R_lower (Kd.R_newB ho9 (g := gb183) (o := .cells #[.int .i64 a1_0, .int .i64 a1_1, .int .i64 a1_2] 64 (0, 0)) (Z2 BK183.out)) (below_size (Z28)))
    have n1_ := Aside0.mk (blk_below (g := gb183) (o := .cells #[.int .i64 a1_0, .int .i64 a1_1, .int .i64 a1_2] 64 (0, 0)) (Z2 BK183.out) hb)
    have n2_ := Aside0.mk (below_step (Z28) hb)
    clear BK183
    clear HB
    have HO192 := n0_
    have BK183 := n1_
    have HB := n2_
    clear n0_ n1_ n2_
    clear hb ho9
    refine hK.out _ _ ⟨(blk_cell BK183.out 0).trans rfl, (blk_cell BK183.out 1).trans rfl, (blk_cell BK183.out 2).trans rfl⟩ (fun hHeld => ?_)
    clear hK K
    refine norm_ (a' := ?_) ?_ ?_
    rotate_left
    ·show Act.put _ (some 10) _ = _
     simp only [Act.put, List.setIfInBounds_toArray, List.set_cons_zero, List.set_cons_succ, i64_w, i32_w]
     rfl
    refine one_ (i := 0) (N := some 6) (N_ 11 27) rfl rfl (one_of HT_.out (by kernel_rfl)) (by decide) (fun K hK => ?_)
    refine Kd.R_lit_step k64 _ 64 ?hg (N := 6) ?hd (xs := ([] : List (S64))) (inner := []) (ok := fun _ => True) (okp := fun _ => True) ?hr ?hp (fun _ hk => hk) trivial (Below.refl _ _) (Nat.le_refl _) (by simp) ?_; (case hd => rfl); (case hg => rfl); (case hr => exact Z100); (case hp => exact (Reps.none _ _))
    intro v185 w10 ho11 hb hg_ hnew_
    clear hg_ hnew_
    (first | rw [← Ny184.out] at ho11 | (simp only [Int.reduceToNat] at ho11; rw [← Ny184.out] at ho11))
    have n0_ := Aside0.mk (Kd.R_elder' (Z1 HO192.out) (Kd.R_base ho11) hb)
    have n1_ := Aside0.mk (Kd.R_lower (Kd.R_newB (Kd.R_new' ho11 (Yd_ HO192.out)) (g := gb183) (o := .cells #[.int .i64 a1_0, .int .i64 a1_1, .int .i64 a1_2] 64 (0, 0)) (Z2 BK183.out)) (below_size (Z28)))
    have n2_ := Aside0.mk (blk_below (g := gb183) (o := .cells #[.int .i64 a1_0, .int .i64 a1_1, .int .i64 a1_2] 64 (0, 0)) (Z2 BK183.out) hb)
    have n3_ := Aside0.mk (below_step (Z28) hb)
    clear HO192
    clear BK183
    clear HB
    have HO192 := n0_
    have HO186 := n1_
    have BK183 := n2_
    have HB := n3_
    clear n0_ n1_ n2_ n3_
    clear hb ho11
    refine hK.out _ _ ⟨(blk_cell BK183.out 0).trans rfl, (blk_cell BK183.out 1).trans rfl, (blk_cell BK183.out 2).trans rfl⟩ (fun hHeld => ?_)
    clear hK K
    refine norm_ (a' := ?_) ?_ ?_
    rotate_left
    ·show Act.put _ (some 6) _ = _
     simp only [Act.put, List.setIfInBounds_toArray, List.set_cons_zero, List.set_cons_succ, i64_w, i32_w]
     rfl
    refine one_ (i := 2) (N := some 8) (M_ 5 6) rfl rfl (one_of HT_.out (by kernel_rfl)) (by decide) (fun K hK => ?_)
    refine Kd.R_append_rows_step k64 (w0 := w) w.heap.size (by rfl) (.tmp 6) (.tmp 7) 23 64 (.agg #[(.int .i64 0), (.int .i64 0), (.int .i64 0)]) 24 rfl Try.underlying23 info64 rfl (by decide) (by omega) v185 y184 l0 _ _ _ (fun k_ => some k_ ≠ (v191 : Value).ownBlock ∧ k_ ≠ gb183) (fun _ => False) rfl rfl ?aO ?aR (fun _ _ h => h) (fun _ h => h.elim) ?aF ?aB ?aS ?aL ?_
    (case aR => exact Z10 HR0.out)
    (case aB => exact Z28)
    (case aF => exact (fun k_ hk => ⟨Kd.fresh' (Yd_ HO192.out) k_ hk, Kd.freshB (g := gb183) (o := .cells #[.int .i64 a1_0, .int .i64 a1_1, .int .i64 a1_2] 64 (0, 0)) (Z2 BK183.out) k_ hk⟩))
    (case aO => exact Z134 HO186.out)
    (case aS => exact (below_size (Z28)))
    (case aL => have := LMc3.out; omega)
    intro v188 w12 ho hb hg hat
    rw [← Ny187.out] at ho
    have n0_ := Aside0.mk (blk_grown (g := gb183) (o := .cells #[.int .i64 a1_0, .int .i64 a1_1, .int .i64 a1_2] 64 (0, 0)) (Z2 BK183.out) hg (Kd.R_away HO186.out (fun _ hk => hk.2)))
    have n1_ := Aside0.mk (Kd.R_after (ok := (fun k_ => k_ ≠ gb183)) (Z134 HO192.out) hg hat)
    have n2_ := Aside0.mk (hb)
    have n3_ := Aside0.mk (ho)
    clear BK183
    clear HO192
    clear HB
    clear HO186
    have BK183 := n0_
    have HO192 := n1_
    have HB := n2_
    have HO189 := n3_
    clear n0_ n1_ n2_ n3_
    clear ho hb hg hat
    refine hK.out _ _ ⟨(blk_cell BK183.out 0).trans rfl, (blk_cell BK183.out 1).trans rfl, (blk_cell BK183.out 2).trans rfl⟩ (fun hHeld => ?_)
    clear hK K
    refine norm_ (a' := ?_) ?_ ?_
    rotate_left
    ·show Act.put _ (some 8) _ = _
     simp only [Act.put, List.setIfInBounds_toArray, List.set_cons_zero, List.set_cons_succ, i64_w, i32_w]
     rfl
    exact norm_ (Z109) (hCont (v185, v188, v191) _ ⟨hHeld, (Z1 HO189.out), (Z158 HO192.out), (Z2 BK183.out), (Z28)⟩)
   rintro ⟨v185, v188, v191⟩ w13 ⟨hS_, h0_, h1_, h2_, h3_⟩
   have n0_ : Aside0 (Kd.R k64 64 w13 w.heap.size (fun k_ => some k_ ≠ (v191 : Value).ownBlock ∧ k_ ≠ gb183) v188 y187) := ⟨h0_⟩
   have n1_ : Aside0 (Kd.R k64 64 w13 w.heap.size (fun k_ => some k_ ≠ (v188 : Value).ownBlock ∧ k_ ≠ gb183) v191 y190) := ⟨h1_⟩
   have n2_ : Aside0 (w13.heap[gb183]? = some (.cells #[.int .i64 a1_0, .int .i64 a1_1, .int .i64 a1_2] 64 (0, 0))) := ⟨h2_⟩
   have n3_ : Aside0 (Below w.heap.size w w13) := ⟨h3_⟩
   clear BK183
   clear HB
   clear h0_ h1_ h2_ h3_
   have HO189 := n0_
   have HO192 := n1_
   have BK183 := n2_
   have HB := n3_
   clear n0_ n1_ n2_ n3_
   have hHeld : w13.cell? ⟨gb183, 0, none⟩ = some (.int .i64 a1_0) ∧ w13.cell? ⟨gb183, 1, none⟩ = some (.int .i64 a1_1) ∧ w13.cell? ⟨gb183, 2, none⟩ = some (.int .i64 a1_2) := hS_
   obtain ⟨Ao15, co15, eo15⟩ := Kd.R_slice HO192.out
   (first | subst eo15 | (injection eo15 with f1_ f2_ f3_; have f4_ := f1_.symm; have f5_ := f3_.symm; clear f1_ f2_ f3_; subst f4_; subst f5_))
   refine norm_ (a' := ?_) ?_ ?_
   rotate_left
   ·simp only [putAll, Act.put, List.setIfInBounds_toArray, List.set_cons_zero, List.set_cons_succ]
    rfl
   refine one_ (i := 5) (N := some 11) (M_ 6 5) rfl rfl (one_of HT_.out (by kernel_rfl)) (by decide) (fun K hK => ?_)
   refine Kd.R_append_rows_step k64 (w0 := w) w.heap.size (by rfl) (.tmp 8) (.tmp 10) 23 64 (.agg #[(.int .i64 0), (.int .i64 0), (.int .i64 0)]) 24 rfl Try.underlying23 info64 rfl (by decide) (by omega) v188 y187 y190 _ _ _ (fun k_ => some k_ ≠ (.slice Ao15 y190.length co15 : Value).ownBlock ∧ k_ ≠ gb183) (fun _ => False) rfl rfl ?aO ?aR (fun _ _ h => h) (fun _ h => h.elim) ?aF ?aB ?aS ?aL ?_
   (case aR => exact Z7 HO192.out)
   (case aB => exact Z28)
   (case aF => exact (fun k_ hk => ⟨Kd.fresh' (Yd_ HO192.out) k_ hk, Kd.freshB (g := gb183) (o := .cells #[.int .i64 a1_0, .int .i64 a1_1, .int .i64 a1_2] 64 (0, 0)) (Z2 BK183.out) k_ hk⟩))
   (case aO => exact Z1 HO189.out)
   (case aS => exact (below_size (Z28)))
   (case aL => have := LMc4.out; omega)
   intro v194 w14 ho hb hg hat
   rw [← Ny193.out] at ho
   have n0_ := Aside0.mk (blk_grown (g := gb183) (o := .cells #[.int .i64 a1_0, .int .i64 a1_1, .int .i64 a1_2] 64 (0, 0)) (Z2 BK183.out) hg (Kd.R_away HO189.out (fun _ hk => hk.2)))
   have n1_ := Aside0.mk (Kd.R_after (ok := (fun k_ => k_ ≠ gb183)) (Z158 HO192.out) hg hat)
   have n2_ := Aside0.mk (hb)
   have n3_ := Aside0.mk (ho)
   clear BK183
   clear HO192
   clear HB
   clear HO189
   have BK183 := n0_
   have HO192 := n1_
   have HB := n2_
   have HO195 := n3_
   clear n0_ n1_ n2_ n3_
   clear ho hb hg hat
   obtain ⟨Ao16, co16, eo16⟩ := Kd.R_slice HO195.out
   (first | subst eo16 | (injection eo16 with f1_ f2_ f3_; have f4_ := f1_.symm; have f5_ := f3_.symm; clear f1_ f2_ f3_; subst f4_; subst f5_))
   refine hK.out _ _ ⟨(blk_cell BK183.out 0).trans rfl, (blk_cell BK183.out 1).trans rfl, (blk_cell BK183.out 2).trans rfl⟩ (fun hHeld => ?_)
   clear hK K
   refine norm_ (a' := ?_) ?_ ?_
   rotate_left
   ·show Act.put _ (some 11) _ = _
    simp only [Act.put, List.setIfInBounds_toArray, List.set_cons_zero, List.set_cons_succ, i64_w, i32_w]
    rfl
   refine one_ (i := 6) (N := some 12) (M_ 7 4) rfl rfl (one_of HT_.out (by kernel_rfl)) (by decide) (fun K hK => ?_)
   refine goes_ Try.func52 (by kernel_rfl) rfl #[.slice Ao16 y193.length co16] (by rfl) rfl rfl (Z84) ?_
   with_reducible refine (spec_shSorted.calls k _ _ y193 t196 t197 _ ?side1 ?side2 A5.out).mono ?_
   (case side1 => exact Z7 HO195.out)
   (case side2 => exact (Kd.R_reads' HO195.out).2.1)
   rintro e w17 ⟨v198, rfl, ho0, hb⟩
   refine ⟨_, rfl, ?_⟩
   have n0_ := Aside0.mk (Yb_ HO192.out)
   have n1_ := Aside0.mk (Yb_ HO195.out)
   have n2_ := Aside0.mk (Kd.R_lower (Kd.R_newB (Kd.R_new' (Kd.R_new' ho0 (Yd_ HO192.out)) (Yd_ HO195.out)) (g := gb183) (o := .cells #[.int .i64 a1_0, .int .i64 a1_1, .int .i64 a1_2] 64 (0, 0)) (Z2 BK183.out)) (below_size (Z28)))
   have n3_ := Aside0.mk (blk_below (g := gb183) (o := .cells #[.int .i64 a1_0, .int .i64 a1_1, .int .i64 a1_2] 64 (0, 0)) (Z2 BK183.out) hb)
   have n4_ := Aside0.mk (below_step (Z28) hb)
   clear HO192
   clear HO195
   clear BK183
   clear HB
   have HO192 := n0_
   have HO195 := n1_
   have HO199 := n2_
   have BK183 := n3_
   have HB := n4_
   clear n0_ n1_ n2_ n3_ n4_
   (try clear hb)
   (try clear hb2)
   (try clear hk)
   (try clear hi)
   (try clear ho0)
   refine hK.out _ _ ⟨(blk_cell BK183.out 0).trans rfl, (blk_cell BK183.out 1).trans rfl, (blk_cell BK183.out 2).trans rfl⟩ (fun hHeld => ?_)
   clear hK K
   refine norm_ (a' := ?_) ?_ ?_
   rotate_left
   ·show Act.put _ (some 12) _ = _
    simp only [Act.put, List.setIfInBounds_toArray, List.set_cons_zero, List.set_cons_succ, i64_w, i32_w]
    rfl
   refine pu_ 7 13 (M_ 8 3) ?_
   refine pu_ 8 14 (M_ 9 2) ?_
   refine pu_ 9 4 (M_ 10 1) ?_
   refine pu_ 10 5 (M_ 11 0) ?_
   refine done_ (done_of HT_.out (by kernel_rfl)) ?_
   try go_wp2
   go_ret2
   exact ⟨_, Z11, Z103 HO199.out, Z28⟩
  rw [if_neg c4] at H
  exact absurd H (by simp)
 rw [if_neg c3] at H
 exact absurd H (by simp)

/-! ### spec_l1Cur_hole: function 51 -/
def spec_l1Cur_hole.f (s0_0 : List Int) (s0_1 : Int) (s0_2 : Int) : Option (Int × Int × Int × Int × Int) := (spec_l1Cur_pick.f s0_0 s0_1 s0_2 40).bind fun bt201 => ((spec_l1Cur_pick.f s0_0 bt201.2.1 bt201.2.2 60).bind fun bt204 => ((spec_l1Cur_among.f s0_0 bt204.2.1 bt204.2.2 (([0, 2, 5, bt201.1, bt204.1, 1990] : List Int))).bind fun bt210 => ((spec_l1Cur_pick.f s0_0 bt210.2.1 bt210.2.2 20).bind fun bt213 => ((spec_l1Cur_among.f s0_0 bt213.2.1 bt213.2.2 (([0, 1, 2, 3, 5, bt213.1] : List Int))).bind fun bt219 => ((spec_l1Cur_among.f s0_0 bt219.2.1 bt219.2.2 (([1, 2, 3, 4, 10] : List Int))).bind fun bt225 => (some (bt219.1, bt210.1, wrap64 (bt210.1 + bt225.1), bt225.2.1, bt225.2.2)))))))
set_option maxHeartbeats 8000000 in
set_option maxRecDepth 100000 in
theorem spec_l1Cur_hole.calls (g : Nat) (s0_0 : List Int) (s0_1 : Int) (s0_2 : Int) (r1 : Int) (r2 : Int) (r3 : Int) (r4 : Int) (r5 : Int) (w0 w : World) (hI : IsS49 w0 w g s0_0 s0_1 s0_2) (hB : Below w0.heap.size w0 w) (h : spec_l1Cur_hole.f s0_0 s0_1 s0_2 = some (r1, r2, r3, r4, r5)) :
  Calls Try.prog 51 #[.pointer (some ⟨g, 0, none⟩)] w fun e w' => e = .returned (.agg #[.int .i64 r1, .int .i64 r2, .int .i64 r3]) ∧ IsS49 w0 w' g s0_0 r4 r5 ∧ Below w0.heap.size w0 w' ∧ KeepBut w w' g none := by
 have hu64 := Try.underlying64
 have HI0 := Aside0.mk hI
 have HK := Aside0.mk (KeepBut.refl w g none)
 have HL := Aside0.mk hB.size
 clear hI
 have HW0 := Aside0.mk hB.size
 have HB := Aside0.mk hB
 clear hB
 have H : ((spec_l1Cur_pick.f s0_0 s0_1 s0_2 40).bind fun bt201 => ((spec_l1Cur_pick.f s0_0 bt201.2.1 bt201.2.2 60).bind fun bt204 => ((spec_l1Cur_among.f s0_0 bt204.2.1 bt204.2.2 (([0, 2, 5, bt201.1, bt204.1, 1990] : List Int))).bind fun bt210 => ((spec_l1Cur_pick.f s0_0 bt210.2.1 bt210.2.2 20).bind fun bt213 => ((spec_l1Cur_among.f s0_0 bt213.2.1 bt213.2.2 (([0, 1, 2, 3, 5, bt213.1] : List Int))).bind fun bt219 => ((spec_l1Cur_among.f s0_0 bt219.2.1 bt219.2.2 (([1, 2, 3, 4, 10] : List Int))).bind fun bt225 => (some (bt219.1, bt210.1, wrap64 (bt210.1 + bt225.1), bt225.2.1, bt225.2.2)))))))) = some (r1, r2, r3, r4, r5) := h
 clear h
 replace H := Option.bind_eq_some_iff.mp H
 obtain ⟨⟨t201, t202, t203⟩, A20, H⟩ := H
 (try dsimp only at H)
 have A2 := Aside0.mk A20
 clear A20
 replace H := Option.bind_eq_some_iff.mp H
 obtain ⟨⟨t204, t205, t206⟩, A30, H⟩ := H
 (try dsimp only at H)
 have A3 := Aside0.mk A30
 clear A30
 obtain ⟨y207, hy207⟩ : ∃ y_ : List Int, y_ = (([0, 2, 5, t201, t204, 1990] : List Int)) := ⟨_, rfl⟩
 replace H : ((spec_l1Cur_among.f s0_0 t205 t206 y207).bind fun bt210 => ((spec_l1Cur_pick.f s0_0 bt210.2.1 bt210.2.2 20).bind fun bt213 => ((spec_l1Cur_among.f s0_0 bt213.2.1 bt213.2.2 (([0, 1, 2, 3, 5, bt213.1] : List Int))).bind fun bt219 => ((spec_l1Cur_among.f s0_0 bt219.2.1 bt219.2.2 (([1, 2, 3, 4, 10] : List Int))).bind fun bt225 => (some (bt219.1, bt210.1, wrap64 (bt210.1 + bt225.1), bt225.2.1, bt225.2.2)))))) = some (r1, r2, r3, r4, r5) := by first | (rw [hy207]; with_reducible exact H) | (have H2_ := (Option.bind_some _ _).symm.trans H; rw [hy207]; with_reducible exact H2_) | (have H2_ := (Option.bind_some _ _).symm.trans H; with_reducible exact H2_) | with_reducible exact H | (rw [hy207]; exact H) | exact H
 have Ny207 := Aside0.mk hy207
 clear hy207
 replace H := Option.bind_eq_some_iff.mp H
 obtain ⟨⟨t210, t211, t212⟩, A40, H⟩ := H
 (try dsimp only at H)
 have A4 := Aside0.mk A40
 clear A40
 replace H := Option.bind_eq_some_iff.mp H
 obtain ⟨⟨t213, t214, t215⟩, A50, H⟩ := H
 (try dsimp only at H)
 have A5 := Aside0.mk A50
 clear A50
 obtain ⟨y216, hy216⟩ : ∃ y_ : List Int, y_ = (([0, 1, 2, 3, 5, t213] : List Int)) := ⟨_, rfl⟩
 replace H : ((spec_l1Cur_among.f s0_0 t214 t215 y216).bind fun bt219 => ((spec_l1Cur_among.f s0_0 bt219.2.1 bt219.2.2 (([1, 2, 3, 4, 10] : List Int))).bind fun bt225 => (some (bt219.1, t210, wrap64 (t210 + bt225.1), bt225.2.1, bt225.2.2)))) = some (r1, r2, r3, r4, r5) := by first | (rw [hy216]; with_reducible exact H) | (have H2_ := (Option.bind_some _ _).symm.trans H; rw [hy216]; with_reducible exact H2_) | (have H2_ := (Option.bind_some _ _).symm.trans H; with_reducible exact H2_) | with_reducible exact H | (rw [hy216]; exact H) | exact H
 have Ny216 := Aside0.mk hy216
 clear hy216
 replace H := Option.bind_eq_some_iff.mp H
 obtain ⟨⟨t219, t220, t221⟩, A60, H⟩ := H
 (try dsimp only at H)
 have A6 := Aside0.mk A60
 clear A60
 obtain ⟨y222, hy222⟩ : ∃ y_ : List Int, y_ = (([1, 2, 3, 4, 10] : List Int)) := ⟨_, rfl⟩
 replace H : ((spec_l1Cur_among.f s0_0 t220 t221 y222).bind fun bt225 => (some (t219, t210, wrap64 (t210 + bt225.1), bt225.2.1, bt225.2.2))) = some (r1, r2, r3, r4, r5) := by first | (rw [hy222]; with_reducible exact H) | (have H2_ := (Option.bind_some _ _).symm.trans H; rw [hy222]; with_reducible exact H2_) | (have H2_ := (Option.bind_some _ _).symm.trans H; with_reducible exact H2_) | with_reducible exact H | (rw [hy222]; exact H) | exact H
 have Ny222 := Aside0.mk hy222
 clear hy222
 replace H := Option.bind_eq_some_iff.mp H
 obtain ⟨⟨t225, t226, t227⟩, A70, H⟩ := H
 (try dsimp only at H)
 have A7 := Aside0.mk A70
 clear A70
 simp only [Option.some.injEq, Prod.mk.injEq] at H
 obtain ⟨rfl, rfl, rfl, rfl, rfl⟩ := H
 go_enter Try.func51, Try.ntmps51
 go_wp2_with (first | ((with_reducible refine gate_dst (N := 2) rfl ?_); refine bv_ 2 64 #[.int .i64 0, .int .i64 0, .int .i64 0] ?_; intro gb200 hg w8 hbox hb; refine k8_ (IsS49.below (Z4 HI0.out) hb) (KeepBut.trans (Z6) (KeepBut.of_below hb g none) (.inl rfl)) (below_step (Z9) hb) (hbox) ((Z123 : w.heap.size ≤ gb200)) ((Nat.le_trans HW0.out (Z123 : w.heap.size ≤ gb200) : w0.heap.size ≤ gb200)) ((Z156 : g ≠ gb200)) ((Z157 : gb200 ≠ g)) ?_; clear HI0 HK HB; intro HI0 HK HB BK200 GW200 GE200 NB0_200 NB200_0; clear hb hbox hg) | ((with_reducible refine gate_callee (f := 22) rfl ?_); refine gl_ 6 Try.func22 #[.pointer (some ⟨g, 0, none⟩), .int .i64 40] ?_; (with_reducible refine (spec_l1Cur_pick.calls g s0_0 s0_1 s0_2 40 t201 t202 t203 w0 _ ?_ ?_ A2.out).mono ?_); exact Z45; exact Z78; rintro e w9 ⟨rfl, hi, hb, hk⟩; refine ⟨_, rfl, ?_⟩; refine k4_ (KeepBut.blk hk (g' := gb200) (o := .cells #[.int .i64 0, .int .i64 0, .int .i64 0] 64 (0, 0)) (Z2 BK200.out) NB200_0.out (by simp)) (KeepBut.trans (Z74) hk (.inl rfl)) (hb) (hi) ?_; clear BK200 HK HB HI0; intro BK200 HK HB HI0; (try clear hb hk hi)) | ((with_reducible refine gate_callee (f := 22) rfl ?_); refine gl_ 8 Try.func22 #[.pointer (some ⟨g, 0, none⟩), .int .i64 60] ?_; (with_reducible refine (spec_l1Cur_pick.calls g s0_0 t202 t203 60 t204 t205 t206 w0 _ ?_ ?_ A3.out).mono ?_); exact Z45; exact Z78; rintro e w10 ⟨rfl, hi, hb, hk⟩; refine ⟨_, rfl, ?_⟩; refine k4_ (KeepBut.blk hk (g' := gb200) (o := .cells #[.int .i64 0, .int .i64 0, .int .i64 0] 64 (0, 0)) (Z2 BK200.out) NB200_0.out (by simp)) (KeepBut.trans (Z74) hk (.inl rfl)) (hb) (hi) ?_; clear BK200 HK HB HI0; intro BK200 HK HB HI0; (try clear hb hk hi)) | ((with_reducible refine gate_dst (N := 9) rfl ?_); refine Kd.R_lit (Kd.int .i64) _ 3 ?hg (N := 9) ?hd (xs := ([0, 2, 5, t201, t204, 1990] : List Int)) (inner := [.int .i64 0, .int .i64 2, .int .i64 5, .int .i64 t201, .int .i64 t204, .int .i64 1990]) (ok := fun _ => True) (okp := fun _ => True) ?hr ?hp (fun _ hk => hk) trivial (Below.refl _ _) (Nat.le_refl _) (by simp) ?_; (case hd => rfl); (case hg => rfl); (case hr => exact Z100); (case hp => exact (Reps.one (show Kd.M (Kd.int .i64) _ _ _ 0 [.int .i64 0] from rfl) (Reps.one (show Kd.M (Kd.int .i64) _ _ _ 2 [.int .i64 2] from rfl) (Reps.one (show Kd.M (Kd.int .i64) _ _ _ 5 [.int .i64 5] from rfl) (Reps.one (show Kd.M (Kd.int .i64) _ _ _ t201 [.int .i64 t201] from rfl) (Reps.one (show Kd.M (Kd.int .i64) _ _ _ t204 [.int .i64 t204] from rfl) (Reps.one (show Kd.M (Kd.int .i64) _ _ _ 1990 [.int .i64 1990] from rfl) (Reps.none _ _)))))))); intro v208 w11 ho12 hb hg_ hnew_; clear hg_ hnew_; (first | rw [← Ny207.out] at ho12 | (simp only [Int.reduceToNat] at ho12; rw [← Ny207.out] at ho12)); refine k5_ (Kd.R_lower ho12 (keep_size (w := w) (g := g) (row := none) (Z74))) (IsS49.below (Z45) hb) (blk_below (g := gb200) (o := .cells #[.int .i64 0, .int .i64 0, .int .i64 0] 64 (0, 0)) (Z2 BK200.out) hb) (KeepBut.trans (Z74) (KeepBut.of_below hb g none) (.inl rfl)) (below_step (Z78) hb) ?_; clear HI0 BK200 HK HB; intro HO209 HI0 BK200 HK HB; clear hb ho12; obtain ⟨Ao13, co13, eo13⟩ := Kd.R_slice HO209.out; subst eo13) | ((with_reducible refine gate_callee (f := 24) rfl ?_); refine gl_ 10 Try.func24 #[.pointer (some ⟨g, 0, none⟩), .slice Ao13 y207.length co13] ?_; (with_reducible refine (spec_l1Cur_among.calls g s0_0 t205 t206 _ _ y207 t210 t211 t212 w0 _ ?_ ?_ ?_ ?_ ?_ A4.out).mono ?_); exact Z45; exact Z78; exact Z7 HO209.out; exact (Kd.R_reads' HO209.out).2.1; exact far_slice (IsS49.own_ne HI0.out HO209.out (by decide)); rintro e w14 ⟨rfl, hi, hb, hk⟩; refine ⟨_, rfl, ?_⟩; refine k5_ (KeepBut.blk hk (g' := gb200) (o := .cells #[.int .i64 0, .int .i64 0, .int .i64 0] 64 (0, 0)) (Z2 BK200.out) NB200_0.out (by simp)) (Kd.R_mono (Kd.R_keep (IsS49.apart (show IsS49 w0 _ g s0_0 t205 t206 from Z45) (Z1 HO209.out) (by decide)) hk (fun _ h => h.2)) (fun _ h => h.1)) (KeepBut.trans (Z74) hk (.inl rfl)) (hb) (hi) ?_; clear BK200 HO209 HK HB HI0; intro BK200 HO209 HK HB HI0; (try clear hb hk hi)) | ((with_reducible refine gate_callee (f := 22) rfl ?_); refine gl_ 13 Try.func22 #[.pointer (some ⟨g, 0, none⟩), .int .i64 20] ?_; (with_reducible refine (spec_l1Cur_pick.calls g s0_0 t211 t212 20 t213 t214 t215 w0 _ ?_ ?_ A5.out).mono ?_); exact Z45; exact Z78; rintro e w15 ⟨rfl, hi, hb, hk⟩; refine ⟨_, rfl, ?_⟩; refine k5_ (KeepBut.blk hk (g' := gb200) (o := .cells #[.int .i64 0, .int .i64 0, .int .i64 0] 64 (0, 0)) (Z2 BK200.out) NB200_0.out (by simp)) (Kd.R_mono (Kd.R_keep (IsS49.apart (show IsS49 w0 _ g s0_0 t211 t212 from Z45) (Z1 HO209.out) (by decide)) hk (fun _ h => h.2)) (fun _ h => h.1)) (KeepBut.trans (Z74) hk (.inl rfl)) (hb) (hi) ?_; clear BK200 HO209 HK HB HI0; intro BK200 HO209 HK HB HI0; (try clear hb hk hi)) | ((with_reducible refine gate_dst (N := 14) rfl ?_); refine Kd.R_lit (Kd.int .i64) _ 3 ?hg (N := 14) ?hd (xs := ([0, 1, 2, 3, 5, t213] : List Int)) (inner := [.int .i64 0, .int .i64 1, .int .i64 2, .int .i64 3, .int .i64 5, .int .i64 t213]) (ok := fun _ => True) (okp := fun _ => True) ?hr ?hp (fun _ hk => hk) trivial (Below.refl _ _) (Nat.le_refl _) (by simp) ?_; (case hd => rfl); (case hg => rfl); (case hr => exact Z100); (case hp => exact (Reps.one (show Kd.M (Kd.int .i64) _ _ _ 0 [.int .i64 0] from rfl) (Reps.one (show Kd.M (Kd.int .i64) _ _ _ 1 [.int .i64 1] from rfl) (Reps.one (show Kd.M (Kd.int .i64) _ _ _ 2 [.int .i64 2] from rfl) (Reps.one (show Kd.M (Kd.int .i64) _ _ _ 3 [.int .i64 3] from rfl) (Reps.one (show Kd.M (Kd.int .i64) _ _ _ 5 [.int .i64 5] from rfl) (Reps.one (show Kd.M (Kd.int .i64) _ _ _ t213 [.int .i64 t213] from rfl) (Reps.none _ _)))))))); intro v217 w16 ho17 hb hg_ hnew_; clear hg_ hnew_; (first | rw [← Ny216.out] at ho17 | (simp only [Int.reduceToNat] at ho17; rw [← Ny216.out] at ho17)); refine k6_ (Kd.R_elder' (Z1 HO209.out) (Kd.R_base ho17) hb) (Kd.R_lower (Kd.R_new' ho17 (Yd_ HO209.out)) (keep_size (w := w) (g := g) (row := none) (Z74))) (IsS49.below (Z45) hb) (blk_below (g := gb200) (o := .cells #[.int .i64 0, .int .i64 0, .int .i64 0] 64 (0, 0)) (Z2 BK200.out) hb) (KeepBut.trans (Z74) (KeepBut.of_below hb g none) (.inl rfl)) (below_step (Z78) hb) ?_; clear HO209 HI0 BK200 HK HB; intro HO209 HO218 HI0 BK200 HK HB; clear hb ho17; obtain ⟨Ao18, co18, eo18⟩ := Kd.R_slice HO218.out; subst eo18) | ((with_reducible refine gate_callee (f := 24) rfl ?_); refine gl_ 15 Try.func24 #[.pointer (some ⟨g, 0, none⟩), .slice Ao18 y216.length co18] ?_; (with_reducible refine (spec_l1Cur_among.calls g s0_0 t214 t215 _ _ y216 t219 t220 t221 w0 _ ?_ ?_ ?_ ?_ ?_ A6.out).mono ?_); exact Z45; exact Z78; exact Z7 HO218.out; exact (Kd.R_reads' HO218.out).2.1; exact far_slice (IsS49.own_ne HI0.out HO218.out (by decide)); rintro e w19 ⟨rfl, hi, hb, hk⟩; refine ⟨_, rfl, ?_⟩; refine k6_ (KeepBut.blk hk (g' := gb200) (o := .cells #[.int .i64 0, .int .i64 0, .int .i64 0] 64 (0, 0)) (Z2 BK200.out) NB200_0.out (by simp)) (Kd.R_mono (Kd.R_keep (IsS49.apart (show IsS49 w0 _ g s0_0 t214 t215 from Z45) (Z1 HO209.out) (by decide)) hk (fun _ h => h.2)) (fun _ h => h.1)) (Kd.R_mono (Kd.R_keep (IsS49.apart (show IsS49 w0 _ g s0_0 t214 t215 from Z45) (Z1 HO218.out) (by decide)) hk (fun _ h => h.2)) (fun _ h => h.1)) (KeepBut.trans (Z74) hk (.inl rfl)) (hb) (hi) ?_; clear BK200 HO209 HO218 HK HB HI0; intro BK200 HO209 HO218 HK HB HI0; (try clear hb hk hi)) | ((with_reducible refine gate_dst (N := 19) rfl ?_); refine Kd.R_lit (Kd.int .i64) _ 3 ?hg (N := 19) ?hd (xs := ([1, 2, 3, 4, 10] : List Int)) (inner := [.int .i64 1, .int .i64 2, .int .i64 3, .int .i64 4, .int .i64 10]) (ok := fun _ => True) (okp := fun _ => True) ?hr ?hp (fun _ hk => hk) trivial (Below.refl _ _) (Nat.le_refl _) (by simp) ?_; (case hd => rfl); (case hg => rfl); (case hr => exact Z100); (case hp => exact (Reps.one (show Kd.M (Kd.int .i64) _ _ _ 1 [.int .i64 1] from rfl) (Reps.one (show Kd.M (Kd.int .i64) _ _ _ 2 [.int .i64 2] from rfl) (Reps.one (show Kd.M (Kd.int .i64) _ _ _ 3 [.int .i64 3] from rfl) (Reps.one (show Kd.M (Kd.int .i64) _ _ _ 4 [.int .i64 4] from rfl) (Reps.one (show Kd.M (Kd.int .i64) _ _ _ 10 [.int .i64 10] from rfl) (Reps.none _ _))))))); intro v223 w20 ho21 hb hg_ hnew_; clear hg_ hnew_; (first | rw [← Ny222.out] at ho21 | (simp only [Int.reduceToNat] at ho21; rw [← Ny222.out] at ho21)); refine k7_ (Kd.R_elder' (Z1 HO209.out) (Kd.R_base ho21) hb) (Kd.R_elder' (Z1 HO218.out) (Kd.R_base ho21) hb) (Kd.R_lower (Kd.R_new' (Kd.R_new' ho21 (Yd_ HO209.out)) (Yd_ HO218.out)) (keep_size (w := w) (g := g) (row := none) (Z74))) (IsS49.below (Z45) hb) (blk_below (g := gb200) (o := .cells #[.int .i64 0, .int .i64 0, .int .i64 0] 64 (0, 0)) (Z2 BK200.out) hb) (KeepBut.trans (Z74) (KeepBut.of_below hb g none) (.inl rfl)) (below_step (Z78) hb) ?_; clear HO209 HO218 HI0 BK200 HK HB; intro HO209 HO218 HO224 HI0 BK200 HK HB; clear hb ho21; obtain ⟨Ao22, co22, eo22⟩ := Kd.R_slice HO224.out; subst eo22) | ((with_reducible refine gate_callee (f := 24) rfl ?_); refine gl_ 20 Try.func24 #[.pointer (some ⟨g, 0, none⟩), .slice Ao22 y222.length co22] ?_; (with_reducible refine (spec_l1Cur_among.calls g s0_0 t220 t221 _ _ y222 t225 t226 t227 w0 _ ?_ ?_ ?_ ?_ ?_ A7.out).mono ?_); exact Z45; exact Z78; exact Z7 HO224.out; exact (Kd.R_reads' HO224.out).2.1; exact far_slice (IsS49.own_ne HI0.out HO224.out (by decide)); rintro e w23 ⟨rfl, hi, hb, hk⟩; refine ⟨_, rfl, ?_⟩; refine k7_ (KeepBut.blk hk (g' := gb200) (o := .cells #[.int .i64 0, .int .i64 0, .int .i64 0] 64 (0, 0)) (Z2 BK200.out) NB200_0.out (by simp)) (Kd.R_mono (Kd.R_keep (IsS49.apart (show IsS49 w0 _ g s0_0 t220 t221 from Z45) (Z1 HO209.out) (by decide)) hk (fun _ h => h.2)) (fun _ h => h.1)) (Kd.R_mono (Kd.R_keep (IsS49.apart (show IsS49 w0 _ g s0_0 t220 t221 from Z45) (Z1 HO218.out) (by decide)) hk (fun _ h => h.2)) (fun _ h => h.1)) (Kd.R_mono (Kd.R_keep (IsS49.apart (show IsS49 w0 _ g s0_0 t220 t221 from Z45) (Z1 HO224.out) (by decide)) hk (fun _ h => h.2)) (fun _ h => h.1)) (KeepBut.trans (Z74) hk (.inl rfl)) (hb) (hi) ?_; clear BK200 HO209 HO218 HO224 HK HB HI0; intro BK200 HO209 HO218 HO224 HK HB HI0; (try clear hb hk hi); have hnb24 := NB200_0.out; have hnc24 := NB0_200.out; obtain ⟨hcz25_0, hcz25_1, hcz25_2, hfz25_0, hfz25_1, hfz25_2⟩ := bx3_ (w := w23) BK200.out))
 refine bodyPost_ret (results_cell_row rfl _ _ gb200 64 #[.int .i64 t219, .int .i64 t210, .int .i64 (wrap64 (t210 + t225))] (0, 0) _ rfl (by (with_reducible repeat (first | refine blk_drewN ?_ _ | refine blk_drew ?_ | refine blk_alloc ?_ _)); refine blk_put (cs := #[.int .i64 t219, .int .i64 t210, .int .i64 0]) ?_ 2 _ rfl; (with_reducible repeat (first | refine blk_drewN ?_ _ | refine blk_drew ?_ | refine blk_alloc ?_ _)); refine blk_put (cs := #[.int .i64 t219, .int .i64 0, .int .i64 0]) ?_ 1 _ rfl; (with_reducible repeat (first | refine blk_drewN ?_ _ | refine blk_drew ?_ | refine blk_alloc ?_ _)); refine blk_put (cs := #[.int .i64 0, .int .i64 0, .int .i64 0]) ?_ 0 _ rfl; (with_reducible repeat (first | refine blk_drewN ?_ _ | refine blk_drew ?_ | refine blk_alloc ?_ _)); exact BK200.out) Try.underlying64 rfl (by kernel_rfl)) rfl ?_
 exact ⟨Z11, Z45, Z78, Z74⟩

/-! ### spec_l1Cur_sheet: function 43 -/
mutual
def spec_l1Cur_sheet.l0 : Nat → List (S64) → List Int → Int → Int → Option ((List (S64)) × Int × Int)
 | 0, _, _, _, _ => none
 | k + 1, x3, x1000, x1001, x1002 => if (x3.length : Int) < 60 then ((spec_l1Cur_pick.f x1000 x1001 x1002 5).bind fun bt231 => (if x3.length < 5864062014805 then (spec_l1Cur_sheet.l0 k (x3 ++ [(⟨3 * ((x3.length : Int) % 5), wrap64 (6 * (wrap64 ((x3.length : Int) / 5))), wrap64 ((wrap64 ((wrap64 (6 * (wrap64 ((x3.length : Int) / 5)))) + 1)) + bt231.1)⟩ : S64)]) x1000 bt231.2.1 bt231.2.2) else (none))) else (some (x3, x1001, x1002))
def spec_l1Cur_sheet.l1 : Nat → List (S64) → Int → Int → List Int → Int → Int → Option ((List (S64)) × Int × Int)
 | 0, _, _, _, _, _, _ => none
 | k + 1, x3, x5, x6, x1000, x1001, x1002 => if (x3.length : Int) < x5 then (spec_l1Cur_sheet.j2 k x3 x5 x6 (decide (x6 < 60)) x1000 x1001 x1002) else (spec_l1Cur_sheet.j2 k x3 x5 x6 false x1000 x1001 x1002)
def spec_l1Cur_sheet.j2 : Nat → List (S64) → Int → Int → Bool → List Int → Int → Int → Option ((List (S64)) × Int × Int)
 | 0, _, _, _, _, _, _, _ => none
 | k + 1, x3, x5, x6, x42, x1000, x1001, x1002 => if x42 = true then ((spec_l1Cur_hole.f x1000 x1001 x1002).bind fun bt240 => ((spec_shWith.f k x3 bt240.1 bt240.2.1 bt240.2.2.1).bind fun bt245 => (if bt245.2 = true then (spec_l1Cur_sheet.l1 k bt245.1 x5 (wrap64 (x6 + 1)) x1000 bt240.2.2.2.1 bt240.2.2.2.2) else (spec_l1Cur_sheet.l1 k x3 x5 (wrap64 (x6 + 1)) x1000 bt240.2.2.2.1 bt240.2.2.2.2)))) else (some (x3, x1001, x1002))
end
def spec_l1Cur_sheet.f (k : Nat) (s0_0 : List Int) (s0_1 : Int) (s0_2 : Int) : Option ((List (S64)) × Int × Int) := (spec_l1Cur_one.f s0_0 s0_1 s0_2 24).bind fun bt228 => (if bt228.1 = true then (spec_l1Cur_sheet.l0 k ([] : List (S64)) s0_0 bt228.2.1 bt228.2.2) else ((spec_l1Cur_pick.f s0_0 bt228.2.1 bt228.2.2 9).bind fun bt237 => (spec_l1Cur_sheet.l1 k ([] : List (S64)) bt237.1 0 s0_0 bt237.2.1 bt237.2.2)))
theorem spec_l1Cur_sheet.mono_l : ∀ k, (∀ y0 y1 y2 y3, LeO (spec_l1Cur_sheet.l0 k y0 y1 y2 y3) (spec_l1Cur_sheet.l0 (k + 1) y0 y1 y2 y3)) ∧ (∀ y0 y1 y2 y3 y4 y5, LeO (spec_l1Cur_sheet.l1 k y0 y1 y2 y3 y4 y5) (spec_l1Cur_sheet.l1 (k + 1) y0 y1 y2 y3 y4 y5)) ∧ (∀ y0 y1 y2 y3 y4 y5 y6, LeO (spec_l1Cur_sheet.j2 k y0 y1 y2 y3 y4 y5 y6) (spec_l1Cur_sheet.j2 (k + 1) y0 y1 y2 y3 y4 y5 y6))
 | 0 => ⟨fun _ _ _ _ r h => by simp [spec_l1Cur_sheet.l0] at h, fun _ _ _ _ _ _ r h => by simp [spec_l1Cur_sheet.l1] at h, fun _ _ _ _ _ _ _ r h => by simp [spec_l1Cur_sheet.j2] at h⟩
 | k + 1 => by
  obtain ⟨ih0, ih1, ih2⟩ := spec_l1Cur_sheet.mono_l k
  refine ⟨?_, ?_, ?_⟩
  ·intro y0 y1 y2 y3
   unfold spec_l1Cur_sheet.l0
   exact mo5_
  ·intro y0 y1 y2 y3 y4 y5
   unfold spec_l1Cur_sheet.l1
   exact mo5_
  intro y0 y1 y2 y3 y4 y5 y6
  unfold spec_l1Cur_sheet.j2
  exact mo5_
theorem spec_l1Cur_sheet.mono : ∀ a0 a1 a2 k, LeO (spec_l1Cur_sheet.f k a0 a1 a2) (spec_l1Cur_sheet.f (k + 1) a0 a1 a2) := by
 intro a0 a1 a2 k
 obtain ⟨ih0, ih1, ih2⟩ := spec_l1Cur_sheet.mono_l k
 unfold spec_l1Cur_sheet.f
 exact mo5_
set_option maxHeartbeats 8000000 in
set_option maxRecDepth 100000 in
theorem spec_l1Cur_sheet.calls (k : Nat) (g : Nat) (s0_0 : List Int) (s0_1 : Int) (s0_2 : Int) (r1 : List (S64)) (r2 : Int) (r3 : Int) (w0 w : World) (hI : IsS49 w0 w g s0_0 s0_1 s0_2) (hB : Below w0.heap.size w0 w) (h : spec_l1Cur_sheet.f k s0_0 s0_1 s0_2 = some (r1, r2, r3)) :
  Calls Try.prog 43 #[.pointer (some ⟨g, 0, none⟩)] w fun e w' => ∃ v0_ : Value, e = .returned (v0_) ∧ Kd.R k64 64 w' w.heap.size (fun _ => True) v0_ r1 ∧ IsS49 w0 w' g s0_0 r2 r3 ∧ Below w0.heap.size w0 w' ∧ KeepBut w w' g none := by
 have hu64 := Try.underlying64
 have HI0 := Aside0.mk hI
 have HK := Aside0.mk (KeepBut.refl w g none)
 have HL := Aside0.mk hB.size
 clear hI
 have HW0 := Aside0.mk hB.size
 have HB := Aside0.mk hB
 clear hB
 have H : ((spec_l1Cur_one.f s0_0 s0_1 s0_2 24).bind fun bt228 => (if bt228.1 = true then (spec_l1Cur_sheet.l0 k ([] : List (S64)) s0_0 bt228.2.1 bt228.2.2) else ((spec_l1Cur_pick.f s0_0 bt228.2.1 bt228.2.2 9).bind fun bt237 => (spec_l1Cur_sheet.l1 k ([] : List (S64)) bt237.1 0 s0_0 bt237.2.1 bt237.2.2)))) = some (r1, r2, r3) := h
 clear h
 replace H := Option.bind_eq_some_iff.mp H
 obtain ⟨⟨t228, t229, t230⟩, A20, H⟩ := H
 (try dsimp only at H)
 have A2 := Aside0.mk A20
 clear A20
 by_cases c3 : t228 = true
 ·subst c3
  rw [if_pos rfl] at H
  have H' := Aside0.mk H
  clear H
  go_enter Try.func43, Try.ntmps43
  go_wp2_with (first | ((with_reducible refine gate_callee (f := 23) rfl ?_); refine gl_ 10 Try.func23 #[.pointer (some ⟨g, 0, none⟩), .int .i64 24] ?_; (with_reducible refine (spec_l1Cur_one.calls g s0_0 s0_1 s0_2 24 true t229 t230 w0 _ ?_ ?_ A2.out).mono ?_); exact Z4 HI0.out; exact Z9; rintro e w4 ⟨rfl, hi, hb, hk⟩; refine ⟨_, rfl, ?_⟩; refine k3_ (KeepBut.trans (Z6) hk (.inl rfl)) (hb) (hi) ?_; clear HK HB HI0; intro HK HB HI0; (try clear hb hk hi)))
  (try simp only [Act.put, List.setIfInBounds_toArray, List.set_cons_zero, List.set_cons_succ])
  go_loopg [3] k (fun kq v3 w' => ∃ (x3_1 : List (S64)) (x1001_1 : Int) (x1002_1 : Int), Aside0 (spec_l1Cur_sheet.l0 kq x3_1 s0_0 x1001_1 x1002_1 = some (r1, r2, r3)) ∧ Aside0 (kq ≤ k) ∧ Aside0 (Kd.R k64 64 w' w.heap.size (fun _ => True) v3 x3_1) ∧ Aside0 (IsS49 w0 w' g s0_0 x1001_1 x1002_1) ∧ Aside0 (KeepBut w w' g none) ∧ Aside0 (Below w0.heap.size w0 w'))
  case atStart => exact ⟨(([] : List (S64))), (t229), (t230), H', ⟨Nat.le_refl _⟩, ⟨Z21⟩, ⟨Z4 HI0.out⟩, ⟨Z6⟩, ⟨Z9⟩⟩
  case round =>
   clear H'
   (try clear c2); (try clear p2); (try clear c3); (try clear c4)
   obtain ⟨x3_1, x1001_1, x1002_1, HA, HK1, HO_3, HI0, HK, HB⟩ := hrel
   cases gk with
   | zero => exact absurd HA.out (by simp [spec_l1Cur_sheet.l0])
   | succ k1 =>
    have H := HA.out
    clear HA
    simp only [spec_l1Cur_sheet.l0] at H
    by_cases c5 : (x3_1.length : Int) < 60
    ·rw [if_pos c5] at H
     have c5b0 : decide ((x3_1.length : Int) < 60) = true := decide_eq_true c5
     have c5b1 : decide (x3_1.length < 60) = true := decide_eq_true (by omega)
     clear c5
     replace H := Option.bind_eq_some_iff.mp H
     obtain ⟨⟨t231, t232, t233⟩, A60, H⟩ := H
     (try dsimp only at H)
     have A6 := Aside0.mk A60
     clear A60
     by_cases c7 : x3_1.length < 5864062014805
     ·rw [if_pos c7] at H
      have LMc7 := Aside0.mk c7
      clear c7
      obtain ⟨y234, hy234⟩ : ∃ y_ : List (S64), y_ = (x3_1 ++ [(⟨3 * ((x3_1.length : Int) % 5), wrap64 (6 * (wrap64 ((x3_1.length : Int) / 5))), wrap64 ((wrap64 ((wrap64 (6 * (wrap64 ((x3_1.length : Int) / 5)))) + 1)) + t231)⟩ : S64)]) := ⟨_, rfl⟩
      replace H : (spec_l1Cur_sheet.l0 k1 y234 s0_0 t232 t233) = some (r1, r2, r3) := by first | (rw [hy234]; with_reducible exact H) | (have H2_ := (Option.bind_some _ _).symm.trans H; rw [hy234]; with_reducible exact H2_) | (have H2_ := (Option.bind_some _ _).symm.trans H; with_reducible exact H2_) | with_reducible exact H | (rw [hy234]; exact H) | exact H
      have Ny234 := Aside0.mk hy234
      clear hy234
      have H' := Aside0.mk H
      clear H
      obtain ⟨Ao8, co8, eo8⟩ := Kd.R_slice HO_3.out
      subst eo8
      go_wp2_with (first | ((with_reducible refine gate_callee (f := 22) rfl ?_); refine gl_ 27 Try.func22 #[.pointer (some ⟨g, 0, none⟩), .int .i64 5] ?_; (with_reducible refine (spec_l1Cur_pick.calls g s0_0 x1001_1 x1002_1 5 t231 t232 t233 w0 _ ?_ ?_ A6.out).mono ?_); exact Z4 HI0.out; exact Z9; rintro e w9 ⟨rfl, hi, hb, hk⟩; refine ⟨_, rfl, ?_⟩; refine k4_ (Kd.R_mono (Kd.R_keep (IsS49.apart (show IsS49 w0 _ g s0_0 x1001_1 x1002_1 from Z4 HI0.out) (Z1 HO_3.out) (by decide)) hk (fun _ h => h.2)) (fun _ h => h.1)) (KeepBut.trans (Z6) hk (.inl rfl)) (hb) (hi) ?_; clear HO_3 HK HB HI0; intro HO_3 HK HB HI0; (try clear hb hk hi)) | ((with_reducible refine gate_builtin (b := .append) (xs := #[.tmp 18, .tmp 30]) rfl ?_); at_builtin; refine Kd.R_append k64 w.heap.size rfl (.tmp 18) (.tmp 30) 23 64 (.agg #[(.int .i64 0), (.int .i64 0), (.int .i64 0)]) 24 rfl Try.underlying23 info64 rfl (by decide) (by omega) (.slice Ao8 x3_1.length co8) x3_1 (⟨3 * ((x3_1.length : Int) % 5), wrap64 (6 * (wrap64 ((x3_1.length : Int) / 5))), wrap64 ((wrap64 ((wrap64 (6 * (wrap64 ((x3_1.length : Int) / 5)))) + 1)) + t231)⟩ : S64) [.int .i64 (3 * ((x3_1.length : Int) % 5)), .int .i64 (wrap64 (6 * (wrap64 ((x3_1.length : Int) / 5)))), .int .i64 (wrap64 ((wrap64 ((wrap64 (6 * (wrap64 ((x3_1.length : Int) / 5)))) + 1)) + t231))] (fun _ => True) (fun _ => False) rfl rfl ?aP (fun _ hk => hk.elim) ?aF ?aO (Below.refl _ _) ?aS ?aL ?_; (case aP => exact k64_mkM _ _ _ (⟨3 * ((x3_1.length : Int) % 5), wrap64 (6 * (wrap64 ((x3_1.length : Int) / 5))), wrap64 ((wrap64 ((wrap64 (6 * (wrap64 ((x3_1.length : Int) / 5)))) + 1)) + t231)⟩ : S64)); (case aF => exact (fun _ _ => trivial)); (case aO => exact Z1 HO_3.out); (case aS => exact (keep_size (w := w) (g := g) (row := none) (Z6))); (case aL => have := LMc7.out; omega); intro v235 w10 ho hb hg hat; rw [← Ny234.out] at ho; refine k4_ (IsS49.grown (Z4 HI0.out) hg (IsS49.own_ne HI0.out HO_3.out (by decide))) (below_weaken (Z9) HL.out hb) (KeepBut.trans (Z6) (KeepBut.of_grown hg g) (Kd.R_base2 HO_3.out)) (ho) ?_; clear HI0 HB HK HO_3; intro HI0 HB HK HO236; clear ho hb hg hat))
      go_roundg k1
      case measure => have := HK1.out; omega
      case rel => exact ⟨(y234), (t232), (t233), H', ⟨Z187⟩, ⟨Z1 HO236.out⟩, ⟨Z4 HI0.out⟩, ⟨Z6⟩, ⟨Z9⟩⟩
     rw [if_neg c7] at H
     exact absurd H (by simp)
    rw [if_neg c5] at H
    have c5b0 : decide ((x3_1.length : Int) < 60) = false := decide_eq_false c5
    have c5b1 : decide (x3_1.length < 60) = false := decide_eq_false (by omega)
    clear c5
    simp only [Option.some.injEq, Prod.mk.injEq] at H
    obtain ⟨rfl, rfl, rfl⟩ := H
    obtain ⟨Ao11, co11, eo11⟩ := Kd.R_slice HO_3.out
    subst eo11
    go_wp2
    go_ret
    exact ⟨_, Z11, Z1 HO_3.out, Z4 HI0.out, Z9, Z6⟩
 replace c3 := Bool.eq_false_iff.mpr c3
 subst c3
 rw [if_neg (show ¬ (false = true) by decide)] at H
 replace H := Option.bind_eq_some_iff.mp H
 obtain ⟨⟨t237, t238, t239⟩, A120, H⟩ := H
 (try dsimp only at H)
 have A12 := Aside0.mk A120
 clear A120
 have H' := Aside0.mk H
 clear H
 go_enter Try.func43, Try.ntmps43
 go_wp2_with (first | ((with_reducible refine gate_callee (f := 23) rfl ?_); refine gl_ 10 Try.func23 #[.pointer (some ⟨g, 0, none⟩), .int .i64 24] ?_; (with_reducible refine (spec_l1Cur_one.calls g s0_0 s0_1 s0_2 24 false t229 t230 w0 _ ?_ ?_ A2.out).mono ?_); exact Z4 HI0.out; exact Z9; rintro e w13 ⟨rfl, hi, hb, hk⟩; refine ⟨_, rfl, ?_⟩; refine k3_ (KeepBut.trans (Z6) hk (.inl rfl)) (hb) (hi) ?_; clear HK HB HI0; intro HK HB HI0; (try clear hb hk hi)) | ((with_reducible refine gate_callee (f := 22) rfl ?_); refine gl_ 34 Try.func22 #[.pointer (some ⟨g, 0, none⟩), .int .i64 9] ?_; (with_reducible refine (spec_l1Cur_pick.calls g s0_0 t229 t230 9 t237 t238 t239 w0 _ ?_ ?_ A12.out).mono ?_); exact Z4 HI0.out; exact Z9; rintro e w14 ⟨rfl, hi, hb, hk⟩; refine ⟨_, rfl, ?_⟩; refine k3_ (KeepBut.trans (Z6) hk (.inl rfl)) (hb) (hi) ?_; clear HK HB HI0; intro HK HB HI0; (try clear hb hk hi)))
 (try simp only [Act.put, List.setIfInBounds_toArray, List.set_cons_zero, List.set_cons_succ])
 go_loopg [3, 6] k (fun kq v3 v6 w' => ∃ (x3_1 : List (S64)) (x6_1 : Int) (x1001_1 : Int) (x1002_1 : Int), v6 = .int .i64 x6_1 ∧ Aside0 (spec_l1Cur_sheet.l1 kq x3_1 t237 x6_1 s0_0 x1001_1 x1002_1 = some (r1, r2, r3)) ∧ Aside0 (kq ≤ k) ∧ Aside0 (Kd.R k64 64 w' w.heap.size (fun _ => True) v3 x3_1) ∧ Aside0 (IsS49 w0 w' g s0_0 x1001_1 x1002_1) ∧ Aside0 (KeepBut w w' g none) ∧ Aside0 (Below w0.heap.size w0 w'))
 case atStart => exact ⟨(([] : List (S64))), (0), (t238), (t239), (Z17), H', ⟨Nat.le_refl _⟩, ⟨Z21⟩, ⟨Z4 HI0.out⟩, ⟨Z6⟩, ⟨Z9⟩⟩
 case round =>
  clear H'
  (try clear c2); (try clear p2); (try clear c3); (try clear c4); (try clear c5); (try clear c5b0); (try clear c5b1); (try clear p6); (try clear c7)
  obtain ⟨x3_1, x6_1, x1001_1, x1002_1, rfl, HA, HK1, HO_3, HI0, HK, HB⟩ := hrel
  cases gk with
  | zero => exact absurd HA.out (by simp [spec_l1Cur_sheet.l1])
  | succ k1 =>
   have H := HA.out
   clear HA
   simp only [spec_l1Cur_sheet.l1] at H
   have HC15 := Aside0.mk H
   clear H
   go_upto_region 9 with (fail)
   go_cut [42] (fun v42 wc => ∃ (kq : Nat) (x42_14 : Bool), v42 = .bool x42_14 ∧ Aside0 (spec_l1Cur_sheet.j2 kq x3_1 t237 x6_1 x42_14 s0_0 x1001_1 x1002_1 = some (r1, r2, r3)) ∧ Aside0 (kq ≤ k1) ∧ Aside0 (Kd.R k64 64 wc w.heap.size (fun _ => True) u3 x3_1) ∧ Aside0 (IsS49 w0 wc g s0_0 x1001_1 x1002_1) ∧ Aside0 (KeepBut w wc g none) ∧ Aside0 (Below w0.heap.size w0 wc))
   case first =>
    have H := HC15.out
    clear HC15
    by_cases c16 : (x3_1.length : Int) < t237
    ·rw [if_pos c16] at H
     have c16b0 : decide ((x3_1.length : Int) < t237) = true := decide_eq_true c16
     clear c16
     (first | rw [c16b0] | (simp only [i64_w, i32_w]; rw [c16b0]) | skip)
     have H' := Aside0.mk H
     clear H
     obtain ⟨Ao17, co17, eo17⟩ := Kd.R_slice HO_3.out
     subst eo17
     go_wp2
     go_meet
     case rel => exact ⟨_, (decide (x6_1 < 60)), (Z17), H', ⟨Z137⟩, ⟨Z1 HO_3.out⟩, ⟨Z4 HI0.out⟩, ⟨Z6⟩, ⟨Z9⟩⟩
    rw [if_neg c16] at H
    have c16b0 : decide ((x3_1.length : Int) < t237) = false := decide_eq_false c16
    clear c16
    (first | rw [c16b0] | (simp only [i64_w, i32_w]; rw [c16b0]) | skip)
    have H' := Aside0.mk H
    clear H
    obtain ⟨Ao18, co18, eo18⟩ := Kd.R_slice HO_3.out
    subst eo18
    go_wp2
    go_meet
    case rel => exact ⟨_, (false), (Z17), H', ⟨Z137⟩, ⟨Z1 HO_3.out⟩, ⟨Z4 HI0.out⟩, ⟨Z6⟩, ⟨Z9⟩⟩
   case rest =>
    clear HC15
    (try clear c1); (try clear c16); (try clear c16b0)
    obtain ⟨kq, x42_14, rfl, HA, HJ14, HO_3, HI0, HK, HB⟩ := hcut
    cases kq with
    | zero => exact absurd HA.out (by simp [spec_l1Cur_sheet.j2])
    | succ kj14 =>
     have H := HA.out
     clear HA
     simp only [spec_l1Cur_sheet.j2] at H
     by_cases c19 : x42_14 = true
     ·subst c19
      rw [if_pos rfl] at H
      replace H := Option.bind_eq_some_iff.mp H
      obtain ⟨⟨t240, t241, t242, t243, t244⟩, A200, H⟩ := H
      (try dsimp only at H)
      have A20 := Aside0.mk A200
      clear A200
      replace H := Option.bind_eq_some_iff.mp H
      obtain ⟨⟨t245, t248⟩, A210, H⟩ := H
      (try dsimp only at H)
      have A21 := Aside0.mk A210
      clear A210
      by_cases c22 : t248 = true
      ·subst c22
       rw [if_pos rfl] at H
       have H' := Aside0.mk H
       clear H
       go_wp2_with (first | ((with_reducible refine gate_callee (f := 51) rfl ?_); refine gl_ 48 Try.func51 #[.pointer (some ⟨g, 0, none⟩)] ?_; (with_reducible refine (spec_l1Cur_hole.calls g s0_0 x1001_1 x1002_1 t240 t241 t242 t243 t244 w0 _ ?_ ?_ A20.out).mono ?_); exact Z4 HI0.out; exact Z9; rintro e w23 ⟨rfl, hi, hb, hk⟩; refine ⟨_, rfl, ?_⟩; refine k4_ (Kd.R_mono (Kd.R_keep (IsS49.apart (show IsS49 w0 _ g s0_0 x1001_1 x1002_1 from Z4 HI0.out) (Z1 HO_3.out) (by decide)) hk (fun _ h => h.2)) (fun _ h => h.1)) (KeepBut.trans (Z6) hk (.inl rfl)) (hb) (hi) ?_; clear HO_3 HK HB HI0; intro HO_3 HK HB HI0; (try clear hb hk hi); obtain ⟨Ao24, co24, eo24⟩ := Kd.R_slice HO_3.out; subst eo24) | ((with_reducible refine gate_callee (f := 44) rfl ?_); refine gl_ 49 Try.func44 #[.slice Ao24 x3_1.length co24, .agg #[.int .i64 t240, .int .i64 t241, .int .i64 t242]] ?_; (with_reducible refine (spec_shWith.calls kj14 _ _ x3_1 t240 t241 t242 t245 true _ ?_ ?_ A21.out).mono ?_); exact Z7 HO_3.out; exact (Kd.R_reads' HO_3.out).2.1; rintro e w25 ⟨v246, rfl, ho0, hb⟩; refine ⟨_, rfl, ?_⟩; refine k5_ (Yb_ HO_3.out) (Kd.R_lower (Kd.R_new' ho0 (Yd_ HO_3.out)) (keep_size (w := w) (g := g) (row := none) (Z6))) (IsS49.below (Z4 HI0.out) hb) (KeepBut.trans (Z6) (KeepBut.of_below hb g none) (.inl rfl)) (below_step (Z9) hb) ?_; clear HO_3 HI0 HK HB; intro HO_3 HO247 HI0 HK HB; (try clear hb ho0)))
       go_roundg kj14
       case measure => have := HK1.out; have := HJ14.out; omega
       case rel => exact ⟨(t245), (wrap64 (x6_1 + 1)), (t243), (t244), (Z17), H', ⟨by have := HK1.out; have := HJ14.out; omega⟩, ⟨Z103 HO247.out⟩, ⟨Z4 HI0.out⟩, ⟨Z6⟩, ⟨Z9⟩⟩
      replace c22 := Bool.eq_false_iff.mpr c22
      subst c22
      rw [if_neg (show ¬ (false = true) by decide)] at H
      have H' := Aside0.mk H
      clear H
      go_wp2_with (first | ((with_reducible refine gate_callee (f := 51) rfl ?_); refine gl_ 48 Try.func51 #[.pointer (some ⟨g, 0, none⟩)] ?_; (with_reducible refine (spec_l1Cur_hole.calls g s0_0 x1001_1 x1002_1 t240 t241 t242 t243 t244 w0 _ ?_ ?_ A20.out).mono ?_); exact Z4 HI0.out; exact Z9; rintro e w26 ⟨rfl, hi, hb, hk⟩; refine ⟨_, rfl, ?_⟩; refine k4_ (Kd.R_mono (Kd.R_keep (IsS49.apart (show IsS49 w0 _ g s0_0 x1001_1 x1002_1 from Z4 HI0.out) (Z1 HO_3.out) (by decide)) hk (fun _ h => h.2)) (fun _ h => h.1)) (KeepBut.trans (Z6) hk (.inl rfl)) (hb) (hi) ?_; clear HO_3 HK HB HI0; intro HO_3 HK HB HI0; (try clear hb hk hi); obtain ⟨Ao27, co27, eo27⟩ := Kd.R_slice HO_3.out; subst eo27) | ((with_reducible refine gate_callee (f := 44) rfl ?_); refine gl_ 49 Try.func44 #[.slice Ao27 x3_1.length co27, .agg #[.int .i64 t240, .int .i64 t241, .int .i64 t242]] ?_; (with_reducible refine (spec_shWith.calls kj14 _ _ x3_1 t240 t241 t242 t245 false _ ?_ ?_ A21.out).mono ?_); exact Z7 HO_3.out; exact (Kd.R_reads' HO_3.out).2.1; rintro e w28 ⟨v246, rfl, ho0, hb⟩; refine ⟨_, rfl, ?_⟩; refine k5_ (Yb_ HO_3.out) (Kd.R_lower (Kd.R_new' ho0 (Yd_ HO_3.out)) (keep_size (w := w) (g := g) (row := none) (Z6))) (IsS49.below (Z4 HI0.out) hb) (KeepBut.trans (Z6) (KeepBut.of_below hb g none) (.inl rfl)) (below_step (Z9) hb) ?_; clear HO_3 HI0 HK HB; intro HO_3 HO247 HI0 HK HB; (try clear hb ho0)))
      go_roundg kj14
      case measure => have := HK1.out; have := HJ14.out; omega
      case rel => exact ⟨(x3_1), (wrap64 (x6_1 + 1)), (t243), (t244), (Z17), H', ⟨by have := HK1.out; have := HJ14.out; omega⟩, ⟨Z103 HO_3.out⟩, ⟨Z4 HI0.out⟩, ⟨Z6⟩, ⟨Z9⟩⟩
     replace c19 := Bool.eq_false_iff.mpr c19
     subst c19
     rw [if_neg (show ¬ (false = true) by decide)] at H
     simp only [Option.some.injEq, Prod.mk.injEq] at H
     obtain ⟨rfl, rfl, rfl⟩ := H
     go_wp2
     go_ret
     exact ⟨_, Z11, Z1 HO_3.out, Z4 HI0.out, Z9, Z6⟩

end Go.Proofs.Ytflefblmaopaiaa.PFnStops
