-- written by a program of this session: the kit's print, with outer functions of the session's own (wip/ext)
import Derived.Test.YtmnnmddfmmaohaaPFnStainsx0
import Derived.Test.YtmnnmddfmmaohaaPFnStainsx1
import Derived.Test.YtmnnmddfmmaohaaPFnStainsx4
namespace Go.Proofs.Ytmnnmddfmmaohaa.PFnStains
open Go.RowKit Go.Proofs.YtmnnmddfmmaohaaW.PrintWords Go.Proofs.YtmnnmddfmmaohaaW.PrintLast Go.Proofs.YtmnnmddfmmaohaaW.PrintMore
attribute [local go_sem] max2_int min2_int max_two min_two max_three min_three max_four min_four   -- for this text's walks alone
set_option linter.unusedVariables false
set_option linter.unusedSimpArgs false
theorem mo5_ {p : Prop} (h : p := by repeat' first | (with_reducible first | apply ih0 | apply ih0 | apply ih1 | apply ih1 | apply ih2 | apply ih2 | apply spec_shSorted.mono | apply spec_shSorted.mono | apply spec_shWith.mono | apply spec_shWith.mono | exact LeO.refl _ | exact LeO.none _ | refine LeO.ite ?_ ?_ | refine LeO.bind ?_ (fun _ => ?_)) | exact LeO.none _ | refine LeO.ite ?_ ?_ | refine LeO.bind ?_ (fun _ => ?_)) : p := h

/-! ### spec_shWith: function 105 -/
def spec_shWith.f (k : Nat) (l0 : List (S90)) (a1_0 : Int) (a1_1 : Int) (a1_2 : Int) : Option ((List (S90)) × Bool) := (some (([] : List (S90)) : List (S90))).bind fun y236 => (if y236.length + l0.length < 5864062014805 then ((some (y236 ++ l0 : List (S90))).bind fun y239 => ((some (([(⟨a1_0, a1_1, a1_2⟩ : S90)] : List (S90)) : List (S90))).bind fun y242 => (if y239.length + y242.length < 5864062014805 then ((spec_shSorted.f k (y239 ++ y242)).bind fun bt248 => (some (bt248.1, bt248.2))) else (none)))) else (none))
theorem spec_shWith.mono : ∀ a0 a1 a2 a3 k, LeO (spec_shWith.f k a0 a1 a2 a3) (spec_shWith.f (k + 1) a0 a1 a2 a3) := by
 intro a0 a1 a2 a3 k
 unfold spec_shWith.f
 exact mo5_
def spec_shWith.T1 : Bool × List (List Nat × List Nat) := (true, [([], []), ([], []), ([0, 1], [0, 1]), ([], []), ([3], [3]), ([2, 4, 2], [2, 4]), ([5, 5], [5]), ([6], [6]), ([6], [6]), ([7, 6, 0, 1, 2, 3, 4, 5, 6, 7, 8], [7]), ([8, 9, 0, 1, 2, 3, 4, 5, 6, 7, 8, 9], [8])])
def spec_shWith.B1 : List Nat := [0, 0, 3, 0, 8, 31, 63, 127, 127, 511, 1023]
theorem spec_shWith.tab1 : rtab .any (opsOf Try.f105 1) = spec_shWith.T1 := by kernel_rfl
theorem spec_shWith.bits1 : waitsOk spec_shWith.T1.2 spec_shWith.B1 = true := by kernel_rfl
set_option maxHeartbeats 8000000 in
set_option maxRecDepth 100000 in
theorem spec_shWith.calls (k : Nat) (A0 : Option Addr) (c0 : Nat) (l0 : List (S90)) (a1_0 : Int) (a1_1 : Int) (a1_2 : Int) (r1 : List (S90)) (r2 : Bool) (w : World) (hr0 : Kd.C k90 w A0 l0.length l0) (hc0 : l0.length ≤ c0) (h : spec_shWith.f k l0 a1_0 a1_1 a1_2 = some (r1, r2)) :
  Calls Try.prog 105 #[.slice A0 l0.length c0, .agg #[.int .i64 a1_0, .int .i64 a1_1, .int .i64 a1_2]] w fun e w' => ∃ v0_ : Value, e = .returned (.tuple #[v0_, .bool r2]) ∧ Kd.R k90 90 w' w.heap.size (fun _ => True) v0_ r1 ∧ Below w.heap.size w w' := by
 have hu90 := Try.underlying90
 have HR0 := Aside0.mk hr0
 have HC0 := Aside0.mk hc0
 clear hr0 hc0
 have HB := Aside0.mk (Below.refl w.heap.size w)
 have H : ((some (([] : List (S90)) : List (S90))).bind fun y236 => (if y236.length + l0.length < 5864062014805 then ((some (y236 ++ l0 : List (S90))).bind fun y239 => ((some (([(⟨a1_0, a1_1, a1_2⟩ : S90)] : List (S90)) : List (S90))).bind fun y242 => (if y239.length + y242.length < 5864062014805 then ((spec_shSorted.f k (y239 ++ y242)).bind fun bt248 => (some (bt248.1, bt248.2))) else (none)))) else (none))) = some (r1, r2) := h
 clear h
 obtain ⟨y236, hy236⟩ : ∃ y_ : List (S90), y_ = (([] : List (S90))) := ⟨_, rfl⟩
 replace H : (if y236.length + l0.length < 5864062014805 then ((some (y236 ++ l0 : List (S90))).bind fun y239 => ((some (([(⟨a1_0, a1_1, a1_2⟩ : S90)] : List (S90)) : List (S90))).bind fun y242 => (if y239.length + y242.length < 5864062014805 then ((spec_shSorted.f k (y239 ++ y242)).bind fun bt248 => (some (bt248.1, bt248.2))) else (none)))) else (none)) = some (r1, r2) := by first | (rw [hy236]; with_reducible exact H) | (have H2_ := (Option.bind_some _ _).symm.trans H; rw [hy236]; with_reducible exact H2_) | (have H2_ := (Option.bind_some _ _).symm.trans H; with_reducible exact H2_) | with_reducible exact H | (rw [hy236]; exact H) | exact H
 have Ny236 := Aside0.mk hy236
 clear hy236
 by_cases c3 : y236.length + l0.length < 5864062014805
 ·rw [if_pos c3] at H
  have LMc3 := Aside0.mk c3
  clear c3
  obtain ⟨y239, hy239⟩ : ∃ y_ : List (S90), y_ = (y236 ++ l0) := ⟨_, rfl⟩
  replace H : ((some (([(⟨a1_0, a1_1, a1_2⟩ : S90)] : List (S90)) : List (S90))).bind fun y242 => (if y239.length + y242.length < 5864062014805 then ((spec_shSorted.f k (y239 ++ y242)).bind fun bt248 => (some (bt248.1, bt248.2))) else (none))) = some (r1, r2) := by first | (rw [hy239]; with_reducible exact H) | (have H2_ := (Option.bind_some _ _).symm.trans H; rw [hy239]; with_reducible exact H2_) | (have H2_ := (Option.bind_some _ _).symm.trans H; with_reducible exact H2_) | with_reducible exact H | (rw [hy239]; exact H) | exact H
  have Ny239 := Aside0.mk hy239
  clear hy239
  obtain ⟨y242, hy242⟩ : ∃ y_ : List (S90), y_ = (([(⟨a1_0, a1_1, a1_2⟩ : S90)] : List (S90))) := ⟨_, rfl⟩
  replace H : (if y239.length + y242.length < 5864062014805 then ((spec_shSorted.f k (y239 ++ y242)).bind fun bt248 => (some (bt248.1, bt248.2))) else (none)) = some (r1, r2) := by first | (rw [hy242]; with_reducible exact H) | (have H2_ := (Option.bind_some _ _).symm.trans H; rw [hy242]; with_reducible exact H2_) | (have H2_ := (Option.bind_some _ _).symm.trans H; with_reducible exact H2_) | with_reducible exact H | (rw [hy242]; exact H) | exact H
  have Ny242 := Aside0.mk hy242
  clear hy242
  by_cases c4 : y239.length + y242.length < 5864062014805
  ·rw [if_pos c4] at H
   have LMc4 := Aside0.mk c4
   clear c4
   obtain ⟨y245, hy245⟩ : ∃ y_ : List (S90), y_ = (y239 ++ y242) := ⟨_, rfl⟩
   replace H : ((spec_shSorted.f k y245).bind fun bt248 => (some (bt248.1, bt248.2))) = some (r1, r2) := by first | (rw [hy245]; with_reducible exact H) | (have H2_ := (Option.bind_some _ _).symm.trans H; rw [hy245]; with_reducible exact H2_) | (have H2_ := (Option.bind_some _ _).symm.trans H; with_reducible exact H2_) | with_reducible exact H | (rw [hy245]; exact H) | exact H
   have Ny245 := Aside0.mk hy245
   clear hy245
   replace H := Option.bind_eq_some_iff.mp H
   obtain ⟨⟨t248, t249⟩, A50, H⟩ := H
   replace H : (some (t248, t249)) = some (r1, r2) := H
   have A5 := Aside0.mk A50
   clear A50
   simp only [Option.some.injEq, Prod.mk.injEq] at H
   obtain ⟨rfl, rfl⟩ := H
   go_enter Try.func105, Try.ntmps105
   try go_wp2_with (first | ((with_reducible refine gate_dst (N := 3) rfl ?_); refine bv_ 3 90 #[.int .i64 a1_0, .int .i64 a1_1, .int .i64 a1_2] ?_; intro gb235 hg w6 hbox hb; refine k4_ (below_step (Z2) hb) (hbox) ((Z34 : w.heap.size ≤ gb235)) ((Z34 : w.heap.size ≤ gb235)) ?_; clear HB; intro HB BK235 GW235 GE235; clear hb hbox hg))
   refine k2_ (blk_drew BK235.out) (below_drew1 HB.out) ?_
   clear BK235 HB
   intro BK235 HB
   refine start_ (n := 11) (S := fun w' => w'.cell? ⟨gb235, 0, none⟩ = some (.int .i64 a1_0) ∧ w'.cell? ⟨gb235, 1, none⟩ = some (.int .i64 a1_1) ∧ w'.cell? ⟨gb235, 2, none⟩ = some (.int .i64 a1_2)) (ds := []) (M_ 0 11) (by kernel_rfl) rfl rfl ⟨(blk_cell BK235.out 0).trans rfl, (blk_cell BK235.out 1).trans rfl, (blk_cell BK235.out 2).trans rfl⟩ (fun hHeld => ?_); refine with_tabW spec_shWith.tab1 spec_shWith.bits1 (fun HT_ HW_ => ?_)
   generalize w6.drew = w7 at BK235 HB hHeld ⊢
   refine pu_ 1 7 (N_ 11 2) ?_
   refine tk3_ 3 9 (N_ 11 10) hHeld ?_
   refine join_ (σ := Value × Value × Value) 6 (M_ 5 6) (fun s_ => [(6, s_.1), (8, s_.2.1), (10, s_.2.2)]) (fun s_ w' => (w'.cell? ⟨gb235, 0, none⟩ = some (.int .i64 a1_0) ∧ w'.cell? ⟨gb235, 1, none⟩ = some (.int .i64 a1_1) ∧ w'.cell? ⟨gb235, 2, none⟩ = some (.int .i64 a1_2)) ∧ (Kd.R k90 90 w' w.heap.size (fun k_ => some k_ ≠ (s_.2.2 : Value).ownBlock ∧ k_ ≠ gb235) s_.2.1 y239) ∧ (Kd.R k90 90 w' w.heap.size (fun k_ => some k_ ≠ (s_.2.1 : Value).ownBlock ∧ k_ ≠ gb235) s_.2.2 y242) ∧ (w'.heap[gb235]? = some (.cells #[.int .i64 a1_0, .int .i64 a1_1, .int .i64 a1_2] 90 (0, 0))) ∧ (Below w.heap.size w w')) ?_ ?_
   rotate_left
   ·intro hCont
    refine two_ (i := 0) (j := 4) (Ni := some 6) (Nj := some 10) (N_ 11 11) (N_ 11 26) rfl rfl rfl rfl (two_of HT_.out (by kernel_rfl)) (by decide) (by decide) (fun K hK => ?_) (fun K hK => ?_)
    ·skip
     refine Kd.R_lit_step k90 _ 90 ?hg (N := 6) ?hd (xs := ([] : List (S90))) (inner := []) (ok := fun _ => True) (okp := fun _ => True) ?hr ?hp (fun _ hk => hk) trivial (Below.refl _ _) (Nat.le_refl _) (by simp) ?_; (case hd => rfl); (case hg => rfl); (case hr => exact Z44); (case hp => exact (Reps.none _ _))
     intro v237 w8 ho9 hb hg_ hnew_
     clear hg_ hnew_
     (first | rw [← Ny236.out] at ho9 | (simp only [Int.reduceToNat] at ho9; rw [← Ny236.out] at ho9))
     have n0_ := Aside0.mk (Kd.R_lower (Kd.R_newB ho9 (g := gb235) (o := .cells #[.int .i64 a1_0, .int .i64 a1_1, .int .i64 a1_2] 90 (0, 0)) (Z4 BK235.out)) (below_size (Z19)))
     have n1_ := Aside0.mk (blk_below (g := gb235) (o := .cells #[.int .i64 a1_0, .int .i64 a1_1, .int .i64 a1_2] 90 (0, 0)) (Z4 BK235.out) hb)
     have n2_ := Aside0.mk (below_step (Z19) hb)
     clear BK235
     clear HB
     have HO238 := n0_
     have BK235 := n1_
     have HB := n2_
     clear n0_ n1_ n2_
     clear hb ho9
     refine hK.out _ _ ⟨(blk_cell BK235.out 0).trans rfl, (blk_cell BK235.out 1).trans rfl, (blk_cell BK235.out 2).trans rfl⟩ (fun hHeld => ?_)
     clear hK K
     refine norm_ (a' := ?_) ?_ ?_
     rotate_left
     ·show Act.put _ (some 6) _ = _
      simp only [Act.put, List.setIfInBounds_toArray, List.set_cons_zero, List.set_cons_succ, i64_w, i32_w]
      rfl
     refine two_ (i := 2) (j := 4) (Ni := some 8) (Nj := some 10) (M_ 4 7) (N_ 11 27) rfl rfl rfl rfl (two_of HT_.out (by kernel_rfl)) (by decide) (by decide) (fun K hK => ?_) (fun K hK => ?_)
     ·skip
      refine Kd.R_append_rows_step k90 (w0 := w) w.heap.size (by rfl) (.tmp 6) (.tmp 7) 42 90 (.agg #[(.int .i64 0), (.int .i64 0), (.int .i64 0)]) 24 rfl Try.underlying42 info90 rfl (by decide) (by omega) v237 y236 l0 _ _ _ (fun k_ => k_ ≠ gb235) (fun _ => False) rfl rfl ?aO ?aR (fun _ _ h => h) (fun _ h => h.elim) ?aF ?aB ?aS ?aL ?_
      (case aR => exact Z13 HR0.out)
      (case aB => exact Z19)
      (case aF => exact (fun k_ hk => Kd.freshB (g := gb235) (o := .cells #[.int .i64 a1_0, .int .i64 a1_1, .int .i64 a1_2] 90 (0, 0)) (Z4 BK235.out) k_ hk))
      (case aO => exact Z52 HO238.out)
      (case aS => exact (below_size (Z19)))
      (case aL => have := LMc3.out; omega)
      intro v240 w10 ho hb hg hat
      rw [← Ny239.out] at ho
      have n0_ := Aside0.mk (blk_grown (g := gb235) (o := .cells #[.int .i64 a1_0, .int .i64 a1_1, .int .i64 a1_2] 90 (0, 0)) (Z4 BK235.out) hg (Kd.R_away HO238.out (fun _ hk => hk.2)))
      have n1_ := Aside0.mk (hb)
      have n2_ := Aside0.mk (ho)
      clear BK235
      clear HB
      clear HO238
      have BK235 := n0_
      have HB := n1_
      have HO241 := n2_
      clear n0_ n1_ n2_
      clear ho hb hg hat
      refine hK.out _ _ ⟨(blk_cell BK235.out 0).trans rfl, (blk_cell BK235.out 1).trans rfl, (blk_cell BK235.out 2).trans rfl⟩ (fun hHeld => ?_)
      clear hK K
      refine norm_ (a' := ?_) ?_ ?_
      rotate_left
      ·show Act.put _ (some 8) _ = _
       simp only [Act.put, List.setIfInBounds_toArray, List.set_cons_zero, List.set_cons_succ, i64_w, i32_w]
       rfl
      refine one_ (i := 4) (N := some 10) (M_ 5 6) rfl rfl (one_of HT_.out (by kernel_rfl)) (by decide) (fun K hK => ?_)
      refine Kd.R_lit_step k90 _ 90 ?hg (N := 10) ?hd (xs := ([(⟨a1_0, a1_1, a1_2⟩ : S90)] : List (S90))) (inner := [.int .i64 a1_0, .int .i64 a1_1, .int .i64 a1_2]) (ok := fun _ => True) (okp := fun _ => True) ?hr ?hp (fun _ hk => hk) trivial (Below.refl _ _) (Nat.le_refl _) (by simp) ?_; (case hd => rfl); (case hg => rfl); (case hr => exact Z44); (case hp => exact (Reps.c3 (show Kd.M k90 _ _ _ (⟨a1_0, a1_1, a1_2⟩ : S90) [.int .i64 a1_0, .int .i64 a1_1, .int .i64 a1_2] from (k90_mkM _ _ _ (⟨a1_0, a1_1, a1_2⟩ : S90) )) (Reps.none _ _)))
      intro v243 w11 ho12 hb hg_ hnew_
      clear hg_ hnew_
      (first | rw [← Ny242.out] at ho12 | (simp only [Int.reduceToNat] at ho12; rw [← Ny242.out] at ho12))
      have n0_ := Aside0.mk (Kd.R_elder' (Z1 HO241.out) (Kd.R_base ho12) hb)
      have n1_ := Aside0.mk (Kd.R_lower (Kd.R_newB (Kd.R_new' ho12 (Kd.R_lt (Z1 HO241.out))) (g := gb235) (o := .cells #[.int .i64 a1_0, .int .i64 a1_1, .int .i64 a1_2] 90 (0, 0)) (Z4 BK235.out)) (below_size (Z19)))
      have n2_ := Aside0.mk (blk_below (g := gb235) (o := .cells #[.int .i64 a1_0, .int .i64 a1_1, .int .i64 a1_2] 90 (0, 0)) (Z4 BK235.out) hb)
      have n3_ := Aside0.mk (below_step (Z19) hb)
      clear HO241
      clear BK235
      clear HB
      have HO241 := n0_
      have HO244 := n1_
      have BK235 := n2_
      have HB := n3_
      clear n0_ n1_ n2_ n3_
      clear hb ho12
      refine hK.out _ _ ⟨(blk_cell BK235.out 0).trans rfl, (blk_cell BK235.out 1).trans rfl, (blk_cell BK235.out 2).trans rfl⟩ (fun hHeld => ?_)
      clear hK K
      refine norm_ (a' := ?_) ?_ ?_
      rotate_left
      ·show Act.put _ (some 10) _ = _
       simp only [Act.put, List.setIfInBounds_toArray, List.set_cons_zero, List.set_cons_succ, i64_w, i32_w]
       rfl
      exact norm_ (Z54) (hCont (v237, v240, v243) _ ⟨hHeld, (Z78 HO241.out), (Z43 HO244.out), (Z4 BK235.out), (Z19)⟩)
     skip
     refine Kd.R_lit_step k90 _ 90 ?hg (N := 10) ?hd (xs := ([(⟨a1_0, a1_1, a1_2⟩ : S90)] : List (S90))) (inner := [.int .i64 a1_0, .int .i64 a1_1, .int .i64 a1_2]) (ok := fun _ => True) (okp := fun _ => True) ?hr ?hp (fun _ hk => hk) trivial (Below.refl _ _) (Nat.le_refl _) (by simp) ?_; (case hd => rfl); (case hg => rfl); (case hr => exact Z44); (case hp => exact (Reps.c3 (show Kd.M k90 _ _ _ (⟨a1_0, a1_1, a1_2⟩ : S90) [.int .i64 a1_0, .int .i64 a1_1, .int .i64 a1_2] from (k90_mkM _ _ _ (⟨a1_0, a1_1, a1_2⟩ : S90) )) (Reps.none _ _)))
     intro v243 w10 ho11 hb hg_ hnew_
     clear hg_ hnew_
     (first | rw [← Ny242.out] at ho11 | (simp only [Int.reduceToNat] at ho11; rw [← Ny242.out] at ho11))
     have n0_ := Aside0.mk (Kd.R_elder' (Z1 HO238.out) (Kd.R_base ho11) hb)
     have n1_ := Aside0.mk (Kd.R_lower (Kd.R_newB (Kd.R_new' ho11 (Kd.R_lt (Z1 HO238.out))) (g := gb235) (o := .cells #[.int .i64 a1_0, .int .i64 a1_1, .int .i64 a1_2] 90 (0, 0)) (Z4 BK235.out)) (below_size (Z19)))
     have n2_ := Aside0.mk (blk_below (g := gb235) (o := .cells #[.int .i64 a1_0, .int .i64 a1_1, .int .i64 a1_2] 90 (0, 0)) (Z4 BK235.out) hb)
     have n3_ := Aside0.mk (below_step (Z19) hb)
     clear HO238
     clear BK235
     clear HB
     have HO238 := n0_
     have HO244 := n1_
     have BK235 := n2_
     have HB := n3_
     clear n0_ n1_ n2_ n3_
     clear hb ho11
     refine hK.out _ _ ⟨(blk_cell BK235.out 0).trans rfl, (blk_cell BK235.out 1).trans rfl, (blk_cell BK235.out 2).trans rfl⟩ (fun hHeld => ?_)
     clear hK K
     refine norm_ (a' := ?_) ?_ ?_
     rotate_left
     ·show Act.put _ (some 10) _ = _
      simp only [Act.put, List.setIfInBounds_toArray, List.set_cons_zero, List.set_cons_succ, i64_w, i32_w]
      rfl
     refine one_ (i := 2) (N := some 8) (M_ 5 6) rfl rfl (one_of HT_.out (by kernel_rfl)) (by decide) (fun K hK => ?_)
     refine Kd.R_append_rows_step k90 (w0 := w) w.heap.size (by rfl) (.tmp 6) (.tmp 7) 42 90 (.agg #[(.int .i64 0), (.int .i64 0), (.int .i64 0)]) 24 rfl Try.underlying42 info90 rfl (by decide) (by omega) v237 y236 l0 _ _ _ (fun k_ => some k_ ≠ (v243 : Value).ownBlock ∧ k_ ≠ gb235) (fun _ => False) rfl rfl ?aO ?aR (fun _ _ h => h) (fun _ h => h.elim) ?aF ?aB ?aS ?aL ?_
     (case aR => exact Z13 HR0.out)
     (case aB => exact Z19)
     (case aF => exact (fun k_ hk => ⟨Kd.fresh' (Kd.R_lt (Z1 HO244.out)) k_ hk, Kd.freshB (g := gb235) (o := .cells #[.int .i64 a1_0, .int .i64 a1_1, .int .i64 a1_2] 90 (0, 0)) (Z4 BK235.out) k_ hk⟩))
     (case aO => exact (by (with_reducible repeat (first | apply Kd.R_alloc | apply Kd.R_drewN | apply Kd.R_drew)); exact Kd.R_mono HO238.out (fun _ hk => ⟨hk.2, hk.1.2⟩)))
     (case aS => exact (below_size (Z19)))
     (case aL => have := LMc3.out; omega)
     intro v240 w12 ho hb hg hat
     rw [← Ny239.out] at ho
     have n0_ := Aside0.mk (blk_grown (g := gb235) (o := .cells #[.int .i64 a1_0, .int .i64 a1_1, .int .i64 a1_2] 90 (0, 0)) (Z4 BK235.out) hg (Kd.R_away HO238.out (fun _ hk => hk.1.2)))
     have n1_ := Aside0.mk (Kd.R_after (ok := (fun k_ => k_ ≠ gb235)) (by (with_reducible repeat (first | apply Kd.R_alloc | apply Kd.R_drewN | apply Kd.R_drew)); exact Kd.R_mono HO244.out (fun _ hk => ⟨hk.2, hk.1.2⟩)) hg hat)
     have n2_ := Aside0.mk (hb)
     have n3_ := Aside0.mk (ho)
     clear BK235
     clear HO244
     clear HB
     clear HO238
     have BK235 := n0_
     have HO244 := n1_
     have HB := n2_
     have HO241 := n3_
     clear n0_ n1_ n2_ n3_
     clear ho hb hg hat
     refine hK.out _ _ ⟨(blk_cell BK235.out 0).trans rfl, (blk_cell BK235.out 1).trans rfl, (blk_cell BK235.out 2).trans rfl⟩ (fun hHeld => ?_)
     clear hK K
     refine norm_ (a' := ?_) ?_ ?_
     rotate_left
     ·show Act.put _ (some 8) _ = _
      simp only [Act.put, List.setIfInBounds_toArray, List.set_cons_zero, List.set_cons_succ, i64_w, i32_w]
      rfl
     exact norm_ (Z54) (hCont (v237, v240, v243) _ ⟨hHeld, (Z1 HO241.out), (Z78 HO244.out), (Z4 BK235.out), (Z19)⟩)
    skip
    refine Kd.R_lit_step k90 _ 90 ?hg (N := 10) ?hd (xs := ([(⟨a1_0, a1_1, a1_2⟩ : S90)] : List (S90))) (inner := [.int .i64 a1_0, .int .i64 a1_1, .int .i64 a1_2]) (ok := fun _ => True) (okp := fun _ => True) ?hr ?hp (fun _ hk => hk) trivial (Below.refl _ _) (Nat.le_refl _) (by simp) ?_; (case hd => rfl); (case hg => rfl); (case hr => exact Z44); (case hp => exact (Reps.c3 (show Kd.M k90 _ _ _ (⟨a1_0, a1_1, a1_2⟩ : S90) [.int .i64 a1_0, .int .i64 a1_1, .int .i64 a1_2] from (k90_mkM _ _ _ (⟨a1_0, a1_1, a1_2⟩ : S90) )) (Reps.none _ _)))
    intro v243 w8 ho9 hb hg_ hnew_
    clear hg_ hnew_
    (first | rw [← Ny242.out] at ho9 | (simp only [Int.reduceToNat] at ho9; rw [← Ny242.out] at ho9))
    have n0_ := Aside0.mk (Kd.R_lower (Kd.R_newB ho9 (g := gb235) (o := .cells #[.int .i64 a1_0, .int .i64 a1_1, .int .i64 a1_2] 90 (0, 0)) (Z4 BK235.out)) (below_size (Z19)))
    have n1_ := Aside0.mk (blk_below (g := gb235) (o := .cells #[.int .i64 a1_0, .int .i64 a1_1, .int .i64 a1_2] 90 (0, 0)) (Z4 BK235.out) hb)
    have n2_ := Aside0.mk (below_step (Z19) hb)
    clear BK235
    clear HB
    have HO244 := n0_
    have BK235 := n1_
    have HB := n2_
    clear n0_ n1_ n2_
    clear hb ho9
    refine hK.out _ _ ⟨(blk_cell BK235.out 0).trans rfl, (blk_cell BK235.out 1).trans rfl, (blk_cell BK235.out 2).trans rfl⟩ (fun hHeld => ?_)
    clear hK K
    refine norm_ (a' := ?_) ?_ ?_
    rotate_left
    ·show Act.put _ (some 10) _ = _
     simp only [Act.put, List.setIfInBounds_toArray, List.set_cons_zero, List.set_cons_succ, i64_w, i32_w]
     rfl
    refine one_ (i := 0) (N := some 6) (N_ 11 27) rfl rfl (one_of HT_.out (by kernel_rfl)) (by decide) (fun K hK => ?_)
    refine Kd.R_lit_step k90 _ 90 ?hg (N := 6) ?hd (xs := ([] : List (S90))) (inner := []) (ok := fun _ => True) (okp := fun _ => True) ?hr ?hp (fun _ hk => hk) trivial (Below.refl _ _) (Nat.le_refl _) (by simp) ?_; (case hd => rfl); (case hg => rfl); (case hr => exact Z44); (case hp => exact (Reps.none _ _))
    intro v237 w10 ho11 hb hg_ hnew_
    clear hg_ hnew_
    (first | rw [← Ny236.out] at ho11 | (simp only [Int.reduceToNat] at ho11; rw [← Ny236.out] at ho11))
    have n0_ := Aside0.mk (Kd.R_elder' (Z1 HO244.out) (Kd.R_base ho11) hb)
    have n1_ := Aside0.mk (Kd.R_lower (Kd.R_newB (Kd.R_new' ho11 (Kd.R_lt (Z1 HO244.out))) (g := gb235) (o := .cells #[.int .i64 a1_0, .int .i64 a1_1, .int .i64 a1_2] 90 (0, 0)) (Z4 BK235.out)) (below_size (Z19)))
    have n2_ := Aside0.mk (blk_below (g := gb235) (o := .cells #[.int .i64 a1_0, .int .i64 a1_1, .int .i64 a1_2] 90 (0, 0)) (Z4 BK235.out) hb)
    have n3_ := Aside0.mk (below_step (Z19) hb)
    clear HO244
    clear BK235
    clear HB
    have HO244 := n0_
    have HO238 := n1_
    have BK235 := n2_
    have HB := n3_
    clear n0_ n1_ n2_ n3_
    clear hb ho11
    refine hK.out _ _ ⟨(blk_cell BK235.out 0).trans rfl, (blk_cell BK235.out 1).trans rfl, (blk_cell BK235.out 2).trans rfl⟩ (fun hHeld => ?_)
    clear hK K
    refine norm_ (a' := ?_) ?_ ?_
    rotate_left
    ·show Act.put _ (some 6) _ = _
     simp only [Act.put, List.setIfInBounds_toArray, List.set_cons_zero, List.set_cons_succ, i64_w, i32_w]
     rfl
    refine one_ (i := 2) (N := some 8) (M_ 5 6) rfl rfl (one_of HT_.out (by kernel_rfl)) (by decide) (fun K hK => ?_)
    refine Kd.R_append_rows_step k90 (w0 := w) w.heap.size (by rfl) (.tmp 6) (.tmp 7) 42 90 (.agg #[(.int .i64 0), (.int .i64 0), (.int .i64 0)]) 24 rfl Try.underlying42 info90 rfl (by decide) (by omega) v237 y236 l0 _ _ _ (fun k_ => some k_ ≠ (v243 : Value).ownBlock ∧ k_ ≠ gb235) (fun _ => False) rfl rfl ?aO ?aR (fun _ _ h => h) (fun _ h => h.elim) ?aF ?aB ?aS ?aL ?_
    (case aR => exact Z13 HR0.out)
    (case aB => exact Z19)
    (case aF => exact (fun k_ hk => ⟨Kd.fresh' (Kd.R_lt (Z1 HO244.out)) k_ hk, Kd.freshB (g := gb235) (o := .cells #[.int .i64 a1_0, .int .i64 a1_1, .int .i64 a1_2] 90 (0, 0)) (Z4 BK235.out) k_ hk⟩))
    (case aO => exact Z43 HO238.out)
    (case aS => exact (below_size (Z19)))
    (case aL => have := LMc3.out; omega)
    intro v240 w12 ho hb hg hat
    rw [← Ny239.out] at ho
    have n0_ := Aside0.mk (blk_grown (g := gb235) (o := .cells #[.int .i64 a1_0, .int .i64 a1_1, .int .i64 a1_2] 90 (0, 0)) (Z4 BK235.out) hg (Kd.R_away HO238.out (fun _ hk => hk.2)))
    have n1_ := Aside0.mk (Kd.R_after (ok := (fun k_ => k_ ≠ gb235)) (Z43 HO244.out) hg hat)
    have n2_ := Aside0.mk (hb)
    have n3_ := Aside0.mk (ho)
    clear BK235
    clear HO244
    clear HB
    clear HO238
    have BK235 := n0_
    have HO244 := n1_
    have HB := n2_
    have HO241 := n3_
    clear n0_ n1_ n2_ n3_
    clear ho hb hg hat
    refine hK.out _ _ ⟨(blk_cell BK235.out 0).trans rfl, (blk_cell BK235.out 1).trans rfl, (blk_cell BK235.out 2).trans rfl⟩ (fun hHeld => ?_)
    clear hK K
    refine norm_ (a' := ?_) ?_ ?_
    rotate_left
    ·show Act.put _ (some 8) _ = _
     simp only [Act.put, List.setIfInBounds_toArray, List.set_cons_zero, List.set_cons_succ, i64_w, i32_w]
     rfl
    exact norm_ (Z54) (hCont (v237, v240, v243) _ ⟨hHeld, (Z1 HO241.out), (Z78 HO244.out), (Z4 BK235.out), (Z19)⟩)
   rintro ⟨v237, v240, v243⟩ w13 ⟨hS_, h0_, h1_, h2_, h3_⟩
   have n0_ : Aside0 (Kd.R k90 90 w13 w.heap.size (fun k_ => some k_ ≠ (v243 : Value).ownBlock ∧ k_ ≠ gb235) v240 y239) := ⟨h0_⟩
   have n1_ : Aside0 (Kd.R k90 90 w13 w.heap.size (fun k_ => some k_ ≠ (v240 : Value).ownBlock ∧ k_ ≠ gb235) v243 y242) := ⟨h1_⟩
   have n2_ : Aside0 (w13.heap[gb235]? = some (.cells #[.int .i64 a1_0, .int .i64 a1_1, .int .i64 a1_2] 90 (0, 0))) := ⟨h2_⟩
   have n3_ : Aside0 (Below w.heap.size w w13) := ⟨h3_⟩
   clear BK235
   clear HB
   clear h0_ h1_ h2_ h3_
   have HO241 := n0_
   have HO244 := n1_
   have BK235 := n2_
   have HB := n3_
   clear n0_ n1_ n2_ n3_
   have hHeld : w13.cell? ⟨gb235, 0, none⟩ = some (.int .i64 a1_0) ∧ w13.cell? ⟨gb235, 1, none⟩ = some (.int .i64 a1_1) ∧ w13.cell? ⟨gb235, 2, none⟩ = some (.int .i64 a1_2) := hS_
   obtain ⟨Ao15, co15, eo15⟩ := Kd.R_slice HO244.out
   (first | subst eo15 | (injection eo15 with f1_ f2_ f3_; have f4_ := f1_.symm; have f5_ := f3_.symm; clear f1_ f2_ f3_; subst f4_; subst f5_))
   refine norm_ (a' := ?_) ?_ ?_
   rotate_left
   ·simp only [putAll, Act.put, List.setIfInBounds_toArray, List.set_cons_zero, List.set_cons_succ]
    rfl
   refine one_ (i := 5) (N := some 11) (M_ 6 5) rfl rfl (one_of HT_.out (by kernel_rfl)) (by decide) (fun K hK => ?_)
   refine Kd.R_append_rows_step k90 (w0 := w) w.heap.size (by rfl) (.tmp 8) (.tmp 10) 42 90 (.agg #[(.int .i64 0), (.int .i64 0), (.int .i64 0)]) 24 rfl Try.underlying42 info90 rfl (by decide) (by omega) v240 y239 y242 _ _ _ (fun k_ => some k_ ≠ (.slice Ao15 y242.length co15 : Value).ownBlock ∧ k_ ≠ gb235) (fun _ => False) rfl rfl ?aO ?aR (fun _ _ h => h) (fun _ h => h.elim) ?aF ?aB ?aS ?aL ?_
   (case aR => exact Z5 HO244.out)
   (case aB => exact Z19)
   (case aF => exact (fun k_ hk => ⟨Kd.fresh' (Kd.R_lt (Z1 HO244.out)) k_ hk, Kd.freshB (g := gb235) (o := .cells #[.int .i64 a1_0, .int .i64 a1_1, .int .i64 a1_2] 90 (0, 0)) (Z4 BK235.out) k_ hk⟩))
   (case aO => exact Z1 HO241.out)
   (case aS => exact (below_size (Z19)))
   (case aL => have := LMc4.out; omega)
   intro v246 w14 ho hb hg hat
   rw [← Ny245.out] at ho
   have n0_ := Aside0.mk (blk_grown (g := gb235) (o := .cells #[.int .i64 a1_0, .int .i64 a1_1, .int .i64 a1_2] 90 (0, 0)) (Z4 BK235.out) hg (Kd.R_away HO241.out (fun _ hk => hk.2)))
   have n1_ := Aside0.mk (Kd.R_after (ok := (fun k_ => k_ ≠ gb235)) (Z78 HO244.out) hg hat)
   have n2_ := Aside0.mk (hb)
   have n3_ := Aside0.mk (ho)
   clear BK235
   clear HO244
   clear HB
   clear HO241
   have BK235 := n0_
   have HO244 := n1_
   have HB := n2_
   have HO247 := n3_
   clear n0_ n1_ n2_ n3_
   clear ho hb hg hat
   obtain ⟨Ao16, co16, eo16⟩ := Kd.R_slice HO247.out
   (first | subst eo16 | (injection eo16 with f1_ f2_ f3_; have f4_ := f1_.symm; have f5_ := f3_.symm; clear f1_ f2_ f3_; subst f4_; subst f5_))
   refine hK.out _ _ ⟨(blk_cell BK235.out 0).trans rfl, (blk_cell BK235.out 1).trans rfl, (blk_cell BK235.out 2).trans rfl⟩ (fun hHeld => ?_)
   clear hK K
   refine norm_ (a' := ?_) ?_ ?_
   rotate_left
   ·show Act.put _ (some 11) _ = _
    simp only [Act.put, List.setIfInBounds_toArray, List.set_cons_zero, List.set_cons_succ, i64_w, i32_w]
    rfl
   refine one_ (i := 6) (N := some 12) (M_ 7 4) rfl rfl (one_of HT_.out (by kernel_rfl)) (by decide) (fun K hK => ?_)
   refine goes_ Try.func103 (by kernel_rfl) rfl #[.slice Ao16 y245.length co16] (by rfl) rfl rfl (Z18) ?_
   with_reducible refine (spec_shSorted.calls k _ _ y245 t248 t249 _ ?side1 ?side2 A5.out).mono ?_
   (case side1 => exact Z5 HO247.out)
   (case side2 => exact (Kd.R_reads' HO247.out).2.1)
   rintro e w17 ⟨v250, rfl, ho0, hb⟩
   refine ⟨_, rfl, ?_⟩
   have n0_ := Aside0.mk (Kd.R_elder' (Z1 HO244.out) (Kd.R_base ho0) hb)
   have n1_ := Aside0.mk (Kd.R_elder' (Z1 HO247.out) (Kd.R_base ho0) hb)
   have n2_ := Aside0.mk (Kd.R_lower (Kd.R_newB (Kd.R_new' (Kd.R_new' ho0 (Kd.R_lt (Z1 HO244.out))) (Kd.R_lt (Z1 HO247.out))) (g := gb235) (o := .cells #[.int .i64 a1_0, .int .i64 a1_1, .int .i64 a1_2] 90 (0, 0)) (Z4 BK235.out)) (below_size (Z19)))
   have n3_ := Aside0.mk (blk_below (g := gb235) (o := .cells #[.int .i64 a1_0, .int .i64 a1_1, .int .i64 a1_2] 90 (0, 0)) (Z4 BK235.out) hb)
   have n4_ := Aside0.mk (below_step (Z19) hb)
   clear HO244
   clear HO247
   clear BK235
   clear HB
   have HO244 := n0_
   have HO247 := n1_
   have HO251 := n2_
   have BK235 := n3_
   have HB := n4_
   clear n0_ n1_ n2_ n3_ n4_
   (try clear hb)
   (try clear hb2)
   (try clear hk)
   (try clear hi)
   (try clear ho0)
   refine hK.out _ _ ⟨(blk_cell BK235.out 0).trans rfl, (blk_cell BK235.out 1).trans rfl, (blk_cell BK235.out 2).trans rfl⟩ (fun hHeld => ?_)
   clear hK K
   refine norm_ (a' := ?_) ?_ ?_
   rotate_left
   ·show Act.put _ (some 12) _ = _
    simp only [Act.put, List.setIfInBounds_toArray, List.set_cons_zero, List.set_cons_succ, i64_w, i32_w]
    rfl
   refine pu_ 7 13 (M_ 8 3) ?_
   refine pu_ 8 14 (M_ 9 2) ?_
   refine pu_ 9 4 (M_ 10 1) ?_
   refine pu_ 10 5 (M_ 11 0) ?_
   refine done_ (done_of HT_.out (by kernel_rfl)) ?_
   try go_wp2
   go_ret2
   exact ⟨_, Z11, Z50 HO251.out, Z19⟩
  rw [if_neg c4] at H
  exact absurd H (by simp)
 rw [if_neg c3] at H
 exact absurd H (by simp)

/-! ### spec_l1Cur_among: function 46 -/
def spec_l1Cur_among.f (s0_0 : List Int) (s0_1 : Int) (s0_2 : Int) (l1 : List Int) : Option (Int × Int × Int) := (spec_l1Cur_pick.f s0_0 s0_1 s0_2 (l1.length : Int)).bind fun bt252 => (if 0 ≤ bt252.1 then (if bt252.1 < (l1.length : Int) then (some (rd l1 bt252.1, bt252.2.1, bt252.2.2)) else (none)) else (none))
set_option maxHeartbeats 8000000 in
set_option maxRecDepth 100000 in
theorem spec_l1Cur_among.calls (g : Nat) (s0_0 : List Int) (s0_1 : Int) (s0_2 : Int) (A1 : Option Addr) (c1 : Nat) (l1 : List Int) (r1 : Int) (r2 : Int) (r3 : Int) (w0 w : World) (hI : IsS69 w0 w g s0_0 s0_1 s0_2) (hB : Below w0.heap.size w0 w) (hr1 : Kd.C (Kd.int .i64) w A1 l1.length l1) (hc1 : l1.length ≤ c1) (hf1 : ∀ ad, A1 = some ad → 0 < l1.length → ad.block ≠ g) (h : spec_l1Cur_among.f s0_0 s0_1 s0_2 l1 = some (r1, r2, r3)) :
  Calls Try.prog 46 #[.pointer (some ⟨g, 0, none⟩), .slice A1 l1.length c1] w fun e w' => e = .returned (.int .i64 r1) ∧ IsS69 w0 w' g s0_0 r2 r3 ∧ Below w0.heap.size w0 w' ∧ KeepBut w w' g none := by
 have HR1 := Aside0.mk hr1
 have HC1 := Aside0.mk hc1
 clear hr1 hc1
 have HI0 := Aside0.mk hI
 have HK := Aside0.mk (KeepBut.refl w g none)
 have HL := Aside0.mk hB.size
 clear hI
 have HW0 := Aside0.mk hB.size
 have HB := Aside0.mk hB
 clear hB
 have H : ((spec_l1Cur_pick.f s0_0 s0_1 s0_2 (l1.length : Int)).bind fun bt252 => (if 0 ≤ bt252.1 then (if bt252.1 < (l1.length : Int) then (some (rd l1 bt252.1, bt252.2.1, bt252.2.2)) else (none)) else (none))) = some (r1, r2, r3) := h
 clear h
 replace H := Option.bind_eq_some_iff.mp H
 obtain ⟨⟨t252, t253, t254⟩, A30, H⟩ := H
 (try dsimp only at H)
 have A3 := Aside0.mk A30
 clear A30
 by_cases c4 : 0 ≤ t252
 ·rw [if_pos c4] at H
  have c4b0 : decide (0 ≤ t252) = true := decide_eq_true c4
  clear c4
  by_cases c5 : t252 < (l1.length : Int)
  ·rw [if_pos c5] at H
   have c5b0 : decide (t252 < (l1.length : Int)) = true := decide_eq_true c5
   clear c5
   simp only [Option.some.injEq, Prod.mk.injEq] at H
   obtain ⟨rfl, rfl, rfl⟩ := H
   go_enter Try.func46, Try.ntmps46
   go_wp2_with (first | ((with_reducible refine gate_callee (f := 45) rfl ?_); refine gl_ 9 Try.func45 #[.pointer (some ⟨g, 0, none⟩), .int .i64 (l1.length : Int)] ?_; (with_reducible refine (spec_l1Cur_pick.calls g s0_0 s0_1 s0_2 (l1.length : Int) t252 t253 t254 w0 _ ?_ ?_ A3.out).mono ?_); exact Z3 HI0.out; exact Z7; rintro e w6 ⟨rfl, hi, hb, hk⟩; refine ⟨_, rfl, ?_⟩; refine k3_ (KeepBut.trans (Z6) hk (.inl rfl)) (hb) (hi) ?_; clear HK HB HI0; intro HK HB HI0; (try clear hb hk hi); have p255 : 0 ≤ (t252 : Int) := of_decide_eq_true (Z8); have q255 : t252 < (l1.length : Int) := of_decide_eq_true (Z8); obtain ⟨ad255, e255, hx255_0⟩ := Kd.at_int HR1.out t252 p255 q255; cases e255; replace hx255_0 := keep_cell HK.out hx255_0 (by first | (rw [add_block]; exact hf1 _ rfl (by omega)) | exact hf1 _ rfl (by omega) | exact hf1 ad255 rfl (by omega)); replace p255 := eq_true p255; replace q255 := eq_true q255))
   go_ret
   exact ⟨Z11, Z3 HI0.out, Z7, Z6⟩
  rw [if_neg c5] at H
  exact absurd H (by simp)
 rw [if_neg c4] at H
 exact absurd H (by simp)

/-! ### spec_l1Cur_hole: function 112 -/
def spec_l1Cur_hole.f (s0_0 : List Int) (s0_1 : Int) (s0_2 : Int) : Option (Int × Int × Int × Int × Int) := (spec_l1Cur_pick.f s0_0 s0_1 s0_2 40).bind fun bt257 => ((spec_l1Cur_pick.f s0_0 bt257.2.1 bt257.2.2 60).bind fun bt260 => ((spec_l1Cur_among.f s0_0 bt260.2.1 bt260.2.2 (([0, 2, 5, bt257.1, bt260.1, 1990] : List Int))).bind fun bt266 => ((spec_l1Cur_pick.f s0_0 bt266.2.1 bt266.2.2 20).bind fun bt269 => ((spec_l1Cur_among.f s0_0 bt269.2.1 bt269.2.2 (([0, 1, 2, 3, 5, bt269.1] : List Int))).bind fun bt275 => ((spec_l1Cur_among.f s0_0 bt275.2.1 bt275.2.2 (([1, 2, 3, 4, 10] : List Int))).bind fun bt281 => (some (bt275.1, bt266.1, wrap64 (bt266.1 + bt281.1), bt281.2.1, bt281.2.2)))))))
set_option maxHeartbeats 8000000 in
set_option maxRecDepth 100000 in
theorem spec_l1Cur_hole.calls (g : Nat) (s0_0 : List Int) (s0_1 : Int) (s0_2 : Int) (r1 : Int) (r2 : Int) (r3 : Int) (r4 : Int) (r5 : Int) (w0 w : World) (hI : IsS69 w0 w g s0_0 s0_1 s0_2) (hB : Below w0.heap.size w0 w) (h : spec_l1Cur_hole.f s0_0 s0_1 s0_2 = some (r1, r2, r3, r4, r5)) :
  Calls Try.prog 112 #[.pointer (some ⟨g, 0, none⟩)] w fun e w' => e = .returned (.agg #[.int .i64 r1, .int .i64 r2, .int .i64 r3]) ∧ IsS69 w0 w' g s0_0 r4 r5 ∧ Below w0.heap.size w0 w' ∧ KeepBut w w' g none := by
 have hu90 := Try.underlying90
 have HI0 := Aside0.mk hI
 have HK := Aside0.mk (KeepBut.refl w g none)
 have HL := Aside0.mk hB.size
 clear hI
 have HW0 := Aside0.mk hB.size
 have HB := Aside0.mk hB
 clear hB
 have H : ((spec_l1Cur_pick.f s0_0 s0_1 s0_2 40).bind fun bt257 => ((spec_l1Cur_pick.f s0_0 bt257.2.1 bt257.2.2 60).bind fun bt260 => ((spec_l1Cur_among.f s0_0 bt260.2.1 bt260.2.2 (([0, 2, 5, bt257.1, bt260.1, 1990] : List Int))).bind fun bt266 => ((spec_l1Cur_pick.f s0_0 bt266.2.1 bt266.2.2 20).bind fun bt269 => ((spec_l1Cur_among.f s0_0 bt269.2.1 bt269.2.2 (([0, 1, 2, 3, 5, bt269.1] : List Int))).bind fun bt275 => ((spec_l1Cur_among.f s0_0 bt275.2.1 bt275.2.2 (([1, 2, 3, 4, 10] : List Int))).bind fun bt281 => (some (bt275.1, bt266.1, wrap64 (bt266.1 + bt281.1), bt281.2.1, bt281.2.2)))))))) = some (r1, r2, r3, r4, r5) := h
 clear h
 replace H := Option.bind_eq_some_iff.mp H
 obtain ⟨⟨t257, t258, t259⟩, A20, H⟩ := H
 (try dsimp only at H)
 have A2 := Aside0.mk A20
 clear A20
 replace H := Option.bind_eq_some_iff.mp H
 obtain ⟨⟨t260, t261, t262⟩, A30, H⟩ := H
 (try dsimp only at H)
 have A3 := Aside0.mk A30
 clear A30
 obtain ⟨y263, hy263⟩ : ∃ y_ : List Int, y_ = (([0, 2, 5, t257, t260, 1990] : List Int)) := ⟨_, rfl⟩
 replace H : ((spec_l1Cur_among.f s0_0 t261 t262 y263).bind fun bt266 => ((spec_l1Cur_pick.f s0_0 bt266.2.1 bt266.2.2 20).bind fun bt269 => ((spec_l1Cur_among.f s0_0 bt269.2.1 bt269.2.2 (([0, 1, 2, 3, 5, bt269.1] : List Int))).bind fun bt275 => ((spec_l1Cur_among.f s0_0 bt275.2.1 bt275.2.2 (([1, 2, 3, 4, 10] : List Int))).bind fun bt281 => (some (bt275.1, bt266.1, wrap64 (bt266.1 + bt281.1), bt281.2.1, bt281.2.2)))))) = some (r1, r2, r3, r4, r5) := by first | (rw [hy263]; with_reducible exact H) | (have H2_ := (Option.bind_some _ _).symm.trans H; rw [hy263]; with_reducible exact H2_) | (have H2_ := (Option.bind_some _ _).symm.trans H; with_reducible exact H2_) | with_reducible exact H | (rw [hy263]; exact H) | exact H
 have Ny263 := Aside0.mk hy263
 clear hy263
 replace H := Option.bind_eq_some_iff.mp H
 obtain ⟨⟨t266, t267, t268⟩, A40, H⟩ := H
 (try dsimp only at H)
 have A4 := Aside0.mk A40
 clear A40
 replace H := Option.bind_eq_some_iff.mp H
 obtain ⟨⟨t269, t270, t271⟩, A50, H⟩ := H
 (try dsimp only at H)
 have A5 := Aside0.mk A50
 clear A50
 obtain ⟨y272, hy272⟩ : ∃ y_ : List Int, y_ = (([0, 1, 2, 3, 5, t269] : List Int)) := ⟨_, rfl⟩
 replace H : ((spec_l1Cur_among.f s0_0 t270 t271 y272).bind fun bt275 => ((spec_l1Cur_among.f s0_0 bt275.2.1 bt275.2.2 (([1, 2, 3, 4, 10] : List Int))).bind fun bt281 => (some (bt275.1, t266, wrap64 (t266 + bt281.1), bt281.2.1, bt281.2.2)))) = some (r1, r2, r3, r4, r5) := by first | (rw [hy272]; with_reducible exact H) | (have H2_ := (Option.bind_some _ _).symm.trans H; rw [hy272]; with_reducible exact H2_) | (have H2_ := (Option.bind_some _ _).symm.trans H; with_reducible exact H2_) | with_reducible exact H | (rw [hy272]; exact H) | exact H
 have Ny272 := Aside0.mk hy272
 clear hy272
 replace H := Option.bind_eq_some_iff.mp H
 obtain ⟨⟨t275, t276, t277⟩, A60, H⟩ := H
 (try dsimp only at H)
 have A6 := Aside0.mk A60
 clear A60
 obtain ⟨y278, hy278⟩ : ∃ y_ : List Int, y_ = (([1, 2, 3, 4, 10] : List Int)) := ⟨_, rfl⟩
 replace H : ((spec_l1Cur_among.f s0_0 t276 t277 y278).bind fun bt281 => (some (t275, t266, wrap64 (t266 + bt281.1), bt281.2.1, bt281.2.2))) = some (r1, r2, r3, r4, r5) := by first | (rw [hy278]; with_reducible exact H) | (have H2_ := (Option.bind_some _ _).symm.trans H; rw [hy278]; with_reducible exact H2_) | (have H2_ := (Option.bind_some _ _).symm.trans H; with_reducible exact H2_) | with_reducible exact H | (rw [hy278]; exact H) | exact H
 have Ny278 := Aside0.mk hy278
 clear hy278
 replace H := Option.bind_eq_some_iff.mp H
 obtain ⟨⟨t281, t282, t283⟩, A70, H⟩ := H
 (try dsimp only at H)
 have A7 := Aside0.mk A70
 clear A70
 simp only [Option.some.injEq, Prod.mk.injEq] at H
 obtain ⟨rfl, rfl, rfl, rfl, rfl⟩ := H
 go_enter Try.func112, Try.ntmps112
 go_wp2_with (first | ((with_reducible refine gate_dst (N := 2) rfl ?_); refine bv_ 2 90 #[.int .i64 0, .int .i64 0, .int .i64 0] ?_; intro gb256 hg w8 hbox hb; refine k8_ (IsS69.below (Z3 HI0.out) hb) (KeepBut.trans (Z6) (KeepBut.of_below hb g none) (.inl rfl)) (below_step (Z7) hb) (hbox) ((by rw [hg]; exact (keep_size (w := w) (g := g) (row := none) (Z6)) : w.heap.size ≤ gb256)) ((Nat.le_trans HW0.out (by rw [hg]; exact (keep_size (w := w) (g := g) (row := none) (Z6)) : w.heap.size ≤ gb256) : w0.heap.size ≤ gb256)) ((by rw [hg]; exact Nat.ne_of_lt (IsS69.lt (show IsS69 w0 _ g s0_0 s0_1 s0_2 from Z3 HI0.out)) : g ≠ gb256)) ((by rw [hg]; exact Nat.ne_of_gt (IsS69.lt (show IsS69 w0 _ g s0_0 s0_1 s0_2 from Z3 HI0.out)) : gb256 ≠ g)) ?_; clear HI0 HK HB; intro HI0 HK HB BK256 GW256 GE256 NB0_256 NB256_0; clear hb hbox hg) | ((with_reducible refine gate_callee (f := 45) rfl ?_); refine gl_ 6 Try.func45 #[.pointer (some ⟨g, 0, none⟩), .int .i64 40] ?_; (with_reducible refine (spec_l1Cur_pick.calls g s0_0 s0_1 s0_2 40 t257 t258 t259 w0 _ ?_ ?_ A2.out).mono ?_); exact Z23; exact Z30; rintro e w9 ⟨rfl, hi, hb, hk⟩; refine ⟨_, rfl, ?_⟩; refine k4_ (KeepBut.blk hk (g' := gb256) (o := .cells #[.int .i64 0, .int .i64 0, .int .i64 0] 90 (0, 0)) (Z4 BK256.out) NB256_0.out (by simp)) (KeepBut.trans (Z29) hk (.inl rfl)) (hb) (hi) ?_; clear BK256 HK HB HI0; intro BK256 HK HB HI0; (try clear hb hk hi)) | ((with_reducible refine gate_callee (f := 45) rfl ?_); refine gl_ 8 Try.func45 #[.pointer (some ⟨g, 0, none⟩), .int .i64 60] ?_; (with_reducible refine (spec_l1Cur_pick.calls g s0_0 t258 t259 60 t260 t261 t262 w0 _ ?_ ?_ A3.out).mono ?_); exact Z23; exact Z30; rintro e w10 ⟨rfl, hi, hb, hk⟩; refine ⟨_, rfl, ?_⟩; refine k4_ (KeepBut.blk hk (g' := gb256) (o := .cells #[.int .i64 0, .int .i64 0, .int .i64 0] 90 (0, 0)) (Z4 BK256.out) NB256_0.out (by simp)) (KeepBut.trans (Z29) hk (.inl rfl)) (hb) (hi) ?_; clear BK256 HK HB HI0; intro BK256 HK HB HI0; (try clear hb hk hi)) | ((with_reducible refine gate_dst (N := 9) rfl ?_); refine Kd.R_lit (Kd.int .i64) _ 3 ?hg (N := 9) ?hd (xs := ([0, 2, 5, t257, t260, 1990] : List Int)) (inner := [.int .i64 0, .int .i64 2, .int .i64 5, .int .i64 t257, .int .i64 t260, .int .i64 1990]) (ok := fun _ => True) (okp := fun _ => True) ?hr ?hp (fun _ hk => hk) trivial (Below.refl _ _) (Nat.le_refl _) (by simp) ?_; (case hd => rfl); (case hg => rfl); (case hr => exact Z44); (case hp => exact (Reps.one (show Kd.M (Kd.int .i64) _ _ _ 0 [.int .i64 0] from rfl) (Reps.one (show Kd.M (Kd.int .i64) _ _ _ 2 [.int .i64 2] from rfl) (Reps.one (show Kd.M (Kd.int .i64) _ _ _ 5 [.int .i64 5] from rfl) (Reps.one (show Kd.M (Kd.int .i64) _ _ _ t257 [.int .i64 t257] from rfl) (Reps.one (show Kd.M (Kd.int .i64) _ _ _ t260 [.int .i64 t260] from rfl) (Reps.one (show Kd.M (Kd.int .i64) _ _ _ 1990 [.int .i64 1990] from rfl) (Reps.none _ _)))))))); intro v264 w11 ho12 hb hg_ hnew_; clear hg_ hnew_; (first | rw [← Ny263.out] at ho12 | (simp only [Int.reduceToNat] at ho12; rw [← Ny263.out] at ho12)); refine k5_ (Kd.R_lower ho12 (keep_size (w := w) (g := g) (row := none) (Z29))) (IsS69.below (Z23) hb) (blk_below (g := gb256) (o := .cells #[.int .i64 0, .int .i64 0, .int .i64 0] 90 (0, 0)) (Z4 BK256.out) hb) (KeepBut.trans (Z29) (KeepBut.of_below hb g none) (.inl rfl)) (below_step (Z30) hb) ?_; clear HI0 BK256 HK HB; intro HO265 HI0 BK256 HK HB; clear hb ho12; obtain ⟨Ao13, co13, eo13⟩ := Kd.R_slice HO265.out; subst eo13) | ((with_reducible refine gate_callee (f := 46) rfl ?_); refine gl_ 10 Try.func46 #[.pointer (some ⟨g, 0, none⟩), .slice Ao13 y263.length co13] ?_; (with_reducible refine (spec_l1Cur_among.calls g s0_0 t261 t262 _ _ y263 t266 t267 t268 w0 _ ?_ ?_ ?_ ?_ ?_ A4.out).mono ?_); exact Z23; exact Z30; exact Z5 HO265.out; exact (Kd.R_reads' HO265.out).2.1; exact far_slice (IsS69.own_ne HI0.out HO265.out (by decide)); rintro e w14 ⟨rfl, hi, hb, hk⟩; refine ⟨_, rfl, ?_⟩; refine k5_ (KeepBut.blk hk (g' := gb256) (o := .cells #[.int .i64 0, .int .i64 0, .int .i64 0] 90 (0, 0)) (Z4 BK256.out) NB256_0.out (by simp)) (Kd.R_mono (Kd.R_keep (IsS69.apart (show IsS69 w0 _ g s0_0 t261 t262 from Z23) (Z1 HO265.out) (by decide)) hk (fun _ h => h.2)) (fun _ h => h.1)) (KeepBut.trans (Z29) hk (.inl rfl)) (hb) (hi) ?_; clear BK256 HO265 HK HB HI0; intro BK256 HO265 HK HB HI0; (try clear hb hk hi)) | ((with_reducible refine gate_callee (f := 45) rfl ?_); refine gl_ 13 Try.func45 #[.pointer (some ⟨g, 0, none⟩), .int .i64 20] ?_; (with_reducible refine (spec_l1Cur_pick.calls g s0_0 t267 t268 20 t269 t270 t271 w0 _ ?_ ?_ A5.out).mono ?_); exact Z23; exact Z30; rintro e w15 ⟨rfl, hi, hb, hk⟩; refine ⟨_, rfl, ?_⟩; refine k5_ (KeepBut.blk hk (g' := gb256) (o := .cells #[.int .i64 0, .int .i64 0, .int .i64 0] 90 (0, 0)) (Z4 BK256.out) NB256_0.out (by simp)) (Kd.R_mono (Kd.R_keep (IsS69.apart (show IsS69 w0 _ g s0_0 t267 t268 from Z23) (Z1 HO265.out) (by decide)) hk (fun _ h => h.2)) (fun _ h => h.1)) (KeepBut.trans (Z29) hk (.inl rfl)) (hb) (hi) ?_; clear BK256 HO265 HK HB HI0; intro BK256 HO265 HK HB HI0; (try clear hb hk hi)) | ((with_reducible refine gate_dst (N := 14) rfl ?_); refine Kd.R_lit (Kd.int .i64) _ 3 ?hg (N := 14) ?hd (xs := ([0, 1, 2, 3, 5, t269] : List Int)) (inner := [.int .i64 0, .int .i64 1, .int .i64 2, .int .i64 3, .int .i64 5, .int .i64 t269]) (ok := fun _ => True) (okp := fun _ => True) ?hr ?hp (fun _ hk => hk) trivial (Below.refl _ _) (Nat.le_refl _) (by simp) ?_; (case hd => rfl); (case hg => rfl); (case hr => exact Z44); (case hp => exact (Reps.one (show Kd.M (Kd.int .i64) _ _ _ 0 [.int .i64 0] from rfl) (Reps.one (show Kd.M (Kd.int .i64) _ _ _ 1 [.int .i64 1] from rfl) (Reps.one (show Kd.M (Kd.int .i64) _ _ _ 2 [.int .i64 2] from rfl) (Reps.one (show Kd.M (Kd.int .i64) _ _ _ 3 [.int .i64 3] from rfl) (Reps.one (show Kd.M (Kd.int .i64) _ _ _ 5 [.int .i64 5] from rfl) (Reps.one (show Kd.M (Kd.int .i64) _ _ _ t269 [.int .i64 t269] from rfl) (Reps.none _ _)))))))); intro v273 w16 ho17 hb hg_ hnew_; clear hg_ hnew_; (first | rw [← Ny272.out] at ho17 | (simp only [Int.reduceToNat] at ho17; rw [← Ny272.out] at ho17)); refine k6_ (Kd.R_elder' (Z1 HO265.out) (Kd.R_base ho17) hb) (Kd.R_lower (Kd.R_new' ho17 (Kd.R_lt (Z1 HO265.out))) (keep_size (w := w) (g := g) (row := none) (Z29))) (IsS69.below (Z23) hb) (blk_below (g := gb256) (o := .cells #[.int .i64 0, .int .i64 0, .int .i64 0] 90 (0, 0)) (Z4 BK256.out) hb) (KeepBut.trans (Z29) (KeepBut.of_below hb g none) (.inl rfl)) (below_step (Z30) hb) ?_; clear HO265 HI0 BK256 HK HB; intro HO265 HO274 HI0 BK256 HK HB; clear hb ho17; obtain ⟨Ao18, co18, eo18⟩ := Kd.R_slice HO274.out; subst eo18) | ((with_reducible refine gate_callee (f := 46) rfl ?_); refine gl_ 15 Try.func46 #[.pointer (some ⟨g, 0, none⟩), .slice Ao18 y272.length co18] ?_; (with_reducible refine (spec_l1Cur_among.calls g s0_0 t270 t271 _ _ y272 t275 t276 t277 w0 _ ?_ ?_ ?_ ?_ ?_ A6.out).mono ?_); exact Z23; exact Z30; exact Z5 HO274.out; exact (Kd.R_reads' HO274.out).2.1; exact far_slice (IsS69.own_ne HI0.out HO274.out (by decide)); rintro e w19 ⟨rfl, hi, hb, hk⟩; refine ⟨_, rfl, ?_⟩; refine k6_ (KeepBut.blk hk (g' := gb256) (o := .cells #[.int .i64 0, .int .i64 0, .int .i64 0] 90 (0, 0)) (Z4 BK256.out) NB256_0.out (by simp)) (Kd.R_mono (Kd.R_keep (IsS69.apart (show IsS69 w0 _ g s0_0 t270 t271 from Z23) (Z1 HO265.out) (by decide)) hk (fun _ h => h.2)) (fun _ h => h.1)) (Kd.R_mono (Kd.R_keep (IsS69.apart (show IsS69 w0 _ g s0_0 t270 t271 from Z23) (Z1 HO274.out) (by decide)) hk (fun _ h => h.2)) (fun _ h => h.1)) (KeepBut.trans (Z29) hk (.inl rfl)) (hb) (hi) ?_; clear BK256 HO265 HO274 HK HB HI0; intro BK256 HO265 HO274 HK HB HI0; (try clear hb hk hi)) | ((with_reducible refine gate_dst (N := 19) rfl ?_); refine Kd.R_lit (Kd.int .i64) _ 3 ?hg (N := 19) ?hd (xs := ([1, 2, 3, 4, 10] : List Int)) (inner := [.int .i64 1, .int .i64 2, .int .i64 3, .int .i64 4, .int .i64 10]) (ok := fun _ => True) (okp := fun _ => True) ?hr ?hp (fun _ hk => hk) trivial (Below.refl _ _) (Nat.le_refl _) (by simp) ?_; (case hd => rfl); (case hg => rfl); (case hr => exact Z44); (case hp => exact (Reps.one (show Kd.M (Kd.int .i64) _ _ _ 1 [.int .i64 1] from rfl) (Reps.one (show Kd.M (Kd.int .i64) _ _ _ 2 [.int .i64 2] from rfl) (Reps.one (show Kd.M (Kd.int .i64) _ _ _ 3 [.int .i64 3] from rfl) (Reps.one (show Kd.M (Kd.int .i64) _ _ _ 4 [.int .i64 4] from rfl) (Reps.one (show Kd.M (Kd.int .i64) _ _ _ 10 [.int .i64 10] from rfl) (Reps.none _ _))))))); intro v279 w20 ho21 hb hg_ hnew_; clear hg_ hnew_; (first | rw [← Ny278.out] at ho21 | (simp only [Int.reduceToNat] at ho21; rw [← Ny278.out] at ho21)); refine k7_ (Kd.R_elder' (Z1 HO265.out) (Kd.R_base ho21) hb) (Kd.R_elder' (Z1 HO274.out) (Kd.R_base ho21) hb) (Kd.R_lower (Kd.R_new' (Kd.R_new' ho21 (Kd.R_lt (Z1 HO265.out))) (Kd.R_lt (Z1 HO274.out))) (keep_size (w := w) (g := g) (row := none) (Z29))) (IsS69.below (Z23) hb) (blk_below (g := gb256) (o := .cells #[.int .i64 0, .int .i64 0, .int .i64 0] 90 (0, 0)) (Z4 BK256.out) hb) (KeepBut.trans (Z29) (KeepBut.of_below hb g none) (.inl rfl)) (below_step (Z30) hb) ?_; clear HO265 HO274 HI0 BK256 HK HB; intro HO265 HO274 HO280 HI0 BK256 HK HB; clear hb ho21; obtain ⟨Ao22, co22, eo22⟩ := Kd.R_slice HO280.out; subst eo22) | ((with_reducible refine gate_callee (f := 46) rfl ?_); refine gl_ 20 Try.func46 #[.pointer (some ⟨g, 0, none⟩), .slice Ao22 y278.length co22] ?_; (with_reducible refine (spec_l1Cur_among.calls g s0_0 t276 t277 _ _ y278 t281 t282 t283 w0 _ ?_ ?_ ?_ ?_ ?_ A7.out).mono ?_); exact Z23; exact Z30; exact Z5 HO280.out; exact (Kd.R_reads' HO280.out).2.1; exact far_slice (IsS69.own_ne HI0.out HO280.out (by decide)); rintro e w23 ⟨rfl, hi, hb, hk⟩; refine ⟨_, rfl, ?_⟩; refine k7_ (KeepBut.blk hk (g' := gb256) (o := .cells #[.int .i64 0, .int .i64 0, .int .i64 0] 90 (0, 0)) (Z4 BK256.out) NB256_0.out (by simp)) (Kd.R_mono (Kd.R_keep (IsS69.apart (show IsS69 w0 _ g s0_0 t276 t277 from Z23) (Z1 HO265.out) (by decide)) hk (fun _ h => h.2)) (fun _ h => h.1)) (Kd.R_mono (Kd.R_keep (IsS69.apart (show IsS69 w0 _ g s0_0 t276 t277 from Z23) (Z1 HO274.out) (by decide)) hk (fun _ h => h.2)) (fun _ h => h.1)) (Kd.R_mono (Kd.R_keep (IsS69.apart (show IsS69 w0 _ g s0_0 t276 t277 from Z23) (Z1 HO280.out) (by decide)) hk (fun _ h => h.2)) (fun _ h => h.1)) (KeepBut.trans (Z29) hk (.inl rfl)) (hb) (hi) ?_; clear BK256 HO265 HO274 HO280 HK HB HI0; intro BK256 HO265 HO274 HO280 HK HB HI0; (try clear hb hk hi); have hnb24 := NB256_0.out; have hnc24 := NB0_256.out; obtain ⟨hcz25_0, hcz25_1, hcz25_2, hfz25_0, hfz25_1, hfz25_2⟩ := bx3_ (w := w23) BK256.out))
 refine bodyPost_ret (results_cell_row rfl _ _ gb256 90 #[.int .i64 t275, .int .i64 t266, .int .i64 (wrap64 (t266 + t281))] (0, 0) _ rfl (by (with_reducible repeat (first | refine blk_drewN ?_ _ | refine blk_drew ?_ | refine blk_alloc ?_ _)); refine blk_put (cs := #[.int .i64 t275, .int .i64 t266, .int .i64 0]) ?_ 2 _ rfl; (with_reducible repeat (first | refine blk_drewN ?_ _ | refine blk_drew ?_ | refine blk_alloc ?_ _)); refine blk_put (cs := #[.int .i64 t275, .int .i64 0, .int .i64 0]) ?_ 1 _ rfl; (with_reducible repeat (first | refine blk_drewN ?_ _ | refine blk_drew ?_ | refine blk_alloc ?_ _)); refine blk_put (cs := #[.int .i64 0, .int .i64 0, .int .i64 0]) ?_ 0 _ rfl; (with_reducible repeat (first | refine blk_drewN ?_ _ | refine blk_drew ?_ | refine blk_alloc ?_ _)); exact BK256.out) Try.underlying90 rfl (by kernel_rfl)) rfl ?_
 exact ⟨Z11, Z23, Z30, Z29⟩

/-! ### spec_l1Cur_sheet: function 87 -/
mutual
def spec_l1Cur_sheet.l0 : Nat → List (S90) → List Int → Int → Int → Option ((List (S90)) × Int × Int)
 | 0, _, _, _, _ => none
 | k + 1, x3, x1000, x1001, x1002 => if (x3.length : Int) < 60 then ((spec_l1Cur_pick.f x1000 x1001 x1002 5).bind fun bt287 => (if x3.length < 5864062014805 then (spec_l1Cur_sheet.l0 k (x3 ++ [(⟨3 * ((x3.length : Int) % 5), wrap64 (6 * (wrap64 ((x3.length : Int) / 5))), wrap64 ((wrap64 ((wrap64 (6 * (wrap64 ((x3.length : Int) / 5)))) + 1)) + bt287.1)⟩ : S90)]) x1000 bt287.2.1 bt287.2.2) else (none))) else (some (x3, x1001, x1002))
def spec_l1Cur_sheet.l1 : Nat → List (S90) → Int → Int → List Int → Int → Int → Option ((List (S90)) × Int × Int)
 | 0, _, _, _, _, _, _ => none
 | k + 1, x3, x5, x6, x1000, x1001, x1002 => if (x3.length : Int) < x5 then (spec_l1Cur_sheet.j2 k x3 x5 x6 (decide (x6 < 60)) x1000 x1001 x1002) else (spec_l1Cur_sheet.j2 k x3 x5 x6 false x1000 x1001 x1002)
def spec_l1Cur_sheet.j2 : Nat → List (S90) → Int → Int → Bool → List Int → Int → Int → Option ((List (S90)) × Int × Int)
 | 0, _, _, _, _, _, _, _ => none
 | k + 1, x3, x5, x6, x42, x1000, x1001, x1002 => if x42 = true then ((spec_l1Cur_hole.f x1000 x1001 x1002).bind fun bt296 => ((spec_shWith.f k x3 bt296.1 bt296.2.1 bt296.2.2.1).bind fun bt301 => (if bt301.2 = true then (spec_l1Cur_sheet.l1 k bt301.1 x5 (wrap64 (x6 + 1)) x1000 bt296.2.2.2.1 bt296.2.2.2.2) else (spec_l1Cur_sheet.l1 k x3 x5 (wrap64 (x6 + 1)) x1000 bt296.2.2.2.1 bt296.2.2.2.2)))) else (some (x3, x1001, x1002))
end
def spec_l1Cur_sheet.f (k : Nat) (s0_0 : List Int) (s0_1 : Int) (s0_2 : Int) : Option ((List (S90)) × Int × Int) := (spec_l1Cur_one.f s0_0 s0_1 s0_2 24).bind fun bt284 => (if bt284.1 = true then (spec_l1Cur_sheet.l0 k ([] : List (S90)) s0_0 bt284.2.1 bt284.2.2) else ((spec_l1Cur_pick.f s0_0 bt284.2.1 bt284.2.2 9).bind fun bt293 => (spec_l1Cur_sheet.l1 k ([] : List (S90)) bt293.1 0 s0_0 bt293.2.1 bt293.2.2)))
theorem spec_l1Cur_sheet.mono_l : ∀ k, (∀ y0 y1 y2 y3, LeO (spec_l1Cur_sheet.l0 k y0 y1 y2 y3) (spec_l1Cur_sheet.l0 (k + 1) y0 y1 y2 y3)) ∧ (∀ y0 y1 y2 y3 y4 y5, LeO (spec_l1Cur_sheet.l1 k y0 y1 y2 y3 y4 y5) (spec_l1Cur_sheet.l1 (k + 1) y0 y1 y2 y3 y4 y5)) ∧ (∀ y0 y1 y2 y3 y4 y5 y6, LeO (spec_l1Cur_sheet.j2 k y0 y1 y2 y3 y4 y5 y6) (spec_l1Cur_sheet.j2 (k + 1) y0 y1 y2 y3 y4 y5 y6))
 | 0 => ⟨fun _ _ _ _ r h => by simp [spec_l1Cur_sheet.l0] at h, fun _ _ _ _ _ _ r h => by simp [spec_l1Cur_sheet.l1] at h, fun _ _ _ _ _ _ _ r h => by simp [spec_l1Cur_sheet.j2] at h⟩
 | k + 1 => by
  obtain ⟨ih0, ih1, ih2⟩ := spec_l1Cur_sheet.mono_l k
  refine ⟨?_, ?_, ?_⟩
  ·intro y0 y1 y2 y3
   unfold spec_l1Cur_sheet.l0
   exact mo5_
  ·intro y0 y1 y2 y3 y4 y5
   unfold spec_l1Cur_sheet.l1
   exact mo5_
  intro y0 y1 y2 y3 y4 y5 y6
  unfold spec_l1Cur_sheet.j2
  exact mo5_
theorem spec_l1Cur_sheet.mono : ∀ a0 a1 a2 k, LeO (spec_l1Cur_sheet.f k a0 a1 a2) (spec_l1Cur_sheet.f (k + 1) a0 a1 a2) := by
 intro a0 a1 a2 k
 obtain ⟨ih0, ih1, ih2⟩ := spec_l1Cur_sheet.mono_l k
 unfold spec_l1Cur_sheet.f
 exact mo5_
set_option maxHeartbeats 8000000 in
set_option maxRecDepth 100000 in
theorem spec_l1Cur_sheet.calls (k : Nat) (g : Nat) (s0_0 : List Int) (s0_1 : Int) (s0_2 : Int) (r1 : List (S90)) (r2 : Int) (r3 : Int) (w0 w : World) (hI : IsS69 w0 w g s0_0 s0_1 s0_2) (hB : Below w0.heap.size w0 w) (h : spec_l1Cur_sheet.f k s0_0 s0_1 s0_2 = some (r1, r2, r3)) :
  Calls Try.prog 87 #[.pointer (some ⟨g, 0, none⟩)] w fun e w' => ∃ v0_ : Value, e = .returned (v0_) ∧ Kd.R k90 90 w' w.heap.size (fun _ => True) v0_ r1 ∧ IsS69 w0 w' g s0_0 r2 r3 ∧ Below w0.heap.size w0 w' ∧ KeepBut w w' g none := by
 have hu90 := Try.underlying90
 have HI0 := Aside0.mk hI
 have HK := Aside0.mk (KeepBut.refl w g none)
 have HL := Aside0.mk hB.size
 clear hI
 have HW0 := Aside0.mk hB.size
 have HB := Aside0.mk hB
 clear hB
 have H : ((spec_l1Cur_one.f s0_0 s0_1 s0_2 24).bind fun bt284 => (if bt284.1 = true then (spec_l1Cur_sheet.l0 k ([] : List (S90)) s0_0 bt284.2.1 bt284.2.2) else ((spec_l1Cur_pick.f s0_0 bt284.2.1 bt284.2.2 9).bind fun bt293 => (spec_l1Cur_sheet.l1 k ([] : List (S90)) bt293.1 0 s0_0 bt293.2.1 bt293.2.2)))) = some (r1, r2, r3) := h
 clear h
 replace H := Option.bind_eq_some_iff.mp H
 obtain ⟨⟨t284, t285, t286⟩, A20, H⟩ := H
 (try dsimp only at H)
 have A2 := Aside0.mk A20
 clear A20
 by_cases c3 : t284 = true
 ·subst c3
  rw [if_pos rfl] at H
  have H' := Aside0.mk H
  clear H
  go_enter Try.func87, Try.ntmps87
  go_wp2_with (first | ((with_reducible refine gate_callee (f := 79) rfl ?_); refine gl_ 10 Try.func79 #[.pointer (some ⟨g, 0, none⟩), .int .i64 24] ?_; (with_reducible refine (spec_l1Cur_one.calls g s0_0 s0_1 s0_2 24 true t285 t286 w0 _ ?_ ?_ A2.out).mono ?_); exact Z3 HI0.out; exact Z7; rintro e w4 ⟨rfl, hi, hb, hk⟩; refine ⟨_, rfl, ?_⟩; refine k3_ (KeepBut.trans (Z6) hk (.inl rfl)) (hb) (hi) ?_; clear HK HB HI0; intro HK HB HI0; (try clear hb hk hi)))
  (try simp only [Act.put, List.setIfInBounds_toArray, List.set_cons_zero, List.set_cons_succ])
  go_loopg [3] k (fun kq v3 w' => ∃ (x3_1 : List (S90)) (x1001_1 : Int) (x1002_1 : Int), Aside0 (spec_l1Cur_sheet.l0 kq x3_1 s0_0 x1001_1 x1002_1 = some (r1, r2, r3)) ∧ Aside0 (kq ≤ k) ∧ Aside0 (Kd.R k90 90 w' w.heap.size (fun _ => True) v3 x3_1) ∧ Aside0 (IsS69 w0 w' g s0_0 x1001_1 x1002_1) ∧ Aside0 (KeepBut w w' g none) ∧ Aside0 (Below w0.heap.size w0 w'))
  case atStart => exact ⟨(([] : List (S90))), (t285), (t286), H', ⟨Nat.le_refl _⟩, ⟨Z21⟩, ⟨Z3 HI0.out⟩, ⟨Z6⟩, ⟨Z7⟩⟩
  case round =>
   clear H'
   (try clear p2); (try clear c3)
   obtain ⟨x3_1, x1001_1, x1002_1, HA, HK1, HO_3, HI0, HK, HB⟩ := hrel
   cases gk with
   | zero => exact absurd HA.out (by simp [spec_l1Cur_sheet.l0])
   | succ k1 =>
    have H := HA.out
    clear HA
    simp only [spec_l1Cur_sheet.l0] at H
    by_cases c5 : (x3_1.length : Int) < 60
    ·rw [if_pos c5] at H
     have c5b0 : decide ((x3_1.length : Int) < 60) = true := decide_eq_true c5
     have c5b1 : decide (x3_1.length < 60) = true := decide_eq_true (by omega)
     clear c5
     replace H := Option.bind_eq_some_iff.mp H
     obtain ⟨⟨t287, t288, t289⟩, A60, H⟩ := H
     (try dsimp only at H)
     have A6 := Aside0.mk A60
     clear A60
     by_cases c7 : x3_1.length < 5864062014805
     ·rw [if_pos c7] at H
      have LMc7 := Aside0.mk c7
      clear c7
      obtain ⟨y290, hy290⟩ : ∃ y_ : List (S90), y_ = (x3_1 ++ [(⟨3 * ((x3_1.length : Int) % 5), wrap64 (6 * (wrap64 ((x3_1.length : Int) / 5))), wrap64 ((wrap64 ((wrap64 (6 * (wrap64 ((x3_1.length : Int) / 5)))) + 1)) + t287)⟩ : S90)]) := ⟨_, rfl⟩
      replace H : (spec_l1Cur_sheet.l0 k1 y290 s0_0 t288 t289) = some (r1, r2, r3) := by first | (rw [hy290]; with_reducible exact H) | (have H2_ := (Option.bind_some _ _).symm.trans H; rw [hy290]; with_reducible exact H2_) | (have H2_ := (Option.bind_some _ _).symm.trans H; with_reducible exact H2_) | with_reducible exact H | (rw [hy290]; exact H) | exact H
      have Ny290 := Aside0.mk hy290
      clear hy290
      have H' := Aside0.mk H
      clear H
      obtain ⟨Ao8, co8, eo8⟩ := Kd.R_slice HO_3.out
      subst eo8
      go_wp2_with (first | ((with_reducible refine gate_callee (f := 45) rfl ?_); refine gl_ 27 Try.func45 #[.pointer (some ⟨g, 0, none⟩), .int .i64 5] ?_; (with_reducible refine (spec_l1Cur_pick.calls g s0_0 x1001_1 x1002_1 5 t287 t288 t289 w0 _ ?_ ?_ A6.out).mono ?_); exact Z3 HI0.out; exact Z7; rintro e w9 ⟨rfl, hi, hb, hk⟩; refine ⟨_, rfl, ?_⟩; refine k4_ (Kd.R_mono (Kd.R_keep (IsS69.apart (show IsS69 w0 _ g s0_0 x1001_1 x1002_1 from Z3 HI0.out) (Z1 HO_3.out) (by decide)) hk (fun _ h => h.2)) (fun _ h => h.1)) (KeepBut.trans (Z6) hk (.inl rfl)) (hb) (hi) ?_; clear HO_3 HK HB HI0; intro HO_3 HK HB HI0; (try clear hb hk hi)) | ((with_reducible refine gate_builtin (b := .append) (xs := #[.tmp 18, .tmp 30]) rfl ?_); at_builtin; refine Kd.R_append k90 w.heap.size rfl (.tmp 18) (.tmp 30) 42 90 (.agg #[(.int .i64 0), (.int .i64 0), (.int .i64 0)]) 24 rfl Try.underlying42 info90 rfl (by decide) (by omega) (.slice Ao8 x3_1.length co8) x3_1 (⟨3 * ((x3_1.length : Int) % 5), wrap64 (6 * (wrap64 ((x3_1.length : Int) / 5))), wrap64 ((wrap64 ((wrap64 (6 * (wrap64 ((x3_1.length : Int) / 5)))) + 1)) + t287)⟩ : S90) [.int .i64 (3 * ((x3_1.length : Int) % 5)), .int .i64 (wrap64 (6 * (wrap64 ((x3_1.length : Int) / 5)))), .int .i64 (wrap64 ((wrap64 ((wrap64 (6 * (wrap64 ((x3_1.length : Int) / 5)))) + 1)) + t287))] (fun _ => True) (fun _ => False) rfl rfl ?aP (fun _ hk => hk.elim) ?aF ?aO (Below.refl _ _) ?aS ?aL ?_; (case aP => exact k90_mkM _ _ _ (⟨3 * ((x3_1.length : Int) % 5), wrap64 (6 * (wrap64 ((x3_1.length : Int) / 5))), wrap64 ((wrap64 ((wrap64 (6 * (wrap64 ((x3_1.length : Int) / 5)))) + 1)) + t287)⟩ : S90)); (case aF => exact (fun _ _ => trivial)); (case aO => exact Z1 HO_3.out); (case aS => exact (keep_size (w := w) (g := g) (row := none) (Z6))); (case aL => have := LMc7.out; omega); intro v291 w10 ho hb hg hat; rw [← Ny290.out] at ho; refine k4_ (IsS69.grown (Z3 HI0.out) hg (IsS69.own_ne HI0.out HO_3.out (by decide))) (below_weaken (Z7) HL.out hb) (KeepBut.trans (Z6) (KeepBut.of_grown hg g) (Kd.R_base2 HO_3.out)) (ho) ?_; clear HI0 HB HK HO_3; intro HI0 HB HK HO292; clear ho hb hg hat))
      go_roundg k1
      case measure => have := HK1.out; omega
      case rel => exact ⟨(y290), (t288), (t289), H', ⟨Z100⟩, ⟨Z1 HO292.out⟩, ⟨Z3 HI0.out⟩, ⟨Z6⟩, ⟨Z7⟩⟩
     rw [if_neg c7] at H
     exact absurd H (by simp)
    rw [if_neg c5] at H
    have c5b0 : decide ((x3_1.length : Int) < 60) = false := decide_eq_false c5
    have c5b1 : decide (x3_1.length < 60) = false := decide_eq_false (by omega)
    clear c5
    simp only [Option.some.injEq, Prod.mk.injEq] at H
    obtain ⟨rfl, rfl, rfl⟩ := H
    obtain ⟨Ao11, co11, eo11⟩ := Kd.R_slice HO_3.out
    subst eo11
    go_wp2
    go_ret
    exact ⟨_, Z11, Z1 HO_3.out, Z3 HI0.out, Z7, Z6⟩
 replace c3 := Bool.eq_false_iff.mpr c3
 subst c3
 rw [if_neg (show ¬ (false = true) by decide)] at H
 replace H := Option.bind_eq_some_iff.mp H
 obtain ⟨⟨t293, t294, t295⟩, A120, H⟩ := H
 (try dsimp only at H)
 have A12 := Aside0.mk A120
 clear A120
 have H' := Aside0.mk H
 clear H
 go_enter Try.func87, Try.ntmps87
 go_wp2_with (first | ((with_reducible refine gate_callee (f := 79) rfl ?_); refine gl_ 10 Try.func79 #[.pointer (some ⟨g, 0, none⟩), .int .i64 24] ?_; (with_reducible refine (spec_l1Cur_one.calls g s0_0 s0_1 s0_2 24 false t285 t286 w0 _ ?_ ?_ A2.out).mono ?_); exact Z3 HI0.out; exact Z7; rintro e w13 ⟨rfl, hi, hb, hk⟩; refine ⟨_, rfl, ?_⟩; refine k3_ (KeepBut.trans (Z6) hk (.inl rfl)) (hb) (hi) ?_; clear HK HB HI0; intro HK HB HI0; (try clear hb hk hi)) | ((with_reducible refine gate_callee (f := 45) rfl ?_); refine gl_ 34 Try.func45 #[.pointer (some ⟨g, 0, none⟩), .int .i64 9] ?_; (with_reducible refine (spec_l1Cur_pick.calls g s0_0 t285 t286 9 t293 t294 t295 w0 _ ?_ ?_ A12.out).mono ?_); exact Z3 HI0.out; exact Z7; rintro e w14 ⟨rfl, hi, hb, hk⟩; refine ⟨_, rfl, ?_⟩; refine k3_ (KeepBut.trans (Z6) hk (.inl rfl)) (hb) (hi) ?_; clear HK HB HI0; intro HK HB HI0; (try clear hb hk hi)))
 (try simp only [Act.put, List.setIfInBounds_toArray, List.set_cons_zero, List.set_cons_succ])
 go_loopg [3, 6] k (fun kq v3 v6 w' => ∃ (x3_1 : List (S90)) (x6_1 : Int) (x1001_1 : Int) (x1002_1 : Int), v6 = .int .i64 x6_1 ∧ Aside0 (spec_l1Cur_sheet.l1 kq x3_1 t293 x6_1 s0_0 x1001_1 x1002_1 = some (r1, r2, r3)) ∧ Aside0 (kq ≤ k) ∧ Aside0 (Kd.R k90 90 w' w.heap.size (fun _ => True) v3 x3_1) ∧ Aside0 (IsS69 w0 w' g s0_0 x1001_1 x1002_1) ∧ Aside0 (KeepBut w w' g none) ∧ Aside0 (Below w0.heap.size w0 w'))
 case atStart => exact ⟨(([] : List (S90))), (0), (t294), (t295), (Z10), H', ⟨Nat.le_refl _⟩, ⟨Z21⟩, ⟨Z3 HI0.out⟩, ⟨Z6⟩, ⟨Z7⟩⟩
 case round =>
  clear H'
  (try clear p2); (try clear c3); (try clear c4); (try clear c5); (try clear c5b0); (try clear c5b1); (try clear p6); (try clear c7); (try clear c8)
  obtain ⟨x3_1, x6_1, x1001_1, x1002_1, rfl, HA, HK1, HO_3, HI0, HK, HB⟩ := hrel
  cases gk with
  | zero => exact absurd HA.out (by simp [spec_l1Cur_sheet.l1])
  | succ k1 =>
   have H := HA.out
   clear HA
   simp only [spec_l1Cur_sheet.l1] at H
   have HC15 := Aside0.mk H
   clear H
   go_upto_region 9 with (fail)
   go_cut [42] (fun v42 wc => ∃ (kq : Nat) (x42_14 : Bool), v42 = .bool x42_14 ∧ Aside0 (spec_l1Cur_sheet.j2 kq x3_1 t293 x6_1 x42_14 s0_0 x1001_1 x1002_1 = some (r1, r2, r3)) ∧ Aside0 (kq ≤ k1) ∧ Aside0 (Kd.R k90 90 wc w.heap.size (fun _ => True) u3 x3_1) ∧ Aside0 (IsS69 w0 wc g s0_0 x1001_1 x1002_1) ∧ Aside0 (KeepBut w wc g none) ∧ Aside0 (Below w0.heap.size w0 wc))
   case first =>
    have H := HC15.out
    clear HC15
    by_cases c16 : (x3_1.length : Int) < t293
    ·rw [if_pos c16] at H
     have c16b0 : decide ((x3_1.length : Int) < t293) = true := decide_eq_true c16
     clear c16
     (first | rw [c16b0] | (simp only [i64_w, i32_w]; rw [c16b0]) | skip)
     have H' := Aside0.mk H
     clear H
     obtain ⟨Ao17, co17, eo17⟩ := Kd.R_slice HO_3.out
     subst eo17
     go_wp2
     go_meet
     case rel => exact ⟨_, (decide (x6_1 < 60)), (Z10), H', ⟨Z77 HK1.out⟩, ⟨Z1 HO_3.out⟩, ⟨Z3 HI0.out⟩, ⟨Z6⟩, ⟨Z7⟩⟩
    rw [if_neg c16] at H
    have c16b0 : decide ((x3_1.length : Int) < t293) = false := decide_eq_false c16
    clear c16
    (first | rw [c16b0] | (simp only [i64_w, i32_w]; rw [c16b0]) | skip)
    have H' := Aside0.mk H
    clear H
    obtain ⟨Ao18, co18, eo18⟩ := Kd.R_slice HO_3.out
    subst eo18
    go_wp2
    go_meet
    case rel => exact ⟨_, (false), (Z10), H', ⟨Z77 HK1.out⟩, ⟨Z1 HO_3.out⟩, ⟨Z3 HI0.out⟩, ⟨Z6⟩, ⟨Z7⟩⟩
   case rest =>
    clear HC15
    (try clear c1); (try clear c16); (try clear c16b0)
    obtain ⟨kq, x42_14, rfl, HA, HJ14, HO_3, HI0, HK, HB⟩ := hcut
    cases kq with
    | zero => exact absurd HA.out (by simp [spec_l1Cur_sheet.j2])
    | succ kj14 =>
     have H := HA.out
     clear HA
     simp only [spec_l1Cur_sheet.j2] at H
     by_cases c19 : x42_14 = true
     ·subst c19
      rw [if_pos rfl] at H
      replace H := Option.bind_eq_some_iff.mp H
      obtain ⟨⟨t296, t297, t298, t299, t300⟩, A200, H⟩ := H
      (try dsimp only at H)
      have A20 := Aside0.mk A200
      clear A200
      replace H := Option.bind_eq_some_iff.mp H
      obtain ⟨⟨t301, t304⟩, A210, H⟩ := H
      (try dsimp only at H)
      have A21 := Aside0.mk A210
      clear A210
      by_cases c22 : t304 = true
      ·subst c22
       rw [if_pos rfl] at H
       have H' := Aside0.mk H
       clear H
       go_wp2_with (first | ((with_reducible refine gate_callee (f := 112) rfl ?_); refine gl_ 48 Try.func112 #[.pointer (some ⟨g, 0, none⟩)] ?_; (with_reducible refine (spec_l1Cur_hole.calls g s0_0 x1001_1 x1002_1 t296 t297 t298 t299 t300 w0 _ ?_ ?_ A20.out).mono ?_); exact Z3 HI0.out; exact Z7; rintro e w23 ⟨rfl, hi, hb, hk⟩; refine ⟨_, rfl, ?_⟩; refine k4_ (Kd.R_mono (Kd.R_keep (IsS69.apart (show IsS69 w0 _ g s0_0 x1001_1 x1002_1 from Z3 HI0.out) (Z1 HO_3.out) (by decide)) hk (fun _ h => h.2)) (fun _ h => h.1)) (KeepBut.trans (Z6) hk (.inl rfl)) (hb) (hi) ?_; clear HO_3 HK HB HI0; intro HO_3 HK HB HI0; (try clear hb hk hi); obtain ⟨Ao24, co24, eo24⟩ := Kd.R_slice HO_3.out; subst eo24) | ((with_reducible refine gate_callee (f := 105) rfl ?_); refine gl_ 49 Try.func105 #[.slice Ao24 x3_1.length co24, .agg #[.int .i64 t296, .int .i64 t297, .int .i64 t298]] ?_; (with_reducible refine (spec_shWith.calls kj14 _ _ x3_1 t296 t297 t298 t301 true _ ?_ ?_ A21.out).mono ?_); exact Z5 HO_3.out; exact (Kd.R_reads' HO_3.out).2.1; rintro e w25 ⟨v302, rfl, ho0, hb⟩; refine ⟨_, rfl, ?_⟩; refine k5_ (Kd.R_elder' (Z1 HO_3.out) (Kd.R_base ho0) hb) (Kd.R_lower (Kd.R_new' ho0 (Kd.R_lt (Z1 HO_3.out))) (keep_size (w := w) (g := g) (row := none) (Z6))) (IsS69.below (Z3 HI0.out) hb) (KeepBut.trans (Z6) (KeepBut.of_below hb g none) (.inl rfl)) (below_step (Z7) hb) ?_; clear HO_3 HI0 HK HB; intro HO_3 HO303 HI0 HK HB; (try clear hb ho0)))
       go_roundg kj14
       case measure => have := HK1.out; have := HJ14.out; omega
       case rel => exact ⟨(t301), (wrap64 (x6_1 + 1)), (t299), (t300), (Z10), H', ⟨by have := HK1.out; have := HJ14.out; omega⟩, ⟨Z50 HO303.out⟩, ⟨Z3 HI0.out⟩, ⟨Z6⟩, ⟨Z7⟩⟩
      replace c22 := Bool.eq_false_iff.mpr c22
      subst c22
      rw [if_neg (show ¬ (false = true) by decide)] at H
      have H' := Aside0.mk H
      clear H
      go_wp2_with (first | ((with_reducible refine gate_callee (f := 112) rfl ?_); refine gl_ 48 Try.func112 #[.pointer (some ⟨g, 0, none⟩)] ?_; (with_reducible refine (spec_l1Cur_hole.calls g s0_0 x1001_1 x1002_1 t296 t297 t298 t299 t300 w0 _ ?_ ?_ A20.out).mono ?_); exact Z3 HI0.out; exact Z7; rintro e w26 ⟨rfl, hi, hb, hk⟩; refine ⟨_, rfl, ?_⟩; refine k4_ (Kd.R_mono (Kd.R_keep (IsS69.apart (show IsS69 w0 _ g s0_0 x1001_1 x1002_1 from Z3 HI0.out) (Z1 HO_3.out) (by decide)) hk (fun _ h => h.2)) (fun _ h => h.1)) (KeepBut.trans (Z6) hk (.inl rfl)) (hb) (hi) ?_; clear HO_3 HK HB HI0; intro HO_3 HK HB HI0; (try clear hb hk hi); obtain ⟨Ao27, co27, eo27⟩ := Kd.R_slice HO_3.out; subst eo27) | ((with_reducible refine gate_callee (f := 105) rfl ?_); refine gl_ 49 Try.func105 #[.slice Ao27 x3_1.length co27, .agg #[.int .i64 t296, .int .i64 t297, .int .i64 t298]] ?_; (with_reducible refine (spec_shWith.calls kj14 _ _ x3_1 t296 t297 t298 t301 false _ ?_ ?_ A21.out).mono ?_); exact Z5 HO_3.out; exact (Kd.R_reads' HO_3.out).2.1; rintro e w28 ⟨v302, rfl, ho0, hb⟩; refine ⟨_, rfl, ?_⟩; refine k5_ (Kd.R_elder' (Z1 HO_3.out) (Kd.R_base ho0) hb) (Kd.R_lower (Kd.R_new' ho0 (Kd.R_lt (Z1 HO_3.out))) (keep_size (w := w) (g := g) (row := none) (Z6))) (IsS69.below (Z3 HI0.out) hb) (KeepBut.trans (Z6) (KeepBut.of_below hb g none) (.inl rfl)) (below_step (Z7) hb) ?_; clear HO_3 HI0 HK HB; intro HO_3 HO303 HI0 HK HB; (try clear hb ho0)))
      go_roundg kj14
      case measure => have := HK1.out; have := HJ14.out; omega
      case rel => exact ⟨(x3_1), (wrap64 (x6_1 + 1)), (t299), (t300), (Z10), H', ⟨by have := HK1.out; have := HJ14.out; omega⟩, ⟨Z50 HO_3.out⟩, ⟨Z3 HI0.out⟩, ⟨Z6⟩, ⟨Z7⟩⟩
     replace c19 := Bool.eq_false_iff.mpr c19
     subst c19
     rw [if_neg (show ¬ (false = true) by decide)] at H
     simp only [Option.some.injEq, Prod.mk.injEq] at H
     obtain ⟨rfl, rfl, rfl⟩ := H
     go_wp2
     go_ret
     exact ⟨_, Z11, Z1 HO_3.out, Z3 HI0.out, Z7, Z6⟩

end Go.Proofs.Ytmnnmddfmmaohaa.PFnStains
