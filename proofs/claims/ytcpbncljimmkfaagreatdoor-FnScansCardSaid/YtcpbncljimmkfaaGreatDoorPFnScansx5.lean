-- written by a program of this session: the kit's print, with outer functions of the session's own (wip/ext)
import Derived.Test.YtcpbncljimmkfaaGreatDoorPFnScansx0
import Derived.Test.YtcpbncljimmkfaaGreatDoorPFnScansx2
import Derived.Test.YtcpbncljimmkfaaGreatDoorPFnScansx4
namespace Go.Proofs.YtcpbncljimmkfaaGreatDoor.PFnScans
open Go.RowKit Go.Proofs.YtcpbncljimmkfaaGreatDoorW.PrintWords Go.Proofs.YtcpbncljimmkfaaGreatDoorW.PrintLast Go.Proofs.YtcpbncljimmkfaaGreatDoorW.PrintMore
attribute [local go_sem] max2_int min2_int max_two min_two max_three min_three max_four min_four   -- for this text's walks alone
set_option linter.unusedVariables false
set_option linter.unusedSimpArgs false
theorem mo5_ {p : Prop} (h : p := by repeat' first | (with_reducible first | apply ih0 | apply ih0 | apply ih1 | apply ih1 | apply ih2 | apply ih2 | apply spec_shSorted.mono | apply spec_shSorted.mono | apply spec_shWith.mono | apply spec_shWith.mono | exact LeO.refl _ | exact LeO.none _ | refine LeO.ite ?_ ?_ | refine LeO.bind ?_ (fun _ => ?_)) | exact LeO.none _ | refine LeO.ite ?_ ?_ | refine LeO.bind ?_ (fun _ => ?_)) : p := h

/-! ### spec_shWith: function 69 -/
def spec_shWith.f (k : Nat) (l0 : List (S55)) (a1_0 : Int) (a1_1 : Int) (a1_2 : Int) : Option ((List (S55)) × Bool) := (some (([] : List (S55)) : List (S55))).bind fun gW => (if gW.length + l0.length < 5864062014805 then ((some (gW ++ l0 : List (S55))).bind fun e0 => ((some (([(⟨a1_0, a1_1, a1_2⟩ : S55)] : List (S55)) : List (S55))).bind fun el => (if e0.length + el.length < 5864062014805 then ((spec_shSorted.f k (e0 ++ el)).bind fun dv => (some (dv.1, dv.2))) else (none)))) else (none))
theorem spec_shWith.mono : ∀ a0 a1 a2 a3 k, LeO (spec_shWith.f k a0 a1 a2 a3) (spec_shWith.f (k + 1) a0 a1 a2 a3) := by
 intro a0 a1 a2 a3 k
 unfold spec_shWith.f
 exact mo5_
def spec_shWith.T1 : Bool × List (List Nat × List Nat) := (true, [([], []), ([], []), ([0, 1], [0, 1]), ([], []), ([3], [3]), ([2, 4, 2], [2, 4]), ([5, 5], [5]), ([6], [6]), ([6], [6]), ([7, 6, 0, 1, 2, 3, 4, 5, 6, 7, 8], [7]), ([8, 9, 0, 1, 2, 3, 4, 5, 6, 7, 8, 9], [8])])
def spec_shWith.B1 : List Nat := [0, 0, 3, 0, 8, 31, 63, 127, 127, 511, 1023]
theorem spec_shWith.tab1 : rtab .any (opsOf Tryz.f69 1) = spec_shWith.T1 := by kernel_rfl
theorem spec_shWith.bits1 : waitsOk spec_shWith.T1.2 spec_shWith.B1 = true := by kernel_rfl
set_option maxHeartbeats 8000000 in
set_option maxRecDepth 100000 in
theorem spec_shWith.calls (k : Nat) (A0 : Option Addr) (c0 : Nat) (l0 : List (S55)) (a1_0 : Int) (a1_1 : Int) (a1_2 : Int) (r1 : List (S55)) (r2 : Bool) (w : World) (hr0 : Kd.C k55 w A0 l0.length l0) (hc0 : l0.length ≤ c0) (h : spec_shWith.f k l0 a1_0 a1_1 a1_2 = some (r1, r2)) :
  Calls Tryz.prog 69 #[.slice A0 l0.length c0, .agg #[.int .i64 a1_0, .int .i64 a1_1, .int .i64 a1_2]] w fun e w' => ∃ v0_ : Value, e = .returned (.tuple #[v0_, .bool r2]) ∧ Kd.R k55 55 w' w.heap.size (fun _ => True) v0_ r1 ∧ Below w.heap.size w w' := by
 have hu55 := Tryz.underlying55
 have HR0 := Aside0.mk hr0
 have HC0 := Aside0.mk hc0
 clear hr0 hc0
 have HB := Aside0.mk (Below.refl w.heap.size w)
 have H : ((some (([] : List (S55)) : List (S55))).bind fun gW => (if gW.length + l0.length < 5864062014805 then ((some (gW ++ l0 : List (S55))).bind fun e0 => ((some (([(⟨a1_0, a1_1, a1_2⟩ : S55)] : List (S55)) : List (S55))).bind fun el => (if e0.length + el.length < 5864062014805 then ((spec_shSorted.f k (e0 ++ el)).bind fun dv => (some (dv.1, dv.2))) else (none)))) else (none))) = some (r1, r2) := h
 clear h
 obtain ⟨gW, nT⟩ : ∃ y_ : List (S55), y_ = (([] : List (S55))) := ⟨_, rfl⟩
 replace H : (if gW.length + l0.length < 5864062014805 then ((some (gW ++ l0 : List (S55))).bind fun e0 => ((some (([(⟨a1_0, a1_1, a1_2⟩ : S55)] : List (S55)) : List (S55))).bind fun el => (if e0.length + el.length < 5864062014805 then ((spec_shSorted.f k (e0 ++ el)).bind fun dv => (some (dv.1, dv.2))) else (none)))) else (none)) = some (r1, r2) := by first | (rw [nT]; with_reducible exact H) | (have H2_ := (Option.bind_some _ _).symm.trans H; rw [nT]; with_reducible exact H2_) | (have H2_ := (Option.bind_some _ _).symm.trans H; with_reducible exact H2_) | with_reducible exact H | (rw [nT]; exact H) | exact H
 have qn := Aside0.mk nT
 clear nT
 by_cases c3 : gW.length + l0.length < 5864062014805
 case neg => rw [if_neg c3] at H; exact absurd H (by simp)
 rw [if_pos c3] at H
 have zi := Aside0.mk c3
 clear c3
 obtain ⟨e0, nU⟩ : ∃ y_ : List (S55), y_ = (gW ++ l0) := ⟨_, rfl⟩
 replace H : ((some (([(⟨a1_0, a1_1, a1_2⟩ : S55)] : List (S55)) : List (S55))).bind fun el => (if e0.length + el.length < 5864062014805 then ((spec_shSorted.f k (e0 ++ el)).bind fun dv => (some (dv.1, dv.2))) else (none))) = some (r1, r2) := by first | (rw [nU]; with_reducible exact H) | (have H2_ := (Option.bind_some _ _).symm.trans H; rw [nU]; with_reducible exact H2_) | (have H2_ := (Option.bind_some _ _).symm.trans H; with_reducible exact H2_) | with_reducible exact H | (rw [nU]; exact H) | exact H
 have tF := Aside0.mk nU
 clear nU
 obtain ⟨el, nV⟩ : ∃ y_ : List (S55), y_ = (([(⟨a1_0, a1_1, a1_2⟩ : S55)] : List (S55))) := ⟨_, rfl⟩
 replace H : (if e0.length + el.length < 5864062014805 then ((spec_shSorted.f k (e0 ++ el)).bind fun dv => (some (dv.1, dv.2))) else (none)) = some (r1, r2) := by first | (rw [nV]; with_reducible exact H) | (have H2_ := (Option.bind_some _ _).symm.trans H; rw [nV]; with_reducible exact H2_) | (have H2_ := (Option.bind_some _ _).symm.trans H; with_reducible exact H2_) | with_reducible exact H | (rw [nV]; exact H) | exact H
 have lr := Aside0.mk nV
 clear nV
 by_cases c4 : e0.length + el.length < 5864062014805
 case neg => rw [if_neg c4] at H; exact absurd H (by simp)
 rw [if_pos c4] at H
 have LMc4 := Aside0.mk c4
 clear c4
 obtain ⟨zj, nW⟩ : ∃ y_ : List (S55), y_ = (e0 ++ el) := ⟨_, rfl⟩
 replace H : ((spec_shSorted.f k zj).bind fun dv => (some (dv.1, dv.2))) = some (r1, r2) := by first | (rw [nW]; with_reducible exact H) | (have H2_ := (Option.bind_some _ _).symm.trans H; rw [nW]; with_reducible exact H2_) | (have H2_ := (Option.bind_some _ _).symm.trans H; with_reducible exact H2_) | with_reducible exact H | (rw [nW]; exact H) | exact H
 have Ny189 := Aside0.mk nW
 clear nW
 obtain ⟨⟨BS, BT⟩, A5, H⟩ := bd_ H
 replace H : (some (BS, BT)) = some (r1, r2) := H
 simp only [Option.some.injEq, Prod.mk.injEq] at H
 obtain ⟨rfl, rfl⟩ := H
 go_enter Tryz.func69, Tryz.ntmps69
 try go_wp2_with ((with_reducible refine gate_dst (N := 3) rfl ?_); refine bv_ 3 55 #[.int .i64 a1_0, .int .i64 a1_1, .int .i64 a1_2] ?_; intro bp hg w6 hbox hb; refine k4_ (below_step (Z2) hb) (hbox) ((Z33 : w.heap.size ≤ bp)) ((Z33 : w.heap.size ≤ bp)) ?_; clear HB; intro HB av GW179 GE179; clear hb hbox hg)
 refine k2_ (blk_drew av.out) (below_drew1 HB.out) ?_
 clear av HB
 intro av HB
 refine start_ (n := 11) (S := fun w' => w'.cell? ⟨bp, 0, none⟩ = some (.int .i64 a1_0) ∧ w'.cell? ⟨bp, 1, none⟩ = some (.int .i64 a1_1) ∧ w'.cell? ⟨bp, 2, none⟩ = some (.int .i64 a1_2)) (ds := []) (M_ 0 11) (by kernel_rfl) rfl rfl ⟨(blk_cell av.out 0).trans rfl, (blk_cell av.out 1).trans rfl, (blk_cell av.out 2).trans rfl⟩ (fun hHeld => ?_); refine with_tabW spec_shWith.tab1 spec_shWith.bits1 (fun HT_ HW_ => ?_)
 generalize w6.drew = w7 at av HB hHeld ⊢
 refine pu_ 1 7 (N_ 11 2) ?_
 refine tk3_ 3 9 (N_ 11 10) hHeld ?_
 refine join_ (σ := Value × Value × Value) 6 (M_ 5 6) (fun s_ => [(6, s_.1), (8, s_.2.1), (10, s_.2.2)]) (fun s_ w' => (w'.cell? ⟨bp, 0, none⟩ = some (.int .i64 a1_0) ∧ w'.cell? ⟨bp, 1, none⟩ = some (.int .i64 a1_1) ∧ w'.cell? ⟨bp, 2, none⟩ = some (.int .i64 a1_2)) ∧ (Kd.R k55 55 w' w.heap.size (fun k_ => some k_ ≠ (s_.2.2 : Value).ownBlock ∧ k_ ≠ bp) s_.2.1 e0) ∧ (Kd.R k55 55 w' w.heap.size (fun k_ => some k_ ≠ (s_.2.1 : Value).ownBlock ∧ k_ ≠ bp) s_.2.2 el) ∧ (w'.heap[bp]? = some (.cells #[.int .i64 a1_0, .int .i64 a1_1, .int .i64 a1_2] 55 (0, 0))) ∧ (Below w.heap.size w w')) ?_ ?_
 rotate_left
 ·intro hCont
  refine two_ (i := 0) (j := 4) (Ni := some 6) (Nj := some 10) (N_ 11 11) (N_ 11 26) rfl rfl rfl rfl (two_of HT_.out (by kernel_rfl)) (by decide) (by decide) (fun K hK => ?_) (fun K hK => ?_)
  ·skip
   refine Kd.R_lit_step k55 _ 55 ?hg (N := 6) ?hd (xs := ([] : List (S55))) (inner := []) (ok := fun _ => True) (okp := fun _ => True) ?hr ?hp (fun _ hk => hk) trivial (Below.refl _ _) (Nat.le_refl _) (by simp) ?_; (case hd => rfl); (case hg => rfl); (case hr => exact Z41); (case hp => exact (Reps.none _ _))
   intro nX w8 ho9 hb hg_ hnew_
   clear hg_ hnew_
   (first | rw [← qn.out] at ho9 | (simp only [Int.reduceToNat] at ho9; rw [← qn.out] at ho9))
   have n0_ := Aside0.mk (Kd.R_lower (Kd.R_newB ho9 (g := bp) (o := .cells #[.int .i64 a1_0, .int .i64 a1_1, .int .i64 a1_2] 55 (0, 0)) (Z7 av)) (below_size (Z17)))
   have n1_ := Aside0.mk (Ye_ av)
   have n2_ := Aside0.mk (below_step (Z17) hb)
   clear av
   clear HB
   have d3 := n0_
   have av := n1_
   have HB := n2_
   clear n0_ n1_ n2_
   clear hb ho9
   refine hK.out _ _ ⟨(blk_cell av.out 0).trans rfl, (blk_cell av.out 1).trans rfl, (blk_cell av.out 2).trans rfl⟩ (fun hHeld => ?_)
   clear hK K
   refine norm_ (a' := ?_) ?_ ?_
   rotate_left
   ·show Act.put _ (some 6) _ = _
    simp only [Act.put, List.setIfInBounds_toArray, List.set_cons_zero, List.set_cons_succ, i64_w, i32_w]
    rfl
   refine two_ (i := 2) (j := 4) (Ni := some 8) (Nj := some 10) (M_ 4 7) (N_ 11 27) rfl rfl rfl rfl (two_of HT_.out (by kernel_rfl)) (by decide) (by decide) (fun K hK => ?_) (fun K hK => ?_)
   ·skip
    refine Kd.R_append_rows_step k55 (w0 := w) w.heap.size (by rfl) (.tmp 6) (.tmp 7) 24 55 (.agg #[(.int .i64 0), (.int .i64 0), (.int .i64 0)]) 24 rfl Tryz.underlying24 info55 rfl (by decide) (by omega) nX gW l0 _ _ _ (fun k_ => k_ ≠ bp) (fun _ => False) rfl rfl ?aO ?aR (fun _ _ h => h) (fun _ h => h.elim) ?aF ?aB ?aS ?aL ?_
    (case aR => exact Z22 HR0)
    (case aB => exact Z17)
    (case aF => exact (fun k_ hk => Kd.freshB (g := bp) (o := .cells #[.int .i64 a1_0, .int .i64 a1_1, .int .i64 a1_2] 55 (0, 0)) (Z7 av) k_ hk))
    (case aO => exact (Z68 d3))
    (case aS => exact (below_size (Z17)))
    (case aL => exact Z83 zi)
    intro lP pL ho hb hg hat
    rw [← tF.out] at ho
    have n0_ := Aside0.mk (blk_grown (g := bp) (o := .cells #[.int .i64 a1_0, .int .i64 a1_1, .int .i64 a1_2] 55 (0, 0)) (Z7 av) hg (Kd.R_away d3.out (fun _ hk => hk.2)))
    have n1_ := Aside0.mk (hb)
    have n2_ := Aside0.mk (ho)
    clear av
    clear HB
    clear d3
    have av := n0_
    have HB := n1_
    have em := n2_
    clear n0_ n1_ n2_
    clear ho hb hg hat
    refine hK.out _ _ ⟨(blk_cell av.out 0).trans rfl, (blk_cell av.out 1).trans rfl, (blk_cell av.out 2).trans rfl⟩ (fun hHeld => ?_)
    clear hK K
    refine norm_ (a' := ?_) ?_ ?_
    rotate_left
    ·show Act.put _ (some 8) _ = _
     simp only [Act.put, List.setIfInBounds_toArray, List.set_cons_zero, List.set_cons_succ, i64_w, i32_w]
     rfl
    refine one_ (i := 4) (N := some 10) (M_ 5 6) rfl rfl (one_of HT_.out (by kernel_rfl)) (by decide) (fun K hK => ?_)
    refine Kd.R_lit_step k55 _ 55 ?hg (N := 10) ?hd (xs := ([(⟨a1_0, a1_1, a1_2⟩ : S55)] : List (S55))) (inner := [.int .i64 a1_0, .int .i64 a1_1, .int .i64 a1_2]) (ok := fun _ => True) (okp := fun _ => True) ?hr ?hp (fun _ hk => hk) trivial (Below.refl _ _) (Nat.le_refl _) (by simp) ?_; (case hd => rfl); (case hg => rfl); (case hr => exact Z41); (case hp => exact (Reps.c3 (show Kd.M k55 _ _ _ (⟨a1_0, a1_1, a1_2⟩ : S55) [.int .i64 a1_0, .int .i64 a1_1, .int .i64 a1_2] from (k55_mkM _ _ _ (⟨a1_0, a1_1, a1_2⟩ : S55) )) (Reps.none _ _)))
    intro jW g3 ho12 hb hg_ hnew_
    clear hg_ hnew_
    (first | rw [← lr.out] at ho12 | (simp only [Int.reduceToNat] at ho12; rw [← lr.out] at ho12))
    have n0_ := Aside0.mk (Kd.R_elder' (Z3 em) (Kd.R_base ho12) hb)
    have n1_ := Aside0.mk (Kd.R_lower (Kd.R_newB (Kd.R_new' ho12 (Yd_ em)) (g := bp) (o := .cells #[.int .i64 a1_0, .int .i64 a1_1, .int .i64 a1_2] 55 (0, 0)) (Z7 av)) (below_size (Z17)))
    have n2_ := Aside0.mk (Ye_ av)
    have n3_ := Aside0.mk (below_step (Z17) hb)
    clear em
    clear av
    clear HB
    have em := n0_
    have bX := n1_
    have av := n2_
    have HB := n3_
    clear n0_ n1_ n2_ n3_
    clear hb ho12
    refine hK.out _ _ ⟨(blk_cell av.out 0).trans rfl, (blk_cell av.out 1).trans rfl, (blk_cell av.out 2).trans rfl⟩ (fun hHeld => ?_)
    clear hK K
    refine norm_ (a' := ?_) ?_ ?_
    rotate_left
    ·show Act.put _ (some 10) _ = _
     simp only [Act.put, List.setIfInBounds_toArray, List.set_cons_zero, List.set_cons_succ, i64_w, i32_w]
     rfl
    exact norm_ (Z55) (hCont (nX, lP, jW) _ ⟨hHeld, (Z84 em), (Z65 bX), (Z7 av), (Z17)⟩)
   skip
   refine Kd.R_lit_step k55 _ 55 ?hg (N := 10) ?hd (xs := ([(⟨a1_0, a1_1, a1_2⟩ : S55)] : List (S55))) (inner := [.int .i64 a1_0, .int .i64 a1_1, .int .i64 a1_2]) (ok := fun _ => True) (okp := fun _ => True) ?hr ?hp (fun _ hk => hk) trivial (Below.refl _ _) (Nat.le_refl _) (by simp) ?_; (case hd => rfl); (case hg => rfl); (case hr => exact Z41); (case hp => exact (Reps.c3 (show Kd.M k55 _ _ _ (⟨a1_0, a1_1, a1_2⟩ : S55) [.int .i64 a1_0, .int .i64 a1_1, .int .i64 a1_2] from (k55_mkM _ _ _ (⟨a1_0, a1_1, a1_2⟩ : S55) )) (Reps.none _ _)))
   intro jW pL ho11 hb hg_ hnew_
   clear hg_ hnew_
   (first | rw [← lr.out] at ho11 | (simp only [Int.reduceToNat] at ho11; rw [← lr.out] at ho11))
   have n0_ := Aside0.mk (Kd.R_elder' (Z3 d3) (Kd.R_base ho11) hb)
   have n1_ := Aside0.mk (Kd.R_lower (Kd.R_newB (Kd.R_new' ho11 (Yd_ d3)) (g := bp) (o := .cells #[.int .i64 a1_0, .int .i64 a1_1, .int .i64 a1_2] 55 (0, 0)) (Z7 av)) (below_size (Z17)))
   have n2_ := Aside0.mk (Ye_ av)
   have n3_ := Aside0.mk (below_step (Z17) hb)
   clear d3
   clear av
   clear HB
   have d3 := n0_
   have bX := n1_
   have av := n2_
   have HB := n3_
   clear n0_ n1_ n2_ n3_
   clear hb ho11
   refine hK.out _ _ ⟨(blk_cell av.out 0).trans rfl, (blk_cell av.out 1).trans rfl, (blk_cell av.out 2).trans rfl⟩ (fun hHeld => ?_)
   clear hK K
   refine norm_ (a' := ?_) ?_ ?_
   rotate_left
   ·show Act.put _ (some 10) _ = _
    simp only [Act.put, List.setIfInBounds_toArray, List.set_cons_zero, List.set_cons_succ, i64_w, i32_w]
    rfl
   refine one_ (i := 2) (N := some 8) (M_ 5 6) rfl rfl (one_of HT_.out (by kernel_rfl)) (by decide) (fun K hK => ?_)
   refine Kd.R_append_rows_step k55 (w0 := w) w.heap.size (by rfl) (.tmp 6) (.tmp 7) 24 55 (.agg #[(.int .i64 0), (.int .i64 0), (.int .i64 0)]) 24 rfl Tryz.underlying24 info55 rfl (by decide) (by omega) nX gW l0 _ _ _ (fun k_ => some k_ ≠ (jW : Value).ownBlock ∧ k_ ≠ bp) (fun _ => False) rfl rfl ?aO ?aR (fun _ _ h => h) (fun _ h => h.elim) ?aF ?aB ?aS ?aL ?_
   (case aR => exact Z22 HR0)
   (case aB => exact Z17)
   (case aF => exact (fun k_ hk => ⟨Kd.fresh' (Yd_ bX) k_ hk, Kd.freshB (g := bp) (o := .cells #[.int .i64 a1_0, .int .i64 a1_1, .int .i64 a1_2] 55 (0, 0)) (Z7 av) k_ hk⟩))
   (case aO => exact (by (with_reducible repeat (first | apply Kd.R_alloc | apply Kd.R_drewN | apply Kd.R_drew)); exact Kd.R_mono d3.out (fun _ hk => ⟨hk.2, hk.1.2⟩)))
   (case aS => exact (below_size (Z17)))
   (case aL => exact Z83 zi)
   intro lP uc ho hb hg hat
   rw [← tF.out] at ho
   have n0_ := Aside0.mk (blk_grown (g := bp) (o := .cells #[.int .i64 a1_0, .int .i64 a1_1, .int .i64 a1_2] 55 (0, 0)) (Z7 av) hg (Kd.R_away d3.out (fun _ hk => hk.1.2)))
   have n1_ := Aside0.mk (Kd.R_after (ok := (fun k_ => k_ ≠ bp)) (by (with_reducible repeat (first | apply Kd.R_alloc | apply Kd.R_drewN | apply Kd.R_drew)); exact Kd.R_mono bX.out (fun _ hk => ⟨hk.2, hk.1.2⟩)) hg hat)
   have n2_ := Aside0.mk (hb)
   have n3_ := Aside0.mk (ho)
   clear av
   clear bX
   clear HB
   clear d3
   have av := n0_
   have bX := n1_
   have HB := n2_
   have em := n3_
   clear n0_ n1_ n2_ n3_
   clear ho hb hg hat
   refine hK.out _ _ ⟨(blk_cell av.out 0).trans rfl, (blk_cell av.out 1).trans rfl, (blk_cell av.out 2).trans rfl⟩ (fun hHeld => ?_)
   clear hK K
   refine norm_ (a' := ?_) ?_ ?_
   rotate_left
   ·show Act.put _ (some 8) _ = _
    simp only [Act.put, List.setIfInBounds_toArray, List.set_cons_zero, List.set_cons_succ, i64_w, i32_w]
    rfl
   exact norm_ (Z55) (hCont (nX, lP, jW) _ ⟨hHeld, (Z3 em), (Z84 bX), (Z7 av), (Z17)⟩)
  skip
  refine Kd.R_lit_step k55 _ 55 ?hg (N := 10) ?hd (xs := ([(⟨a1_0, a1_1, a1_2⟩ : S55)] : List (S55))) (inner := [.int .i64 a1_0, .int .i64 a1_1, .int .i64 a1_2]) (ok := fun _ => True) (okp := fun _ => True) ?hr ?hp (fun _ hk => hk) trivial (Below.refl _ _) (Nat.le_refl _) (by simp) ?_; (case hd => rfl); (case hg => rfl); (case hr => exact Z41); (case hp => exact (Reps.c3 (show Kd.M k55 _ _ _ (⟨a1_0, a1_1, a1_2⟩ : S55) [.int .i64 a1_0, .int .i64 a1_1, .int .i64 a1_2] from (k55_mkM _ _ _ (⟨a1_0, a1_1, a1_2⟩ : S55) )) (Reps.none _ _)))
  intro jW w8 ho9 hb hg_ hnew_
  clear hg_ hnew_
  (first | rw [← lr.out] at ho9 | (simp only [Int.reduceToNat] at ho9; rw [← lr.out] at ho9))
  have n0_ := Aside0.mk (Kd.R_lower (Kd.R_newB ho9 (g := bp) (o := .cells #[.int .i64 a1_0, .int .i64 a1_1, .int .i64 a1_2] 55 (0, 0)) (Z7 av)) (below_size (Z17)))
  have n1_ := Aside0.mk (Ye_ av)
  have n2_ := Aside0.mk (below_step (Z17) hb)
  clear av
  clear HB
  have bX := n0_
  have av := n1_
  have HB := n2_
  clear n0_ n1_ n2_
  clear hb ho9
  refine hK.out _ _ ⟨(blk_cell av.out 0).trans rfl, (blk_cell av.out 1).trans rfl, (blk_cell av.out 2).trans rfl⟩ (fun hHeld => ?_)
  clear hK K
  refine norm_ (a' := ?_) ?_ ?_
  rotate_left
  ·show Act.put _ (some 10) _ = _
   simp only [Act.put, List.setIfInBounds_toArray, List.set_cons_zero, List.set_cons_succ, i64_w, i32_w]
   rfl
  refine one_ (i := 0) (N := some 6) (N_ 11 27) rfl rfl (one_of HT_.out (by kernel_rfl)) (by decide) (fun K hK => ?_)
  refine Kd.R_lit_step k55 _ 55 ?hg (N := 6) ?hd (xs := ([] : List (S55))) (inner := []) (ok := fun _ => True) (okp := fun _ => True) ?hr ?hp (fun _ hk => hk) trivial (Below.refl _ _) (Nat.le_refl _) (by simp) ?_; (case hd => rfl); (case hg => rfl); (case hr => exact Z41); (case hp => exact (Reps.none _ _))
  intro nX pL ho11 hb hg_ hnew_
  clear hg_ hnew_
  (first | rw [← qn.out] at ho11 | (simp only [Int.reduceToNat] at ho11; rw [← qn.out] at ho11))
  have n0_ := Aside0.mk (Kd.R_elder' (Z3 bX) (Kd.R_base ho11) hb)
  have n1_ := Aside0.mk (Kd.R_lower (Kd.R_newB (Kd.R_new' ho11 (Yd_ bX)) (g := bp) (o := .cells #[.int .i64 a1_0, .int .i64 a1_1, .int .i64 a1_2] 55 (0, 0)) (Z7 av)) (below_size (Z17)))
  have n2_ := Aside0.mk (Ye_ av)
  have n3_ := Aside0.mk (below_step (Z17) hb)
  clear bX
  clear av
  clear HB
  have bX := n0_
  have d3 := n1_
  have av := n2_
  have HB := n3_
  clear n0_ n1_ n2_ n3_
  clear hb ho11
  refine hK.out _ _ ⟨(blk_cell av.out 0).trans rfl, (blk_cell av.out 1).trans rfl, (blk_cell av.out 2).trans rfl⟩ (fun hHeld => ?_)
  clear hK K
  refine norm_ (a' := ?_) ?_ ?_
  rotate_left
  ·show Act.put _ (some 6) _ = _
   simp only [Act.put, List.setIfInBounds_toArray, List.set_cons_zero, List.set_cons_succ, i64_w, i32_w]
   rfl
  refine one_ (i := 2) (N := some 8) (M_ 5 6) rfl rfl (one_of HT_.out (by kernel_rfl)) (by decide) (fun K hK => ?_)
  refine Kd.R_append_rows_step k55 (w0 := w) w.heap.size (by rfl) (.tmp 6) (.tmp 7) 24 55 (.agg #[(.int .i64 0), (.int .i64 0), (.int .i64 0)]) 24 rfl Tryz.underlying24 info55 rfl (by decide) (by omega) nX gW l0 _ _ _ (fun k_ => some k_ ≠ (jW : Value).ownBlock ∧ k_ ≠ bp) (fun _ => False) rfl rfl ?aO ?aR (fun _ _ h => h) (fun _ h => h.elim) ?aF ?aB ?aS ?aL ?_
  (case aR => exact Z22 HR0)
  (case aB => exact Z17)
  (case aF => exact (fun k_ hk => ⟨Kd.fresh' (Yd_ bX) k_ hk, Kd.freshB (g := bp) (o := .cells #[.int .i64 a1_0, .int .i64 a1_1, .int .i64 a1_2] 55 (0, 0)) (Z7 av) k_ hk⟩))
  (case aO => exact (Z65 d3))
  (case aS => exact (below_size (Z17)))
  (case aL => exact Z83 zi)
  intro lP uc ho hb hg hat
  rw [← tF.out] at ho
  have n0_ := Aside0.mk (blk_grown (g := bp) (o := .cells #[.int .i64 a1_0, .int .i64 a1_1, .int .i64 a1_2] 55 (0, 0)) (Z7 av) hg (Kd.R_away d3.out (fun _ hk => hk.2)))
  have n1_ := Aside0.mk (Kd.R_after (ok := (fun k_ => k_ ≠ bp)) (Z65 bX) hg hat)
  have n2_ := Aside0.mk (hb)
  have n3_ := Aside0.mk (ho)
  clear av
  clear bX
  clear HB
  clear d3
  have av := n0_
  have bX := n1_
  have HB := n2_
  have em := n3_
  clear n0_ n1_ n2_ n3_
  clear ho hb hg hat
  refine hK.out _ _ ⟨(blk_cell av.out 0).trans rfl, (blk_cell av.out 1).trans rfl, (blk_cell av.out 2).trans rfl⟩ (fun hHeld => ?_)
  clear hK K
  refine norm_ (a' := ?_) ?_ ?_
  rotate_left
  ·show Act.put _ (some 8) _ = _
   simp only [Act.put, List.setIfInBounds_toArray, List.set_cons_zero, List.set_cons_succ, i64_w, i32_w]
   rfl
  exact norm_ (Z55) (hCont (nX, lP, jW) _ ⟨hHeld, (Z3 em), (Z84 bX), (Z7 av), (Z17)⟩)
 rintro ⟨nX, lP, jW⟩ pQ ⟨hS_, h0_, h1_, h2_, h3_⟩
 have n0_ : Aside0 (Kd.R k55 55 pQ w.heap.size (fun k_ => some k_ ≠ (jW : Value).ownBlock ∧ k_ ≠ bp) lP e0) := ⟨h0_⟩
 have n1_ : Aside0 (Kd.R k55 55 pQ w.heap.size (fun k_ => some k_ ≠ (lP : Value).ownBlock ∧ k_ ≠ bp) jW el) := ⟨h1_⟩
 have n2_ : Aside0 (pQ.heap[bp]? = some (.cells #[.int .i64 a1_0, .int .i64 a1_1, .int .i64 a1_2] 55 (0, 0))) := ⟨h2_⟩
 have n3_ : Aside0 (Below w.heap.size w pQ) := ⟨h3_⟩
 clear av
 clear HB
 clear h0_ h1_ h2_ h3_
 have em := n0_
 have bX := n1_
 have av := n2_
 have HB := n3_
 clear n0_ n1_ n2_ n3_
 have hHeld : pQ.cell? ⟨bp, 0, none⟩ = some (.int .i64 a1_0) ∧ pQ.cell? ⟨bp, 1, none⟩ = some (.int .i64 a1_1) ∧ pQ.cell? ⟨bp, 2, none⟩ = some (.int .i64 a1_2) := hS_
 obtain ⟨qU, pj, jl⟩ := Kd.R_slice bX.out
 (first | subst jl | (injection jl with f1_ f2_ f3_; have f4_ := f1_.symm; have f5_ := f3_.symm; clear f1_ f2_ f3_; subst f4_; subst f5_))
 refine norm_ (a' := ?_) ?_ ?_
 rotate_left
 ·simp only [putAll, Act.put, List.setIfInBounds_toArray, List.set_cons_zero, List.set_cons_succ]
  rfl
 refine one_ (i := 5) (N := some 11) (M_ 6 5) rfl rfl (one_of HT_.out (by kernel_rfl)) (by decide) (fun K hK => ?_)
 refine Kd.R_append_rows_step k55 (w0 := w) w.heap.size (by rfl) (.tmp 8) (.tmp 10) 24 55 (.agg #[(.int .i64 0), (.int .i64 0), (.int .i64 0)]) 24 rfl Tryz.underlying24 info55 rfl (by decide) (by omega) lP e0 el _ _ _ (fun k_ => some k_ ≠ (.slice qU el.length pj : Value).ownBlock ∧ k_ ≠ bp) (fun _ => False) rfl rfl ?aO ?aR (fun _ _ h => h) (fun _ h => h.elim) ?aF ?aB ?aS ?aL ?_
 (case aR => exact Z1 bX)
 (case aB => exact Z17)
 (case aF => exact (fun k_ hk => ⟨Kd.fresh' (Yd_ bX) k_ hk, Kd.freshB (g := bp) (o := .cells #[.int .i64 a1_0, .int .i64 a1_1, .int .i64 a1_2] 55 (0, 0)) (Z7 av) k_ hk⟩))
 (case aO => exact (Z3 em))
 (case aS => exact (below_size (Z17)))
 (case aL => exact Z83 LMc4)
 intro v190 ze ho hb hg hat
 rw [← Ny189.out] at ho
 have n0_ := Aside0.mk (blk_grown (g := bp) (o := .cells #[.int .i64 a1_0, .int .i64 a1_1, .int .i64 a1_2] 55 (0, 0)) (Z7 av) hg (Kd.R_away em.out (fun _ hk => hk.2)))
 have n1_ := Aside0.mk (Kd.R_after (ok := (fun k_ => k_ ≠ bp)) (Z84 bX) hg hat)
 have n2_ := Aside0.mk (hb)
 have n3_ := Aside0.mk (ho)
 clear av
 clear bX
 clear HB
 clear em
 have av := n0_
 have bX := n1_
 have HB := n2_
 have jv := n3_
 clear n0_ n1_ n2_ n3_
 clear ho hb hg hat
 obtain ⟨yU, f7, qV⟩ := Kd.R_slice jv.out
 (first | subst qV | (injection qV with f1_ f2_ f3_; have f4_ := f1_.symm; have f5_ := f3_.symm; clear f1_ f2_ f3_; subst f4_; subst f5_))
 refine hK.out _ _ ⟨(blk_cell av.out 0).trans rfl, (blk_cell av.out 1).trans rfl, (blk_cell av.out 2).trans rfl⟩ (fun hHeld => ?_)
 clear hK K
 refine norm_ (a' := ?_) ?_ ?_
 rotate_left
 ·show Act.put _ (some 11) _ = _
  simp only [Act.put, List.setIfInBounds_toArray, List.set_cons_zero, List.set_cons_succ, i64_w, i32_w]
  rfl
 refine one_ (i := 6) (N := some 12) (M_ 7 4) rfl rfl (one_of HT_.out (by kernel_rfl)) (by decide) (fun K hK => ?_)
 refine goes_ Tryz.func67 (by kernel_rfl) rfl #[.slice yU zj.length f7] (by rfl) rfl rfl (Z46) ?_
 with_reducible refine (spec_shSorted.calls k _ _ zj BS BT _ ?side1 ?side2 A5.out).mono ?_
 (case side1 => exact Z1 jv)
 (case side2 => exact (Kd.R_reads' jv.out).2.1)
 rintro e uY ⟨v194, rfl, ho0, hb⟩
 refine ⟨_, rfl, ?_⟩
 have n0_ := Aside0.mk (Yb_ bX)
 have n1_ := Aside0.mk (Yb_ jv)
 have n2_ := Aside0.mk (Kd.R_lower (Kd.R_newB (Kd.R_new' (Kd.R_new' ho0 (Yd_ bX)) (Yd_ jv)) (g := bp) (o := .cells #[.int .i64 a1_0, .int .i64 a1_1, .int .i64 a1_2] 55 (0, 0)) (Z7 av)) (below_size (Z17)))
 have n3_ := Aside0.mk (Ye_ av)
 have n4_ := Aside0.mk (below_step (Z17) hb)
 clear bX
 clear jv
 clear av
 clear HB
 have bX := n0_
 have jv := n1_
 have HO195 := n2_
 have av := n3_
 have HB := n4_
 clear n0_ n1_ n2_ n3_ n4_
 (try clear hb)
 (try clear hk)
 (try clear ho0)
 refine hK.out _ _ ⟨(blk_cell av.out 0).trans rfl, (blk_cell av.out 1).trans rfl, (blk_cell av.out 2).trans rfl⟩ (fun hHeld => ?_)
 clear hK K
 refine norm_ (a' := ?_) ?_ ?_
 rotate_left
 ·show Act.put _ (some 12) _ = _
  simp only [Act.put, List.setIfInBounds_toArray, List.set_cons_zero, List.set_cons_succ, i64_w, i32_w]
  rfl
 refine pu_ 7 13 (M_ 8 3) ?_
 refine pu_ 8 14 (M_ 9 2) ?_
 refine pu_ 9 4 (M_ 10 1) ?_
 refine pu_ 10 5 (M_ 11 0) ?_
 refine done_ (done_of HT_.out (by kernel_rfl)) ?_
 try go_wp2
 go_ret2
 exact ⟨_, Z9, Z25 HO195, Z17⟩

/-! ### spec_l1Cur_among: function 27 -/
def spec_l1Cur_among.f (s0_0 : List Int) (s0_1 : Int) (s0_2 : Int) (l1 : List Int) : Option (Int × Int × Int) := (spec_l1Cur_pick.f s0_0 s0_1 s0_2 (l1.length : Int)).bind fun fl => (if 0 ≤ fl.1 then (if fl.1 < (l1.length : Int) then (some (rd l1 fl.1, fl.2.1, fl.2.2)) else (none)) else (none))
set_option maxHeartbeats 8000000 in
set_option maxRecDepth 100000 in
theorem spec_l1Cur_among.calls (g : Nat) (s0_0 : List Int) (s0_1 : Int) (s0_2 : Int) (A1 : Option Addr) (c1 : Nat) (l1 : List Int) (r1 : Int) (r2 : Int) (r3 : Int) (w0 w : World) (hI : IsS49 w0 w g s0_0 s0_1 s0_2) (hB : Below w0.heap.size w0 w) (hr1 : Kd.C (Kd.int .i64) w A1 l1.length l1) (hc1 : l1.length ≤ c1) (hf1 : ∀ ad, A1 = some ad → 0 < l1.length → ad.block ≠ g) (h : spec_l1Cur_among.f s0_0 s0_1 s0_2 l1 = some (r1, r2, r3)) :
  Calls Tryz.prog 27 #[.pointer (some ⟨g, 0, none⟩), .slice A1 l1.length c1] w fun e w' => e = .returned (.int .i64 r1) ∧ IsS49 w0 w' g s0_0 r2 r3 ∧ Below w0.heap.size w0 w' ∧ KeepBut w w' g none := by
 have HR1 := Aside0.mk hr1
 have HC1 := Aside0.mk hc1
 clear hr1 hc1
 have HI0 := Aside0.mk hI
 have HK := Aside0.mk (KeepBut.refl w g none)
 have HL := Aside0.mk hB.size
 clear hI
 have HW0 := Aside0.mk hB.size
 have HB := Aside0.mk hB
 clear hB
 have H : ((spec_l1Cur_pick.f s0_0 s0_1 s0_2 (l1.length : Int)).bind fun fl => (if 0 ≤ fl.1 then (if fl.1 < (l1.length : Int) then (some (rd l1 fl.1, fl.2.1, fl.2.2)) else (none)) else (none))) = some (r1, r2, r3) := h
 clear h
 obtain ⟨⟨nY, t197, t198⟩, A3, H⟩ := bd_ H
 (try dsimp only at H)
 by_cases c4 : 0 ≤ nY
 case neg => rw [if_neg c4] at H; exact absurd H (by simp)
 rw [if_pos c4] at H
 have bZ : decide (0 ≤ nY) = true := decide_eq_true c4
 clear c4
 by_cases c5 : nY < (l1.length : Int)
 case neg => rw [if_neg c5] at H; exact absurd H (by simp)
 rw [if_pos c5] at H
 have ci : decide (nY < (l1.length : Int)) = true := decide_eq_true c5
 clear c5
 simp only [Option.some.injEq, Prod.mk.injEq] at H
 obtain ⟨rfl, rfl, rfl⟩ := H
 go_enter Tryz.func27, Tryz.ntmps27
 go_wp2_with ((with_reducible refine gate_callee (f := 52) rfl ?_); refine gl_ 9 Tryz.func52 #[.pointer (some ⟨g, 0, none⟩), .int .i64 (l1.length : Int)] ?_; (with_reducible refine (spec_l1Cur_pick.calls g s0_0 s0_1 s0_2 (l1.length : Int) nY t197 t198 w0 _ ?_ ?_ A3.out).mono ?_); exact (Z4 HI0); exact Z6; rintro e w6 ⟨rfl, hi, hb, hk⟩; refine ⟨_, rfl, ?_⟩; refine k3_ (KeepBut.trans (Z5) hk (.inl rfl)) (hb) (hi) ?_; clear HK HB HI0; intro HK HB HI0; (try clear hb hk hi); have zk : 0 ≤ (nY : Int) := of_decide_eq_true (Z8); have zl : nY < (l1.length : Int) := of_decide_eq_true (Z8); obtain ⟨ad199, e199, qo⟩ := Kd.at_int HR1.out nY zk zl; cases e199; replace qo := keep_cell HK.out qo (by first | (rw [add_block]; exact hf1 _ rfl (by omega)) | exact hf1 _ rfl (by omega) | exact hf1 ad199 rfl (by omega)); replace zk := eq_true zk; replace zl := eq_true zl)
 go_ret
 exact ⟨Z9, Z4 HI0, Z6, Z5⟩

/-! ### spec_l1Cur_hole: function 70 -/
def spec_l1Cur_hole.f (s0_0 : List Int) (s0_1 : Int) (s0_2 : Int) : Option (Int × Int × Int × Int × Int) := (spec_l1Cur_pick.f s0_0 s0_1 s0_2 40).bind fun jw => ((spec_l1Cur_pick.f s0_0 jw.2.1 jw.2.2 60).bind fun jx => ((spec_l1Cur_among.f s0_0 jx.2.1 jx.2.2 (([0, 2, 5, jw.1, jx.1, 1990] : List Int))).bind fun d4 => ((spec_l1Cur_pick.f s0_0 d4.2.1 d4.2.2 20).bind fun fm => ((spec_l1Cur_among.f s0_0 fm.2.1 fm.2.2 (([0, 1, 2, 3, 5, fm.1] : List Int))).bind fun dO => ((spec_l1Cur_among.f s0_0 dO.2.1 dO.2.2 (([1, 2, 3, 4, 10] : List Int))).bind fun cQ => (some (dO.1, d4.1, wrap64 (d4.1 + cQ.1), cQ.2.1, cQ.2.2)))))))
set_option maxHeartbeats 8000000 in
set_option maxRecDepth 100000 in
theorem spec_l1Cur_hole.calls (g : Nat) (s0_0 : List Int) (s0_1 : Int) (s0_2 : Int) (r1 : Int) (r2 : Int) (r3 : Int) (r4 : Int) (r5 : Int) (w0 w : World) (hI : IsS49 w0 w g s0_0 s0_1 s0_2) (hB : Below w0.heap.size w0 w) (h : spec_l1Cur_hole.f s0_0 s0_1 s0_2 = some (r1, r2, r3, r4, r5)) :
  Calls Tryz.prog 70 #[.pointer (some ⟨g, 0, none⟩)] w fun e w' => e = .returned (.agg #[.int .i64 r1, .int .i64 r2, .int .i64 r3]) ∧ IsS49 w0 w' g s0_0 r4 r5 ∧ Below w0.heap.size w0 w' ∧ KeepBut w w' g none := by
 have hu55 := Tryz.underlying55
 have HI0 := Aside0.mk hI
 have HK := Aside0.mk (KeepBut.refl w g none)
 have HL := Aside0.mk hB.size
 clear hI
 have HW0 := Aside0.mk hB.size
 have HB := Aside0.mk hB
 clear hB
 have H : ((spec_l1Cur_pick.f s0_0 s0_1 s0_2 40).bind fun jw => ((spec_l1Cur_pick.f s0_0 jw.2.1 jw.2.2 60).bind fun jx => ((spec_l1Cur_among.f s0_0 jx.2.1 jx.2.2 (([0, 2, 5, jw.1, jx.1, 1990] : List Int))).bind fun d4 => ((spec_l1Cur_pick.f s0_0 d4.2.1 d4.2.2 20).bind fun fm => ((spec_l1Cur_among.f s0_0 fm.2.1 fm.2.2 (([0, 1, 2, 3, 5, fm.1] : List Int))).bind fun dO => ((spec_l1Cur_among.f s0_0 dO.2.1 dO.2.2 (([1, 2, 3, 4, 10] : List Int))).bind fun cQ => (some (dO.1, d4.1, wrap64 (d4.1 + cQ.1), cQ.2.1, cQ.2.2)))))))) = some (r1, r2, r3, r4, r5) := h
 clear h
 obtain ⟨⟨q0, BU, BV⟩, A2, H⟩ := bd_ H
 (try dsimp only at H)
 obtain ⟨⟨q7, u4, u9⟩, A3, H⟩ := bd_ H
 (try dsimp only at H)
 obtain ⟨zm, nZ⟩ : ∃ y_ : List Int, y_ = (([0, 2, 5, q0, q7, 1990] : List Int)) := ⟨_, rfl⟩
 replace H : ((spec_l1Cur_among.f s0_0 u4 u9 zm).bind fun d4 => ((spec_l1Cur_pick.f s0_0 d4.2.1 d4.2.2 20).bind fun fm => ((spec_l1Cur_among.f s0_0 fm.2.1 fm.2.2 (([0, 1, 2, 3, 5, fm.1] : List Int))).bind fun dO => ((spec_l1Cur_among.f s0_0 dO.2.1 dO.2.2 (([1, 2, 3, 4, 10] : List Int))).bind fun cQ => (some (dO.1, d4.1, wrap64 (d4.1 + cQ.1), cQ.2.1, cQ.2.2)))))) = some (r1, r2, r3, r4, r5) := by first | (rw [nZ]; with_reducible exact H) | (have H2_ := (Option.bind_some _ _).symm.trans H; rw [nZ]; with_reducible exact H2_) | (have H2_ := (Option.bind_some _ _).symm.trans H; with_reducible exact H2_) | with_reducible exact H | (rw [nZ]; exact H) | exact H
 have xx := Aside0.mk nZ
 clear nZ
 obtain ⟨⟨n0, zn, zo⟩, A4, H⟩ := bd_ H
 (try dsimp only at H)
 obtain ⟨⟨ra, tG, tH⟩, A5, H⟩ := bd_ H
 (try dsimp only at H)
 obtain ⟨zp, n1⟩ : ∃ y_ : List Int, y_ = (([0, 1, 2, 3, 5, ra] : List Int)) := ⟨_, rfl⟩
 replace H : ((spec_l1Cur_among.f s0_0 tG tH zp).bind fun dO => ((spec_l1Cur_among.f s0_0 dO.2.1 dO.2.2 (([1, 2, 3, 4, 10] : List Int))).bind fun cQ => (some (dO.1, n0, wrap64 (n0 + cQ.1), cQ.2.1, cQ.2.2)))) = some (r1, r2, r3, r4, r5) := by first | (rw [n1]; with_reducible exact H) | (have H2_ := (Option.bind_some _ _).symm.trans H; rw [n1]; with_reducible exact H2_) | (have H2_ := (Option.bind_some _ _).symm.trans H; with_reducible exact H2_) | with_reducible exact H | (rw [n1]; exact H) | exact H
 have xy := Aside0.mk n1
 clear n1
 obtain ⟨⟨tI, rb, rc⟩, A6, H⟩ := bd_ H
 (try dsimp only at H)
 obtain ⟨zq, n2⟩ : ∃ y_ : List Int, y_ = (([1, 2, 3, 4, 10] : List Int)) := ⟨_, rfl⟩
 replace H : ((spec_l1Cur_among.f s0_0 rb rc zq).bind fun cQ => (some (tI, n0, wrap64 (n0 + cQ.1), cQ.2.1, cQ.2.2))) = some (r1, r2, r3, r4, r5) := by first | (rw [n2]; with_reducible exact H) | (have H2_ := (Option.bind_some _ _).symm.trans H; rw [n2]; with_reducible exact H2_) | (have H2_ := (Option.bind_some _ _).symm.trans H; with_reducible exact H2_) | with_reducible exact H | (rw [n2]; exact H) | exact H
 have xz := Aside0.mk n2
 clear n2
 obtain ⟨⟨BW, t226, t227⟩, A7, H⟩ := bd_ H
 (try dsimp only at H)
 simp only [Option.some.injEq, Prod.mk.injEq] at H
 obtain ⟨rfl, rfl, rfl, rfl, rfl⟩ := H
 go_enter Tryz.func70, Tryz.ntmps70
 go_wp2_with (first | ((with_reducible refine gate_dst (N := 2) rfl ?_); refine bv_ 2 55 #[.int .i64 0, .int .i64 0, .int .i64 0] ?_; intro eQ hg w8 hbox hb; refine k8_ (IsS49.below (Z4 HI0) hb) (KeepBut.trans (Z5) (KeepBut.of_below hb g none) (.inl rfl)) (below_step (Z6) hb) (hbox) ((Z61 : w.heap.size ≤ eQ)) ((Nat.le_trans HW0.out (Z61 : w.heap.size ≤ eQ) : w0.heap.size ≤ eQ)) ((Z87 : g ≠ eQ)) ((Z88 : eQ ≠ g)) ?_; clear HI0 HK HB; intro HI0 HK HB bQ GW200 GE200 pG eB; clear hb hbox hg) | ((with_reducible refine gate_callee (f := 52) rfl ?_); refine gl_ 6 Tryz.func52 #[.pointer (some ⟨g, 0, none⟩), .int .i64 40] ?_; (with_reducible refine (spec_l1Cur_pick.calls g s0_0 s0_1 s0_2 40 q0 BU BV w0 _ ?_ ?_ A2.out).mono ?_); exact Z21; exact Z35; rintro e w9 ⟨rfl, hi, hb, hk⟩; refine ⟨_, rfl, ?_⟩; refine k4_ (KeepBut.blk hk (g' := eQ) (o := .cells #[.int .i64 0, .int .i64 0, .int .i64 0] 55 (0, 0)) (Z7 bQ) eB.out (by simp)) (KeepBut.trans (Z31) hk (.inl rfl)) (hb) (hi) ?_; clear bQ HK HB HI0; intro bQ HK HB HI0; (try clear hb hk hi)) | ((with_reducible refine gate_callee (f := 52) rfl ?_); refine gl_ 8 Tryz.func52 #[.pointer (some ⟨g, 0, none⟩), .int .i64 60] ?_; (with_reducible refine (spec_l1Cur_pick.calls g s0_0 BU BV 60 q7 u4 u9 w0 _ ?_ ?_ A3.out).mono ?_); exact Z21; exact Z35; rintro e pL ⟨rfl, hi, hb, hk⟩; refine ⟨_, rfl, ?_⟩; refine k4_ (KeepBut.blk hk (g' := eQ) (o := .cells #[.int .i64 0, .int .i64 0, .int .i64 0] 55 (0, 0)) (Z7 bQ) eB.out (by simp)) (KeepBut.trans (Z31) hk (.inl rfl)) (hb) (hi) ?_; clear bQ HK HB HI0; intro bQ HK HB HI0; (try clear hb hk hi)) | ((with_reducible refine gate_dst (N := 9) rfl ?_); refine Kd.R_lit (Kd.int .i64) _ 3 ?hg (N := 9) ?hd (xs := ([0, 2, 5, q0, q7, 1990] : List Int)) (inner := [.int .i64 0, .int .i64 2, .int .i64 5, .int .i64 q0, .int .i64 q7, .int .i64 1990]) (ok := fun _ => True) (okp := fun _ => True) ?hr ?hp (fun _ hk => hk) trivial (Below.refl _ _) (Nat.le_refl _) (by simp) ?_; (case hd => rfl); (case hg => rfl); (case hr => exact Z41); (case hp => exact (Reps.one (show Kd.M (Kd.int .i64) _ _ _ 0 [.int .i64 0] from rfl) (Reps.one (show Kd.M (Kd.int .i64) _ _ _ 2 [.int .i64 2] from rfl) (Reps.one (show Kd.M (Kd.int .i64) _ _ _ 5 [.int .i64 5] from rfl) (Reps.one (show Kd.M (Kd.int .i64) _ _ _ q0 [.int .i64 q0] from rfl) (Reps.one (show Kd.M (Kd.int .i64) _ _ _ q7 [.int .i64 q7] from rfl) (Reps.one (show Kd.M (Kd.int .i64) _ _ _ 1990 [.int .i64 1990] from rfl) (Reps.none _ _)))))))); intro v208 g3 ho12 hb hg_ hnew_; clear hg_ hnew_; (first | rw [← xx.out] at ho12 | (simp only [Int.reduceToNat] at ho12; rw [← xx.out] at ho12)); refine k5_ (Kd.R_lower ho12 (keep_size (w := w) (g := g) (row := none) (Z31))) (IsS49.below (Z21) hb) (Ye_ bQ) (KeepBut.trans (Z31) (KeepBut.of_below hb g none) (.inl rfl)) (below_step (Z35) hb) ?_; clear HI0 bQ HK HB; intro cg HI0 bQ HK HB; clear hb ho12; obtain ⟨fJ, fK, o6⟩ := Kd.R_slice cg.out; subst o6) | ((with_reducible refine gate_callee (f := 27) rfl ?_); refine gl_ 10 Tryz.func27 #[.pointer (some ⟨g, 0, none⟩), .slice fJ zm.length fK] ?_; (with_reducible refine (spec_l1Cur_among.calls g s0_0 u4 u9 _ _ zm n0 zn zo w0 _ ?_ ?_ ?_ ?_ ?_ A4.out).mono ?_); exact Z21; exact Z35; exact (Z1 cg); exact (Kd.R_reads' cg.out).2.1; exact far_slice (IsS49.own_ne HI0.out cg.out (by decide)); rintro e ze ⟨rfl, hi, hb, hk⟩; refine ⟨_, rfl, ?_⟩; refine k5_ (KeepBut.blk hk (g' := eQ) (o := .cells #[.int .i64 0, .int .i64 0, .int .i64 0] 55 (0, 0)) (Z7 bQ) eB.out (by simp)) (Kd.R_mono (Kd.R_keep (IsS49.apart (show IsS49 w0 _ g s0_0 u4 u9 from Z21) (Z3 cg) (by decide)) hk (fun _ h => h.2)) (fun _ h => h.1)) (KeepBut.trans (Z31) hk (.inl rfl)) (hb) (hi) ?_; clear bQ cg HK HB HI0; intro bQ cg HK HB HI0; (try clear hb hk hi)) | ((with_reducible refine gate_callee (f := 52) rfl ?_); refine gl_ 13 Tryz.func52 #[.pointer (some ⟨g, 0, none⟩), .int .i64 20] ?_; (with_reducible refine (spec_l1Cur_pick.calls g s0_0 zn zo 20 ra tG tH w0 _ ?_ ?_ A5.out).mono ?_); exact Z21; exact Z35; rintro e il ⟨rfl, hi, hb, hk⟩; refine ⟨_, rfl, ?_⟩; refine k5_ (KeepBut.blk hk (g' := eQ) (o := .cells #[.int .i64 0, .int .i64 0, .int .i64 0] 55 (0, 0)) (Z7 bQ) eB.out (by simp)) (Kd.R_mono (Kd.R_keep (IsS49.apart (show IsS49 w0 _ g s0_0 zn zo from Z21) (Z3 cg) (by decide)) hk (fun _ h => h.2)) (fun _ h => h.1)) (KeepBut.trans (Z31) hk (.inl rfl)) (hb) (hi) ?_; clear bQ cg HK HB HI0; intro bQ cg HK HB HI0; (try clear hb hk hi)) | ((with_reducible refine gate_dst (N := 14) rfl ?_); refine Kd.R_lit (Kd.int .i64) _ 3 ?hg (N := 14) ?hd (xs := ([0, 1, 2, 3, 5, ra] : List Int)) (inner := [.int .i64 0, .int .i64 1, .int .i64 2, .int .i64 3, .int .i64 5, .int .i64 ra]) (ok := fun _ => True) (okp := fun _ => True) ?hr ?hp (fun _ hk => hk) trivial (Below.refl _ _) (Nat.le_refl _) (by simp) ?_; (case hd => rfl); (case hg => rfl); (case hr => exact Z41); (case hp => exact (Reps.one (show Kd.M (Kd.int .i64) _ _ _ 0 [.int .i64 0] from rfl) (Reps.one (show Kd.M (Kd.int .i64) _ _ _ 1 [.int .i64 1] from rfl) (Reps.one (show Kd.M (Kd.int .i64) _ _ _ 2 [.int .i64 2] from rfl) (Reps.one (show Kd.M (Kd.int .i64) _ _ _ 3 [.int .i64 3] from rfl) (Reps.one (show Kd.M (Kd.int .i64) _ _ _ 5 [.int .i64 5] from rfl) (Reps.one (show Kd.M (Kd.int .i64) _ _ _ ra [.int .i64 ra] from rfl) (Reps.none _ _)))))))); intro v217 mx ho17 hb hg_ hnew_; clear hg_ hnew_; (first | rw [← xy.out] at ho17 | (simp only [Int.reduceToNat] at ho17; rw [← xy.out] at ho17)); refine k6_ (Kd.R_elder' (Z3 cg) (Kd.R_base ho17) hb) (Kd.R_lower (Kd.R_new' ho17 (Yd_ cg)) (keep_size (w := w) (g := g) (row := none) (Z31))) (IsS49.below (Z21) hb) (Ye_ bQ) (KeepBut.trans (Z31) (KeepBut.of_below hb g none) (.inl rfl)) (below_step (Z35) hb) ?_; clear cg HI0 bQ HK HB; intro cg d5 HI0 bQ HK HB; clear hb ho17; obtain ⟨BX, BZ, zr⟩ := Kd.R_slice d5.out; subst zr) | ((with_reducible refine gate_callee (f := 27) rfl ?_); refine gl_ 15 Tryz.func27 #[.pointer (some ⟨g, 0, none⟩), .slice BX zp.length BZ] ?_; (with_reducible refine (spec_l1Cur_among.calls g s0_0 tG tH _ _ zp tI rb rc w0 _ ?_ ?_ ?_ ?_ ?_ A6.out).mono ?_); exact Z21; exact Z35; exact (Z1 d5); exact (Kd.R_reads' d5.out).2.1; exact far_slice (IsS49.own_ne HI0.out d5.out (by decide)); rintro e uk ⟨rfl, hi, hb, hk⟩; refine ⟨_, rfl, ?_⟩; refine k6_ (KeepBut.blk hk (g' := eQ) (o := .cells #[.int .i64 0, .int .i64 0, .int .i64 0] 55 (0, 0)) (Z7 bQ) eB.out (by simp)) (Kd.R_mono (Kd.R_keep (IsS49.apart (show IsS49 w0 _ g s0_0 tG tH from Z21) (Z3 cg) (by decide)) hk (fun _ h => h.2)) (fun _ h => h.1)) (Kd.R_mono (Kd.R_keep (IsS49.apart (show IsS49 w0 _ g s0_0 tG tH from Z21) (Z3 d5) (by decide)) hk (fun _ h => h.2)) (fun _ h => h.1)) (KeepBut.trans (Z31) hk (.inl rfl)) (hb) (hi) ?_; clear bQ cg d5 HK HB HI0; intro bQ cg d5 HK HB HI0; (try clear hb hk hi)) | ((with_reducible refine gate_dst (N := 19) rfl ?_); refine Kd.R_lit (Kd.int .i64) _ 3 ?hg (N := 19) ?hd (xs := ([1, 2, 3, 4, 10] : List Int)) (inner := [.int .i64 1, .int .i64 2, .int .i64 3, .int .i64 4, .int .i64 10]) (ok := fun _ => True) (okp := fun _ => True) ?hr ?hp (fun _ hk => hk) trivial (Below.refl _ _) (Nat.le_refl _) (by simp) ?_; (case hd => rfl); (case hg => rfl); (case hr => exact Z41); (case hp => exact (Reps.one (show Kd.M (Kd.int .i64) _ _ _ 1 [.int .i64 1] from rfl) (Reps.one (show Kd.M (Kd.int .i64) _ _ _ 2 [.int .i64 2] from rfl) (Reps.one (show Kd.M (Kd.int .i64) _ _ _ 3 [.int .i64 3] from rfl) (Reps.one (show Kd.M (Kd.int .i64) _ _ _ 4 [.int .i64 4] from rfl) (Reps.one (show Kd.M (Kd.int .i64) _ _ _ 10 [.int .i64 10] from rfl) (Reps.none _ _))))))); intro v223 yC ho21 hb hg_ hnew_; clear hg_ hnew_; (first | rw [← xz.out] at ho21 | (simp only [Int.reduceToNat] at ho21; rw [← xz.out] at ho21)); refine k7_ (Kd.R_elder' (Z3 cg) (Kd.R_base ho21) hb) (Kd.R_elder' (Z3 d5) (Kd.R_base ho21) hb) (Kd.R_lower (Kd.R_new' (Kd.R_new' ho21 (Yd_ cg)) (Yd_ d5)) (keep_size (w := w) (g := g) (row := none) (Z31))) (IsS49.below (Z21) hb) (Ye_ bQ) (KeepBut.trans (Z31) (KeepBut.of_below hb g none) (.inl rfl)) (below_step (Z35) hb) ?_; clear cg d5 HI0 bQ HK HB; intro cg d5 jy HI0 bQ HK HB; clear hb ho21; obtain ⟨yL, o1, iT⟩ := Kd.R_slice jy.out; subst iT) | ((with_reducible refine gate_callee (f := 27) rfl ?_); refine gl_ 20 Tryz.func27 #[.pointer (some ⟨g, 0, none⟩), .slice yL zq.length o1] ?_; (with_reducible refine (spec_l1Cur_among.calls g s0_0 rb rc _ _ zq BW t226 t227 w0 _ ?_ ?_ ?_ ?_ ?_ A7.out).mono ?_); exact Z21; exact Z35; exact (Z1 jy); exact (Kd.R_reads' jy.out).2.1; exact far_slice (IsS49.own_ne HI0.out jy.out (by decide)); rintro e mm ⟨rfl, hi, hb, hk⟩; refine ⟨_, rfl, ?_⟩; refine k7_ (KeepBut.blk hk (g' := eQ) (o := .cells #[.int .i64 0, .int .i64 0, .int .i64 0] 55 (0, 0)) (Z7 bQ) eB.out (by simp)) (Kd.R_mono (Kd.R_keep (IsS49.apart (show IsS49 w0 _ g s0_0 rb rc from Z21) (Z3 cg) (by decide)) hk (fun _ h => h.2)) (fun _ h => h.1)) (Kd.R_mono (Kd.R_keep (IsS49.apart (show IsS49 w0 _ g s0_0 rb rc from Z21) (Z3 d5) (by decide)) hk (fun _ h => h.2)) (fun _ h => h.1)) (Kd.R_mono (Kd.R_keep (IsS49.apart (show IsS49 w0 _ g s0_0 rb rc from Z21) (Z3 jy) (by decide)) hk (fun _ h => h.2)) (fun _ h => h.1)) (KeepBut.trans (Z31) hk (.inl rfl)) (hb) (hi) ?_; clear bQ cg d5 jy HK HB HI0; intro bQ cg d5 jy HK HB HI0; (try clear hb hk hi); have hnb24 := eB.out; have hnc24 := pG.out; obtain ⟨hcz25_0, hcz25_1, hcz25_2, hfz25_0, hfz25_1, hfz25_2⟩ := bx3_ (w := mm) bQ.out))
 refine bodyPost_ret (results_cell_row rfl _ _ eQ 55 #[.int .i64 tI, .int .i64 n0, .int .i64 (wrap64 (n0 + BW))] (0, 0) _ rfl (by (with_reducible repeat (first | refine blk_drewN ?_ _ | refine blk_drew ?_ | refine blk_alloc ?_ _)); refine blk_put (cs := #[.int .i64 tI, .int .i64 n0, .int .i64 0]) ?_ 2 _ rfl; (with_reducible repeat (first | refine blk_drewN ?_ _ | refine blk_drew ?_ | refine blk_alloc ?_ _)); refine blk_put (cs := #[.int .i64 tI, .int .i64 0, .int .i64 0]) ?_ 1 _ rfl; (with_reducible repeat (first | refine blk_drewN ?_ _ | refine blk_drew ?_ | refine blk_alloc ?_ _)); refine blk_put (cs := #[.int .i64 0, .int .i64 0, .int .i64 0]) ?_ 0 _ rfl; (with_reducible repeat (first | refine blk_drewN ?_ _ | refine blk_drew ?_ | refine blk_alloc ?_ _)); exact bQ.out) Tryz.underlying55 rfl (by kernel_rfl)) rfl ?_
 exact ⟨Z9, Z21, Z35, Z31⟩

/-! ### spec_l1Cur_sheet: function 51 -/
mutual
def spec_l1Cur_sheet.l0 : Nat → List (S55) → List Int → Int → Int → Option ((List (S55)) × Int × Int)
 | 0, _, _, _, _ => none
 | k + 1, x3, bx, cr, ct => if (x3.length : Int) < 60 then ((spec_l1Cur_pick.f bx cr ct 5).bind fun tJ => (if x3.length < 5864062014805 then (spec_l1Cur_sheet.l0 k (x3 ++ [(⟨3 * ((x3.length : Int) % 5), wrap64 (6 * (wrap64 ((x3.length : Int) / 5))), wrap64 ((wrap64 ((wrap64 (6 * (wrap64 ((x3.length : Int) / 5)))) + 1)) + tJ.1)⟩ : S55)]) bx tJ.2.1 tJ.2.2) else (none))) else (some (x3, cr, ct))
def spec_l1Cur_sheet.l1 : Nat → List (S55) → Int → Int → List Int → Int → Int → Option ((List (S55)) × Int × Int)
 | 0, _, _, _, _, _, _ => none
 | k + 1, x3, x5, x6, bx, cr, ct => if (x3.length : Int) < x5 then (spec_l1Cur_sheet.j2 k x3 x5 x6 (decide (x6 < 60)) bx cr ct) else (spec_l1Cur_sheet.j2 k x3 x5 x6 false bx cr ct)
def spec_l1Cur_sheet.j2 : Nat → List (S55) → Int → Int → Bool → List Int → Int → Int → Option ((List (S55)) × Int × Int)
 | 0, _, _, _, _, _, _, _ => none
 | k + 1, x3, x5, x6, x42, bx, cr, ct => if x42 = true then ((spec_l1Cur_hole.f bx cr ct).bind fun jz => ((spec_shWith.f k x3 jz.1 jz.2.1 jz.2.2.1).bind fun xA => (if xA.2 = true then (spec_l1Cur_sheet.l1 k xA.1 x5 (wrap64 (x6 + 1)) bx jz.2.2.2.1 jz.2.2.2.2) else (spec_l1Cur_sheet.l1 k x3 x5 (wrap64 (x6 + 1)) bx jz.2.2.2.1 jz.2.2.2.2)))) else (some (x3, cr, ct))
end
def spec_l1Cur_sheet.f (k : Nat) (s0_0 : List Int) (s0_1 : Int) (s0_2 : Int) : Option ((List (S55)) × Int × Int) := (spec_l1Cur_one.f s0_0 s0_1 s0_2 24).bind fun fo => (if fo.1 = true then (spec_l1Cur_sheet.l0 k ([] : List (S55)) s0_0 fo.2.1 fo.2.2) else ((spec_l1Cur_pick.f s0_0 fo.2.1 fo.2.2 9).bind fun jA => (spec_l1Cur_sheet.l1 k ([] : List (S55)) jA.1 0 s0_0 jA.2.1 jA.2.2)))
theorem spec_l1Cur_sheet.mono_l : ∀ k, (∀ y0 y1 y2 y3, LeO (spec_l1Cur_sheet.l0 k y0 y1 y2 y3) (spec_l1Cur_sheet.l0 (k + 1) y0 y1 y2 y3)) ∧ (∀ y0 y1 y2 y3 y4 y5, LeO (spec_l1Cur_sheet.l1 k y0 y1 y2 y3 y4 y5) (spec_l1Cur_sheet.l1 (k + 1) y0 y1 y2 y3 y4 y5)) ∧ (∀ y0 y1 y2 y3 y4 y5 y6, LeO (spec_l1Cur_sheet.j2 k y0 y1 y2 y3 y4 y5 y6) (spec_l1Cur_sheet.j2 (k + 1) y0 y1 y2 y3 y4 y5 y6))
 | 0 => ⟨fun _ _ _ _ r h => by simp [spec_l1Cur_sheet.l0] at h, fun _ _ _ _ _ _ r h => by simp [spec_l1Cur_sheet.l1] at h, fun _ _ _ _ _ _ _ r h => by simp [spec_l1Cur_sheet.j2] at h⟩
 | k + 1 => by
  obtain ⟨ih0, ih1, ih2⟩ := spec_l1Cur_sheet.mono_l k
  refine ⟨?_, ?_, ?_⟩
  ·intro y0 y1 y2 y3
   unfold spec_l1Cur_sheet.l0
   exact mo5_
  ·intro y0 y1 y2 y3 y4 y5
   unfold spec_l1Cur_sheet.l1
   exact mo5_
  intro y0 y1 y2 y3 y4 y5 y6
  unfold spec_l1Cur_sheet.j2
  exact mo5_
theorem spec_l1Cur_sheet.mono : ∀ a0 a1 a2 k, LeO (spec_l1Cur_sheet.f k a0 a1 a2) (spec_l1Cur_sheet.f (k + 1) a0 a1 a2) := by
 intro a0 a1 a2 k
 obtain ⟨ih0, ih1, ih2⟩ := spec_l1Cur_sheet.mono_l k
 unfold spec_l1Cur_sheet.f
 exact mo5_
set_option maxHeartbeats 8000000 in
set_option maxRecDepth 100000 in
theorem spec_l1Cur_sheet.calls (k : Nat) (g : Nat) (s0_0 : List Int) (s0_1 : Int) (s0_2 : Int) (r1 : List (S55)) (r2 : Int) (r3 : Int) (w0 w : World) (hI : IsS49 w0 w g s0_0 s0_1 s0_2) (hB : Below w0.heap.size w0 w) (h : spec_l1Cur_sheet.f k s0_0 s0_1 s0_2 = some (r1, r2, r3)) :
  Calls Tryz.prog 51 #[.pointer (some ⟨g, 0, none⟩)] w fun e w' => ∃ v0_ : Value, e = .returned (v0_) ∧ Kd.R k55 55 w' w.heap.size (fun _ => True) v0_ r1 ∧ IsS49 w0 w' g s0_0 r2 r3 ∧ Below w0.heap.size w0 w' ∧ KeepBut w w' g none := by
 have hu55 := Tryz.underlying55
 have HI0 := Aside0.mk hI
 have HK := Aside0.mk (KeepBut.refl w g none)
 have HL := Aside0.mk hB.size
 clear hI
 have HW0 := Aside0.mk hB.size
 have HB := Aside0.mk hB
 clear hB
 have H : ((spec_l1Cur_one.f s0_0 s0_1 s0_2 24).bind fun fo => (if fo.1 = true then (spec_l1Cur_sheet.l0 k ([] : List (S55)) s0_0 fo.2.1 fo.2.2) else ((spec_l1Cur_pick.f s0_0 fo.2.1 fo.2.2 9).bind fun jA => (spec_l1Cur_sheet.l1 k ([] : List (S55)) jA.1 0 s0_0 jA.2.1 jA.2.2)))) = some (r1, r2, r3) := h
 clear h
 obtain ⟨⟨t228, vk, vl⟩, A2, H⟩ := bd_ H
 (try dsimp only at H)
 by_cases c3 : t228 = true
 ·subst c3
  rw [if_pos rfl] at H
  have H' := Aside0.mk H
  clear H
  go_enter Tryz.func51, Tryz.ntmps51
  go_wp2_with ((with_reducible refine gate_callee (f := 42) rfl ?_); refine gl_ 10 Tryz.func42 #[.pointer (some ⟨g, 0, none⟩), .int .i64 24] ?_; (with_reducible refine (spec_l1Cur_one.calls g s0_0 s0_1 s0_2 24 true vk vl w0 _ ?_ ?_ A2.out).mono ?_); exact (Z4 HI0); exact Z6; rintro e w4 ⟨rfl, hi, hb, hk⟩; refine ⟨_, rfl, ?_⟩; refine k3_ (KeepBut.trans (Z5) hk (.inl rfl)) (hb) (hi) ?_; clear HK HB HI0; intro HK HB HI0; (try clear hb hk hi))
  (try simp only [Act.put, List.setIfInBounds_toArray, List.set_cons_zero, List.set_cons_succ])
  go_loopg [3] k (fun kq v3 w' => ∃ (bn : List (S55)) (aX : Int) (aY : Int), Aside0 (spec_l1Cur_sheet.l0 kq bn s0_0 aX aY = some (r1, r2, r3)) ∧ Aside0 (kq ≤ k) ∧ Aside0 (Kd.R k55 55 w' w.heap.size (fun _ => True) v3 bn) ∧ Aside0 (IsS49 w0 w' g s0_0 aX aY) ∧ Aside0 (KeepBut w w' g none) ∧ Aside0 (Below w0.heap.size w0 w'))
  case atStart => exact ⟨(([] : List (S55))), (vk), (vl), H', ⟨Nat.le_refl _⟩, ⟨Z15⟩, ⟨Z4 HI0⟩, ⟨Z5⟩, ⟨Z6⟩⟩
  case round =>
   clear H'
   (try clear c3)
   obtain ⟨bn, aX, aY, HA, HK1, bN, HI0, HK, HB⟩ := hrel
   cases gk with
   | zero => exact absurd HA.out (by simp [spec_l1Cur_sheet.l0])
   | succ k1 =>
    have H := HA.out
    clear HA
    simp only [spec_l1Cur_sheet.l0] at H
    by_cases c5 : (bn.length : Int) < 60
    ·rw [if_pos c5] at H
     have ci : decide ((bn.length : Int) < 60) = true := decide_eq_true c5
     have uz : decide (bn.length < 60) = true := decide_eq_true (by omega)
     clear c5
     obtain ⟨⟨dS, zt, zu⟩, A6, H⟩ := bd_ H
     (try dsimp only at H)
     by_cases c7 : bn.length < 5864062014805
     case neg => rw [if_neg c7] at H; exact absurd H (by simp)
     rw [if_pos c7] at H
     have LMc7 := Aside0.mk c7
     clear c7
     obtain ⟨B0, n3⟩ : ∃ y_ : List (S55), y_ = (bn ++ [(⟨3 * ((bn.length : Int) % 5), wrap64 (6 * (wrap64 ((bn.length : Int) / 5))), wrap64 ((wrap64 ((wrap64 (6 * (wrap64 ((bn.length : Int) / 5)))) + 1)) + dS)⟩ : S55)]) := ⟨_, rfl⟩
     replace H : (spec_l1Cur_sheet.l0 k1 B0 s0_0 zt zu) = some (r1, r2, r3) := by first | (rw [n3]; with_reducible exact H) | (have H2_ := (Option.bind_some _ _).symm.trans H; rw [n3]; with_reducible exact H2_) | (have H2_ := (Option.bind_some _ _).symm.trans H; with_reducible exact H2_) | with_reducible exact H | (rw [n3]; exact H) | exact H
     have Ny234 := Aside0.mk n3
     clear n3
     have H' := Aside0.mk H
     clear H
     obtain ⟨sn, so, AN⟩ := Kd.R_slice bN.out
     subst AN
     go_wp2_with (first | ((with_reducible refine gate_callee (f := 52) rfl ?_); refine gl_ 27 Tryz.func52 #[.pointer (some ⟨g, 0, none⟩), .int .i64 5] ?_; (with_reducible refine (spec_l1Cur_pick.calls g s0_0 aX aY 5 dS zt zu w0 _ ?_ ?_ A6.out).mono ?_); exact (Z4 HI0); exact Z6; rintro e w9 ⟨rfl, hi, hb, hk⟩; refine ⟨_, rfl, ?_⟩; refine k4_ (Kd.R_mono (Kd.R_keep (IsS49.apart (show IsS49 w0 _ g s0_0 aX aY from Z4 HI0) (Z3 bN) (by decide)) hk (fun _ h => h.2)) (fun _ h => h.1)) (KeepBut.trans (Z5) hk (.inl rfl)) (hb) (hi) ?_; clear bN HK HB HI0; intro bN HK HB HI0; (try clear hb hk hi)) | ((with_reducible refine gate_builtin (b := .append) (xs := #[.tmp 18, .tmp 30]) rfl ?_); at_builtin; refine Kd.R_append k55 w.heap.size rfl (.tmp 18) (.tmp 30) 24 55 (.agg #[(.int .i64 0), (.int .i64 0), (.int .i64 0)]) 24 rfl Tryz.underlying24 info55 rfl (by decide) (by omega) (.slice sn bn.length so) bn (⟨3 * ((bn.length : Int) % 5), wrap64 (6 * (wrap64 ((bn.length : Int) / 5))), wrap64 ((wrap64 ((wrap64 (6 * (wrap64 ((bn.length : Int) / 5)))) + 1)) + dS)⟩ : S55) [.int .i64 (3 * ((bn.length : Int) % 5)), .int .i64 (wrap64 (6 * (wrap64 ((bn.length : Int) / 5)))), .int .i64 (wrap64 ((wrap64 ((wrap64 (6 * (wrap64 ((bn.length : Int) / 5)))) + 1)) + dS))] (fun _ => True) (fun _ => False) rfl rfl ?aP (fun _ hk => hk.elim) ?aF ?aO (Below.refl _ _) ?aS ?aL ?_; (case aP => exact k55_mkM _ _ _ (⟨3 * ((bn.length : Int) % 5), wrap64 (6 * (wrap64 ((bn.length : Int) / 5))), wrap64 ((wrap64 ((wrap64 (6 * (wrap64 ((bn.length : Int) / 5)))) + 1)) + dS)⟩ : S55)); (case aF => exact (fun _ _ => trivial)); (case aO => exact (Z3 bN)); (case aS => exact (keep_size (w := w) (g := g) (row := none) (Z5))); (case aL => exact Z83 LMc7); intro v235 pL ho hb hg hat; rw [← Ny234.out] at ho; refine k4_ (IsS49.grown (Z4 HI0) hg (IsS49.own_ne HI0.out bN.out (by decide))) (below_weaken (Z6) HL.out hb) (KeepBut.trans (Z5) (KeepBut.of_grown hg g) (Kd.R_base2 bN.out)) (ho) ?_; clear HI0 HB HK bN; intro HI0 HB HK dW; clear ho hb hg hat))
     go_roundg k1
     case measure => have := HK1.out; omega
     case rel => exact ⟨(B0), (zt), (zu), H', ⟨Z83 HK1⟩, ⟨Z3 dW⟩, ⟨Z4 HI0⟩, ⟨Z5⟩, ⟨Z6⟩⟩
    rw [if_neg c5] at H
    have ci : decide ((bn.length : Int) < 60) = false := decide_eq_false c5
    have uz : decide (bn.length < 60) = false := decide_eq_false (by omega)
    clear c5
    simp only [Option.some.injEq, Prod.mk.injEq] at H
    obtain ⟨rfl, rfl, rfl⟩ := H
    obtain ⟨o4, o5, lx⟩ := Kd.R_slice bN.out
    subst lx
    go_wp2
    go_ret
    exact ⟨_, Z9, Z3 bN, Z4 HI0, Z6, Z5⟩
 replace c3 := Bool.eq_false_iff.mpr c3
 subst c3
 rw [if_neg (show ¬ (false = true) by decide)] at H
 obtain ⟨⟨hU, B2, B3⟩, vU, H⟩ := bd_ H
 (try dsimp only at H)
 have H' := Aside0.mk H
 clear H
 go_enter Tryz.func51, Tryz.ntmps51
 go_wp2_with (first | ((with_reducible refine gate_callee (f := 42) rfl ?_); refine gl_ 10 Tryz.func42 #[.pointer (some ⟨g, 0, none⟩), .int .i64 24] ?_; (with_reducible refine (spec_l1Cur_one.calls g s0_0 s0_1 s0_2 24 false vk vl w0 _ ?_ ?_ A2.out).mono ?_); exact (Z4 HI0); exact Z6; rintro e pQ ⟨rfl, hi, hb, hk⟩; refine ⟨_, rfl, ?_⟩; refine k3_ (KeepBut.trans (Z5) hk (.inl rfl)) (hb) (hi) ?_; clear HK HB HI0; intro HK HB HI0; (try clear hb hk hi)) | ((with_reducible refine gate_callee (f := 52) rfl ?_); refine gl_ 34 Tryz.func52 #[.pointer (some ⟨g, 0, none⟩), .int .i64 9] ?_; (with_reducible refine (spec_l1Cur_pick.calls g s0_0 vk vl 9 hU B2 B3 w0 _ ?_ ?_ vU.out).mono ?_); exact (Z4 HI0); exact Z6; rintro e ze ⟨rfl, hi, hb, hk⟩; refine ⟨_, rfl, ?_⟩; refine k3_ (KeepBut.trans (Z5) hk (.inl rfl)) (hb) (hi) ?_; clear HK HB HI0; intro HK HB HI0; (try clear hb hk hi)))
 (try simp only [Act.put, List.setIfInBounds_toArray, List.set_cons_zero, List.set_cons_succ])
 go_loopg [3, 6] k (fun kq v3 v6 w' => ∃ (bn : List (S55)) (po : Int) (aX : Int) (aY : Int), v6 = .int .i64 po ∧ Aside0 (spec_l1Cur_sheet.l1 kq bn hU po s0_0 aX aY = some (r1, r2, r3)) ∧ Aside0 (kq ≤ k) ∧ Aside0 (Kd.R k55 55 w' w.heap.size (fun _ => True) v3 bn) ∧ Aside0 (IsS49 w0 w' g s0_0 aX aY) ∧ Aside0 (KeepBut w w' g none) ∧ Aside0 (Below w0.heap.size w0 w'))
 case atStart => exact ⟨(([] : List (S55))), (0), (B2), (B3), (Z11), H', ⟨Nat.le_refl _⟩, ⟨Z15⟩, ⟨Z4 HI0⟩, ⟨Z5⟩, ⟨Z6⟩⟩
 case round =>
  clear H'
  (try clear c3)
  obtain ⟨bn, po, aX, aY, rfl, HA, HK1, bN, HI0, HK, HB⟩ := hrel
  cases gk with
  | zero => exact absurd HA.out (by simp [spec_l1Cur_sheet.l1])
  | succ k1 =>
   have H := HA.out
   clear HA
   simp only [spec_l1Cur_sheet.l1] at H
   have HC15 := Aside0.mk H
   clear H
   go_upto_region 9 with (fail)
   go_cut [42] (fun Cu wc => ∃ (kq : Nat) (lQ : Bool), Cu = .bool lQ ∧ Aside0 (spec_l1Cur_sheet.j2 kq bn hU po lQ s0_0 aX aY = some (r1, r2, r3)) ∧ Aside0 (kq ≤ k1) ∧ Aside0 (Kd.R k55 55 wc w.heap.size (fun _ => True) u3 bn) ∧ Aside0 (IsS49 w0 wc g s0_0 aX aY) ∧ Aside0 (KeepBut w wc g none) ∧ Aside0 (Below w0.heap.size w0 wc))
   case first =>
    have H := HC15.out
    clear HC15
    by_cases c16 : (bn.length : Int) < hU
    ·rw [if_pos c16] at H
     have e6 : decide ((bn.length : Int) < hU) = true := decide_eq_true c16
     clear c16
     (first | rw [e6] | (simp only [i64_w, i32_w]; rw [e6]) | skip)
     have H' := Aside0.mk H
     clear H
     obtain ⟨AL, AM, yx⟩ := Kd.R_slice bN.out
     subst yx
     go_wp2
     go_meet
     case rel => exact ⟨_, (decide (po < 60)), (Z11), H', ⟨Z60 HK1⟩, ⟨Z3 bN⟩, ⟨Z4 HI0⟩, ⟨Z5⟩, ⟨Z6⟩⟩
    rw [if_neg c16] at H
    have e6 : decide ((bn.length : Int) < hU) = false := decide_eq_false c16
    clear c16
    (first | rw [e6] | (simp only [i64_w, i32_w]; rw [e6]) | skip)
    have H' := Aside0.mk H
    clear H
    obtain ⟨BX, BZ, zr⟩ := Kd.R_slice bN.out
    subst zr
    go_wp2
    go_meet
    case rel => exact ⟨_, (false), (Z11), H', ⟨Z60 HK1⟩, ⟨Z3 bN⟩, ⟨Z4 HI0⟩, ⟨Z5⟩, ⟨Z6⟩⟩
   case rest =>
    clear HC15
    obtain ⟨kq, lQ, rfl, HA, vm, bN, HI0, HK, HB⟩ := hcut
    cases kq with
    | zero => exact absurd HA.out (by simp [spec_l1Cur_sheet.j2])
    | succ vn =>
     have H := HA.out
     clear HA
     simp only [spec_l1Cur_sheet.j2] at H
     by_cases c19 : lQ = true
     ·subst c19
      rw [if_pos rfl] at H
      obtain ⟨⟨re, rf, rg, vo, vp⟩, cj, H⟩ := bd_ H
      (try dsimp only at H)
      obtain ⟨⟨zv, t248⟩, yc, H⟩ := bd_ H
      (try dsimp only at H)
      by_cases c22 : t248 = true
      ·subst c22
       rw [if_pos rfl] at H
       have H' := Aside0.mk H
       clear H
       go_wp2_with (first | ((with_reducible refine gate_callee (f := 70) rfl ?_); refine gl_ 48 Tryz.func70 #[.pointer (some ⟨g, 0, none⟩)] ?_; (with_reducible refine (spec_l1Cur_hole.calls g s0_0 aX aY re rf rg vo vp w0 _ ?_ ?_ cj.out).mono ?_); exact (Z4 HI0); exact Z6; rintro e mm ⟨rfl, hi, hb, hk⟩; refine ⟨_, rfl, ?_⟩; refine k4_ (Kd.R_mono (Kd.R_keep (IsS49.apart (show IsS49 w0 _ g s0_0 aX aY from Z4 HI0) (Z3 bN) (by decide)) hk (fun _ h => h.2)) (fun _ h => h.1)) (KeepBut.trans (Z5) hk (.inl rfl)) (hb) (hi) ?_; clear bN HK HB HI0; intro bN HK HB HI0; (try clear hb hk hi); obtain ⟨Ao24, co24, eo24⟩ := Kd.R_slice bN.out; subst eo24) | ((with_reducible refine gate_callee (f := 69) rfl ?_); refine gl_ 49 Tryz.func69 #[.slice Ao24 bn.length co24, .agg #[.int .i64 re, .int .i64 rf, .int .i64 rg]] ?_; (with_reducible refine (spec_shWith.calls vn _ _ bn re rf rg zv true _ ?_ ?_ yc.out).mono ?_); exact (Z1 bN); exact (Kd.R_reads' bN.out).2.1; rintro e Cp ⟨v246, rfl, ho0, hb⟩; refine ⟨_, rfl, ?_⟩; refine k5_ (Yb_ bN) (Kd.R_lower (Kd.R_new' ho0 (Yd_ bN)) (keep_size (w := w) (g := g) (row := none) (Z5))) (IsS49.below (Z4 HI0) hb) (KeepBut.trans (Z5) (KeepBut.of_below hb g none) (.inl rfl)) (below_step (Z6) hb) ?_; clear bN HI0 HK HB; intro bN xB HI0 HK HB; (try clear hb ho0)))
       go_roundg vn
       case measure => have := HK1.out; have := vm.out; omega
       case rel => exact ⟨(zv), (wrap64 (po + 1)), (vo), (vp), (Z11), H', ⟨by have := HK1.out; have := vm.out; omega⟩, ⟨Z25 xB⟩, ⟨Z4 HI0⟩, ⟨Z5⟩, ⟨Z6⟩⟩
      replace c22 := Bool.eq_false_iff.mpr c22
      subst c22
      rw [if_neg (show ¬ (false = true) by decide)] at H
      have H' := Aside0.mk H
      clear H
      go_wp2_with (first | ((with_reducible refine gate_callee (f := 70) rfl ?_); refine gl_ 48 Tryz.func70 #[.pointer (some ⟨g, 0, none⟩)] ?_; (with_reducible refine (spec_l1Cur_hole.calls g s0_0 aX aY re rf rg vo vp w0 _ ?_ ?_ cj.out).mono ?_); exact (Z4 HI0); exact Z6; rintro e zP ⟨rfl, hi, hb, hk⟩; refine ⟨_, rfl, ?_⟩; refine k4_ (Kd.R_mono (Kd.R_keep (IsS49.apart (show IsS49 w0 _ g s0_0 aX aY from Z4 HI0) (Z3 bN) (by decide)) hk (fun _ h => h.2)) (fun _ h => h.1)) (KeepBut.trans (Z5) hk (.inl rfl)) (hb) (hi) ?_; clear bN HK HB HI0; intro bN HK HB HI0; (try clear hb hk hi); obtain ⟨Bm, Bn, yV⟩ := Kd.R_slice bN.out; subst yV) | ((with_reducible refine gate_callee (f := 69) rfl ?_); refine gl_ 49 Tryz.func69 #[.slice Bm bn.length Bn, .agg #[.int .i64 re, .int .i64 rf, .int .i64 rg]] ?_; (with_reducible refine (spec_shWith.calls vn _ _ bn re rf rg zv false _ ?_ ?_ yc.out).mono ?_); exact (Z1 bN); exact (Kd.R_reads' bN.out).2.1; rintro e vV ⟨v246, rfl, ho0, hb⟩; refine ⟨_, rfl, ?_⟩; refine k5_ (Yb_ bN) (Kd.R_lower (Kd.R_new' ho0 (Yd_ bN)) (keep_size (w := w) (g := g) (row := none) (Z5))) (IsS49.below (Z4 HI0) hb) (KeepBut.trans (Z5) (KeepBut.of_below hb g none) (.inl rfl)) (below_step (Z6) hb) ?_; clear bN HI0 HK HB; intro bN xB HI0 HK HB; (try clear hb ho0)))
      go_roundg vn
      case measure => have := HK1.out; have := vm.out; omega
      case rel => exact ⟨(bn), (wrap64 (po + 1)), (vo), (vp), (Z11), H', ⟨by have := HK1.out; have := vm.out; omega⟩, ⟨Z25 bN⟩, ⟨Z4 HI0⟩, ⟨Z5⟩, ⟨Z6⟩⟩
     replace c19 := Bool.eq_false_iff.mpr c19
     subst c19
     rw [if_neg (show ¬ (false = true) by decide)] at H
     simp only [Option.some.injEq, Prod.mk.injEq] at H
     obtain ⟨rfl, rfl, rfl⟩ := H
     go_wp2
     go_ret
     exact ⟨_, Z9, Z3 bN, Z4 HI0, Z6, Z5⟩

end Go.Proofs.YtcpbncljimmkfaaGreatDoor.PFnScans
