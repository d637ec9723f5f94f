-- written by a program of this session: the kit's print, with outer functions of the session's own (wip/ext)
import Derived.Test.YtflefblmaopaiaaPFnStopsx0
import Derived.Test.YtflefblmaopaiaaPFnStopsx2
import Derived.Test.YtflefblmaopaiaaPFnStopsx10
import Derived.Test.YtflefblmaopaiaaPFnStopsx11
import Derived.Test.YtflefblmaopaiaaPFnStopsx12
import Derived.Test.YtflefblmaopaiaaPFnStopsx14
namespace Go.Proofs.Ytflefblmaopaiaa.PFnStops
open Go.RowKit Go.Proofs.YtflefblmaopaiaaW.PrintWords Go.Proofs.YtflefblmaopaiaaW.PrintLast Go.Proofs.YtflefblmaopaiaaW.PrintMore
attribute [local go_sem] max2_int min2_int max_two min_two max_three min_three max_four min_four   -- for this text's walks alone
set_option linter.unusedVariables false
set_option linter.unusedSimpArgs false
theorem mo15_ {p : Prop} (h : p := by repeat' first | (with_reducible first | apply ih0 | apply ih0 | apply impl_IsPunchJob.mono | apply impl_IsPunchJob.mono | apply impl_jobStrokes.mono | apply impl_jobStrokes.mono | apply spec_jbStrokes.mono | apply spec_jbStrokes.mono | exact LeO.refl _ | exact LeO.none _ | refine LeO.ite ?_ ?_ | refine LeO.bind ?_ (fun _ => ?_)) | exact LeO.none _ | refine LeO.ite ?_ ?_ | refine LeO.bind ?_ (fun _ => ?_)) : p := h

/-! ### impl_ResumeAt: function 18 -/
def impl_ResumeAt.f (k : Nat) (l0_0 : List (S64)) (a0_1 : Int) (a1 : Int) : Option ((List (S64)) × Int × Int × Bool) := (impl_IsPunchJob.f k l0_0 a0_1).bind fun t640 => (if t640 = true then ((impl_isMark.f a1).bind fun t641 => (if t641 = true then (if a1 = 0 then (none) else ((impl_jobAt.f l0_0 (wrap64 (a0_1 - (Int.tmod a0_1 a1)))).bind fun bt642 => (some (bt642.1, bt642.2, Int.tmod a0_1 a1, true)))) else (some (([] : List (S64)), 0, 0, false)))) else (some (([] : List (S64)), 0, 0, false)))
theorem impl_ResumeAt.mono : ∀ a0 a1 a2 k, LeO (impl_ResumeAt.f k a0 a1 a2) (impl_ResumeAt.f (k + 1) a0 a1 a2) := by
 intro a0 a1 a2 k
 unfold impl_ResumeAt.f
 exact mo15_
def impl_ResumeAt.T3 : Bool × List (List Nat × List Nat) := (true, [([], []), ([0], [0]), ([], []), ([2], [2]), ([], []), ([4], [4]), ([], []), ([5, 6], [5, 6]), ([3, 7], [3, 7]), ([1, 8], [1, 8]), ([], []), ([10], [10]), ([], []), ([11, 12], [11, 12]), ([9, 9, 0, 1, 2, 3, 4, 5, 6, 7, 8, 9], [9]), ([13, 14, 0, 1, 2, 3, 4, 5, 6, 7, 8, 9, 10, 11, 12, 13, 14], [13]), ([15, 0, 1, 2, 3, 4, 5, 6, 7, 8, 9, 10, 11, 12, 13, 14, 15], [])])
def impl_ResumeAt.B3 : List Nat := [0, 1, 0, 4, 0, 16, 0, 112, 252, 511, 0, 1024, 0, 7168, 1023, 32767, 65535]
theorem impl_ResumeAt.tab3 : rtab .any (opsOf Try.f18 3) = impl_ResumeAt.T3 := by kernel_rfl
theorem impl_ResumeAt.bits3 : waitsOk impl_ResumeAt.T3.2 impl_ResumeAt.B3 = true := by kernel_rfl
set_option maxHeartbeats 8000000 in
set_option maxRecDepth 100000 in
theorem impl_ResumeAt.calls (k : Nat) (A0_0 : Option Addr) (c0_0 : Nat) (l0_0 : List (S64)) (a0_1 : Int) (a1 : Int) (r1 : List (S64)) (r2 : Int) (r3 : Int) (r4 : Bool) (w : World) (hr0_0 : Kd.C k64 w A0_0 l0_0.length l0_0) (hc0_0 : l0_0.length ≤ c0_0) (h : impl_ResumeAt.f k l0_0 a0_1 a1 = some (r1, r2, r3, r4)) :
  Calls Try.prog 18 #[.agg #[.slice A0_0 l0_0.length c0_0, .int .i64 a0_1], .int .i64 a1] w fun e w' => ∃ v0_ : Value, e = .returned (.tuple #[.agg #[v0_, .int .i64 r2], .int .i64 r3, .bool r4]) ∧ Kd.R k64 64 w' w.heap.size (fun _ => True) v0_ r1 ∧ Below w.heap.size w w' := by
 have hu28 := Try.underlying28
 have HR0_0 := Aside0.mk hr0_0
 have HC0_0 := Aside0.mk hc0_0
 clear hr0_0 hc0_0
 have HB := Aside0.mk (Below.refl w.heap.size w)
 have H : ((impl_IsPunchJob.f k l0_0 a0_1).bind fun t640 => (if t640 = true then ((impl_isMark.f a1).bind fun t641 => (if t641 = true then (if a1 = 0 then (none) else ((impl_jobAt.f l0_0 (wrap64 (a0_1 - (Int.tmod a0_1 a1)))).bind fun bt642 => (some (bt642.1, bt642.2, Int.tmod a0_1 a1, true)))) else (some (([] : List (S64)), 0, 0, false)))) else (some (([] : List (S64)), 0, 0, false)))) = some (r1, r2, r3, r4) := h
 clear h
 replace H := Option.bind_eq_some_iff.mp H
 obtain ⟨t640, A30, H⟩ := H
 (try dsimp only at H)
 have A3 := Aside0.mk A30
 clear A30
 by_cases c4 : t640 = true
 ·subst c4
  rw [if_pos rfl] at H
  replace H := Option.bind_eq_some_iff.mp H
  obtain ⟨t641, A50, H⟩ := H
  (try dsimp only at H)
  have A5 := Aside0.mk A50
  clear A50
  by_cases c6 : t641 = true
  ·subst c6
   rw [if_pos rfl] at H
   by_cases c7 : a1 = 0
   ·rw [if_pos c7] at H
    exact absurd H (by simp)
   rw [if_neg c7] at H
   have c7b0 : (a1 == 0) = false := beq_eq_false_iff_ne.mpr c7
   have c7b1 : (a1 != 0) = true := bne_iff_ne.mpr c7
   replace H := Option.bind_eq_some_iff.mp H
   obtain ⟨⟨t642, t645⟩, A80, H⟩ := H
   (try dsimp only at H)
   have A8 := Aside0.mk A80
   clear A80
   simp only [Option.some.injEq, Prod.mk.injEq] at H
   obtain ⟨rfl, rfl, rfl, rfl⟩ := H
   go_enter Try.func18, Try.ntmps18
   try go_wp2_with (first | ((with_reducible refine gate_dst (N := 2) rfl ?_); refine bv_ 2 28 #[.slice A0_0 l0_0.length c0_0, .int .i64 a0_1] ?_; intro gb638 hg w9 hbox hb; refine k4_ (below_step (Z3) hb) (hbox) ((Z26 : w.heap.size ≤ gb638)) ((Z26 : w.heap.size ≤ gb638)) ?_; clear HB; intro HB BK638 GW638 GE638; clear hb hbox hg) | ((with_reducible refine gate_dst (N := 4) rfl ?_); refine bv_ 4 28 #[.slice none 0 0, .int .i64 0] ?_; intro gb639 hg w10 hbox hb; refine k7_ (blk_below (g := gb638) (o := .cells #[.slice A0_0 l0_0.length c0_0, .int .i64 a0_1] 28 (0, 0)) (Z2 BK638.out) hb) (below_step (Z98) hb) (hbox) ((Z191 : w.heap.size ≤ gb639)) ((Z191 : w.heap.size ≤ gb639)) ((Z171 : gb638 ≠ gb639)) ((Z172 : gb639 ≠ gb638)) ?_; clear BK638 HB; intro BK638 HB BK639 GW639 GE639 NB638_639 NB639_638; clear hb hbox hg; have hnb11 := NB638_639.out; have hnc11 := NB639_638.out; obtain ⟨hcz12_0, hcz12_1, hfz12_0, hfz12_1⟩ := bx2_ (w := w10) BK638.out) | ((with_reducible refine gate_callee (f := 41) rfl ?_); refine gl_ 8 Try.func41 #[.agg #[.slice A0_0 l0_0.length c0_0, .int .i64 a0_1]] ?_; (with_reducible refine (impl_IsPunchJob.calls k _ _ l0_0 a0_1 true _ ?_ ?_ A3.out).mono ?_); exact Z10 HR0_0.out; exact HC0_0.out; rintro e w13 ⟨rfl, hb⟩; refine ⟨_, rfl, ?_⟩; refine k3_ (blk_below (g := gb638) (o := .cells #[.slice A0_0 l0_0.length c0_0, .int .i64 a0_1] 28 (0, 0)) (Z2 BK638.out) hb) (blk_below (g := gb639) (o := .cells #[.slice none 0 0, .int .i64 0] 28 (0, 0)) (Z2 BK639.out) hb) (below_step (Z82) hb) ?_; clear BK638 BK639 HB; intro BK638 BK639 HB; (try clear hb)) | (go_at_call 28; (with_reducible refine (impl_isMark.calls a1 true _ A5.out).mono ?_); rintro e w' ⟨rfl, ⟨nd, rfl⟩⟩; (try (rw [drewN_self w13]; generalize hq_ : World.drewN w13 _ = w13; have n0_ : Aside0 (w13.heap[gb638]? = some (.cells #[.slice A0_0 l0_0.length c0_0, .int .i64 a0_1] 28 (0, 0))) := ⟨Z216 BK638.out⟩; have n1_ : Aside0 (w13.heap[gb639]? = some (.cells #[.slice none 0 0, .int .i64 0] 28 (0, 0))) := ⟨Z216 BK639.out⟩; have n2_ : Aside0 (Below w.heap.size w w13) := ⟨by rw [← hq_]; exact Z82⟩; clear BK638 BK639 HB hq_; have BK638 := n0_; have BK639 := n1_; have HB := n2_; clear n0_ n1_ n2_))))
   refine k3_ (blk_drew BK638.out) (blk_drew BK639.out) (below_drew1 HB.out) ?_
   clear BK638 BK639 HB
   intro BK638 BK639 HB
   refine start_ (n := 17) (S := fun w' => w'.cell? ⟨gb638, 0, none⟩ = some (.slice A0_0 l0_0.length c0_0) ∧ w'.cell? ⟨gb638, 1, none⟩ = some (.int .i64 a0_1)) (ds := []) (M_ 0 17) (by kernel_rfl) rfl rfl ⟨(blk_cell BK638.out 0).trans rfl, (blk_cell BK638.out 1).trans rfl⟩ (fun hHeld => ?_); refine with_tabW impl_ResumeAt.tab3 impl_ResumeAt.bits3 (fun HT_ HW_ => ?_)
   generalize w13.drew = w14 at BK638 BK639 HB hHeld ⊢
   refine pu_ 0 16 (M_ 1 16) ?_
   refine pu_ 2 18 (N_ 17 5) ?_
   refine pu_ 4 20 (N_ 17 21) ?_
   refine pu_ 6 22 (N_ 17 85) ?_
   refine pu_ 10 26 (N_ 17 1109) ?_
   refine pu_ 12 28 (N_ 17 5205) ?_
   refine tk2_ 1 17 (N_ 17 5207) hHeld ?_
   refine tk2_ 3 19 (N_ 17 5215) hHeld ?_
   refine tk2_ 5 21 (N_ 17 5247) hHeld ?_
   refine pu_ 7 23 (N_ 17 5375) ?_
   refine pu_ 8 24 (N_ 17 5631) ?_
   refine tk2_ 11 27 (N_ 17 7679) hHeld ?_
   refine pu_ 13 29 (N_ 17 15871) ?_
   refine one_ (i := 9) (N := some 25) (M_ 14 3) rfl rfl (one_of HT_.out (by kernel_rfl)) (by decide) (fun K hK => ?_)
   refine goes_ Try.func29 (by kernel_rfl) rfl #[.slice A0_0 l0_0.length c0_0, .int .i64 (wrap64 (a0_1 - (Int.tmod a0_1 a1)))] (by rfl) rfl rfl (Z84) ?_
   with_reducible refine (impl_jobAt.calls _ _ l0_0 (wrap64 (a0_1 - (Int.tmod a0_1 a1))) t642 t645 _ ?side1 ?side2 A8.out).mono ?_
   (case side1 => exact Z10 HR0_0.out)
   (case side2 => exact HC0_0.out)
   rintro e w15 ⟨v643, rfl, ho0, hb⟩
   refine ⟨_, rfl, ?_⟩
   refine k4_ (Kd.R_lower ho0 (below_size (Z82))) (blk_below (g := gb638) (o := .cells #[.slice A0_0 l0_0.length c0_0, .int .i64 a0_1] 28 (0, 0)) (Z2 BK638.out) hb) (blk_below (g := gb639) (o := .cells #[.slice none 0 0, .int .i64 0] 28 (0, 0)) (Z2 BK639.out) hb) (below_step (Z82) hb) ?_
   clear BK638 BK639 HB
   intro HO644 BK638 BK639 HB
   (try clear hb)
   (try clear hb2)
   (try clear hk)
   (try clear hi)
   (try clear ho0)
   obtain ⟨Ao16, co16, eo16⟩ := Kd.R_slice HO644.out
   (first | subst eo16 | (injection eo16 with f1_ f2_ f3_; have f4_ := f1_.symm; have f5_ := f3_.symm; clear f1_ f2_ f3_; subst f4_; subst f5_))
   refine hK.out _ _ ⟨(blk_cell BK638.out 0).trans rfl, (blk_cell BK638.out 1).trans rfl⟩ (fun hHeld => ?_)
   clear hK K
   refine norm_ (a' := ?_) ?_ ?_
   rotate_left
   ·show Act.put _ (some 25) _ = _
    simp only [Act.put, List.setIfInBounds_toArray, List.set_cons_zero, List.set_cons_succ, i64_w, i32_w]
    rfl
   refine one_ (i := 14) (N := none) (M_ 15 2) rfl rfl (one_of HT_.out (by kernel_rfl)) (by decide) (fun K hK => ?_)
   have hs17 : w15.cell? ⟨gb639, 0, none⟩ = some (.slice none 0 0) := (blk_cell BK639.out 0).trans rfl
   have hfs17 := blk_frozen BK639.out 0
   have hns17_0 := NB638_639.out
   have hms17_0 := NB639_638.out
   have hs18 : w15.cell? ⟨gb639, 1, none⟩ = some (.int .i64 0) := (blk_cell BK639.out 1).trans rfl
   have hfs18 := blk_frozen BK639.out 1
   have hns18_0 := NB638_639.out
   have hms18_0 := NB639_638.out
   refine skip_ (w1 := ?_) (by rfl) rfl ?_ ?_
   rotate_left
   ·go_simp
    rfl
   refine hK.out _ _ ⟨((cell_far (p := ⟨gb639, _, none⟩) NB638_639.out _).trans (((cell_far (p := ⟨gb639, _, none⟩) NB638_639.out _).trans (hHeld.1)))), ((cell_far (p := ⟨gb639, _, none⟩) NB638_639.out _).trans (((cell_far (p := ⟨gb639, _, none⟩) NB638_639.out _).trans (hHeld.2))))⟩ (fun hHeld => ?_)
   clear hK K
   refine pu_ 15 5 (M_ 16 1) ?_
   refine pu_ 16 6 (M_ 17 0) ?_
   refine done_ (done_of HT_.out (by kernel_rfl)) ?_
   try go_wp2
   refine bodyPost_ret (results_ctt rfl _ _ gb639 28 #[.slice Ao16 t642.length co16, .int .i64 t645] (0, 0) _ rfl (by (with_reducible repeat (first | refine blk_drewN ?_ _ | refine blk_drew ?_ | refine blk_alloc ?_ _)); refine blk_put (cs := #[.slice Ao16 t642.length co16, .int .i64 0]) ?_ 1 _ rfl; (with_reducible repeat (first | refine blk_drewN ?_ _ | refine blk_drew ?_ | refine blk_alloc ?_ _)); refine blk_put (cs := #[.slice none 0 0, .int .i64 0]) ?_ 0 _ rfl; (with_reducible repeat (first | refine blk_drewN ?_ _ | refine blk_drew ?_ | refine blk_alloc ?_ _)); exact BK639.out) Try.underlying28 rfl (by kernel_rfl)) rfl ?_
   exact ⟨_, Z11, by (with_reducible repeat (first | apply Kd.R_alloc | apply Kd.R_drewN | apply Kd.R_drew)); exact Kd.R_mono (Kd.R_far (p := ⟨gb639, 1, none⟩) (Kd.R_far (p := ⟨gb639, 0, none⟩) (Kd.R_types HO644.out BK639.out (by decide)) (fun _ hk => hk.2) (.slice Ao16 t642.length co16)) (fun _ hk => hk.2) (.int .i64 t645)) (fun _ hk => trivial), Z82⟩
  replace c6 := Bool.eq_false_iff.mpr c6
  subst c6
  rw [if_neg (show ¬ (false = true) by decide)] at H
  simp only [Option.some.injEq, Prod.mk.injEq] at H
  obtain ⟨rfl, rfl, rfl, rfl⟩ := H
  go_enter Try.func18, Try.ntmps18
  go_wp2_with (first | ((with_reducible refine gate_dst (N := 2) rfl ?_); refine bv_ 2 28 #[.slice A0_0 l0_0.length c0_0, .int .i64 a0_1] ?_; intro gb638 hg w19 hbox hb; refine k4_ (below_step (Z3) hb) (hbox) ((Z26 : w.heap.size ≤ gb638)) ((Z26 : w.heap.size ≤ gb638)) ?_; clear HB; intro HB BK638 GW638 GE638; clear hb hbox hg) | ((with_reducible refine gate_dst (N := 4) rfl ?_); refine bv_ 4 28 #[.slice none 0 0, .int .i64 0] ?_; intro gb639 hg w20 hbox hb; refine k7_ (blk_below (g := gb638) (o := .cells #[.slice A0_0 l0_0.length c0_0, .int .i64 a0_1] 28 (0, 0)) (Z2 BK638.out) hb) (below_step (Z98) hb) (hbox) ((Z191 : w.heap.size ≤ gb639)) ((Z191 : w.heap.size ≤ gb639)) ((Z171 : gb638 ≠ gb639)) ((Z172 : gb639 ≠ gb638)) ?_; clear BK638 HB; intro BK638 HB BK639 GW639 GE639 NB638_639 NB639_638; clear hb hbox hg; have hnb21 := NB638_639.out; have hnc21 := NB639_638.out; obtain ⟨hcz22_0, hcz22_1, hfz22_0, hfz22_1⟩ := bx2_ (w := w20) BK638.out) | ((with_reducible refine gate_callee (f := 41) rfl ?_); refine gl_ 8 Try.func41 #[.agg #[.slice A0_0 l0_0.length c0_0, .int .i64 a0_1]] ?_; (with_reducible refine (impl_IsPunchJob.calls k _ _ l0_0 a0_1 true _ ?_ ?_ A3.out).mono ?_); exact Z10 HR0_0.out; exact HC0_0.out; rintro e w23 ⟨rfl, hb⟩; refine ⟨_, rfl, ?_⟩; refine k3_ (blk_below (g := gb638) (o := .cells #[.slice A0_0 l0_0.length c0_0, .int .i64 a0_1] 28 (0, 0)) (Z2 BK638.out) hb) (blk_below (g := gb639) (o := .cells #[.slice none 0 0, .int .i64 0] 28 (0, 0)) (Z2 BK639.out) hb) (below_step (Z82) hb) ?_; clear BK638 BK639 HB; intro BK638 BK639 HB; (try clear hb)) | (go_at_call 28; (with_reducible refine (impl_isMark.calls a1 false _ A5.out).mono ?_); rintro e w' ⟨rfl, ⟨nd, rfl⟩⟩; (try (rw [drewN_self w23]; generalize hq_ : World.drewN w23 _ = w23; have n0_ : Aside0 (w23.heap[gb638]? = some (.cells #[.slice A0_0 l0_0.length c0_0, .int .i64 a0_1] 28 (0, 0))) := ⟨Z216 BK638.out⟩; have n1_ : Aside0 (w23.heap[gb639]? = some (.cells #[.slice none 0 0, .int .i64 0] 28 (0, 0))) := ⟨Z216 BK639.out⟩; have n2_ : Aside0 (Below w.heap.size w w23) := ⟨by rw [← hq_]; exact Z82⟩; clear BK638 BK639 HB hq_; have BK638 := n0_; have BK639 := n1_; have HB := n2_; clear n0_ n1_ n2_)); obtain ⟨hcz24_0, hcz24_1, hfz24_0, hfz24_1⟩ := bx2_ (w := w23) BK639.out))
  refine bodyPost_ret (results_ctt rfl _ _ gb639 28 #[.slice none 0 0, .int .i64 0] (0, 0) _ rfl (Z23 BK639.out) Try.underlying28 rfl (by kernel_rfl)) rfl ?_
  exact ⟨_, Z11, Z21, Z82⟩
 replace c4 := Bool.eq_false_iff.mpr c4
 subst c4
 rw [if_neg (show ¬ (false = true) by decide)] at H
 simp only [Option.some.injEq, Prod.mk.injEq] at H
 obtain ⟨rfl, rfl, rfl, rfl⟩ := H
 go_enter Try.func18, Try.ntmps18
 go_wp2_with (first | ((with_reducible refine gate_dst (N := 2) rfl ?_); refine bv_ 2 28 #[.slice A0_0 l0_0.length c0_0, .int .i64 a0_1] ?_; intro gb638 hg w25 hbox hb; refine k4_ (below_step (Z3) hb) (hbox) ((Z26 : w.heap.size ≤ gb638)) ((Z26 : w.heap.size ≤ gb638)) ?_; clear HB; intro HB BK638 GW638 GE638; clear hb hbox hg) | ((with_reducible refine gate_dst (N := 4) rfl ?_); refine bv_ 4 28 #[.slice none 0 0, .int .i64 0] ?_; intro gb639 hg w26 hbox hb; refine k7_ (blk_below (g := gb638) (o := .cells #[.slice A0_0 l0_0.length c0_0, .int .i64 a0_1] 28 (0, 0)) (Z2 BK638.out) hb) (below_step (Z98) hb) (hbox) ((Z191 : w.heap.size ≤ gb639)) ((Z191 : w.heap.size ≤ gb639)) ((Z171 : gb638 ≠ gb639)) ((Z172 : gb639 ≠ gb638)) ?_; clear BK638 HB; intro BK638 HB BK639 GW639 GE639 NB638_639 NB639_638; clear hb hbox hg; have hnb27 := NB638_639.out; have hnc27 := NB639_638.out; obtain ⟨hcz28_0, hcz28_1, hfz28_0, hfz28_1⟩ := bx2_ (w := w26) BK638.out) | ((with_reducible refine gate_callee (f := 41) rfl ?_); refine gl_ 8 Try.func41 #[.agg #[.slice A0_0 l0_0.length c0_0, .int .i64 a0_1]] ?_; (with_reducible refine (impl_IsPunchJob.calls k _ _ l0_0 a0_1 false _ ?_ ?_ A3.out).mono ?_); exact Z10 HR0_0.out; exact HC0_0.out; rintro e w29 ⟨rfl, hb⟩; refine ⟨_, rfl, ?_⟩; refine k3_ (blk_below (g := gb638) (o := .cells #[.slice A0_0 l0_0.length c0_0, .int .i64 a0_1] 28 (0, 0)) (Z2 BK638.out) hb) (blk_below (g := gb639) (o := .cells #[.slice none 0 0, .int .i64 0] 28 (0, 0)) (Z2 BK639.out) hb) (below_step (Z82) hb) ?_; clear BK638 BK639 HB; intro BK638 BK639 HB; (try clear hb); obtain ⟨hcz30_0, hcz30_1, hfz30_0, hfz30_1⟩ := bx2_ (w := w29) BK639.out))
 refine bodyPost_ret (results_ctt rfl _ _ gb639 28 #[.slice none 0 0, .int .i64 0] (0, 0) _ rfl (Z23 BK639.out) Try.underlying28 rfl (by kernel_rfl)) rfl ?_
 exact ⟨_, Z11, Z21, Z82⟩

/-! ### spec_ResumeAt: function 19 -/
def spec_ResumeAt.f (k : Nat) (l0_0 : List (S64)) (a0_1 : Int) (a1 : Int) : Option ((List (S64)) × Int × Int × Bool) := (spec_jbStrokes.f k l0_0 a0_1).bind fun bt648 => (if bt648.2 = true then ((spec_jbMark.f a1).bind fun t652 => (if t652 = true then (if a1 = 0 then (none) else ((spec_jbOwn.f l0_0 (wrap64 (a0_1 - (Int.tmod a0_1 a1)))).bind fun bt653 => (some (bt653.1, bt653.2, Int.tmod a0_1 a1, true)))) else (some (([] : List (S64)), 0, 0, false)))) else (some (([] : List (S64)), 0, 0, false)))
theorem spec_ResumeAt.mono : ∀ a0 a1 a2 k, LeO (spec_ResumeAt.f k a0 a1 a2) (spec_ResumeAt.f (k + 1) a0 a1 a2) := by
 intro a0 a1 a2 k
 unfold spec_ResumeAt.f
 exact mo15_
set_option maxHeartbeats 8000000 in
set_option maxRecDepth 100000 in
theorem spec_ResumeAt.calls (k : Nat) (A0_0 : Option Addr) (c0_0 : Nat) (l0_0 : List (S64)) (a0_1 : Int) (a1 : Int) (r1 : List (S64)) (r2 : Int) (r3 : Int) (r4 : Bool) (w : World) (hr0_0 : Kd.C k64 w A0_0 l0_0.length l0_0) (hc0_0 : l0_0.length ≤ c0_0) (h : spec_ResumeAt.f k l0_0 a0_1 a1 = some (r1, r2, r3, r4)) :
  Calls Try.prog 19 #[.agg #[.slice A0_0 l0_0.length c0_0, .int .i64 a0_1], .int .i64 a1] w fun e w' => ∃ v0_ : Value, e = .returned (.tuple #[.agg #[v0_, .int .i64 r2], .int .i64 r3, .bool r4]) ∧ Kd.R k64 64 w' w.heap.size (fun _ => True) v0_ r1 ∧ Below w.heap.size w w' := by
 have hu28 := Try.underlying28
 have HR0_0 := Aside0.mk hr0_0
 have HC0_0 := Aside0.mk hc0_0
 clear hr0_0 hc0_0
 have HB := Aside0.mk (Below.refl w.heap.size w)
 have H : ((spec_jbStrokes.f k l0_0 a0_1).bind fun bt648 => (if bt648.2 = true then ((spec_jbMark.f a1).bind fun t652 => (if t652 = true then (if a1 = 0 then (none) else ((spec_jbOwn.f l0_0 (wrap64 (a0_1 - (Int.tmod a0_1 a1)))).bind fun bt653 => (some (bt653.1, bt653.2, Int.tmod a0_1 a1, true)))) else (some (([] : List (S64)), 0, 0, false)))) else (some (([] : List (S64)), 0, 0, false)))) = some (r1, r2, r3, r4) := h
 clear h
 replace H := Option.bind_eq_some_iff.mp H
 obtain ⟨⟨t648, t651⟩, A30, H⟩ := H
 (try dsimp only at H)
 have A3 := Aside0.mk A30
 clear A30
 by_cases c4 : t651 = true
 ·subst c4
  rw [if_pos rfl] at H
  replace H := Option.bind_eq_some_iff.mp H
  obtain ⟨t652, A50, H⟩ := H
  (try dsimp only at H)
  have A5 := Aside0.mk A50
  clear A50
  by_cases c6 : t652 = true
  ·subst c6
   rw [if_pos rfl] at H
   by_cases c7 : a1 = 0
   ·rw [if_pos c7] at H
    exact absurd H (by simp)
   rw [if_neg c7] at H
   have c7b0 : (a1 == 0) = false := beq_eq_false_iff_ne.mpr c7
   have c7b1 : (a1 != 0) = true := bne_iff_ne.mpr c7
   replace H := Option.bind_eq_some_iff.mp H
   obtain ⟨⟨t653, t656⟩, A80, H⟩ := H
   (try dsimp only at H)
   have A8 := Aside0.mk A80
   clear A80
   simp only [Option.some.injEq, Prod.mk.injEq] at H
   obtain ⟨rfl, rfl, rfl, rfl⟩ := H
   go_enter Try.func19, Try.ntmps19
   go_wp2_with (first | ((with_reducible refine gate_dst (N := 2) rfl ?_); refine bv_ 2 28 #[.slice A0_0 l0_0.length c0_0, .int .i64 a0_1] ?_; intro gb646 hg w9 hbox hb; refine k4_ (below_step (Z3) hb) (hbox) ((Z26 : w.heap.size ≤ gb646)) ((Z26 : w.heap.size ≤ gb646)) ?_; clear HB; intro HB BK646 GW646 GE646; clear hb hbox hg) | ((with_reducible refine gate_dst (N := 4) rfl ?_); refine bv_ 4 28 #[.slice none 0 0, .int .i64 0] ?_; intro gb647 hg w10 hbox hb; refine k7_ (blk_below (g := gb646) (o := .cells #[.slice A0_0 l0_0.length c0_0, .int .i64 a0_1] 28 (0, 0)) (Z2 BK646.out) hb) (below_step (Z99) hb) (hbox) ((Z192 : w.heap.size ≤ gb647)) ((Z192 : w.heap.size ≤ gb647)) ((Z173 : gb646 ≠ gb647)) ((Z174 : gb647 ≠ gb646)) ?_; clear BK646 HB; intro BK646 HB BK647 GW647 GE647 NB646_647 NB647_646; clear hb hbox hg; have hnb11 := NB646_647.out; have hnc11 := NB647_646.out; obtain ⟨hcz12_0, hcz12_1, hfz12_0, hfz12_1⟩ := bx2_ (w := w10) BK646.out) | ((with_reducible refine gate_callee (f := 30) rfl ?_); refine gl_ 12 Try.func30 #[.agg #[.slice A0_0 l0_0.length c0_0, .int .i64 a0_1]] ?_; (with_reducible refine (spec_jbStrokes.calls k _ _ l0_0 a0_1 t648 true _ ?_ ?_ A3.out).mono ?_); exact Z10 HR0_0.out; exact HC0_0.out; rintro e w13 ⟨v649, rfl, ho0, hb⟩; refine ⟨_, rfl, ?_⟩; refine k4_ (Kd.R_lower ho0 (below_size (Z71))) (blk_below (g := gb646) (o := .cells #[.slice A0_0 l0_0.length c0_0, .int .i64 a0_1] 28 (0, 0)) (Z2 BK646.out) hb) (blk_below (g := gb647) (o := .cells #[.slice none 0 0, .int .i64 0] 28 (0, 0)) (Z2 BK647.out) hb) (below_step (Z71) hb) ?_; clear BK646 BK647 HB; intro HO650 BK646 BK647 HB; (try clear hb ho0)) | (go_at_call 32; (with_reducible refine (spec_jbMark.calls a1 true _ A5.out).mono ?_); rintro e w' ⟨rfl, ⟨nd, rfl⟩⟩; (try (rw [drewN_self w13]; generalize hq_ : World.drewN w13 _ = w13; have n0_ : Aside0 (Kd.R k77 77 w13 w.heap.size (fun _ => True) v649 t648) := ⟨by rw [← hq_]; exact Z1 HO650.out⟩; have n1_ : Aside0 (w13.heap[gb646]? = some (.cells #[.slice A0_0 l0_0.length c0_0, .int .i64 a0_1] 28 (0, 0))) := ⟨Z216 BK646.out⟩; have n2_ : Aside0 (w13.heap[gb647]? = some (.cells #[.slice none 0 0, .int .i64 0] 28 (0, 0))) := ⟨Z216 BK647.out⟩; have n3_ : Aside0 (Below w.heap.size w w13) := ⟨by rw [← hq_]; exact Z71⟩; clear HO650 BK646 BK647 HB hq_; have HO650 := n0_; have BK646 := n1_; have BK647 := n2_; have HB := n3_; clear n0_ n1_ n2_ n3_)); obtain ⟨hcz14_0, hcz14_1, hfz14_0, hfz14_1⟩ := bx2_ (w := w13) BK646.out) | ((with_reducible refine gate_callee (f := 34) rfl ?_); refine gl_ 33 Try.func34 #[.slice A0_0 l0_0.length c0_0, .int .i64 (wrap64 (a0_1 - (Int.tmod a0_1 a1)))] ?_; (with_reducible refine (spec_jbOwn.calls _ _ l0_0 (wrap64 (a0_1 - (Int.tmod a0_1 a1))) t653 t656 _ ?_ ?_ A8.out).mono ?_); exact Z10 HR0_0.out; exact HC0_0.out; rintro e w15 ⟨v654, rfl, ho0, hb⟩; refine ⟨_, rfl, ?_⟩; refine k5_ (Ya_ HO650.out) (Kd.R_lower ho0 (below_size (Z71))) (blk_below (g := gb646) (o := .cells #[.slice A0_0 l0_0.length c0_0, .int .i64 a0_1] 28 (0, 0)) (Z2 BK646.out) hb) (blk_below (g := gb647) (o := .cells #[.slice none 0 0, .int .i64 0] 28 (0, 0)) (Z2 BK647.out) hb) (below_step (Z71) hb) ?_; clear HO650 BK646 BK647 HB; intro HO650 HO655 BK646 BK647 HB; (try clear hb ho0); obtain ⟨Ao16, co16, eo16⟩ := Kd.R_slice HO655.out; subst eo16; obtain ⟨hcz17_0, hcz17_1, hfz17_0, hfz17_1⟩ := bx2_ (w := w15) BK647.out))
   refine bodyPost_ret (results_ctt rfl _ _ gb647 28 #[.slice Ao16 t653.length co16, .int .i64 t656] (0, 0) _ rfl (by (with_reducible repeat (first | refine blk_drewN ?_ _ | refine blk_drew ?_ | refine blk_alloc ?_ _)); refine blk_put (cs := #[.slice Ao16 t653.length co16, .int .i64 0]) ?_ 1 _ rfl; (with_reducible repeat (first | refine blk_drewN ?_ _ | refine blk_drew ?_ | refine blk_alloc ?_ _)); refine blk_put (cs := #[.slice none 0 0, .int .i64 0]) ?_ 0 _ rfl; (with_reducible repeat (first | refine blk_drewN ?_ _ | refine blk_drew ?_ | refine blk_alloc ?_ _)); exact BK647.out) Try.underlying28 rfl (by kernel_rfl)) rfl ?_
   exact ⟨_, Z11, by (with_reducible repeat (first | apply Kd.R_alloc | apply Kd.R_drewN | apply Kd.R_drew)); exact Kd.R_mono (Kd.R_far (p := ⟨gb647, 1, none⟩) (Kd.R_far (p := ⟨gb647, 0, none⟩) (Kd.R_types HO655.out BK647.out (by decide)) (fun _ hk => hk.2) (.slice Ao16 t653.length co16)) (fun _ hk => hk.2) (.int .i64 t656)) (fun _ hk => trivial), Z71⟩
  replace c6 := Bool.eq_false_iff.mpr c6
  subst c6
  rw [if_neg (show ¬ (false = true) by decide)] at H
  simp only [Option.some.injEq, Prod.mk.injEq] at H
  obtain ⟨rfl, rfl, rfl, rfl⟩ := H
  go_enter Try.func19, Try.ntmps19
  go_wp2_with (first | ((with_reducible refine gate_dst (N := 2) rfl ?_); refine bv_ 2 28 #[.slice A0_0 l0_0.length c0_0, .int .i64 a0_1] ?_; intro gb646 hg w18 hbox hb; refine k4_ (below_step (Z3) hb) (hbox) ((Z26 : w.heap.size ≤ gb646)) ((Z26 : w.heap.size ≤ gb646)) ?_; clear HB; intro HB BK646 GW646 GE646; clear hb hbox hg) | ((with_reducible refine gate_dst (N := 4) rfl ?_); refine bv_ 4 28 #[.slice none 0 0, .int .i64 0] ?_; intro gb647 hg w19 hbox hb; refine k7_ (blk_below (g := gb646) (o := .cells #[.slice A0_0 l0_0.length c0_0, .int .i64 a0_1] 28 (0, 0)) (Z2 BK646.out) hb) (below_step (Z99) hb) (hbox) ((Z192 : w.heap.size ≤ gb647)) ((Z192 : w.heap.size ≤ gb647)) ((Z173 : gb646 ≠ gb647)) ((Z174 : gb647 ≠ gb646)) ?_; clear BK646 HB; intro BK646 HB BK647 GW647 GE647 NB646_647 NB647_646; clear hb hbox hg; have hnb20 := NB646_647.out; have hnc20 := NB647_646.out; obtain ⟨hcz21_0, hcz21_1, hfz21_0, hfz21_1⟩ := bx2_ (w := w19) BK646.out) | ((with_reducible refine gate_callee (f := 30) rfl ?_); refine gl_ 12 Try.func30 #[.agg #[.slice A0_0 l0_0.length c0_0, .int .i64 a0_1]] ?_; (with_reducible refine (spec_jbStrokes.calls k _ _ l0_0 a0_1 t648 true _ ?_ ?_ A3.out).mono ?_); exact Z10 HR0_0.out; exact HC0_0.out; rintro e w22 ⟨v649, rfl, ho0, hb⟩; refine ⟨_, rfl, ?_⟩; refine k4_ (Kd.R_lower ho0 (below_size (Z71))) (blk_below (g := gb646) (o := .cells #[.slice A0_0 l0_0.length c0_0, .int .i64 a0_1] 28 (0, 0)) (Z2 BK646.out) hb) (blk_below (g := gb647) (o := .cells #[.slice none 0 0, .int .i64 0] 28 (0, 0)) (Z2 BK647.out) hb) (below_step (Z71) hb) ?_; clear BK646 BK647 HB; intro HO650 BK646 BK647 HB; (try clear hb ho0)) | (go_at_call 32; (with_reducible refine (spec_jbMark.calls a1 false _ A5.out).mono ?_); rintro e w' ⟨rfl, ⟨nd, rfl⟩⟩; (try (rw [drewN_self w22]; generalize hq_ : World.drewN w22 _ = w22; have n0_ : Aside0 (Kd.R k77 77 w22 w.heap.size (fun _ => True) v649 t648) := ⟨by rw [← hq_]; exact Z1 HO650.out⟩; have n1_ : Aside0 (w22.heap[gb646]? = some (.cells #[.slice A0_0 l0_0.length c0_0, .int .i64 a0_1] 28 (0, 0))) := ⟨Z216 BK646.out⟩; have n2_ : Aside0 (w22.heap[gb647]? = some (.cells #[.slice none 0 0, .int .i64 0] 28 (0, 0))) := ⟨Z216 BK647.out⟩; have n3_ : Aside0 (Below w.heap.size w w22) := ⟨by rw [← hq_]; exact Z71⟩; clear HO650 BK646 BK647 HB hq_; have HO650 := n0_; have BK646 := n1_; have BK647 := n2_; have HB := n3_; clear n0_ n1_ n2_ n3_)); obtain ⟨hcz23_0, hcz23_1, hfz23_0, hfz23_1⟩ := bx2_ (w := w22) BK647.out))
  refine bodyPost_ret (results_ctt rfl _ _ gb647 28 #[.slice none 0 0, .int .i64 0] (0, 0) _ rfl (Z23 BK647.out) Try.underlying28 rfl (by kernel_rfl)) rfl ?_
  exact ⟨_, Z11, Z21, Z71⟩
 replace c4 := Bool.eq_false_iff.mpr c4
 subst c4
 rw [if_neg (show ¬ (false = true) by decide)] at H
 simp only [Option.some.injEq, Prod.mk.injEq] at H
 obtain ⟨rfl, rfl, rfl, rfl⟩ := H
 go_enter Try.func19, Try.ntmps19
 go_wp2_with (first | ((with_reducible refine gate_dst (N := 2) rfl ?_); refine bv_ 2 28 #[.slice A0_0 l0_0.length c0_0, .int .i64 a0_1] ?_; intro gb646 hg w24 hbox hb; refine k4_ (below_step (Z3) hb) (hbox) ((Z26 : w.heap.size ≤ gb646)) ((Z26 : w.heap.size ≤ gb646)) ?_; clear HB; intro HB BK646 GW646 GE646; clear hb hbox hg) | ((with_reducible refine gate_dst (N := 4) rfl ?_); refine bv_ 4 28 #[.slice none 0 0, .int .i64 0] ?_; intro gb647 hg w25 hbox hb; refine k7_ (blk_below (g := gb646) (o := .cells #[.slice A0_0 l0_0.length c0_0, .int .i64 a0_1] 28 (0, 0)) (Z2 BK646.out) hb) (below_step (Z99) hb) (hbox) ((Z192 : w.heap.size ≤ gb647)) ((Z192 : w.heap.size ≤ gb647)) ((Z173 : gb646 ≠ gb647)) ((Z174 : gb647 ≠ gb646)) ?_; clear BK646 HB; intro BK646 HB BK647 GW647 GE647 NB646_647 NB647_646; clear hb hbox hg; have hnb26 := NB646_647.out; have hnc26 := NB647_646.out; obtain ⟨hcz27_0, hcz27_1, hfz27_0, hfz27_1⟩ := bx2_ (w := w25) BK646.out) | ((with_reducible refine gate_callee (f := 30) rfl ?_); refine gl_ 12 Try.func30 #[.agg #[.slice A0_0 l0_0.length c0_0, .int .i64 a0_1]] ?_; (with_reducible refine (spec_jbStrokes.calls k _ _ l0_0 a0_1 t648 false _ ?_ ?_ A3.out).mono ?_); exact Z10 HR0_0.out; exact HC0_0.out; rintro e w28 ⟨v649, rfl, ho0, hb⟩; refine ⟨_, rfl, ?_⟩; refine k4_ (Kd.R_lower ho0 (below_size (Z71))) (blk_below (g := gb646) (o := .cells #[.slice A0_0 l0_0.length c0_0, .int .i64 a0_1] 28 (0, 0)) (Z2 BK646.out) hb) (blk_below (g := gb647) (o := .cells #[.slice none 0 0, .int .i64 0] 28 (0, 0)) (Z2 BK647.out) hb) (below_step (Z71) hb) ?_; clear BK646 BK647 HB; intro HO650 BK646 BK647 HB; (try clear hb ho0); obtain ⟨hcz29_0, hcz29_1, hfz29_0, hfz29_1⟩ := bx2_ (w := w28) BK647.out))
 refine bodyPost_ret (results_ctt rfl _ _ gb647 28 #[.slice none 0 0, .int .i64 0] (0, 0) _ rfl (Z23 BK647.out) Try.underlying28 rfl (by kernel_rfl)) rfl ?_
 exact ⟨_, Z11, Z21, Z71⟩

/-! ### impl_MakeStrokes: function 20 -/
def impl_MakeStrokes.f (k : Nat) (l0_0 : List (S64)) (a0_1 : Int) (a1 : Int) : Option ((List (S64)) × Int × Int × Bool) := (impl_jobStrokes.f k l0_0 a0_1).bind fun bt659 => (if bt659.2 = true then (if a1 < 0 then (some (([] : List (S64)), 0, 0, false)) else (if a1 > 200 then (some (([] : List (S64)), 0, 0, false)) else ((impl_jobAt.f l0_0 (wrap64 (a0_1 + (mn a1 (wrap64 ((bt659.1.length : Int) - a0_1)))))).bind fun bt663 => (some (bt663.1, bt663.2, mn a1 (wrap64 ((bt659.1.length : Int) - a0_1)), true))))) else (some (([] : List (S64)), 0, 0, false)))
theorem impl_MakeStrokes.mono : ∀ a0 a1 a2 k, LeO (impl_MakeStrokes.f k a0 a1 a2) (impl_MakeStrokes.f (k + 1) a0 a1 a2) := by
 intro a0 a1 a2 k
 unfold impl_MakeStrokes.f
 exact mo15_
set_option maxHeartbeats 8000000 in
set_option maxRecDepth 100000 in
theorem impl_MakeStrokes.calls (k : Nat) (A0_0 : Option Addr) (c0_0 : Nat) (l0_0 : List (S64)) (a0_1 : Int) (a1 : Int) (r1 : List (S64)) (r2 : Int) (r3 : Int) (r4 : Bool) (w : World) (hr0_0 : Kd.C k64 w A0_0 l0_0.length l0_0) (hc0_0 : l0_0.length ≤ c0_0) (h : impl_MakeStrokes.f k l0_0 a0_1 a1 = some (r1, r2, r3, r4)) :
  Calls Try.prog 20 #[.agg #[.slice A0_0 l0_0.length c0_0, .int .i64 a0_1], .int .i64 a1] w fun e w' => ∃ v0_ : Value, e = .returned (.tuple #[.agg #[v0_, .int .i64 r2], .int .i64 r3, .bool r4]) ∧ Kd.R k64 64 w' w.heap.size (fun _ => True) v0_ r1 ∧ Below w.heap.size w w' := by
 have hu28 := Try.underlying28
 have HR0_0 := Aside0.mk hr0_0
 have HC0_0 := Aside0.mk hc0_0
 clear hr0_0 hc0_0
 have HB := Aside0.mk (Below.refl w.heap.size w)
 have H : ((impl_jobStrokes.f k l0_0 a0_1).bind fun bt659 => (if bt659.2 = true then (if a1 < 0 then (some (([] : List (S64)), 0, 0, false)) else (if a1 > 200 then (some (([] : List (S64)), 0, 0, false)) else ((impl_jobAt.f l0_0 (wrap64 (a0_1 + (mn a1 (wrap64 ((bt659.1.length : Int) - a0_1)))))).bind fun bt663 => (some (bt663.1, bt663.2, mn a1 (wrap64 ((bt659.1.length : Int) - a0_1)), true))))) else (some (([] : List (S64)), 0, 0, false)))) = some (r1, r2, r3, r4) := h
 clear h
 replace H := Option.bind_eq_some_iff.mp H
 obtain ⟨⟨t659, t662⟩, A30, H⟩ := H
 (try dsimp only at H)
 have A3 := Aside0.mk A30
 clear A30
 by_cases c4 : t662 = true
 ·subst c4
  rw [if_pos rfl] at H
  by_cases c5 : a1 < 0
  ·rw [if_pos c5] at H
   have c5b0 : decide (a1 < 0) = true := decide_eq_true c5
   clear c5
   simp only [Option.some.injEq, Prod.mk.injEq] at H
   obtain ⟨rfl, rfl, rfl, rfl⟩ := H
   go_enter Try.func20, Try.ntmps20
   go_wp2_with (first | ((with_reducible refine gate_dst (N := 2) rfl ?_); refine bv_ 2 28 #[.slice A0_0 l0_0.length c0_0, .int .i64 a0_1] ?_; intro gb657 hg w6 hbox hb; refine k4_ (below_step (Z3) hb) (hbox) ((Z26 : w.heap.size ≤ gb657)) ((Z26 : w.heap.size ≤ gb657)) ?_; clear HB; intro HB BK657 GW657 GE657; clear hb hbox hg) | ((with_reducible refine gate_dst (N := 4) rfl ?_); refine bv_ 4 28 #[.slice none 0 0, .int .i64 0] ?_; intro gb658 hg w7 hbox hb; refine k7_ (blk_below (g := gb657) (o := .cells #[.slice A0_0 l0_0.length c0_0, .int .i64 a0_1] 28 (0, 0)) (Z2 BK657.out) hb) (below_step (Z79) hb) (hbox) ((Z177 : w.heap.size ≤ gb658)) ((Z177 : w.heap.size ≤ gb658)) ((Z142 : gb657 ≠ gb658)) ((Z143 : gb658 ≠ gb657)) ?_; clear BK657 HB; intro BK657 HB BK658 GW658 GE658 NB657_658 NB658_657; clear hb hbox hg; have hnb8 := NB657_658.out; have hnc8 := NB658_657.out; obtain ⟨hcz9_0, hcz9_1, hfz9_0, hfz9_1⟩ := bx2_ (w := w7) BK657.out) | ((with_reducible refine gate_callee (f := 27) rfl ?_); refine gl_ 12 Try.func27 #[.agg #[.slice A0_0 l0_0.length c0_0, .int .i64 a0_1]] ?_; (with_reducible refine (impl_jobStrokes.calls k _ _ l0_0 a0_1 t659 true _ ?_ ?_ A3.out).mono ?_); exact Z10 HR0_0.out; exact HC0_0.out; rintro e w10 ⟨v660, rfl, ho0, hb⟩; refine ⟨_, rfl, ?_⟩; refine k4_ (Kd.R_lower ho0 (below_size (Z60))) (blk_below (g := gb657) (o := .cells #[.slice A0_0 l0_0.length c0_0, .int .i64 a0_1] 28 (0, 0)) (Z2 BK657.out) hb) (blk_below (g := gb658) (o := .cells #[.slice none 0 0, .int .i64 0] 28 (0, 0)) (Z2 BK658.out) hb) (below_step (Z60) hb) ?_; clear BK657 BK658 HB; intro HO661 BK657 BK658 HB; (try clear hb ho0); obtain ⟨hcz11_0, hcz11_1, hfz11_0, hfz11_1⟩ := bx2_ (w := w10) BK658.out))
   refine bodyPost_ret (results_ctt rfl _ _ gb658 28 #[.slice none 0 0, .int .i64 0] (0, 0) _ rfl (Z23 BK658.out) Try.underlying28 rfl (by kernel_rfl)) rfl ?_
   exact ⟨_, Z11, Z21, Z60⟩
  rw [if_neg c5] at H
  have c5b0 : decide (a1 < 0) = false := decide_eq_false c5
  clear c5
  by_cases c12 : a1 > 200
  ·rw [if_pos c12] at H
   have c12b0 : decide (200 < a1) = true := decide_eq_true c12
   clear c12
   simp only [Option.some.injEq, Prod.mk.injEq] at H
   obtain ⟨rfl, rfl, rfl, rfl⟩ := H
   go_enter Try.func20, Try.ntmps20
   go_wp2_with (first | ((with_reducible refine gate_dst (N := 2) rfl ?_); refine bv_ 2 28 #[.slice A0_0 l0_0.length c0_0, .int .i64 a0_1] ?_; intro gb657 hg w13 hbox hb; refine k4_ (below_step (Z3) hb) (hbox) ((Z26 : w.heap.size ≤ gb657)) ((Z26 : w.heap.size ≤ gb657)) ?_; clear HB; intro HB BK657 GW657 GE657; clear hb hbox hg) | ((with_reducible refine gate_dst (N := 4) rfl ?_); refine bv_ 4 28 #[.slice none 0 0, .int .i64 0] ?_; intro gb658 hg w14 hbox hb; refine k7_ (blk_below (g := gb657) (o := .cells #[.slice A0_0 l0_0.length c0_0, .int .i64 a0_1] 28 (0, 0)) (Z2 BK657.out) hb) (below_step (Z79) hb) (hbox) ((Z177 : w.heap.size ≤ gb658)) ((Z177 : w.heap.size ≤ gb658)) ((Z142 : gb657 ≠ gb658)) ((Z143 : gb658 ≠ gb657)) ?_; clear BK657 HB; intro BK657 HB BK658 GW658 GE658 NB657_658 NB658_657; clear hb hbox hg; have hnb15 := NB657_658.out; have hnc15 := NB658_657.out; obtain ⟨hcz16_0, hcz16_1, hfz16_0, hfz16_1⟩ := bx2_ (w := w14) BK657.out) | ((with_reducible refine gate_callee (f := 27) rfl ?_); refine gl_ 12 Try.func27 #[.agg #[.slice A0_0 l0_0.length c0_0, .int .i64 a0_1]] ?_; (with_reducible refine (impl_jobStrokes.calls k _ _ l0_0 a0_1 t659 true _ ?_ ?_ A3.out).mono ?_); exact Z10 HR0_0.out; exact HC0_0.out; rintro e w17 ⟨v660, rfl, ho0, hb⟩; refine ⟨_, rfl, ?_⟩; refine k4_ (Kd.R_lower ho0 (below_size (Z60))) (blk_below (g := gb657) (o := .cells #[.slice A0_0 l0_0.length c0_0, .int .i64 a0_1] 28 (0, 0)) (Z2 BK657.out) hb) (blk_below (g := gb658) (o := .cells #[.slice none 0 0, .int .i64 0] 28 (0, 0)) (Z2 BK658.out) hb) (below_step (Z60) hb) ?_; clear BK657 BK658 HB; intro HO661 BK657 BK658 HB; (try clear hb ho0); obtain ⟨hcz18_0, hcz18_1, hfz18_0, hfz18_1⟩ := bx2_ (w := w17) BK658.out))
   refine bodyPost_ret (results_ctt rfl _ _ gb658 28 #[.slice none 0 0, .int .i64 0] (0, 0) _ rfl (Z23 BK658.out) Try.underlying28 rfl (by kernel_rfl)) rfl ?_
   exact ⟨_, Z11, Z21, Z60⟩
  rw [if_neg c12] at H
  have c12b0 : decide (200 < a1) = false := decide_eq_false c12
  clear c12
  obtain ⟨ji19, hji19⟩ : ∃ j_ : Int, (mn a1 (wrap64 ((t659.length : Int) - a0_1))) = j_ := ⟨_, rfl⟩
  replace H : ((impl_jobAt.f l0_0 (wrap64 (a0_1 + (ji19)))).bind fun bt663 => (some (bt663.1, bt663.2, ji19, true))) = some (r1, r2, r3, r4) := by first | (rw [hji19] at H; exact H) | (simp only [hji19] at H ⊢; exact H)
  (try rw [hji19] at A3)
  have hji19_ : (if (wrap64 ((t659.length : Int) - a0_1)) < a1 then (wrap64 ((t659.length : Int) - a0_1)) else a1) = ji19 := hji19
  replace H := Option.bind_eq_some_iff.mp H
  obtain ⟨⟨t663, t666⟩, A200, H⟩ := H
  (try dsimp only at H)
  have A20 := Aside0.mk A200
  clear A200
  simp only [Option.some.injEq, Prod.mk.injEq] at H
  obtain ⟨rfl, rfl, rfl, rfl⟩ := H
  go_enter Try.func20, Try.ntmps20
  go_wp2_with (first | ((with_reducible refine gate_dst (N := 2) rfl ?_); refine bv_ 2 28 #[.slice A0_0 l0_0.length c0_0, .int .i64 a0_1] ?_; intro gb657 hg w21 hbox hb; refine k4_ (below_step (Z3) hb) (hbox) ((Z26 : w.heap.size ≤ gb657)) ((Z26 : w.heap.size ≤ gb657)) ?_; clear HB; intro HB BK657 GW657 GE657; clear hb hbox hg) | ((with_reducible refine gate_dst (N := 4) rfl ?_); refine bv_ 4 28 #[.slice none 0 0, .int .i64 0] ?_; intro gb658 hg w22 hbox hb; refine k7_ (blk_below (g := gb657) (o := .cells #[.slice A0_0 l0_0.length c0_0, .int .i64 a0_1] 28 (0, 0)) (Z2 BK657.out) hb) (below_step (Z79) hb) (hbox) ((Z177 : w.heap.size ≤ gb658)) ((Z177 : w.heap.size ≤ gb658)) ((Z142 : gb657 ≠ gb658)) ((Z143 : gb658 ≠ gb657)) ?_; clear BK657 HB; intro BK657 HB BK658 GW658 GE658 NB657_658 NB658_657; clear hb hbox hg; have hnb23 := NB657_658.out; have hnc23 := NB658_657.out; obtain ⟨hcz24_0, hcz24_1, hfz24_0, hfz24_1⟩ := bx2_ (w := w22) BK657.out) | ((with_reducible refine gate_callee (f := 27) rfl ?_); refine gl_ 12 Try.func27 #[.agg #[.slice A0_0 l0_0.length c0_0, .int .i64 a0_1]] ?_; (with_reducible refine (impl_jobStrokes.calls k _ _ l0_0 a0_1 t659 true _ ?_ ?_ A3.out).mono ?_); exact Z10 HR0_0.out; exact HC0_0.out; rintro e w25 ⟨v660, rfl, ho0, hb⟩; refine ⟨_, rfl, ?_⟩; refine k4_ (Kd.R_lower ho0 (below_size (Z60))) (blk_below (g := gb657) (o := .cells #[.slice A0_0 l0_0.length c0_0, .int .i64 a0_1] 28 (0, 0)) (Z2 BK657.out) hb) (blk_below (g := gb658) (o := .cells #[.slice none 0 0, .int .i64 0] 28 (0, 0)) (Z2 BK658.out) hb) (below_step (Z60) hb) ?_; clear BK657 BK658 HB; intro HO661 BK657 BK658 HB; (try clear hb ho0); obtain ⟨Ao26, co26, eo26⟩ := Kd.R_slice HO661.out; subst eo26; obtain ⟨hcz27_0, hcz27_1, hfz27_0, hfz27_1⟩ := bx2_ (w := w25) BK657.out) | ((with_reducible refine gate_callee (f := 29) rfl ?_); refine goesL_ (some 39) rfl rfl Try.func29 (by kernel_rfl) rfl #[.slice A0_0 l0_0.length c0_0, .int .i64 (wrap64 (a0_1 + (ji19)))] rfl (by (try simp only [List.map_toArray, List.map_cons, List.map_nil]); first | done | (simp only [hji19]; rfl) | rfl | (simp only [List.length_drop, List.length_take]; rfl)) ?_; (with_reducible refine (impl_jobAt.calls _ _ l0_0 (wrap64 (a0_1 + (ji19))) t663 t666 _ ?_ ?_ A20.out).mono ?_); exact Z10 HR0_0.out; exact HC0_0.out; rintro e w28 ⟨v664, rfl, ho0, hb⟩; refine ⟨_, rfl, ?_⟩; refine k5_ (Ya_ HO661.out) (Kd.R_lower ho0 (below_size (Z60))) (blk_below (g := gb657) (o := .cells #[.slice A0_0 l0_0.length c0_0, .int .i64 a0_1] 28 (0, 0)) (Z2 BK657.out) hb) (blk_below (g := gb658) (o := .cells #[.slice none 0 0, .int .i64 0] 28 (0, 0)) (Z2 BK658.out) hb) (below_step (Z60) hb) ?_; clear HO661 BK657 BK658 HB; intro HO661 HO665 BK657 BK658 HB; (try clear hb ho0); obtain ⟨Ao29, co29, eo29⟩ := Kd.R_slice HO665.out; subst eo29; obtain ⟨hcz30_0, hcz30_1, hfz30_0, hfz30_1⟩ := bx2_ (w := w28) BK658.out))
  refine bodyPost_ret (results_ctt rfl _ _ gb658 28 #[.slice Ao29 t663.length co29, .int .i64 t666] (0, 0) _ rfl (by (with_reducible repeat (first | refine blk_drewN ?_ _ | refine blk_drew ?_ | refine blk_alloc ?_ _)); refine blk_put (cs := #[.slice Ao29 t663.length co29, .int .i64 0]) ?_ 1 _ rfl; (with_reducible repeat (first | refine blk_drewN ?_ _ | refine blk_drew ?_ | refine blk_alloc ?_ _)); refine blk_put (cs := #[.slice none 0 0, .int .i64 0]) ?_ 0 _ rfl; (with_reducible repeat (first | refine blk_drewN ?_ _ | refine blk_drew ?_ | refine blk_alloc ?_ _)); exact BK658.out) Try.underlying28 rfl (by kernel_rfl)) rfl ?_
  exact ⟨_, by first | rfl | (simp [errW_none, errW_some] <;> rfl) | (simp only [← hji19]; first | rfl | (simp [errW_none, errW_some] <;> rfl)) | (simp [*, errW_none, errW_some] <;> rfl), by (with_reducible repeat (first | apply Kd.R_alloc | apply Kd.R_drewN | apply Kd.R_drew)); exact Kd.R_mono (Kd.R_far (p := ⟨gb658, 1, none⟩) (Kd.R_far (p := ⟨gb658, 0, none⟩) (Kd.R_types HO665.out BK658.out (by decide)) (fun _ hk => hk.2) (.slice Ao29 t663.length co29)) (fun _ hk => hk.2) (.int .i64 t666)) (fun _ hk => trivial), Z60⟩
 replace c4 := Bool.eq_false_iff.mpr c4
 subst c4
 rw [if_neg (show ¬ (false = true) by decide)] at H
 simp only [Option.some.injEq, Prod.mk.injEq] at H
 obtain ⟨rfl, rfl, rfl, rfl⟩ := H
 go_enter Try.func20, Try.ntmps20
 go_wp2_with (first | ((with_reducible refine gate_dst (N := 2) rfl ?_); refine bv_ 2 28 #[.slice A0_0 l0_0.length c0_0, .int .i64 a0_1] ?_; intro gb657 hg w31 hbox hb; refine k4_ (below_step (Z3) hb) (hbox) ((Z26 : w.heap.size ≤ gb657)) ((Z26 : w.heap.size ≤ gb657)) ?_; clear HB; intro HB BK657 GW657 GE657; clear hb hbox hg) | ((with_reducible refine gate_dst (N := 4) rfl ?_); refine bv_ 4 28 #[.slice none 0 0, .int .i64 0] ?_; intro gb658 hg w32 hbox hb; refine k7_ (blk_below (g := gb657) (o := .cells #[.slice A0_0 l0_0.length c0_0, .int .i64 a0_1] 28 (0, 0)) (Z2 BK657.out) hb) (below_step (Z79) hb) (hbox) ((Z177 : w.heap.size ≤ gb658)) ((Z177 : w.heap.size ≤ gb658)) ((Z142 : gb657 ≠ gb658)) ((Z143 : gb658 ≠ gb657)) ?_; clear BK657 HB; intro BK657 HB BK658 GW658 GE658 NB657_658 NB658_657; clear hb hbox hg; have hnb33 := NB657_658.out; have hnc33 := NB658_657.out; obtain ⟨hcz34_0, hcz34_1, hfz34_0, hfz34_1⟩ := bx2_ (w := w32) BK657.out) | ((with_reducible refine gate_callee (f := 27) rfl ?_); refine gl_ 12 Try.func27 #[.agg #[.slice A0_0 l0_0.length c0_0, .int .i64 a0_1]] ?_; (with_reducible refine (impl_jobStrokes.calls k _ _ l0_0 a0_1 t659 false _ ?_ ?_ A3.out).mono ?_); exact Z10 HR0_0.out; exact HC0_0.out; rintro e w35 ⟨v660, rfl, ho0, hb⟩; refine ⟨_, rfl, ?_⟩; refine k4_ (Kd.R_lower ho0 (below_size (Z60))) (blk_below (g := gb657) (o := .cells #[.slice A0_0 l0_0.length c0_0, .int .i64 a0_1] 28 (0, 0)) (Z2 BK657.out) hb) (blk_below (g := gb658) (o := .cells #[.slice none 0 0, .int .i64 0] 28 (0, 0)) (Z2 BK658.out) hb) (below_step (Z60) hb) ?_; clear BK657 BK658 HB; intro HO661 BK657 BK658 HB; (try clear hb ho0); obtain ⟨hcz36_0, hcz36_1, hfz36_0, hfz36_1⟩ := bx2_ (w := w35) BK658.out))
 refine bodyPost_ret (results_ctt rfl _ _ gb658 28 #[.slice none 0 0, .int .i64 0] (0, 0) _ rfl (Z23 BK658.out) Try.underlying28 rfl (by kernel_rfl)) rfl ?_
 exact ⟨_, Z11, Z21, Z60⟩

/-! ### spec_MakeStrokes: function 21 -/
def spec_MakeStrokes.j0 : Nat → Int → List (S77) → Bool → List (S64) → Int → Option ((List (S64)) × Int × Int × Bool)
 | 0, _, _, _, _, _ => none
 | k + 1, x1, x7, x21, x668000, x668001 => if x21 = true then (some (([] : List (S64)), 0, 0, false)) else ((spec_l1Least.f x1 (wrap64 ((x7.length : Int) - x668001))).bind fun t674 => ((spec_jbOwn.f x668000 (wrap64 (x668001 + t674))).bind fun bt675 => (some (bt675.1, bt675.2, t674, true))))
def spec_MakeStrokes.f (k : Nat) (l0_0 : List (S64)) (a0_1 : Int) (a1 : Int) : Option ((List (S64)) × Int × Int × Bool) := (spec_jbStrokes.f k l0_0 a0_1).bind fun bt669 => (if bt669.2 = true then ((spec_l1In.f a1 0 200).bind fun t673 => (spec_MakeStrokes.j0 k a1 bt669.1 (!t673) l0_0 a0_1)) else (spec_MakeStrokes.j0 k a1 bt669.1 true l0_0 a0_1))
theorem spec_MakeStrokes.mono_l : ∀ k, (∀ y0 y1 y2 y3 y4, LeO (spec_MakeStrokes.j0 k y0 y1 y2 y3 y4) (spec_MakeStrokes.j0 (k + 1) y0 y1 y2 y3 y4))
 | 0 => fun _ _ _ _ _ r h => by simp [spec_MakeStrokes.j0] at h
 | k + 1 => by
  have ih0 := spec_MakeStrokes.mono_l k
  ·intro y0 y1 y2 y3 y4
   unfold spec_MakeStrokes.j0
   exact mo15_
theorem spec_MakeStrokes.mono : ∀ a0 a1 a2 k, LeO (spec_MakeStrokes.f k a0 a1 a2) (spec_MakeStrokes.f (k + 1) a0 a1 a2) := by
 intro a0 a1 a2 k
 have ih0 := spec_MakeStrokes.mono_l k
 unfold spec_MakeStrokes.f
 exact mo15_
set_option maxHeartbeats 8000000 in
set_option maxRecDepth 100000 in
theorem spec_MakeStrokes.calls (k : Nat) (A0_0 : Option Addr) (c0_0 : Nat) (l0_0 : List (S64)) (a0_1 : Int) (a1 : Int) (r1 : List (S64)) (r2 : Int) (r3 : Int) (r4 : Bool) (w : World) (hr0_0 : Kd.C k64 w A0_0 l0_0.length l0_0) (hc0_0 : l0_0.length ≤ c0_0) (h : spec_MakeStrokes.f k l0_0 a0_1 a1 = some (r1, r2, r3, r4)) :
  Calls Try.prog 21 #[.agg #[.slice A0_0 l0_0.length c0_0, .int .i64 a0_1], .int .i64 a1] w fun e w' => ∃ v0_ : Value, e = .returned (.tuple #[.agg #[v0_, .int .i64 r2], .int .i64 r3, .bool r4]) ∧ Kd.R k64 64 w' w.heap.size (fun _ => True) v0_ r1 ∧ Below w.heap.size w w' := by
 have hu28 := Try.underlying28
 have HR0_0 := Aside0.mk hr0_0
 have HC0_0 := Aside0.mk hc0_0
 clear hr0_0 hc0_0
 have HB := Aside0.mk (Below.refl w.heap.size w)
 have H : ((spec_jbStrokes.f k l0_0 a0_1).bind fun bt669 => (if bt669.2 = true then ((spec_l1In.f a1 0 200).bind fun t673 => (spec_MakeStrokes.j0 k a1 bt669.1 (!t673) l0_0 a0_1)) else (spec_MakeStrokes.j0 k a1 bt669.1 true l0_0 a0_1))) = some (r1, r2, r3, r4) := h
 clear h
 replace H := Option.bind_eq_some_iff.mp H
 obtain ⟨⟨t669, t672⟩, A30, H⟩ := H
 (try dsimp only at H)
 have A3 := Aside0.mk A30
 clear A30
 have HC4 := Aside0.mk H
 clear H
 go_enter Try.func21, Try.ntmps21
 go_upto_region 2 with (first | ((with_reducible refine gate_dst (N := 2) rfl ?_); refine bv_ 2 28 #[.slice A0_0 l0_0.length c0_0, .int .i64 a0_1] ?_; intro gb667 hg w5 hbox hb; refine k4_ (below_step (Z3) hb) (hbox) ((Z26 : w.heap.size ≤ gb667)) ((Z26 : w.heap.size ≤ gb667)) ?_; clear HB; intro HB BK667 GW667 GE667; clear hb hbox hg) | ((with_reducible refine gate_dst (N := 4) rfl ?_); refine bv_ 4 28 #[.slice none 0 0, .int .i64 0] ?_; intro gb668 hg w6 hbox hb; refine k7_ (blk_below (g := gb667) (o := .cells #[.slice A0_0 l0_0.length c0_0, .int .i64 a0_1] 28 (0, 0)) (Z2 BK667.out) hb) (below_step (Z165) hb) (hbox) ((by rw [hg]; exact (below_size (Z165)) : w.heap.size ≤ gb668)) ((by rw [hg]; exact (below_size (Z165)) : w.heap.size ≤ gb668)) ((by rw [hg]; exact Nat.ne_of_lt (blk_lt (g := gb667) (o := .cells #[.slice A0_0 l0_0.length c0_0, .int .i64 a0_1] 28 (0, 0)) (Z2 BK667.out)) : gb667 ≠ gb668)) ((by rw [hg]; exact Nat.ne_of_gt (blk_lt (g := gb667) (o := .cells #[.slice A0_0 l0_0.length c0_0, .int .i64 a0_1] 28 (0, 0)) (Z2 BK667.out)) : gb668 ≠ gb667)) ?_; clear BK667 HB; intro BK667 HB BK668 GW668 GE668 NB667_668 NB668_667; clear hb hbox hg; have hnb7 := NB667_668.out; have hnc7 := NB668_667.out; obtain ⟨hcz8_0, hcz8_1, hfz8_0, hfz8_1⟩ := bx2_ (w := w6) BK667.out) | ((with_reducible refine gate_callee (f := 30) rfl ?_); refine gl_ 12 Try.func30 #[.agg #[.slice A0_0 l0_0.length c0_0, .int .i64 a0_1]] ?_; (with_reducible refine (spec_jbStrokes.calls k _ _ l0_0 a0_1 t669 t672 _ ?_ ?_ A3.out).mono ?_); exact Z10 HR0_0.out; exact HC0_0.out; rintro e w9 ⟨v670, rfl, ho0, hb⟩; refine ⟨_, rfl, ?_⟩; refine k4_ (Kd.R_lower ho0 (below_size (Z89))) (blk_below (g := gb667) (o := .cells #[.slice A0_0 l0_0.length c0_0, .int .i64 a0_1] 28 (0, 0)) (Z2 BK667.out) hb) (blk_below (g := gb668) (o := .cells #[.slice none 0 0, .int .i64 0] 28 (0, 0)) (Z2 BK668.out) hb) (below_step (Z89) hb) ?_; clear BK667 BK668 HB; intro HO671 BK667 BK668 HB; (try clear hb ho0)))
 (try simp only [Act.put, List.setIfInBounds_toArray, List.set_cons_zero, List.set_cons_succ])
 go_cut [21] (fun v21 wc => ∃ (kq : Nat) (x21_3 : Bool), v21 = .bool x21_3 ∧ Aside0 (spec_MakeStrokes.j0 kq a1 t669 x21_3 l0_0 a0_1 = some (r1, r2, r3, r4)) ∧ Aside0 (kq ≤ k) ∧ Aside0 (Kd.R k77 77 wc w.heap.size (fun _ => True) v670 t669) ∧ Aside0 (wc.heap[gb667]? = some (.cells #[(.slice A0_0 l0_0.length c0_0), .int .i64 a0_1] 28 (0, 0))) ∧ Aside0 (wc.heap[gb668]? = some (.cells #[(.slice none 0 0), .int .i64 0] 28 (0, 0))) ∧ Aside0 (Below w.heap.size w wc))
 case first =>
  have H := HC4.out
  clear HC4
  by_cases c10 : t672 = true
  ·subst c10
   rw [if_pos rfl] at H
   replace H := Option.bind_eq_some_iff.mp H
   obtain ⟨t673, A110, H⟩ := H
   (try dsimp only at H)
   have A11 := Aside0.mk A110
   clear A110
   have H' := Aside0.mk H
   clear H
   go_wp2_with (first | (go_at_call 35; (with_reducible refine (spec_l1In.calls a1 0 200 t673 _ A11.out).mono ?_); rintro e w' ⟨rfl, ⟨nd, rfl⟩⟩))
   go_meet
   case rel => exact ⟨_, (!t673), (Z17), H', ⟨Z110⟩, ⟨Z1 HO671.out⟩, ⟨Z2 BK667.out⟩, ⟨Z2 BK668.out⟩, ⟨Z89⟩⟩
  replace c10 := Bool.eq_false_iff.mpr c10
  subst c10
  rw [if_neg (show ¬ (false = true) by decide)] at H
  have H' := Aside0.mk H
  clear H
  go_wp2
  go_meet
  case rel => exact ⟨_, (true), (Z17), H', ⟨Z110⟩, ⟨Z1 HO671.out⟩, ⟨Z2 BK667.out⟩, ⟨Z2 BK668.out⟩, ⟨Z89⟩⟩
 case rest =>
  clear HC4
  (try clear c1); (try clear c2); (try clear p2); (try clear c3); (try clear c7); (try clear c10); (try clear hcz8_0); (try clear hcz8_1); (try clear hfz8_0); (try clear hfz8_1)
  obtain ⟨kq, x21_3, rfl, HA, HJ3, HO_7, BK667, BK668, HB⟩ := hcut
  cases kq with
  | zero => exact absurd HA.out (by simp [spec_MakeStrokes.j0])
  | succ kj3 =>
   have H := HA.out
   clear HA
   simp only [spec_MakeStrokes.j0] at H
   by_cases c12 : x21_3 = true
   ·subst c12
    rw [if_pos rfl] at H
    simp only [Option.some.injEq, Prod.mk.injEq] at H
    obtain ⟨rfl, rfl, rfl, rfl⟩ := H
    have hnb13 := NB668_667.out
    have hnc13 := NB667_668.out
    obtain ⟨hcz14_0, hcz14_1, hfz14_0, hfz14_1⟩ := bx2_ (w := wc) BK668.out
    go_wp2
    refine bodyPost_ret (results_ctt rfl _ _ gb668 28 #[.slice none 0 0, .int .i64 0] (0, 0) _ rfl (Z23 BK668.out) Try.underlying28 rfl (by kernel_rfl)) rfl ?_
    exact ⟨_, Z11, Z21, Z89⟩
   replace c12 := Bool.eq_false_iff.mpr c12
   subst c12
   rw [if_neg (show ¬ (false = true) by decide)] at H
   replace H := Option.bind_eq_some_iff.mp H
   obtain ⟨t674, A150, H⟩ := H
   (try dsimp only at H)
   have A15 := Aside0.mk A150
   clear A150
   replace H := Option.bind_eq_some_iff.mp H
   obtain ⟨⟨t675, t678⟩, A160, H⟩ := H
   (try dsimp only at H)
   have A16 := Aside0.mk A160
   clear A160
   simp only [Option.some.injEq, Prod.mk.injEq] at H
   obtain ⟨rfl, rfl, rfl, rfl⟩ := H
   obtain ⟨Ao17, co17, eo17⟩ := Kd.R_slice HO_7.out
   subst eo17
   have hnb18 := NB667_668.out
   have hnc18 := NB668_667.out
   obtain ⟨hcz19_0, hcz19_1, hfz19_0, hfz19_1⟩ := bx2_ (w := wc) BK667.out
   go_wp2_with (first | ((with_reducible refine gate_callee (f := 33) rfl ?_); refine gl_ 29 Try.func33 #[.int .i64 a1, .int .i64 (wrap64 ((t669.length : Int) - a0_1))] ?_; (with_reducible refine (spec_l1Least.calls a1 (wrap64 ((t669.length : Int) - a0_1)) t674 _ A15.out).mono ?_); rintro e w' ⟨rfl, ⟨nd, rfl⟩⟩; refine ⟨_, rfl, ?_⟩; (try (rw [drewN_self wc]; generalize hq_ : World.drewN wc _ = wc; have n0_ : Aside0 (Kd.R k77 77 wc w.heap.size (fun _ => True) (.slice Ao17 t669.length co17) t669) := ⟨by rw [← hq_]; exact Z1 HO_7.out⟩; have n1_ : Aside0 (wc.heap[gb667]? = some (.cells #[.slice A0_0 l0_0.length c0_0, .int .i64 a0_1] 28 (0, 0))) := ⟨Z216 BK667.out⟩; have n2_ : Aside0 (wc.heap[gb668]? = some (.cells #[.slice none 0 0, .int .i64 0] 28 (0, 0))) := ⟨Z216 BK668.out⟩; have n3_ : Aside0 (Below w.heap.size w wc) := ⟨by rw [← hq_]; exact Z89⟩; clear HO_7 BK667 BK668 HB hq_; have HO_7 := n0_; have BK667 := n1_; have BK668 := n2_; have HB := n3_; clear n0_ n1_ n2_ n3_; obtain ⟨hcz19_0, hcz19_1, hfz19_0, hfz19_1⟩ := bx2_ (w := wc) BK667.out))) | ((with_reducible refine gate_callee (f := 34) rfl ?_); refine gl_ 36 Try.func34 #[.slice A0_0 l0_0.length c0_0, .int .i64 (wrap64 (a0_1 + t674))] ?_; (with_reducible refine (spec_jbOwn.calls _ _ l0_0 (wrap64 (a0_1 + t674)) t675 t678 _ ?_ ?_ A16.out).mono ?_); exact Z10 HR0_0.out; exact HC0_0.out; rintro e w20 ⟨v676, rfl, ho0, hb⟩; refine ⟨_, rfl, ?_⟩; refine k5_ (Ya_ HO_7.out) (Kd.R_lower ho0 (below_size (Z89))) (blk_below (g := gb667) (o := .cells #[.slice A0_0 l0_0.length c0_0, .int .i64 a0_1] 28 (0, 0)) (Z2 BK667.out) hb) (blk_below (g := gb668) (o := .cells #[.slice none 0 0, .int .i64 0] 28 (0, 0)) (Z2 BK668.out) hb) (below_step (Z89) hb) ?_; clear HO_7 BK667 BK668 HB; intro HO_7 HO677 BK667 BK668 HB; (try clear hb ho0); obtain ⟨Ao21, co21, eo21⟩ := Kd.R_slice HO677.out; subst eo21; obtain ⟨hcz22_0, hcz22_1, hfz22_0, hfz22_1⟩ := bx2_ (w := w20) BK668.out))
   refine bodyPost_ret (results_ctt rfl _ _ gb668 28 #[.slice Ao21 t675.length co21, .int .i64 t678] (0, 0) _ rfl (by (with_reducible repeat (first | refine blk_drewN ?_ _ | refine blk_drew ?_ | refine blk_alloc ?_ _)); refine blk_put (cs := #[.slice Ao21 t675.length co21, .int .i64 0]) ?_ 1 _ rfl; (with_reducible repeat (first | refine blk_drewN ?_ _ | refine blk_drew ?_ | refine blk_alloc ?_ _)); refine blk_put (cs := #[.slice none 0 0, .int .i64 0]) ?_ 0 _ rfl; (with_reducible repeat (first | refine blk_drewN ?_ _ | refine blk_drew ?_ | refine blk_alloc ?_ _)); exact BK668.out) Try.underlying28 rfl (by kernel_rfl)) rfl ?_
   exact ⟨_, Z11, by (with_reducible repeat (first | apply Kd.R_alloc | apply Kd.R_drewN | apply Kd.R_drew)); exact Kd.R_mono (Kd.R_far (p := ⟨gb668, 1, none⟩) (Kd.R_far (p := ⟨gb668, 0, none⟩) (Kd.R_types HO677.out BK668.out (by decide)) (fun _ hk => hk.2) (.slice Ao21 t675.length co21)) (fun _ hk => hk.2) (.int .i64 t678)) (fun _ hk => trivial), Z89⟩

end Go.Proofs.Ytflefblmaopaiaa.PFnStops
