-- written by a program of this session: the kit's print, with outer functions of the session's own (wip/ext)
import Derived.Test.YtmnnmddfmmaohaaPFnPunchJobsx0
import Derived.Test.YtmnnmddfmmaohaaPFnPunchJobsx2
import Derived.Test.YtmnnmddfmmaohaaPFnPunchJobsx4
import Derived.Test.YtmnnmddfmmaohaaPFnPunchJobsx9
import Derived.Test.YtmnnmddfmmaohaaPFnPunchJobsx11
namespace Go.Proofs.Ytmnnmddfmmaohaa.PFnPunchJobs
open Go.RowKit Go.Proofs.YtmnnmddfmmaohaaW.PrintWords Go.Proofs.YtmnnmddfmmaohaaW.PrintLast Go.Proofs.YtmnnmddfmmaohaaW.PrintMore
attribute [local go_sem] max2_int min2_int max_two min_two max_three min_three max_four min_four   -- for this text's walks alone
set_option linter.unusedVariables false
set_option linter.unusedSimpArgs false
theorem mo12_ {p : Prop} (h : p := by repeat' first | (with_reducible first | apply impl_IsPunchJob.mono | apply impl_IsPunchJob.mono | apply impl_jobStrokes.mono | apply impl_jobStrokes.mono | apply spec_DrawIsPunchJob.mono | apply spec_DrawIsPunchJob.mono | apply spec_jbStrokes.mono | apply spec_jbStrokes.mono | apply spec_l1Cur_punchJob.mono | apply spec_l1Cur_punchJob.mono | exact LeO.refl _ | exact LeO.none _ | refine LeO.ite ?_ ?_ | refine LeO.bind ?_ (fun _ => ?_)) | exact LeO.none _ | refine LeO.ite ?_ ?_ | refine LeO.bind ?_ (fun _ => ?_)) : p := h

/-! ### spec_StrokesLeft: function 26 -/
def spec_StrokesLeft.f (k : Nat) (l0_0 : List (S90)) (a0_1 : Int) : Option (Int × Bool) := (spec_jbStrokes.f k l0_0 a0_1).bind fun sM => (if sM.2 = true then (some (wrap64 ((sM.1.length : Int) - a0_1), true)) else (some (0, false)))
theorem spec_StrokesLeft.mono : ∀ a0 a1 k, LeO (spec_StrokesLeft.f k a0 a1) (spec_StrokesLeft.f (k + 1) a0 a1) := by
 intro a0 a1 k
 unfold spec_StrokesLeft.f
 exact mo12_
set_option maxHeartbeats 8000000 in
set_option maxRecDepth 100000 in
theorem spec_StrokesLeft.calls (k : Nat) (A0_0 : Option Addr) (c0_0 : Nat) (l0_0 : List (S90)) (a0_1 : Int) (r1 : Int) (r2 : Bool) (w : World) (hr0_0 : Kd.C k90 w A0_0 l0_0.length l0_0) (hc0_0 : l0_0.length ≤ c0_0) (h : spec_StrokesLeft.f k l0_0 a0_1 = some (r1, r2)) :
  Calls Try.prog 26 #[.agg #[.slice A0_0 l0_0.length c0_0, .int .i64 a0_1]] w fun e w' => e = .returned (.tuple #[.int .i64 r1, .bool r2]) ∧ Below w.heap.size w w' := by
 have hu44 := Try.underlying44
 have HR0_0 := Aside0.mk hr0_0
 have HC0_0 := Aside0.mk hc0_0
 clear hr0_0 hc0_0
 have HB := Aside0.mk (Below.refl w.heap.size w)
 have H : ((spec_jbStrokes.f k l0_0 a0_1).bind fun sM => (if sM.2 = true then (some (wrap64 ((sM.1.length : Int) - a0_1), true)) else (some (0, false)))) = some (r1, r2) := h
 clear h
 obtain ⟨⟨G3, t508⟩, A2, H⟩ := bd_ H
 (try dsimp only at H)
 by_cases c3 : t508 = true
 ·subst c3
  rw [if_pos rfl] at H
  simp only [Option.some.injEq, Prod.mk.injEq] at H
  obtain ⟨rfl, rfl⟩ := H
  go_enter Try.func26, Try.ntmps26
  go_wp2_with (first | ((with_reducible refine gate_dst (N := 1) rfl ?_); refine bv_ 1 44 #[.slice A0_0 l0_0.length c0_0, .int .i64 a0_1] ?_; intro sN hg w4 hbox hb; refine k4_ (below_step (Z5) hb) (hbox) ((Z38 : w.heap.size ≤ sN)) ((Z38 : w.heap.size ≤ sN)) ?_; clear HB; intro HB mo GW504 Ds; clear hb hbox hg; obtain ⟨nU, nV, px, nW⟩ := bx2_ (w := w4) mo.out) | ((with_reducible refine gate_callee (f := 68) rfl ?_); refine gl_ 8 Try.func68 #[.agg #[.slice A0_0 l0_0.length c0_0, .int .i64 a0_1]] ?_; (with_reducible refine (spec_jbStrokes.calls k _ _ l0_0 a0_1 G3 true _ ?_ ?_ A2.out).mono ?_); exact (Z15 HR0_0); exact HC0_0.out; rintro e w6 ⟨v506, rfl, ho0, hb⟩; refine ⟨_, rfl, ?_⟩; refine k3_ (Kd.R_lower ho0 (below_size (Z151))) (Ye_ mo) (below_step (Z151) hb) ?_; clear mo HB; intro DU mo HB; (try clear hb ho0); obtain ⟨hG, fw, Cm⟩ := Kd.R_slice DU.out; subst Cm; obtain ⟨fg, fh, fy, fi⟩ := bx2_ (w := w6) mo.out))
  go_ret2
  exact ⟨Z11, Z151⟩
 replace c3 := Bool.eq_false_iff.mpr c3
 subst c3
 rw [if_neg (show ¬ (false = true) by decide)] at H
 simp only [Option.some.injEq, Prod.mk.injEq] at H
 obtain ⟨rfl, rfl⟩ := H
 go_enter Try.func26, Try.ntmps26
 go_wp2_with (first | ((with_reducible refine gate_dst (N := 1) rfl ?_); refine bv_ 1 44 #[.slice A0_0 l0_0.length c0_0, .int .i64 a0_1] ?_; intro sN hg w9 hbox hb; refine k4_ (below_step (Z5) hb) (hbox) ((Z38 : w.heap.size ≤ sN)) ((Z38 : w.heap.size ≤ sN)) ?_; clear HB; intro HB mo GW504 Ds; clear hb hbox hg; obtain ⟨gc, gG, gf, gH⟩ := bx2_ (w := w9) mo.out) | ((with_reducible refine gate_callee (f := 68) rfl ?_); refine gl_ 8 Try.func68 #[.agg #[.slice A0_0 l0_0.length c0_0, .int .i64 a0_1]] ?_; (with_reducible refine (spec_jbStrokes.calls k _ _ l0_0 a0_1 G3 false _ ?_ ?_ A2.out).mono ?_); exact (Z15 HR0_0); exact HC0_0.out; rintro e mN ⟨v506, rfl, ho0, hb⟩; refine ⟨_, rfl, ?_⟩; refine k3_ (Kd.R_lower ho0 (below_size (Z151))) (Ye_ mo) (below_step (Z151) hb) ?_; clear mo HB; intro DU mo HB; (try clear hb ho0)))
 go_ret2
 exact ⟨Z11, Z151⟩

/-! ### spec_l1Cur_mark: function 71 -/
def spec_l1Cur_mark.f (s0_0 : List Int) (s0_1 : Int) (s0_2 : Int) : Option (Int × Int × Int) := (spec_l1Cur_among.f s0_0 s0_1 s0_2 (([0, 51] : List Int))).bind fun ld => ((spec_l1Cur_among.f s0_0 ld.2.1 ld.2.2 (([1, 2, 3, 5, 10, 50, ld.1] : List Int))).bind fun hV => (some (hV.1, hV.2.1, hV.2.2)))
set_option maxHeartbeats 8000000 in
set_option maxRecDepth 100000 in
theorem spec_l1Cur_mark.calls (g : Nat) (s0_0 : List Int) (s0_1 : Int) (s0_2 : Int) (r1 : Int) (r2 : Int) (r3 : Int) (w0 w : World) (hI : IsS69 w0 w g s0_0 s0_1 s0_2) (hB : Below w0.heap.size w0 w) (h : spec_l1Cur_mark.f s0_0 s0_1 s0_2 = some (r1, r2, r3)) :
  Calls Try.prog 71 #[.pointer (some ⟨g, 0, none⟩)] w fun e w' => e = .returned (.int .i64 r1) ∧ IsS69 w0 w' g s0_0 r2 r3 ∧ Below w0.heap.size w0 w' ∧ KeepBut w w' g none := by
 have HI0 := Aside0.mk hI
 have HK := Aside0.mk (KeepBut.refl w g none)
 have HL := Aside0.mk hB.size
 clear hI
 have HW0 := Aside0.mk hB.size
 have HB := Aside0.mk hB
 clear hB
 have H : ((spec_l1Cur_among.f s0_0 s0_1 s0_2 (([0, 51] : List Int))).bind fun ld => ((spec_l1Cur_among.f s0_0 ld.2.1 ld.2.2 (([1, 2, 3, 5, 10, 50, ld.1] : List Int))).bind fun hV => (some (hV.1, hV.2.1, hV.2.2)))) = some (r1, r2, r3) := h
 clear h
 obtain ⟨Fr, sO⟩ : ∃ y_ : List Int, y_ = (([0, 51] : List Int)) := ⟨_, rfl⟩
 replace H : ((spec_l1Cur_among.f s0_0 s0_1 s0_2 Fr).bind fun ld => ((spec_l1Cur_among.f s0_0 ld.2.1 ld.2.2 (([1, 2, 3, 5, 10, 50, ld.1] : List Int))).bind fun hV => (some (hV.1, hV.2.1, hV.2.2)))) = some (r1, r2, r3) := hx_ sO H
 have DV := Aside0.mk sO
 clear sO
 obtain ⟨⟨xS, zu, zv⟩, A2, H⟩ := bd_ H
 (try dsimp only at H)
 obtain ⟨Fs, sP⟩ : ∃ y_ : List Int, y_ = (([1, 2, 3, 5, 10, 50, xS] : List Int)) := ⟨_, rfl⟩
 replace H : ((spec_l1Cur_among.f s0_0 zu zv Fs).bind fun hV => (some (hV.1, hV.2.1, hV.2.2))) = some (r1, r2, r3) := hx_ sP H
 have DW := Aside0.mk sP
 clear sP
 obtain ⟨⟨t518, t519, t520⟩, A3, H⟩ := bd_ H
 (try dsimp only at H)
 simp only [Option.some.injEq, Prod.mk.injEq] at H
 obtain ⟨rfl, rfl, rfl⟩ := H
 go_enter Try.func71, Try.ntmps71
 go_wp2_with (first | ((with_reducible refine gate_dst (N := 5) rfl ?_); refine Kd.R_lit (Kd.int .i64) _ 3 ?hg (N := 5) ?hd (xs := ([0, 51] : List Int)) (inner := [.int .i64 0, .int .i64 51]) (ok := fun _ => True) (okp := fun _ => True) ?hr ?hp (fun _ hk => hk) trivial (Below.refl _ _) (Nat.le_refl _) (by simp) ?_; (case hd => rfl); (case hg => rfl); (case hr => exact Z110); (case hp => exact (Reps.one (show Kd.M (Kd.int .i64) _ _ _ 0 [.int .i64 0] from rfl) (Reps.one (show Kd.M (Kd.int .i64) _ _ _ 51 [.int .i64 51] from rfl) (Reps.none _ _)))); intro v510 w4 ho5 hb hg_ hnew_; clear hg_ hnew_; (first | rw [← DV.out] at ho5 | (simp only [Int.reduceToNat] at ho5; rw [← DV.out] at ho5)); refine k4_ (Kd.R_lower ho5 (keep_size (w := w) (g := g) (row := none) (Z9))) (IsS69.below (Z8 HI0) hb) (KeepBut.trans (Z9) (KeepBut.of_below hb g none) (.inl rfl)) (below_step (Z10) hb) ?_; clear HI0 HK HB; intro ix HI0 HK HB; clear hb ho5; obtain ⟨Ch, Ci, GX⟩ := Kd.R_slice ix.out; subst GX) | ((with_reducible refine gate_callee (f := 46) rfl ?_); refine gl_ 6 Try.func46 #[.pointer (some ⟨g, 0, none⟩), .slice Ch Fr.length Ci] ?_; (with_reducible refine (spec_l1Cur_among.calls g s0_0 s0_1 s0_2 _ _ Fr xS zu zv w0 _ ?_ ?_ ?_ ?_ ?_ A2.out).mono ?_); exact (Z8 HI0); exact Z10; exact (Z7 ix); exact (Kd.R_reads' ix.out).2.1; exact far_slice (IsS69.own_ne HI0.out ix.out (by decide)); rintro e w7 ⟨rfl, hi, hb, hk⟩; refine ⟨_, rfl, ?_⟩; refine k4_ (Kd.R_mono (Kd.R_keep (IsS69.apart (show IsS69 w0 _ g s0_0 s0_1 s0_2 from Z8 HI0) (Z2 ix) (by decide)) hk (fun _ h => h.2)) (fun _ h => h.1)) (KeepBut.trans (Z9) hk (.inl rfl)) (hb) (hi) ?_; clear ix HK HB HI0; intro ix HK HB HI0; (try clear hb hk hi)) | ((with_reducible refine gate_dst (N := 7) rfl ?_); refine Kd.R_lit (Kd.int .i64) _ 3 ?hg (N := 7) ?hd (xs := ([1, 2, 3, 5, 10, 50, xS] : List Int)) (inner := [.int .i64 1, .int .i64 2, .int .i64 3, .int .i64 5, .int .i64 10, .int .i64 50, .int .i64 xS]) (ok := fun _ => True) (okp := fun _ => True) ?hr ?hp (fun _ hk => hk) trivial (Below.refl _ _) (Nat.le_refl _) (by simp) ?_; (case hd => rfl); (case hg => rfl); (case hr => exact Z110); (case hp => exact (Reps.one (show Kd.M (Kd.int .i64) _ _ _ 1 [.int .i64 1] from rfl) (Reps.one (show Kd.M (Kd.int .i64) _ _ _ 2 [.int .i64 2] from rfl) (Reps.one (show Kd.M (Kd.int .i64) _ _ _ 3 [.int .i64 3] from rfl) (Reps.one (show Kd.M (Kd.int .i64) _ _ _ 5 [.int .i64 5] from rfl) (Reps.one (show Kd.M (Kd.int .i64) _ _ _ 10 [.int .i64 10] from rfl) (Reps.one (show Kd.M (Kd.int .i64) _ _ _ 50 [.int .i64 50] from rfl) (Reps.one (show Kd.M (Kd.int .i64) _ _ _ xS [.int .i64 xS] from rfl) (Reps.none _ _))))))))); intro v516 w8 ho9 hb hg_ hnew_; clear hg_ hnew_; (first | rw [← DW.out] at ho9 | (simp only [Int.reduceToNat] at ho9; rw [← DW.out] at ho9)); refine k5_ (Kd.R_elder' (Z2 ix) (Kd.R_base ho9) hb) (Kd.R_lower (Kd.R_new' ho9 (Yd_ ix)) (keep_size (w := w) (g := g) (row := none) (Z9))) (IsS69.below (Z8 HI0) hb) (KeepBut.trans (Z9) (KeepBut.of_below hb g none) (.inl rfl)) (below_step (Z10) hb) ?_; clear ix HI0 HK HB; intro ix pz HI0 HK HB; clear hb ho9; obtain ⟨G4, Ft, xT⟩ := Kd.R_slice pz.out; subst xT) | ((with_reducible refine gate_callee (f := 46) rfl ?_); refine gl_ 8 Try.func46 #[.pointer (some ⟨g, 0, none⟩), .slice G4 Fs.length Ft] ?_; (with_reducible refine (spec_l1Cur_among.calls g s0_0 zu zv _ _ Fs t518 t519 t520 w0 _ ?_ ?_ ?_ ?_ ?_ A3.out).mono ?_); exact (Z8 HI0); exact Z10; exact (Z7 pz); exact (Kd.R_reads' pz.out).2.1; exact far_slice (IsS69.own_ne HI0.out pz.out (by decide)); rintro e mN ⟨rfl, hi, hb, hk⟩; refine ⟨_, rfl, ?_⟩; refine k5_ (Kd.R_mono (Kd.R_keep (IsS69.apart (show IsS69 w0 _ g s0_0 zu zv from Z8 HI0) (Z2 ix) (by decide)) hk (fun _ h => h.2)) (fun _ h => h.1)) (Kd.R_mono (Kd.R_keep (IsS69.apart (show IsS69 w0 _ g s0_0 zu zv from Z8 HI0) (Z2 pz) (by decide)) hk (fun _ h => h.2)) (fun _ h => h.1)) (KeepBut.trans (Z9) hk (.inl rfl)) (hb) (hi) ?_; clear ix pz HK HB HI0; intro ix pz HK HB HI0; (try clear hb hk hi)))
 go_ret
 exact ⟨Z11, Z8 HI0, Z10, Z9⟩

/-! ### spec_DrawResumeAt: function 27 -/
def spec_DrawResumeAt.f (k : Nat) (l0 : List Int) : Option ((List (S90)) × Int × Int) := (spec_l1Cur_punchJob.f k l0 0 0).bind fun ng => ((spec_l1Cur_mark.f l0 ng.2.2.1 ng.2.2.2).bind fun zw => (some (ng.1, ng.2.1, zw.1)))
theorem spec_DrawResumeAt.mono : ∀ a0 k, LeO (spec_DrawResumeAt.f k a0) (spec_DrawResumeAt.f (k + 1) a0) := by
 intro a0 k
 unfold spec_DrawResumeAt.f
 exact mo12_
set_option maxHeartbeats 8000000 in
set_option maxRecDepth 100000 in
theorem spec_DrawResumeAt.calls (k : Nat) (A0 : Option Addr) (c0 : Nat) (l0 : List Int) (r1 : List (S90)) (r2 : Int) (r3 : Int) (w : World) (hr0 : Kd.C (Kd.int .u8) w A0 l0.length l0) (hc0 : l0.length ≤ c0) (h : spec_DrawResumeAt.f k l0 = some (r1, r2, r3)) :
  Calls Try.prog 27 #[.slice A0 l0.length c0] w fun e w' => ∃ v0_ : Value, e = .returned (.tuple #[.agg #[v0_, .int .i64 r2], .int .i64 r3]) ∧ Kd.R k90 90 w' w.heap.size (fun _ => True) v0_ r1 ∧ Below w.heap.size w w' := by
 have hu44 := Try.underlying44
 have hu69 := Try.underlying69
 have HR0 := Aside0.mk hr0
 have HC0 := Aside0.mk hc0
 clear hr0 hc0
 have HB := Aside0.mk (Below.refl w.heap.size w)
 have H : ((spec_l1Cur_punchJob.f k l0 0 0).bind fun ng => ((spec_l1Cur_mark.f l0 ng.2.2.1 ng.2.2.2).bind fun zw => (some (ng.1, ng.2.1, zw.1)))) = some (r1, r2, r3) := h
 clear h
 obtain ⟨⟨Cn, Fu, Fv, Fw⟩, A2, H⟩ := bd_ H
 (try dsimp only at H)
 obtain ⟨⟨t529, t530, t531⟩, A3, H⟩ := bd_ H
 (try dsimp only at H)
 simp only [Option.some.injEq, Prod.mk.injEq] at H
 obtain ⟨rfl, rfl, rfl⟩ := H
 go_enter Try.func27, Try.ntmps27
 go_wp2_with (first | ((with_reducible refine gate_dst (N := 2) rfl ?_); refine bv_ 2 44 #[.slice none 0 0, .int .i64 0] ?_; intro lf hg w4 hbox hb; refine k4_ (below_step (Z5) hb) (hbox) ((Z38 : w.heap.size ≤ lf)) ((Z38 : w.heap.size ≤ lf)) ?_; clear HB; intro HB iy GW521 Do; clear hb hbox hg) | ((with_reducible refine gate_dst (N := 7) rfl ?_); refine bv_ 7 69 #[.slice A0 l0.length c0, .int .i64 0, .int .u64 0] ?_; intro mq hg w5 hbox hb; refine k7_ (Ye_ iy) (below_step (Z179) hb) ((show IsS69 w w5 mq l0 0 0 from ⟨_, _, hbox, (by rw [hg]; exact (below_size (Z179))), HR0.out⟩)) ((by rw [hg]; exact (below_size (Z179)) : w.heap.size ≤ mq)) ((by rw [hg]; exact (below_size (Z179)) : w.heap.size ≤ mq)) ((by rw [hg]; exact Nat.ne_of_lt (blk_lt (g := lf) (o := .cells #[.slice none 0 0, .int .i64 0] 44 (0, 0)) (Z1 iy)) : lf ≠ mq)) ((by rw [hg]; exact Nat.ne_of_gt (blk_lt (g := lf) (o := .cells #[.slice none 0 0, .int .i64 0] 44 (0, 0)) (Z1 iy)) : mq ≠ lf)) ?_; clear iy HB; intro iy HB HI522 GW522 GE522 nX qJ; clear hb hbox hg) | ((with_reducible refine gate_callee (f := 65) rfl ?_); refine gl_ 9 Try.func65 #[.pointer (some ⟨mq, 0, none⟩)] ?_; (with_reducible refine (spec_l1Cur_punchJob.calls k mq l0 0 0 Cn Fu Fv Fw w _ ?_ ?_ A2.out).mono ?_); exact Z191; exact Z169; rintro e w6 ⟨v524, rfl, ho0, hi, hb, hk⟩; refine ⟨_, rfl, ?_⟩; refine k4_ (KeepBut.blk hk (g' := lf) (o := .cells #[.slice none 0 0, .int .i64 0] 44 (0, 0)) (Z1 iy) nX.out (by simp)) (Kd.R_lower ho0 (below_size (Z169))) (hb) (hi) ?_; clear iy HB HI522; intro iy sQ HB HI522; (try clear hb hk hi ho0)) | ((with_reducible refine gate_callee (f := 71) rfl ?_); refine gl_ 11 Try.func71 #[.pointer (some ⟨mq, 0, none⟩)] ?_; (with_reducible refine (spec_l1Cur_mark.calls mq l0 Fv Fw t529 t530 t531 w _ ?_ ?_ A3.out).mono ?_); exact Z191; exact Z169; rintro e w7 ⟨rfl, hi, hb, hk⟩; refine ⟨_, rfl, ?_⟩; refine k4_ (KeepBut.blk hk (g' := lf) (o := .cells #[.slice none 0 0, .int .i64 0] 44 (0, 0)) (Z1 iy) nX.out (by simp)) (Kd.R_mono (Kd.R_keep (IsS69.apart (show IsS69 w _ mq l0 Fv Fw from Z191) (Z2 sQ) (by decide)) hk (fun _ h => h.2)) (fun _ h => h.1)) (hb) (hi) ?_; clear iy sQ HB HI522; intro iy sQ HB HI522; (try clear hb hk hi); obtain ⟨mO, mM, zr⟩ := Kd.R_slice sQ.out; subst zr; have Fx := nX.out; have Fy := qJ.out; obtain ⟨gc, gG, gf, gH⟩ := bx2_ (w := w7) iy.out))
 refine bodyPost_ret (results_ct rfl _ _ lf 44 #[.slice mO Cn.length mM, .int .i64 Fu] (0, 0) _ rfl (by (with_reducible repeat (first | refine blk_drewN ?_ _ | refine blk_drew ?_ | refine blk_alloc ?_ _)); refine blk_put (cs := #[.slice mO Cn.length mM, .int .i64 0]) ?_ 1 _ rfl; (with_reducible repeat (first | refine blk_drewN ?_ _ | refine blk_drew ?_ | refine blk_alloc ?_ _)); refine blk_put (cs := #[.slice none 0 0, .int .i64 0]) ?_ 0 _ rfl; (with_reducible repeat (first | refine blk_drewN ?_ _ | refine blk_drew ?_ | refine blk_alloc ?_ _)); exact iy.out) Try.underlying44 rfl (by kernel_rfl)) rfl ?_
 exact ⟨_, Z11, by (with_reducible repeat (first | apply Kd.R_alloc | apply Kd.R_drewN | apply Kd.R_drew)); exact Kd.R_mono (Kd.R_far (p := ⟨lf, 1, none⟩) (Kd.R_far (p := ⟨lf, 0, none⟩) (Kd.R_types sQ.out iy.out (by decide)) (fun _ hk => hk.2) (.slice mO Cn.length mM)) (fun _ hk => hk.2) (.int .i64 Fu)) (fun _ hk => trivial), Z169⟩

/-! ### impl_IsPunchJob: function 41 -/
def impl_IsPunchJob.f (k : Nat) (l0_0 : List (S90)) (a0_1 : Int) : Option (Bool) := (impl_jobStrokes.f k l0_0 a0_1).bind fun zx => (some zx.2)
theorem impl_IsPunchJob.mono : ∀ a0 a1 k, LeO (impl_IsPunchJob.f k a0 a1) (impl_IsPunchJob.f (k + 1) a0 a1) := by
 intro a0 a1 k
 unfold impl_IsPunchJob.f
 exact mo12_
set_option maxHeartbeats 8000000 in
set_option maxRecDepth 100000 in
theorem impl_IsPunchJob.calls (k : Nat) (A0_0 : Option Addr) (c0_0 : Nat) (l0_0 : List (S90)) (a0_1 : Int) (r : Bool) (w : World) (hr0_0 : Kd.C k90 w A0_0 l0_0.length l0_0) (hc0_0 : l0_0.length ≤ c0_0) (h : impl_IsPunchJob.f k l0_0 a0_1 = some r) :
  Calls Try.prog 41 #[.agg #[.slice A0_0 l0_0.length c0_0, .int .i64 a0_1]] w fun e w' => e = .returned (.bool r) ∧ Below w.heap.size w w' := by
 have hu44 := Try.underlying44
 have HR0_0 := Aside0.mk hr0_0
 have HC0_0 := Aside0.mk hc0_0
 clear hr0_0 hc0_0
 have HB := Aside0.mk (Below.refl w.heap.size w)
 have H : ((impl_jobStrokes.f k l0_0 a0_1).bind fun zx => (some zx.2)) = some r := h
 clear h
 obtain ⟨⟨t533, G5⟩, A2, H⟩ := bd_ H
 replace H : (some G5) = some r := H
 obtain rfl := Option.some.inj H
 go_enter Try.func41, Try.ntmps41
 go_wp2_with (first | ((with_reducible refine gate_dst (N := 1) rfl ?_); refine bv_ 1 44 #[.slice A0_0 l0_0.length c0_0, .int .i64 a0_1] ?_; intro DX hg w3 hbox hb; refine k4_ (below_step (Z5) hb) (hbox) ((Z38 : w.heap.size ≤ DX)) ((Z38 : w.heap.size ≤ DX)) ?_; clear HB; intro HB wW GW532 GE532; clear hb hbox hg; obtain ⟨zb, zc, zd, ze⟩ := bx2_ (w := w3) wW.out) | ((with_reducible refine gate_callee (f := 66) rfl ?_); refine gl_ 7 Try.func66 #[.agg #[.slice A0_0 l0_0.length c0_0, .int .i64 a0_1]] ?_; (with_reducible refine (impl_jobStrokes.calls k _ _ l0_0 a0_1 t533 G5 _ ?_ ?_ A2.out).mono ?_); exact (Z15 HR0_0); exact HC0_0.out; rintro e w5 ⟨v534, rfl, ho0, hb⟩; refine ⟨_, rfl, ?_⟩; refine k3_ (Kd.R_lower ho0 (below_size (Z217))) (Ye_ wW) (below_step (Z217) hb) ?_; clear wW HB; intro HO535 wW HB; (try clear hb ho0)))
 go_ret
 exact ⟨Z11, Z217⟩

/-! ### impl_isMark: function 72 -/
def impl_isMark.f (a0 : Int) : Option (Bool) := if a0 ≥ 1 then (some (decide (a0 ≤ 50))) else (some false)
set_option maxHeartbeats 8000000 in
set_option maxRecDepth 100000 in
theorem impl_isMark.calls (a0 : Int) (r : Bool) (w : World) (h : impl_isMark.f a0 = some r) :
  Calls Try.prog 72 #[.int .i64 a0] w fun e w' => e = .returned (.bool r) ∧ Drawn0 w w' := by
 have H : (if a0 ≥ 1 then (some (decide (a0 ≤ 50))) else (some false)) = some r := h
 clear h
 by_cases c2 : a0 ≥ 1
 ·rw [if_pos c2] at H
  have hP : decide (1 ≤ a0) = true := decide_eq_true c2
  clear c2
  obtain rfl := Option.some.inj H
  go_enter Try.func72, Try.ntmps72
  go_wp2
  go_ret
  exact ⟨Z41, Z138⟩
 rw [if_neg c2] at H
 have hP : decide (1 ≤ a0) = false := decide_eq_false c2
 clear c2
 obtain rfl := Option.some.inj H
 go_enter Try.func72, Try.ntmps72
 go_wp2
 go_ret
 exact ⟨Z41, Z138⟩

/-! ### impl_ResumeAt: function 28 -/
def impl_ResumeAt.f (k : Nat) (l0_0 : List (S90)) (a0_1 : Int) (a1 : Int) : Option ((List (S90)) × Int × Int × Bool) := (impl_IsPunchJob.f k l0_0 a0_1).bind fun zy => (if zy = true then ((impl_isMark.f a1).bind fun zz => (if zz = true then (if a1 = 0 then (none) else ((impl_jobAt.f l0_0 (wrap64 (a0_1 - (Int.tmod a0_1 a1)))).bind fun sR => (some (sR.1, sR.2, Int.tmod a0_1 a1, true)))) else (some (([] : List (S90)), 0, 0, false)))) else (some (([] : List (S90)), 0, 0, false)))
theorem impl_ResumeAt.mono : ∀ a0 a1 a2 k, LeO (impl_ResumeAt.f k a0 a1 a2) (impl_ResumeAt.f (k + 1) a0 a1 a2) := by
 intro a0 a1 a2 k
 unfold impl_ResumeAt.f
 exact mo12_
def impl_ResumeAt.T3 : Bool × List (List Nat × List Nat) := (true, [([], []), ([0], [0]), ([], []), ([2], [2]), ([], []), ([4], [4]), ([], []), ([5, 6], [5, 6]), ([3, 7], [3, 7]), ([1, 8], [1, 8]), ([], []), ([10], [10]), ([], []), ([11, 12], [11, 12]), ([9, 9, 0, 1, 2, 3, 4, 5, 6, 7, 8, 9], [9]), ([13, 14, 0, 1, 2, 3, 4, 5, 6, 7, 8, 9, 10, 11, 12, 13, 14], [13]), ([15, 0, 1, 2, 3, 4, 5, 6, 7, 8, 9, 10, 11, 12, 13, 14, 15], [])])
def impl_ResumeAt.B3 : List Nat := [0, 1, 0, 4, 0, 16, 0, 112, 252, 511, 0, 1024, 0, 7168, 1023, 32767, 65535]
theorem impl_ResumeAt.tab3 : rtab .any (opsOf Try.f28 3) = impl_ResumeAt.T3 := by kernel_rfl
theorem impl_ResumeAt.bits3 : waitsOk impl_ResumeAt.T3.2 impl_ResumeAt.B3 = true := by kernel_rfl
set_option maxHeartbeats 8000000 in
set_option maxRecDepth 100000 in
theorem impl_ResumeAt.calls (k : Nat) (A0_0 : Option Addr) (c0_0 : Nat) (l0_0 : List (S90)) (a0_1 : Int) (a1 : Int) (r1 : List (S90)) (r2 : Int) (r3 : Int) (r4 : Bool) (w : World) (hr0_0 : Kd.C k90 w A0_0 l0_0.length l0_0) (hc0_0 : l0_0.length ≤ c0_0) (h : impl_ResumeAt.f k l0_0 a0_1 a1 = some (r1, r2, r3, r4)) :
  Calls Try.prog 28 #[.agg #[.slice A0_0 l0_0.length c0_0, .int .i64 a0_1], .int .i64 a1] w fun e w' => ∃ v0_ : Value, e = .returned (.tuple #[.agg #[v0_, .int .i64 r2], .int .i64 r3, .bool r4]) ∧ Kd.R k90 90 w' w.heap.size (fun _ => True) v0_ r1 ∧ Below w.heap.size w w' := by
 have hu44 := Try.underlying44
 have HR0_0 := Aside0.mk hr0_0
 have HC0_0 := Aside0.mk hc0_0
 clear hr0_0 hc0_0
 have HB := Aside0.mk (Below.refl w.heap.size w)
 have H : ((impl_IsPunchJob.f k l0_0 a0_1).bind fun zy => (if zy = true then ((impl_isMark.f a1).bind fun zz => (if zz = true then (if a1 = 0 then (none) else ((impl_jobAt.f l0_0 (wrap64 (a0_1 - (Int.tmod a0_1 a1)))).bind fun sR => (some (sR.1, sR.2, Int.tmod a0_1 a1, true)))) else (some (([] : List (S90)), 0, 0, false)))) else (some (([] : List (S90)), 0, 0, false)))) = some (r1, r2, r3, r4) := h
 clear h
 obtain ⟨zy, A3, H⟩ := bd_ H
 (try dsimp only at H)
 by_cases c4 : zy = true
 ·subst c4
  rw [if_pos rfl] at H
  obtain ⟨zz, A5, H⟩ := bd_ H
  (try dsimp only at H)
  by_cases c6 : zz = true
  ·subst c6
   rw [if_pos rfl] at H
   by_cases c7 : a1 = 0
   ·rw [if_pos c7] at H
    exact absurd H (by simp)
   rw [if_neg c7] at H
   have sS : (a1 == 0) = false := beq_eq_false_iff_ne.mpr c7
   have G6 : (a1 != 0) = true := bne_iff_ne.mpr c7
   obtain ⟨⟨Co, Fz⟩, A8, H⟩ := bd_ H
   (try dsimp only at H)
   simp only [Option.some.injEq, Prod.mk.injEq] at H
   obtain ⟨rfl, rfl, rfl, rfl⟩ := H
   go_enter Try.func28, Try.ntmps28
   try go_wp2_with (first | ((with_reducible refine gate_dst (N := 2) rfl ?_); refine bv_ 2 44 #[.slice A0_0 l0_0.length c0_0, .int .i64 a0_1] ?_; intro fX hg w9 hbox hb; refine k4_ (below_step (Z5) hb) (hbox) ((Z38 : w.heap.size ≤ fX)) ((Z38 : w.heap.size ≤ fX)) ?_; clear HB; intro HB d1 DY v2; clear hb hbox hg) | ((with_reducible refine gate_dst (N := 4) rfl ?_); refine bv_ 4 44 #[.slice none 0 0, .int .i64 0] ?_; intro fk hg oB hbox hb; refine k7_ (Ye_ d1) (below_step (Z125) hb) (hbox) ((Z246 : w.heap.size ≤ fk)) ((Z246 : w.heap.size ≤ fk)) ((Z226 : fX ≠ fk)) ((Z227 : fk ≠ fX)) ?_; clear d1 HB; intro d1 HB eE DZ yV fl gx; clear hb hbox hg; have D0 := fl.out; have D1 := gx.out; obtain ⟨gC, gD, gE, gF⟩ := bx2_ (w := oB) d1.out) | ((with_reducible refine gate_callee (f := 41) rfl ?_); refine gl_ 8 Try.func41 #[.agg #[.slice A0_0 l0_0.length c0_0, .int .i64 a0_1]] ?_; (with_reducible refine (impl_IsPunchJob.calls k _ _ l0_0 a0_1 true _ ?_ ?_ A3.out).mono ?_); exact (Z15 HR0_0); exact HC0_0.out; rintro e lG ⟨rfl, hb⟩; refine ⟨_, rfl, ?_⟩; refine k3_ (Ye_ d1) (Ye_ eE) (below_step (Z97) hb) ?_; clear d1 eE HB; intro d1 eE HB; (try clear hb)) | (go_at_call 72; (with_reducible refine (impl_isMark.calls a1 true _ A5.out).mono ?_); rintro e w' ⟨rfl, ⟨nd, rfl⟩⟩; (try (rw [drewN_self lG]; generalize hq_ : World.drewN lG _ = lG; have n0_ : Aside0 (lG.heap[fX]? = some (.cells #[.slice A0_0 l0_0.length c0_0, .int .i64 a0_1] 44 (0, 0))) := ⟨by rw [← hq_]; exact (Z1 d1)⟩; have n1_ : Aside0 (lG.heap[fk]? = some (.cells #[.slice none 0 0, .int .i64 0] 44 (0, 0))) := ⟨by rw [← hq_]; exact (Z1 eE)⟩; have n2_ : Aside0 (Below w.heap.size w lG) := ⟨by rw [← hq_]; exact Z97⟩; clear d1 eE HB hq_; have d1 := n0_; have eE := n1_; have HB := n2_; clear n0_ n1_ n2_))))
   refine k3_ (blk_drew d1.out) (blk_drew eE.out) (below_drew1 HB.out) ?_
   clear d1 eE HB
   intro d1 eE HB
   refine start_ (n := 17) (S := fun w' => w'.cell? ⟨fX, 0, none⟩ = some (.slice A0_0 l0_0.length c0_0) ∧ w'.cell? ⟨fX, 1, none⟩ = some (.int .i64 a0_1)) (ds := []) (M_ 0 17) (by kernel_rfl) rfl rfl ⟨(blk_cell d1.out 0).trans rfl, (blk_cell d1.out 1).trans rfl⟩ (fun hHeld => ?_); refine with_tabW impl_ResumeAt.tab3 impl_ResumeAt.bits3 (fun HT_ HW_ => ?_)
   generalize lG.drew = oC at d1 eE HB hHeld ⊢
   refine pu_ 0 16 (M_ 1 16) ?_
   refine pu_ 2 18 (N_ 17 5) ?_
   refine pu_ 4 20 (N_ 17 21) ?_
   refine pu_ 6 22 (N_ 17 85) ?_
   refine pu_ 10 26 (N_ 17 1109) ?_
   refine pu_ 12 28 (N_ 17 5205) ?_
   refine tk2_ 1 17 (N_ 17 5207) hHeld ?_
   refine tk2_ 3 19 (N_ 17 5215) hHeld ?_
   refine tk2_ 5 21 (N_ 17 5247) hHeld ?_
   refine pu_ 7 23 (N_ 17 5375) ?_
   refine pu_ 8 24 (N_ 17 5631) ?_
   refine tk2_ 11 27 (N_ 17 7679) hHeld ?_
   refine pu_ 13 29 (N_ 17 15871) ?_
   refine one_ (i := 9) (N := some 25) (M_ 14 3) rfl rfl (one_of HT_.out (by kernel_rfl)) (by decide) (fun K hK => ?_)
   refine goes_ Try.func67 (by kernel_rfl) rfl #[.slice A0_0 l0_0.length c0_0, .int .i64 (wrap64 (a0_1 - (Int.tmod a0_1 a1)))] (by rfl) rfl rfl (Z107) ?_
   with_reducible refine (impl_jobAt.calls _ _ l0_0 (wrap64 (a0_1 - (Int.tmod a0_1 a1))) Co Fz _ ?side1 ?side2 A8.out).mono ?_
   (case side1 => exact Z15 HR0_0)
   (case side2 => exact HC0_0.out)
   rintro e qt ⟨v542, rfl, ho0, hb⟩
   refine ⟨_, rfl, ?_⟩
   refine k4_ (Kd.R_lower ho0 (below_size (Z97))) (Ye_ d1) (Ye_ eE) (below_step (Z97) hb) ?_
   clear d1 eE HB
   intro D2 d1 eE HB
   (try clear hb)
   (try clear hb2)
   (try clear hk)
   (try clear hi)
   (try clear ho0)
   obtain ⟨pA, pB, rg⟩ := Kd.R_slice D2.out
   (first | subst rg | (injection rg with f1_ f2_ f3_; have f4_ := f1_.symm; have f5_ := f3_.symm; clear f1_ f2_ f3_; subst f4_; subst f5_))
   refine hK.out _ _ ⟨(blk_cell d1.out 0).trans rfl, (blk_cell d1.out 1).trans rfl⟩ (fun hHeld => ?_)
   clear hK K
   refine norm_ (a' := ?_) ?_ ?_
   rotate_left
   ·show Act.put _ (some 25) _ = _
    simp only [Act.put, List.setIfInBounds_toArray, List.set_cons_zero, List.set_cons_succ, i64_w, i32_w]
    rfl
   refine one_ (i := 14) (N := none) (M_ 15 2) rfl rfl (one_of HT_.out (by kernel_rfl)) (by decide) (fun K hK => ?_)
   have hs17 : qt.cell? ⟨fk, 0, none⟩ = some (.slice none 0 0) := (blk_cell eE.out 0).trans rfl
   have hfs17 := blk_frozen eE.out 0
   have hns17_0 := fl.out
   have hms17_0 := gx.out
   have hs18 : qt.cell? ⟨fk, 1, none⟩ = some (.int .i64 0) := (blk_cell eE.out 1).trans rfl
   have hfs18 := blk_frozen eE.out 1
   have hns18_0 := fl.out
   have hms18_0 := gx.out
   refine skip_ (w1 := ?_) (by rfl) rfl ?_ ?_
   rotate_left
   ·go_simp
    rfl
   refine hK.out _ _ ⟨((cell_far (p := ⟨fk, _, none⟩) fl.out _).trans (((cell_far (p := ⟨fk, _, none⟩) fl.out _).trans (hHeld.1)))), ((cell_far (p := ⟨fk, _, none⟩) fl.out _).trans (((cell_far (p := ⟨fk, _, none⟩) fl.out _).trans (hHeld.2))))⟩ (fun hHeld => ?_)
   clear hK K
   refine pu_ 15 5 (M_ 16 1) ?_
   refine pu_ 16 6 (M_ 17 0) ?_
   refine done_ (done_of HT_.out (by kernel_rfl)) ?_
   try go_wp2
   refine bodyPost_ret (results_ctt rfl _ _ fk 44 #[.slice pA Co.length pB, .int .i64 Fz] (0, 0) _ rfl (by (with_reducible repeat (first | refine blk_drewN ?_ _ | refine blk_drew ?_ | refine blk_alloc ?_ _)); refine blk_put (cs := #[.slice pA Co.length pB, .int .i64 0]) ?_ 1 _ rfl; (with_reducible repeat (first | refine blk_drewN ?_ _ | refine blk_drew ?_ | refine blk_alloc ?_ _)); refine blk_put (cs := #[.slice none 0 0, .int .i64 0]) ?_ 0 _ rfl; (with_reducible repeat (first | refine blk_drewN ?_ _ | refine blk_drew ?_ | refine blk_alloc ?_ _)); exact eE.out) Try.underlying44 rfl (by kernel_rfl)) rfl ?_
   exact ⟨_, Z11, by (with_reducible repeat (first | apply Kd.R_alloc | apply Kd.R_drewN | apply Kd.R_drew)); exact Kd.R_mono (Kd.R_far (p := ⟨fk, 1, none⟩) (Kd.R_far (p := ⟨fk, 0, none⟩) (Kd.R_types D2.out eE.out (by decide)) (fun _ hk => hk.2) (.slice pA Co.length pB)) (fun _ hk => hk.2) (.int .i64 Fz)) (fun _ hk => trivial), Z97⟩
  replace c6 := Bool.eq_false_iff.mpr c6
  subst c6
  rw [if_neg (show ¬ (false = true) by decide)] at H
  simp only [Option.some.injEq, Prod.mk.injEq] at H
  obtain ⟨rfl, rfl, rfl, rfl⟩ := H
  go_enter Try.func28, Try.ntmps28
  go_wp2_with (first | ((with_reducible refine gate_dst (N := 2) rfl ?_); refine bv_ 2 44 #[.slice A0_0 l0_0.length c0_0, .int .i64 a0_1] ?_; intro fX hg yZ hbox hb; refine k4_ (below_step (Z5) hb) (hbox) ((Z38 : w.heap.size ≤ fX)) ((Z38 : w.heap.size ≤ fX)) ?_; clear HB; intro HB d1 DY v2; clear hb hbox hg) | ((with_reducible refine gate_dst (N := 4) rfl ?_); refine bv_ 4 44 #[.slice none 0 0, .int .i64 0] ?_; intro fk hg ss hbox hb; refine k7_ (Ye_ d1) (below_step (Z125) hb) (hbox) ((Z246 : w.heap.size ≤ fk)) ((Z246 : w.heap.size ≤ fk)) ((Z226 : fX ≠ fk)) ((Z227 : fk ≠ fX)) ?_; clear d1 HB; intro d1 HB eE DZ yV fl gx; clear hb hbox hg; have hnb21 := fl.out; have hnc21 := gx.out; obtain ⟨hcz22_0, hcz22_1, hfz22_0, hfz22_1⟩ := bx2_ (w := ss) d1.out) | ((with_reducible refine gate_callee (f := 41) rfl ?_); refine gl_ 8 Try.func41 #[.agg #[.slice A0_0 l0_0.length c0_0, .int .i64 a0_1]] ?_; (with_reducible refine (impl_IsPunchJob.calls k _ _ l0_0 a0_1 true _ ?_ ?_ A3.out).mono ?_); exact (Z15 HR0_0); exact HC0_0.out; rintro e st ⟨rfl, hb⟩; refine ⟨_, rfl, ?_⟩; refine k3_ (Ye_ d1) (Ye_ eE) (below_step (Z97) hb) ?_; clear d1 eE HB; intro d1 eE HB; (try clear hb)) | (go_at_call 72; (with_reducible refine (impl_isMark.calls a1 false _ A5.out).mono ?_); rintro e w' ⟨rfl, ⟨nd, rfl⟩⟩; (try (rw [drewN_self st]; generalize hq_ : World.drewN st _ = st; have n0_ : Aside0 (st.heap[fX]? = some (.cells #[.slice A0_0 l0_0.length c0_0, .int .i64 a0_1] 44 (0, 0))) := ⟨by rw [← hq_]; exact (Z1 d1)⟩; have n1_ : Aside0 (st.heap[fk]? = some (.cells #[.slice none 0 0, .int .i64 0] 44 (0, 0))) := ⟨by rw [← hq_]; exact (Z1 eE)⟩; have n2_ : Aside0 (Below w.heap.size w st) := ⟨by rw [← hq_]; exact Z97⟩; clear d1 eE HB hq_; have d1 := n0_; have eE := n1_; have HB := n2_; clear n0_ n1_ n2_)); obtain ⟨wK, wL, wM, wN⟩ := bx2_ (w := st) eE.out))
  refine bodyPost_ret (results_ctt rfl _ _ fk 44 #[.slice none 0 0, .int .i64 0] (0, 0) _ rfl (Z48 eE) Try.underlying44 rfl (by kernel_rfl)) rfl ?_
  exact ⟨_, Z11, Z44, Z97⟩
 replace c4 := Bool.eq_false_iff.mpr c4
 subst c4
 rw [if_neg (show ¬ (false = true) by decide)] at H
 simp only [Option.some.injEq, Prod.mk.injEq] at H
 obtain ⟨rfl, rfl, rfl, rfl⟩ := H
 go_enter Try.func28, Try.ntmps28
 go_wp2_with (first | ((with_reducible refine gate_dst (N := 2) rfl ?_); refine bv_ 2 44 #[.slice A0_0 l0_0.length c0_0, .int .i64 a0_1] ?_; intro fX hg qN hbox hb; refine k4_ (below_step (Z5) hb) (hbox) ((Z38 : w.heap.size ≤ fX)) ((Z38 : w.heap.size ≤ fX)) ?_; clear HB; intro HB d1 DY v2; clear hb hbox hg) | ((with_reducible refine gate_dst (N := 4) rfl ?_); refine bv_ 4 44 #[.slice none 0 0, .int .i64 0] ?_; intro fk hg D3 hbox hb; refine k7_ (Ye_ d1) (below_step (Z125) hb) (hbox) ((Z246 : w.heap.size ≤ fk)) ((Z246 : w.heap.size ≤ fk)) ((Z226 : fX ≠ fk)) ((Z227 : fk ≠ fX)) ?_; clear d1 HB; intro d1 HB eE DZ yV fl gx; clear hb hbox hg; have hnb27 := fl.out; have hnc27 := gx.out; obtain ⟨wX, wY, wZ, xa⟩ := bx2_ (w := D3) d1.out) | ((with_reducible refine gate_callee (f := 41) rfl ?_); refine gl_ 8 Try.func41 #[.agg #[.slice A0_0 l0_0.length c0_0, .int .i64 a0_1]] ?_; (with_reducible refine (impl_IsPunchJob.calls k _ _ l0_0 a0_1 false _ ?_ ?_ A3.out).mono ?_); exact (Z15 HR0_0); exact HC0_0.out; rintro e IX ⟨rfl, hb⟩; refine ⟨_, rfl, ?_⟩; refine k3_ (Ye_ d1) (Ye_ eE) (below_step (Z97) hb) ?_; clear d1 eE HB; intro d1 eE HB; (try clear hb); obtain ⟨nb, nc, ne, nf⟩ := bx2_ (w := IX) eE.out))
 refine bodyPost_ret (results_ctt rfl _ _ fk 44 #[.slice none 0 0, .int .i64 0] (0, 0) _ rfl (Z48 eE) Try.underlying44 rfl (by kernel_rfl)) rfl ?_
 exact ⟨_, Z11, Z44, Z97⟩

/-! ### spec_jbMark: function 73 -/
def spec_jbMark.f (a0 : Int) : Option (Bool) := (spec_l1In.f a0 1 50).bind fun xU => (some xU)
set_option maxHeartbeats 8000000 in
set_option maxRecDepth 100000 in
theorem spec_jbMark.calls (a0 : Int) (r : Bool) (w : World) (h : spec_jbMark.f a0 = some r) :
  Calls Try.prog 73 #[.int .i64 a0] w fun e w' => e = .returned (.bool r) ∧ Drawn0 w w' := by
 have H : ((spec_l1In.f a0 1 50).bind fun xU => (some xU)) = some r := h
 clear h
 obtain ⟨xU, A2, H⟩ := bd_ H
 replace H : (some xU) = some r := H
 obtain rfl := Option.some.inj H
 go_enter Try.func73, Try.ntmps73
 go_wp2_with ((with_reducible refine gate_callee (f := 52) rfl ?_); refine gl_ 4 Try.func52 #[.int .i64 a0, .int .i64 1, .int .i64 50] ?_; (with_reducible refine (spec_l1In.calls a0 1 50 xU _ A2.out).mono ?_); rintro e w' ⟨rfl, ⟨nd, rfl⟩⟩; refine ⟨_, rfl, ?_⟩)
 go_ret
 exact ⟨Z41, Z138⟩

/-! ### spec_ResumeAt: function 29 -/
def spec_ResumeAt.f (k : Nat) (l0_0 : List (S90)) (a0_1 : Int) (a1 : Int) : Option ((List (S90)) × Int × Int × Bool) := (spec_jbStrokes.f k l0_0 a0_1).bind fun zA => (if zA.2 = true then ((spec_jbMark.f a1).bind fun zB => (if zB = true then (if a1 = 0 then (none) else ((spec_jbOwn.f l0_0 (wrap64 (a0_1 - (Int.tmod a0_1 a1)))).bind fun sU => (some (sU.1, sU.2, Int.tmod a0_1 a1, true)))) else (some (([] : List (S90)), 0, 0, false)))) else (some (([] : List (S90)), 0, 0, false)))
theorem spec_ResumeAt.mono : ∀ a0 a1 a2 k, LeO (spec_ResumeAt.f k a0 a1 a2) (spec_ResumeAt.f (k + 1) a0 a1 a2) := by
 intro a0 a1 a2 k
 unfold spec_ResumeAt.f
 exact mo12_
set_option maxHeartbeats 8000000 in
set_option maxRecDepth 100000 in
theorem spec_ResumeAt.calls (k : Nat) (A0_0 : Option Addr) (c0_0 : Nat) (l0_0 : List (S90)) (a0_1 : Int) (a1 : Int) (r1 : List (S90)) (r2 : Int) (r3 : Int) (r4 : Bool) (w : World) (hr0_0 : Kd.C k90 w A0_0 l0_0.length l0_0) (hc0_0 : l0_0.length ≤ c0_0) (h : spec_ResumeAt.f k l0_0 a0_1 a1 = some (r1, r2, r3, r4)) :
  Calls Try.prog 29 #[.agg #[.slice A0_0 l0_0.length c0_0, .int .i64 a0_1], .int .i64 a1] w fun e w' => ∃ v0_ : Value, e = .returned (.tuple #[.agg #[v0_, .int .i64 r2], .int .i64 r3, .bool r4]) ∧ Kd.R k90 90 w' w.heap.size (fun _ => True) v0_ r1 ∧ Below w.heap.size w w' := by
 have hu44 := Try.underlying44
 have HR0_0 := Aside0.mk hr0_0
 have HC0_0 := Aside0.mk hc0_0
 clear hr0_0 hc0_0
 have HB := Aside0.mk (Below.refl w.heap.size w)
 have H : ((spec_jbStrokes.f k l0_0 a0_1).bind fun zA => (if zA.2 = true then ((spec_jbMark.f a1).bind fun zB => (if zB = true then (if a1 = 0 then (none) else ((spec_jbOwn.f l0_0 (wrap64 (a0_1 - (Int.tmod a0_1 a1)))).bind fun sU => (some (sU.1, sU.2, Int.tmod a0_1 a1, true)))) else (some (([] : List (S90)), 0, 0, false)))) else (some (([] : List (S90)), 0, 0, false)))) = some (r1, r2, r3, r4) := h
 clear h
 obtain ⟨⟨zC, t551⟩, A3, H⟩ := bd_ H
 (try dsimp only at H)
 by_cases c4 : t551 = true
 ·subst c4
  rw [if_pos rfl] at H
  obtain ⟨zB, A5, H⟩ := bd_ H
  (try dsimp only at H)
  by_cases c6 : zB = true
  ·subst c6
   rw [if_pos rfl] at H
   by_cases c7 : a1 = 0
   ·rw [if_pos c7] at H
    exact absurd H (by simp)
   rw [if_neg c7] at H
   have sS : (a1 == 0) = false := beq_eq_false_iff_ne.mpr c7
   have G6 : (a1 != 0) = true := bne_iff_ne.mpr c7
   obtain ⟨⟨Cp, FA⟩, A8, H⟩ := bd_ H
   (try dsimp only at H)
   simp only [Option.some.injEq, Prod.mk.injEq] at H
   obtain ⟨rfl, rfl, rfl, rfl⟩ := H
   go_enter Try.func29, Try.ntmps29
   go_wp2_with (first | ((with_reducible refine gate_dst (N := 2) rfl ?_); refine bv_ 2 44 #[.slice A0_0 l0_0.length c0_0, .int .i64 a0_1] ?_; intro gq hg w9 hbox hb; refine k4_ (below_step (Z5) hb) (hbox) ((Z38 : w.heap.size ≤ gq)) ((Z38 : w.heap.size ≤ gq)) ?_; clear HB; intro HB ez D4 v0; clear hb hbox hg) | ((with_reducible refine gate_dst (N := 4) rfl ?_); refine bv_ 4 44 #[.slice none 0 0, .int .i64 0] ?_; intro fU hg oB hbox hb; refine k7_ (Ye_ ez) (below_step (Z126) hb) (hbox) ((Z247 : w.heap.size ≤ fU)) ((Z247 : w.heap.size ≤ fU)) ((Z228 : gq ≠ fU)) ((Z229 : fU ≠ gq)) ?_; clear ez HB; intro ez HB fm D5 yW i3 i4; clear hb hbox hg; have D0 := i3.out; have D1 := i4.out; obtain ⟨gC, gD, gE, gF⟩ := bx2_ (w := oB) ez.out) | ((with_reducible refine gate_callee (f := 68) rfl ?_); refine gl_ 12 Try.func68 #[.agg #[.slice A0_0 l0_0.length c0_0, .int .i64 a0_1]] ?_; (with_reducible refine (spec_jbStrokes.calls k _ _ l0_0 a0_1 zC true _ ?_ ?_ A3.out).mono ?_); exact (Z15 HR0_0); exact HC0_0.out; rintro e lG ⟨Cq, rfl, ho0, hb⟩; refine ⟨_, rfl, ?_⟩; refine k4_ (Kd.R_lower ho0 (below_size (Z77))) (Ye_ ez) (Ye_ fm) (below_step (Z77) hb) ?_; clear ez fm HB; intro lg ez fm HB; (try clear hb ho0)) | (go_at_call 73; (with_reducible refine (spec_jbMark.calls a1 true _ A5.out).mono ?_); rintro e w' ⟨rfl, ⟨nd, rfl⟩⟩; (try (rw [drewN_self lG]; generalize hq_ : World.drewN lG _ = lG; have n0_ : Aside0 (Kd.R k103 103 lG w.heap.size (fun _ => True) Cq zC) := ⟨by rw [← hq_]; exact (Z2 lg)⟩; have n1_ : Aside0 (lG.heap[gq]? = some (.cells #[.slice A0_0 l0_0.length c0_0, .int .i64 a0_1] 44 (0, 0))) := ⟨by rw [← hq_]; exact (Z1 ez)⟩; have n2_ : Aside0 (lG.heap[fU]? = some (.cells #[.slice none 0 0, .int .i64 0] 44 (0, 0))) := ⟨by rw [← hq_]; exact (Z1 fm)⟩; have n3_ : Aside0 (Below w.heap.size w lG) := ⟨by rw [← hq_]; exact Z77⟩; clear lg ez fm HB hq_; have lg := n0_; have ez := n1_; have fm := n2_; have HB := n3_; clear n0_ n1_ n2_ n3_)); obtain ⟨oT, oU, oV, oW⟩ := bx2_ (w := lG) ez.out) | ((with_reducible refine gate_callee (f := 70) rfl ?_); refine gl_ 33 Try.func70 #[.slice A0_0 l0_0.length c0_0, .int .i64 (wrap64 (a0_1 - (Int.tmod a0_1 a1)))] ?_; (with_reducible refine (spec_jbOwn.calls _ _ l0_0 (wrap64 (a0_1 - (Int.tmod a0_1 a1))) Cp FA _ ?_ ?_ A8.out).mono ?_); exact (Z15 HR0_0); exact HC0_0.out; rintro e qt ⟨v554, rfl, ho0, hb⟩; refine ⟨_, rfl, ?_⟩; refine k5_ (Ya_ lg) (Kd.R_lower ho0 (below_size (Z77))) (Ye_ ez) (Ye_ fm) (below_step (Z77) hb) ?_; clear lg ez fm HB; intro lg D6 ez fm HB; (try clear hb ho0); obtain ⟨pA, pB, rg⟩ := Kd.R_slice D6.out; subst rg; obtain ⟨lL, lM, lN, lO⟩ := bx2_ (w := qt) fm.out))
   refine bodyPost_ret (results_ctt rfl _ _ fU 44 #[.slice pA Cp.length pB, .int .i64 FA] (0, 0) _ rfl (by (with_reducible repeat (first | refine blk_drewN ?_ _ | refine blk_drew ?_ | refine blk_alloc ?_ _)); refine blk_put (cs := #[.slice pA Cp.length pB, .int .i64 0]) ?_ 1 _ rfl; (with_reducible repeat (first | refine blk_drewN ?_ _ | refine blk_drew ?_ | refine blk_alloc ?_ _)); refine blk_put (cs := #[.slice none 0 0, .int .i64 0]) ?_ 0 _ rfl; (with_reducible repeat (first | refine blk_drewN ?_ _ | refine blk_drew ?_ | refine blk_alloc ?_ _)); exact fm.out) Try.underlying44 rfl (by kernel_rfl)) rfl ?_
   exact ⟨_, Z11, by (with_reducible repeat (first | apply Kd.R_alloc | apply Kd.R_drewN | apply Kd.R_drew)); exact Kd.R_mono (Kd.R_far (p := ⟨fU, 1, none⟩) (Kd.R_far (p := ⟨fU, 0, none⟩) (Kd.R_types D6.out fm.out (by decide)) (fun _ hk => hk.2) (.slice pA Cp.length pB)) (fun _ hk => hk.2) (.int .i64 FA)) (fun _ hk => trivial), Z77⟩
  replace c6 := Bool.eq_false_iff.mpr c6
  subst c6
  rw [if_neg (show ¬ (false = true) by decide)] at H
  simp only [Option.some.injEq, Prod.mk.injEq] at H
  obtain ⟨rfl, rfl, rfl, rfl⟩ := H
  go_enter Try.func29, Try.ntmps29
  go_wp2_with (first | ((with_reducible refine gate_dst (N := 2) rfl ?_); refine bv_ 2 44 #[.slice A0_0 l0_0.length c0_0, .int .i64 a0_1] ?_; intro gq hg B2 hbox hb; refine k4_ (below_step (Z5) hb) (hbox) ((Z38 : w.heap.size ≤ gq)) ((Z38 : w.heap.size ≤ gq)) ?_; clear HB; intro HB ez D4 v0; clear hb hbox hg) | ((with_reducible refine gate_dst (N := 4) rfl ?_); refine bv_ 4 44 #[.slice none 0 0, .int .i64 0] ?_; intro fU hg yZ hbox hb; refine k7_ (Ye_ ez) (below_step (Z126) hb) (hbox) ((Z247 : w.heap.size ≤ fU)) ((Z247 : w.heap.size ≤ fU)) ((Z228 : gq ≠ fU)) ((Z229 : fU ≠ gq)) ?_; clear ez HB; intro ez HB fm D5 yW i3 i4; clear hb hbox hg; have hnb20 := i3.out; have hnc20 := i4.out; obtain ⟨m6, m7, m8, m9⟩ := bx2_ (w := yZ) ez.out) | ((with_reducible refine gate_callee (f := 68) rfl ?_); refine gl_ 12 Try.func68 #[.agg #[.slice A0_0 l0_0.length c0_0, .int .i64 a0_1]] ?_; (with_reducible refine (spec_jbStrokes.calls k _ _ l0_0 a0_1 zC true _ ?_ ?_ A3.out).mono ?_); exact (Z15 HR0_0); exact HC0_0.out; rintro e iU ⟨Cq, rfl, ho0, hb⟩; refine ⟨_, rfl, ?_⟩; refine k4_ (Kd.R_lower ho0 (below_size (Z77))) (Ye_ ez) (Ye_ fm) (below_step (Z77) hb) ?_; clear ez fm HB; intro lg ez fm HB; (try clear hb ho0)) | (go_at_call 73; (with_reducible refine (spec_jbMark.calls a1 false _ A5.out).mono ?_); rintro e w' ⟨rfl, ⟨nd, rfl⟩⟩; (try (rw [drewN_self iU]; generalize hq_ : World.drewN iU _ = iU; have n0_ : Aside0 (Kd.R k103 103 iU w.heap.size (fun _ => True) Cq zC) := ⟨by rw [← hq_]; exact (Z2 lg)⟩; have n1_ : Aside0 (iU.heap[gq]? = some (.cells #[.slice A0_0 l0_0.length c0_0, .int .i64 a0_1] 44 (0, 0))) := ⟨by rw [← hq_]; exact (Z1 ez)⟩; have n2_ : Aside0 (iU.heap[fU]? = some (.cells #[.slice none 0 0, .int .i64 0] 44 (0, 0))) := ⟨by rw [← hq_]; exact (Z1 fm)⟩; have n3_ : Aside0 (Below w.heap.size w iU) := ⟨by rw [← hq_]; exact Z77⟩; clear lg ez fm HB hq_; have lg := n0_; have ez := n1_; have fm := n2_; have HB := n3_; clear n0_ n1_ n2_ n3_)); obtain ⟨g1, g2, g3, g4⟩ := bx2_ (w := iU) fm.out))
  refine bodyPost_ret (results_ctt rfl _ _ fU 44 #[.slice none 0 0, .int .i64 0] (0, 0) _ rfl (Z48 fm) Try.underlying44 rfl (by kernel_rfl)) rfl ?_
  exact ⟨_, Z11, Z44, Z77⟩
 replace c4 := Bool.eq_false_iff.mpr c4
 subst c4
 rw [if_neg (show ¬ (false = true) by decide)] at H
 simp only [Option.some.injEq, Prod.mk.injEq] at H
 obtain ⟨rfl, rfl, rfl, rfl⟩ := H
 go_enter Try.func29, Try.ntmps29
 go_wp2_with (first | ((with_reducible refine gate_dst (N := 2) rfl ?_); refine bv_ 2 44 #[.slice A0_0 l0_0.length c0_0, .int .i64 a0_1] ?_; intro gq hg fE hbox hb; refine k4_ (below_step (Z5) hb) (hbox) ((Z38 : w.heap.size ≤ gq)) ((Z38 : w.heap.size ≤ gq)) ?_; clear HB; intro HB ez D4 v0; clear hb hbox hg) | ((with_reducible refine gate_dst (N := 4) rfl ?_); refine bv_ 4 44 #[.slice none 0 0, .int .i64 0] ?_; intro fU hg qN hbox hb; refine k7_ (Ye_ ez) (below_step (Z126) hb) (hbox) ((Z247 : w.heap.size ≤ fU)) ((Z247 : w.heap.size ≤ fU)) ((Z228 : gq ≠ fU)) ((Z229 : fU ≠ gq)) ?_; clear ez HB; intro ez HB fm D5 yW i3 i4; clear hb hbox hg; have hnb26 := i3.out; have hnc26 := i4.out; obtain ⟨wO, wP, wQ, wR⟩ := bx2_ (w := qN) ez.out) | ((with_reducible refine gate_callee (f := 68) rfl ?_); refine gl_ 12 Try.func68 #[.agg #[.slice A0_0 l0_0.length c0_0, .int .i64 a0_1]] ?_; (with_reducible refine (spec_jbStrokes.calls k _ _ l0_0 a0_1 zC false _ ?_ ?_ A3.out).mono ?_); exact (Z15 HR0_0); exact HC0_0.out; rintro e pt ⟨Cq, rfl, ho0, hb⟩; refine ⟨_, rfl, ?_⟩; refine k4_ (Kd.R_lower ho0 (below_size (Z77))) (Ye_ ez) (Ye_ fm) (below_step (Z77) hb) ?_; clear ez fm HB; intro lg ez fm HB; (try clear hb ho0); obtain ⟨xb, xc, xd, xe⟩ := bx2_ (w := pt) fm.out))
 refine bodyPost_ret (results_ctt rfl _ _ fU 44 #[.slice none 0 0, .int .i64 0] (0, 0) _ rfl (Z48 fm) Try.underlying44 rfl (by kernel_rfl)) rfl ?_
 exact ⟨_, Z11, Z44, Z77⟩

/-! ### spec_DrawIsPunchJob: function 74 -/
def spec_DrawIsPunchJob.f (k : Nat) (l0 : List Int) : Option ((List (S90)) × Int) := (spec_l1Cur_punchJob.f k l0 0 0).bind fun sV => (some (sV.1, sV.2.1))
theorem spec_DrawIsPunchJob.mono : ∀ a0 k, LeO (spec_DrawIsPunchJob.f k a0) (spec_DrawIsPunchJob.f (k + 1) a0) := by
 intro a0 k
 unfold spec_DrawIsPunchJob.f
 exact mo12_
set_option maxHeartbeats 8000000 in
set_option maxRecDepth 100000 in
theorem spec_DrawIsPunchJob.calls (k : Nat) (A0 : Option Addr) (c0 : Nat) (l0 : List Int) (r1 : List (S90)) (r2 : Int) (w : World) (hr0 : Kd.C (Kd.int .u8) w A0 l0.length l0) (hc0 : l0.length ≤ c0) (h : spec_DrawIsPunchJob.f k l0 = some (r1, r2)) :
  Calls Try.prog 74 #[.slice A0 l0.length c0] w fun e w' => ∃ v0_ : Value, e = .returned (.agg #[v0_, .int .i64 r2]) ∧ Kd.R k90 90 w' w.heap.size (fun _ => True) v0_ r1 ∧ Below w.heap.size w w' := by
 have hu44 := Try.underlying44
 have hu69 := Try.underlying69
 have HR0 := Aside0.mk hr0
 have HC0 := Aside0.mk hc0
 clear hr0 hc0
 have HB := Aside0.mk (Below.refl w.heap.size w)
 have H : ((spec_l1Cur_punchJob.f k l0 0 0).bind fun sV => (some (sV.1, sV.2.1))) = some (r1, r2) := h
 clear h
 obtain ⟨⟨zD, Cr, t563, t564⟩, A2, H⟩ := bd_ H
 replace H : (some (zD, Cr)) = some (r1, r2) := H
 simp only [Option.some.injEq, Prod.mk.injEq] at H
 obtain ⟨rfl, rfl⟩ := H
 go_enter Try.func74, Try.ntmps74
 go_wp2_with (first | ((with_reducible refine gate_dst (N := 2) rfl ?_); refine bv_ 2 44 #[.slice none 0 0, .int .i64 0] ?_; intro ms hg w3 hbox hb; refine k4_ (below_step (Z5) hb) (hbox) ((Z38 : w.heap.size ≤ ms)) ((Z38 : w.heap.size ≤ ms)) ?_; clear HB; intro HB lh GW557 Dm; clear hb hbox hg) | ((with_reducible refine gate_dst (N := 6) rfl ?_); refine bv_ 6 69 #[.slice A0 l0.length c0, .int .i64 0, .int .u64 0] ?_; intro pC hg w4 hbox hb; refine k7_ (Ye_ lh) (below_step (Z180) hb) ((show IsS69 w w4 pC l0 0 0 from ⟨_, _, hbox, (by rw [hg]; exact (below_size (Z180))), HR0.out⟩)) ((by rw [hg]; exact (below_size (Z180)) : w.heap.size ≤ pC)) ((by rw [hg]; exact (below_size (Z180)) : w.heap.size ≤ pC)) ((by rw [hg]; exact Nat.ne_of_lt (blk_lt (g := ms) (o := .cells #[.slice none 0 0, .int .i64 0] 44 (0, 0)) (Z1 lh)) : ms ≠ pC)) ((by rw [hg]; exact Nat.ne_of_gt (blk_lt (g := ms) (o := .cells #[.slice none 0 0, .int .i64 0] 44 (0, 0)) (Z1 lh)) : pC ≠ ms)) ?_; clear lh HB; intro lh HB HI558 GW558 GE558 qU qV; clear hb hbox hg) | ((with_reducible refine gate_callee (f := 65) rfl ?_); refine gl_ 8 Try.func65 #[.pointer (some ⟨pC, 0, none⟩)] ?_; (with_reducible refine (spec_l1Cur_punchJob.calls k pC l0 0 0 zD Cr t563 t564 w _ ?_ ?_ A2.out).mono ?_); exact (by repeat (first | (with_reducible first | exact HI558.out | apply IsS69.alloc | apply IsS69.drewN | apply IsS69.drew | apply IsS69.set_1 | apply IsS69.set_2 | refine IsS69.far ?_ qV.out _) | exact HI558.out)); exact Z197; rintro e w5 ⟨v560, rfl, ho0, hi, hb, hk⟩; refine ⟨_, rfl, ?_⟩; refine k4_ (KeepBut.blk hk (g' := ms) (o := .cells #[.slice none 0 0, .int .i64 0] 44 (0, 0)) (Z1 lh) qU.out (by simp)) (Kd.R_lower ho0 (below_size (Z197))) (hb) (hi) ?_; clear lh HB HI558; intro lh D7 HB HI558; (try clear hb hk hi ho0); obtain ⟨Ch, Ci, GX⟩ := Kd.R_slice D7.out; subst GX; have G0 := qU.out; have G1 := qV.out; obtain ⟨fg, fh, fy, fi⟩ := bx2_ (w := w5) lh.out))
 refine bodyPost_ret (results_cell_row rfl _ _ ms 44 #[.slice Ch zD.length Ci, .int .i64 Cr] (0, 0) _ rfl (by (with_reducible repeat (first | refine blk_drewN ?_ _ | refine blk_drew ?_ | refine blk_alloc ?_ _)); refine blk_put (cs := #[.slice Ch zD.length Ci, .int .i64 0]) ?_ 1 _ rfl; (with_reducible repeat (first | refine blk_drewN ?_ _ | refine blk_drew ?_ | refine blk_alloc ?_ _)); refine blk_put (cs := #[.slice none 0 0, .int .i64 0]) ?_ 0 _ rfl; (with_reducible repeat (first | refine blk_drewN ?_ _ | refine blk_drew ?_ | refine blk_alloc ?_ _)); exact lh.out) Try.underlying44 rfl (by kernel_rfl)) rfl ?_
 exact ⟨_, Z11, by (with_reducible repeat (first | apply Kd.R_alloc | apply Kd.R_drewN | apply Kd.R_drew)); exact Kd.R_mono (Kd.R_far (p := ⟨ms, 1, none⟩) (Kd.R_far (p := ⟨ms, 0, none⟩) (Kd.R_types D7.out lh.out (by decide)) (fun _ hk => hk.2) (.slice Ch zD.length Ci)) (fun _ hk => hk.2) (.int .i64 Cr)) (fun _ hk => trivial), Z197⟩

/-! ### spec_DrawPunchedNow: function 30 -/
def spec_DrawPunchedNow.f (k : Nat) (l0 : List Int) : Option ((List (S90)) × Int) := (spec_DrawIsPunchJob.f k l0).bind fun sW => (some (sW.1, sW.2))
theorem spec_DrawPunchedNow.mono : ∀ a0 k, LeO (spec_DrawPunchedNow.f k a0) (spec_DrawPunchedNow.f (k + 1) a0) := by
 intro a0 k
 unfold spec_DrawPunchedNow.f
 exact mo12_
set_option maxHeartbeats 8000000 in
set_option maxRecDepth 100000 in
theorem spec_DrawPunchedNow.calls (k : Nat) (A0 : Option Addr) (c0 : Nat) (l0 : List Int) (r1 : List (S90)) (r2 : Int) (w : World) (hr0 : Kd.C (Kd.int .u8) w A0 l0.length l0) (hc0 : l0.length ≤ c0) (h : spec_DrawPunchedNow.f k l0 = some (r1, r2)) :
  Calls Try.prog 30 #[.slice A0 l0.length c0] w fun e w' => ∃ v0_ : Value, e = .returned (.agg #[v0_, .int .i64 r2]) ∧ Kd.R k90 90 w' w.heap.size (fun _ => True) v0_ r1 ∧ Below w.heap.size w w' := by
 have hu44 := Try.underlying44
 have HR0 := Aside0.mk hr0
 have HC0 := Aside0.mk hc0
 clear hr0 hc0
 have HB := Aside0.mk (Below.refl w.heap.size w)
 have H : ((spec_DrawIsPunchJob.f k l0).bind fun sW => (some (sW.1, sW.2))) = some (r1, r2) := h
 clear h
 obtain ⟨⟨zE, Cs⟩, A2, H⟩ := bd_ H
 replace H : (some (zE, Cs)) = some (r1, r2) := H
 simp only [Option.some.injEq, Prod.mk.injEq] at H
 obtain ⟨rfl, rfl⟩ := H
 go_enter Try.func30, Try.ntmps30
 go_wp2_with (first | ((with_reducible refine gate_dst (N := 2) rfl ?_); refine bv_ 2 44 #[.slice none 0 0, .int .i64 0] ?_; intro sX hg w3 hbox hb; refine k4_ (below_step (Z5) hb) (hbox) ((Z38 : w.heap.size ≤ sX)) ((Z38 : w.heap.size ≤ sX)) ?_; clear HB; intro HB qW GW565 GE565; clear hb hbox hg) | ((with_reducible refine gate_callee (f := 74) rfl ?_); refine gl_ 4 Try.func74 #[.slice A0 l0.length c0] ?_; (with_reducible refine (spec_DrawIsPunchJob.calls k _ _ l0 zE Cs _ ?_ ?_ A2.out).mono ?_); exact (Z15 HR0); exact HC0.out; rintro e w4 ⟨v567, rfl, ho0, hb⟩; refine ⟨_, rfl, ?_⟩; refine k3_ (Kd.R_lower ho0 (below_size (Z218))) (Ye_ qW) (below_step (Z218) hb) ?_; clear qW HB; intro D8 qW HB; (try clear hb ho0); obtain ⟨zF, xf, Jb⟩ := Kd.R_slice D8.out; subst Jb; obtain ⟨mt, mu, nQ, mv⟩ := bx2_ (w := w4) qW.out))
 refine bodyPost_ret (results_cell_row rfl _ _ sX 44 #[.slice zF zE.length xf, .int .i64 Cs] (0, 0) _ rfl (by (with_reducible repeat (first | refine blk_drewN ?_ _ | refine blk_drew ?_ | refine blk_alloc ?_ _)); refine blk_put (cs := #[.slice zF zE.length xf, .int .i64 0]) ?_ 1 _ rfl; (with_reducible repeat (first | refine blk_drewN ?_ _ | refine blk_drew ?_ | refine blk_alloc ?_ _)); refine blk_put (cs := #[.slice none 0 0, .int .i64 0]) ?_ 0 _ rfl; (with_reducible repeat (first | refine blk_drewN ?_ _ | refine blk_drew ?_ | refine blk_alloc ?_ _)); exact qW.out) Try.underlying44 rfl (by kernel_rfl)) rfl ?_
 exact ⟨_, Z11, by (with_reducible repeat (first | apply Kd.R_alloc | apply Kd.R_drewN | apply Kd.R_drew)); exact Kd.R_mono (Kd.R_far (p := ⟨sX, 1, none⟩) (Kd.R_far (p := ⟨sX, 0, none⟩) (Kd.R_types D8.out qW.out (by decide)) (fun _ hk => hk.2) (.slice zF zE.length xf)) (fun _ hk => hk.2) (.int .i64 Cs)) (fun _ hk => trivial), Z218⟩

/-! ### slices_Clone_Stroke: function 98: by this session -/
def slices_Clone_Stroke.f (l0 : List (S103)) : Option (List (S103)) := if l0.length ≤ 8796093022208 then some l0 else none
set_option maxHeartbeats 8000000 in
set_option maxRecDepth 100000 in
theorem slices_Clone_Stroke.calls (A0 : Option Addr) (c0 : Nat) (l0 : List (S103)) (r : List (S103)) (w : World) (hr0 : Kd.C k103 w A0 l0.length l0) (hc0 : l0.length ≤ c0) (h : slices_Clone_Stroke.f l0 = some r) :
  Calls Try.prog 98 #[.slice A0 l0.length c0] w fun e w' => ∃ v0_ : Value, e = .returned (v0_) ∧ Kd.R k103 103 w' w.heap.size (fun _ => True) v0_ r ∧ Below w.heap.size w w' := by
 have hn : l0.length ≤ 8796093022208 ∧ l0 = r := by
  unfold slices_Clone_Stroke.f at h
  split at h
  ·exact ⟨by assumption, Option.some.inj h⟩
  cases h
 obtain ⟨hn, rfl⟩ := hn
 clear h
 have hq : ∀ (w : World) (a : Option Addr) (n c n' c' : Nat), (binOp .eql 63 (.slice a n c) (.slice none n' c')).run Try.prog w = .ok (.bool a.isNone) w := fun w a n c n' c' => Lib.run_eql_slice_nil w _ _ a n c n' c' Try.underlying63
 have HC := Aside0.mk hr0
 have HN := Aside0.mk hn
 have HB := Aside0.mk (Below.refl w.heap.size w)
 clear hr0 hn
 rcases A0 with _ | ad
 ·have h0 : l0 = [] := by
   cases l0 with
   | nil => rfl
   | cons x xs =>
    obtain ⟨ad, h, _⟩ := HC.out.2.2 (by simp)
    cases h
  subst h0
  clear HC HN
  go_enter Try.func98, Try.ntmps98
  go_wp2
  go_ret
  exact ⟨_, rfl, Kd.R_nil _ _ _ _ _, Below.refl _ _⟩
 go_enter Try.func98, Try.ntmps98
 go_wp2_with (at_builtin; refine Kd.R_append_rows k103 (w0 := w) w.heap.size rfl _ _ 63 103 (.agg #[(.int .i64 0), (.int .i64 0)]) 16 rfl Try.underlying63 (by kernel_rfl) rfl (by decide) (by omega) (.slice (some ⟨w.heap.size, 0, none⟩) 0 0) [] l0 _ _ _ (fun _ => True) (fun _ => False) rfl rfl ?aO ?aR (fun _ _ h => h) (fun _ h => h.elim) ?aF ?aB ?aS ?aL ?_)
 case aO => exact ⟨fun _ _ => trivial, [], World.ownsRow_made w #[] 0 (Nat.le_refl _) (Nat.zero_le _) (by simp), Reps.none _ _⟩
 case aR => exact Kd.C_alloc HC.out _
 case aF => exact fun _ _ => trivial
 case aB => exact below_alloc (Below.refl _ _) _
 case aS => simp
 case aL => have := HN.out; simp only [List.length_nil]; omega
 intro v1 w1 ho hb hg hat
 go_wp2
 go_ret
 exact ⟨_, rfl, ho, hb⟩

/-! ### impl_punchedBy_1: function 100 -/
def impl_punchedBy_1.f (a0 : Int) (a1 : Int) (l2 : List (S103)) : Option (Bool) := if 0 ≤ a0 then (if a0 < (l2.length : Int) then (if 0 ≤ a1 then (if a1 < (l2.length : Int) then (if ((rd_T103 l2 a0).f0) = ((rd_T103 l2 a1).f0) then (some (decide (((rd_T103 l2 a0).f1) < ((rd_T103 l2 a1).f1)))) else (some (decide (((rd_T103 l2 a0).f0) < ((rd_T103 l2 a1).f0))))) else (none)) else (none)) else (none)) else (none)
set_option maxHeartbeats 8000000 in
set_option maxRecDepth 100000 in
theorem impl_punchedBy_1.calls (a0 : Int) (a1 : Int) (p2 : Nat) (A2 : Option Addr) (c2 : Nat) (l2 : List (S103)) (r : Bool) (w : World) (hr2 : Kd.C k103 w A2 l2.length l2) (hc2 : l2.length ≤ c2) (hb2 : w.heap[p2]? = some (.cells #[.slice A2 l2.length c2] 63 (0, 0))) (h : impl_punchedBy_1.f a0 a1 l2 = some r) :
  Calls Try.prog 100 #[.int .i64 a0, .int .i64 a1, .pointer (some ⟨p2, 0, none⟩)] w fun e w' => e = .returned (.bool r) ∧ Drawn0 w w' := by
 have hu63 := Try.underlying63
 have hu3 := Try.underlying3
 have HR2 := Aside0.mk hr2
 have HC2 := Aside0.mk hc2
 clear hr2 hc2
 have D9 := Aside0.mk hb2
 clear hb2
 have H : (if 0 ≤ a0 then (if a0 < (l2.length : Int) then (if 0 ≤ a1 then (if a1 < (l2.length : Int) then (if ((rd_T103 l2 a0).f0) = ((rd_T103 l2 a1).f0) then (some (decide (((rd_T103 l2 a0).f1) < ((rd_T103 l2 a1).f1)))) else (some (decide (((rd_T103 l2 a0).f0) < ((rd_T103 l2 a1).f0))))) else (none)) else (none)) else (none)) else (none)) = some r := h
 clear h
 by_cases c4 : 0 ≤ a0
 case neg => rw [if_neg c4] at H; exact absurd H (by simp)
 rw [if_pos c4] at H
 have go : decide (0 ≤ a0) = true := decide_eq_true c4
 clear c4
 by_cases c5 : a0 < (l2.length : Int)
 case neg => rw [if_neg c5] at H; exact absurd H (by simp)
 rw [if_pos c5] at H
 have gW : decide (a0 < (l2.length : Int)) = true := decide_eq_true c5
 clear c5
 by_cases c6 : 0 ≤ a1
 case neg => rw [if_neg c6] at H; exact absurd H (by simp)
 rw [if_pos c6] at H
 have nR : decide (0 ≤ a1) = true := decide_eq_true c6
 clear c6
 by_cases c7 : a1 < (l2.length : Int)
 case neg => rw [if_neg c7] at H; exact absurd H (by simp)
 rw [if_pos c7] at H
 have sS : decide (a1 < (l2.length : Int)) = true := decide_eq_true c7
 clear c7
 by_cases c8 : ((rd_T103 l2 a0).f0) = ((rd_T103 l2 a1).f0)
 ·rw [if_pos c8] at H
  have nY : (((rd_T103 l2 a0).f0) == ((rd_T103 l2 a1).f0)) = true := beq_iff_eq.mpr c8
  have zG : (((rd_T103 l2 a0).f0) != ((rd_T103 l2 a1).f0)) = false := bne_eq_false_iff_eq.mpr c8
  clear c8
  obtain rfl := Option.some.inj H
  obtain ⟨iO, jk⟩ := bx1_ (w := w) D9.out
  have uW : 0 ≤ (a0 : Int) := of_decide_eq_true (Z21)
  have uX : a0 < (l2.length : Int) := of_decide_eq_true (Z21)
  obtain ⟨pD, e571, hx571_0, hx571_1⟩ := at_T103 HR2.out a0 uW uX
  cases e571
  replace uW := eq_true uW
  replace uX := eq_true uX
  have uY : 0 ≤ (a1 : Int) := of_decide_eq_true (Z21)
  have uZ : a1 < (l2.length : Int) := of_decide_eq_true (Z21)
  obtain ⟨zH, e572, hx572_0, hx572_1⟩ := at_T103 HR2.out a1 uY uZ
  obtain rfl : pD = zH := (by injection e572)
  replace uY := eq_true uY
  replace uZ := eq_true uZ
  have FB : 0 ≤ (a0 : Int) := of_decide_eq_true (Z21)
  have FC : a0 < (l2.length : Int) := of_decide_eq_true (Z21)
  obtain ⟨ad573, e573, hx573_0, hx573_1⟩ := at_T103 HR2.out a0 FB FC
  obtain rfl : pD = ad573 := (by injection e573)
  replace FB := eq_true FB
  replace FC := eq_true FC
  have FD : 0 ≤ (a1 : Int) := of_decide_eq_true (Z21)
  have FE : a1 < (l2.length : Int) := of_decide_eq_true (Z21)
  obtain ⟨ad574, e574, hx574_0, hx574_1⟩ := at_T103 HR2.out a1 FD FE
  obtain rfl : pD = ad574 := (by injection e574)
  replace FD := eq_true FD
  replace FE := eq_true FE
  go_enter Try.func100, Try.ntmps100
  go_wp2
  repeat (go_quiet (fail); try go_wp2)
  go_ret
  exact ⟨Z41, Z138⟩
 rw [if_neg c8] at H
 have nY : (((rd_T103 l2 a0).f0) == ((rd_T103 l2 a1).f0)) = false := beq_eq_false_iff_ne.mpr c8
 have zG : (((rd_T103 l2 a0).f0) != ((rd_T103 l2 a1).f0)) = true := bne_iff_ne.mpr c8
 obtain rfl := Option.some.inj H
 obtain ⟨gc, gf⟩ := bx1_ (w := w) D9.out
 have uW : 0 ≤ (a0 : Int) := of_decide_eq_true (Z21)
 have uX : a0 < (l2.length : Int) := of_decide_eq_true (Z21)
 obtain ⟨pD, e571, hx571_0, hx571_1⟩ := at_T103 HR2.out a0 uW uX
 cases e571
 replace uW := eq_true uW
 replace uX := eq_true uX
 have uY : 0 ≤ (a1 : Int) := of_decide_eq_true (Z21)
 have uZ : a1 < (l2.length : Int) := of_decide_eq_true (Z21)
 obtain ⟨zH, e572, hx572_0, hx572_1⟩ := at_T103 HR2.out a1 uY uZ
 obtain rfl : pD = zH := (by injection e572)
 replace uY := eq_true uY
 replace uZ := eq_true uZ
 have FF : 0 ≤ (a0 : Int) := of_decide_eq_true (Z21)
 have FG : a0 < (l2.length : Int) := of_decide_eq_true (Z21)
 obtain ⟨ad575, e575, hx575_0, hx575_1⟩ := at_T103 HR2.out a0 FF FG
 obtain rfl : pD = ad575 := (by injection e575)
 replace FF := eq_true FF
 replace FG := eq_true FG
 have FH : 0 ≤ (a1 : Int) := of_decide_eq_true (Z21)
 have FI : a1 < (l2.length : Int) := of_decide_eq_true (Z21)
 obtain ⟨ad576, e576, hx576_0, hx576_1⟩ := at_T103 HR2.out a1 FH FI
 obtain rfl : pD = ad576 := (by injection e576)
 replace FH := eq_true FH
 replace FI := eq_true FI
 go_enter Try.func100, Try.ntmps100
 go_wp2
 repeat (go_quiet (fail); try go_wp2)
 go_ret
 exact ⟨Z41, Z138⟩

end Go.Proofs.Ytmnnmddfmmaohaa.PFnPunchJobs
