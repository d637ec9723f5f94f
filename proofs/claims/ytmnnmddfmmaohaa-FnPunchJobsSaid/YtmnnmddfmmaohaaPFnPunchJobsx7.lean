-- written by a program of this session: the kit's print, with outer functions of the session's own (wip/ext)
import Derived.Test.YtmnnmddfmmaohaaPFnPunchJobsx0
import Derived.Test.YtmnnmddfmmaohaaPFnPunchJobsx2
import Derived.Test.YtmnnmddfmmaohaaPFnPunchJobsx6
namespace Go.Proofs.Ytmnnmddfmmaohaa.PFnPunchJobs
open Go.RowKit Go.Proofs.YtmnnmddfmmaohaaW.PrintWords Go.Proofs.YtmnnmddfmmaohaaW.PrintLast Go.Proofs.YtmnnmddfmmaohaaW.PrintMore
attribute [local go_sem] max2_int min2_int max_two min_two max_three min_three max_four min_four   -- for this text's walks alone
set_option linter.unusedVariables false
set_option linter.unusedSimpArgs false
theorem mo7_ {p : Prop} (h : p := by repeat' first | (with_reducible first | apply ih0 | apply ih0 | apply spec_l1Cur_sheet.mono | apply spec_l1Cur_sheet.mono | exact LeO.refl _ | exact LeO.none _ | refine LeO.ite ?_ ?_ | refine LeO.bind ?_ (fun _ => ?_)) | exact LeO.none _ | refine LeO.ite ?_ ?_ | refine LeO.bind ?_ (fun _ => ?_)) : p := h

/-! ### spec_l1Cur_anyHole: function 104 -/
def spec_l1Cur_anyHole.f (s0_0 : List Int) (s0_1 : Int) (s0_2 : Int) : Option (Int × Int × Int × Int × Int) := (spec_l1Cur_hole.f s0_0 s0_1 s0_2).bind fun fq => ((spec_l1Cur_pick.f s0_0 fq.2.2.2.1 fq.2.2.2.2 24).bind fun fN => (if fN.1 = 0 then ((spec_l1Cur_among.f s0_0 fN.2.1 fN.2.2 (([(-1), 19, 20] : List Int))).bind fun lv => (some (lv.1, fq.2.1, fq.2.2.1, lv.2.1, lv.2.2))) else (if fN.1 = 1 then ((spec_l1Cur_among.f s0_0 fN.2.1 fN.2.2 (([(-1), fq.2.2.1] : List Int))).bind fun lw => (some (fq.1, lw.1, fq.2.2.1, lw.2.1, lw.2.2))) else (if fN.1 = 2 then ((spec_l1Cur_among.f s0_0 fN.2.1 fN.2.2 (([fq.2.1, 2000, 2001] : List Int))).bind fun lx => (some (fq.1, fq.2.1, lx.1, lx.2.1, lx.2.2))) else (some (fq.1, fq.2.1, fq.2.2.1, fN.2.1, fN.2.2))))))
set_option maxHeartbeats 8000000 in
set_option maxRecDepth 100000 in
theorem spec_l1Cur_anyHole.calls (g : Nat) (s0_0 : List Int) (s0_1 : Int) (s0_2 : Int) (r1 : Int) (r2 : Int) (r3 : Int) (r4 : Int) (r5 : Int) (w0 w : World) (hI : IsS69 w0 w g s0_0 s0_1 s0_2) (hB : Below w0.heap.size w0 w) (h : spec_l1Cur_anyHole.f s0_0 s0_1 s0_2 = some (r1, r2, r3, r4, r5)) :
  Calls Try.prog 104 #[.pointer (some ⟨g, 0, none⟩)] w fun e w' => e = .returned (.agg #[.int .i64 r1, .int .i64 r2, .int .i64 r3]) ∧ IsS69 w0 w' g s0_0 r4 r5 ∧ Below w0.heap.size w0 w' ∧ KeepBut w w' g none := by
 have hu90 := Try.underlying90
 have HI0 := Aside0.mk hI
 have HK := Aside0.mk (KeepBut.refl w g none)
 have HL := Aside0.mk hB.size
 clear hI
 have HW0 := Aside0.mk hB.size
 have HB := Aside0.mk hB
 clear hB
 have H : ((spec_l1Cur_hole.f s0_0 s0_1 s0_2).bind fun fq => ((spec_l1Cur_pick.f s0_0 fq.2.2.2.1 fq.2.2.2.2 24).bind fun fN => (if fN.1 = 0 then ((spec_l1Cur_among.f s0_0 fN.2.1 fN.2.2 (([(-1), 19, 20] : List Int))).bind fun lv => (some (lv.1, fq.2.1, fq.2.2.1, lv.2.1, lv.2.2))) else (if fN.1 = 1 then ((spec_l1Cur_among.f s0_0 fN.2.1 fN.2.2 (([(-1), fq.2.2.1] : List Int))).bind fun lw => (some (fq.1, lw.1, fq.2.2.1, lw.2.1, lw.2.2))) else (if fN.1 = 2 then ((spec_l1Cur_among.f s0_0 fN.2.1 fN.2.2 (([fq.2.1, 2000, 2001] : List Int))).bind fun lx => (some (fq.1, fq.2.1, lx.1, lx.2.1, lx.2.2))) else (some (fq.1, fq.2.1, fq.2.2.1, fN.2.1, fN.2.2))))))) = some (r1, r2, r3, r4, r5) := h
 clear h
 obtain ⟨⟨il, gU, iT, qu, qv⟩, A2, H⟩ := bd_ H
 (try dsimp only at H)
 obtain ⟨⟨jI, n7, n8⟩, A3, H⟩ := bd_ H
 (try dsimp only at H)
 by_cases c4 : jI = 0
 ·rw [if_pos c4] at H
  have go : (jI == 0) = true := beq_iff_eq.mpr c4
  have FO : (jI != 0) = false := bne_eq_false_iff_eq.mpr c4
  clear c4
  obtain ⟨Gw, un⟩ : ∃ y_ : List Int, y_ = (([(-1), 19, 20] : List Int)) := ⟨_, rfl⟩
  replace H : ((spec_l1Cur_among.f s0_0 n7 n8 Gw).bind fun lv => (some (lv.1, gU, iT, lv.2.1, lv.2.2))) = some (r1, r2, r3, r4, r5) := hx_ un H
  have E0 := Aside0.mk un
  clear un
  obtain ⟨⟨C1, t286, t287⟩, A5, H⟩ := bd_ H
  (try dsimp only at H)
  simp only [Option.some.injEq, Prod.mk.injEq] at H
  obtain ⟨rfl, rfl, rfl, rfl, rfl⟩ := H
  go_enter Try.func104, Try.ntmps104
  go_wp2_with (first | ((with_reducible refine gate_dst (N := 2) rfl ?_); refine bv_ 2 90 #[.int .i64 0, .int .i64 0, .int .i64 0] ?_; intro dI hg w6 hbox hb; refine k8_ (IsS69.below (Z8 HI0) hb) (KeepBut.trans (Z9) (KeepBut.of_below hb g none) (.inl rfl)) (below_step (Z10) hb) (hbox) ((Z156 : w.heap.size ≤ dI)) ((Nat.le_trans HW0.out (Z156 : w.heap.size ≤ dI) : w0.heap.size ≤ dI)) ((Z195 : g ≠ dI)) ((Z196 : dI ≠ g)) ?_; clear HI0 HK HB; intro HI0 HK HB cL si sf gV eV; clear hb hbox hg) | ((with_reducible refine gate_callee (f := 112) rfl ?_); refine gl_ 5 Try.func112 #[.pointer (some ⟨g, 0, none⟩)] ?_; (with_reducible refine (spec_l1Cur_hole.calls g s0_0 s0_1 s0_2 il gU iT qu qv w0 _ ?_ ?_ A2.out).mono ?_); exact Z62; exact Z114; rintro e w7 ⟨rfl, hi, hb, hk⟩; refine ⟨_, rfl, ?_⟩; refine k4_ (KeepBut.blk hk (g' := dI) (o := .cells #[.int .i64 0, .int .i64 0, .int .i64 0] 90 (0, 0)) (Z1 cL) eV.out (by simp)) (KeepBut.trans (Z70) hk (.inl rfl)) (hb) (hi) ?_; clear cL HK HB HI0; intro cL HK HB HI0; (try clear hb hk hi)) | ((with_reducible refine gate_dst (N := 3) rfl ?_); refine bv_ 3 90 #[.int .i64 0, .int .i64 0, .int .i64 0] ?_; intro eu hg w8 hbox hb; refine k11_ (IsS69.below (Z62) hb) (Ye_ cL) (KeepBut.trans (Z70) (KeepBut.of_below hb g none) (.inl rfl)) (below_step (Z114) hb) (hbox) ((Z189 : w.heap.size ≤ eu)) ((Nat.le_trans HW0.out (Z189 : w.heap.size ≤ eu) : w0.heap.size ≤ eu)) ((Z206 : dI ≠ eu)) ((Z207 : eu ≠ dI)) ((Z230 : g ≠ eu)) ((Z231 : eu ≠ g)) ?_; clear HI0 cL HK HB; intro HI0 cL HK HB d0 we wb eN gB ir fJ; clear hb hbox hg; have Fx := gB.out; have Fy := eN.out; have hnb10 := fJ.out; have hnc10 := ir.out; obtain ⟨lH, lI, wE, lJ, lK, wF⟩ := bx3_ (w := w8) d0.out) | ((with_reducible refine gate_callee (f := 45) rfl ?_); refine gl_ 7 Try.func45 #[.pointer (some ⟨g, 0, none⟩), .int .i64 24] ?_; (with_reducible refine (spec_l1Cur_pick.calls g s0_0 qu qv 24 jI n7 n8 w0 _ ?_ ?_ A3.out).mono ?_); exact Z51; exact Z63; rintro e yI ⟨rfl, hi, hb, hk⟩; refine ⟨_, rfl, ?_⟩; refine k5_ (KeepBut.blk hk (g' := dI) (o := .cells #[.int .i64 0, .int .i64 0, .int .i64 0] 90 (0, 0)) (Z102) eV.out (by simp)) (KeepBut.blk hk (g' := eu) (o := .cells #[.int .i64 il, .int .i64 gU, .int .i64 iT] 90 (0, 0)) (Z72 d0) fJ.out (by simp)) (KeepBut.trans (Z58) hk (.inl rfl)) (hb) (hi) ?_; clear cL d0 HK HB HI0; intro cL d0 HK HB HI0; (try clear hb hk hi)) | ((with_reducible refine gate_dst (N := 11) rfl ?_); refine Kd.R_lit (Kd.int .i64) _ 3 ?hg (N := 11) ?hd (xs := ([(-1), 19, 20] : List Int)) (inner := [.int .i64 (-1), .int .i64 19, .int .i64 20]) (ok := fun _ => True) (okp := fun _ => True) ?hr ?hp (fun _ hk => hk) trivial (Below.refl _ _) (Nat.le_refl _) (by simp) ?_; (case hd => rfl); (case hg => rfl); (case hr => exact Z110); (case hp => exact (Reps.one (show Kd.M (Kd.int .i64) _ _ _ (-1) [.int .i64 (-1)] from rfl) (Reps.one (show Kd.M (Kd.int .i64) _ _ _ 19 [.int .i64 19] from rfl) (Reps.one (show Kd.M (Kd.int .i64) _ _ _ 20 [.int .i64 20] from rfl) (Reps.none _ _))))); intro v283 lG ho14 hb hg_ hnew_; clear hg_ hnew_; (first | rw [← E0.out] at ho14 | (simp only [Int.reduceToNat] at ho14; rw [← E0.out] at ho14)); refine k6_ (Kd.R_lower ho14 (keep_size (w := w) (g := g) (row := none) (Z58))) (IsS69.below (Z51) hb) (Ye_ cL) (Ye_ d0) (KeepBut.trans (Z58) (KeepBut.of_below hb g none) (.inl rfl)) (below_step (Z63) hb) ?_; clear HI0 cL d0 HK HB; intro qj HI0 cL d0 HK HB; clear hb ho14; obtain ⟨yj, rU, tU⟩ := Kd.R_slice qj.out; subst tU) | ((with_reducible refine gate_callee (f := 46) rfl ?_); refine gl_ 12 Try.func46 #[.pointer (some ⟨g, 0, none⟩), .slice yj Gw.length rU] ?_; (with_reducible refine (spec_l1Cur_among.calls g s0_0 n7 n8 _ _ Gw C1 t286 t287 w0 _ ?_ ?_ ?_ ?_ ?_ A5.out).mono ?_); exact Z51; exact Z63; exact (Z7 qj); exact (Kd.R_reads' qj.out).2.1; exact far_slice (IsS69.own_ne HI0.out qj.out (by decide)); rintro e mT ⟨rfl, hi, hb, hk⟩; refine ⟨_, rfl, ?_⟩; refine k6_ (KeepBut.blk hk (g' := dI) (o := .cells #[.int .i64 0, .int .i64 0, .int .i64 0] 90 (0, 0)) (Z1 cL) eV.out (by simp)) (KeepBut.blk hk (g' := eu) (o := .cells #[.int .i64 il, .int .i64 gU, .int .i64 iT] 90 (0, 0)) (Z1 d0) fJ.out (by simp)) (Kd.R_mono (Kd.R_keep (IsS69.apart (show IsS69 w0 _ g s0_0 n7 n8 from Z51) (Z2 qj) (by decide)) hk (fun _ h => h.2)) (fun _ h => h.1)) (KeepBut.trans (Z58) hk (.inl rfl)) (hb) (hi) ?_; clear cL d0 qj HK HB HI0; intro cL d0 qj HK HB HI0; (try clear hb hk hi); obtain ⟨lL, lM, hcz17_2, lN, lO, hfz17_2⟩ := bx3_ (w := mT) d0.out; have DQ := eV.out; have DR := gV.out; obtain ⟨gX, gY, xy, gZ, g0, xz⟩ := bx3_ (w := mT) cL.out))
  refine bodyPost_ret (results_cell_row rfl _ _ dI 90 #[.int .i64 C1, .int .i64 gU, .int .i64 iT] (0, 0) _ rfl (by (with_reducible repeat (first | refine blk_drewN ?_ _ | refine blk_drew ?_ | refine blk_alloc ?_ _)); refine blk_put (cs := #[.int .i64 C1, .int .i64 gU, .int .i64 0]) ?_ 2 _ rfl; (with_reducible repeat (first | refine blk_drewN ?_ _ | refine blk_drew ?_ | refine blk_alloc ?_ _)); refine blk_put (cs := #[.int .i64 C1, .int .i64 0, .int .i64 0]) ?_ 1 _ rfl; (with_reducible repeat (first | refine blk_drewN ?_ _ | refine blk_drew ?_ | refine blk_alloc ?_ _)); refine blk_put (cs := #[.int .i64 0, .int .i64 0, .int .i64 0]) ?_ 0 _ rfl; (with_reducible repeat (first | refine blk_drewN ?_ _ | refine blk_drew ?_ | refine blk_alloc ?_ _)); refine blk_far ?_ eN.out _; (with_reducible repeat (first | refine blk_drewN ?_ _ | refine blk_drew ?_ | refine blk_alloc ?_ _)); exact cL.out) Try.underlying90 rfl (by kernel_rfl)) rfl ?_
  exact ⟨Z11, Z51, Z63, Z58⟩
 rw [if_neg c4] at H
 have go : (jI == 0) = false := beq_eq_false_iff_ne.mpr c4
 have FO : (jI != 0) = true := bne_iff_ne.mpr c4
 by_cases c20 : jI = 1
 ·rw [if_pos c20] at H
  have nw : (jI == 1) = true := beq_iff_eq.mpr c20
  have c20b1 : (jI != 1) = false := bne_eq_false_iff_eq.mpr c20
  clear c20
  obtain ⟨Gx, uo⟩ : ∃ y_ : List Int, y_ = (([(-1), iT] : List Int)) := ⟨_, rfl⟩
  replace H : ((spec_l1Cur_among.f s0_0 n7 n8 Gx).bind fun lw => (some (il, lw.1, iT, lw.2.1, lw.2.2))) = some (r1, r2, r3, r4, r5) := hx_ uo H
  have E1 := Aside0.mk uo
  clear uo
  obtain ⟨⟨Gy, t292, t293⟩, I6, H⟩ := bd_ H
  (try dsimp only at H)
  simp only [Option.some.injEq, Prod.mk.injEq] at H
  obtain ⟨rfl, rfl, rfl, rfl, rfl⟩ := H
  go_enter Try.func104, Try.ntmps104
  go_wp2_with (first | ((with_reducible refine gate_dst (N := 2) rfl ?_); refine bv_ 2 90 #[.int .i64 0, .int .i64 0, .int .i64 0] ?_; intro dI hg iU hbox hb; refine k8_ (IsS69.below (Z8 HI0) hb) (KeepBut.trans (Z9) (KeepBut.of_below hb g none) (.inl rfl)) (below_step (Z10) hb) (hbox) ((Z156 : w.heap.size ≤ dI)) ((Nat.le_trans HW0.out (Z156 : w.heap.size ≤ dI) : w0.heap.size ≤ dI)) ((Z195 : g ≠ dI)) ((Z196 : dI ≠ g)) ?_; clear HI0 HK HB; intro HI0 HK HB cL si sf gV eV; clear hb hbox hg) | ((with_reducible refine gate_callee (f := 112) rfl ?_); refine gl_ 5 Try.func112 #[.pointer (some ⟨g, 0, none⟩)] ?_; (with_reducible refine (spec_l1Cur_hole.calls g s0_0 s0_1 s0_2 il gU iT qu qv w0 _ ?_ ?_ A2.out).mono ?_); exact Z62; exact Z114; rintro e st ⟨rfl, hi, hb, hk⟩; refine ⟨_, rfl, ?_⟩; refine k4_ (KeepBut.blk hk (g' := dI) (o := .cells #[.int .i64 0, .int .i64 0, .int .i64 0] 90 (0, 0)) (Z1 cL) eV.out (by simp)) (KeepBut.trans (Z70) hk (.inl rfl)) (hb) (hi) ?_; clear cL HK HB HI0; intro cL HK HB HI0; (try clear hb hk hi)) | ((with_reducible refine gate_dst (N := 3) rfl ?_); refine bv_ 3 90 #[.int .i64 0, .int .i64 0, .int .i64 0] ?_; intro eu hg fE hbox hb; refine k11_ (IsS69.below (Z62) hb) (Ye_ cL) (KeepBut.trans (Z70) (KeepBut.of_below hb g none) (.inl rfl)) (below_step (Z114) hb) (hbox) ((Z189 : w.heap.size ≤ eu)) ((Nat.le_trans HW0.out (Z189 : w.heap.size ≤ eu) : w0.heap.size ≤ eu)) ((Z206 : dI ≠ eu)) ((Z207 : eu ≠ dI)) ((Z230 : g ≠ eu)) ((Z231 : eu ≠ g)) ?_; clear HI0 cL HK HB; intro HI0 cL HK HB d0 we wb eN gB ir fJ; clear hb hbox hg; have hnb25 := gB.out; have hnc25 := eN.out; have hnb26 := fJ.out; have hnc26 := ir.out; obtain ⟨wO, wP, hcz27_2, wQ, wR, hfz27_2⟩ := bx3_ (w := fE) d0.out) | ((with_reducible refine gate_callee (f := 45) rfl ?_); refine gl_ 7 Try.func45 #[.pointer (some ⟨g, 0, none⟩), .int .i64 24] ?_; (with_reducible refine (spec_l1Cur_pick.calls g s0_0 qu qv 24 jI n7 n8 w0 _ ?_ ?_ A3.out).mono ?_); exact Z51; exact Z63; rintro e pt ⟨rfl, hi, hb, hk⟩; refine ⟨_, rfl, ?_⟩; refine k5_ (KeepBut.blk hk (g' := dI) (o := .cells #[.int .i64 0, .int .i64 0, .int .i64 0] 90 (0, 0)) (Z102) eV.out (by simp)) (KeepBut.blk hk (g' := eu) (o := .cells #[.int .i64 il, .int .i64 gU, .int .i64 iT] 90 (0, 0)) (Z72 d0) fJ.out (by simp)) (KeepBut.trans (Z58) hk (.inl rfl)) (hb) (hi) ?_; clear cL d0 HK HB HI0; intro cL d0 HK HB HI0; (try clear hb hk hi); obtain ⟨xb, xc, hcz29_2, xd, xe, hfz29_2⟩ := bx3_ (w := pt) d0.out) | ((with_reducible refine gate_dst (N := 19) rfl ?_); refine Kd.R_lit (Kd.int .i64) _ 3 ?hg (N := 19) ?hd (xs := ([(-1), iT] : List Int)) (inner := [.int .i64 (-1), .int .i64 iT]) (ok := fun _ => True) (okp := fun _ => True) ?hr ?hp (fun _ hk => hk) trivial (Below.refl _ _) (Nat.le_refl _) (by simp) ?_; (case hd => rfl); (case hg => rfl); (case hr => exact Z110); (case hp => exact (Reps.one (show Kd.M (Kd.int .i64) _ _ _ (-1) [.int .i64 (-1)] from rfl) (Reps.one (show Kd.M (Kd.int .i64) _ _ _ iT [.int .i64 iT] from rfl) (Reps.none _ _)))); intro v289 nt ho31 hb hg_ hnew_; clear hg_ hnew_; (first | rw [← E1.out] at ho31 | (simp only [Int.reduceToNat] at ho31; rw [← E1.out] at ho31)); refine k6_ (Kd.R_lower ho31 (keep_size (w := w) (g := g) (row := none) (Z58))) (IsS69.below (Z51) hb) (Ye_ cL) (Ye_ d0) (KeepBut.trans (Z58) (KeepBut.of_below hb g none) (.inl rfl)) (below_step (Z63) hb) ?_; clear HI0 cL d0 HK HB; intro qk HI0 cL d0 HK HB; clear hb ho31; obtain ⟨td, mF, pH⟩ := Kd.R_slice qk.out; subst pH) | ((with_reducible refine gate_callee (f := 46) rfl ?_); refine gl_ 20 Try.func46 #[.pointer (some ⟨g, 0, none⟩), .slice td Gx.length mF] ?_; (with_reducible refine (spec_l1Cur_among.calls g s0_0 n7 n8 _ _ Gx Gy t292 t293 w0 _ ?_ ?_ ?_ ?_ ?_ I6.out).mono ?_); exact Z51; exact Z63; exact (Z7 qk); exact (Kd.R_reads' qk.out).2.1; exact far_slice (IsS69.own_ne HI0.out qk.out (by decide)); rintro e u0 ⟨rfl, hi, hb, hk⟩; refine ⟨_, rfl, ?_⟩; refine k6_ (KeepBut.blk hk (g' := dI) (o := .cells #[.int .i64 0, .int .i64 0, .int .i64 0] 90 (0, 0)) (Z1 cL) eV.out (by simp)) (KeepBut.blk hk (g' := eu) (o := .cells #[.int .i64 il, .int .i64 gU, .int .i64 iT] 90 (0, 0)) (Z1 d0) fJ.out (by simp)) (Kd.R_mono (Kd.R_keep (IsS69.apart (show IsS69 w0 _ g s0_0 n7 n8 from Z51) (Z2 qk) (by decide)) hk (fun _ h => h.2)) (fun _ h => h.1)) (KeepBut.trans (Z58) hk (.inl rfl)) (hb) (hi) ?_; clear cL d0 qk HK HB HI0; intro cL d0 qk HK HB HI0; (try clear hb hk hi); obtain ⟨hcz34_0, hcz34_1, hcz34_2, hfz34_0, hfz34_1, hfz34_2⟩ := bx3_ (w := u0) d0.out; have Et := eV.out; have Eu := gV.out; obtain ⟨lP, lQ, hcz36_2, lR, lS, hfz36_2⟩ := bx3_ (w := u0) cL.out))
  refine bodyPost_ret (results_cell_row rfl _ _ dI 90 #[.int .i64 il, .int .i64 Gy, .int .i64 iT] (0, 0) _ rfl (by (with_reducible repeat (first | refine blk_drewN ?_ _ | refine blk_drew ?_ | refine blk_alloc ?_ _)); refine blk_put (cs := #[.int .i64 il, .int .i64 Gy, .int .i64 0]) ?_ 2 _ rfl; (with_reducible repeat (first | refine blk_drewN ?_ _ | refine blk_drew ?_ | refine blk_alloc ?_ _)); refine blk_put (cs := #[.int .i64 il, .int .i64 0, .int .i64 0]) ?_ 1 _ rfl; (with_reducible repeat (first | refine blk_drewN ?_ _ | refine blk_drew ?_ | refine blk_alloc ?_ _)); refine blk_put (cs := #[.int .i64 0, .int .i64 0, .int .i64 0]) ?_ 0 _ rfl; (with_reducible repeat (first | refine blk_drewN ?_ _ | refine blk_drew ?_ | refine blk_alloc ?_ _)); refine blk_far ?_ eN.out _; (with_reducible repeat (first | refine blk_drewN ?_ _ | refine blk_drew ?_ | refine blk_alloc ?_ _)); exact cL.out) Try.underlying90 rfl (by kernel_rfl)) rfl ?_
  exact ⟨Z11, Z51, Z63, Z58⟩
 rw [if_neg c20] at H
 have nw : (jI == 1) = false := beq_eq_false_iff_ne.mpr c20
 have c20b1 : (jI != 1) = true := bne_iff_ne.mpr c20
 by_cases c37 : jI = 2
 ·rw [if_pos c37] at H
  have pR : (jI == 2) = true := beq_iff_eq.mpr c37
  have t5 : (jI != 2) = false := bne_eq_false_iff_eq.mpr c37
  clear c37
  obtain ⟨Gz, uq⟩ : ∃ y_ : List Int, y_ = (([gU, 2000, 2001] : List Int)) := ⟨_, rfl⟩
  replace H : ((spec_l1Cur_among.f s0_0 n7 n8 Gz).bind fun lx => (some (il, gU, lx.1, lx.2.1, lx.2.2))) = some (r1, r2, r3, r4, r5) := hx_ uq H
  have E2 := Aside0.mk uq
  clear uq
  obtain ⟨⟨Iu, t298, t299⟩, A38, H⟩ := bd_ H
  (try dsimp only at H)
  simp only [Option.some.injEq, Prod.mk.injEq] at H
  obtain ⟨rfl, rfl, rfl, rfl, rfl⟩ := H
  go_enter Try.func104, Try.ntmps104
  go_wp2_with (first | ((with_reducible refine gate_dst (N := 2) rfl ?_); refine bv_ 2 90 #[.int .i64 0, .int .i64 0, .int .i64 0] ?_; intro dI hg Fh hbox hb; refine k8_ (IsS69.below (Z8 HI0) hb) (KeepBut.trans (Z9) (KeepBut.of_below hb g none) (.inl rfl)) (below_step (Z10) hb) (hbox) ((Z156 : w.heap.size ≤ dI)) ((Nat.le_trans HW0.out (Z156 : w.heap.size ≤ dI) : w0.heap.size ≤ dI)) ((Z195 : g ≠ dI)) ((Z196 : dI ≠ g)) ?_; clear HI0 HK HB; intro HI0 HK HB cL si sf gV eV; clear hb hbox hg) | ((with_reducible refine gate_callee (f := 112) rfl ?_); refine gl_ 5 Try.func112 #[.pointer (some ⟨g, 0, none⟩)] ?_; (with_reducible refine (spec_l1Cur_hole.calls g s0_0 s0_1 s0_2 il gU iT qu qv w0 _ ?_ ?_ A2.out).mono ?_); exact Z62; exact Z114; rintro e Ec ⟨rfl, hi, hb, hk⟩; refine ⟨_, rfl, ?_⟩; refine k4_ (KeepBut.blk hk (g' := dI) (o := .cells #[.int .i64 0, .int .i64 0, .int .i64 0] 90 (0, 0)) (Z1 cL) eV.out (by simp)) (KeepBut.trans (Z70) hk (.inl rfl)) (hb) (hi) ?_; clear cL HK HB HI0; intro cL HK HB HI0; (try clear hb hk hi)) | ((with_reducible refine gate_dst (N := 3) rfl ?_); refine bv_ 3 90 #[.int .i64 0, .int .i64 0, .int .i64 0] ?_; intro eu hg Jp hbox hb; refine k11_ (IsS69.below (Z62) hb) (Ye_ cL) (KeepBut.trans (Z70) (KeepBut.of_below hb g none) (.inl rfl)) (below_step (Z114) hb) (hbox) ((Z189 : w.heap.size ≤ eu)) ((Nat.le_trans HW0.out (Z189 : w.heap.size ≤ eu) : w0.heap.size ≤ eu)) ((Z206 : dI ≠ eu)) ((Z207 : eu ≠ dI)) ((Z230 : g ≠ eu)) ((Z231 : eu ≠ g)) ?_; clear HI0 cL HK HB; intro HI0 cL HK HB d0 we wb eN gB ir fJ; clear hb hbox hg; have hnb42 := gB.out; have hnc42 := eN.out; have hnb43 := fJ.out; have hnc43 := ir.out; obtain ⟨hcz44_0, hcz44_1, hcz44_2, hfz44_0, hfz44_1, hfz44_2⟩ := bx3_ (w := Jp) d0.out) | ((with_reducible refine gate_callee (f := 45) rfl ?_); refine gl_ 7 Try.func45 #[.pointer (some ⟨g, 0, none⟩), .int .i64 24] ?_; (with_reducible refine (spec_l1Cur_pick.calls g s0_0 qu qv 24 jI n7 n8 w0 _ ?_ ?_ A3.out).mono ?_); exact Z51; exact Z63; rintro e I4 ⟨rfl, hi, hb, hk⟩; refine ⟨_, rfl, ?_⟩; refine k5_ (KeepBut.blk hk (g' := dI) (o := .cells #[.int .i64 0, .int .i64 0, .int .i64 0] 90 (0, 0)) (Z102) eV.out (by simp)) (KeepBut.blk hk (g' := eu) (o := .cells #[.int .i64 il, .int .i64 gU, .int .i64 iT] 90 (0, 0)) (Z72 d0) fJ.out (by simp)) (KeepBut.trans (Z58) hk (.inl rfl)) (hb) (hi) ?_; clear cL d0 HK HB HI0; intro cL d0 HK HB HI0; (try clear hb hk hi); obtain ⟨hcz46_0, hcz46_1, hcz46_2, hfz46_0, hfz46_1, hfz46_2⟩ := bx3_ (w := I4) d0.out) | ((with_reducible refine gate_dst (N := 27) rfl ?_); refine Kd.R_lit (Kd.int .i64) _ 3 ?hg (N := 27) ?hd (xs := ([gU, 2000, 2001] : List Int)) (inner := [.int .i64 gU, .int .i64 2000, .int .i64 2001]) (ok := fun _ => True) (okp := fun _ => True) ?hr ?hp (fun _ hk => hk) trivial (Below.refl _ _) (Nat.le_refl _) (by simp) ?_; (case hd => rfl); (case hg => rfl); (case hr => exact Z110); (case hp => exact (Reps.one (show Kd.M (Kd.int .i64) _ _ _ gU [.int .i64 gU] from rfl) (Reps.one (show Kd.M (Kd.int .i64) _ _ _ 2000 [.int .i64 2000] from rfl) (Reps.one (show Kd.M (Kd.int .i64) _ _ _ 2001 [.int .i64 2001] from rfl) (Reps.none _ _))))); intro v295 w47 ho48 hb hg_ hnew_; clear hg_ hnew_; (first | rw [← E2.out] at ho48 | (simp only [Int.reduceToNat] at ho48; rw [← E2.out] at ho48)); refine k6_ (Kd.R_lower ho48 (keep_size (w := w) (g := g) (row := none) (Z58))) (IsS69.below (Z51) hb) (Ye_ cL) (Ye_ d0) (KeepBut.trans (Z58) (KeepBut.of_below hb g none) (.inl rfl)) (below_step (Z63) hb) ?_; clear HI0 cL d0 HK HB; intro ql HI0 cL d0 HK HB; clear hb ho48; obtain ⟨Ao49, co49, eo49⟩ := Kd.R_slice ql.out; subst eo49) | ((with_reducible refine gate_callee (f := 46) rfl ?_); refine gl_ 28 Try.func46 #[.pointer (some ⟨g, 0, none⟩), .slice Ao49 Gz.length co49] ?_; (with_reducible refine (spec_l1Cur_among.calls g s0_0 n7 n8 _ _ Gz Iu t298 t299 w0 _ ?_ ?_ ?_ ?_ ?_ A38.out).mono ?_); exact Z51; exact Z63; exact (Z7 ql); exact (Kd.R_reads' ql.out).2.1; exact far_slice (IsS69.own_ne HI0.out ql.out (by decide)); rintro e Cz ⟨rfl, hi, hb, hk⟩; refine ⟨_, rfl, ?_⟩; refine k6_ (KeepBut.blk hk (g' := dI) (o := .cells #[.int .i64 0, .int .i64 0, .int .i64 0] 90 (0, 0)) (Z1 cL) eV.out (by simp)) (KeepBut.blk hk (g' := eu) (o := .cells #[.int .i64 il, .int .i64 gU, .int .i64 iT] 90 (0, 0)) (Z1 d0) fJ.out (by simp)) (Kd.R_mono (Kd.R_keep (IsS69.apart (show IsS69 w0 _ g s0_0 n7 n8 from Z51) (Z2 ql) (by decide)) hk (fun _ h => h.2)) (fun _ h => h.1)) (KeepBut.trans (Z58) hk (.inl rfl)) (hb) (hi) ?_; clear cL d0 ql HK HB HI0; intro cL d0 ql HK HB HI0; (try clear hb hk hi); obtain ⟨hcz51_0, hcz51_1, hcz51_2, hfz51_0, hfz51_1, hfz51_2⟩ := bx3_ (w := Cz) d0.out; have hnb52 := eV.out; have hnc52 := gV.out; obtain ⟨hcz53_0, hcz53_1, hcz53_2, hfz53_0, hfz53_1, hfz53_2⟩ := bx3_ (w := Cz) cL.out))
  refine bodyPost_ret (results_cell_row rfl _ _ dI 90 #[.int .i64 il, .int .i64 gU, .int .i64 Iu] (0, 0) _ rfl (by (with_reducible repeat (first | refine blk_drewN ?_ _ | refine blk_drew ?_ | refine blk_alloc ?_ _)); refine blk_put (cs := #[.int .i64 il, .int .i64 gU, .int .i64 0]) ?_ 2 _ rfl; (with_reducible repeat (first | refine blk_drewN ?_ _ | refine blk_drew ?_ | refine blk_alloc ?_ _)); refine blk_put (cs := #[.int .i64 il, .int .i64 0, .int .i64 0]) ?_ 1 _ rfl; (with_reducible repeat (first | refine blk_drewN ?_ _ | refine blk_drew ?_ | refine blk_alloc ?_ _)); refine blk_put (cs := #[.int .i64 0, .int .i64 0, .int .i64 0]) ?_ 0 _ rfl; (with_reducible repeat (first | refine blk_drewN ?_ _ | refine blk_drew ?_ | refine blk_alloc ?_ _)); refine blk_far ?_ eN.out _; (with_reducible repeat (first | refine blk_drewN ?_ _ | refine blk_drew ?_ | refine blk_alloc ?_ _)); exact cL.out) Try.underlying90 rfl (by kernel_rfl)) rfl ?_
  exact ⟨Z11, Z51, Z63, Z58⟩
 rw [if_neg c37] at H
 have pR : (jI == 2) = false := beq_eq_false_iff_ne.mpr c37
 have t5 : (jI != 2) = true := bne_iff_ne.mpr c37
 simp only [Option.some.injEq, Prod.mk.injEq] at H
 obtain ⟨rfl, rfl, rfl, rfl, rfl⟩ := H
 go_enter Try.func104, Try.ntmps104
 go_wp2_with (first | ((with_reducible refine gate_dst (N := 2) rfl ?_); refine bv_ 2 90 #[.int .i64 0, .int .i64 0, .int .i64 0] ?_; intro dI hg I0 hbox hb; refine k8_ (IsS69.below (Z8 HI0) hb) (KeepBut.trans (Z9) (KeepBut.of_below hb g none) (.inl rfl)) (below_step (Z10) hb) (hbox) ((Z156 : w.heap.size ≤ dI)) ((Nat.le_trans HW0.out (Z156 : w.heap.size ≤ dI) : w0.heap.size ≤ dI)) ((Z195 : g ≠ dI)) ((Z196 : dI ≠ g)) ?_; clear HI0 HK HB; intro HI0 HK HB cL si sf gV eV; clear hb hbox hg) | ((with_reducible refine gate_callee (f := 112) rfl ?_); refine gl_ 5 Try.func112 #[.pointer (some ⟨g, 0, none⟩)] ?_; (with_reducible refine (spec_l1Cur_hole.calls g s0_0 s0_1 s0_2 il gU iT qu qv w0 _ ?_ ?_ A2.out).mono ?_); exact Z62; exact Z114; rintro e w55 ⟨rfl, hi, hb, hk⟩; refine ⟨_, rfl, ?_⟩; refine k4_ (KeepBut.blk hk (g' := dI) (o := .cells #[.int .i64 0, .int .i64 0, .int .i64 0] 90 (0, 0)) (Z1 cL) eV.out (by simp)) (KeepBut.trans (Z70) hk (.inl rfl)) (hb) (hi) ?_; clear cL HK HB HI0; intro cL HK HB HI0; (try clear hb hk hi)) | ((with_reducible refine gate_dst (N := 3) rfl ?_); refine bv_ 3 90 #[.int .i64 0, .int .i64 0, .int .i64 0] ?_; intro eu hg I5 hbox hb; refine k11_ (IsS69.below (Z62) hb) (Ye_ cL) (KeepBut.trans (Z70) (KeepBut.of_below hb g none) (.inl rfl)) (below_step (Z114) hb) (hbox) ((Z189 : w.heap.size ≤ eu)) ((Nat.le_trans HW0.out (Z189 : w.heap.size ≤ eu) : w0.heap.size ≤ eu)) ((Z206 : dI ≠ eu)) ((Z207 : eu ≠ dI)) ((Z230 : g ≠ eu)) ((Z231 : eu ≠ g)) ?_; clear HI0 cL HK HB; intro HI0 cL HK HB d0 we wb eN gB ir fJ; clear hb hbox hg; have hnb57 := gB.out; have hnc57 := eN.out; have hnb58 := fJ.out; have hnc58 := ir.out; obtain ⟨hcz59_0, hcz59_1, hcz59_2, hfz59_0, hfz59_1, hfz59_2⟩ := bx3_ (w := I5) d0.out) | ((with_reducible refine gate_callee (f := 45) rfl ?_); refine gl_ 7 Try.func45 #[.pointer (some ⟨g, 0, none⟩), .int .i64 24] ?_; (with_reducible refine (spec_l1Cur_pick.calls g s0_0 qu qv 24 jI n7 n8 w0 _ ?_ ?_ A3.out).mono ?_); exact Z51; exact Z63; rintro e Jy ⟨rfl, hi, hb, hk⟩; refine ⟨_, rfl, ?_⟩; refine k5_ (KeepBut.blk hk (g' := dI) (o := .cells #[.int .i64 0, .int .i64 0, .int .i64 0] 90 (0, 0)) (Z102) eV.out (by simp)) (KeepBut.blk hk (g' := eu) (o := .cells #[.int .i64 il, .int .i64 gU, .int .i64 iT] 90 (0, 0)) (Z72 d0) fJ.out (by simp)) (KeepBut.trans (Z58) hk (.inl rfl)) (hb) (hi) ?_; clear cL d0 HK HB HI0; intro cL d0 HK HB HI0; (try clear hb hk hi); obtain ⟨hcz61_0, hcz61_1, hcz61_2, hfz61_0, hfz61_1, hfz61_2⟩ := bx3_ (w := Jy) d0.out; have hnb62 := eV.out; have hnc62 := gV.out; obtain ⟨hcz63_0, hcz63_1, hcz63_2, hfz63_0, hfz63_1, hfz63_2⟩ := bx3_ (w := Jy) cL.out))
 refine bodyPost_ret (results_cell_row rfl _ _ dI 90 #[.int .i64 il, .int .i64 gU, .int .i64 iT] (0, 0) _ rfl (Z72 cL) Try.underlying90 rfl (by kernel_rfl)) rfl ?_
 exact ⟨Z11, Z51, Z63, Z58⟩

/-! ### spec_l1Cur_anySheet: function 80 -/
def spec_l1Cur_anySheet.l0 : Nat → List (S90) → List Int → Int → Int → Option ((List (S90)) × Int × Int)
 | 0, _, _, _, _ => none
 | k + 1, x3, eR, fH, fI => if (x3.length : Int) < 61 then (if x3.length < 5864062014805 then (spec_l1Cur_anySheet.l0 k (x3 ++ [(⟨1, wrap64 (3 * (x3.length : Int)), wrap64 ((wrap64 (3 * (x3.length : Int))) + 1)⟩ : S90)]) eR fH fI) else (none)) else (some (x3, fH, fI))
def spec_l1Cur_anySheet.f (k : Nat) (s0_0 : List Int) (s0_1 : Int) (s0_2 : Int) : Option ((List (S90)) × Int × Int) := (spec_l1Cur_sheet.f k s0_0 s0_1 s0_2).bind fun dS => (if (dS.1.length : Int) > 0 then ((spec_l1Cur_pick.f s0_0 dS.2.1 dS.2.2 (dS.1.length : Int)).bind fun eS => ((spec_l1Cur_pick.f s0_0 eS.2.1 eS.2.2 30).bind fun e0 => (if e0.1 = 0 then ((spec_l1Cur_anyHole.f s0_0 e0.2.1 e0.2.2).bind fun ly => (if 0 ≤ eS.1 then (if eS.1 < (dS.1.length : Int) then (some ((dS.1.set (eS.1 : Int).toNat (⟨ly.1, ly.2.1, ly.2.2.1⟩ : S90)), ly.2.2.2.1, ly.2.2.2.2)) else (none)) else (none))) else (if e0.1 = 1 then (if 0 ≤ eS.1 then (if eS.1 < (dS.1.length : Int) then (if dS.1.length < 5864062014805 then (some ((dS.1 ++ [(⟨(rd_T90 dS.1 eS.1).f0, (rd_T90 dS.1 eS.1).f1, (rd_T90 dS.1 eS.1).f2⟩ : S90)]), e0.2.1, e0.2.2)) else (none)) else (none)) else (none)) else (if e0.1 = 2 then (if 0 ≤ eS.1 then (if eS.1 < (dS.1.length : Int) then (if dS.1.length < 5864062014805 then (some ((dS.1 ++ [(⟨(rd_T90 dS.1 eS.1).f0, (rd_T90 dS.1 eS.1).f2, wrap64 (((rd_T90 dS.1 eS.1).f2) + 2)⟩ : S90)]), e0.2.1, e0.2.2)) else (none)) else (none)) else (none)) else (if e0.1 = 3 then (spec_l1Cur_anySheet.l0 k ([] : List (S90)) s0_0 e0.2.1 e0.2.2) else (some (dS.1, e0.2.1, e0.2.2)))))))) else (some (dS.1, dS.2.1, dS.2.2)))
theorem spec_l1Cur_anySheet.mono_l : ∀ k, (∀ y0 y1 y2 y3, LeO (spec_l1Cur_anySheet.l0 k y0 y1 y2 y3) (spec_l1Cur_anySheet.l0 (k + 1) y0 y1 y2 y3))
 | 0 => fun _ _ _ _ r h => by simp [spec_l1Cur_anySheet.l0] at h
 | k + 1 => by
  have ih0 := spec_l1Cur_anySheet.mono_l k
  ·intro y0 y1 y2 y3
   unfold spec_l1Cur_anySheet.l0
   exact mo7_
theorem spec_l1Cur_anySheet.mono : ∀ a0 a1 a2 k, LeO (spec_l1Cur_anySheet.f k a0 a1 a2) (spec_l1Cur_anySheet.f (k + 1) a0 a1 a2) := by
 intro a0 a1 a2 k
 have ih0 := spec_l1Cur_anySheet.mono_l k
 unfold spec_l1Cur_anySheet.f
 exact mo7_
def spec_l1Cur_anySheet.T10 : Bool × List (List Nat × List Nat) := (true, [([], []), ([], []), ([], []), ([1, 2], [1, 2]), ([3], [3]), ([4], [4]), ([], []), ([], []), ([6, 7], [6, 7]), ([8], [8]), ([9], [9]), ([], []), ([], []), ([11, 12], [11, 12]), ([13], [13]), ([14], [14]), ([15], [15]), ([5, 10, 16], [5, 10, 16]), ([17], [17]), ([0, 18], [0, 18]), ([19, 19, 0, 1, 2, 3, 4, 5, 6, 7, 8, 9, 10, 11, 12, 13, 14, 15, 16, 17, 18, 19], [0, 1, 6, 11, 19])])
def spec_l1Cur_anySheet.B10 : List Nat := [0, 0, 0, 6, 14, 30, 0, 0, 192, 448, 960, 0, 0, 6144, 14336, 30720, 63488, 131070, 262142, 524287, 1048575]
theorem spec_l1Cur_anySheet.tab10 : rtab .any (opsOf Try.f80 10) = spec_l1Cur_anySheet.T10 := by kernel_rfl
theorem spec_l1Cur_anySheet.bits10 : waitsOk spec_l1Cur_anySheet.T10.2 spec_l1Cur_anySheet.B10 = true := by kernel_rfl
set_option maxHeartbeats 8000000 in
set_option maxRecDepth 100000 in
theorem spec_l1Cur_anySheet.calls (k : Nat) (g : Nat) (s0_0 : List Int) (s0_1 : Int) (s0_2 : Int) (r1 : List (S90)) (r2 : Int) (r3 : Int) (w0 w : World) (hI : IsS69 w0 w g s0_0 s0_1 s0_2) (hB : Below w0.heap.size w0 w) (h : spec_l1Cur_anySheet.f k s0_0 s0_1 s0_2 = some (r1, r2, r3)) :
  Calls Try.prog 80 #[.pointer (some ⟨g, 0, none⟩)] w fun e w' => ∃ v0_ : Value, e = .returned (v0_) ∧ Kd.R k90 90 w' w.heap.size (fun _ => True) v0_ r1 ∧ IsS69 w0 w' g s0_0 r2 r3 ∧ Below w0.heap.size w0 w' ∧ KeepBut w w' g none := by
 have hu90 := Try.underlying90
 have HI0 := Aside0.mk hI
 have HK := Aside0.mk (KeepBut.refl w g none)
 have HL := Aside0.mk hB.size
 clear hI
 have HW0 := Aside0.mk hB.size
 have HB := Aside0.mk hB
 clear hB
 have H : ((spec_l1Cur_sheet.f k s0_0 s0_1 s0_2).bind fun dS => (if (dS.1.length : Int) > 0 then ((spec_l1Cur_pick.f s0_0 dS.2.1 dS.2.2 (dS.1.length : Int)).bind fun eS => ((spec_l1Cur_pick.f s0_0 eS.2.1 eS.2.2 30).bind fun e0 => (if e0.1 = 0 then ((spec_l1Cur_anyHole.f s0_0 e0.2.1 e0.2.2).bind fun ly => (if 0 ≤ eS.1 then (if eS.1 < (dS.1.length : Int) then (some ((dS.1.set (eS.1 : Int).toNat (⟨ly.1, ly.2.1, ly.2.2.1⟩ : S90)), ly.2.2.2.1, ly.2.2.2.2)) else (none)) else (none))) else (if e0.1 = 1 then (if 0 ≤ eS.1 then (if eS.1 < (dS.1.length : Int) then (if dS.1.length < 5864062014805 then (some ((dS.1 ++ [(⟨(rd_T90 dS.1 eS.1).f0, (rd_T90 dS.1 eS.1).f1, (rd_T90 dS.1 eS.1).f2⟩ : S90)]), e0.2.1, e0.2.2)) else (none)) else (none)) else (none)) else (if e0.1 = 2 then (if 0 ≤ eS.1 then (if eS.1 < (dS.1.length : Int) then (if dS.1.length < 5864062014805 then (some ((dS.1 ++ [(⟨(rd_T90 dS.1 eS.1).f0, (rd_T90 dS.1 eS.1).f2, wrap64 (((rd_T90 dS.1 eS.1).f2) + 2)⟩ : S90)]), e0.2.1, e0.2.2)) else (none)) else (none)) else (none)) else (if e0.1 = 3 then (spec_l1Cur_anySheet.l0 k ([] : List (S90)) s0_0 e0.2.1 e0.2.2) else (some (dS.1, e0.2.1, e0.2.2)))))))) else (some (dS.1, dS.2.1, dS.2.2)))) = some (r1, r2, r3) := h
 clear h
 obtain ⟨⟨dp, me, mf⟩, A2, H⟩ := bd_ H
 (try dsimp only at H)
 by_cases c3 : (dp.length : Int) > 0
 ·rw [if_pos c3] at H
  have f5 : decide (0 < (dp.length : Int)) = true := decide_eq_true c3
  have oE : decide (0 < dp.length) = true := decide_eq_true (by omega)
  clear c3
  obtain ⟨⟨cM, mK, mL⟩, A4, H⟩ := bd_ H
  (try dsimp only at H)
  obtain ⟨⟨gQ, oJ, oK⟩, A5, H⟩ := bd_ H
  (try dsimp only at H)
  by_cases c6 : gQ = 0
  ·rw [if_pos c6] at H
   have nR : (gQ == 0) = true := beq_iff_eq.mpr c6
   have xZ : (gQ != 0) = false := bne_eq_false_iff_eq.mpr c6
   clear c6
   obtain ⟨⟨yw, yx, yy, Iw, Ix⟩, A7, H⟩ := bd_ H
   (try dsimp only at H)
   by_cases c8 : 0 ≤ cM
   case neg => rw [if_neg c8] at H; exact absurd H (by simp)
   rw [if_pos c8] at H
   have nY : decide (0 ≤ cM) = true := decide_eq_true c8
   clear c8
   by_cases c9 : cM < (dp.length : Int)
   case neg => rw [if_neg c9] at H; exact absurd H (by simp)
   rw [if_pos c9] at H
   have qy : decide (cM < (dp.length : Int)) = true := decide_eq_true c9
   clear c9
   obtain ⟨Iy, ur⟩ : ∃ y_ : List (S90), y_ = (dp.set (cM : Int).toNat (⟨yw, yx, yy⟩ : S90)) := ⟨_, rfl⟩
   replace H : (some (Iy, Iw, Ix)) = some (r1, r2, r3) := hx_ ur H
   have Ny316 := Aside0.mk ur
   clear ur
   simp only [Option.some.injEq, Prod.mk.injEq] at H
   obtain ⟨rfl, rfl, rfl⟩ := H
   go_enter Try.func80, Try.ntmps80
   go_wp2_with (first | ((with_reducible refine gate_callee (f := 87) rfl ?_); refine gl_ 6 Try.func87 #[.pointer (some ⟨g, 0, none⟩)] ?_; (with_reducible refine (spec_l1Cur_sheet.calls k g s0_0 s0_1 s0_2 dp me mf w0 _ ?_ ?_ A2.out).mono ?_); exact (Z8 HI0); exact Z10; rintro e mN ⟨BG, rfl, ho0, hi, hb, hk⟩; refine ⟨_, rfl, ?_⟩; refine k4_ (Kd.R_lower ho0 (keep_size (w := w) (g := g) (row := none) (Z9))) (KeepBut.trans (Z9) hk (.inl rfl)) (hb) (hi) ?_; clear HK HB HI0; intro cj HK HB HI0; (try clear hb hk hi ho0); obtain ⟨pO, mG, rn⟩ := Kd.R_slice cj.out; subst rn) | ((with_reducible refine gate_callee (f := 45) rfl ?_); refine gl_ 13 Try.func45 #[.pointer (some ⟨g, 0, none⟩), .int .i64 (dp.length : Int)] ?_; (with_reducible refine (spec_l1Cur_pick.calls g s0_0 me mf (dp.length : Int) cM mK mL w0 _ ?_ ?_ A4.out).mono ?_); exact (Z8 HI0); exact Z10; rintro e lG ⟨rfl, hi, hb, hk⟩; refine ⟨_, rfl, ?_⟩; refine k4_ (Kd.R_mono (Kd.R_keep (IsS69.apart (show IsS69 w0 _ g s0_0 me mf from Z8 HI0) (Z2 cj) (by decide)) hk (fun _ h => h.2)) (fun _ h => h.1)) (KeepBut.trans (Z9) hk (.inl rfl)) (hb) (hi) ?_; clear cj HK HB HI0; intro cj HK HB HI0; (try clear hb hk hi)) | ((with_reducible refine gate_callee (f := 45) rfl ?_); refine gl_ 15 Try.func45 #[.pointer (some ⟨g, 0, none⟩), .int .i64 30] ?_; (with_reducible refine (spec_l1Cur_pick.calls g s0_0 mK mL 30 gQ oJ oK w0 _ ?_ ?_ A5.out).mono ?_); exact (Z8 HI0); exact Z10; rintro e oC ⟨rfl, hi, hb, hk⟩; refine ⟨_, rfl, ?_⟩; refine k4_ (Kd.R_mono (Kd.R_keep (IsS69.apart (show IsS69 w0 _ g s0_0 mK mL from Z8 HI0) (Z2 cj) (by decide)) hk (fun _ h => h.2)) (fun _ h => h.1)) (KeepBut.trans (Z9) hk (.inl rfl)) (hb) (hi) ?_; clear cj HK HB HI0; intro cj HK HB HI0; (try clear hb hk hi)) | ((with_reducible refine gate_callee (f := 104) rfl ?_); refine gl_ 21 Try.func104 #[.pointer (some ⟨g, 0, none⟩)] ?_; (with_reducible refine (spec_l1Cur_anyHole.calls g s0_0 oJ oK yw yx yy Iw Ix w0 _ ?_ ?_ A7.out).mono ?_); exact (Z8 HI0); exact Z10; rintro e qt ⟨rfl, hi, hb, hk⟩; refine ⟨_, rfl, ?_⟩; refine k4_ (Kd.R_mono (Kd.R_keep (IsS69.apart (show IsS69 w0 _ g s0_0 oJ oK from Z8 HI0) (Z2 cj) (by decide)) hk (fun _ h => h.2)) (fun _ h => h.1)) (KeepBut.trans (Z9) hk (.inl rfl)) (hb) (hi) ?_; clear cj HK HB HI0; intro cj HK HB HI0; (try clear hb hk hi); have I7 : 0 ≤ (cM : Int) := of_decide_eq_true (Z21); have I8 : (cM : Int) < ((dp.length : Int) : Int) := of_decide_eq_true (Z21); obtain ⟨go10, Ft, xT, Iz, gl10, cl10, HG10⟩ := Kd.R_form cj.out (by omega); (first | cases xT | (injection xT with ea_ en_ ec_; (first | subst ea_ | (injection ea_ with ea_; subst ea_)); subst ec_; clear en_)); have GB10 := Aside0.mk Iz; have GG10 := Aside0.mk HG10; clear Iz gl10 HG10; obtain ⟨ce10, hcl10, hM10, hcc10, hfr10⟩ := Kd.R_elem cj.out z90 (cM : Int) I7 I8; obtain rfl := k90_openM hM10; have hx10_0 : qt.cell? ⟨go10, (cM : Int).toNat * 3, none⟩ = some (.int .i64 ((rd_T90 dp cM).f0)) := hcc10 0 _ rfl; have hx10_1 : qt.cell? ⟨go10, (cM : Int).toNat * 3 + 1, none⟩ = some (.int .i64 ((rd_T90 dp cM).f1)) := hcc10 1 _ rfl; have hx10_2 : qt.cell? ⟨go10, (cM : Int).toNat * 3 + 2, none⟩ = some (.int .i64 ((rd_T90 dp cM).f2)) := hcc10 2 _ rfl; have hf10_0 : qt.frozen? ⟨go10, (cM : Int).toNat * 3, none⟩ = false := hfr10 0; have hf10_1 : qt.frozen? ⟨go10, (cM : Int).toNat * 3 + 1, none⟩ = false := hfr10 1; have hf10_2 : qt.frozen? ⟨go10, (cM : Int).toNat * 3 + 2, none⟩ = false := hfr10 2; clear hcl10 hcc10 hfr10 hM10; replace I7 := eq_true I7; replace I8 := eq_true I8; have HX16 := Aside0.mk (show Kd.R k90 90 qt w.heap.size (fun _ => True) (.slice (some ⟨go10, 0, none⟩) dp.length mG) dp from (Z2 cj)); obtain ⟨ce16, hcl16, hM16, hcc16, hfr16⟩ := Kd.R_elem HX16.out z90 (cM : Int) (of_decide_eq_true (Z21)) (Z243); obtain rfl := k90_openM hM16; have HP16 := Kd.R_seg HX16.out (cM : Int) (of_decide_eq_true (Z21)) (Z243) (seg := [.int .i64 yw, .int .i64 yx, .int .i64 yy]) (j := 0) hcl16 hcc16 (show 3 ≤ 3 from by decide) (x' := (⟨yw, yx, yy⟩ : S90)) (k90_mkM _ _ _ (⟨yw, yx, yy⟩ : S90) ) (fun _ hk => hk); have BH := hcc16 0 _ rfl; (try simp only [show (k90).sz = 3 from rfl, Nat.mul_one, Nat.add_zero] at BH); have hf16_0 := hfr16 0; (try simp only [show (k90).sz = 3 from rfl, Nat.mul_one, Nat.add_zero] at hf16_0); have BI := hcc16 1 _ rfl; (try simp only [show (k90).sz = 3 from rfl, Nat.mul_one, Nat.add_zero] at BI); have hf16_1 := hfr16 1; (try simp only [show (k90).sz = 3 from rfl, Nat.mul_one, Nat.add_zero] at hf16_1); have BJ := hcc16 2 _ rfl; (try simp only [show (k90).sz = 3 from rfl, Nat.mul_one, Nat.add_zero] at BJ); have hf16_2 := hfr16 2; (try simp only [show (k90).sz = 3 from rfl, Nat.mul_one, Nat.add_zero] at hf16_2); clear hcl16 hcc16 hfr16 hM16) | ((with_reducible refine gate_store (t := 90) (p := 22) rfl ?_); refine store_event (t := 90) (p := 22) (v := ?vo_w17) (w1 := (((qt.setCell ⟨go10, (cM : Int).toNat * 3, none⟩ (.int .i64 yw)).setCell ⟨go10, (cM : Int).toNat * 3 + 1, none⟩ (.int .i64 yx)).setCell ⟨go10, (cM : Int).toNat * 3 + 2, none⟩ (.int .i64 yy))) ?hg ?ho ?hn ?hr ?_; (case ho => rfl); (case hg => rfl); (case hn => rfl); (case hr => exact Z110); intro ws hw; have hg : qt.grownBy ws (some go10) := (by rw [hw]; exact HP16.2); have hp_ : Kd.R k90 90 ws w.heap.size (fun _ => True) (.slice (some ⟨go10, 0, none⟩) dp.length mG) Iy := (by rw [hw, Ny316.out]; exact HP16.1); clear HP16; refine k4_ (IsS69.grown (Z8 HI0) hg (IsS69.own_ne HI0.out cj.out (by decide))) (hp_) ((by rw [hw]; exact below_set (below_set (below_set (HB.out) (Nat.le_trans HL.out GB10.out)) (Nat.le_trans HL.out GB10.out)) (Nat.le_trans HL.out GB10.out) : Below w0.heap.size w0 ws)) (KeepBut.trans (Z9) (KeepBut.of_grown hg g) (Kd.R_base2 cj.out)) ?_; clear HI0 cj HB HK; intro HI0 cj HB HK; clear hg hw hp_))
   go_ret
   exact ⟨_, Z11, Z2 cj, Z8 HI0, Z10, Z9⟩
  rw [if_neg c6] at H
  have nR : (gQ == 0) = false := beq_eq_false_iff_ne.mpr c6
  have xZ : (gQ != 0) = true := bne_iff_ne.mpr c6
  by_cases c18 : gQ = 1
  ·rw [if_pos c18] at H
   have mi : (gQ == 1) = true := beq_iff_eq.mpr c18
   have qR : (gQ != 1) = false := bne_eq_false_iff_eq.mpr c18
   clear c18
   by_cases c19 : 0 ≤ cM
   case neg => rw [if_neg c19] at H; exact absurd H (by simp)
   rw [if_pos c19] at H
   have zI : decide (0 ≤ cM) = true := decide_eq_true c19
   clear c19
   by_cases c20 : cM < (dp.length : Int)
   case neg => rw [if_neg c20] at H; exact absurd H (by simp)
   rw [if_pos c20] at H
   have nw : decide (cM < (dp.length : Int)) = true := decide_eq_true c20
   clear c20
   by_cases c21 : dp.length < 5864062014805
   case neg => rw [if_neg c21] at H; exact absurd H (by simp)
   rw [if_pos c21] at H
   have LMc21 := Aside0.mk c21
   clear c21
   obtain ⟨y318, us⟩ : ∃ y_ : List (S90), y_ = (dp ++ [(⟨(rd_T90 dp cM).f0, (rd_T90 dp cM).f1, (rd_T90 dp cM).f2⟩ : S90)]) := ⟨_, rfl⟩
   replace H : (some (y318, oJ, oK)) = some (r1, r2, r3) := hx_ us H
   have Ny318 := Aside0.mk us
   clear us
   simp only [Option.some.injEq, Prod.mk.injEq] at H
   obtain ⟨rfl, rfl, rfl⟩ := H
   go_enter Try.func80, Try.ntmps80
   go_wp2_with (first | ((with_reducible refine gate_callee (f := 87) rfl ?_); refine gl_ 6 Try.func87 #[.pointer (some ⟨g, 0, none⟩)] ?_; (with_reducible refine (spec_l1Cur_sheet.calls k g s0_0 s0_1 s0_2 dp me mf w0 _ ?_ ?_ A2.out).mono ?_); exact (Z8 HI0); exact Z10; rintro e iU ⟨BG, rfl, ho0, hi, hb, hk⟩; refine ⟨_, rfl, ?_⟩; refine k4_ (Kd.R_lower ho0 (keep_size (w := w) (g := g) (row := none) (Z9))) (KeepBut.trans (Z9) hk (.inl rfl)) (hb) (hi) ?_; clear HK HB HI0; intro cj HK HB HI0; (try clear hb hk hi ho0); obtain ⟨ca, bV, AG⟩ := Kd.R_slice cj.out; subst AG) | ((with_reducible refine gate_callee (f := 45) rfl ?_); refine gl_ 13 Try.func45 #[.pointer (some ⟨g, 0, none⟩), .int .i64 (dp.length : Int)] ?_; (with_reducible refine (spec_l1Cur_pick.calls g s0_0 me mf (dp.length : Int) cM mK mL w0 _ ?_ ?_ A4.out).mono ?_); exact (Z8 HI0); exact Z10; rintro e fE ⟨rfl, hi, hb, hk⟩; refine ⟨_, rfl, ?_⟩; refine k4_ (Kd.R_mono (Kd.R_keep (IsS69.apart (show IsS69 w0 _ g s0_0 me mf from Z8 HI0) (Z2 cj) (by decide)) hk (fun _ h => h.2)) (fun _ h => h.1)) (KeepBut.trans (Z9) hk (.inl rfl)) (hb) (hi) ?_; clear cj HK HB HI0; intro cj HK HB HI0; (try clear hb hk hi)) | ((with_reducible refine gate_callee (f := 45) rfl ?_); refine gl_ 15 Try.func45 #[.pointer (some ⟨g, 0, none⟩), .int .i64 30] ?_; (with_reducible refine (spec_l1Cur_pick.calls g s0_0 mK mL 30 gQ oJ oK w0 _ ?_ ?_ A5.out).mono ?_); exact (Z8 HI0); exact Z10; rintro e qN ⟨rfl, hi, hb, hk⟩; refine ⟨_, rfl, ?_⟩; refine k4_ (Kd.R_mono (Kd.R_keep (IsS69.apart (show IsS69 w0 _ g s0_0 mK mL from Z8 HI0) (Z2 cj) (by decide)) hk (fun _ h => h.2)) (fun _ h => h.1)) (KeepBut.trans (Z9) hk (.inl rfl)) (hb) (hi) ?_; clear cj HK HB HI0; intro cj HK HB HI0; (try clear hb hk hi); have C2 : 0 ≤ (cM : Int) := of_decide_eq_true (Z21); have C3 : cM < (dp.length : Int) := of_decide_eq_true (Z21); obtain ⟨ad317, e317, hx317_0, hx317_1, hx317_2⟩ := at_T90 (Kd.R_reads' cj.out).2.2 cM C2 C3; cases e317; replace C2 := eq_true C2; replace C3 := eq_true C3) | ((with_reducible refine gate_builtin (b := .append) (xs := #[.tmp 25, .tmp 30]) rfl ?_); at_builtin; refine Kd.R_append k90 w.heap.size rfl (.tmp 25) (.tmp 30) 42 90 (.agg #[(.int .i64 0), (.int .i64 0), (.int .i64 0)]) 24 rfl Try.underlying42 info90 rfl (by decide) (by omega) (.slice (some ad317) dp.length bV) dp (⟨(rd_T90 dp cM).f0, (rd_T90 dp cM).f1, (rd_T90 dp cM).f2⟩ : S90) [.int .i64 ((rd_T90 dp cM).f0), .int .i64 ((rd_T90 dp cM).f1), .int .i64 ((rd_T90 dp cM).f2)] (fun _ => True) (fun _ => False) rfl rfl ?aP (fun _ hk => hk.elim) ?aF ?aO (Below.refl _ _) ?aS ?aL ?_; (case aP => exact k90_mkM _ _ _ (⟨(rd_T90 dp cM).f0, (rd_T90 dp cM).f1, (rd_T90 dp cM).f2⟩ : S90)); (case aF => exact (fun _ _ => trivial)); (case aO => exact (Z2 cj)); (case aS => exact (keep_size (w := w) (g := g) (row := none) (Z9))); (case aL => exact Z182 LMc21); intro v319 D3 ho hb hg hat; rw [← Ny318.out] at ho; refine k4_ (IsS69.grown (Z8 HI0) hg (IsS69.own_ne HI0.out cj.out (by decide))) (below_weaken (Z10) HL.out hb) (KeepBut.trans (Z9) (KeepBut.of_grown hg g) (Kd.R_base2 cj.out)) (ho) ?_; clear HI0 HB HK cj; intro HI0 HB HK HO320; clear ho hb hg hat))
   go_ret
   exact ⟨_, Z11, Z2 HO320, Z8 HI0, Z10, Z9⟩
  rw [if_neg c18] at H
  have mi : (gQ == 1) = false := beq_eq_false_iff_ne.mpr c18
  have qR : (gQ != 1) = true := bne_iff_ne.mpr c18
  by_cases c27 : gQ = 2
  ·rw [if_pos c27] at H
   have iZ : (gQ == 2) = true := beq_iff_eq.mpr c27
   have qO : (gQ != 2) = false := bne_eq_false_iff_eq.mpr c27
   clear c27
   by_cases c28 : 0 ≤ cM
   case neg => rw [if_neg c28] at H; exact absurd H (by simp)
   rw [if_pos c28] at H
   have qP : decide (0 ≤ cM) = true := decide_eq_true c28
   clear c28
   by_cases c29 : cM < (dp.length : Int)
   case neg => rw [if_neg c29] at H; exact absurd H (by simp)
   rw [if_pos c29] at H
   have tl : decide (cM < (dp.length : Int)) = true := decide_eq_true c29
   clear c29
   by_cases c30 : dp.length < 5864062014805
   case neg => rw [if_neg c30] at H; exact absurd H (by simp)
   rw [if_pos c30] at H
   have LMc30 := Aside0.mk c30
   clear c30
   obtain ⟨y324, ut⟩ : ∃ y_ : List (S90), y_ = (dp ++ [(⟨(rd_T90 dp cM).f0, (rd_T90 dp cM).f2, wrap64 (((rd_T90 dp cM).f2) + 2)⟩ : S90)]) := ⟨_, rfl⟩
   replace H : (some (y324, oJ, oK)) = some (r1, r2, r3) := hx_ ut H
   have Ny324 := Aside0.mk ut
   clear ut
   simp only [Option.some.injEq, Prod.mk.injEq] at H
   obtain ⟨rfl, rfl, rfl⟩ := H
   go_enter Try.func80, Try.ntmps80
   try go_wp2_with (first | ((with_reducible refine gate_callee (f := 87) rfl ?_); refine gl_ 6 Try.func87 #[.pointer (some ⟨g, 0, none⟩)] ?_; (with_reducible refine (spec_l1Cur_sheet.calls k g s0_0 s0_1 s0_2 dp me mf w0 _ ?_ ?_ A2.out).mono ?_); exact (Z8 HI0); exact Z10; rintro e GY ⟨BG, rfl, ho0, hi, hb, hk⟩; refine ⟨_, rfl, ?_⟩; refine k4_ (Kd.R_lower ho0 (keep_size (w := w) (g := g) (row := none) (Z9))) (KeepBut.trans (Z9) hk (.inl rfl)) (hb) (hi) ?_; clear HK HB HI0; intro cj HK HB HI0; (try clear hb hk hi ho0); obtain ⟨td, mF, pH⟩ := Kd.R_slice cj.out; subst pH) | ((with_reducible refine gate_callee (f := 45) rfl ?_); refine gl_ 13 Try.func45 #[.pointer (some ⟨g, 0, none⟩), .int .i64 (dp.length : Int)] ?_; (with_reducible refine (spec_l1Cur_pick.calls g s0_0 me mf (dp.length : Int) cM mK mL w0 _ ?_ ?_ A4.out).mono ?_); exact (Z8 HI0); exact Z10; rintro e u0 ⟨rfl, hi, hb, hk⟩; refine ⟨_, rfl, ?_⟩; refine k4_ (Kd.R_mono (Kd.R_keep (IsS69.apart (show IsS69 w0 _ g s0_0 me mf from Z8 HI0) (Z2 cj) (by decide)) hk (fun _ h => h.2)) (fun _ h => h.1)) (KeepBut.trans (Z9) hk (.inl rfl)) (hb) (hi) ?_; clear cj HK HB HI0; intro cj HK HB HI0; (try clear hb hk hi)) | ((with_reducible refine gate_callee (f := 45) rfl ?_); refine gl_ 15 Try.func45 #[.pointer (some ⟨g, 0, none⟩), .int .i64 30] ?_; (with_reducible refine (spec_l1Cur_pick.calls g s0_0 mK mL 30 gQ oJ oK w0 _ ?_ ?_ A5.out).mono ?_); exact (Z8 HI0); exact Z10; rintro e Gg ⟨rfl, hi, hb, hk⟩; refine ⟨_, rfl, ?_⟩; refine k4_ (Kd.R_mono (Kd.R_keep (IsS69.apart (show IsS69 w0 _ g s0_0 mK mL from Z8 HI0) (Z2 cj) (by decide)) hk (fun _ h => h.2)) (fun _ h => h.1)) (KeepBut.trans (Z9) hk (.inl rfl)) (hb) (hi) ?_; clear cj HK HB HI0; intro cj HK HB HI0; (try clear hb hk hi)))
   refine k4_ (Kd.R_drew cj.out) (IsS69.drew HI0.out) (keep_drew HK.out) (below_drew1 HB.out) ?_
   clear cj HI0 HK HB
   intro cj HI0 HK HB
   have C4 : 0 ≤ (cM : Int) := of_decide_eq_true (Z21)
   have C5 : cM < (dp.length : Int) := of_decide_eq_true (Z21)
   obtain ⟨gt, e321, rX, rY, rZ⟩ := at_T90 (Kd.R_reads' cj.out).2.2 cM C4 C5
   cases e321
   replace C4 := eq_true C4
   replace C5 := eq_true C5
   have C6 : 0 ≤ (cM : Int) := of_decide_eq_true (Z21)
   have C7 : cM < (dp.length : Int) := of_decide_eq_true (Z21)
   obtain ⟨ad322, e322, r0, r6, r7⟩ := at_T90 (Kd.R_reads' cj.out).2.2 cM C6 C7
   obtain rfl : gt = ad322 := (by injection e322)
   replace C6 := eq_true C6
   replace C7 := eq_true C7
   have C8 : 0 ≤ (cM : Int) := of_decide_eq_true (Z21)
   have C9 : cM < (dp.length : Int) := of_decide_eq_true (Z21)
   obtain ⟨ad323, e323, r8, r9, sa⟩ := at_T90 (Kd.R_reads' cj.out).2.2 cM C8 C9
   obtain rfl : gt = ad323 := (by injection e323)
   replace C8 := eq_true C8
   replace C9 := eq_true C9
   refine start_ (n := 21) (S := fun w' => w'.cell? (gt.add ((cM).toNat * 3)) = some (.int .i64 ((rd_T90 dp cM).f0)) ∧ w'.cell? ⟨(gt.add ((cM).toNat * 3)).block, (gt.add ((cM).toNat * 3)).off + 1, none⟩ = some (.int .i64 ((rd_T90 dp cM).f1)) ∧ w'.cell? ⟨(gt.add ((cM).toNat * 3)).block, (gt.add ((cM).toNat * 3)).off + 2, none⟩ = some (.int .i64 ((rd_T90 dp cM).f2)) ∧ w'.cell? (gt.add ((cM).toNat * 3)) = some (.int .i64 ((rd_T90 dp cM).f0)) ∧ w'.cell? ⟨(gt.add ((cM).toNat * 3)).block, (gt.add ((cM).toNat * 3)).off + 1, none⟩ = some (.int .i64 ((rd_T90 dp cM).f1)) ∧ w'.cell? ⟨(gt.add ((cM).toNat * 3)).block, (gt.add ((cM).toNat * 3)).off + 2, none⟩ = some (.int .i64 ((rd_T90 dp cM).f2)) ∧ w'.cell? (gt.add ((cM).toNat * 3)) = some (.int .i64 ((rd_T90 dp cM).f0)) ∧ w'.cell? ⟨(gt.add ((cM).toNat * 3)).block, (gt.add ((cM).toNat * 3)).off + 1, none⟩ = some (.int .i64 ((rd_T90 dp cM).f1)) ∧ w'.cell? ⟨(gt.add ((cM).toNat * 3)).block, (gt.add ((cM).toNat * 3)).off + 2, none⟩ = some (.int .i64 ((rd_T90 dp cM).f2))) (ds := [18, 19]) (M_ 0 21) (by kernel_rfl) rfl rfl ⟨rX, rY, rZ, r0, r6, r7, r8, r9, sa⟩ (fun hHeld => ?_); refine with_tabW spec_l1Cur_anySheet.tab10 spec_l1Cur_anySheet.bits10 (fun HT_ HW_ => ?_)
   generalize Gg.drew = qQ at cj HI0 HK HB rX rY rZ r0 r6 r7 r8 r9 sa hHeld ⊢
   refine pu_ 0 34 (M_ 1 20) ?_
   refine pu_ 1 35 (M_ 2 19) ?_
   refine pu_ 2 36 (M_ 3 18) ?_
   refine pu_ 3 37 (M_ 4 17) ?_
   refine pu_ 4 38 (M_ 5 16) ?_
   refine pu_ 6 40 (N_ 21 95) ?_
   refine pu_ 7 41 (N_ 21 223) ?_
   refine pu_ 8 42 (N_ 21 479) ?_
   refine pu_ 9 43 (N_ 21 991) ?_
   refine pu_ 11 45 (N_ 21 3039) ?_
   refine pu_ 12 46 (N_ 21 7135) ?_
   refine pu_ 13 47 (N_ 21 15327) ?_
   refine pu_ 14 48 (N_ 21 31711) ?_
   refine tk9_ 5 39 (N_ 21 31743) hHeld ?_
   refine tk9_ 10 44 (M_ 15 6) hHeld ?_
   refine tk9_ 15 49 (M_ 16 5) hHeld ?_
   refine pu_ 16 50 (M_ 17 4) ?_
   refine pu_ 17 51 (M_ 18 3) ?_
   refine last_ (i := 18) (N := some 52) (M_ 19 2) rfl rfl (one_of HT_.out (by kernel_rfl)) (by decide) (fun K hK => ?_)
   refine value_ (w1 := ?_) (v := ?_) (by rfl) rfl ?_ ?_
   rotate_left 2
   ·go_simp
    constructor
    ·rfl
    rfl
   refine hK.out _ _ ?_
   clear hK K
   refine norm_ (a' := ?_) ?_ ?_
   rotate_left
   ·show Act.put _ (some 52) _ = _
    simp only [Act.put, List.setIfInBounds_toArray, List.set_cons_zero, List.set_cons_succ, i64_w, i32_w]
    rfl
   refine last_ (i := 19) (N := some 53) (M_ 20 1) rfl rfl (one_of HT_.out (by kernel_rfl)) (by decide) (fun K hK => ?_)
   refine Kd.R_append_step k90 w.heap.size (by rfl) (.tmp 34) (.tmp 52) 42 90 (.agg #[(.int .i64 0), (.int .i64 0), (.int .i64 0)]) 24 rfl Try.underlying42 info90 rfl (by decide) (by omega) (.slice (some gt) dp.length mF) dp (⟨(rd_T90 dp cM).f0, (rd_T90 dp cM).f2, wrap64 (((rd_T90 dp cM).f2) + 2)⟩ : S90) [.int .i64 ((rd_T90 dp cM).f0), .int .i64 ((rd_T90 dp cM).f2), .int .i64 (wrap64 (((rd_T90 dp cM).f2) + 2))] (fun _ => True) (fun _ => False) rfl rfl ?aP (fun _ hk => hk.elim) ?aF ?aO (Below.refl _ _) ?aS ?aL ?_
   (case aP => exact k90_mkM _ _ _ (⟨(rd_T90 dp cM).f0, (rd_T90 dp cM).f2, wrap64 (((rd_T90 dp cM).f2) + 2)⟩ : S90))
   (case aF => exact (fun _ _ => trivial))
   (case aO => exact (Z2 cj))
   (case aS => exact (keep_size (w := w) (g := g) (row := none) (Z9)))
   (case aL => exact Z182 LMc30)
   intro v325 Jv ho hb hg hat
   rw [← Ny324.out] at ho
   refine k4_ (IsS69.grown (Z8 HI0) hg (IsS69.own_ne HI0.out cj.out (by decide))) (below_weaken (Z10) HL.out hb) (KeepBut.trans (Z9) (KeepBut.of_grown hg g) (Kd.R_base2 cj.out)) (ho) ?_
   clear HI0 HB HK cj
   intro HI0 HB HK HO326
   clear ho hb hg hat
   refine hK.out _ _ ?_
   clear hK K
   refine norm_ (a' := ?_) ?_ ?_
   rotate_left
   ·show Act.put _ (some 53) _ = _
    simp only [Act.put, List.setIfInBounds_toArray, List.set_cons_zero, List.set_cons_succ, i64_w, i32_w]
    rfl
   refine pu_ 20 3 (M_ 21 0) ?_
   refine done_ (done_of HT_.out (by kernel_rfl)) ?_
   try go_wp2
   go_ret
   exact ⟨_, Z11, Z2 HO326, Z8 HI0, Z10, Z9⟩
  rw [if_neg c27] at H
  have iZ : (gQ == 2) = false := beq_eq_false_iff_ne.mpr c27
  have qO : (gQ != 2) = true := bne_iff_ne.mpr c27
  by_cases c37 : gQ = 3
  ·rw [if_pos c37] at H
   have pR : (gQ == 3) = true := beq_iff_eq.mpr c37
   have t5 : (gQ != 3) = false := bne_eq_false_iff_eq.mpr c37
   clear c37
   have H' := Aside0.mk H
   clear H
   go_enter Try.func80, Try.ntmps80
   go_wp2_with (first | ((with_reducible refine gate_callee (f := 87) rfl ?_); refine gl_ 6 Try.func87 #[.pointer (some ⟨g, 0, none⟩)] ?_; (with_reducible refine (spec_l1Cur_sheet.calls k g s0_0 s0_1 s0_2 dp me mf w0 _ ?_ ?_ A2.out).mono ?_); exact (Z8 HI0); exact Z10; rintro e Ct ⟨BG, rfl, ho0, hi, hb, hk⟩; refine ⟨_, rfl, ?_⟩; refine k4_ (Kd.R_lower ho0 (keep_size (w := w) (g := g) (row := none) (Z9))) (KeepBut.trans (Z9) hk (.inl rfl)) (hb) (hi) ?_; clear HK HB HI0; intro cj HK HB HI0; (try clear hb hk hi ho0); obtain ⟨Ao39, co39, eo39⟩ := Kd.R_slice cj.out; subst eo39) | ((with_reducible refine gate_callee (f := 45) rfl ?_); refine gl_ 13 Try.func45 #[.pointer (some ⟨g, 0, none⟩), .int .i64 (dp.length : Int)] ?_; (with_reducible refine (spec_l1Cur_pick.calls g s0_0 me mf (dp.length : Int) cM mK mL w0 _ ?_ ?_ A4.out).mono ?_); exact (Z8 HI0); exact Z10; rintro e Ec ⟨rfl, hi, hb, hk⟩; refine ⟨_, rfl, ?_⟩; refine k4_ (Kd.R_mono (Kd.R_keep (IsS69.apart (show IsS69 w0 _ g s0_0 me mf from Z8 HI0) (Z2 cj) (by decide)) hk (fun _ h => h.2)) (fun _ h => h.1)) (KeepBut.trans (Z9) hk (.inl rfl)) (hb) (hi) ?_; clear cj HK HB HI0; intro cj HK HB HI0; (try clear hb hk hi)) | ((with_reducible refine gate_callee (f := 45) rfl ?_); refine gl_ 15 Try.func45 #[.pointer (some ⟨g, 0, none⟩), .int .i64 30] ?_; (with_reducible refine (spec_l1Cur_pick.calls g s0_0 mK mL 30 gQ oJ oK w0 _ ?_ ?_ A5.out).mono ?_); exact (Z8 HI0); exact Z10; rintro e Jp ⟨rfl, hi, hb, hk⟩; refine ⟨_, rfl, ?_⟩; refine k4_ (Kd.R_mono (Kd.R_keep (IsS69.apart (show IsS69 w0 _ g s0_0 mK mL from Z8 HI0) (Z2 cj) (by decide)) hk (fun _ h => h.2)) (fun _ h => h.1)) (KeepBut.trans (Z9) hk (.inl rfl)) (hb) (hi) ?_; clear cj HK HB HI0; intro cj HK HB HI0; (try clear hb hk hi)))
   (try simp only [Act.put, List.setIfInBounds_toArray, List.set_cons_zero, List.set_cons_succ])
   go_loopg [3] k (fun kq v3 w' => ∃ (bt : List (S90)), Aside0 (spec_l1Cur_anySheet.l0 kq bt s0_0 oJ oK = some (r1, r2, r3)) ∧ Aside0 (kq ≤ k) ∧ Aside0 (Kd.R k90 90 w' w.heap.size (fun _ => True) v3 bt) ∧ Aside0 (IsS69 w0 w' g s0_0 oJ oK) ∧ Aside0 (KeepBut w w' g none) ∧ Aside0 (Below w0.heap.size w0 w'))
   case atStart => exact ⟨(([] : List (S90))), H', ⟨Nat.le_refl _⟩, ⟨Z44⟩, ⟨Z8 HI0⟩, ⟨Z9⟩, ⟨Z10⟩⟩
   case round =>
    clear H'
    (try clear c1); (try clear p1); (try clear q1); (try clear hx1); (try clear hf1); (try clear c2); (try clear p2); (try clear c3); (try clear f5); (try clear oE); (try clear p3); (try clear q3); (try clear hx3); (try clear c4); (try clear c6); (try clear nR); (try clear xZ); (try clear p6); (try clear c8); (try clear nY); (try clear c9); (try clear qy); (try clear c10); (try clear I7); (try clear I8); (try clear hx10); (try clear hf10); (try clear c16); (try clear hx16); (try clear hf16); (try clear c18); (try clear mi); (try clear qR); (try clear c19); (try clear zI); (try clear c20); (try clear nw); (try clear c21); (try clear c27); (try clear iZ); (try clear qO); (try clear c28); (try clear qP); (try clear c29); (try clear tl); (try clear c30); (try clear p31); (try clear q31); (try clear hx31); (try clear p32); (try clear q32); (try clear hx32); (try clear c37); (try clear pR); (try clear t5); (try clear hx10_0); (try clear hx10_1); (try clear hx10_2); (try clear BH); (try clear BI); (try clear BJ); (try clear hx317_0); (try clear hx317_1); (try clear hx317_2); (try clear rX); (try clear rY); (try clear rZ); (try clear r0); (try clear r6); (try clear r7); (try clear r8); (try clear r9); (try clear sa); (try clear C2); (try clear C4); (try clear C6); (try clear C8); (try clear C3); (try clear C5); (try clear C7); (try clear C9)
    obtain ⟨bt, HA, HK1, bp, HI0, HK, HB⟩ := hrel
    cases gk with
    | zero => exact absurd HA.out (by simp [spec_l1Cur_anySheet.l0])
    | succ k1 =>
     have H := HA.out
     clear HA
     simp only [spec_l1Cur_anySheet.l0] at H
     by_cases c42 : (bt.length : Int) < 61
     ·rw [if_pos c42] at H
      have Ad : decide ((bt.length : Int) < 61) = true := decide_eq_true c42
      have c42b1 : decide (bt.length < 61) = true := decide_eq_true (by omega)
      clear c42
      by_cases c43 : bt.length < 5864062014805
      case neg => rw [if_neg c43] at H; exact absurd H (by simp)
      rw [if_pos c43] at H
      have Bz := Aside0.mk c43
      clear c43
      obtain ⟨IA, uu⟩ : ∃ y_ : List (S90), y_ = (bt ++ [(⟨1, wrap64 (3 * (bt.length : Int)), wrap64 ((wrap64 (3 * (bt.length : Int))) + 1)⟩ : S90)]) := ⟨_, rfl⟩
      replace H : (spec_l1Cur_anySheet.l0 k1 IA s0_0 oJ oK) = some (r1, r2, r3) := hx_ uu H
      have Ny327 := Aside0.mk uu
      clear uu
      have H' := Aside0.mk H
      clear H
      obtain ⟨Ao44, Hl, Cy⟩ := Kd.R_slice bp.out
      subst Cy
      go_wp2_with ((with_reducible refine gate_builtin (b := .append) (xs := #[.tmp 59, .tmp 68]) rfl ?_); at_builtin; refine Kd.R_append k90 w.heap.size rfl (.tmp 59) (.tmp 68) 42 90 (.agg #[(.int .i64 0), (.int .i64 0), (.int .i64 0)]) 24 rfl Try.underlying42 info90 rfl (by decide) (by omega) (.slice Ao44 bt.length Hl) bt (⟨1, wrap64 (3 * (bt.length : Int)), wrap64 ((wrap64 (3 * (bt.length : Int))) + 1)⟩ : S90) [.int .i64 1, .int .i64 (wrap64 (3 * (bt.length : Int))), .int .i64 (wrap64 ((wrap64 (3 * (bt.length : Int))) + 1))] (fun _ => True) (fun _ => False) rfl rfl ?aP (fun _ hk => hk.elim) ?aF ?aO (Below.refl _ _) ?aS ?aL ?_; (case aP => exact k90_mkM _ _ _ (⟨1, wrap64 (3 * (bt.length : Int)), wrap64 ((wrap64 (3 * (bt.length : Int))) + 1)⟩ : S90)); (case aF => exact (fun _ _ => trivial)); (case aO => exact (Z2 bp)); (case aS => exact (keep_size (w := w) (g := g) (row := none) (Z9))); (case aL => exact Z182 Bz); intro H8 I4 ho hb hg hat; rw [← Ny327.out] at ho; refine k4_ (IsS69.grown (Z8 HI0) hg (IsS69.own_ne HI0.out bp.out (by decide))) (below_weaken (Z10) HL.out hb) (KeepBut.trans (Z9) (KeepBut.of_grown hg g) (Kd.R_base2 bp.out)) (ho) ?_; clear HI0 HB HK bp; intro HI0 HB HK HO329; clear ho hb hg hat)
      go_roundg k1
      case measure => have := HK1.out; omega
      case rel => exact ⟨(IA), H', ⟨Z182 HK1⟩, ⟨Z2 HO329⟩, ⟨Z8 HI0⟩, ⟨Z9⟩, ⟨Z10⟩⟩
     rw [if_neg c42] at H
     have Ad : decide ((bt.length : Int) < 61) = false := decide_eq_false c42
     have c42b1 : decide (bt.length < 61) = false := decide_eq_false (by omega)
     clear c42
     simp only [Option.some.injEq, Prod.mk.injEq] at H
     obtain ⟨rfl, rfl, rfl⟩ := H
     obtain ⟨Ao46, co46, eo46⟩ := Kd.R_slice bp.out
     subst eo46
     go_wp2
     go_ret
     exact ⟨_, Z11, Z2 bp, Z8 HI0, Z10, Z9⟩
  rw [if_neg c37] at H
  have pR : (gQ == 3) = false := beq_eq_false_iff_ne.mpr c37
  have t5 : (gQ != 3) = true := bne_iff_ne.mpr c37
  simp only [Option.some.injEq, Prod.mk.injEq] at H
  obtain ⟨rfl, rfl, rfl⟩ := H
  go_enter Try.func80, Try.ntmps80
  go_wp2_with (first | ((with_reducible refine gate_callee (f := 87) rfl ?_); refine gl_ 6 Try.func87 #[.pointer (some ⟨g, 0, none⟩)] ?_; (with_reducible refine (spec_l1Cur_sheet.calls k g s0_0 s0_1 s0_2 dp me mf w0 _ ?_ ?_ A2.out).mono ?_); exact (Z8 HI0); exact Z10; rintro e w47 ⟨BG, rfl, ho0, hi, hb, hk⟩; refine ⟨_, rfl, ?_⟩; refine k4_ (Kd.R_lower ho0 (keep_size (w := w) (g := g) (row := none) (Z9))) (KeepBut.trans (Z9) hk (.inl rfl)) (hb) (hi) ?_; clear HK HB HI0; intro cj HK HB HI0; (try clear hb hk hi ho0); obtain ⟨Ao48, co48, eo48⟩ := Kd.R_slice cj.out; subst eo48) | ((with_reducible refine gate_callee (f := 45) rfl ?_); refine gl_ 13 Try.func45 #[.pointer (some ⟨g, 0, none⟩), .int .i64 (dp.length : Int)] ?_; (with_reducible refine (spec_l1Cur_pick.calls g s0_0 me mf (dp.length : Int) cM mK mL w0 _ ?_ ?_ A4.out).mono ?_); exact (Z8 HI0); exact Z10; rintro e Jq ⟨rfl, hi, hb, hk⟩; refine ⟨_, rfl, ?_⟩; refine k4_ (Kd.R_mono (Kd.R_keep (IsS69.apart (show IsS69 w0 _ g s0_0 me mf from Z8 HI0) (Z2 cj) (by decide)) hk (fun _ h => h.2)) (fun _ h => h.1)) (KeepBut.trans (Z9) hk (.inl rfl)) (hb) (hi) ?_; clear cj HK HB HI0; intro cj HK HB HI0; (try clear hb hk hi)) | ((with_reducible refine gate_callee (f := 45) rfl ?_); refine gl_ 15 Try.func45 #[.pointer (some ⟨g, 0, none⟩), .int .i64 30] ?_; (with_reducible refine (spec_l1Cur_pick.calls g s0_0 mK mL 30 gQ oJ oK w0 _ ?_ ?_ A5.out).mono ?_); exact (Z8 HI0); exact Z10; rintro e Cz ⟨rfl, hi, hb, hk⟩; refine ⟨_, rfl, ?_⟩; refine k4_ (Kd.R_mono (Kd.R_keep (IsS69.apart (show IsS69 w0 _ g s0_0 mK mL from Z8 HI0) (Z2 cj) (by decide)) hk (fun _ h => h.2)) (fun _ h => h.1)) (KeepBut.trans (Z9) hk (.inl rfl)) (hb) (hi) ?_; clear cj HK HB HI0; intro cj HK HB HI0; (try clear hb hk hi)))
  go_ret
  exact ⟨_, Z11, Z2 cj, Z8 HI0, Z10, Z9⟩
 rw [if_neg c3] at H
 have f5 : decide (0 < (dp.length : Int)) = false := decide_eq_false c3
 have oE : decide (0 < dp.length) = false := decide_eq_false (by omega)
 clear c3
 simp only [Option.some.injEq, Prod.mk.injEq] at H
 obtain ⟨rfl, rfl, rfl⟩ := H
 go_enter Try.func80, Try.ntmps80
 go_wp2_with ((with_reducible refine gate_callee (f := 87) rfl ?_); refine gl_ 6 Try.func87 #[.pointer (some ⟨g, 0, none⟩)] ?_; (with_reducible refine (spec_l1Cur_sheet.calls k g s0_0 s0_1 s0_2 dp me mf w0 _ ?_ ?_ A2.out).mono ?_); exact (Z8 HI0); exact Z10; rintro e JC ⟨BG, rfl, ho0, hi, hb, hk⟩; refine ⟨_, rfl, ?_⟩; refine k4_ (Kd.R_lower ho0 (keep_size (w := w) (g := g) (row := none) (Z9))) (KeepBut.trans (Z9) hk (.inl rfl)) (hb) (hi) ?_; clear HK HB HI0; intro cj HK HB HI0; (try clear hb hk hi ho0); obtain ⟨Hr, Hs, FT⟩ := Kd.R_slice cj.out; subst FT)
 go_ret
 exact ⟨_, Z11, Z2 cj, Z8 HI0, Z10, Z9⟩

end Go.Proofs.Ytmnnmddfmmaohaa.PFnPunchJobs
