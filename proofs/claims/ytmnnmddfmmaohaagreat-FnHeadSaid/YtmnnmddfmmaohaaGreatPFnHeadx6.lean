-- written by a program of this session: the kit's print, with outer functions of the session's own (wip/ext)
import Derived.Test.YtmnnmddfmmaohaaGreatPFnHeadx0
import Derived.Test.YtmnnmddfmmaohaaGreatPFnHeadx2
import Derived.Test.YtmnnmddfmmaohaaGreatPFnHeadx5
namespace Go.Proofs.YtmnnmddfmmaohaaGreat.PFnHead
open Go.RowKit Go.Proofs.YtmnnmddfmmaohaaGreatW.PrintWords Go.Proofs.YtmnnmddfmmaohaaGreatW.PrintLast Go.Proofs.YtmnnmddfmmaohaaGreatW.PrintMore
attribute [local go_sem] max2_int min2_int max_two min_two max_three min_three max_four min_four   -- for this text's walks alone
set_option linter.unusedVariables false
set_option linter.unusedSimpArgs false
theorem mo6_ {p : Prop} (h : p := by repeat' first | (with_reducible first | apply ih0 | apply ih0 | apply spec_l1Cur_sheet.mono | apply spec_l1Cur_sheet.mono | exact LeO.refl _ | exact LeO.none _ | refine LeO.ite ?_ ?_ | refine LeO.bind ?_ (fun _ => ?_)) | exact LeO.none _ | refine LeO.ite ?_ ?_ | refine LeO.bind ?_ (fun _ => ?_)) : p := h

/-! ### spec_l1Cur_anyHole: function 77 -/
def spec_l1Cur_anyHole.f (s0_0 : List Int) (s0_1 : Int) (s0_2 : Int) : Option (Int × Int × Int × Int × Int) := (spec_l1Cur_hole.f s0_0 s0_1 s0_2).bind fun cd => ((spec_l1Cur_pick.f s0_0 cd.2.2.2.1 cd.2.2.2.2 24).bind fun cE => (if cE.1 = 0 then ((spec_l1Cur_among.f s0_0 cE.2.1 cE.2.2 (([(-1), 19, 20] : List Int))).bind fun gc => (some (gc.1, cd.2.1, cd.2.2.1, gc.2.1, gc.2.2))) else (if cE.1 = 1 then ((spec_l1Cur_among.f s0_0 cE.2.1 cE.2.2 (([(-1), cd.2.2.1] : List Int))).bind fun gf => (some (cd.1, gf.1, cd.2.2.1, gf.2.1, gf.2.2))) else (if cE.1 = 2 then ((spec_l1Cur_among.f s0_0 cE.2.1 cE.2.2 (([cd.2.1, 2000, 2001] : List Int))).bind fun gg => (some (cd.1, cd.2.1, gg.1, gg.2.1, gg.2.2))) else (some (cd.1, cd.2.1, cd.2.2.1, cE.2.1, cE.2.2))))))
set_option maxHeartbeats 8000000 in
set_option maxRecDepth 100000 in
theorem spec_l1Cur_anyHole.calls (g : Nat) (s0_0 : List Int) (s0_1 : Int) (s0_2 : Int) (r1 : Int) (r2 : Int) (r3 : Int) (r4 : Int) (r5 : Int) (w0 w : World) (hI : IsS45 w0 w g s0_0 s0_1 s0_2) (hB : Below w0.heap.size w0 w) (h : spec_l1Cur_anyHole.f s0_0 s0_1 s0_2 = some (r1, r2, r3, r4, r5)) :
  Calls Tryz.prog 77 #[.pointer (some ⟨g, 0, none⟩)] w fun e w' => e = .returned (.agg #[.int .i64 r1, .int .i64 r2, .int .i64 r3]) ∧ IsS45 w0 w' g s0_0 r4 r5 ∧ Below w0.heap.size w0 w' ∧ KeepBut w w' g none := by
 have hu76 := Tryz.underlying76
 have HI0 := Aside0.mk hI
 have HK := Aside0.mk (KeepBut.refl w g none)
 have HL := Aside0.mk hB.size
 clear hI
 have HW0 := Aside0.mk hB.size
 have HB := Aside0.mk hB
 clear hB
 have H : ((spec_l1Cur_hole.f s0_0 s0_1 s0_2).bind fun cd => ((spec_l1Cur_pick.f s0_0 cd.2.2.2.1 cd.2.2.2.2 24).bind fun cE => (if cE.1 = 0 then ((spec_l1Cur_among.f s0_0 cE.2.1 cE.2.2 (([(-1), 19, 20] : List Int))).bind fun gc => (some (gc.1, cd.2.1, cd.2.2.1, gc.2.1, gc.2.2))) else (if cE.1 = 1 then ((spec_l1Cur_among.f s0_0 cE.2.1 cE.2.2 (([(-1), cd.2.2.1] : List Int))).bind fun gf => (some (cd.1, gf.1, cd.2.2.1, gf.2.1, gf.2.2))) else (if cE.1 = 2 then ((spec_l1Cur_among.f s0_0 cE.2.1 cE.2.2 (([cd.2.1, 2000, 2001] : List Int))).bind fun gg => (some (cd.1, cd.2.1, gg.1, gg.2.1, gg.2.2))) else (some (cd.1, cd.2.1, cd.2.2.1, cE.2.1, cE.2.2))))))) = some (r1, r2, r3, r4, r5) := h
 clear h
 replace H := Option.bind_eq_some_iff.mp H
 obtain ⟨⟨ew, ec, e0, ly, lz⟩, cK, H⟩ := H
 (try dsimp only at H)
 have A2 := Aside0.mk cK
 clear cK
 replace H := Option.bind_eq_some_iff.mp H
 obtain ⟨⟨fH, iB, iC⟩, fN, H⟩ := H
 (try dsimp only at H)
 have A3 := Aside0.mk fN
 clear fN
 by_cases c4 : fH = 0
 ·rw [if_pos c4] at H
  have fj : (fH == 0) = true := beq_iff_eq.mpr c4
  have c4b1 : (fH != 0) = false := bne_eq_false_iff_eq.mpr c4
  clear c4
  obtain ⟨zR, o2⟩ : ∃ y_ : List Int, y_ = (([(-1), 19, 20] : List Int)) := ⟨_, rfl⟩
  replace H : ((spec_l1Cur_among.f s0_0 iB iC zR).bind fun gc => (some (gc.1, ec, e0, gc.2.1, gc.2.2))) = some (r1, r2, r3, r4, r5) := by first | (rw [o2]; with_reducible exact H) | (have H2_ := (Option.bind_some _ _).symm.trans H; rw [o2]; with_reducible exact H2_) | (have H2_ := (Option.bind_some _ _).symm.trans H; with_reducible exact H2_) | with_reducible exact H | (rw [o2]; exact H) | exact H
  have xV := Aside0.mk o2
  clear o2
  replace H := Option.bind_eq_some_iff.mp H
  obtain ⟨⟨wk, t279, t280⟩, fM, H⟩ := H
  (try dsimp only at H)
  have A5 := Aside0.mk fM
  clear fM
  simp only [Option.some.injEq, Prod.mk.injEq] at H
  obtain ⟨rfl, rfl, rfl, rfl, rfl⟩ := H
  go_enter Tryz.func77, Tryz.ntmps77
  go_wp2_with (first | ((with_reducible refine gate_dst (N := 2) rfl ?_); refine bv_ 2 76 #[.int .i64 0, .int .i64 0, .int .i64 0] ?_; intro bg hg w6 hbox hb; refine k8_ (IsS45.below (Z3 HI0) hb) (KeepBut.trans (Z7) (KeepBut.of_below hb g none) (.inl rfl)) (below_step (Z8) hb) (hbox) ((Z70 : w.heap.size ≤ bg)) ((Nat.le_trans HW0.out (Z70 : w.heap.size ≤ bg) : w0.heap.size ≤ bg)) ((Z106 : g ≠ bg)) ((Z107 : bg ≠ g)) ?_; clear HI0 HK HB; intro HI0 HK HB aT m6 m5 ed bS; clear hb hbox hg) | ((with_reducible refine gate_callee (f := 75) rfl ?_); refine gl_ 5 Tryz.func75 #[.pointer (some ⟨g, 0, none⟩)] ?_; (with_reducible refine (spec_l1Cur_hole.calls g s0_0 s0_1 s0_2 ew ec e0 ly lz w0 _ ?_ ?_ A2.out).mono ?_); exact Z27; exact Z46; rintro e w7 ⟨rfl, hi, hb, hk⟩; refine ⟨_, rfl, ?_⟩; refine k4_ (KeepBut.blk hk (g' := bg) (o := .cells #[.int .i64 0, .int .i64 0, .int .i64 0] 76 (0, 0)) (Z6 aT) bS.out (by simp)) (KeepBut.trans (Z32) hk (.inl rfl)) (hb) (hi) ?_; clear aT HK HB HI0; intro aT HK HB HI0; (try clear hb hk hi)) | ((with_reducible refine gate_dst (N := 3) rfl ?_); refine bv_ 3 76 #[.int .i64 0, .int .i64 0, .int .i64 0] ?_; intro bv hg w8 hbox hb; refine k11_ (IsS45.below (Z27) hb) (Ye_ aT) (KeepBut.trans (Z32) (KeepBut.of_below hb g none) (.inl rfl)) (below_step (Z46) hb) (hbox) ((Z86 : w.heap.size ≤ bv)) ((Nat.le_trans HW0.out (Z86 : w.heap.size ≤ bv) : w0.heap.size ≤ bv)) ((Z97 : bg ≠ bv)) ((Z98 : bv ≠ bg)) ((Z125 : g ≠ bv)) ((Z126 : bv ≠ g)) ?_; clear HI0 aT HK HB; intro HI0 aT HK HB bo qL qJ bL dw eD cw; clear hb hbox hg; have hnb9 := dw.out; have hnc9 := bL.out; have hnb10 := cw.out; have hnc10 := eD.out; obtain ⟨i9, mi, hcz11_2, ja, mj, hfz11_2⟩ := bx3_ (w := w8) bo.out) | ((with_reducible refine gate_callee (f := 22) rfl ?_); refine gl_ 7 Tryz.func22 #[.pointer (some ⟨g, 0, none⟩), .int .i64 24] ?_; (with_reducible refine (spec_l1Cur_pick.calls g s0_0 ly lz 24 fH iB iC w0 _ ?_ ?_ A3.out).mono ?_); exact Z17; exact Z28; rintro e vy ⟨rfl, hi, hb, hk⟩; refine ⟨_, rfl, ?_⟩; refine k5_ (KeepBut.blk hk (g' := bg) (o := .cells #[.int .i64 0, .int .i64 0, .int .i64 0] 76 (0, 0)) (Z42) bS.out (by simp)) (KeepBut.blk hk (g' := bv) (o := .cells #[.int .i64 ew, .int .i64 ec, .int .i64 e0] 76 (0, 0)) (Z34 bo) cw.out (by simp)) (KeepBut.trans (Z23) hk (.inl rfl)) (hb) (hi) ?_; clear aT bo HK HB HI0; intro aT bo HK HB HI0; (try clear hb hk hi)) | ((with_reducible refine gate_dst (N := 11) rfl ?_); refine Kd.R_lit (Kd.int .i64) _ 3 ?hg (N := 11) ?hd (xs := ([(-1), 19, 20] : List Int)) (inner := [.int .i64 (-1), .int .i64 19, .int .i64 20]) (ok := fun _ => True) (okp := fun _ => True) ?hr ?hp (fun _ hk => hk) trivial (Below.refl _ _) (Nat.le_refl _) (by simp) ?_; (case hd => rfl); (case hg => rfl); (case hr => exact Z29); (case hp => exact (Reps.one (show Kd.M (Kd.int .i64) _ _ _ (-1) [.int .i64 (-1)] from rfl) (Reps.one (show Kd.M (Kd.int .i64) _ _ _ 19 [.int .i64 19] from rfl) (Reps.one (show Kd.M (Kd.int .i64) _ _ _ 20 [.int .i64 20] from rfl) (Reps.none _ _))))); intro v276 m8 ho14 hb hg_ hnew_; clear hg_ hnew_; (first | rw [← xV.out] at ho14 | (simp only [Int.reduceToNat] at ho14; rw [← xV.out] at ho14)); refine k6_ (Kd.R_lower ho14 (keep_size (w := w) (g := g) (row := none) (Z23))) (IsS45.below (Z17) hb) (Ye_ aT) (Ye_ bo) (KeepBut.trans (Z23) (KeepBut.of_below hb g none) (.inl rfl)) (below_step (Z28) hb) ?_; clear HI0 aT bo HK HB; intro la HI0 aT bo HK HB; clear hb ho14; obtain ⟨nG, jG, lD⟩ := Kd.R_slice la.out; subst lD) | ((with_reducible refine gate_callee (f := 42) rfl ?_); refine gl_ 12 Tryz.func42 #[.pointer (some ⟨g, 0, none⟩), .slice nG zR.length jG] ?_; (with_reducible refine (spec_l1Cur_among.calls g s0_0 iB iC _ _ zR wk t279 t280 w0 _ ?_ ?_ ?_ ?_ ?_ A5.out).mono ?_); exact Z17; exact Z28; exact (Z5 la); exact (Kd.R_reads' la.out).2.1; exact far_slice (IsS45.own_ne HI0.out la.out (by decide)); rintro e pw ⟨rfl, hi, hb, hk⟩; refine ⟨_, rfl, ?_⟩; refine k6_ (KeepBut.blk hk (g' := bg) (o := .cells #[.int .i64 0, .int .i64 0, .int .i64 0] 76 (0, 0)) (Z6 aT) bS.out (by simp)) (KeepBut.blk hk (g' := bv) (o := .cells #[.int .i64 ew, .int .i64 ec, .int .i64 e0] 76 (0, 0)) (Z6 bo) cw.out (by simp)) (Kd.R_mono (Kd.R_keep (IsS45.apart (show IsS45 w0 _ g s0_0 iB iC from Z17) (Z1 la) (by decide)) hk (fun _ h => h.2)) (fun _ h => h.1)) (KeepBut.trans (Z23) hk (.inl rfl)) (hb) (hi) ?_; clear aT bo la HK HB HI0; intro aT bo la HK HB HI0; (try clear hb hk hi); obtain ⟨hcz17_0, hcz17_1, hcz17_2, hfz17_0, hfz17_1, hfz17_2⟩ := bx3_ (w := pw) bo.out; have hnb18 := bS.out; have hnc18 := ed.out; obtain ⟨mC, rl, rm, mD, rn, ro⟩ := bx3_ (w := pw) aT.out))
  refine bodyPost_ret (results_cell_row rfl _ _ bg 76 #[.int .i64 wk, .int .i64 ec, .int .i64 e0] (0, 0) _ rfl (by (with_reducible repeat (first | refine blk_drewN ?_ _ | refine blk_drew ?_ | refine blk_alloc ?_ _)); refine blk_put (cs := #[.int .i64 wk, .int .i64 ec, .int .i64 0]) ?_ 2 _ rfl; (with_reducible repeat (first | refine blk_drewN ?_ _ | refine blk_drew ?_ | refine blk_alloc ?_ _)); refine blk_put (cs := #[.int .i64 wk, .int .i64 0, .int .i64 0]) ?_ 1 _ rfl; (with_reducible repeat (first | refine blk_drewN ?_ _ | refine blk_drew ?_ | refine blk_alloc ?_ _)); refine blk_put (cs := #[.int .i64 0, .int .i64 0, .int .i64 0]) ?_ 0 _ rfl; (with_reducible repeat (first | refine blk_drewN ?_ _ | refine blk_drew ?_ | refine blk_alloc ?_ _)); refine blk_far ?_ bL.out _; (with_reducible repeat (first | refine blk_drewN ?_ _ | refine blk_drew ?_ | refine blk_alloc ?_ _)); exact aT.out) Tryz.underlying76 rfl (by kernel_rfl)) rfl ?_
  exact ⟨Z12, Z17, Z28, Z23⟩
 rw [if_neg c4] at H
 have fj : (fH == 0) = false := beq_eq_false_iff_ne.mpr c4
 have c4b1 : (fH != 0) = true := bne_iff_ne.mpr c4
 by_cases c20 : fH = 1
 ·rw [if_pos c20] at H
  have ea : (fH == 1) = true := beq_iff_eq.mpr c20
  have xe : (fH != 1) = false := bne_eq_false_iff_eq.mpr c20
  clear c20
  obtain ⟨zS, o3⟩ : ∃ y_ : List Int, y_ = (([(-1), e0] : List Int)) := ⟨_, rfl⟩
  replace H : ((spec_l1Cur_among.f s0_0 iB iC zS).bind fun gf => (some (ew, gf.1, e0, gf.2.1, gf.2.2))) = some (r1, r2, r3, r4, r5) := by first | (rw [o3]; with_reducible exact H) | (have H2_ := (Option.bind_some _ _).symm.trans H; rw [o3]; with_reducible exact H2_) | (have H2_ := (Option.bind_some _ _).symm.trans H; with_reducible exact H2_) | with_reducible exact H | (rw [o3]; exact H) | exact H
  have xW := Aside0.mk o3
  clear o3
  replace H := Option.bind_eq_some_iff.mp H
  obtain ⟨⟨zT, t285, t286⟩, uN, H⟩ := H
  (try dsimp only at H)
  have Dj := Aside0.mk uN
  clear uN
  simp only [Option.some.injEq, Prod.mk.injEq] at H
  obtain ⟨rfl, rfl, rfl, rfl, rfl⟩ := H
  go_enter Tryz.func77, Tryz.ntmps77
  go_wp2_with (first | ((with_reducible refine gate_dst (N := 2) rfl ?_); refine bv_ 2 76 #[.int .i64 0, .int .i64 0, .int .i64 0] ?_; intro bg hg vA hbox hb; refine k8_ (IsS45.below (Z3 HI0) hb) (KeepBut.trans (Z7) (KeepBut.of_below hb g none) (.inl rfl)) (below_step (Z8) hb) (hbox) ((Z70 : w.heap.size ≤ bg)) ((Nat.le_trans HW0.out (Z70 : w.heap.size ≤ bg) : w0.heap.size ≤ bg)) ((Z106 : g ≠ bg)) ((Z107 : bg ≠ g)) ?_; clear HI0 HK HB; intro HI0 HK HB aT m6 m5 ed bS; clear hb hbox hg) | ((with_reducible refine gate_callee (f := 75) rfl ?_); refine gl_ 5 Tryz.func75 #[.pointer (some ⟨g, 0, none⟩)] ?_; (with_reducible refine (spec_l1Cur_hole.calls g s0_0 s0_1 s0_2 ew ec e0 ly lz w0 _ ?_ ?_ A2.out).mono ?_); exact Z27; exact Z46; rintro e AC ⟨rfl, hi, hb, hk⟩; refine ⟨_, rfl, ?_⟩; refine k4_ (KeepBut.blk hk (g' := bg) (o := .cells #[.int .i64 0, .int .i64 0, .int .i64 0] 76 (0, 0)) (Z6 aT) bS.out (by simp)) (KeepBut.trans (Z32) hk (.inl rfl)) (hb) (hi) ?_; clear aT HK HB HI0; intro aT HK HB HI0; (try clear hb hk hi)) | ((with_reducible refine gate_dst (N := 3) rfl ?_); refine bv_ 3 76 #[.int .i64 0, .int .i64 0, .int .i64 0] ?_; intro bv hg jE hbox hb; refine k11_ (IsS45.below (Z27) hb) (Ye_ aT) (KeepBut.trans (Z32) (KeepBut.of_below hb g none) (.inl rfl)) (below_step (Z46) hb) (hbox) ((Z86 : w.heap.size ≤ bv)) ((Nat.le_trans HW0.out (Z86 : w.heap.size ≤ bv) : w0.heap.size ≤ bv)) ((Z97 : bg ≠ bv)) ((Z98 : bv ≠ bg)) ((Z125 : g ≠ bv)) ((Z126 : bv ≠ g)) ?_; clear HI0 aT HK HB; intro HI0 aT HK HB bo qL qJ bL dw eD cw; clear hb hbox hg; have hnb25 := dw.out; have hnc25 := bL.out; have hnb26 := cw.out; have hnc26 := eD.out; obtain ⟨hcz27_0, hcz27_1, hcz27_2, hfz27_0, hfz27_1, hfz27_2⟩ := bx3_ (w := jE) bo.out) | ((with_reducible refine gate_callee (f := 22) rfl ?_); refine gl_ 7 Tryz.func22 #[.pointer (some ⟨g, 0, none⟩), .int .i64 24] ?_; (with_reducible refine (spec_l1Cur_pick.calls g s0_0 ly lz 24 fH iB iC w0 _ ?_ ?_ A3.out).mono ?_); exact Z17; exact Z28; rintro e sv ⟨rfl, hi, hb, hk⟩; refine ⟨_, rfl, ?_⟩; refine k5_ (KeepBut.blk hk (g' := bg) (o := .cells #[.int .i64 0, .int .i64 0, .int .i64 0] 76 (0, 0)) (Z42) bS.out (by simp)) (KeepBut.blk hk (g' := bv) (o := .cells #[.int .i64 ew, .int .i64 ec, .int .i64 e0] 76 (0, 0)) (Z34 bo) cw.out (by simp)) (KeepBut.trans (Z23) hk (.inl rfl)) (hb) (hi) ?_; clear aT bo HK HB HI0; intro aT bo HK HB HI0; (try clear hb hk hi); obtain ⟨hcz29_0, hcz29_1, hcz29_2, hfz29_0, hfz29_1, hfz29_2⟩ := bx3_ (w := sv) bo.out) | ((with_reducible refine gate_dst (N := 19) rfl ?_); refine Kd.R_lit (Kd.int .i64) _ 3 ?hg (N := 19) ?hd (xs := ([(-1), e0] : List Int)) (inner := [.int .i64 (-1), .int .i64 e0]) (ok := fun _ => True) (okp := fun _ => True) ?hr ?hp (fun _ hk => hk) trivial (Below.refl _ _) (Nat.le_refl _) (by simp) ?_; (case hd => rfl); (case hg => rfl); (case hr => exact Z29); (case hp => exact (Reps.one (show Kd.M (Kd.int .i64) _ _ _ (-1) [.int .i64 (-1)] from rfl) (Reps.one (show Kd.M (Kd.int .i64) _ _ _ e0 [.int .i64 e0] from rfl) (Reps.none _ _)))); intro v282 pq ho31 hb hg_ hnew_; clear hg_ hnew_; (first | rw [← xW.out] at ho31 | (simp only [Int.reduceToNat] at ho31; rw [← xW.out] at ho31)); refine k6_ (Kd.R_lower ho31 (keep_size (w := w) (g := g) (row := none) (Z23))) (IsS45.below (Z17) hb) (Ye_ aT) (Ye_ bo) (KeepBut.trans (Z23) (KeepBut.of_below hb g none) (.inl rfl)) (below_step (Z28) hb) ?_; clear HI0 aT bo HK HB; intro lb HI0 aT bo HK HB; clear hb ho31; obtain ⟨Cg, zU, zV⟩ := Kd.R_slice lb.out; subst zV) | ((with_reducible refine gate_callee (f := 42) rfl ?_); refine gl_ 20 Tryz.func42 #[.pointer (some ⟨g, 0, none⟩), .slice Cg zS.length zU] ?_; (with_reducible refine (spec_l1Cur_among.calls g s0_0 iB iC _ _ zS zT t285 t286 w0 _ ?_ ?_ ?_ ?_ ?_ Dj.out).mono ?_); exact Z17; exact Z28; exact (Z5 lb); exact (Kd.R_reads' lb.out).2.1; exact far_slice (IsS45.own_ne HI0.out lb.out (by decide)); rintro e ir ⟨rfl, hi, hb, hk⟩; refine ⟨_, rfl, ?_⟩; refine k6_ (KeepBut.blk hk (g' := bg) (o := .cells #[.int .i64 0, .int .i64 0, .int .i64 0] 76 (0, 0)) (Z6 aT) bS.out (by simp)) (KeepBut.blk hk (g' := bv) (o := .cells #[.int .i64 ew, .int .i64 ec, .int .i64 e0] 76 (0, 0)) (Z6 bo) cw.out (by simp)) (Kd.R_mono (Kd.R_keep (IsS45.apart (show IsS45 w0 _ g s0_0 iB iC from Z17) (Z1 lb) (by decide)) hk (fun _ h => h.2)) (fun _ h => h.1)) (KeepBut.trans (Z23) hk (.inl rfl)) (hb) (hi) ?_; clear aT bo lb HK HB HI0; intro aT bo lb HK HB HI0; (try clear hb hk hi); obtain ⟨hcz34_0, hcz34_1, hcz34_2, hfz34_0, hfz34_1, hfz34_2⟩ := bx3_ (w := ir) bo.out; have hnb35 := bS.out; have hnc35 := ed.out; obtain ⟨hcz36_0, hcz36_1, hcz36_2, hfz36_0, hfz36_1, hfz36_2⟩ := bx3_ (w := ir) aT.out))
  refine bodyPost_ret (results_cell_row rfl _ _ bg 76 #[.int .i64 ew, .int .i64 zT, .int .i64 e0] (0, 0) _ rfl (by (with_reducible repeat (first | refine blk_drewN ?_ _ | refine blk_drew ?_ | refine blk_alloc ?_ _)); refine blk_put (cs := #[.int .i64 ew, .int .i64 zT, .int .i64 0]) ?_ 2 _ rfl; (with_reducible repeat (first | refine blk_drewN ?_ _ | refine blk_drew ?_ | refine blk_alloc ?_ _)); refine blk_put (cs := #[.int .i64 ew, .int .i64 0, .int .i64 0]) ?_ 1 _ rfl; (with_reducible repeat (first | refine blk_drewN ?_ _ | refine blk_drew ?_ | refine blk_alloc ?_ _)); refine blk_put (cs := #[.int .i64 0, .int .i64 0, .int .i64 0]) ?_ 0 _ rfl; (with_reducible repeat (first | refine blk_drewN ?_ _ | refine blk_drew ?_ | refine blk_alloc ?_ _)); refine blk_far ?_ bL.out _; (with_reducible repeat (first | refine blk_drewN ?_ _ | refine blk_drew ?_ | refine blk_alloc ?_ _)); exact aT.out) Tryz.underlying76 rfl (by kernel_rfl)) rfl ?_
  exact ⟨Z12, Z17, Z28, Z23⟩
 rw [if_neg c20] at H
 have ea : (fH == 1) = false := beq_eq_false_iff_ne.mpr c20
 have xe : (fH != 1) = true := bne_iff_ne.mpr c20
 by_cases c37 : fH = 2
 ·rw [if_pos c37] at H
  have oJ : (fH == 2) = true := beq_iff_eq.mpr c37
  have oK : (fH != 2) = false := bne_eq_false_iff_eq.mpr c37
  clear c37
  obtain ⟨zW, o4⟩ : ∃ y_ : List Int, y_ = (([ec, 2000, 2001] : List Int)) := ⟨_, rfl⟩
  replace H : ((spec_l1Cur_among.f s0_0 iB iC zW).bind fun gg => (some (ew, ec, gg.1, gg.2.1, gg.2.2))) = some (r1, r2, r3, r4, r5) := by first | (rw [o4]; with_reducible exact H) | (have H2_ := (Option.bind_some _ _).symm.trans H; rw [o4]; with_reducible exact H2_) | (have H2_ := (Option.bind_some _ _).symm.trans H; with_reducible exact H2_) | with_reducible exact H | (rw [o4]; exact H) | exact H
  have xX := Aside0.mk o4
  clear o4
  replace H := Option.bind_eq_some_iff.mp H
  obtain ⟨⟨Ch, t291, t292⟩, Ci, H⟩ := H
  (try dsimp only at H)
  have A38 := Aside0.mk Ci
  clear Ci
  simp only [Option.some.injEq, Prod.mk.injEq] at H
  obtain ⟨rfl, rfl, rfl, rfl, rfl⟩ := H
  go_enter Tryz.func77, Tryz.ntmps77
  go_wp2_with (first | ((with_reducible refine gate_dst (N := 2) rfl ?_); refine bv_ 2 76 #[.int .i64 0, .int .i64 0, .int .i64 0] ?_; intro bg hg Bg hbox hb; refine k8_ (IsS45.below (Z3 HI0) hb) (KeepBut.trans (Z7) (KeepBut.of_below hb g none) (.inl rfl)) (below_step (Z8) hb) (hbox) ((Z70 : w.heap.size ≤ bg)) ((Nat.le_trans HW0.out (Z70 : w.heap.size ≤ bg) : w0.heap.size ≤ bg)) ((Z106 : g ≠ bg)) ((Z107 : bg ≠ g)) ?_; clear HI0 HK HB; intro HI0 HK HB aT m6 m5 ed bS; clear hb hbox hg) | ((with_reducible refine gate_callee (f := 75) rfl ?_); refine gl_ 5 Tryz.func75 #[.pointer (some ⟨g, 0, none⟩)] ?_; (with_reducible refine (spec_l1Cur_hole.calls g s0_0 s0_1 s0_2 ew ec e0 ly lz w0 _ ?_ ?_ A2.out).mono ?_); exact Z27; exact Z46; rintro e rX ⟨rfl, hi, hb, hk⟩; refine ⟨_, rfl, ?_⟩; refine k4_ (KeepBut.blk hk (g' := bg) (o := .cells #[.int .i64 0, .int .i64 0, .int .i64 0] 76 (0, 0)) (Z6 aT) bS.out (by simp)) (KeepBut.trans (Z32) hk (.inl rfl)) (hb) (hi) ?_; clear aT HK HB HI0; intro aT HK HB HI0; (try clear hb hk hi)) | ((with_reducible refine gate_dst (N := 3) rfl ?_); refine bv_ 3 76 #[.int .i64 0, .int .i64 0, .int .i64 0] ?_; intro bv hg vB hbox hb; refine k11_ (IsS45.below (Z27) hb) (Ye_ aT) (KeepBut.trans (Z32) (KeepBut.of_below hb g none) (.inl rfl)) (below_step (Z46) hb) (hbox) ((Z86 : w.heap.size ≤ bv)) ((Nat.le_trans HW0.out (Z86 : w.heap.size ≤ bv) : w0.heap.size ≤ bv)) ((Z97 : bg ≠ bv)) ((Z98 : bv ≠ bg)) ((Z125 : g ≠ bv)) ((Z126 : bv ≠ g)) ?_; clear HI0 aT HK HB; intro HI0 aT HK HB bo qL qJ bL dw eD cw; clear hb hbox hg; have hnb42 := dw.out; have hnc42 := bL.out; have hnb43 := cw.out; have hnc43 := eD.out; obtain ⟨hcz44_0, hcz44_1, hcz44_2, hfz44_0, hfz44_1, hfz44_2⟩ := bx3_ (w := vB) bo.out) | ((with_reducible refine gate_callee (f := 22) rfl ?_); refine gl_ 7 Tryz.func22 #[.pointer (some ⟨g, 0, none⟩), .int .i64 24] ?_; (with_reducible refine (spec_l1Cur_pick.calls g s0_0 ly lz 24 fH iB iC w0 _ ?_ ?_ A3.out).mono ?_); exact Z17; exact Z28; rintro e Dh ⟨rfl, hi, hb, hk⟩; refine ⟨_, rfl, ?_⟩; refine k5_ (KeepBut.blk hk (g' := bg) (o := .cells #[.int .i64 0, .int .i64 0, .int .i64 0] 76 (0, 0)) (Z42) bS.out (by simp)) (KeepBut.blk hk (g' := bv) (o := .cells #[.int .i64 ew, .int .i64 ec, .int .i64 e0] 76 (0, 0)) (Z34 bo) cw.out (by simp)) (KeepBut.trans (Z23) hk (.inl rfl)) (hb) (hi) ?_; clear aT bo HK HB HI0; intro aT bo HK HB HI0; (try clear hb hk hi); obtain ⟨hcz46_0, hcz46_1, hcz46_2, hfz46_0, hfz46_1, hfz46_2⟩ := bx3_ (w := Dh) bo.out) | ((with_reducible refine gate_dst (N := 27) rfl ?_); refine Kd.R_lit (Kd.int .i64) _ 3 ?hg (N := 27) ?hd (xs := ([ec, 2000, 2001] : List Int)) (inner := [.int .i64 ec, .int .i64 2000, .int .i64 2001]) (ok := fun _ => True) (okp := fun _ => True) ?hr ?hp (fun _ hk => hk) trivial (Below.refl _ _) (Nat.le_refl _) (by simp) ?_; (case hd => rfl); (case hg => rfl); (case hr => exact Z29); (case hp => exact (Reps.one (show Kd.M (Kd.int .i64) _ _ _ ec [.int .i64 ec] from rfl) (Reps.one (show Kd.M (Kd.int .i64) _ _ _ 2000 [.int .i64 2000] from rfl) (Reps.one (show Kd.M (Kd.int .i64) _ _ _ 2001 [.int .i64 2001] from rfl) (Reps.none _ _))))); intro BS DT ho48 hb hg_ hnew_; clear hg_ hnew_; (first | rw [← xX.out] at ho48 | (simp only [Int.reduceToNat] at ho48; rw [← xX.out] at ho48)); refine k6_ (Kd.R_lower ho48 (keep_size (w := w) (g := g) (row := none) (Z23))) (IsS45.below (Z17) hb) (Ye_ aT) (Ye_ bo) (KeepBut.trans (Z23) (KeepBut.of_below hb g none) (.inl rfl)) (below_step (Z28) hb) ?_; clear HI0 aT bo HK HB; intro lc HI0 aT bo HK HB; clear hb ho48; obtain ⟨Ao49, co49, eo49⟩ := Kd.R_slice lc.out; subst eo49) | ((with_reducible refine gate_callee (f := 42) rfl ?_); refine gl_ 28 Tryz.func42 #[.pointer (some ⟨g, 0, none⟩), .slice Ao49 zW.length co49] ?_; (with_reducible refine (spec_l1Cur_among.calls g s0_0 iB iC _ _ zW Ch t291 t292 w0 _ ?_ ?_ ?_ ?_ ?_ A38.out).mono ?_); exact Z17; exact Z28; exact (Z5 lc); exact (Kd.R_reads' lc.out).2.1; exact far_slice (IsS45.own_ne HI0.out lc.out (by decide)); rintro e jI ⟨rfl, hi, hb, hk⟩; refine ⟨_, rfl, ?_⟩; refine k6_ (KeepBut.blk hk (g' := bg) (o := .cells #[.int .i64 0, .int .i64 0, .int .i64 0] 76 (0, 0)) (Z6 aT) bS.out (by simp)) (KeepBut.blk hk (g' := bv) (o := .cells #[.int .i64 ew, .int .i64 ec, .int .i64 e0] 76 (0, 0)) (Z6 bo) cw.out (by simp)) (Kd.R_mono (Kd.R_keep (IsS45.apart (show IsS45 w0 _ g s0_0 iB iC from Z17) (Z1 lc) (by decide)) hk (fun _ h => h.2)) (fun _ h => h.1)) (KeepBut.trans (Z23) hk (.inl rfl)) (hb) (hi) ?_; clear aT bo lc HK HB HI0; intro aT bo lc HK HB HI0; (try clear hb hk hi); obtain ⟨hcz51_0, hcz51_1, hcz51_2, hfz51_0, hfz51_1, hfz51_2⟩ := bx3_ (w := jI) bo.out; have hnb52 := bS.out; have hnc52 := ed.out; obtain ⟨hcz53_0, hcz53_1, hcz53_2, hfz53_0, hfz53_1, hfz53_2⟩ := bx3_ (w := jI) aT.out))
  refine bodyPost_ret (results_cell_row rfl _ _ bg 76 #[.int .i64 ew, .int .i64 ec, .int .i64 Ch] (0, 0) _ rfl (by (with_reducible repeat (first | refine blk_drewN ?_ _ | refine blk_drew ?_ | refine blk_alloc ?_ _)); refine blk_put (cs := #[.int .i64 ew, .int .i64 ec, .int .i64 0]) ?_ 2 _ rfl; (with_reducible repeat (first | refine blk_drewN ?_ _ | refine blk_drew ?_ | refine blk_alloc ?_ _)); refine blk_put (cs := #[.int .i64 ew, .int .i64 0, .int .i64 0]) ?_ 1 _ rfl; (with_reducible repeat (first | refine blk_drewN ?_ _ | refine blk_drew ?_ | refine blk_alloc ?_ _)); refine blk_put (cs := #[.int .i64 0, .int .i64 0, .int .i64 0]) ?_ 0 _ rfl; (with_reducible repeat (first | refine blk_drewN ?_ _ | refine blk_drew ?_ | refine blk_alloc ?_ _)); refine blk_far ?_ bL.out _; (with_reducible repeat (first | refine blk_drewN ?_ _ | refine blk_drew ?_ | refine blk_alloc ?_ _)); exact aT.out) Tryz.underlying76 rfl (by kernel_rfl)) rfl ?_
  exact ⟨Z12, Z17, Z28, Z23⟩
 rw [if_neg c37] at H
 have oJ : (fH == 2) = false := beq_eq_false_iff_ne.mpr c37
 have oK : (fH != 2) = true := bne_iff_ne.mpr c37
 simp only [Option.some.injEq, Prod.mk.injEq] at H
 obtain ⟨rfl, rfl, rfl, rfl, rfl⟩ := H
 go_enter Tryz.func77, Tryz.ntmps77
 go_wp2_with (first | ((with_reducible refine gate_dst (N := 2) rfl ?_); refine bv_ 2 76 #[.int .i64 0, .int .i64 0, .int .i64 0] ?_; intro bg hg sx hbox hb; refine k8_ (IsS45.below (Z3 HI0) hb) (KeepBut.trans (Z7) (KeepBut.of_below hb g none) (.inl rfl)) (below_step (Z8) hb) (hbox) ((Z70 : w.heap.size ≤ bg)) ((Nat.le_trans HW0.out (Z70 : w.heap.size ≤ bg) : w0.heap.size ≤ bg)) ((Z106 : g ≠ bg)) ((Z107 : bg ≠ g)) ?_; clear HI0 HK HB; intro HI0 HK HB aT m6 m5 ed bS; clear hb hbox hg) | ((with_reducible refine gate_callee (f := 75) rfl ?_); refine gl_ 5 Tryz.func75 #[.pointer (some ⟨g, 0, none⟩)] ?_; (with_reducible refine (spec_l1Cur_hole.calls g s0_0 s0_1 s0_2 ew ec e0 ly lz w0 _ ?_ ?_ A2.out).mono ?_); exact Z27; exact Z46; rintro e rU ⟨rfl, hi, hb, hk⟩; refine ⟨_, rfl, ?_⟩; refine k4_ (KeepBut.blk hk (g' := bg) (o := .cells #[.int .i64 0, .int .i64 0, .int .i64 0] 76 (0, 0)) (Z6 aT) bS.out (by simp)) (KeepBut.trans (Z32) hk (.inl rfl)) (hb) (hi) ?_; clear aT HK HB HI0; intro aT HK HB HI0; (try clear hb hk hi)) | ((with_reducible refine gate_dst (N := 3) rfl ?_); refine bv_ 3 76 #[.int .i64 0, .int .i64 0, .int .i64 0] ?_; intro bv hg eY hbox hb; refine k11_ (IsS45.below (Z27) hb) (Ye_ aT) (KeepBut.trans (Z32) (KeepBut.of_below hb g none) (.inl rfl)) (below_step (Z46) hb) (hbox) ((Z86 : w.heap.size ≤ bv)) ((Nat.le_trans HW0.out (Z86 : w.heap.size ≤ bv) : w0.heap.size ≤ bv)) ((Z97 : bg ≠ bv)) ((Z98 : bv ≠ bg)) ((Z125 : g ≠ bv)) ((Z126 : bv ≠ g)) ?_; clear HI0 aT HK HB; intro HI0 aT HK HB bo qL qJ bL dw eD cw; clear hb hbox hg; have hnb57 := dw.out; have hnc57 := bL.out; have hnb58 := cw.out; have hnc58 := eD.out; obtain ⟨hcz59_0, hcz59_1, hcz59_2, hfz59_0, hfz59_1, hfz59_2⟩ := bx3_ (w := eY) bo.out) | ((with_reducible refine gate_callee (f := 22) rfl ?_); refine gl_ 7 Tryz.func22 #[.pointer (some ⟨g, 0, none⟩), .int .i64 24] ?_; (with_reducible refine (spec_l1Cur_pick.calls g s0_0 ly lz 24 fH iB iC w0 _ ?_ ?_ A3.out).mono ?_); exact Z17; exact Z28; rintro e pt ⟨rfl, hi, hb, hk⟩; refine ⟨_, rfl, ?_⟩; refine k5_ (KeepBut.blk hk (g' := bg) (o := .cells #[.int .i64 0, .int .i64 0, .int .i64 0] 76 (0, 0)) (Z42) bS.out (by simp)) (KeepBut.blk hk (g' := bv) (o := .cells #[.int .i64 ew, .int .i64 ec, .int .i64 e0] 76 (0, 0)) (Z34 bo) cw.out (by simp)) (KeepBut.trans (Z23) hk (.inl rfl)) (hb) (hi) ?_; clear aT bo HK HB HI0; intro aT bo HK HB HI0; (try clear hb hk hi); obtain ⟨hcz61_0, hcz61_1, hcz61_2, hfz61_0, hfz61_1, hfz61_2⟩ := bx3_ (w := pt) bo.out; have hnb62 := bS.out; have hnc62 := ed.out; obtain ⟨hcz63_0, hcz63_1, hcz63_2, hfz63_0, hfz63_1, hfz63_2⟩ := bx3_ (w := pt) aT.out))
 refine bodyPost_ret (results_cell_row rfl _ _ bg 76 #[.int .i64 ew, .int .i64 ec, .int .i64 e0] (0, 0) _ rfl (Z34 aT) Tryz.underlying76 rfl (by kernel_rfl)) rfl ?_
 exact ⟨Z12, Z17, Z28, Z23⟩

/-! ### spec_l1Cur_anySheet: function 59 -/
def spec_l1Cur_anySheet.l0 : Nat → List (S76) → List Int → Int → Int → Option ((List (S76)) × Int × Int)
 | 0, _, _, _, _ => none
 | k + 1, x3, bm, bH, bI => if (x3.length : Int) < 61 then (if x3.length < 5864062014805 then (spec_l1Cur_anySheet.l0 k (x3 ++ [(⟨1, wrap64 (3 * (x3.length : Int)), wrap64 ((wrap64 (3 * (x3.length : Int))) + 1)⟩ : S76)]) bm bH bI) else (none)) else (some (x3, bH, bI))
def spec_l1Cur_anySheet.f (k : Nat) (s0_0 : List Int) (s0_1 : Int) (s0_2 : Int) : Option ((List (S76)) × Int × Int) := (spec_l1Cur_sheet.f k s0_0 s0_1 s0_2).bind fun bn => (if (bn.1.length : Int) > 0 then ((spec_l1Cur_pick.f s0_0 bn.2.1 bn.2.2 (bn.1.length : Int)).bind fun bN => ((spec_l1Cur_pick.f s0_0 bN.2.1 bN.2.2 30).bind fun bV => (if bV.1 = 0 then ((spec_l1Cur_anyHole.f s0_0 bV.2.1 bV.2.2).bind fun gh => (if 0 ≤ bN.1 then (if bN.1 < (bn.1.length : Int) then (some ((bn.1.set (bN.1 : Int).toNat (⟨gh.1, gh.2.1, gh.2.2.1⟩ : S76)), gh.2.2.2.1, gh.2.2.2.2)) else (none)) else (none))) else (if bV.1 = 1 then (if 0 ≤ bN.1 then (if bN.1 < (bn.1.length : Int) then (if bn.1.length < 5864062014805 then (some ((bn.1 ++ [(⟨(rd_T76 bn.1 bN.1).f0, (rd_T76 bn.1 bN.1).f1, (rd_T76 bn.1 bN.1).f2⟩ : S76)]), bV.2.1, bV.2.2)) else (none)) else (none)) else (none)) else (if bV.1 = 2 then (if 0 ≤ bN.1 then (if bN.1 < (bn.1.length : Int) then (if bn.1.length < 5864062014805 then (some ((bn.1 ++ [(⟨(rd_T76 bn.1 bN.1).f0, (rd_T76 bn.1 bN.1).f2, wrap64 (((rd_T76 bn.1 bN.1).f2) + 2)⟩ : S76)]), bV.2.1, bV.2.2)) else (none)) else (none)) else (none)) else (if bV.1 = 3 then (spec_l1Cur_anySheet.l0 k ([] : List (S76)) s0_0 bV.2.1 bV.2.2) else (some (bn.1, bV.2.1, bV.2.2)))))))) else (some (bn.1, bn.2.1, bn.2.2)))
theorem spec_l1Cur_anySheet.mono_l : ∀ k, (∀ y0 y1 y2 y3, LeO (spec_l1Cur_anySheet.l0 k y0 y1 y2 y3) (spec_l1Cur_anySheet.l0 (k + 1) y0 y1 y2 y3))
 | 0 => fun _ _ _ _ r h => by simp [spec_l1Cur_anySheet.l0] at h
 | k + 1 => by
  have ih0 := spec_l1Cur_anySheet.mono_l k
  ·intro y0 y1 y2 y3
   unfold spec_l1Cur_anySheet.l0
   exact mo6_
theorem spec_l1Cur_anySheet.mono : ∀ a0 a1 a2 k, LeO (spec_l1Cur_anySheet.f k a0 a1 a2) (spec_l1Cur_anySheet.f (k + 1) a0 a1 a2) := by
 intro a0 a1 a2 k
 have ih0 := spec_l1Cur_anySheet.mono_l k
 unfold spec_l1Cur_anySheet.f
 exact mo6_
def spec_l1Cur_anySheet.T10 : Bool × List (List Nat × List Nat) := (true, [([], []), ([], []), ([], []), ([1, 2], [1, 2]), ([3], [3]), ([4], [4]), ([], []), ([], []), ([6, 7], [6, 7]), ([8], [8]), ([9], [9]), ([], []), ([], []), ([11, 12], [11, 12]), ([13], [13]), ([14], [14]), ([15], [15]), ([5, 10, 16], [5, 10, 16]), ([17], [17]), ([0, 18], [0, 18]), ([19, 19, 0, 1, 2, 3, 4, 5, 6, 7, 8, 9, 10, 11, 12, 13, 14, 15, 16, 17, 18, 19], [0, 1, 6, 11, 19])])
def spec_l1Cur_anySheet.B10 : List Nat := [0, 0, 0, 6, 14, 30, 0, 0, 192, 448, 960, 0, 0, 6144, 14336, 30720, 63488, 131070, 262142, 524287, 1048575]
theorem spec_l1Cur_anySheet.tab10 : rtab .any (opsOf Tryz.f59 10) = spec_l1Cur_anySheet.T10 := by kernel_rfl
theorem spec_l1Cur_anySheet.bits10 : waitsOk spec_l1Cur_anySheet.T10.2 spec_l1Cur_anySheet.B10 = true := by kernel_rfl
set_option maxHeartbeats 8000000 in
set_option maxRecDepth 100000 in
theorem spec_l1Cur_anySheet.calls (k : Nat) (g : Nat) (s0_0 : List Int) (s0_1 : Int) (s0_2 : Int) (r1 : List (S76)) (r2 : Int) (r3 : Int) (w0 w : World) (hI : IsS45 w0 w g s0_0 s0_1 s0_2) (hB : Below w0.heap.size w0 w) (h : spec_l1Cur_anySheet.f k s0_0 s0_1 s0_2 = some (r1, r2, r3)) :
  Calls Tryz.prog 59 #[.pointer (some ⟨g, 0, none⟩)] w fun e w' => ∃ v0_ : Value, e = .returned (v0_) ∧ Kd.R k76 76 w' w.heap.size (fun _ => True) v0_ r1 ∧ IsS45 w0 w' g s0_0 r2 r3 ∧ Below w0.heap.size w0 w' ∧ KeepBut w w' g none := by
 have hu76 := Tryz.underlying76
 have HI0 := Aside0.mk hI
 have HK := Aside0.mk (KeepBut.refl w g none)
 have HL := Aside0.mk hB.size
 clear hI
 have HW0 := Aside0.mk hB.size
 have HB := Aside0.mk hB
 clear hB
 have H : ((spec_l1Cur_sheet.f k s0_0 s0_1 s0_2).bind fun bn => (if (bn.1.length : Int) > 0 then ((spec_l1Cur_pick.f s0_0 bn.2.1 bn.2.2 (bn.1.length : Int)).bind fun bN => ((spec_l1Cur_pick.f s0_0 bN.2.1 bN.2.2 30).bind fun bV => (if bV.1 = 0 then ((spec_l1Cur_anyHole.f s0_0 bV.2.1 bV.2.2).bind fun gh => (if 0 ≤ bN.1 then (if bN.1 < (bn.1.length : Int) then (some ((bn.1.set (bN.1 : Int).toNat (⟨gh.1, gh.2.1, gh.2.2.1⟩ : S76)), gh.2.2.2.1, gh.2.2.2.2)) else (none)) else (none))) else (if bV.1 = 1 then (if 0 ≤ bN.1 then (if bN.1 < (bn.1.length : Int) then (if bn.1.length < 5864062014805 then (some ((bn.1 ++ [(⟨(rd_T76 bn.1 bN.1).f0, (rd_T76 bn.1 bN.1).f1, (rd_T76 bn.1 bN.1).f2⟩ : S76)]), bV.2.1, bV.2.2)) else (none)) else (none)) else (none)) else (if bV.1 = 2 then (if 0 ≤ bN.1 then (if bN.1 < (bn.1.length : Int) then (if bn.1.length < 5864062014805 then (some ((bn.1 ++ [(⟨(rd_T76 bn.1 bN.1).f0, (rd_T76 bn.1 bN.1).f2, wrap64 (((rd_T76 bn.1 bN.1).f2) + 2)⟩ : S76)]), bV.2.1, bV.2.2)) else (none)) else (none)) else (none)) else (if bV.1 = 3 then (spec_l1Cur_anySheet.l0 k ([] : List (S76)) s0_0 bV.2.1 bV.2.2) else (some (bn.1, bV.2.1, bV.2.2)))))))) else (some (bn.1, bn.2.1, bn.2.2)))) = some (r1, r2, r3) := h
 clear h
 replace H := Option.bind_eq_some_iff.mp H
 obtain ⟨⟨aY, gB, gC⟩, cK, H⟩ := H
 (try dsimp only at H)
 have A2 := Aside0.mk cK
 clear cK
 by_cases c3 : (aY.length : Int) > 0
 ·rw [if_pos c3] at H
  have dj : decide (0 < (aY.length : Int)) = true := decide_eq_true c3
  have lC : decide (0 < aY.length) = true := decide_eq_true (by omega)
  clear c3
  replace H := Option.bind_eq_some_iff.mp H
  obtain ⟨⟨aU, gN, gO⟩, fW, H⟩ := H
  (try dsimp only at H)
  have A4 := Aside0.mk fW
  clear fW
  replace H := Option.bind_eq_some_iff.mp H
  obtain ⟨⟨d5, i5, i6⟩, fM, H⟩ := H
  (try dsimp only at H)
  have A5 := Aside0.mk fM
  clear fM
  by_cases c6 : d5 = 0
  ·rw [if_pos c6] at H
   have iq : (d5 == 0) = true := beq_iff_eq.mpr c6
   have vU : (d5 != 0) = false := bne_eq_false_iff_eq.mpr c6
   clear c6
   replace H := Option.bind_eq_some_iff.mp H
   obtain ⟨⟨si, sj, sk, Cj, Ck⟩, nq, H⟩ := H
   (try dsimp only at H)
   have A7 := Aside0.mk nq
   clear nq
   by_cases c8 : 0 ≤ aU
   ·rw [if_pos c8] at H
    have g7 : decide (0 ≤ aU) = true := decide_eq_true c8
    clear c8
    by_cases c9 : aU < (aY.length : Int)
    ·rw [if_pos c9] at H
     have iX : decide (aU < (aY.length : Int)) = true := decide_eq_true c9
     clear c9
     obtain ⟨Cl, o5⟩ : ∃ y_ : List (S76), y_ = (aY.set (aU : Int).toNat (⟨si, sj, sk⟩ : S76)) := ⟨_, rfl⟩
     replace H : (some (Cl, Cj, Ck)) = some (r1, r2, r3) := by first | (rw [o5]; with_reducible exact H) | (have H2_ := (Option.bind_some _ _).symm.trans H; rw [o5]; with_reducible exact H2_) | (have H2_ := (Option.bind_some _ _).symm.trans H; with_reducible exact H2_) | with_reducible exact H | (rw [o5]; exact H) | exact H
     have Ny309 := Aside0.mk o5
     clear o5
     simp only [Option.some.injEq, Prod.mk.injEq] at H
     obtain ⟨rfl, rfl, rfl⟩ := H
     go_enter Tryz.func59, Tryz.ntmps59
     go_wp2_with (first | ((with_reducible refine gate_callee (f := 57) rfl ?_); refine gl_ 6 Tryz.func57 #[.pointer (some ⟨g, 0, none⟩)] ?_; (with_reducible refine (spec_l1Cur_sheet.calls k g s0_0 s0_1 s0_2 aY gB gC w0 _ ?_ ?_ A2.out).mono ?_); exact (Z3 HI0); exact Z8; rintro e lA ⟨uO, rfl, ho0, hi, hb, hk⟩; refine ⟨_, rfl, ?_⟩; refine k4_ (Kd.R_lower ho0 (keep_size (w := w) (g := g) (row := none) (Z7))) (KeepBut.trans (Z7) hk (.inl rfl)) (hb) (hi) ?_; clear HK HB HI0; intro aI HK HB HI0; (try clear hb hk hi ho0); obtain ⟨cj, ba, pY⟩ := Kd.R_slice aI.out; subst pY) | ((with_reducible refine gate_callee (f := 22) rfl ?_); refine gl_ 13 Tryz.func22 #[.pointer (some ⟨g, 0, none⟩), .int .i64 (aY.length : Int)] ?_; (with_reducible refine (spec_l1Cur_pick.calls g s0_0 gB gC (aY.length : Int) aU gN gO w0 _ ?_ ?_ A4.out).mono ?_); exact (Z3 HI0); exact Z8; rintro e m8 ⟨rfl, hi, hb, hk⟩; refine ⟨_, rfl, ?_⟩; refine k4_ (Kd.R_mono (Kd.R_keep (IsS45.apart (show IsS45 w0 _ g s0_0 gB gC from Z3 HI0) (Z1 aI) (by decide)) hk (fun _ h => h.2)) (fun _ h => h.1)) (KeepBut.trans (Z7) hk (.inl rfl)) (hb) (hi) ?_; clear aI HK HB HI0; intro aI HK HB HI0; (try clear hb hk hi)) | ((with_reducible refine gate_callee (f := 22) rfl ?_); refine gl_ 15 Tryz.func22 #[.pointer (some ⟨g, 0, none⟩), .int .i64 30] ?_; (with_reducible refine (spec_l1Cur_pick.calls g s0_0 gN gO 30 d5 i5 i6 w0 _ ?_ ?_ A5.out).mono ?_); exact (Z3 HI0); exact Z8; rintro e vE ⟨rfl, hi, hb, hk⟩; refine ⟨_, rfl, ?_⟩; refine k4_ (Kd.R_mono (Kd.R_keep (IsS45.apart (show IsS45 w0 _ g s0_0 gN gO from Z3 HI0) (Z1 aI) (by decide)) hk (fun _ h => h.2)) (fun _ h => h.1)) (KeepBut.trans (Z7) hk (.inl rfl)) (hb) (hi) ?_; clear aI HK HB HI0; intro aI HK HB HI0; (try clear hb hk hi)) | ((with_reducible refine gate_callee (f := 77) rfl ?_); refine gl_ 21 Tryz.func77 #[.pointer (some ⟨g, 0, none⟩)] ?_; (with_reducible refine (spec_l1Cur_anyHole.calls g s0_0 i5 i6 si sj sk Cj Ck w0 _ ?_ ?_ A7.out).mono ?_); exact (Z3 HI0); exact Z8; rintro e l8 ⟨rfl, hi, hb, hk⟩; refine ⟨_, rfl, ?_⟩; refine k4_ (Kd.R_mono (Kd.R_keep (IsS45.apart (show IsS45 w0 _ g s0_0 i5 i6 from Z3 HI0) (Z1 aI) (by decide)) hk (fun _ h => h.2)) (fun _ h => h.1)) (KeepBut.trans (Z7) hk (.inl rfl)) (hb) (hi) ?_; clear aI HK HB HI0; intro aI HK HB HI0; (try clear hb hk hi); have Dk : 0 ≤ (aU : Int) := of_decide_eq_true (Z4); have Dl : (aU : Int) < ((aY.length : Int) : Int) := of_decide_eq_true (Z4); obtain ⟨go10, aC, g4, Cm, gl10, cl10, HG10⟩ := Kd.R_form aI.out (by omega); (first | cases g4 | (injection g4 with ea_ en_ ec_; (first | subst ea_ | (injection ea_ with ea_; subst ea_)); subst ec_; clear en_)); have GB10 := Aside0.mk Cm; have GG10 := Aside0.mk HG10; clear Cm gl10 HG10; obtain ⟨ce10, hcl10, hM10, hcc10, hfr10⟩ := Kd.R_elem aI.out z76 (aU : Int) Dk Dl; obtain rfl := k76_openM hM10; have hx10_0 : l8.cell? ⟨go10, (aU : Int).toNat * 3, none⟩ = some (.int .i64 ((rd_T76 aY aU).f0)) := hcc10 0 _ rfl; have hx10_1 : l8.cell? ⟨go10, (aU : Int).toNat * 3 + 1, none⟩ = some (.int .i64 ((rd_T76 aY aU).f1)) := hcc10 1 _ rfl; have hx10_2 : l8.cell? ⟨go10, (aU : Int).toNat * 3 + 2, none⟩ = some (.int .i64 ((rd_T76 aY aU).f2)) := hcc10 2 _ rfl; have hf10_0 : l8.frozen? ⟨go10, (aU : Int).toNat * 3, none⟩ = false := hfr10 0; have hf10_1 : l8.frozen? ⟨go10, (aU : Int).toNat * 3 + 1, none⟩ = false := hfr10 1; have hf10_2 : l8.frozen? ⟨go10, (aU : Int).toNat * 3 + 2, none⟩ = false := hfr10 2; clear hcl10 hcc10 hfr10 hM10; replace Dk := eq_true Dk; replace Dl := eq_true Dl; have HX16 := Aside0.mk (show Kd.R k76 76 l8 w.heap.size (fun _ => True) (.slice (some ⟨go10, 0, none⟩) aY.length ba) aY from (Z1 aI)); obtain ⟨ce16, hcl16, hM16, hcc16, hfr16⟩ := Kd.R_elem HX16.out z76 (aU : Int) (of_decide_eq_true (Z4)) (Z140); obtain rfl := k76_openM hM16; have HP16 := Kd.R_seg HX16.out (aU : Int) (of_decide_eq_true (Z4)) (Z140) (seg := [.int .i64 si, .int .i64 sj, .int .i64 sk]) (j := 0) hcl16 hcc16 (show 3 ≤ 3 from by decide) (x' := (⟨si, sj, sk⟩ : S76)) (k76_mkM _ _ _ (⟨si, sj, sk⟩ : S76) ) (fun _ hk => hk); have uP := hcc16 0 _ rfl; (try simp only [show (k76).sz = 3 from rfl, Nat.mul_one, Nat.add_zero] at uP); have hf16_0 := hfr16 0; (try simp only [show (k76).sz = 3 from rfl, Nat.mul_one, Nat.add_zero] at hf16_0); have uQ := hcc16 1 _ rfl; (try simp only [show (k76).sz = 3 from rfl, Nat.mul_one, Nat.add_zero] at uQ); have hf16_1 := hfr16 1; (try simp only [show (k76).sz = 3 from rfl, Nat.mul_one, Nat.add_zero] at hf16_1); have uR := hcc16 2 _ rfl; (try simp only [show (k76).sz = 3 from rfl, Nat.mul_one, Nat.add_zero] at uR); have hf16_2 := hfr16 2; (try simp only [show (k76).sz = 3 from rfl, Nat.mul_one, Nat.add_zero] at hf16_2); clear hcl16 hcc16 hfr16 hM16) | ((with_reducible refine gate_store (t := 76) (p := 22) rfl ?_); refine store_event (t := 76) (p := 22) (v := ?vo_w17) (w1 := (((l8.setCell ⟨go10, (aU : Int).toNat * 3, none⟩ (.int .i64 si)).setCell ⟨go10, (aU : Int).toNat * 3 + 1, none⟩ (.int .i64 sj)).setCell ⟨go10, (aU : Int).toNat * 3 + 2, none⟩ (.int .i64 sk))) ?hg ?ho ?hn ?hr ?_; (case ho => rfl); (case hg => rfl); (case hn => rfl); (case hr => exact Z29); intro vC hw; have hg : l8.grownBy vC (some go10) := (by rw [hw]; exact HP16.2); have hp_ : Kd.R k76 76 vC w.heap.size (fun _ => True) (.slice (some ⟨go10, 0, none⟩) aY.length ba) Cl := (by rw [hw, Ny309.out]; exact HP16.1); clear HP16; refine k4_ (IsS45.grown (Z3 HI0) hg (IsS45.own_ne HI0.out aI.out (by decide))) (hp_) ((by rw [hw]; exact below_set (below_set (below_set (HB.out) (Nat.le_trans HL.out GB10.out)) (Nat.le_trans HL.out GB10.out)) (Nat.le_trans HL.out GB10.out) : Below w0.heap.size w0 vC)) (KeepBut.trans (Z7) (KeepBut.of_grown hg g) (Kd.R_base2 aI.out)) ?_; clear HI0 aI HB HK; intro HI0 aI HB HK; clear hg hw hp_))
     go_ret
     exact ⟨_, Z12, Z1 aI, Z3 HI0, Z8, Z7⟩
    rw [if_neg c9] at H
    exact absurd H (by simp)
   rw [if_neg c8] at H
   exact absurd H (by simp)
  rw [if_neg c6] at H
  have iq : (d5 == 0) = false := beq_eq_false_iff_ne.mpr c6
  have vU : (d5 != 0) = true := bne_iff_ne.mpr c6
  by_cases c18 : d5 = 1
  ·rw [if_pos c18] at H
   have lY : (d5 == 1) = true := beq_iff_eq.mpr c18
   have xY : (d5 != 1) = false := bne_eq_false_iff_eq.mpr c18
   clear c18
   by_cases c19 : 0 ≤ aU
   ·rw [if_pos c19] at H
    have jA : decide (0 ≤ aU) = true := decide_eq_true c19
    clear c19
    by_cases c20 : aU < (aY.length : Int)
    ·rw [if_pos c20] at H
     have ea : decide (aU < (aY.length : Int)) = true := decide_eq_true c20
     clear c20
     by_cases c21 : aY.length < 5864062014805
     ·rw [if_pos c21] at H
      have nN := Aside0.mk c21
      clear c21
      obtain ⟨y311, o6⟩ : ∃ y_ : List (S76), y_ = (aY ++ [(⟨(rd_T76 aY aU).f0, (rd_T76 aY aU).f1, (rd_T76 aY aU).f2⟩ : S76)]) := ⟨_, rfl⟩
      replace H : (some (y311, i5, i6)) = some (r1, r2, r3) := by first | (rw [o6]; with_reducible exact H) | (have H2_ := (Option.bind_some _ _).symm.trans H; rw [o6]; with_reducible exact H2_) | (have H2_ := (Option.bind_some _ _).symm.trans H; with_reducible exact H2_) | with_reducible exact H | (rw [o6]; exact H) | exact H
      have Ny311 := Aside0.mk o6
      clear o6
      simp only [Option.some.injEq, Prod.mk.injEq] at H
      obtain ⟨rfl, rfl, rfl⟩ := H
      go_enter Tryz.func59, Tryz.ntmps59
      go_wp2_with (first | ((with_reducible refine gate_callee (f := 57) rfl ?_); refine gl_ 6 Tryz.func57 #[.pointer (some ⟨g, 0, none⟩)] ?_; (with_reducible refine (spec_l1Cur_sheet.calls k g s0_0 s0_1 s0_2 aY gB gC w0 _ ?_ ?_ A2.out).mono ?_); exact (Z3 HI0); exact Z8; rintro e vA ⟨uO, rfl, ho0, hi, hb, hk⟩; refine ⟨_, rfl, ?_⟩; refine k4_ (Kd.R_lower ho0 (keep_size (w := w) (g := g) (row := none) (Z7))) (KeepBut.trans (Z7) hk (.inl rfl)) (hb) (hi) ?_; clear HK HB HI0; intro aI HK HB HI0; (try clear hb hk hi ho0); obtain ⟨Ao23, pE, vF⟩ := Kd.R_slice aI.out; subst vF) | ((with_reducible refine gate_callee (f := 22) rfl ?_); refine gl_ 13 Tryz.func22 #[.pointer (some ⟨g, 0, none⟩), .int .i64 (aY.length : Int)] ?_; (with_reducible refine (spec_l1Cur_pick.calls g s0_0 gB gC (aY.length : Int) aU gN gO w0 _ ?_ ?_ A4.out).mono ?_); exact (Z3 HI0); exact Z8; rintro e jE ⟨rfl, hi, hb, hk⟩; refine ⟨_, rfl, ?_⟩; refine k4_ (Kd.R_mono (Kd.R_keep (IsS45.apart (show IsS45 w0 _ g s0_0 gB gC from Z3 HI0) (Z1 aI) (by decide)) hk (fun _ h => h.2)) (fun _ h => h.1)) (KeepBut.trans (Z7) hk (.inl rfl)) (hb) (hi) ?_; clear aI HK HB HI0; intro aI HK HB HI0; (try clear hb hk hi)) | ((with_reducible refine gate_callee (f := 22) rfl ?_); refine gl_ 15 Tryz.func22 #[.pointer (some ⟨g, 0, none⟩), .int .i64 30] ?_; (with_reducible refine (spec_l1Cur_pick.calls g s0_0 gN gO 30 d5 i5 i6 w0 _ ?_ ?_ A5.out).mono ?_); exact (Z3 HI0); exact Z8; rintro e DL ⟨rfl, hi, hb, hk⟩; refine ⟨_, rfl, ?_⟩; refine k4_ (Kd.R_mono (Kd.R_keep (IsS45.apart (show IsS45 w0 _ g s0_0 gN gO from Z3 HI0) (Z1 aI) (by decide)) hk (fun _ h => h.2)) (fun _ h => h.1)) (KeepBut.trans (Z7) hk (.inl rfl)) (hb) (hi) ?_; clear aI HK HB HI0; intro aI HK HB HI0; (try clear hb hk hi); have wl : 0 ≤ (aU : Int) := of_decide_eq_true (Z4); have wm : aU < (aY.length : Int) := of_decide_eq_true (Z4); obtain ⟨ad310, e310, hx310_0, hx310_1, hx310_2⟩ := at_T76 (Kd.R_reads' aI.out).2.2 aU wl wm; cases e310; replace wl := eq_true wl; replace wm := eq_true wm) | ((with_reducible refine gate_builtin (b := .append) (xs := #[.tmp 25, .tmp 30]) rfl ?_); at_builtin; refine Kd.R_append k76 w.heap.size rfl (.tmp 25) (.tmp 30) 58 76 (.agg #[(.int .i64 0), (.int .i64 0), (.int .i64 0)]) 24 rfl Tryz.underlying58 info76 rfl (by decide) (by omega) (.slice (some ad310) aY.length pE) aY (⟨(rd_T76 aY aU).f0, (rd_T76 aY aU).f1, (rd_T76 aY aU).f2⟩ : S76) [.int .i64 ((rd_T76 aY aU).f0), .int .i64 ((rd_T76 aY aU).f1), .int .i64 ((rd_T76 aY aU).f2)] (fun _ => True) (fun _ => False) rfl rfl ?aP (fun _ hk => hk.elim) ?aF ?aO (Below.refl _ _) ?aS ?aL ?_; (case aP => exact k76_mkM _ _ _ (⟨(rd_T76 aY aU).f0, (rd_T76 aY aU).f1, (rd_T76 aY aU).f2⟩ : S76)); (case aF => exact (fun _ _ => trivial)); (case aO => exact (Z1 aI)); (case aS => exact (keep_size (w := w) (g := g) (row := none) (Z7))); (case aL => exact Z76 nN); intro v312 Dd ho hb hg hat; rw [← Ny311.out] at ho; refine k4_ (IsS45.grown (Z3 HI0) hg (IsS45.own_ne HI0.out aI.out (by decide))) (below_weaken (Z8) HL.out hb) (KeepBut.trans (Z7) (KeepBut.of_grown hg g) (Kd.R_base2 aI.out)) (ho) ?_; clear HI0 HB HK aI; intro HI0 HB HK HO313; clear ho hb hg hat))
      go_ret
      exact ⟨_, Z12, Z1 HO313, Z3 HI0, Z8, Z7⟩
     rw [if_neg c21] at H
     exact absurd H (by simp)
    rw [if_neg c20] at H
    exact absurd H (by simp)
   rw [if_neg c19] at H
   exact absurd H (by simp)
  rw [if_neg c18] at H
  have lY : (d5 == 1) = false := beq_eq_false_iff_ne.mpr c18
  have xY : (d5 != 1) = true := bne_iff_ne.mpr c18
  by_cases c27 : d5 = 2
  ·rw [if_pos c27] at H
   have ek : (d5 == 2) = true := beq_iff_eq.mpr c27
   have jU : (d5 != 2) = false := bne_eq_false_iff_eq.mpr c27
   clear c27
   by_cases c28 : 0 ≤ aU
   ·rw [if_pos c28] at H
    have tx : decide (0 ≤ aU) = true := decide_eq_true c28
    clear c28
    by_cases c29 : aU < (aY.length : Int)
    ·rw [if_pos c29] at H
     have ox : decide (aU < (aY.length : Int)) = true := decide_eq_true c29
     clear c29
     by_cases c30 : aY.length < 5864062014805
     ·rw [if_pos c30] at H
      have LMc30 := Aside0.mk c30
      clear c30
      obtain ⟨y317, o7⟩ : ∃ y_ : List (S76), y_ = (aY ++ [(⟨(rd_T76 aY aU).f0, (rd_T76 aY aU).f2, wrap64 (((rd_T76 aY aU).f2) + 2)⟩ : S76)]) := ⟨_, rfl⟩
      replace H : (some (y317, i5, i6)) = some (r1, r2, r3) := by first | (rw [o7]; with_reducible exact H) | (have H2_ := (Option.bind_some _ _).symm.trans H; rw [o7]; with_reducible exact H2_) | (have H2_ := (Option.bind_some _ _).symm.trans H; with_reducible exact H2_) | with_reducible exact H | (rw [o7]; exact H) | exact H
      have Ny317 := Aside0.mk o7
      clear o7
      simp only [Option.some.injEq, Prod.mk.injEq] at H
      obtain ⟨rfl, rfl, rfl⟩ := H
      go_enter Tryz.func59, Tryz.ntmps59
      try go_wp2_with (first | ((with_reducible refine gate_callee (f := 57) rfl ?_); refine gl_ 6 Tryz.func57 #[.pointer (some ⟨g, 0, none⟩)] ?_; (with_reducible refine (spec_l1Cur_sheet.calls k g s0_0 s0_1 s0_2 aY gB gC w0 _ ?_ ?_ A2.out).mono ?_); exact (Z3 HI0); exact Z8; rintro e vz ⟨uO, rfl, ho0, hi, hb, hk⟩; refine ⟨_, rfl, ?_⟩; refine k4_ (Kd.R_lower ho0 (keep_size (w := w) (g := g) (row := none) (Z7))) (KeepBut.trans (Z7) hk (.inl rfl)) (hb) (hi) ?_; clear HK HB HI0; intro aI HK HB HI0; (try clear hb hk hi ho0); obtain ⟨Cg, zU, zV⟩ := Kd.R_slice aI.out; subst zV) | ((with_reducible refine gate_callee (f := 22) rfl ?_); refine gl_ 13 Tryz.func22 #[.pointer (some ⟨g, 0, none⟩), .int .i64 (aY.length : Int)] ?_; (with_reducible refine (spec_l1Cur_pick.calls g s0_0 gB gC (aY.length : Int) aU gN gO w0 _ ?_ ?_ A4.out).mono ?_); exact (Z3 HI0); exact Z8; rintro e ir ⟨rfl, hi, hb, hk⟩; refine ⟨_, rfl, ?_⟩; refine k4_ (Kd.R_mono (Kd.R_keep (IsS45.apart (show IsS45 w0 _ g s0_0 gB gC from Z3 HI0) (Z1 aI) (by decide)) hk (fun _ h => h.2)) (fun _ h => h.1)) (KeepBut.trans (Z7) hk (.inl rfl)) (hb) (hi) ?_; clear aI HK HB HI0; intro aI HK HB HI0; (try clear hb hk hi)) | ((with_reducible refine gate_callee (f := 22) rfl ?_); refine gl_ 15 Tryz.func22 #[.pointer (some ⟨g, 0, none⟩), .int .i64 30] ?_; (with_reducible refine (spec_l1Cur_pick.calls g s0_0 gN gO 30 d5 i5 i6 w0 _ ?_ ?_ A5.out).mono ?_); exact (Z3 HI0); exact Z8; rintro e ne ⟨rfl, hi, hb, hk⟩; refine ⟨_, rfl, ?_⟩; refine k4_ (Kd.R_mono (Kd.R_keep (IsS45.apart (show IsS45 w0 _ g s0_0 gN gO from Z3 HI0) (Z1 aI) (by decide)) hk (fun _ h => h.2)) (fun _ h => h.1)) (KeepBut.trans (Z7) hk (.inl rfl)) (hb) (hi) ?_; clear aI HK HB HI0; intro aI HK HB HI0; (try clear hb hk hi)))
      refine k4_ (Kd.R_drew aI.out) (IsS45.drew HI0.out) (keep_drew HK.out) (below_drew1 HB.out) ?_
      clear aI HI0 HK HB
      intro aI HI0 HK HB
      have wn : 0 ≤ (aU : Int) := of_decide_eq_true (Z4)
      have wo : aU < (aY.length : Int) := of_decide_eq_true (Z4)
      obtain ⟨dq, e314, mQ, mR, mS⟩ := at_T76 (Kd.R_reads' aI.out).2.2 aU wn wo
      cases e314
      replace wn := eq_true wn
      replace wo := eq_true wo
      have wq : 0 ≤ (aU : Int) := of_decide_eq_true (Z4)
      have ws : aU < (aY.length : Int) := of_decide_eq_true (Z4)
      obtain ⟨ad315, e315, mT, mU, mV⟩ := at_T76 (Kd.R_reads' aI.out).2.2 aU wq ws
      obtain rfl : dq = ad315 := (by injection e315)
      replace wq := eq_true wq
      replace ws := eq_true ws
      have wt : 0 ≤ (aU : Int) := of_decide_eq_true (Z4)
      have wu : aU < (aY.length : Int) := of_decide_eq_true (Z4)
      obtain ⟨ad316, e316, mW, mX, mY⟩ := at_T76 (Kd.R_reads' aI.out).2.2 aU wt wu
      obtain rfl : dq = ad316 := (by injection e316)
      replace wt := eq_true wt
      replace wu := eq_true wu
      refine start_ (n := 21) (S := fun w' => w'.cell? (dq.add ((aU).toNat * 3)) = some (.int .i64 ((rd_T76 aY aU).f0)) ∧ w'.cell? ⟨(dq.add ((aU).toNat * 3)).block, (dq.add ((aU).toNat * 3)).off + 1, none⟩ = some (.int .i64 ((rd_T76 aY aU).f1)) ∧ w'.cell? ⟨(dq.add ((aU).toNat * 3)).block, (dq.add ((aU).toNat * 3)).off + 2, none⟩ = some (.int .i64 ((rd_T76 aY aU).f2)) ∧ w'.cell? (dq.add ((aU).toNat * 3)) = some (.int .i64 ((rd_T76 aY aU).f0)) ∧ w'.cell? ⟨(dq.add ((aU).toNat * 3)).block, (dq.add ((aU).toNat * 3)).off + 1, none⟩ = some (.int .i64 ((rd_T76 aY aU).f1)) ∧ w'.cell? ⟨(dq.add ((aU).toNat * 3)).block, (dq.add ((aU).toNat * 3)).off + 2, none⟩ = some (.int .i64 ((rd_T76 aY aU).f2)) ∧ w'.cell? (dq.add ((aU).toNat * 3)) = some (.int .i64 ((rd_T76 aY aU).f0)) ∧ w'.cell? ⟨(dq.add ((aU).toNat * 3)).block, (dq.add ((aU).toNat * 3)).off + 1, none⟩ = some (.int .i64 ((rd_T76 aY aU).f1)) ∧ w'.cell? ⟨(dq.add ((aU).toNat * 3)).block, (dq.add ((aU).toNat * 3)).off + 2, none⟩ = some (.int .i64 ((rd_T76 aY aU).f2))) (ds := [18, 19]) (M_ 0 21) (by kernel_rfl) rfl rfl ⟨mQ, mR, mS, mT, mU, mV, mW, mX, mY⟩ (fun hHeld => ?_); refine with_tabW spec_l1Cur_anySheet.tab10 spec_l1Cur_anySheet.bits10 (fun HT_ HW_ => ?_)
      generalize ne.drew = qO at aI HI0 HK HB mQ mR mS mT mU mV mW mX mY hHeld ⊢
      refine pu_ 0 34 (M_ 1 20) ?_
      refine pu_ 1 35 (M_ 2 19) ?_
      refine pu_ 2 36 (M_ 3 18) ?_
      refine pu_ 3 37 (M_ 4 17) ?_
      refine pu_ 4 38 (M_ 5 16) ?_
      refine pu_ 6 40 (N_ 21 95) ?_
      refine pu_ 7 41 (N_ 21 223) ?_
      refine pu_ 8 42 (N_ 21 479) ?_
      refine pu_ 9 43 (N_ 21 991) ?_
      refine pu_ 11 45 (N_ 21 3039) ?_
      refine pu_ 12 46 (N_ 21 7135) ?_
      refine pu_ 13 47 (N_ 21 15327) ?_
      refine pu_ 14 48 (N_ 21 31711) ?_
      refine tk9_ 5 39 (N_ 21 31743) hHeld ?_
      refine tk9_ 10 44 (M_ 15 6) hHeld ?_
      refine tk9_ 15 49 (M_ 16 5) hHeld ?_
      refine pu_ 16 50 (M_ 17 4) ?_
      refine pu_ 17 51 (M_ 18 3) ?_
      refine last_ (i := 18) (N := some 52) (M_ 19 2) rfl rfl (one_of HT_.out (by kernel_rfl)) (by decide) (fun K hK => ?_)
      refine value_ (w1 := ?_) (v := ?_) (by rfl) rfl ?_ ?_
      rotate_left 2
      ·go_simp
       constructor
       ·rfl
       rfl
      refine hK.out _ _ ?_
      clear hK K
      refine norm_ (a' := ?_) ?_ ?_
      rotate_left
      ·show Act.put _ (some 52) _ = _
       simp only [Act.put, List.setIfInBounds_toArray, List.set_cons_zero, List.set_cons_succ, i64_w, i32_w]
       rfl
      refine last_ (i := 19) (N := some 53) (M_ 20 1) rfl rfl (one_of HT_.out (by kernel_rfl)) (by decide) (fun K hK => ?_)
      refine Kd.R_append_step k76 w.heap.size (by rfl) (.tmp 34) (.tmp 52) 58 76 (.agg #[(.int .i64 0), (.int .i64 0), (.int .i64 0)]) 24 rfl Tryz.underlying58 info76 rfl (by decide) (by omega) (.slice (some dq) aY.length zU) aY (⟨(rd_T76 aY aU).f0, (rd_T76 aY aU).f2, wrap64 (((rd_T76 aY aU).f2) + 2)⟩ : S76) [.int .i64 ((rd_T76 aY aU).f0), .int .i64 ((rd_T76 aY aU).f2), .int .i64 (wrap64 (((rd_T76 aY aU).f2) + 2))] (fun _ => True) (fun _ => False) rfl rfl ?aP (fun _ hk => hk.elim) ?aF ?aO (Below.refl _ _) ?aS ?aL ?_
      (case aP => exact k76_mkM _ _ _ (⟨(rd_T76 aY aU).f0, (rd_T76 aY aU).f2, wrap64 (((rd_T76 aY aU).f2) + 2)⟩ : S76))
      (case aF => exact (fun _ _ => trivial))
      (case aO => exact (Z1 aI))
      (case aS => exact (keep_size (w := w) (g := g) (row := none) (Z7)))
      (case aL => exact Z76 LMc30)
      intro v318 eF ho hb hg hat
      rw [← Ny317.out] at ho
      refine k4_ (IsS45.grown (Z3 HI0) hg (IsS45.own_ne HI0.out aI.out (by decide))) (below_weaken (Z8) HL.out hb) (KeepBut.trans (Z7) (KeepBut.of_grown hg g) (Kd.R_base2 aI.out)) (ho) ?_
      clear HI0 HB HK aI
      intro HI0 HB HK HO319
      clear ho hb hg hat
      refine hK.out _ _ ?_
      clear hK K
      refine norm_ (a' := ?_) ?_ ?_
      rotate_left
      ·show Act.put _ (some 53) _ = _
       simp only [Act.put, List.setIfInBounds_toArray, List.set_cons_zero, List.set_cons_succ, i64_w, i32_w]
       rfl
      refine pu_ 20 3 (M_ 21 0) ?_
      refine done_ (done_of HT_.out (by kernel_rfl)) ?_
      try go_wp2
      go_ret
      exact ⟨_, Z12, Z1 HO319, Z3 HI0, Z8, Z7⟩
     rw [if_neg c30] at H
     exact absurd H (by simp)
    rw [if_neg c29] at H
    exact absurd H (by simp)
   rw [if_neg c28] at H
   exact absurd H (by simp)
  rw [if_neg c27] at H
  have ek : (d5 == 2) = false := beq_eq_false_iff_ne.mpr c27
  have jU : (d5 != 2) = true := bne_iff_ne.mpr c27
  by_cases c37 : d5 = 3
  ·rw [if_pos c37] at H
   have oJ : (d5 == 3) = true := beq_iff_eq.mpr c37
   have oK : (d5 != 3) = false := bne_eq_false_iff_eq.mpr c37
   clear c37
   have H' := Aside0.mk H
   clear H
   go_enter Tryz.func59, Tryz.ntmps59
   go_wp2_with (first | ((with_reducible refine gate_callee (f := 57) rfl ?_); refine gl_ 6 Tryz.func57 #[.pointer (some ⟨g, 0, none⟩)] ?_; (with_reducible refine (spec_l1Cur_sheet.calls k g s0_0 s0_1 s0_2 aY gB gC w0 _ ?_ ?_ A2.out).mono ?_); exact (Z3 HI0); exact Z8; rintro e dz ⟨uO, rfl, ho0, hi, hb, hk⟩; refine ⟨_, rfl, ?_⟩; refine k4_ (Kd.R_lower ho0 (keep_size (w := w) (g := g) (row := none) (Z7))) (KeepBut.trans (Z7) hk (.inl rfl)) (hb) (hi) ?_; clear HK HB HI0; intro aI HK HB HI0; (try clear hb hk hi ho0); obtain ⟨Ao39, co39, eo39⟩ := Kd.R_slice aI.out; subst eo39) | ((with_reducible refine gate_callee (f := 22) rfl ?_); refine gl_ 13 Tryz.func22 #[.pointer (some ⟨g, 0, none⟩), .int .i64 (aY.length : Int)] ?_; (with_reducible refine (spec_l1Cur_pick.calls g s0_0 gB gC (aY.length : Int) aU gN gO w0 _ ?_ ?_ A4.out).mono ?_); exact (Z3 HI0); exact Z8; rintro e rX ⟨rfl, hi, hb, hk⟩; refine ⟨_, rfl, ?_⟩; refine k4_ (Kd.R_mono (Kd.R_keep (IsS45.apart (show IsS45 w0 _ g s0_0 gB gC from Z3 HI0) (Z1 aI) (by decide)) hk (fun _ h => h.2)) (fun _ h => h.1)) (KeepBut.trans (Z7) hk (.inl rfl)) (hb) (hi) ?_; clear aI HK HB HI0; intro aI HK HB HI0; (try clear hb hk hi)) | ((with_reducible refine gate_callee (f := 22) rfl ?_); refine gl_ 15 Tryz.func22 #[.pointer (some ⟨g, 0, none⟩), .int .i64 30] ?_; (with_reducible refine (spec_l1Cur_pick.calls g s0_0 gN gO 30 d5 i5 i6 w0 _ ?_ ?_ A5.out).mono ?_); exact (Z3 HI0); exact Z8; rintro e vB ⟨rfl, hi, hb, hk⟩; refine ⟨_, rfl, ?_⟩; refine k4_ (Kd.R_mono (Kd.R_keep (IsS45.apart (show IsS45 w0 _ g s0_0 gN gO from Z3 HI0) (Z1 aI) (by decide)) hk (fun _ h => h.2)) (fun _ h => h.1)) (KeepBut.trans (Z7) hk (.inl rfl)) (hb) (hi) ?_; clear aI HK HB HI0; intro aI HK HB HI0; (try clear hb hk hi)))
   (try simp only [Act.put, List.setIfInBounds_toArray, List.set_cons_zero, List.set_cons_succ])
   go_loopg [3] k (fun kq v3 w' => ∃ (az : List (S76)), Aside0 (spec_l1Cur_anySheet.l0 kq az s0_0 i5 i6 = some (r1, r2, r3)) ∧ Aside0 (kq ≤ k) ∧ Aside0 (Kd.R k76 76 w' w.heap.size (fun _ => True) v3 az) ∧ Aside0 (IsS45 w0 w' g s0_0 i5 i6) ∧ Aside0 (KeepBut w w' g none) ∧ Aside0 (Below w0.heap.size w0 w'))
   case atStart => exact ⟨(([] : List (S76))), H', ⟨Nat.le_refl _⟩, ⟨Z37⟩, ⟨Z3 HI0⟩, ⟨Z7⟩, ⟨Z8⟩⟩
   case round =>
    clear H'
    (try clear c1); (try clear p1); (try clear q1); (try clear hx1); (try clear hf1); (try clear c2); (try clear p2); (try clear c3); (try clear dj); (try clear lC); (try clear p3); (try clear q3); (try clear hx3); (try clear c5); (try clear c6); (try clear iq); (try clear vU); (try clear p6); (try clear c7); (try clear c8); (try clear g7); (try clear c9); (try clear iX); (try clear c10); (try clear Dk); (try clear Dl); (try clear hx10); (try clear hf10); (try clear c16); (try clear hx16); (try clear hf16); (try clear c18); (try clear lY); (try clear xY); (try clear c19); (try clear jA); (try clear c20); (try clear ea); (try clear c21); (try clear c22); (try clear c27); (try clear ek); (try clear jU); (try clear c28); (try clear tx); (try clear c29); (try clear ox); (try clear c30); (try clear p31); (try clear q31); (try clear hx31); (try clear c37); (try clear oJ); (try clear oK); (try clear hx10_0); (try clear hx10_1); (try clear hx10_2); (try clear uP); (try clear uQ); (try clear uR); (try clear hx310_0); (try clear hx310_1); (try clear hx310_2); (try clear mQ); (try clear mR); (try clear mS); (try clear mT); (try clear mU); (try clear mV); (try clear mW); (try clear mX); (try clear mY); (try clear wl); (try clear wn); (try clear wq); (try clear wt); (try clear wm); (try clear wo); (try clear ws); (try clear wu)
    obtain ⟨az, HA, HK1, am, HI0, HK, HB⟩ := hrel
    cases gk with
    | zero => exact absurd HA.out (by simp [spec_l1Cur_anySheet.l0])
    | succ k1 =>
     have H := HA.out
     clear HA
     simp only [spec_l1Cur_anySheet.l0] at H
     by_cases c42 : (az.length : Int) < 61
     ·rw [if_pos c42] at H
      have xP : decide ((az.length : Int) < 61) = true := decide_eq_true c42
      have c42b1 : decide (az.length < 61) = true := decide_eq_true (by omega)
      clear c42
      by_cases c43 : az.length < 5864062014805
      ·rw [if_pos c43] at H
       have uE := Aside0.mk c43
       clear c43
       obtain ⟨Cn, o8⟩ : ∃ y_ : List (S76), y_ = (az ++ [(⟨1, wrap64 (3 * (az.length : Int)), wrap64 ((wrap64 (3 * (az.length : Int))) + 1)⟩ : S76)]) := ⟨_, rfl⟩
       replace H : (spec_l1Cur_anySheet.l0 k1 Cn s0_0 i5 i6) = some (r1, r2, r3) := by first | (rw [o8]; with_reducible exact H) | (have H2_ := (Option.bind_some _ _).symm.trans H; rw [o8]; with_reducible exact H2_) | (have H2_ := (Option.bind_some _ _).symm.trans H; with_reducible exact H2_) | with_reducible exact H | (rw [o8]; exact H) | exact H
       have Ny320 := Aside0.mk o8
       clear o8
       have H' := Aside0.mk H
       clear H
       obtain ⟨Ao44, co44, eo44⟩ := Kd.R_slice am.out
       subst eo44
       go_wp2_with ((with_reducible refine gate_builtin (b := .append) (xs := #[.tmp 59, .tmp 68]) rfl ?_); at_builtin; refine Kd.R_append k76 w.heap.size rfl (.tmp 59) (.tmp 68) 58 76 (.agg #[(.int .i64 0), (.int .i64 0), (.int .i64 0)]) 24 rfl Tryz.underlying58 info76 rfl (by decide) (by omega) (.slice Ao44 az.length co44) az (⟨1, wrap64 (3 * (az.length : Int)), wrap64 ((wrap64 (3 * (az.length : Int))) + 1)⟩ : S76) [.int .i64 1, .int .i64 (wrap64 (3 * (az.length : Int))), .int .i64 (wrap64 ((wrap64 (3 * (az.length : Int))) + 1))] (fun _ => True) (fun _ => False) rfl rfl ?aP (fun _ hk => hk.elim) ?aF ?aO (Below.refl _ _) ?aS ?aL ?_; (case aP => exact k76_mkM _ _ _ (⟨1, wrap64 (3 * (az.length : Int)), wrap64 ((wrap64 (3 * (az.length : Int))) + 1)⟩ : S76)); (case aF => exact (fun _ _ => trivial)); (case aO => exact (Z1 am)); (case aS => exact (keep_size (w := w) (g := g) (row := none) (Z7))); (case aL => exact Z76 uE); intro v321 Dh ho hb hg hat; rw [← Ny320.out] at ho; refine k4_ (IsS45.grown (Z3 HI0) hg (IsS45.own_ne HI0.out am.out (by decide))) (below_weaken (Z8) HL.out hb) (KeepBut.trans (Z7) (KeepBut.of_grown hg g) (Kd.R_base2 am.out)) (ho) ?_; clear HI0 HB HK am; intro HI0 HB HK HO322; clear ho hb hg hat)
       go_roundg k1
       case measure => have := HK1.out; omega
       case rel => exact ⟨(Cn), H', ⟨Z76 HK1⟩, ⟨Z1 HO322⟩, ⟨Z3 HI0⟩, ⟨Z7⟩, ⟨Z8⟩⟩
      rw [if_neg c43] at H
      exact absurd H (by simp)
     rw [if_neg c42] at H
     have xP : decide ((az.length : Int) < 61) = false := decide_eq_false c42
     have c42b1 : decide (az.length < 61) = false := decide_eq_false (by omega)
     clear c42
     simp only [Option.some.injEq, Prod.mk.injEq] at H
     obtain ⟨rfl, rfl, rfl⟩ := H
     obtain ⟨Ao46, co46, eo46⟩ := Kd.R_slice am.out
     subst eo46
     go_wp2
     go_ret
     exact ⟨_, Z12, Z1 am, Z3 HI0, Z8, Z7⟩
  rw [if_neg c37] at H
  have oJ : (d5 == 3) = false := beq_eq_false_iff_ne.mpr c37
  have oK : (d5 != 3) = true := bne_iff_ne.mpr c37
  simp only [Option.some.injEq, Prod.mk.injEq] at H
  obtain ⟨rfl, rfl, rfl⟩ := H
  go_enter Tryz.func59, Tryz.ntmps59
  go_wp2_with (first | ((with_reducible refine gate_callee (f := 57) rfl ?_); refine gl_ 6 Tryz.func57 #[.pointer (some ⟨g, 0, none⟩)] ?_; (with_reducible refine (spec_l1Cur_sheet.calls k g s0_0 s0_1 s0_2 aY gB gC w0 _ ?_ ?_ A2.out).mono ?_); exact (Z3 HI0); exact Z8; rintro e DT ⟨uO, rfl, ho0, hi, hb, hk⟩; refine ⟨_, rfl, ?_⟩; refine k4_ (Kd.R_lower ho0 (keep_size (w := w) (g := g) (row := none) (Z7))) (KeepBut.trans (Z7) hk (.inl rfl)) (hb) (hi) ?_; clear HK HB HI0; intro aI HK HB HI0; (try clear hb hk hi ho0); obtain ⟨Ao48, co48, eo48⟩ := Kd.R_slice aI.out; subst eo48) | ((with_reducible refine gate_callee (f := 22) rfl ?_); refine gl_ 13 Tryz.func22 #[.pointer (some ⟨g, 0, none⟩), .int .i64 (aY.length : Int)] ?_; (with_reducible refine (spec_l1Cur_pick.calls g s0_0 gB gC (aY.length : Int) aU gN gO w0 _ ?_ ?_ A4.out).mono ?_); exact (Z3 HI0); exact Z8; rintro e Co ⟨rfl, hi, hb, hk⟩; refine ⟨_, rfl, ?_⟩; refine k4_ (Kd.R_mono (Kd.R_keep (IsS45.apart (show IsS45 w0 _ g s0_0 gB gC from Z3 HI0) (Z1 aI) (by decide)) hk (fun _ h => h.2)) (fun _ h => h.1)) (KeepBut.trans (Z7) hk (.inl rfl)) (hb) (hi) ?_; clear aI HK HB HI0; intro aI HK HB HI0; (try clear hb hk hi)) | ((with_reducible refine gate_callee (f := 22) rfl ?_); refine gl_ 15 Tryz.func22 #[.pointer (some ⟨g, 0, none⟩), .int .i64 30] ?_; (with_reducible refine (spec_l1Cur_pick.calls g s0_0 gN gO 30 d5 i5 i6 w0 _ ?_ ?_ A5.out).mono ?_); exact (Z3 HI0); exact Z8; rintro e jI ⟨rfl, hi, hb, hk⟩; refine ⟨_, rfl, ?_⟩; refine k4_ (Kd.R_mono (Kd.R_keep (IsS45.apart (show IsS45 w0 _ g s0_0 gN gO from Z3 HI0) (Z1 aI) (by decide)) hk (fun _ h => h.2)) (fun _ h => h.1)) (KeepBut.trans (Z7) hk (.inl rfl)) (hb) (hi) ?_; clear aI HK HB HI0; intro aI HK HB HI0; (try clear hb hk hi)))
  go_ret
  exact ⟨_, Z12, Z1 aI, Z3 HI0, Z8, Z7⟩
 rw [if_neg c3] at H
 have dj : decide (0 < (aY.length : Int)) = false := decide_eq_false c3
 have lC : decide (0 < aY.length) = false := decide_eq_false (by omega)
 clear c3
 simp only [Option.some.injEq, Prod.mk.injEq] at H
 obtain ⟨rfl, rfl, rfl⟩ := H
 go_enter Tryz.func59, Tryz.ntmps59
 go_wp2_with ((with_reducible refine gate_callee (f := 57) rfl ?_); refine gl_ 6 Tryz.func57 #[.pointer (some ⟨g, 0, none⟩)] ?_; (with_reducible refine (spec_l1Cur_sheet.calls k g s0_0 s0_1 s0_2 aY gB gC w0 _ ?_ ?_ A2.out).mono ?_); exact (Z3 HI0); exact Z8; rintro e Bv ⟨uO, rfl, ho0, hi, hb, hk⟩; refine ⟨_, rfl, ?_⟩; refine k4_ (Kd.R_lower ho0 (keep_size (w := w) (g := g) (row := none) (Z7))) (KeepBut.trans (Z7) hk (.inl rfl)) (hb) (hi) ?_; clear HK HB HI0; intro aI HK HB HI0; (try clear hb hk hi ho0); obtain ⟨Cp, Cq, zX⟩ := Kd.R_slice aI.out; subst zX)
 go_ret
 exact ⟨_, Z12, Z1 aI, Z3 HI0, Z8, Z7⟩

end Go.Proofs.YtmnnmddfmmaohaaGreat.PFnHead
