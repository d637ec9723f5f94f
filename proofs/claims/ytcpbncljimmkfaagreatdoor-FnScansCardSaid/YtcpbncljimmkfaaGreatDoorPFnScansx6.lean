-- written by a program of this session: the kit's print, with outer functions of the session's own (wip/ext)
import Derived.Test.YtcpbncljimmkfaaGreatDoorPFnScansx0
import Derived.Test.YtcpbncljimmkfaaGreatDoorPFnScansx2
import Derived.Test.YtcpbncljimmkfaaGreatDoorPFnScansx5
namespace Go.Proofs.YtcpbncljimmkfaaGreatDoor.PFnScans
open Go.RowKit Go.Proofs.YtcpbncljimmkfaaGreatDoorW.PrintWords Go.Proofs.YtcpbncljimmkfaaGreatDoorW.PrintLast Go.Proofs.YtcpbncljimmkfaaGreatDoorW.PrintMore
attribute [local go_sem] max2_int min2_int max_two min_two max_three min_three max_four min_four   -- for this text's walks alone
set_option linter.unusedVariables false
set_option linter.unusedSimpArgs false
theorem mo6_ {p : Prop} (h : p := by repeat' first | (with_reducible first | apply ih0 | apply ih0 | apply spec_l1Cur_anySheet.mono | apply spec_l1Cur_anySheet.mono | apply spec_l1Cur_sheet.mono | apply spec_l1Cur_sheet.mono | exact LeO.refl _ | exact LeO.none _ | refine LeO.ite ?_ ?_ | refine LeO.bind ?_ (fun _ => ?_)) | exact LeO.none _ | refine LeO.ite ?_ ?_ | refine LeO.bind ?_ (fun _ => ?_)) : p := h

/-! ### spec_l1Cur_anyHole: function 53 -/
def spec_l1Cur_anyHole.f (s0_0 : List Int) (s0_1 : Int) (s0_2 : Int) : Option (Int × Int × Int × Int × Int) := (spec_l1Cur_hole.f s0_0 s0_1 s0_2).bind fun b4 => ((spec_l1Cur_pick.f s0_0 b4.2.2.2.1 b4.2.2.2.2 24).bind fun cp => (if cp.1 = 0 then ((spec_l1Cur_among.f s0_0 cp.2.1 cp.2.2 (([(-1), 19, 20] : List Int))).bind fun fp => (some (fp.1, b4.2.1, b4.2.2.1, fp.2.1, fp.2.2))) else (if cp.1 = 1 then ((spec_l1Cur_among.f s0_0 cp.2.1 cp.2.2 (([(-1), b4.2.2.1] : List Int))).bind fun fq => (some (b4.1, fq.1, b4.2.2.1, fq.2.1, fq.2.2))) else (if cp.1 = 2 then ((spec_l1Cur_among.f s0_0 cp.2.1 cp.2.2 (([b4.2.1, 2000, 2001] : List Int))).bind fun ft => (some (b4.1, b4.2.1, ft.1, ft.2.1, ft.2.2))) else (some (b4.1, b4.2.1, b4.2.2.1, cp.2.1, cp.2.2))))))
set_option maxHeartbeats 8000000 in
set_option maxRecDepth 100000 in
theorem spec_l1Cur_anyHole.calls (g : Nat) (s0_0 : List Int) (s0_1 : Int) (s0_2 : Int) (r1 : Int) (r2 : Int) (r3 : Int) (r4 : Int) (r5 : Int) (w0 w : World) (hI : IsS49 w0 w g s0_0 s0_1 s0_2) (hB : Below w0.heap.size w0 w) (h : spec_l1Cur_anyHole.f s0_0 s0_1 s0_2 = some (r1, r2, r3, r4, r5)) :
  Calls Tryz.prog 53 #[.pointer (some ⟨g, 0, none⟩)] w fun e w' => e = .returned (.agg #[.int .i64 r1, .int .i64 r2, .int .i64 r3]) ∧ IsS49 w0 w' g s0_0 r4 r5 ∧ Below w0.heap.size w0 w' ∧ KeepBut w w' g none := by
 have hu55 := Tryz.underlying55
 have HI0 := Aside0.mk hI
 have HK := Aside0.mk (KeepBut.refl w g none)
 have HL := Aside0.mk hB.size
 clear hI
 have HW0 := Aside0.mk hB.size
 have HB := Aside0.mk hB
 clear hB
 have H : ((spec_l1Cur_hole.f s0_0 s0_1 s0_2).bind fun b4 => ((spec_l1Cur_pick.f s0_0 b4.2.2.2.1 b4.2.2.2.2 24).bind fun cp => (if cp.1 = 0 then ((spec_l1Cur_among.f s0_0 cp.2.1 cp.2.2 (([(-1), 19, 20] : List Int))).bind fun fp => (some (fp.1, b4.2.1, b4.2.2.1, fp.2.1, fp.2.2))) else (if cp.1 = 1 then ((spec_l1Cur_among.f s0_0 cp.2.1 cp.2.2 (([(-1), b4.2.2.1] : List Int))).bind fun fq => (some (b4.1, fq.1, b4.2.2.1, fq.2.1, fq.2.2))) else (if cp.1 = 2 then ((spec_l1Cur_among.f s0_0 cp.2.1 cp.2.2 (([b4.2.1, 2000, 2001] : List Int))).bind fun ft => (some (b4.1, b4.2.1, ft.1, ft.2.1, ft.2.2))) else (some (b4.1, b4.2.1, b4.2.2.1, cp.2.1, cp.2.2))))))) = some (r1, r2, r3, r4, r5) := h
 clear h
 obtain ⟨⟨dR, dF, ed, jN, jO⟩, A2, H⟩ := bd_ H
 (try dsimp only at H)
 obtain ⟨⟨eC, gX, gY⟩, A3, H⟩ := bd_ H
 (try dsimp only at H)
 by_cases c4 : eC = 0
 ·rw [if_pos c4] at H
  have bZ : (eC == 0) = true := beq_iff_eq.mpr c4
  have c4b1 : (eC != 0) = false := bne_eq_false_iff_eq.mpr c4
  clear c4
  obtain ⟨zw, n4⟩ : ∃ y_ : List Int, y_ = (([(-1), 19, 20] : List Int)) := ⟨_, rfl⟩
  replace H : ((spec_l1Cur_among.f s0_0 gX gY zw).bind fun fp => (some (fp.1, dF, ed, fp.2.1, fp.2.2))) = some (r1, r2, r3, r4, r5) := by first | (rw [n4]; with_reducible exact H) | (have H2_ := (Option.bind_some _ _).symm.trans H; rw [n4]; with_reducible exact H2_) | (have H2_ := (Option.bind_some _ _).symm.trans H; with_reducible exact H2_) | with_reducible exact H | (rw [n4]; exact H) | exact H
  have xC := Aside0.mk n4
  clear n4
  obtain ⟨⟨vq, t263, t264⟩, A5, H⟩ := bd_ H
  (try dsimp only at H)
  simp only [Option.some.injEq, Prod.mk.injEq] at H
  obtain ⟨rfl, rfl, rfl, rfl, rfl⟩ := H
  go_enter Tryz.func53, Tryz.ntmps53
  go_wp2_with (first | ((with_reducible refine gate_dst (N := 2) rfl ?_); refine bv_ 2 55 #[.int .i64 0, .int .i64 0, .int .i64 0] ?_; intro bb hg w6 hbox hb; refine k8_ (IsS49.below (Z4 HI0) hb) (KeepBut.trans (Z5) (KeepBut.of_below hb g none) (.inl rfl)) (below_step (Z6) hb) (hbox) ((Z61 : w.heap.size ≤ bb)) ((Nat.le_trans HW0.out (Z61 : w.heap.size ≤ bb) : w0.heap.size ≤ bb)) ((Z87 : g ≠ bb)) ((Z88 : bb ≠ g)) ?_; clear HI0 HK HB; intro HI0 HK HB aG l7 l6 dG bL; clear hb hbox hg) | ((with_reducible refine gate_callee (f := 70) rfl ?_); refine gl_ 5 Tryz.func70 #[.pointer (some ⟨g, 0, none⟩)] ?_; (with_reducible refine (spec_l1Cur_hole.calls g s0_0 s0_1 s0_2 dR dF ed jN jO w0 _ ?_ ?_ A2.out).mono ?_); exact Z23; exact Z40; rintro e w7 ⟨rfl, hi, hb, hk⟩; refine ⟨_, rfl, ?_⟩; refine k4_ (KeepBut.blk hk (g' := bb) (o := .cells #[.int .i64 0, .int .i64 0, .int .i64 0] 55 (0, 0)) (Z7 aG) bL.out (by simp)) (KeepBut.trans (Z26) hk (.inl rfl)) (hb) (hi) ?_; clear aG HK HB HI0; intro aG HK HB HI0; (try clear hb hk hi)) | ((with_reducible refine gate_dst (N := 3) rfl ?_); refine bv_ 3 55 #[.int .i64 0, .int .i64 0, .int .i64 0] ?_; intro bq hg w8 hbox hb; refine k11_ (IsS49.below (Z23) hb) (Ye_ aG) (KeepBut.trans (Z26) (KeepBut.of_below hb g none) (.inl rfl)) (below_step (Z40) hb) (hbox) ((Z73 : w.heap.size ≤ bq)) ((Nat.le_trans HW0.out (Z73 : w.heap.size ≤ bq) : w0.heap.size ≤ bq)) ((Z79 : bb ≠ bq)) ((Z80 : bq ≠ bb)) ((Z96 : g ≠ bq)) ((Z97 : bq ≠ g)) ?_; clear HI0 aG HK HB; intro HI0 aG HK HB bj pH pF bI dk dV ch; clear hb hbox hg; have hnb9 := dk.out; have hnc9 := bI.out; have hnb10 := ch.out; have hnc10 := dV.out; obtain ⟨hcz11_0, hcz11_1, hcz11_2, hfz11_0, hfz11_1, hfz11_2⟩ := bx3_ (w := w8) bj.out) | ((with_reducible refine gate_callee (f := 52) rfl ?_); refine gl_ 7 Tryz.func52 #[.pointer (some ⟨g, 0, none⟩), .int .i64 24] ?_; (with_reducible refine (spec_l1Cur_pick.calls g s0_0 jN jO 24 eC gX gY w0 _ ?_ ?_ A3.out).mono ?_); exact Z16; exact Z24; rintro e uc ⟨rfl, hi, hb, hk⟩; refine ⟨_, rfl, ?_⟩; refine k5_ (KeepBut.blk hk (g' := bb) (o := .cells #[.int .i64 0, .int .i64 0, .int .i64 0] 55 (0, 0)) (Z37) bL.out (by simp)) (KeepBut.blk hk (g' := bq) (o := .cells #[.int .i64 dR, .int .i64 dF, .int .i64 ed] 55 (0, 0)) (Z27 bj) ch.out (by simp)) (KeepBut.trans (Z20) hk (.inl rfl)) (hb) (hi) ?_; clear aG bj HK HB HI0; intro aG bj HK HB HI0; (try clear hb hk hi)) | ((with_reducible refine gate_dst (N := 11) rfl ?_); refine Kd.R_lit (Kd.int .i64) _ 3 ?hg (N := 11) ?hd (xs := ([(-1), 19, 20] : List Int)) (inner := [.int .i64 (-1), .int .i64 19, .int .i64 20]) (ok := fun _ => True) (okp := fun _ => True) ?hr ?hp (fun _ hk => hk) trivial (Below.refl _ _) (Nat.le_refl _) (by simp) ?_; (case hd => rfl); (case hg => rfl); (case hr => exact Z41); (case hp => exact (Reps.one (show Kd.M (Kd.int .i64) _ _ _ (-1) [.int .i64 (-1)] from rfl) (Reps.one (show Kd.M (Kd.int .i64) _ _ _ 19 [.int .i64 19] from rfl) (Reps.one (show Kd.M (Kd.int .i64) _ _ _ 20 [.int .i64 20] from rfl) (Reps.none _ _))))); intro v260 pQ ho14 hb hg_ hnew_; clear hg_ hnew_; (first | rw [← xC.out] at ho14 | (simp only [Int.reduceToNat] at ho14; rw [← xC.out] at ho14)); refine k6_ (Kd.R_lower ho14 (keep_size (w := w) (g := g) (row := none) (Z20))) (IsS49.below (Z16) hb) (Ye_ aG) (Ye_ bj) (KeepBut.trans (Z20) (KeepBut.of_below hb g none) (.inl rfl)) (below_step (Z24) hb) ?_; clear HI0 aG bj HK HB; intro jB HI0 aG bj HK HB; clear hb ho14; obtain ⟨qU, pj, jl⟩ := Kd.R_slice jB.out; subst jl) | ((with_reducible refine gate_callee (f := 27) rfl ?_); refine gl_ 12 Tryz.func27 #[.pointer (some ⟨g, 0, none⟩), .slice qU zw.length pj] ?_; (with_reducible refine (spec_l1Cur_among.calls g s0_0 gX gY _ _ zw vq t263 t264 w0 _ ?_ ?_ ?_ ?_ ?_ A5.out).mono ?_); exact Z16; exact Z24; exact (Z1 jB); exact (Kd.R_reads' jB.out).2.1; exact far_slice (IsS49.own_ne HI0.out jB.out (by decide)); rintro e mx ⟨rfl, hi, hb, hk⟩; refine ⟨_, rfl, ?_⟩; refine k6_ (KeepBut.blk hk (g' := bb) (o := .cells #[.int .i64 0, .int .i64 0, .int .i64 0] 55 (0, 0)) (Z7 aG) bL.out (by simp)) (KeepBut.blk hk (g' := bq) (o := .cells #[.int .i64 dR, .int .i64 dF, .int .i64 ed] 55 (0, 0)) (Z7 bj) ch.out (by simp)) (Kd.R_mono (Kd.R_keep (IsS49.apart (show IsS49 w0 _ g s0_0 gX gY from Z16) (Z3 jB) (by decide)) hk (fun _ h => h.2)) (fun _ h => h.1)) (KeepBut.trans (Z20) hk (.inl rfl)) (hb) (hi) ?_; clear aG bj jB HK HB HI0; intro aG bj jB HK HB HI0; (try clear hb hk hi); obtain ⟨hcz17_0, hcz17_1, hcz17_2, hfz17_0, hfz17_1, hfz17_2⟩ := bx3_ (w := mx) bj.out; have hnb18 := bL.out; have hnc18 := dG.out; obtain ⟨hcz19_0, hcz19_1, hcz19_2, hfz19_0, hfz19_1, hfz19_2⟩ := bx3_ (w := mx) aG.out))
  refine bodyPost_ret (results_cell_row rfl _ _ bb 55 #[.int .i64 vq, .int .i64 dF, .int .i64 ed] (0, 0) _ rfl (by (with_reducible repeat (first | refine blk_drewN ?_ _ | refine blk_drew ?_ | refine blk_alloc ?_ _)); refine blk_put (cs := #[.int .i64 vq, .int .i64 dF, .int .i64 0]) ?_ 2 _ rfl; (with_reducible repeat (first | refine blk_drewN ?_ _ | refine blk_drew ?_ | refine blk_alloc ?_ _)); refine blk_put (cs := #[.int .i64 vq, .int .i64 0, .int .i64 0]) ?_ 1 _ rfl; (with_reducible repeat (first | refine blk_drewN ?_ _ | refine blk_drew ?_ | refine blk_alloc ?_ _)); refine blk_put (cs := #[.int .i64 0, .int .i64 0, .int .i64 0]) ?_ 0 _ rfl; (with_reducible repeat (first | refine blk_drewN ?_ _ | refine blk_drew ?_ | refine blk_alloc ?_ _)); refine blk_far ?_ bI.out _; (with_reducible repeat (first | refine blk_drewN ?_ _ | refine blk_drew ?_ | refine blk_alloc ?_ _)); exact aG.out) Tryz.underlying55 rfl (by kernel_rfl)) rfl ?_
  exact ⟨Z9, Z16, Z24, Z20⟩
 rw [if_neg c4] at H
 have bZ : (eC == 0) = false := beq_eq_false_iff_ne.mpr c4
 have c4b1 : (eC != 0) = true := bne_iff_ne.mpr c4
 by_cases c20 : eC = 1
 ·rw [if_pos c20] at H
  have g4 : (eC == 1) = true := beq_iff_eq.mpr c20
  have ss : (eC != 1) = false := bne_eq_false_iff_eq.mpr c20
  clear c20
  obtain ⟨zx, n5⟩ : ∃ y_ : List Int, y_ = (([(-1), ed] : List Int)) := ⟨_, rfl⟩
  replace H : ((spec_l1Cur_among.f s0_0 gX gY zx).bind fun fq => (some (dR, fq.1, ed, fq.2.1, fq.2.2))) = some (r1, r2, r3, r4, r5) := by first | (rw [n5]; with_reducible exact H) | (have H2_ := (Option.bind_some _ _).symm.trans H; rw [n5]; with_reducible exact H2_) | (have H2_ := (Option.bind_some _ _).symm.trans H; with_reducible exact H2_) | with_reducible exact H | (rw [n5]; exact H) | exact H
  have xD := Aside0.mk n5
  clear n5
  obtain ⟨⟨zy, t269, t270⟩, yc, H⟩ := bd_ H
  (try dsimp only at H)
  simp only [Option.some.injEq, Prod.mk.injEq] at H
  obtain ⟨rfl, rfl, rfl, rfl, rfl⟩ := H
  go_enter Tryz.func53, Tryz.ntmps53
  go_wp2_with (first | ((with_reducible refine gate_dst (N := 2) rfl ?_); refine bv_ 2 55 #[.int .i64 0, .int .i64 0, .int .i64 0] ?_; intro bb hg xX hbox hb; refine k8_ (IsS49.below (Z4 HI0) hb) (KeepBut.trans (Z5) (KeepBut.of_below hb g none) (.inl rfl)) (below_step (Z6) hb) (hbox) ((Z61 : w.heap.size ≤ bb)) ((Nat.le_trans HW0.out (Z61 : w.heap.size ≤ bb) : w0.heap.size ≤ bb)) ((Z87 : g ≠ bb)) ((Z88 : bb ≠ g)) ?_; clear HI0 HK HB; intro HI0 HK HB aG l7 l6 dG bL; clear hb hbox hg) | ((with_reducible refine gate_callee (f := 70) rfl ?_); refine gl_ 5 Tryz.func70 #[.pointer (some ⟨g, 0, none⟩)] ?_; (with_reducible refine (spec_l1Cur_hole.calls g s0_0 s0_1 s0_2 dR dF ed jN jO w0 _ ?_ ?_ A2.out).mono ?_); exact Z23; exact Z40; rintro e mm ⟨rfl, hi, hb, hk⟩; refine ⟨_, rfl, ?_⟩; refine k4_ (KeepBut.blk hk (g' := bb) (o := .cells #[.int .i64 0, .int .i64 0, .int .i64 0] 55 (0, 0)) (Z7 aG) bL.out (by simp)) (KeepBut.trans (Z26) hk (.inl rfl)) (hb) (hi) ?_; clear aG HK HB HI0; intro aG HK HB HI0; (try clear hb hk hi)) | ((with_reducible refine gate_dst (N := 3) rfl ?_); refine bv_ 3 55 #[.int .i64 0, .int .i64 0, .int .i64 0] ?_; intro bq hg mn hbox hb; refine k11_ (IsS49.below (Z23) hb) (Ye_ aG) (KeepBut.trans (Z26) (KeepBut.of_below hb g none) (.inl rfl)) (below_step (Z40) hb) (hbox) ((Z73 : w.heap.size ≤ bq)) ((Nat.le_trans HW0.out (Z73 : w.heap.size ≤ bq) : w0.heap.size ≤ bq)) ((Z79 : bb ≠ bq)) ((Z80 : bq ≠ bb)) ((Z96 : g ≠ bq)) ((Z97 : bq ≠ g)) ?_; clear HI0 aG HK HB; intro HI0 aG HK HB bj pH pF bI dk dV ch; clear hb hbox hg; have hnb25 := dk.out; have hnc25 := bI.out; have hnb26 := ch.out; have hnc26 := dV.out; obtain ⟨hcz27_0, hcz27_1, hcz27_2, hfz27_0, hfz27_1, hfz27_2⟩ := bx3_ (w := mn) bj.out) | ((with_reducible refine gate_callee (f := 52) rfl ?_); refine gl_ 7 Tryz.func52 #[.pointer (some ⟨g, 0, none⟩), .int .i64 24] ?_; (with_reducible refine (spec_l1Cur_pick.calls g s0_0 jN jO 24 eC gX gY w0 _ ?_ ?_ A3.out).mono ?_); exact Z16; exact Z24; rintro e vV ⟨rfl, hi, hb, hk⟩; refine ⟨_, rfl, ?_⟩; refine k5_ (KeepBut.blk hk (g' := bb) (o := .cells #[.int .i64 0, .int .i64 0, .int .i64 0] 55 (0, 0)) (Z37) bL.out (by simp)) (KeepBut.blk hk (g' := bq) (o := .cells #[.int .i64 dR, .int .i64 dF, .int .i64 ed] 55 (0, 0)) (Z27 bj) ch.out (by simp)) (KeepBut.trans (Z20) hk (.inl rfl)) (hb) (hi) ?_; clear aG bj HK HB HI0; intro aG bj HK HB HI0; (try clear hb hk hi); obtain ⟨hcz29_0, hcz29_1, hcz29_2, hfz29_0, hfz29_1, hfz29_2⟩ := bx3_ (w := vV) bj.out) | ((with_reducible refine gate_dst (N := 19) rfl ?_); refine Kd.R_lit (Kd.int .i64) _ 3 ?hg (N := 19) ?hd (xs := ([(-1), ed] : List Int)) (inner := [.int .i64 (-1), .int .i64 ed]) (ok := fun _ => True) (okp := fun _ => True) ?hr ?hp (fun _ hk => hk) trivial (Below.refl _ _) (Nat.le_refl _) (by simp) ?_; (case hd => rfl); (case hg => rfl); (case hr => exact Z41); (case hp => exact (Reps.one (show Kd.M (Kd.int .i64) _ _ _ (-1) [.int .i64 (-1)] from rfl) (Reps.one (show Kd.M (Kd.int .i64) _ _ _ ed [.int .i64 ed] from rfl) (Reps.none _ _)))); intro v266 yJ ho31 hb hg_ hnew_; clear hg_ hnew_; (first | rw [← xD.out] at ho31 | (simp only [Int.reduceToNat] at ho31; rw [← xD.out] at ho31)); refine k6_ (Kd.R_lower ho31 (keep_size (w := w) (g := g) (row := none) (Z20))) (IsS49.below (Z16) hb) (Ye_ aG) (Ye_ bj) (KeepBut.trans (Z20) (KeepBut.of_below hb g none) (.inl rfl)) (below_step (Z24) hb) ?_; clear HI0 aG bj HK HB; intro jC HI0 aG bj HK HB; clear hb ho31; obtain ⟨uG, su, sv⟩ := Kd.R_slice jC.out; subst sv) | ((with_reducible refine gate_callee (f := 27) rfl ?_); refine gl_ 20 Tryz.func27 #[.pointer (some ⟨g, 0, none⟩), .slice uG zx.length su] ?_; (with_reducible refine (spec_l1Cur_among.calls g s0_0 gX gY _ _ zx zy t269 t270 w0 _ ?_ ?_ ?_ ?_ ?_ yc.out).mono ?_); exact Z16; exact Z24; exact (Z1 jC); exact (Kd.R_reads' jC.out).2.1; exact far_slice (IsS49.own_ne HI0.out jC.out (by decide)); rintro e qH ⟨rfl, hi, hb, hk⟩; refine ⟨_, rfl, ?_⟩; refine k6_ (KeepBut.blk hk (g' := bb) (o := .cells #[.int .i64 0, .int .i64 0, .int .i64 0] 55 (0, 0)) (Z7 aG) bL.out (by simp)) (KeepBut.blk hk (g' := bq) (o := .cells #[.int .i64 dR, .int .i64 dF, .int .i64 ed] 55 (0, 0)) (Z7 bj) ch.out (by simp)) (Kd.R_mono (Kd.R_keep (IsS49.apart (show IsS49 w0 _ g s0_0 gX gY from Z16) (Z3 jC) (by decide)) hk (fun _ h => h.2)) (fun _ h => h.1)) (KeepBut.trans (Z20) hk (.inl rfl)) (hb) (hi) ?_; clear aG bj jC HK HB HI0; intro aG bj jC HK HB HI0; (try clear hb hk hi); obtain ⟨hcz34_0, hcz34_1, hcz34_2, hfz34_0, hfz34_1, hfz34_2⟩ := bx3_ (w := qH) bj.out; have hnb35 := bL.out; have hnc35 := dG.out; obtain ⟨hcz36_0, hcz36_1, hcz36_2, hfz36_0, hfz36_1, hfz36_2⟩ := bx3_ (w := qH) aG.out))
  refine bodyPost_ret (results_cell_row rfl _ _ bb 55 #[.int .i64 dR, .int .i64 zy, .int .i64 ed] (0, 0) _ rfl (by (with_reducible repeat (first | refine blk_drewN ?_ _ | refine blk_drew ?_ | refine blk_alloc ?_ _)); refine blk_put (cs := #[.int .i64 dR, .int .i64 zy, .int .i64 0]) ?_ 2 _ rfl; (with_reducible repeat (first | refine blk_drewN ?_ _ | refine blk_drew ?_ | refine blk_alloc ?_ _)); refine blk_put (cs := #[.int .i64 dR, .int .i64 0, .int .i64 0]) ?_ 1 _ rfl; (with_reducible repeat (first | refine blk_drewN ?_ _ | refine blk_drew ?_ | refine blk_alloc ?_ _)); refine blk_put (cs := #[.int .i64 0, .int .i64 0, .int .i64 0]) ?_ 0 _ rfl; (with_reducible repeat (first | refine blk_drewN ?_ _ | refine blk_drew ?_ | refine blk_alloc ?_ _)); refine blk_far ?_ bI.out _; (with_reducible repeat (first | refine blk_drewN ?_ _ | refine blk_drew ?_ | refine blk_alloc ?_ _)); exact aG.out) Tryz.underlying55 rfl (by kernel_rfl)) rfl ?_
  exact ⟨Z9, Z16, Z24, Z20⟩
 rw [if_neg c20] at H
 have g4 : (eC == 1) = false := beq_eq_false_iff_ne.mpr c20
 have ss : (eC != 1) = true := bne_iff_ne.mpr c20
 by_cases c37 : eC = 2
 ·rw [if_pos c37] at H
  have nK : (eC == 2) = true := beq_iff_eq.mpr c37
  have nL : (eC != 2) = false := bne_eq_false_iff_eq.mpr c37
  clear c37
  obtain ⟨zz, n6⟩ : ∃ y_ : List Int, y_ = (([dF, 2000, 2001] : List Int)) := ⟨_, rfl⟩
  replace H : ((spec_l1Cur_among.f s0_0 gX gY zz).bind fun ft => (some (dR, dF, ft.1, ft.2.1, ft.2.2))) = some (r1, r2, r3, r4, r5) := by first | (rw [n6]; with_reducible exact H) | (have H2_ := (Option.bind_some _ _).symm.trans H; rw [n6]; with_reducible exact H2_) | (have H2_ := (Option.bind_some _ _).symm.trans H; with_reducible exact H2_) | with_reducible exact H | (rw [n6]; exact H) | exact H
  have xE := Aside0.mk n6
  clear n6
  obtain ⟨⟨B5, t275, t276⟩, A38, H⟩ := bd_ H
  (try dsimp only at H)
  simp only [Option.some.injEq, Prod.mk.injEq] at H
  obtain ⟨rfl, rfl, rfl, rfl, rfl⟩ := H
  go_enter Tryz.func53, Tryz.ntmps53
  go_wp2_with (first | ((with_reducible refine gate_dst (N := 2) rfl ?_); refine bv_ 2 55 #[.int .i64 0, .int .i64 0, .int .i64 0] ?_; intro bb hg CX hbox hb; refine k8_ (IsS49.below (Z4 HI0) hb) (KeepBut.trans (Z5) (KeepBut.of_below hb g none) (.inl rfl)) (below_step (Z6) hb) (hbox) ((Z61 : w.heap.size ≤ bb)) ((Nat.le_trans HW0.out (Z61 : w.heap.size ≤ bb) : w0.heap.size ≤ bb)) ((Z87 : g ≠ bb)) ((Z88 : bb ≠ g)) ?_; clear HI0 HK HB; intro HI0 HK HB aG l7 l6 dG bL; clear hb hbox hg) | ((with_reducible refine gate_callee (f := 70) rfl ?_); refine gl_ 5 Tryz.func70 #[.pointer (some ⟨g, 0, none⟩)] ?_; (with_reducible refine (spec_l1Cur_hole.calls g s0_0 s0_1 s0_2 dR dF ed jN jO w0 _ ?_ ?_ A2.out).mono ?_); exact Z23; exact Z40; rintro e Ao ⟨rfl, hi, hb, hk⟩; refine ⟨_, rfl, ?_⟩; refine k4_ (KeepBut.blk hk (g' := bb) (o := .cells #[.int .i64 0, .int .i64 0, .int .i64 0] 55 (0, 0)) (Z7 aG) bL.out (by simp)) (KeepBut.trans (Z26) hk (.inl rfl)) (hb) (hi) ?_; clear aG HK HB HI0; intro aG HK HB HI0; (try clear hb hk hi)) | ((with_reducible refine gate_dst (N := 3) rfl ?_); refine bv_ 3 55 #[.int .i64 0, .int .i64 0, .int .i64 0] ?_; intro bq hg z6 hbox hb; refine k11_ (IsS49.below (Z23) hb) (Ye_ aG) (KeepBut.trans (Z26) (KeepBut.of_below hb g none) (.inl rfl)) (below_step (Z40) hb) (hbox) ((Z73 : w.heap.size ≤ bq)) ((Nat.le_trans HW0.out (Z73 : w.heap.size ≤ bq) : w0.heap.size ≤ bq)) ((Z79 : bb ≠ bq)) ((Z80 : bq ≠ bb)) ((Z96 : g ≠ bq)) ((Z97 : bq ≠ g)) ?_; clear HI0 aG HK HB; intro HI0 aG HK HB bj pH pF bI dk dV ch; clear hb hbox hg; have hnb42 := dk.out; have hnc42 := bI.out; have hnb43 := ch.out; have hnc43 := dV.out; obtain ⟨hcz44_0, hcz44_1, hcz44_2, hfz44_0, hfz44_1, hfz44_2⟩ := bx3_ (w := z6) bj.out) | ((with_reducible refine gate_callee (f := 52) rfl ?_); refine gl_ 7 Tryz.func52 #[.pointer (some ⟨g, 0, none⟩), .int .i64 24] ?_; (with_reducible refine (spec_l1Cur_pick.calls g s0_0 jN jO 24 eC gX gY w0 _ ?_ ?_ A3.out).mono ?_); exact Z16; exact Z24; rintro e CV ⟨rfl, hi, hb, hk⟩; refine ⟨_, rfl, ?_⟩; refine k5_ (KeepBut.blk hk (g' := bb) (o := .cells #[.int .i64 0, .int .i64 0, .int .i64 0] 55 (0, 0)) (Z37) bL.out (by simp)) (KeepBut.blk hk (g' := bq) (o := .cells #[.int .i64 dR, .int .i64 dF, .int .i64 ed] 55 (0, 0)) (Z27 bj) ch.out (by simp)) (KeepBut.trans (Z20) hk (.inl rfl)) (hb) (hi) ?_; clear aG bj HK HB HI0; intro aG bj HK HB HI0; (try clear hb hk hi); obtain ⟨hcz46_0, hcz46_1, hcz46_2, hfz46_0, hfz46_1, hfz46_2⟩ := bx3_ (w := CV) bj.out) | ((with_reducible refine gate_dst (N := 27) rfl ?_); refine Kd.R_lit (Kd.int .i64) _ 3 ?hg (N := 27) ?hd (xs := ([dF, 2000, 2001] : List Int)) (inner := [.int .i64 dF, .int .i64 2000, .int .i64 2001]) (ok := fun _ => True) (okp := fun _ => True) ?hr ?hp (fun _ hk => hk) trivial (Below.refl _ _) (Nat.le_refl _) (by simp) ?_; (case hd => rfl); (case hg => rfl); (case hr => exact Z41); (case hp => exact (Reps.one (show Kd.M (Kd.int .i64) _ _ _ dF [.int .i64 dF] from rfl) (Reps.one (show Kd.M (Kd.int .i64) _ _ _ 2000 [.int .i64 2000] from rfl) (Reps.one (show Kd.M (Kd.int .i64) _ _ _ 2001 [.int .i64 2001] from rfl) (Reps.none _ _))))); intro v272 w47 ho48 hb hg_ hnew_; clear hg_ hnew_; (first | rw [← xE.out] at ho48 | (simp only [Int.reduceToNat] at ho48; rw [← xE.out] at ho48)); refine k6_ (Kd.R_lower ho48 (keep_size (w := w) (g := g) (row := none) (Z20))) (IsS49.below (Z16) hb) (Ye_ aG) (Ye_ bj) (KeepBut.trans (Z20) (KeepBut.of_below hb g none) (.inl rfl)) (below_step (Z24) hb) ?_; clear HI0 aG bj HK HB; intro jD HI0 aG bj HK HB; clear hb ho48; obtain ⟨Ao49, co49, eo49⟩ := Kd.R_slice jD.out; subst eo49) | ((with_reducible refine gate_callee (f := 27) rfl ?_); refine gl_ 28 Tryz.func27 #[.pointer (some ⟨g, 0, none⟩), .slice Ao49 zz.length co49] ?_; (with_reducible refine (spec_l1Cur_among.calls g s0_0 gX gY _ _ zz B5 t275 t276 w0 _ ?_ ?_ ?_ ?_ ?_ A38.out).mono ?_); exact Z16; exact Z24; exact (Z1 jD); exact (Kd.R_reads' jD.out).2.1; exact far_slice (IsS49.own_ne HI0.out jD.out (by decide)); rintro e rV ⟨rfl, hi, hb, hk⟩; refine ⟨_, rfl, ?_⟩; refine k6_ (KeepBut.blk hk (g' := bb) (o := .cells #[.int .i64 0, .int .i64 0, .int .i64 0] 55 (0, 0)) (Z7 aG) bL.out (by simp)) (KeepBut.blk hk (g' := bq) (o := .cells #[.int .i64 dR, .int .i64 dF, .int .i64 ed] 55 (0, 0)) (Z7 bj) ch.out (by simp)) (Kd.R_mono (Kd.R_keep (IsS49.apart (show IsS49 w0 _ g s0_0 gX gY from Z16) (Z3 jD) (by decide)) hk (fun _ h => h.2)) (fun _ h => h.1)) (KeepBut.trans (Z20) hk (.inl rfl)) (hb) (hi) ?_; clear aG bj jD HK HB HI0; intro aG bj jD HK HB HI0; (try clear hb hk hi); obtain ⟨hcz51_0, hcz51_1, hcz51_2, hfz51_0, hfz51_1, hfz51_2⟩ := bx3_ (w := rV) bj.out; have hnb52 := bL.out; have hnc52 := dG.out; obtain ⟨hcz53_0, hcz53_1, hcz53_2, hfz53_0, hfz53_1, hfz53_2⟩ := bx3_ (w := rV) aG.out))
  refine bodyPost_ret (results_cell_row rfl _ _ bb 55 #[.int .i64 dR, .int .i64 dF, .int .i64 B5] (0, 0) _ rfl (by (with_reducible repeat (first | refine blk_drewN ?_ _ | refine blk_drew ?_ | refine blk_alloc ?_ _)); refine blk_put (cs := #[.int .i64 dR, .int .i64 dF, .int .i64 0]) ?_ 2 _ rfl; (with_reducible repeat (first | refine blk_drewN ?_ _ | refine blk_drew ?_ | refine blk_alloc ?_ _)); refine blk_put (cs := #[.int .i64 dR, .int .i64 0, .int .i64 0]) ?_ 1 _ rfl; (with_reducible repeat (first | refine blk_drewN ?_ _ | refine blk_drew ?_ | refine blk_alloc ?_ _)); refine blk_put (cs := #[.int .i64 0, .int .i64 0, .int .i64 0]) ?_ 0 _ rfl; (with_reducible repeat (first | refine blk_drewN ?_ _ | refine blk_drew ?_ | refine blk_alloc ?_ _)); refine blk_far ?_ bI.out _; (with_reducible repeat (first | refine blk_drewN ?_ _ | refine blk_drew ?_ | refine blk_alloc ?_ _)); exact aG.out) Tryz.underlying55 rfl (by kernel_rfl)) rfl ?_
  exact ⟨Z9, Z16, Z24, Z20⟩
 rw [if_neg c37] at H
 have nK : (eC == 2) = false := beq_eq_false_iff_ne.mpr c37
 have nL : (eC != 2) = true := bne_iff_ne.mpr c37
 simp only [Option.some.injEq, Prod.mk.injEq] at H
 obtain ⟨rfl, rfl, rfl, rfl, rfl⟩ := H
 go_enter Tryz.func53, Tryz.ntmps53
 go_wp2_with (first | ((with_reducible refine gate_dst (N := 2) rfl ?_); refine bv_ 2 55 #[.int .i64 0, .int .i64 0, .int .i64 0] ?_; intro bb hg CW hbox hb; refine k8_ (IsS49.below (Z4 HI0) hb) (KeepBut.trans (Z5) (KeepBut.of_below hb g none) (.inl rfl)) (below_step (Z6) hb) (hbox) ((Z61 : w.heap.size ≤ bb)) ((Nat.le_trans HW0.out (Z61 : w.heap.size ≤ bb) : w0.heap.size ≤ bb)) ((Z87 : g ≠ bb)) ((Z88 : bb ≠ g)) ?_; clear HI0 HK HB; intro HI0 HK HB aG l7 l6 dG bL; clear hb hbox hg) | ((with_reducible refine gate_callee (f := 70) rfl ?_); refine gl_ 5 Tryz.func70 #[.pointer (some ⟨g, 0, none⟩)] ?_; (with_reducible refine (spec_l1Cur_hole.calls g s0_0 s0_1 s0_2 dR dF ed jN jO w0 _ ?_ ?_ A2.out).mono ?_); exact Z23; exact Z40; rintro e w55 ⟨rfl, hi, hb, hk⟩; refine ⟨_, rfl, ?_⟩; refine k4_ (KeepBut.blk hk (g' := bb) (o := .cells #[.int .i64 0, .int .i64 0, .int .i64 0] 55 (0, 0)) (Z7 aG) bL.out (by simp)) (KeepBut.trans (Z26) hk (.inl rfl)) (hb) (hi) ?_; clear aG HK HB HI0; intro aG HK HB HI0; (try clear hb hk hi)) | ((with_reducible refine gate_dst (N := 3) rfl ?_); refine bv_ 3 55 #[.int .i64 0, .int .i64 0, .int .i64 0] ?_; intro bq hg Cq hbox hb; refine k11_ (IsS49.below (Z23) hb) (Ye_ aG) (KeepBut.trans (Z26) (KeepBut.of_below hb g none) (.inl rfl)) (below_step (Z40) hb) (hbox) ((Z73 : w.heap.size ≤ bq)) ((Nat.le_trans HW0.out (Z73 : w.heap.size ≤ bq) : w0.heap.size ≤ bq)) ((Z79 : bb ≠ bq)) ((Z80 : bq ≠ bb)) ((Z96 : g ≠ bq)) ((Z97 : bq ≠ g)) ?_; clear HI0 aG HK HB; intro HI0 aG HK HB bj pH pF bI dk dV ch; clear hb hbox hg; have hnb57 := dk.out; have hnc57 := bI.out; have hnb58 := ch.out; have hnc58 := dV.out; obtain ⟨hcz59_0, hcz59_1, hcz59_2, hfz59_0, hfz59_1, hfz59_2⟩ := bx3_ (w := Cq) bj.out) | ((with_reducible refine gate_callee (f := 52) rfl ?_); refine gl_ 7 Tryz.func52 #[.pointer (some ⟨g, 0, none⟩), .int .i64 24] ?_; (with_reducible refine (spec_l1Cur_pick.calls g s0_0 jN jO 24 eC gX gY w0 _ ?_ ?_ A3.out).mono ?_); exact Z16; exact Z24; rintro e zW ⟨rfl, hi, hb, hk⟩; refine ⟨_, rfl, ?_⟩; refine k5_ (KeepBut.blk hk (g' := bb) (o := .cells #[.int .i64 0, .int .i64 0, .int .i64 0] 55 (0, 0)) (Z37) bL.out (by simp)) (KeepBut.blk hk (g' := bq) (o := .cells #[.int .i64 dR, .int .i64 dF, .int .i64 ed] 55 (0, 0)) (Z27 bj) ch.out (by simp)) (KeepBut.trans (Z20) hk (.inl rfl)) (hb) (hi) ?_; clear aG bj HK HB HI0; intro aG bj HK HB HI0; (try clear hb hk hi); obtain ⟨hcz61_0, hcz61_1, hcz61_2, hfz61_0, hfz61_1, hfz61_2⟩ := bx3_ (w := zW) bj.out; have hnb62 := bL.out; have hnc62 := dG.out; obtain ⟨hcz63_0, hcz63_1, hcz63_2, hfz63_0, hfz63_1, hfz63_2⟩ := bx3_ (w := zW) aG.out))
 refine bodyPost_ret (results_cell_row rfl _ _ bb 55 #[.int .i64 dR, .int .i64 dF, .int .i64 ed] (0, 0) _ rfl (Z27 aG) Tryz.underlying55 rfl (by kernel_rfl)) rfl ?_
 exact ⟨Z9, Z16, Z24, Z20⟩

/-! ### spec_l1Cur_anySheet: function 26 -/
def spec_l1Cur_anySheet.l0 : Nat → List (S55) → List Int → Int → Int → Option ((List (S55)) × Int × Int)
 | 0, _, _, _, _ => none
 | k + 1, x3, bx, cr, ct => if (x3.length : Int) < 61 then (if x3.length < 5864062014805 then (spec_l1Cur_anySheet.l0 k (x3 ++ [(⟨1, wrap64 (3 * (x3.length : Int)), wrap64 ((wrap64 (3 * (x3.length : Int))) + 1)⟩ : S55)]) bx cr ct) else (none)) else (some (x3, cr, ct))
def spec_l1Cur_anySheet.f (k : Nat) (s0_0 : List Int) (s0_1 : Int) (s0_2 : Int) : Option ((List (S55)) × Int × Int) := (spec_l1Cur_sheet.f k s0_0 s0_1 s0_2).bind fun bf => (if (bf.1.length : Int) > 0 then ((spec_l1Cur_pick.f s0_0 bf.2.1 bf.2.2 (bf.1.length : Int)).bind fun bK => ((spec_l1Cur_pick.f s0_0 bK.2.1 bK.2.2 30).bind fun bR => (if bR.1 = 0 then ((spec_l1Cur_anyHole.f s0_0 bR.2.1 bR.2.2).bind fun fu => (if 0 ≤ bK.1 then (if bK.1 < (bf.1.length : Int) then (some ((bf.1.set (bK.1 : Int).toNat (⟨fu.1, fu.2.1, fu.2.2.1⟩ : S55)), fu.2.2.2.1, fu.2.2.2.2)) else (none)) else (none))) else (if bR.1 = 1 then (if 0 ≤ bK.1 then (if bK.1 < (bf.1.length : Int) then (if bf.1.length < 5864062014805 then (some ((bf.1 ++ [(⟨(rd_T55 bf.1 bK.1).f0, (rd_T55 bf.1 bK.1).f1, (rd_T55 bf.1 bK.1).f2⟩ : S55)]), bR.2.1, bR.2.2)) else (none)) else (none)) else (none)) else (if bR.1 = 2 then (if 0 ≤ bK.1 then (if bK.1 < (bf.1.length : Int) then (if bf.1.length < 5864062014805 then (some ((bf.1 ++ [(⟨(rd_T55 bf.1 bK.1).f0, (rd_T55 bf.1 bK.1).f2, wrap64 (((rd_T55 bf.1 bK.1).f2) + 2)⟩ : S55)]), bR.2.1, bR.2.2)) else (none)) else (none)) else (none)) else (if bR.1 = 3 then (spec_l1Cur_anySheet.l0 k ([] : List (S55)) s0_0 bR.2.1 bR.2.2) else (some (bf.1, bR.2.1, bR.2.2)))))))) else (some (bf.1, bf.2.1, bf.2.2)))
theorem spec_l1Cur_anySheet.mono_l : ∀ k, (∀ y0 y1 y2 y3, LeO (spec_l1Cur_anySheet.l0 k y0 y1 y2 y3) (spec_l1Cur_anySheet.l0 (k + 1) y0 y1 y2 y3))
 | 0 => fun _ _ _ _ r h => by simp [spec_l1Cur_anySheet.l0] at h
 | k + 1 => by
  have ih0 := spec_l1Cur_anySheet.mono_l k
  ·intro y0 y1 y2 y3
   unfold spec_l1Cur_anySheet.l0
   exact mo6_
theorem spec_l1Cur_anySheet.mono : ∀ a0 a1 a2 k, LeO (spec_l1Cur_anySheet.f k a0 a1 a2) (spec_l1Cur_anySheet.f (k + 1) a0 a1 a2) := by
 intro a0 a1 a2 k
 have ih0 := spec_l1Cur_anySheet.mono_l k
 unfold spec_l1Cur_anySheet.f
 exact mo6_
def spec_l1Cur_anySheet.T10 : Bool × List (List Nat × List Nat) := (true, [([], []), ([], []), ([], []), ([1, 2], [1, 2]), ([3], [3]), ([4], [4]), ([], []), ([], []), ([6, 7], [6, 7]), ([8], [8]), ([9], [9]), ([], []), ([], []), ([11, 12], [11, 12]), ([13], [13]), ([14], [14]), ([15], [15]), ([5, 10, 16], [5, 10, 16]), ([17], [17]), ([0, 18], [0, 18]), ([19, 19, 0, 1, 2, 3, 4, 5, 6, 7, 8, 9, 10, 11, 12, 13, 14, 15, 16, 17, 18, 19], [0, 1, 6, 11, 19])])
def spec_l1Cur_anySheet.B10 : List Nat := [0, 0, 0, 6, 14, 30, 0, 0, 192, 448, 960, 0, 0, 6144, 14336, 30720, 63488, 131070, 262142, 524287, 1048575]
theorem spec_l1Cur_anySheet.tab10 : rtab .any (opsOf Tryz.f26 10) = spec_l1Cur_anySheet.T10 := by kernel_rfl
theorem spec_l1Cur_anySheet.bits10 : waitsOk spec_l1Cur_anySheet.T10.2 spec_l1Cur_anySheet.B10 = true := by kernel_rfl
set_option maxHeartbeats 8000000 in
set_option maxRecDepth 100000 in
theorem spec_l1Cur_anySheet.calls (k : Nat) (g : Nat) (s0_0 : List Int) (s0_1 : Int) (s0_2 : Int) (r1 : List (S55)) (r2 : Int) (r3 : Int) (w0 w : World) (hI : IsS49 w0 w g s0_0 s0_1 s0_2) (hB : Below w0.heap.size w0 w) (h : spec_l1Cur_anySheet.f k s0_0 s0_1 s0_2 = some (r1, r2, r3)) :
  Calls Tryz.prog 26 #[.pointer (some ⟨g, 0, none⟩)] w fun e w' => ∃ v0_ : Value, e = .returned (v0_) ∧ Kd.R k55 55 w' w.heap.size (fun _ => True) v0_ r1 ∧ IsS49 w0 w' g s0_0 r2 r3 ∧ Below w0.heap.size w0 w' ∧ KeepBut w w' g none := by
 have hu55 := Tryz.underlying55
 have HI0 := Aside0.mk hI
 have HK := Aside0.mk (KeepBut.refl w g none)
 have HL := Aside0.mk hB.size
 clear hI
 have HW0 := Aside0.mk hB.size
 have HB := Aside0.mk hB
 clear hB
 have H : ((spec_l1Cur_sheet.f k s0_0 s0_1 s0_2).bind fun bf => (if (bf.1.length : Int) > 0 then ((spec_l1Cur_pick.f s0_0 bf.2.1 bf.2.2 (bf.1.length : Int)).bind fun bK => ((spec_l1Cur_pick.f s0_0 bK.2.1 bK.2.2 30).bind fun bR => (if bR.1 = 0 then ((spec_l1Cur_anyHole.f s0_0 bR.2.1 bR.2.2).bind fun fu => (if 0 ≤ bK.1 then (if bK.1 < (bf.1.length : Int) then (some ((bf.1.set (bK.1 : Int).toNat (⟨fu.1, fu.2.1, fu.2.2.1⟩ : S55)), fu.2.2.2.1, fu.2.2.2.2)) else (none)) else (none))) else (if bR.1 = 1 then (if 0 ≤ bK.1 then (if bK.1 < (bf.1.length : Int) then (if bf.1.length < 5864062014805 then (some ((bf.1 ++ [(⟨(rd_T55 bf.1 bK.1).f0, (rd_T55 bf.1 bK.1).f1, (rd_T55 bf.1 bK.1).f2⟩ : S55)]), bR.2.1, bR.2.2)) else (none)) else (none)) else (none)) else (if bR.1 = 2 then (if 0 ≤ bK.1 then (if bK.1 < (bf.1.length : Int) then (if bf.1.length < 5864062014805 then (some ((bf.1 ++ [(⟨(rd_T55 bf.1 bK.1).f0, (rd_T55 bf.1 bK.1).f2, wrap64 (((rd_T55 bf.1 bK.1).f2) + 2)⟩ : S55)]), bR.2.1, bR.2.2)) else (none)) else (none)) else (none)) else (if bR.1 = 3 then (spec_l1Cur_anySheet.l0 k ([] : List (S55)) s0_0 bR.2.1 bR.2.2) else (some (bf.1, bR.2.1, bR.2.2)))))))) else (some (bf.1, bf.2.1, bf.2.2)))) = some (r1, r2, r3) := h
 clear h
 obtain ⟨⟨aM, fN, fO⟩, A2, H⟩ := bd_ H
 (try dsimp only at H)
 by_cases c3 : (aM.length : Int) > 0
 ·rw [if_pos c3] at H
  have bA : decide (0 < (aM.length : Int)) = true := decide_eq_true c3
  have fU : decide (0 < aM.length) = true := decide_eq_true (by omega)
  clear c3
  obtain ⟨⟨aH, ga, gc⟩, A4, H⟩ := bd_ H
  (try dsimp only at H)
  obtain ⟨⟨dy, ic, ig⟩, A5, H⟩ := bd_ H
  (try dsimp only at H)
  by_cases c6 : dy = 0
  ·rw [if_pos c6] at H
   have ck : (dy == 0) = true := beq_iff_eq.mpr c6
   have gN : (dy != 0) = false := bne_eq_false_iff_eq.mpr c6
   clear c6
   obtain ⟨⟨rh, ri, rj, B9, Ca⟩, A7, H⟩ := bd_ H
   (try dsimp only at H)
   by_cases c8 : 0 ≤ aH
   case neg => rw [if_neg c8] at H; exact absurd H (by simp)
   rw [if_pos c8] at H
   have ep : decide (0 ≤ aH) = true := decide_eq_true c8
   clear c8
   by_cases c9 : aH < (aM.length : Int)
   case neg => rw [if_neg c9] at H; exact absurd H (by simp)
   rw [if_pos c9] at H
   have gM : decide (aH < (aM.length : Int)) = true := decide_eq_true c9
   clear c9
   obtain ⟨Cb, n7⟩ : ∃ y_ : List (S55), y_ = (aM.set (aH : Int).toNat (⟨rh, ri, rj⟩ : S55)) := ⟨_, rfl⟩
   replace H : (some (Cb, B9, Ca)) = some (r1, r2, r3) := by first | (rw [n7]; with_reducible exact H) | (have H2_ := (Option.bind_some _ _).symm.trans H; rw [n7]; with_reducible exact H2_) | (have H2_ := (Option.bind_some _ _).symm.trans H; with_reducible exact H2_) | with_reducible exact H | (rw [n7]; exact H) | exact H
   have Ny293 := Aside0.mk n7
   clear n7
   simp only [Option.some.injEq, Prod.mk.injEq] at H
   obtain ⟨rfl, rfl, rfl⟩ := H
   go_enter Tryz.func26, Tryz.ntmps26
   go_wp2_with (first | ((with_reducible refine gate_callee (f := 51) rfl ?_); refine gl_ 6 Tryz.func51 #[.pointer (some ⟨g, 0, none⟩)] ?_; (with_reducible refine (spec_l1Cur_sheet.calls k g s0_0 s0_1 s0_2 aM fN fO w0 _ ?_ ?_ A2.out).mono ?_); exact (Z4 HI0); exact Z6; rintro e g3 ⟨tK, rfl, ho0, hi, hb, hk⟩; refine ⟨_, rfl, ?_⟩; refine k4_ (Kd.R_lower ho0 (keep_size (w := w) (g := g) (row := none) (Z5))) (KeepBut.trans (Z5) hk (.inl rfl)) (hb) (hi) ?_; clear HK HB HI0; intro aC HK HB HI0; (try clear hb hk hi ho0); obtain ⟨Ao12, Cc, eo12⟩ := Kd.R_slice aC.out; subst eo12) | ((with_reducible refine gate_callee (f := 52) rfl ?_); refine gl_ 13 Tryz.func52 #[.pointer (some ⟨g, 0, none⟩), .int .i64 (aM.length : Int)] ?_; (with_reducible refine (spec_l1Cur_pick.calls g s0_0 fN fO (aM.length : Int) aH ga gc w0 _ ?_ ?_ A4.out).mono ?_); exact (Z4 HI0); exact Z6; rintro e pQ ⟨rfl, hi, hb, hk⟩; refine ⟨_, rfl, ?_⟩; refine k4_ (Kd.R_mono (Kd.R_keep (IsS49.apart (show IsS49 w0 _ g s0_0 fN fO from Z4 HI0) (Z3 aC) (by decide)) hk (fun _ h => h.2)) (fun _ h => h.1)) (KeepBut.trans (Z5) hk (.inl rfl)) (hb) (hi) ?_; clear aC HK HB HI0; intro aC HK HB HI0; (try clear hb hk hi)) | ((with_reducible refine gate_callee (f := 52) rfl ?_); refine gl_ 15 Tryz.func52 #[.pointer (some ⟨g, 0, none⟩), .int .i64 30] ?_; (with_reducible refine (spec_l1Cur_pick.calls g s0_0 ga gc 30 dy ic ig w0 _ ?_ ?_ A5.out).mono ?_); exact (Z4 HI0); exact Z6; rintro e ze ⟨rfl, hi, hb, hk⟩; refine ⟨_, rfl, ?_⟩; refine k4_ (Kd.R_mono (Kd.R_keep (IsS49.apart (show IsS49 w0 _ g s0_0 ga gc from Z4 HI0) (Z3 aC) (by decide)) hk (fun _ h => h.2)) (fun _ h => h.1)) (KeepBut.trans (Z5) hk (.inl rfl)) (hb) (hi) ?_; clear aC HK HB HI0; intro aC HK HB HI0; (try clear hb hk hi)) | ((with_reducible refine gate_callee (f := 53) rfl ?_); refine gl_ 21 Tryz.func53 #[.pointer (some ⟨g, 0, none⟩)] ?_; (with_reducible refine (spec_l1Cur_anyHole.calls g s0_0 ic ig rh ri rj B9 Ca w0 _ ?_ ?_ A7.out).mono ?_); exact (Z4 HI0); exact Z6; rintro e il ⟨rfl, hi, hb, hk⟩; refine ⟨_, rfl, ?_⟩; refine k4_ (Kd.R_mono (Kd.R_keep (IsS49.apart (show IsS49 w0 _ g s0_0 ic ig from Z4 HI0) (Z3 aC) (by decide)) hk (fun _ h => h.2)) (fun _ h => h.1)) (KeepBut.trans (Z5) hk (.inl rfl)) (hb) (hi) ?_; clear aC HK HB HI0; intro aC HK HB HI0; (try clear hb hk hi); have Cr : 0 ≤ (aH : Int) := of_decide_eq_true (Z8); have Cs : (aH : Int) < ((aM.length : Int) : Int) := of_decide_eq_true (Z8); obtain ⟨go10, hY, jT, Cd, gl10, cl10, HG10⟩ := Kd.R_form aC.out (by omega); (first | cases jT | (injection jT with ea_ en_ ec_; (first | subst ea_ | (injection ea_ with ea_; subst ea_)); subst ec_; clear en_)); have GB10 := Aside0.mk Cd; have GG10 := Aside0.mk HG10; clear Cd gl10 HG10; obtain ⟨ce10, hcl10, hM10, hcc10, hfr10⟩ := Kd.R_elem aC.out z55 (aH : Int) Cr Cs; obtain rfl := k55_openM hM10; have hx10_0 : il.cell? ⟨go10, (aH : Int).toNat * 3, none⟩ = some (.int .i64 ((rd_T55 aM aH).f0)) := hcc10 0 _ rfl; have hx10_1 : il.cell? ⟨go10, (aH : Int).toNat * 3 + 1, none⟩ = some (.int .i64 ((rd_T55 aM aH).f1)) := hcc10 1 _ rfl; have hx10_2 : il.cell? ⟨go10, (aH : Int).toNat * 3 + 2, none⟩ = some (.int .i64 ((rd_T55 aM aH).f2)) := hcc10 2 _ rfl; have hf10_0 : il.frozen? ⟨go10, (aH : Int).toNat * 3, none⟩ = false := hfr10 0; have hf10_1 : il.frozen? ⟨go10, (aH : Int).toNat * 3 + 1, none⟩ = false := hfr10 1; have hf10_2 : il.frozen? ⟨go10, (aH : Int).toNat * 3 + 2, none⟩ = false := hfr10 2; clear hcl10 hcc10 hfr10 hM10; replace Cr := eq_true Cr; replace Cs := eq_true Cs; have HX16 := Aside0.mk (show Kd.R k55 55 il w.heap.size (fun _ => True) (.slice (some ⟨go10, 0, none⟩) aM.length Cc) aM from (Z3 aC)); obtain ⟨ce16, hcl16, hM16, hcc16, hfr16⟩ := Kd.R_elem HX16.out z55 (aH : Int) (of_decide_eq_true (Z8)) (Z109); obtain rfl := k55_openM hM16; have HP16 := Kd.R_seg HX16.out (aH : Int) (of_decide_eq_true (Z8)) (Z109) (seg := [.int .i64 rh, .int .i64 ri, .int .i64 rj]) (j := 0) hcl16 hcc16 (show 3 ≤ 3 from by decide) (x' := (⟨rh, ri, rj⟩ : S55)) (k55_mkM _ _ _ (⟨rh, ri, rj⟩ : S55) ) (fun _ hk => hk); have tL := hcc16 0 _ rfl; (try simp only [show (k55).sz = 3 from rfl, Nat.mul_one, Nat.add_zero] at tL); have hf16_0 := hfr16 0; (try simp only [show (k55).sz = 3 from rfl, Nat.mul_one, Nat.add_zero] at hf16_0); have tM := hcc16 1 _ rfl; (try simp only [show (k55).sz = 3 from rfl, Nat.mul_one, Nat.add_zero] at tM); have hf16_1 := hfr16 1; (try simp only [show (k55).sz = 3 from rfl, Nat.mul_one, Nat.add_zero] at hf16_1); have tN := hcc16 2 _ rfl; (try simp only [show (k55).sz = 3 from rfl, Nat.mul_one, Nat.add_zero] at tN); have hf16_2 := hfr16 2; (try simp only [show (k55).sz = 3 from rfl, Nat.mul_one, Nat.add_zero] at hf16_2); clear hcl16 hcc16 hfr16 hM16) | ((with_reducible refine gate_store (t := 55) (p := 22) rfl ?_); refine store_event (t := 55) (p := 22) (v := ?vo_w17) (w1 := (((il.setCell ⟨go10, (aH : Int).toNat * 3, none⟩ (.int .i64 rh)).setCell ⟨go10, (aH : Int).toNat * 3 + 1, none⟩ (.int .i64 ri)).setCell ⟨go10, (aH : Int).toNat * 3 + 2, none⟩ (.int .i64 rj))) ?hg ?ho ?hn ?hr ?_; (case ho => rfl); (case hg => rfl); (case hn => rfl); (case hr => exact Z41); intro uY hw; have hg : il.grownBy uY (some go10) := (by rw [hw]; exact HP16.2); have hp_ : Kd.R k55 55 uY w.heap.size (fun _ => True) (.slice (some ⟨go10, 0, none⟩) aM.length Cc) Cb := (by rw [hw, Ny293.out]; exact HP16.1); clear HP16; refine k4_ (IsS49.grown (Z4 HI0) hg (IsS49.own_ne HI0.out aC.out (by decide))) (hp_) ((by rw [hw]; exact below_set (below_set (below_set (HB.out) (Nat.le_trans HL.out GB10.out)) (Nat.le_trans HL.out GB10.out)) (Nat.le_trans HL.out GB10.out) : Below w0.heap.size w0 uY)) (KeepBut.trans (Z5) (KeepBut.of_grown hg g) (Kd.R_base2 aC.out)) ?_; clear HI0 aC HB HK; intro HI0 aC HB HK; clear hg hw hp_))
   go_ret
   exact ⟨_, Z9, Z3 aC, Z4 HI0, Z6, Z5⟩
  rw [if_neg c6] at H
  have ck : (dy == 0) = false := beq_eq_false_iff_ne.mpr c6
  have gN : (dy != 0) = true := bne_iff_ne.mpr c6
  by_cases c18 : dy = 1
  ·rw [if_pos c18] at H
   have iL : (dy == 1) = true := beq_iff_eq.mpr c18
   have rT : (dy != 1) = false := bne_eq_false_iff_eq.mpr c18
   clear c18
   by_cases c19 : 0 ≤ aH
   case neg => rw [if_neg c19] at H; exact absurd H (by simp)
   rw [if_pos c19] at H
   have iN : decide (0 ≤ aH) = true := decide_eq_true c19
   clear c19
   by_cases c20 : aH < (aM.length : Int)
   case neg => rw [if_neg c20] at H; exact absurd H (by simp)
   rw [if_pos c20] at H
   have g4 : decide (aH < (aM.length : Int)) = true := decide_eq_true c20
   clear c20
   by_cases c21 : aM.length < 5864062014805
   case neg => rw [if_neg c21] at H; exact absurd H (by simp)
   rw [if_pos c21] at H
   have LMc21 := Aside0.mk c21
   clear c21
   obtain ⟨y295, n8⟩ : ∃ y_ : List (S55), y_ = (aM ++ [(⟨(rd_T55 aM aH).f0, (rd_T55 aM aH).f1, (rd_T55 aM aH).f2⟩ : S55)]) := ⟨_, rfl⟩
   replace H : (some (y295, ic, ig)) = some (r1, r2, r3) := by first | (rw [n8]; with_reducible exact H) | (have H2_ := (Option.bind_some _ _).symm.trans H; rw [n8]; with_reducible exact H2_) | (have H2_ := (Option.bind_some _ _).symm.trans H; with_reducible exact H2_) | with_reducible exact H | (rw [n8]; exact H) | exact H
   have Ny295 := Aside0.mk n8
   clear n8
   simp only [Option.some.injEq, Prod.mk.injEq] at H
   obtain ⟨rfl, rfl, rfl⟩ := H
   go_enter Tryz.func26, Tryz.ntmps26
   go_wp2_with (first | ((with_reducible refine gate_callee (f := 51) rfl ?_); refine gl_ 6 Tryz.func51 #[.pointer (some ⟨g, 0, none⟩)] ?_; (with_reducible refine (spec_l1Cur_sheet.calls k g s0_0 s0_1 s0_2 aM fN fO w0 _ ?_ ?_ A2.out).mono ?_); exact (Z4 HI0); exact Z6; rintro e xX ⟨tK, rfl, ho0, hi, hb, hk⟩; refine ⟨_, rfl, ?_⟩; refine k4_ (Kd.R_lower ho0 (keep_size (w := w) (g := g) (row := none) (Z5))) (KeepBut.trans (Z5) hk (.inl rfl)) (hb) (hi) ?_; clear HK HB HI0; intro aC HK HB HI0; (try clear hb hk hi ho0); obtain ⟨Ce, zA, zB⟩ := Kd.R_slice aC.out; subst zB) | ((with_reducible refine gate_callee (f := 52) rfl ?_); refine gl_ 13 Tryz.func52 #[.pointer (some ⟨g, 0, none⟩), .int .i64 (aM.length : Int)] ?_; (with_reducible refine (spec_l1Cur_pick.calls g s0_0 fN fO (aM.length : Int) aH ga gc w0 _ ?_ ?_ A4.out).mono ?_); exact (Z4 HI0); exact Z6; rintro e mn ⟨rfl, hi, hb, hk⟩; refine ⟨_, rfl, ?_⟩; refine k4_ (Kd.R_mono (Kd.R_keep (IsS49.apart (show IsS49 w0 _ g s0_0 fN fO from Z4 HI0) (Z3 aC) (by decide)) hk (fun _ h => h.2)) (fun _ h => h.1)) (KeepBut.trans (Z5) hk (.inl rfl)) (hb) (hi) ?_; clear aC HK HB HI0; intro aC HK HB HI0; (try clear hb hk hi)) | ((with_reducible refine gate_callee (f := 52) rfl ?_); refine gl_ 15 Tryz.func52 #[.pointer (some ⟨g, 0, none⟩), .int .i64 30] ?_; (with_reducible refine (spec_l1Cur_pick.calls g s0_0 ga gc 30 dy ic ig w0 _ ?_ ?_ A5.out).mono ?_); exact (Z4 HI0); exact Z6; rintro e Cp ⟨rfl, hi, hb, hk⟩; refine ⟨_, rfl, ?_⟩; refine k4_ (Kd.R_mono (Kd.R_keep (IsS49.apart (show IsS49 w0 _ g s0_0 ga gc from Z4 HI0) (Z3 aC) (by decide)) hk (fun _ h => h.2)) (fun _ h => h.1)) (KeepBut.trans (Z5) hk (.inl rfl)) (hb) (hi) ?_; clear aC HK HB HI0; intro aC HK HB HI0; (try clear hb hk hi); have vr : 0 ≤ (aH : Int) := of_decide_eq_true (Z8); have vt : aH < (aM.length : Int) := of_decide_eq_true (Z8); obtain ⟨ad294, e294, hx294_0, hx294_1, hx294_2⟩ := at_T55 (Kd.R_reads' aC.out).2.2 aH vr vt; cases e294; replace vr := eq_true vr; replace vt := eq_true vt) | ((with_reducible refine gate_builtin (b := .append) (xs := #[.tmp 25, .tmp 30]) rfl ?_); at_builtin; refine Kd.R_append k55 w.heap.size rfl (.tmp 25) (.tmp 30) 24 55 (.agg #[(.int .i64 0), (.int .i64 0), (.int .i64 0)]) 24 rfl Tryz.underlying24 info55 rfl (by decide) (by omega) (.slice (some ad294) aM.length zA) aM (⟨(rd_T55 aM aH).f0, (rd_T55 aM aH).f1, (rd_T55 aM aH).f2⟩ : S55) [.int .i64 ((rd_T55 aM aH).f0), .int .i64 ((rd_T55 aM aH).f1), .int .i64 ((rd_T55 aM aH).f2)] (fun _ => True) (fun _ => False) rfl rfl ?aP (fun _ hk => hk.elim) ?aF ?aO (Below.refl _ _) ?aS ?aL ?_; (case aP => exact k55_mkM _ _ _ (⟨(rd_T55 aM aH).f0, (rd_T55 aM aH).f1, (rd_T55 aM aH).f2⟩ : S55)); (case aF => exact (fun _ _ => trivial)); (case aO => exact (Z3 aC)); (case aS => exact (keep_size (w := w) (g := g) (row := none) (Z5))); (case aL => exact Z83 LMc21); intro v296 zP ho hb hg hat; rw [← Ny295.out] at ho; refine k4_ (IsS49.grown (Z4 HI0) hg (IsS49.own_ne HI0.out aC.out (by decide))) (below_weaken (Z6) HL.out hb) (KeepBut.trans (Z5) (KeepBut.of_grown hg g) (Kd.R_base2 aC.out)) (ho) ?_; clear HI0 HB HK aC; intro HI0 HB HK HO297; clear ho hb hg hat))
   go_ret
   exact ⟨_, Z9, Z3 HO297, Z4 HI0, Z6, Z5⟩
  rw [if_neg c18] at H
  have iL : (dy == 1) = false := beq_eq_false_iff_ne.mpr c18
  have rT : (dy != 1) = true := bne_iff_ne.mpr c18
  by_cases c27 : dy = 2
  ·rw [if_pos c27] at H
   have lm : (dy == 2) = true := beq_iff_eq.mpr c27
   have ln : (dy != 2) = false := bne_eq_false_iff_eq.mpr c27
   clear c27
   by_cases c28 : 0 ≤ aH
   case neg => rw [if_neg c28] at H; exact absurd H (by simp)
   rw [if_pos c28] at H
   have la : decide (0 ≤ aH) = true := decide_eq_true c28
   clear c28
   by_cases c29 : aH < (aM.length : Int)
   case neg => rw [if_neg c29] at H; exact absurd H (by simp)
   rw [if_pos c29] at H
   have mu : decide (aH < (aM.length : Int)) = true := decide_eq_true c29
   clear c29
   by_cases c30 : aM.length < 5864062014805
   case neg => rw [if_neg c30] at H; exact absurd H (by simp)
   rw [if_pos c30] at H
   have tO := Aside0.mk c30
   clear c30
   obtain ⟨y301, n9⟩ : ∃ y_ : List (S55), y_ = (aM ++ [(⟨(rd_T55 aM aH).f0, (rd_T55 aM aH).f2, wrap64 (((rd_T55 aM aH).f2) + 2)⟩ : S55)]) := ⟨_, rfl⟩
   replace H : (some (y301, ic, ig)) = some (r1, r2, r3) := by first | (rw [n9]; with_reducible exact H) | (have H2_ := (Option.bind_some _ _).symm.trans H; rw [n9]; with_reducible exact H2_) | (have H2_ := (Option.bind_some _ _).symm.trans H; with_reducible exact H2_) | with_reducible exact H | (rw [n9]; exact H) | exact H
   have Ny301 := Aside0.mk n9
   clear n9
   simp only [Option.some.injEq, Prod.mk.injEq] at H
   obtain ⟨rfl, rfl, rfl⟩ := H
   go_enter Tryz.func26, Tryz.ntmps26
   try go_wp2_with (first | ((with_reducible refine gate_callee (f := 51) rfl ?_); refine gl_ 6 Tryz.func51 #[.pointer (some ⟨g, 0, none⟩)] ?_; (with_reducible refine (spec_l1Cur_sheet.calls k g s0_0 s0_1 s0_2 aM fN fO w0 _ ?_ ?_ A2.out).mono ?_); exact (Z4 HI0); exact Z6; rintro e w31 ⟨tK, rfl, ho0, hi, hb, hk⟩; refine ⟨_, rfl, ?_⟩; refine k4_ (Kd.R_lower ho0 (keep_size (w := w) (g := g) (row := none) (Z5))) (KeepBut.trans (Z5) hk (.inl rfl)) (hb) (hi) ?_; clear HK HB HI0; intro aC HK HB HI0; (try clear hb hk hi ho0); obtain ⟨uG, su, sv⟩ := Kd.R_slice aC.out; subst sv) | ((with_reducible refine gate_callee (f := 52) rfl ?_); refine gl_ 13 Tryz.func52 #[.pointer (some ⟨g, 0, none⟩), .int .i64 (aM.length : Int)] ?_; (with_reducible refine (spec_l1Cur_pick.calls g s0_0 fN fO (aM.length : Int) aH ga gc w0 _ ?_ ?_ A4.out).mono ?_); exact (Z4 HI0); exact Z6; rintro e qH ⟨rfl, hi, hb, hk⟩; refine ⟨_, rfl, ?_⟩; refine k4_ (Kd.R_mono (Kd.R_keep (IsS49.apart (show IsS49 w0 _ g s0_0 fN fO from Z4 HI0) (Z3 aC) (by decide)) hk (fun _ h => h.2)) (fun _ h => h.1)) (KeepBut.trans (Z5) hk (.inl rfl)) (hb) (hi) ?_; clear aC HK HB HI0; intro aC HK HB HI0; (try clear hb hk hi)) | ((with_reducible refine gate_callee (f := 52) rfl ?_); refine gl_ 15 Tryz.func52 #[.pointer (some ⟨g, 0, none⟩), .int .i64 30] ?_; (with_reducible refine (spec_l1Cur_pick.calls g s0_0 ga gc 30 dy ic ig w0 _ ?_ ?_ A5.out).mono ?_); exact (Z4 HI0); exact Z6; rintro e ub ⟨rfl, hi, hb, hk⟩; refine ⟨_, rfl, ?_⟩; refine k4_ (Kd.R_mono (Kd.R_keep (IsS49.apart (show IsS49 w0 _ g s0_0 ga gc from Z4 HI0) (Z3 aC) (by decide)) hk (fun _ h => h.2)) (fun _ h => h.1)) (KeepBut.trans (Z5) hk (.inl rfl)) (hb) (hi) ?_; clear aC HK HB HI0; intro aC HK HB HI0; (try clear hb hk hi)))
   refine k4_ (Kd.R_drew aC.out) (IsS49.drew HI0.out) (keep_drew HK.out) (below_drew1 HB.out) ?_
   clear aC HI0 HK HB
   intro aC HI0 HK HB
   have vu : 0 ≤ (aH : Int) := of_decide_eq_true (Z8)
   have vv : aH < (aM.length : Int) := of_decide_eq_true (Z8)
   obtain ⟨de, e298, lR, lS, lT⟩ := at_T55 (Kd.R_reads' aC.out).2.2 aH vu vv
   cases e298
   replace vu := eq_true vu
   replace vv := eq_true vv
   have vw : 0 ≤ (aH : Int) := of_decide_eq_true (Z8)
   have vx : aH < (aM.length : Int) := of_decide_eq_true (Z8)
   obtain ⟨ad299, e299, lU, lV, lW⟩ := at_T55 (Kd.R_reads' aC.out).2.2 aH vw vx
   obtain rfl : de = ad299 := (by injection e299)
   replace vw := eq_true vw
   replace vx := eq_true vx
   have vy : 0 ≤ (aH : Int) := of_decide_eq_true (Z8)
   have vz : aH < (aM.length : Int) := of_decide_eq_true (Z8)
   obtain ⟨ad300, e300, lX, lY, lZ⟩ := at_T55 (Kd.R_reads' aC.out).2.2 aH vy vz
   obtain rfl : de = ad300 := (by injection e300)
   replace vy := eq_true vy
   replace vz := eq_true vz
   refine start_ (n := 21) (S := fun w' => w'.cell? (de.add ((aH).toNat * 3)) = some (.int .i64 ((rd_T55 aM aH).f0)) ∧ w'.cell? ⟨(de.add ((aH).toNat * 3)).block, (de.add ((aH).toNat * 3)).off + 1, none⟩ = some (.int .i64 ((rd_T55 aM aH).f1)) ∧ w'.cell? ⟨(de.add ((aH).toNat * 3)).block, (de.add ((aH).toNat * 3)).off + 2, none⟩ = some (.int .i64 ((rd_T55 aM aH).f2)) ∧ w'.cell? (de.add ((aH).toNat * 3)) = some (.int .i64 ((rd_T55 aM aH).f0)) ∧ w'.cell? ⟨(de.add ((aH).toNat * 3)).block, (de.add ((aH).toNat * 3)).off + 1, none⟩ = some (.int .i64 ((rd_T55 aM aH).f1)) ∧ w'.cell? ⟨(de.add ((aH).toNat * 3)).block, (de.add ((aH).toNat * 3)).off + 2, none⟩ = some (.int .i64 ((rd_T55 aM aH).f2)) ∧ w'.cell? (de.add ((aH).toNat * 3)) = some (.int .i64 ((rd_T55 aM aH).f0)) ∧ w'.cell? ⟨(de.add ((aH).toNat * 3)).block, (de.add ((aH).toNat * 3)).off + 1, none⟩ = some (.int .i64 ((rd_T55 aM aH).f1)) ∧ w'.cell? ⟨(de.add ((aH).toNat * 3)).block, (de.add ((aH).toNat * 3)).off + 2, none⟩ = some (.int .i64 ((rd_T55 aM aH).f2))) (ds := [18, 19]) (M_ 0 21) (by kernel_rfl) rfl rfl ⟨lR, lS, lT, lU, lV, lW, lX, lY, lZ⟩ (fun hHeld => ?_); refine with_tabW spec_l1Cur_anySheet.tab10 spec_l1Cur_anySheet.bits10 (fun HT_ HW_ => ?_)
   generalize ub.drew = Cf at aC HI0 HK HB lR lS lT lU lV lW lX lY lZ hHeld ⊢
   refine pu_ 0 34 (M_ 1 20) ?_
   refine pu_ 1 35 (M_ 2 19) ?_
   refine pu_ 2 36 (M_ 3 18) ?_
   refine pu_ 3 37 (M_ 4 17) ?_
   refine pu_ 4 38 (M_ 5 16) ?_
   refine pu_ 6 40 (N_ 21 95) ?_
   refine pu_ 7 41 (N_ 21 223) ?_
   refine pu_ 8 42 (N_ 21 479) ?_
   refine pu_ 9 43 (N_ 21 991) ?_
   refine pu_ 11 45 (N_ 21 3039) ?_
   refine pu_ 12 46 (N_ 21 7135) ?_
   refine pu_ 13 47 (N_ 21 15327) ?_
   refine pu_ 14 48 (N_ 21 31711) ?_
   refine tk9_ 5 39 (N_ 21 31743) hHeld ?_
   refine tk9_ 10 44 (M_ 15 6) hHeld ?_
   refine tk9_ 15 49 (M_ 16 5) hHeld ?_
   refine pu_ 16 50 (M_ 17 4) ?_
   refine pu_ 17 51 (M_ 18 3) ?_
   refine last_ (i := 18) (N := some 52) (M_ 19 2) rfl rfl (one_of HT_.out (by kernel_rfl)) (by decide) (fun K hK => ?_)
   refine value_ (w1 := ?_) (v := ?_) (by rfl) rfl ?_ ?_
   rotate_left 2
   ·go_simp
    constructor
    ·rfl
    rfl
   refine hK.out _ _ ?_
   clear hK K
   refine norm_ (a' := ?_) ?_ ?_
   rotate_left
   ·show Act.put _ (some 52) _ = _
    simp only [Act.put, List.setIfInBounds_toArray, List.set_cons_zero, List.set_cons_succ, i64_w, i32_w]
    rfl
   refine last_ (i := 19) (N := some 53) (M_ 20 1) rfl rfl (one_of HT_.out (by kernel_rfl)) (by decide) (fun K hK => ?_)
   refine Kd.R_append_step k55 w.heap.size (by rfl) (.tmp 34) (.tmp 52) 24 55 (.agg #[(.int .i64 0), (.int .i64 0), (.int .i64 0)]) 24 rfl Tryz.underlying24 info55 rfl (by decide) (by omega) (.slice (some de) aM.length su) aM (⟨(rd_T55 aM aH).f0, (rd_T55 aM aH).f2, wrap64 (((rd_T55 aM aH).f2) + 2)⟩ : S55) [.int .i64 ((rd_T55 aM aH).f0), .int .i64 ((rd_T55 aM aH).f2), .int .i64 (wrap64 (((rd_T55 aM aH).f2) + 2))] (fun _ => True) (fun _ => False) rfl rfl ?aP (fun _ hk => hk.elim) ?aF ?aO (Below.refl _ _) ?aS ?aL ?_
   (case aP => exact k55_mkM _ _ _ (⟨(rd_T55 aM aH).f0, (rd_T55 aM aH).f2, wrap64 (((rd_T55 aM aH).f2) + 2)⟩ : S55))
   (case aF => exact (fun _ _ => trivial))
   (case aO => exact (Z3 aC))
   (case aS => exact (keep_size (w := w) (g := g) (row := none) (Z5)))
   (case aL => exact Z83 tO)
   intro v302 qA ho hb hg hat
   rw [← Ny301.out] at ho
   refine k4_ (IsS49.grown (Z4 HI0) hg (IsS49.own_ne HI0.out aC.out (by decide))) (below_weaken (Z6) HL.out hb) (KeepBut.trans (Z5) (KeepBut.of_grown hg g) (Kd.R_base2 aC.out)) (ho) ?_
   clear HI0 HB HK aC
   intro HI0 HB HK HO303
   clear ho hb hg hat
   refine hK.out _ _ ?_
   clear hK K
   refine norm_ (a' := ?_) ?_ ?_
   rotate_left
   ·show Act.put _ (some 53) _ = _
    simp only [Act.put, List.setIfInBounds_toArray, List.set_cons_zero, List.set_cons_succ, i64_w, i32_w]
    rfl
   refine pu_ 20 3 (M_ 21 0) ?_
   refine done_ (done_of HT_.out (by kernel_rfl)) ?_
   try go_wp2
   go_ret
   exact ⟨_, Z9, Z3 HO303, Z4 HI0, Z6, Z5⟩
  rw [if_neg c27] at H
  have lm : (dy == 2) = false := beq_eq_false_iff_ne.mpr c27
  have ln : (dy != 2) = true := bne_iff_ne.mpr c27
  by_cases c37 : dy = 3
  ·rw [if_pos c37] at H
   have nK : (dy == 3) = true := beq_iff_eq.mpr c37
   have nL : (dy != 3) = false := bne_eq_false_iff_eq.mpr c37
   clear c37
   have H' := Aside0.mk H
   clear H
   go_enter Tryz.func26, Tryz.ntmps26
   go_wp2_with (first | ((with_reducible refine gate_callee (f := 51) rfl ?_); refine gl_ 6 Tryz.func51 #[.pointer (some ⟨g, 0, none⟩)] ?_; (with_reducible refine (spec_l1Cur_sheet.calls k g s0_0 s0_1 s0_2 aM fN fO w0 _ ?_ ?_ A2.out).mono ?_); exact (Z4 HI0); exact Z6; rintro e ru ⟨tK, rfl, ho0, hi, hb, hk⟩; refine ⟨_, rfl, ?_⟩; refine k4_ (Kd.R_lower ho0 (keep_size (w := w) (g := g) (row := none) (Z5))) (KeepBut.trans (Z5) hk (.inl rfl)) (hb) (hi) ?_; clear HK HB HI0; intro aC HK HB HI0; (try clear hb hk hi ho0); obtain ⟨Ao39, co39, eo39⟩ := Kd.R_slice aC.out; subst eo39) | ((with_reducible refine gate_callee (f := 52) rfl ?_); refine gl_ 13 Tryz.func52 #[.pointer (some ⟨g, 0, none⟩), .int .i64 (aM.length : Int)] ?_; (with_reducible refine (spec_l1Cur_pick.calls g s0_0 fN fO (aM.length : Int) aH ga gc w0 _ ?_ ?_ A4.out).mono ?_); exact (Z4 HI0); exact Z6; rintro e Ao ⟨rfl, hi, hb, hk⟩; refine ⟨_, rfl, ?_⟩; refine k4_ (Kd.R_mono (Kd.R_keep (IsS49.apart (show IsS49 w0 _ g s0_0 fN fO from Z4 HI0) (Z3 aC) (by decide)) hk (fun _ h => h.2)) (fun _ h => h.1)) (KeepBut.trans (Z5) hk (.inl rfl)) (hb) (hi) ?_; clear aC HK HB HI0; intro aC HK HB HI0; (try clear hb hk hi)) | ((with_reducible refine gate_callee (f := 52) rfl ?_); refine gl_ 15 Tryz.func52 #[.pointer (some ⟨g, 0, none⟩), .int .i64 30] ?_; (with_reducible refine (spec_l1Cur_pick.calls g s0_0 ga gc 30 dy ic ig w0 _ ?_ ?_ A5.out).mono ?_); exact (Z4 HI0); exact Z6; rintro e z6 ⟨rfl, hi, hb, hk⟩; refine ⟨_, rfl, ?_⟩; refine k4_ (Kd.R_mono (Kd.R_keep (IsS49.apart (show IsS49 w0 _ g s0_0 ga gc from Z4 HI0) (Z3 aC) (by decide)) hk (fun _ h => h.2)) (fun _ h => h.1)) (KeepBut.trans (Z5) hk (.inl rfl)) (hb) (hi) ?_; clear aC HK HB HI0; intro aC HK HB HI0; (try clear hb hk hi)))
   (try simp only [Act.put, List.setIfInBounds_toArray, List.set_cons_zero, List.set_cons_succ])
   go_loopg [3] k (fun kq v3 w' => ∃ (bn : List (S55)), Aside0 (spec_l1Cur_anySheet.l0 kq bn s0_0 ic ig = some (r1, r2, r3)) ∧ Aside0 (kq ≤ k) ∧ Aside0 (Kd.R k55 55 w' w.heap.size (fun _ => True) v3 bn) ∧ Aside0 (IsS49 w0 w' g s0_0 ic ig) ∧ Aside0 (KeepBut w w' g none) ∧ Aside0 (Below w0.heap.size w0 w'))
   case atStart => exact ⟨(([] : List (S55))), H', ⟨Nat.le_refl _⟩, ⟨Z15⟩, ⟨Z4 HI0⟩, ⟨Z5⟩, ⟨Z6⟩⟩
   case round =>
    clear H'
    (try clear c3); (try clear bA); (try clear fU); (try clear c6); (try clear ck); (try clear gN); (try clear c18); (try clear iL); (try clear rT); (try clear c27); (try clear lm); (try clear ln); (try clear c37); (try clear nK); (try clear nL)
    obtain ⟨bn, HA, HK1, bN, HI0, HK, HB⟩ := hrel
    cases gk with
    | zero => exact absurd HA.out (by simp [spec_l1Cur_anySheet.l0])
    | succ k1 =>
     have H := HA.out
     clear HA
     simp only [spec_l1Cur_anySheet.l0] at H
     by_cases c42 : (bn.length : Int) < 61
     ·rw [if_pos c42] at H
      have mv : decide ((bn.length : Int) < 61) = true := decide_eq_true c42
      have pP : decide (bn.length < 61) = true := decide_eq_true (by omega)
      clear c42
      by_cases c43 : bn.length < 5864062014805
      case neg => rw [if_neg c43] at H; exact absurd H (by simp)
      rw [if_pos c43] at H
      have tD := Aside0.mk c43
      clear c43
      obtain ⟨Ch, oa⟩ : ∃ y_ : List (S55), y_ = (bn ++ [(⟨1, wrap64 (3 * (bn.length : Int)), wrap64 ((wrap64 (3 * (bn.length : Int))) + 1)⟩ : S55)]) := ⟨_, rfl⟩
      replace H : (spec_l1Cur_anySheet.l0 k1 Ch s0_0 ic ig) = some (r1, r2, r3) := by first | (rw [oa]; with_reducible exact H) | (have H2_ := (Option.bind_some _ _).symm.trans H; rw [oa]; with_reducible exact H2_) | (have H2_ := (Option.bind_some _ _).symm.trans H; with_reducible exact H2_) | with_reducible exact H | (rw [oa]; exact H) | exact H
      have Ny304 := Aside0.mk oa
      clear oa
      have H' := Aside0.mk H
      clear H
      obtain ⟨Br, Bs, yX⟩ := Kd.R_slice bN.out
      subst yX
      go_wp2_with ((with_reducible refine gate_builtin (b := .append) (xs := #[.tmp 59, .tmp 68]) rfl ?_); at_builtin; refine Kd.R_append k55 w.heap.size rfl (.tmp 59) (.tmp 68) 24 55 (.agg #[(.int .i64 0), (.int .i64 0), (.int .i64 0)]) 24 rfl Tryz.underlying24 info55 rfl (by decide) (by omega) (.slice Br bn.length Bs) bn (⟨1, wrap64 (3 * (bn.length : Int)), wrap64 ((wrap64 (3 * (bn.length : Int))) + 1)⟩ : S55) [.int .i64 1, .int .i64 (wrap64 (3 * (bn.length : Int))), .int .i64 (wrap64 ((wrap64 (3 * (bn.length : Int))) + 1))] (fun _ => True) (fun _ => False) rfl rfl ?aP (fun _ hk => hk.elim) ?aF ?aO (Below.refl _ _) ?aS ?aL ?_; (case aP => exact k55_mkM _ _ _ (⟨1, wrap64 (3 * (bn.length : Int)), wrap64 ((wrap64 (3 * (bn.length : Int))) + 1)⟩ : S55)); (case aF => exact (fun _ _ => trivial)); (case aO => exact (Z3 bN)); (case aS => exact (keep_size (w := w) (g := g) (row := none) (Z5))); (case aL => exact Z83 tD); intro v305 CV ho hb hg hat; rw [← Ny304.out] at ho; refine k4_ (IsS49.grown (Z4 HI0) hg (IsS49.own_ne HI0.out bN.out (by decide))) (below_weaken (Z6) HL.out hb) (KeepBut.trans (Z5) (KeepBut.of_grown hg g) (Kd.R_base2 bN.out)) (ho) ?_; clear HI0 HB HK bN; intro HI0 HB HK HO306; clear ho hb hg hat)
      go_roundg k1
      case measure => have := HK1.out; omega
      case rel => exact ⟨(Ch), H', ⟨Z83 HK1⟩, ⟨Z3 HO306⟩, ⟨Z4 HI0⟩, ⟨Z5⟩, ⟨Z6⟩⟩
     rw [if_neg c42] at H
     have mv : decide ((bn.length : Int) < 61) = false := decide_eq_false c42
     have pP : decide (bn.length < 61) = false := decide_eq_false (by omega)
     clear c42
     simp only [Option.some.injEq, Prod.mk.injEq] at H
     obtain ⟨rfl, rfl, rfl⟩ := H
     obtain ⟨Ao46, co46, yY⟩ := Kd.R_slice bN.out
     subst yY
     go_wp2
     go_ret
     exact ⟨_, Z9, Z3 bN, Z4 HI0, Z6, Z5⟩
  rw [if_neg c37] at H
  have nK : (dy == 3) = false := beq_eq_false_iff_ne.mpr c37
  have nL : (dy != 3) = true := bne_iff_ne.mpr c37
  simp only [Option.some.injEq, Prod.mk.injEq] at H
  obtain ⟨rfl, rfl, rfl⟩ := H
  go_enter Tryz.func26, Tryz.ntmps26
  go_wp2_with (first | ((with_reducible refine gate_callee (f := 51) rfl ?_); refine gl_ 6 Tryz.func51 #[.pointer (some ⟨g, 0, none⟩)] ?_; (with_reducible refine (spec_l1Cur_sheet.calls k g s0_0 s0_1 s0_2 aM fN fO w0 _ ?_ ?_ A2.out).mono ?_); exact (Z4 HI0); exact Z6; rintro e w47 ⟨tK, rfl, ho0, hi, hb, hk⟩; refine ⟨_, rfl, ?_⟩; refine k4_ (Kd.R_lower ho0 (keep_size (w := w) (g := g) (row := none) (Z5))) (KeepBut.trans (Z5) hk (.inl rfl)) (hb) (hi) ?_; clear HK HB HI0; intro aC HK HB HI0; (try clear hb hk hi ho0); obtain ⟨Ao48, co48, eo48⟩ := Kd.R_slice aC.out; subst eo48) | ((with_reducible refine gate_callee (f := 52) rfl ?_); refine gl_ 13 Tryz.func52 #[.pointer (some ⟨g, 0, none⟩), .int .i64 (aM.length : Int)] ?_; (with_reducible refine (spec_l1Cur_pick.calls g s0_0 fN fO (aM.length : Int) aH ga gc w0 _ ?_ ?_ A4.out).mono ?_); exact (Z4 HI0); exact Z6; rintro e zR ⟨rfl, hi, hb, hk⟩; refine ⟨_, rfl, ?_⟩; refine k4_ (Kd.R_mono (Kd.R_keep (IsS49.apart (show IsS49 w0 _ g s0_0 fN fO from Z4 HI0) (Z3 aC) (by decide)) hk (fun _ h => h.2)) (fun _ h => h.1)) (KeepBut.trans (Z5) hk (.inl rfl)) (hb) (hi) ?_; clear aC HK HB HI0; intro aC HK HB HI0; (try clear hb hk hi)) | ((with_reducible refine gate_callee (f := 52) rfl ?_); refine gl_ 15 Tryz.func52 #[.pointer (some ⟨g, 0, none⟩), .int .i64 30] ?_; (with_reducible refine (spec_l1Cur_pick.calls g s0_0 ga gc 30 dy ic ig w0 _ ?_ ?_ A5.out).mono ?_); exact (Z4 HI0); exact Z6; rintro e rV ⟨rfl, hi, hb, hk⟩; refine ⟨_, rfl, ?_⟩; refine k4_ (Kd.R_mono (Kd.R_keep (IsS49.apart (show IsS49 w0 _ g s0_0 ga gc from Z4 HI0) (Z3 aC) (by decide)) hk (fun _ h => h.2)) (fun _ h => h.1)) (KeepBut.trans (Z5) hk (.inl rfl)) (hb) (hi) ?_; clear aC HK HB HI0; intro aC HK HB HI0; (try clear hb hk hi)))
  go_ret
  exact ⟨_, Z9, Z3 aC, Z4 HI0, Z6, Z5⟩
 rw [if_neg c3] at H
 have bA : decide (0 < (aM.length : Int)) = false := decide_eq_false c3
 have fU : decide (0 < aM.length) = false := decide_eq_false (by omega)
 clear c3
 simp only [Option.some.injEq, Prod.mk.injEq] at H
 obtain ⟨rfl, rfl, rfl⟩ := H
 go_enter Tryz.func26, Tryz.ntmps26
 go_wp2_with ((with_reducible refine gate_callee (f := 51) rfl ?_); refine gl_ 6 Tryz.func51 #[.pointer (some ⟨g, 0, none⟩)] ?_; (with_reducible refine (spec_l1Cur_sheet.calls k g s0_0 s0_1 s0_2 aM fN fO w0 _ ?_ ?_ A2.out).mono ?_); exact (Z4 HI0); exact Z6; rintro e w51 ⟨tK, rfl, ho0, hi, hb, hk⟩; refine ⟨_, rfl, ?_⟩; refine k4_ (Kd.R_lower ho0 (keep_size (w := w) (g := g) (row := none) (Z5))) (KeepBut.trans (Z5) hk (.inl rfl)) (hb) (hi) ?_; clear HK HB HI0; intro aC HK HB HI0; (try clear hb hk hi ho0); obtain ⟨Ao52, co52, eo52⟩ := Kd.R_slice aC.out; subst eo52)
 go_ret
 exact ⟨_, Z9, Z3 aC, Z4 HI0, Z6, Z5⟩

/-! ### spec_DrawScanOf: function 5 -/
def spec_DrawScanOf.f (k : Nat) (l0 : List Int) : Option ((List (S55)) × Int × Int) := (spec_l1Cur_anySheet.f k l0 0 0).bind fun jE => ((spec_l1Cur_among.f l0 jE.2.1 jE.2.2 (([0, 21] : List Int))).bind fun fv => ((spec_l1Cur_among.f l0 fv.2.1 fv.2.2 (([1, 4, 6, 20, fv.1] : List Int))).bind fun dP => ((spec_l1Cur_among.f l0 dP.2.1 dP.2.2 (([0, 61] : List Int))).bind fun cR => ((spec_l1Cur_among.f l0 cR.2.1 cR.2.2 (([1, 8, 30, 60, cR.1] : List Int))).bind fun fw => (some (jE.1, dP.1, fw.1))))))
theorem spec_DrawScanOf.mono : ∀ a0 k, LeO (spec_DrawScanOf.f k a0) (spec_DrawScanOf.f (k + 1) a0) := by
 intro a0 k
 unfold spec_DrawScanOf.f
 exact mo6_
set_option maxHeartbeats 8000000 in
set_option maxRecDepth 100000 in
theorem spec_DrawScanOf.calls (k : Nat) (A0 : Option Addr) (c0 : Nat) (l0 : List Int) (r1 : List (S55)) (r2 : Int) (r3 : Int) (w : World) (hr0 : Kd.C (Kd.int .u8) w A0 l0.length l0) (hc0 : l0.length ≤ c0) (h : spec_DrawScanOf.f k l0 = some (r1, r2, r3)) :
  Calls Tryz.prog 5 #[.slice A0 l0.length c0] w fun e w' => ∃ v0_ : Value, e = .returned (.tuple #[v0_, .int .i64 r2, .int .i64 r3]) ∧ Kd.R k55 55 w' w.heap.size (fun _ => True) v0_ r1 ∧ Below w.heap.size w w' := by
 have hu49 := Tryz.underlying49
 have HR0 := Aside0.mk hr0
 have HC0 := Aside0.mk hc0
 clear hr0 hc0
 have HB := Aside0.mk (Below.refl w.heap.size w)
 have H : ((spec_l1Cur_anySheet.f k l0 0 0).bind fun jE => ((spec_l1Cur_among.f l0 jE.2.1 jE.2.2 (([0, 21] : List Int))).bind fun fv => ((spec_l1Cur_among.f l0 fv.2.1 fv.2.2 (([1, 4, 6, 20, fv.1] : List Int))).bind fun dP => ((spec_l1Cur_among.f l0 dP.2.1 dP.2.2 (([0, 61] : List Int))).bind fun cR => ((spec_l1Cur_among.f l0 cR.2.1 cR.2.2 (([1, 8, 30, 60, cR.1] : List Int))).bind fun fw => (some (jE.1, dP.1, fw.1))))))) = some (r1, r2, r3) := h
 clear h
 obtain ⟨⟨tP, tQ, tR⟩, A2, H⟩ := bd_ H
 (try dsimp only at H)
 obtain ⟨zC, ob⟩ : ∃ y_ : List Int, y_ = (([0, 21] : List Int)) := ⟨_, rfl⟩
 replace H : ((spec_l1Cur_among.f l0 tQ tR zC).bind fun fv => ((spec_l1Cur_among.f l0 fv.2.1 fv.2.2 (([1, 4, 6, 20, fv.1] : List Int))).bind fun dP => ((spec_l1Cur_among.f l0 dP.2.1 dP.2.2 (([0, 61] : List Int))).bind fun cR => ((spec_l1Cur_among.f l0 cR.2.1 cR.2.2 (([1, 8, 30, 60, cR.1] : List Int))).bind fun fw => (some (tP, dP.1, fw.1)))))) = some (r1, r2, r3) := by first | (rw [ob]; with_reducible exact H) | (have H2_ := (Option.bind_some _ _).symm.trans H; rw [ob]; with_reducible exact H2_) | (have H2_ := (Option.bind_some _ _).symm.trans H; with_reducible exact H2_) | with_reducible exact H | (rw [ob]; exact H) | exact H
 have xF := Aside0.mk ob
 clear ob
 obtain ⟨⟨rk, rl, rm⟩, A3, H⟩ := bd_ H
 (try dsimp only at H)
 obtain ⟨zD, oc⟩ : ∃ y_ : List Int, y_ = (([1, 4, 6, 20, rk] : List Int)) := ⟨_, rfl⟩
 replace H : ((spec_l1Cur_among.f l0 rl rm zD).bind fun dP => ((spec_l1Cur_among.f l0 dP.2.1 dP.2.2 (([0, 61] : List Int))).bind fun cR => ((spec_l1Cur_among.f l0 cR.2.1 cR.2.2 (([1, 8, 30, 60, cR.1] : List Int))).bind fun fw => (some (tP, dP.1, fw.1))))) = some (r1, r2, r3) := by first | (rw [oc]; with_reducible exact H) | (have H2_ := (Option.bind_some _ _).symm.trans H; rw [oc]; with_reducible exact H2_) | (have H2_ := (Option.bind_some _ _).symm.trans H; with_reducible exact H2_) | with_reducible exact H | (rw [oc]; exact H) | exact H
 have xG := Aside0.mk oc
 clear oc
 obtain ⟨⟨zE, pp, pq⟩, A4, H⟩ := bd_ H
 (try dsimp only at H)
 obtain ⟨zF, od⟩ : ∃ y_ : List Int, y_ = (([0, 61] : List Int)) := ⟨_, rfl⟩
 replace H : ((spec_l1Cur_among.f l0 pp pq zF).bind fun cR => ((spec_l1Cur_among.f l0 cR.2.1 cR.2.2 (([1, 8, 30, 60, cR.1] : List Int))).bind fun fw => (some (tP, zE, fw.1)))) = some (r1, r2, r3) := by first | (rw [od]; with_reducible exact H) | (have H2_ := (Option.bind_some _ _).symm.trans H; rw [od]; with_reducible exact H2_) | (have H2_ := (Option.bind_some _ _).symm.trans H; with_reducible exact H2_) | with_reducible exact H | (rw [od]; exact H) | exact H
 have xH := Aside0.mk od
 clear od
 obtain ⟨⟨rn, oe, og⟩, A5, H⟩ := bd_ H
 (try dsimp only at H)
 obtain ⟨zG, oh⟩ : ∃ y_ : List Int, y_ = (([1, 8, 30, 60, rn] : List Int)) := ⟨_, rfl⟩
 replace H : ((spec_l1Cur_among.f l0 oe og zG).bind fun fw => (some (tP, zE, fw.1))) = some (r1, r2, r3) := by first | (rw [oh]; with_reducible exact H) | (have H2_ := (Option.bind_some _ _).symm.trans H; rw [oh]; with_reducible exact H2_) | (have H2_ := (Option.bind_some _ _).symm.trans H; with_reducible exact H2_) | with_reducible exact H | (rw [oh]; exact H) | exact H
 have xI := Aside0.mk oh
 clear oh
 obtain ⟨⟨t334, t335, t336⟩, A6, H⟩ := bd_ H
 (try dsimp only at H)
 simp only [Option.some.injEq, Prod.mk.injEq] at H
 obtain ⟨rfl, rfl, rfl⟩ := H
 go_enter Tryz.func5, Tryz.ntmps5
 go_wp2_with (first | ((with_reducible refine gate_dst (N := 8) rfl ?_); refine bv_ 8 49 #[.slice A0 l0.length c0, .int .i64 0, .int .u64 0] ?_; intro b5 hg w7 hbox hb; refine k4_ (below_step (Z2) hb) ((show IsS49 w w7 b5 l0 0 0 from ⟨_, _, hbox, (Z33), HR0.out⟩)) ((Z33 : w.heap.size ≤ b5)) ((Z33 : w.heap.size ≤ b5)) ?_; clear HB; intro HB HI307 GW307 GE307; clear hb hbox hg) | ((with_reducible refine gate_callee (f := 26) rfl ?_); refine gl_ 10 Tryz.func26 #[.pointer (some ⟨b5, 0, none⟩)] ?_; (with_reducible refine (spec_l1Cur_anySheet.calls k b5 l0 0 0 tP tQ tR w _ ?_ ?_ A2.out).mono ?_); exact (Z4 HI307); exact Z29; rintro e w8 ⟨v309, rfl, ho0, hi, hb, hk⟩; refine ⟨_, rfl, ?_⟩; refine k3_ (Kd.R_lower ho0 (below_size (Z29))) (hb) (hi) ?_; clear HB HI307; intro cb HB HI307; (try clear hb hk hi ho0)) | ((with_reducible refine gate_dst (N := 13) rfl ?_); refine Kd.R_lit (Kd.int .i64) _ 3 ?hg (N := 13) ?hd (xs := ([0, 21] : List Int)) (inner := [.int .i64 0, .int .i64 21]) (ok := fun _ => True) (okp := fun _ => True) ?hr ?hp (fun _ hk => hk) trivial (Below.refl _ _) (Nat.le_refl _) (by simp) ?_; (case hd => rfl); (case hg => rfl); (case hr => exact Z41); (case hp => exact (Reps.one (show Kd.M (Kd.int .i64) _ _ _ 0 [.int .i64 0] from rfl) (Reps.one (show Kd.M (Kd.int .i64) _ _ _ 21 [.int .i64 21] from rfl) (Reps.none _ _)))); intro v314 w9 ho10 hb hg_ hnew_; clear hg_ hnew_; (first | rw [← xF.out] at ho10 | (simp only [Int.reduceToNat] at ho10; rw [← xF.out] at ho10)); refine k4_ (Ya_ cb) (Kd.R_lower ho10 (below_size (Z29))) (IsS49.below (Z4 HI307) hb) (below_step (Z29) hb) ?_; clear cb HI307 HB; intro cb bY HI307 HB; clear hb ho10; obtain ⟨o4, o5, lx⟩ := Kd.R_slice bY.out; subst lx) | ((with_reducible refine gate_callee (f := 27) rfl ?_); refine gl_ 14 Tryz.func27 #[.pointer (some ⟨b5, 0, none⟩), .slice o4 zC.length o5] ?_; (with_reducible refine (spec_l1Cur_among.calls b5 l0 tQ tR _ _ zC rk rl rm w _ ?_ ?_ ?_ ?_ ?_ A3.out).mono ?_); exact (Z4 HI307); exact Z29; exact (Z1 bY); exact (Kd.R_reads' bY.out).2.1; exact far_slice (IsS49.own_ne HI307.out bY.out (by decide)); rintro e uc ⟨rfl, hi, hb, hk⟩; refine ⟨_, rfl, ?_⟩; refine k4_ (Kd.R_mono (Kd.R_keep (IsS49.apart (show IsS49 w _ b5 l0 tQ tR from Z4 HI307) (Z3 cb) (by decide)) hk (fun _ h => h.2)) (fun _ h => h.1)) (Kd.R_mono (Kd.R_keep (IsS49.apart (show IsS49 w _ b5 l0 tQ tR from Z4 HI307) (Z3 bY) (by decide)) hk (fun _ h => h.2)) (fun _ h => h.1)) (hb) (hi) ?_; clear cb bY HB HI307; intro cb bY HB HI307; (try clear hb hk hi)) | ((with_reducible refine gate_dst (N := 15) rfl ?_); refine Kd.R_lit (Kd.int .i64) _ 3 ?hg (N := 15) ?hd (xs := ([1, 4, 6, 20, rk] : List Int)) (inner := [.int .i64 1, .int .i64 4, .int .i64 6, .int .i64 20, .int .i64 rk]) (ok := fun _ => True) (okp := fun _ => True) ?hr ?hp (fun _ hk => hk) trivial (Below.refl _ _) (Nat.le_refl _) (by simp) ?_; (case hd => rfl); (case hg => rfl); (case hr => exact Z41); (case hp => exact (Reps.one (show Kd.M (Kd.int .i64) _ _ _ 1 [.int .i64 1] from rfl) (Reps.one (show Kd.M (Kd.int .i64) _ _ _ 4 [.int .i64 4] from rfl) (Reps.one (show Kd.M (Kd.int .i64) _ _ _ 6 [.int .i64 6] from rfl) (Reps.one (show Kd.M (Kd.int .i64) _ _ _ 20 [.int .i64 20] from rfl) (Reps.one (show Kd.M (Kd.int .i64) _ _ _ rk [.int .i64 rk] from rfl) (Reps.none _ _))))))); intro v320 pQ ho14 hb hg_ hnew_; clear hg_ hnew_; (first | rw [← xG.out] at ho14 | (simp only [Int.reduceToNat] at ho14; rw [← xG.out] at ho14)); refine k5_ (Ya_ cb) (Kd.R_elder' (Z3 bY) (Kd.R_base ho14) hb) (Kd.R_lower (Kd.R_new' ho14 (Yd_ bY)) (below_size (Z29))) (IsS49.below (Z4 HI307) hb) (below_step (Z29) hb) ?_; clear cb bY HI307 HB; intro cb bY cw HI307 HB; clear hb ho14; obtain ⟨qU, pj, jl⟩ := Kd.R_slice cw.out; subst jl) | ((with_reducible refine gate_callee (f := 27) rfl ?_); refine gl_ 16 Tryz.func27 #[.pointer (some ⟨b5, 0, none⟩), .slice qU zD.length pj] ?_; (with_reducible refine (spec_l1Cur_among.calls b5 l0 rl rm _ _ zD zE pp pq w _ ?_ ?_ ?_ ?_ ?_ A4.out).mono ?_); exact (Z4 HI307); exact Z29; exact (Z1 cw); exact (Kd.R_reads' cw.out).2.1; exact far_slice (IsS49.own_ne HI307.out cw.out (by decide)); rintro e mx ⟨rfl, hi, hb, hk⟩; refine ⟨_, rfl, ?_⟩; refine k5_ (Kd.R_mono (Kd.R_keep (IsS49.apart (show IsS49 w _ b5 l0 rl rm from Z4 HI307) (Z3 cb) (by decide)) hk (fun _ h => h.2)) (fun _ h => h.1)) (Kd.R_mono (Kd.R_keep (IsS49.apart (show IsS49 w _ b5 l0 rl rm from Z4 HI307) (Z3 bY) (by decide)) hk (fun _ h => h.2)) (fun _ h => h.1)) (Kd.R_mono (Kd.R_keep (IsS49.apart (show IsS49 w _ b5 l0 rl rm from Z4 HI307) (Z3 cw) (by decide)) hk (fun _ h => h.2)) (fun _ h => h.1)) (hb) (hi) ?_; clear cb bY cw HB HI307; intro cb bY cw HB HI307; (try clear hb hk hi)) | ((with_reducible refine gate_dst (N := 19) rfl ?_); refine Kd.R_lit (Kd.int .i64) _ 3 ?hg (N := 19) ?hd (xs := ([0, 61] : List Int)) (inner := [.int .i64 0, .int .i64 61]) (ok := fun _ => True) (okp := fun _ => True) ?hr ?hp (fun _ hk => hk) trivial (Below.refl _ _) (Nat.le_refl _) (by simp) ?_; (case hd => rfl); (case hg => rfl); (case hr => exact Z41); (case hp => exact (Reps.one (show Kd.M (Kd.int .i64) _ _ _ 0 [.int .i64 0] from rfl) (Reps.one (show Kd.M (Kd.int .i64) _ _ _ 61 [.int .i64 61] from rfl) (Reps.none _ _)))); intro v326 uY ho18 hb hg_ hnew_; clear hg_ hnew_; (first | rw [← xH.out] at ho18 | (simp only [Int.reduceToNat] at ho18; rw [← xH.out] at ho18)); refine k6_ (Ya_ cb) (Kd.R_elder' (Z3 bY) (Kd.R_base ho18) hb) (Kd.R_elder' (Z3 cw) (Kd.R_base ho18) hb) (Kd.R_lower (Kd.R_new' (Kd.R_new' ho18 (Yd_ bY)) (Yd_ cw)) (below_size (Z29))) (IsS49.below (Z4 HI307) hb) (below_step (Z29) hb) ?_; clear cb bY cw HI307 HB; intro cb bY cw d6 HI307 HB; clear hb ho18; obtain ⟨yz, yA, yB⟩ := Kd.R_slice d6.out; subst yB) | ((with_reducible refine gate_callee (f := 27) rfl ?_); refine gl_ 20 Tryz.func27 #[.pointer (some ⟨b5, 0, none⟩), .slice yz zF.length yA] ?_; (with_reducible refine (spec_l1Cur_among.calls b5 l0 pp pq _ _ zF rn oe og w _ ?_ ?_ ?_ ?_ ?_ A5.out).mono ?_); exact (Z4 HI307); exact Z29; exact (Z1 d6); exact (Kd.R_reads' d6.out).2.1; exact far_slice (IsS49.own_ne HI307.out d6.out (by decide)); rintro e yC ⟨rfl, hi, hb, hk⟩; refine ⟨_, rfl, ?_⟩; refine k6_ (Kd.R_mono (Kd.R_keep (IsS49.apart (show IsS49 w _ b5 l0 pp pq from Z4 HI307) (Z3 cb) (by decide)) hk (fun _ h => h.2)) (fun _ h => h.1)) (Kd.R_mono (Kd.R_keep (IsS49.apart (show IsS49 w _ b5 l0 pp pq from Z4 HI307) (Z3 bY) (by decide)) hk (fun _ h => h.2)) (fun _ h => h.1)) (Kd.R_mono (Kd.R_keep (IsS49.apart (show IsS49 w _ b5 l0 pp pq from Z4 HI307) (Z3 cw) (by decide)) hk (fun _ h => h.2)) (fun _ h => h.1)) (Kd.R_mono (Kd.R_keep (IsS49.apart (show IsS49 w _ b5 l0 pp pq from Z4 HI307) (Z3 d6) (by decide)) hk (fun _ h => h.2)) (fun _ h => h.1)) (hb) (hi) ?_; clear cb bY cw d6 HB HI307; intro cb bY cw d6 HB HI307; (try clear hb hk hi)) | ((with_reducible refine gate_dst (N := 21) rfl ?_); refine Kd.R_lit (Kd.int .i64) _ 3 ?hg (N := 21) ?hd (xs := ([1, 8, 30, 60, rn] : List Int)) (inner := [.int .i64 1, .int .i64 8, .int .i64 30, .int .i64 60, .int .i64 rn]) (ok := fun _ => True) (okp := fun _ => True) ?hr ?hp (fun _ hk => hk) trivial (Below.refl _ _) (Nat.le_refl _) (by simp) ?_; (case hd => rfl); (case hg => rfl); (case hr => exact Z41); (case hp => exact (Reps.one (show Kd.M (Kd.int .i64) _ _ _ 1 [.int .i64 1] from rfl) (Reps.one (show Kd.M (Kd.int .i64) _ _ _ 8 [.int .i64 8] from rfl) (Reps.one (show Kd.M (Kd.int .i64) _ _ _ 30 [.int .i64 30] from rfl) (Reps.one (show Kd.M (Kd.int .i64) _ _ _ 60 [.int .i64 60] from rfl) (Reps.one (show Kd.M (Kd.int .i64) _ _ _ rn [.int .i64 rn] from rfl) (Reps.none _ _))))))); intro v332 vP ho22 hb hg_ hnew_; clear hg_ hnew_; (first | rw [← xI.out] at ho22 | (simp only [Int.reduceToNat] at ho22; rw [← xI.out] at ho22)); refine k7_ (Ya_ cb) (Kd.R_elder' (Z3 bY) (Kd.R_base ho22) hb) (Kd.R_elder' (Z3 cw) (Kd.R_base ho22) hb) (Kd.R_elder' (Z3 d6) (Kd.R_base ho22) hb) (Kd.R_lower (Kd.R_new' (Kd.R_new' (Kd.R_new' ho22 (Yd_ bY)) (Yd_ cw)) (Yd_ d6)) (below_size (Z29))) (IsS49.below (Z4 HI307) hb) (below_step (Z29) hb) ?_; clear cb bY cw d6 HI307 HB; intro cb bY cw d6 jF HI307 HB; clear hb ho22; obtain ⟨Ce, zA, zB⟩ := Kd.R_slice jF.out; subst zB) | ((with_reducible refine gate_callee (f := 27) rfl ?_); refine gl_ 22 Tryz.func27 #[.pointer (some ⟨b5, 0, none⟩), .slice Ce zG.length zA] ?_; (with_reducible refine (spec_l1Cur_among.calls b5 l0 oe og _ _ zG t334 t335 t336 w _ ?_ ?_ ?_ ?_ ?_ A6.out).mono ?_); exact (Z4 HI307); exact Z29; exact (Z1 jF); exact (Kd.R_reads' jF.out).2.1; exact far_slice (IsS49.own_ne HI307.out jF.out (by decide)); rintro e mn ⟨rfl, hi, hb, hk⟩; refine ⟨_, rfl, ?_⟩; refine k7_ (Kd.R_mono (Kd.R_keep (IsS49.apart (show IsS49 w _ b5 l0 oe og from Z4 HI307) (Z3 cb) (by decide)) hk (fun _ h => h.2)) (fun _ h => h.1)) (Kd.R_mono (Kd.R_keep (IsS49.apart (show IsS49 w _ b5 l0 oe og from Z4 HI307) (Z3 bY) (by decide)) hk (fun _ h => h.2)) (fun _ h => h.1)) (Kd.R_mono (Kd.R_keep (IsS49.apart (show IsS49 w _ b5 l0 oe og from Z4 HI307) (Z3 cw) (by decide)) hk (fun _ h => h.2)) (fun _ h => h.1)) (Kd.R_mono (Kd.R_keep (IsS49.apart (show IsS49 w _ b5 l0 oe og from Z4 HI307) (Z3 d6) (by decide)) hk (fun _ h => h.2)) (fun _ h => h.1)) (Kd.R_mono (Kd.R_keep (IsS49.apart (show IsS49 w _ b5 l0 oe og from Z4 HI307) (Z3 jF) (by decide)) hk (fun _ h => h.2)) (fun _ h => h.1)) (hb) (hi) ?_; clear cb bY cw d6 jF HB HI307; intro cb bY cw d6 jF HB HI307; (try clear hb hk hi)))
 go_ret3
 exact ⟨_, Z9, Z3 cb, Z29⟩

/-! ### impl_isTrack: function 72 -/
def impl_isTrack.f (a0 : Int) : Option (Bool) := if a0 ≥ 0 then (some (decide (a0 < 20))) else (some false)
set_option maxHeartbeats 8000000 in
set_option maxRecDepth 100000 in
theorem impl_isTrack.calls (a0 : Int) (r : Bool) (w : World) (h : impl_isTrack.f a0 = some r) :
  Calls Tryz.prog 72 #[.int .i64 a0] w fun e w' => e = .returned (.bool r) ∧ Drawn0 w w' := by
 have H : (if a0 ≥ 0 then (some (decide (a0 < 20))) else (some false)) = some r := h
 clear h
 by_cases c2 : a0 ≥ 0
 ·rw [if_pos c2] at H
  have eu : decide (0 ≤ a0) = true := decide_eq_true c2
  clear c2
  obtain rfl := Option.some.inj H
  go_enter Tryz.func72, Tryz.ntmps72
  go_wp2
  go_ret
  exact ⟨Z11, Z14⟩
 rw [if_neg c2] at H
 have eu : decide (0 ≤ a0) = false := decide_eq_false c2
 clear c2
 obtain rfl := Option.some.inj H
 go_enter Tryz.func72, Tryz.ntmps72
 go_wp2
 go_ret
 exact ⟨Z11, Z14⟩

/-! ### impl_IsHole: function 54 -/
def impl_IsHole.f (a0_0 : Int) (a0_1 : Int) (a0_2 : Int) : Option (Bool) := (impl_isTrack.f a0_0).bind fun tS => (if tS = true then (if a0_1 ≥ 0 then (if a0_1 < a0_2 then (some (decide (a0_2 ≤ 2000))) else (some false)) else (some false)) else (some false))
set_option maxHeartbeats 8000000 in
set_option maxRecDepth 100000 in
theorem impl_IsHole.calls (a0_0 : Int) (a0_1 : Int) (a0_2 : Int) (r : Bool) (w : World) (h : impl_IsHole.f a0_0 a0_1 a0_2 = some r) :
  Calls Tryz.prog 54 #[.agg #[.int .i64 a0_0, .int .i64 a0_1, .int .i64 a0_2]] w fun e w' => e = .returned (.bool r) ∧ Below w.heap.size w w' := by
 have hu55 := Tryz.underlying55
 have HB := Aside0.mk (Below.refl w.heap.size w)
 have H : ((impl_isTrack.f a0_0).bind fun tS => (if tS = true then (if a0_1 ≥ 0 then (if a0_1 < a0_2 then (some (decide (a0_2 ≤ 2000))) else (some false)) else (some false)) else (some false))) = some r := h
 clear h
 obtain ⟨tS, A2, H⟩ := bd_ H
 (try dsimp only at H)
 by_cases c3 : tS = true
 ·subst c3
  rw [if_pos rfl] at H
  by_cases c4 : a0_1 ≥ 0
  ·rw [if_pos c4] at H
   have bZ : decide (0 ≤ a0_1) = true := decide_eq_true c4
   clear c4
   by_cases c5 : a0_1 < a0_2
   ·rw [if_pos c5] at H
    have ci : decide (a0_1 < a0_2) = true := decide_eq_true c5
    clear c5
    obtain rfl := Option.some.inj H
    go_enter Tryz.func54, Tryz.ntmps54
    go_wp2_with (first | ((with_reducible refine gate_dst (N := 1) rfl ?_); refine bv_ 1 55 #[.int .i64 a0_0, .int .i64 a0_1, .int .i64 a0_2] ?_; intro fx hg w6 hbox hb; refine k4_ (below_step (Z2) hb) (hbox) ((Z33 : w.heap.size ≤ fx)) ((Z33 : w.heap.size ≤ fx)) ?_; clear HB; intro HB jG tT pE; clear hb hbox hg; obtain ⟨je, jf, jg, jh, ji, jj⟩ := bx3_ (w := w6) jG.out) | ((with_reducible refine gate_callee (f := 72) rfl ?_); refine gl_ 5 Tryz.func72 #[.int .i64 a0_0] ?_; (with_reducible refine (impl_isTrack.calls a0_0 true _ A2.out).mono ?_); rintro e w' ⟨rfl, ⟨nd, rfl⟩⟩; refine ⟨_, rfl, ?_⟩))
    go_ret
    exact ⟨Z9, Z66⟩
   rw [if_neg c5] at H
   have ci : decide (a0_1 < a0_2) = false := decide_eq_false c5
   clear c5
   obtain rfl := Option.some.inj H
   go_enter Tryz.func54, Tryz.ntmps54
   go_wp2_with (first | ((with_reducible refine gate_dst (N := 1) rfl ?_); refine bv_ 1 55 #[.int .i64 a0_0, .int .i64 a0_1, .int .i64 a0_2] ?_; intro fx hg w8 hbox hb; refine k4_ (below_step (Z2) hb) (hbox) ((Z33 : w.heap.size ≤ fx)) ((Z33 : w.heap.size ≤ fx)) ?_; clear HB; intro HB jG tT pE; clear hb hbox hg; obtain ⟨hcz9_0, hcz9_1, hcz9_2, hfz9_0, hfz9_1, hfz9_2⟩ := bx3_ (w := w8) jG.out) | ((with_reducible refine gate_callee (f := 72) rfl ?_); refine gl_ 5 Tryz.func72 #[.int .i64 a0_0] ?_; (with_reducible refine (impl_isTrack.calls a0_0 true _ A2.out).mono ?_); rintro e w' ⟨rfl, ⟨nd, rfl⟩⟩; refine ⟨_, rfl, ?_⟩))
   go_ret
   exact ⟨Z9, Z66⟩
  rw [if_neg c4] at H
  have bZ : decide (0 ≤ a0_1) = false := decide_eq_false c4
  clear c4
  obtain rfl := Option.some.inj H
  go_enter Tryz.func54, Tryz.ntmps54
  go_wp2_with (first | ((with_reducible refine gate_dst (N := 1) rfl ?_); refine bv_ 1 55 #[.int .i64 a0_0, .int .i64 a0_1, .int .i64 a0_2] ?_; intro fx hg pL hbox hb; refine k4_ (below_step (Z2) hb) (hbox) ((Z33 : w.heap.size ≤ fx)) ((Z33 : w.heap.size ≤ fx)) ?_; clear HB; intro HB jG tT pE; clear hb hbox hg; obtain ⟨hcz11_0, hcz11_1, hcz11_2, hfz11_0, hfz11_1, hfz11_2⟩ := bx3_ (w := pL) jG.out) | ((with_reducible refine gate_callee (f := 72) rfl ?_); refine gl_ 5 Tryz.func72 #[.int .i64 a0_0] ?_; (with_reducible refine (impl_isTrack.calls a0_0 true _ A2.out).mono ?_); rintro e w' ⟨rfl, ⟨nd, rfl⟩⟩; refine ⟨_, rfl, ?_⟩))
  go_ret
  exact ⟨Z9, Z66⟩
 replace c3 := Bool.eq_false_iff.mpr c3
 subst c3
 rw [if_neg (show ¬ (false = true) by decide)] at H
 obtain rfl := Option.some.inj H
 go_enter Tryz.func54, Tryz.ntmps54
 go_wp2_with (first | ((with_reducible refine gate_dst (N := 1) rfl ?_); refine bv_ 1 55 #[.int .i64 a0_0, .int .i64 a0_1, .int .i64 a0_2] ?_; intro fx hg uc hbox hb; refine k4_ (below_step (Z2) hb) (hbox) ((Z33 : w.heap.size ≤ fx)) ((Z33 : w.heap.size ≤ fx)) ?_; clear HB; intro HB jG tT pE; clear hb hbox hg; obtain ⟨lH, lI, lJ, lK, lL, lM⟩ := bx3_ (w := uc) jG.out) | ((with_reducible refine gate_callee (f := 72) rfl ?_); refine gl_ 5 Tryz.func72 #[.int .i64 a0_0] ?_; (with_reducible refine (impl_isTrack.calls a0_0 false _ A2.out).mono ?_); rintro e w' ⟨rfl, ⟨nd, rfl⟩⟩; refine ⟨_, rfl, ?_⟩))
 go_ret
 exact ⟨Z9, Z66⟩

/-! ### impl_holeLess: function 55 -/
def impl_holeLess.f (a0_0 : Int) (a0_1 : Int) (a0_2 : Int) (a1_0 : Int) (a1_1 : Int) (a1_2 : Int) : Option (Bool) := if a0_1 = a1_1 then (some (decide (a0_0 < a1_0))) else (some (decide (a0_1 < a1_1)))
set_option maxHeartbeats 8000000 in
set_option maxRecDepth 100000 in
theorem impl_holeLess.calls (a0_0 : Int) (a0_1 : Int) (a0_2 : Int) (a1_0 : Int) (a1_1 : Int) (a1_2 : Int) (r : Bool) (w : World) (h : impl_holeLess.f a0_0 a0_1 a0_2 a1_0 a1_1 a1_2 = some r) :
  Calls Tryz.prog 55 #[.agg #[.int .i64 a0_0, .int .i64 a0_1, .int .i64 a0_2], .agg #[.int .i64 a1_0, .int .i64 a1_1, .int .i64 a1_2]] w fun e w' => e = .returned (.bool r) ∧ Below w.heap.size w w' := by
 have hu55 := Tryz.underlying55
 have HB := Aside0.mk (Below.refl w.heap.size w)
 have H : (if a0_1 = a1_1 then (some (decide (a0_0 < a1_0))) else (some (decide (a0_1 < a1_1)))) = some r := h
 clear h
 by_cases c3 : a0_1 = a1_1
 ·rw [if_pos c3] at H
  have bA : (a0_1 == a1_1) = true := beq_iff_eq.mpr c3
  have fU : (a0_1 != a1_1) = false := bne_eq_false_iff_eq.mpr c3
  clear c3
  obtain rfl := Option.some.inj H
  go_enter Tryz.func55, Tryz.ntmps55
  go_wp2_with (first | ((with_reducible refine gate_dst (N := 2) rfl ?_); refine bv_ 2 55 #[.int .i64 a0_0, .int .i64 a0_1, .int .i64 a0_2] ?_; intro e3 hg w4 hbox hb; refine k4_ (below_step (Z2) hb) (hbox) ((Z33 : w.heap.size ≤ e3)) ((Z33 : w.heap.size ≤ e3)) ?_; clear HB; intro HB e4 GW339 rz; clear hb hbox hg) | ((with_reducible refine gate_dst (N := 3) rfl ?_); refine bv_ 3 55 #[.int .i64 a1_0, .int .i64 a1_1, .int .i64 a1_2] ?_; intro gG hg w5 hbox hb; refine k7_ (Ye_ e4) (below_step (Z52) hb) (hbox) ((by rw [hg]; exact (below_size (Z52)) : w.heap.size ≤ gG)) ((by rw [hg]; exact (below_size (Z52)) : w.heap.size ≤ gG)) ((Z115 : e3 ≠ gG)) ((Z116 : gG ≠ e3)) ?_; clear e4 HB; intro e4 HB tU GW340 vI gZ g0; clear hb hbox hg; have hnb6 := gZ.out; have hnc6 := g0.out; obtain ⟨je, jf, jg, jh, ji, jj⟩ := bx3_ (w := w5) e4.out; obtain ⟨gQ, i7, i8, jd, i9, ja⟩ := bx3_ (w := w5) tU.out))
  go_ret
  exact ⟨Z9, Z101⟩
 rw [if_neg c3] at H
 have bA : (a0_1 == a1_1) = false := beq_eq_false_iff_ne.mpr c3
 have fU : (a0_1 != a1_1) = true := bne_iff_ne.mpr c3
 obtain rfl := Option.some.inj H
 go_enter Tryz.func55, Tryz.ntmps55
 go_wp2_with (first | ((with_reducible refine gate_dst (N := 2) rfl ?_); refine bv_ 2 55 #[.int .i64 a0_0, .int .i64 a0_1, .int .i64 a0_2] ?_; intro e3 hg w9 hbox hb; refine k4_ (below_step (Z2) hb) (hbox) ((Z33 : w.heap.size ≤ e3)) ((Z33 : w.heap.size ≤ e3)) ?_; clear HB; intro HB e4 GW339 rz; clear hb hbox hg) | ((with_reducible refine gate_dst (N := 3) rfl ?_); refine bv_ 3 55 #[.int .i64 a1_0, .int .i64 a1_1, .int .i64 a1_2] ?_; intro gG hg pL hbox hb; refine k7_ (Ye_ e4) (below_step (Z52) hb) (hbox) ((by rw [hg]; exact (below_size (Z52)) : w.heap.size ≤ gG)) ((by rw [hg]; exact (below_size (Z52)) : w.heap.size ≤ gG)) ((Z115 : e3 ≠ gG)) ((Z116 : gG ≠ e3)) ?_; clear e4 HB; intro e4 HB tU GW340 vI gZ g0; clear hb hbox hg; have hnb11 := gZ.out; have hnc11 := g0.out; obtain ⟨lF, qc, qd, lG, qe, qf⟩ := bx3_ (w := pL) e4.out; obtain ⟨lH, lI, lJ, lK, lL, lM⟩ := bx3_ (w := pL) tU.out))
 go_ret
 exact ⟨Z9, Z101⟩

end Go.Proofs.YtcpbncljimmkfaaGreatDoor.PFnScans
