-- written by a program of this session: the kit's print, with outer functions of the session's own (wip/ext)
import Derived.Test.YtdipcpcbclobpaaDoorPFnPinsx0
import Derived.Test.YtdipcpcbclobpaaDoorPFnPinsx5
import Derived.Test.YtdipcpcbclobpaaDoorPFnPinsx6
namespace Go.Proofs.YtdipcpcbclobpaaDoor.PFnPins
open Go.RowKit Go.Proofs.YtdipcpcbclobpaaDoorW.PrintWords Go.Proofs.YtdipcpcbclobpaaDoorW.PrintLast Go.Proofs.YtdipcpcbclobpaaDoorW.PrintMore
attribute [local go_sem] max2_int min2_int max_two min_two max_three min_three max_four min_four   -- for this text's walks alone
set_option linter.unusedVariables false
set_option linter.unusedSimpArgs false
theorem mo7_ {p : Prop} (h : p := by repeat' first | (with_reducible first | apply spec_l1Cur_pins.mono | apply spec_l1Cur_pins.mono | exact LeO.refl _ | exact LeO.none _ | refine LeO.ite ?_ ?_ | refine LeO.bind ?_ (fun _ => ?_)) | exact LeO.none _ | refine LeO.ite ?_ ?_ | refine LeO.bind ?_ (fun _ => ?_)) : p := h

/-! ### spec_l1Cur_shiftOf: function 29 -/
def spec_l1Cur_shiftOf.f (s0_0 : List Int) (s0_1 : Int) (s0_2 : Int) : Option (Int × Int × Int) := (spec_l1Cur_among.f s0_0 s0_1 s0_2 (([4, (-1)] : List Int))).bind fun eI => ((spec_l1Cur_among.f s0_0 eI.2.1 eI.2.2 (([0, 1, 2, 3, 0, 1, eI.1] : List Int))).bind fun de => (some (de.1, de.2.1, de.2.2)))
set_option maxHeartbeats 8000000 in
set_option maxRecDepth 100000 in
theorem spec_l1Cur_shiftOf.calls (g : Nat) (s0_0 : List Int) (s0_1 : Int) (s0_2 : Int) (r1 : Int) (r2 : Int) (r3 : Int) (w0 w : World) (hI : IsS47 w0 w g s0_0 s0_1 s0_2) (hB : Below w0.heap.size w0 w) (h : spec_l1Cur_shiftOf.f s0_0 s0_1 s0_2 = some (r1, r2, r3)) :
  Calls Tryd.prog 29 #[.pointer (some ⟨g, 0, none⟩)] w fun e w' => e = .returned (.int .i64 r1) ∧ IsS47 w0 w' g s0_0 r2 r3 ∧ Below w0.heap.size w0 w' ∧ KeepBut w w' g none := by
 have HI0 := Aside0.mk hI
 have HK := Aside0.mk (KeepBut.refl w g none)
 have HL := Aside0.mk hB.size
 clear hI
 have HW0 := Aside0.mk hB.size
 have HB := Aside0.mk hB
 clear hB
 have H : ((spec_l1Cur_among.f s0_0 s0_1 s0_2 (([4, (-1)] : List Int))).bind fun eI => ((spec_l1Cur_among.f s0_0 eI.2.1 eI.2.2 (([0, 1, 2, 3, 0, 1, eI.1] : List Int))).bind fun de => (some (de.1, de.2.1, de.2.2)))) = some (r1, r2, r3) := h
 clear h
 obtain ⟨vE, lV⟩ : ∃ y_ : List Int, y_ = (([4, (-1)] : List Int)) := ⟨_, rfl⟩
 replace H : ((spec_l1Cur_among.f s0_0 s0_1 s0_2 vE).bind fun eI => ((spec_l1Cur_among.f s0_0 eI.2.1 eI.2.2 (([0, 1, 2, 3, 0, 1, eI.1] : List Int))).bind fun de => (some (de.1, de.2.1, de.2.2)))) = some (r1, r2, r3) := by first | (rw [lV]; with_reducible exact H) | (have H2_ := (Option.bind_some _ _).symm.trans H; rw [lV]; with_reducible exact H2_) | (have H2_ := (Option.bind_some _ _).symm.trans H; with_reducible exact H2_) | with_reducible exact H | (rw [lV]; exact H) | exact H
 have tW := Aside0.mk lV
 clear lV
 replace H := Option.bind_eq_some_iff.mp H
 obtain ⟨⟨ow, qH, qI⟩, cr, H⟩ := H
 (try dsimp only at H)
 have A2 := Aside0.mk cr
 clear cr
 obtain ⟨vF, lW⟩ : ∃ y_ : List Int, y_ = (([0, 1, 2, 3, 0, 1, ow] : List Int)) := ⟨_, rfl⟩
 replace H : ((spec_l1Cur_among.f s0_0 qH qI vF).bind fun de => (some (de.1, de.2.1, de.2.2))) = some (r1, r2, r3) := by first | (rw [lW]; with_reducible exact H) | (have H2_ := (Option.bind_some _ _).symm.trans H; rw [lW]; with_reducible exact H2_) | (have H2_ := (Option.bind_some _ _).symm.trans H; with_reducible exact H2_) | with_reducible exact H | (rw [lW]; exact H) | exact H
 have tX := Aside0.mk lW
 clear lW
 replace H := Option.bind_eq_some_iff.mp H
 obtain ⟨⟨t294, t295, t296⟩, dF, H⟩ := H
 (try dsimp only at H)
 have A3 := Aside0.mk dF
 clear dF
 simp only [Option.some.injEq, Prod.mk.injEq] at H
 obtain ⟨rfl, rfl, rfl⟩ := H
 go_enter Tryd.func29, Tryd.ntmps29
 go_wp2_with (first | ((with_reducible refine gate_dst (N := 5) rfl ?_); refine Kd.R_lit (Kd.int .i64) _ 3 ?hg (N := 5) ?hd (xs := ([4, (-1)] : List Int)) (inner := [.int .i64 4, .int .i64 (-1)]) (ok := fun _ => True) (okp := fun _ => True) ?hr ?hp (fun _ hk => hk) trivial (Below.refl _ _) (Nat.le_refl _) (by simp) ?_; (case hd => rfl); (case hg => rfl); (case hr => exact Z34); (case hp => exact (Reps.one (show Kd.M (Kd.int .i64) _ _ _ 4 [.int .i64 4] from rfl) (Reps.one (show Kd.M (Kd.int .i64) _ _ _ (-1) [.int .i64 (-1)] from rfl) (Reps.none _ _)))); intro v286 w4 ho5 hb hg_ hnew_; clear hg_ hnew_; (first | rw [← tW.out] at ho5 | (simp only [Int.reduceToNat] at ho5; rw [← tW.out] at ho5)); refine k4_ (Kd.R_lower ho5 (keep_size (w := w) (g := g) (row := none) (Z7))) (IsS47.below (Z3 HI0) hb) (KeepBut.trans (Z7) (KeepBut.of_below hb g none) (.inl rfl)) (below_step (Z8) hb) ?_; clear HI0 HK HB; intro dw HI0 HK HB; clear hb ho5; obtain ⟨yl, vX, yE⟩ := Kd.R_slice dw.out; subst yE) | ((with_reducible refine gate_callee (f := 53) rfl ?_); refine gl_ 6 Tryd.func53 #[.pointer (some ⟨g, 0, none⟩), .slice yl vE.length vX] ?_; (with_reducible refine (spec_l1Cur_among.calls g s0_0 s0_1 s0_2 _ _ vE ow qH qI w0 _ ?_ ?_ ?_ ?_ ?_ A2.out).mono ?_); exact (Z3 HI0); exact Z8; exact (Z4 dw); exact (Kd.R_reads' dw.out).2.1; exact far_slice (IsS47.own_ne HI0.out dw.out (by decide)); rintro e w7 ⟨rfl, hi, hb, hk⟩; refine ⟨_, rfl, ?_⟩; refine k4_ (Kd.R_mono (Kd.R_keep (IsS47.apart (show IsS47 w0 _ g s0_0 s0_1 s0_2 from Z3 HI0) (Z2 dw) (by decide)) hk (fun _ h => h.2)) (fun _ h => h.1)) (KeepBut.trans (Z7) hk (.inl rfl)) (hb) (hi) ?_; clear dw HK HB HI0; intro dw HK HB HI0; (try clear hb hk hi)) | ((with_reducible refine gate_dst (N := 7) rfl ?_); refine Kd.R_lit (Kd.int .i64) _ 3 ?hg (N := 7) ?hd (xs := ([0, 1, 2, 3, 0, 1, ow] : List Int)) (inner := [.int .i64 0, .int .i64 1, .int .i64 2, .int .i64 3, .int .i64 0, .int .i64 1, .int .i64 ow]) (ok := fun _ => True) (okp := fun _ => True) ?hr ?hp (fun _ hk => hk) trivial (Below.refl _ _) (Nat.le_refl _) (by simp) ?_; (case hd => rfl); (case hg => rfl); (case hr => exact Z34); (case hp => exact (Reps.one (show Kd.M (Kd.int .i64) _ _ _ 0 [.int .i64 0] from rfl) (Reps.one (show Kd.M (Kd.int .i64) _ _ _ 1 [.int .i64 1] from rfl) (Reps.one (show Kd.M (Kd.int .i64) _ _ _ 2 [.int .i64 2] from rfl) (Reps.one (show Kd.M (Kd.int .i64) _ _ _ 3 [.int .i64 3] from rfl) (Reps.one (show Kd.M (Kd.int .i64) _ _ _ 0 [.int .i64 0] from rfl) (Reps.one (show Kd.M (Kd.int .i64) _ _ _ 1 [.int .i64 1] from rfl) (Reps.one (show Kd.M (Kd.int .i64) _ _ _ ow [.int .i64 ow] from rfl) (Reps.none _ _))))))))); intro v292 w8 ho9 hb hg_ hnew_; clear hg_ hnew_; (first | rw [← tX.out] at ho9 | (simp only [Int.reduceToNat] at ho9; rw [← tX.out] at ho9)); refine k5_ (Kd.R_elder' (Z2 dw) (Kd.R_base ho9) hb) (Kd.R_lower (Kd.R_new' ho9 (Yd_ dw)) (keep_size (w := w) (g := g) (row := none) (Z7))) (IsS47.below (Z3 HI0) hb) (KeepBut.trans (Z7) (KeepBut.of_below hb g none) (.inl rfl)) (below_step (Z8) hb) ?_; clear dw HI0 HK HB; intro dw iu HI0 HK HB; clear hb ho9; obtain ⟨gi, gj, mr⟩ := Kd.R_slice iu.out; subst mr) | ((with_reducible refine gate_callee (f := 53) rfl ?_); refine gl_ 8 Tryd.func53 #[.pointer (some ⟨g, 0, none⟩), .slice gi vF.length gj] ?_; (with_reducible refine (spec_l1Cur_among.calls g s0_0 qH qI _ _ vF t294 t295 t296 w0 _ ?_ ?_ ?_ ?_ ?_ A3.out).mono ?_); exact (Z3 HI0); exact Z8; exact (Z4 iu); exact (Kd.R_reads' iu.out).2.1; exact far_slice (IsS47.own_ne HI0.out iu.out (by decide)); rintro e eV ⟨rfl, hi, hb, hk⟩; refine ⟨_, rfl, ?_⟩; refine k5_ (Kd.R_mono (Kd.R_keep (IsS47.apart (show IsS47 w0 _ g s0_0 qH qI from Z3 HI0) (Z2 dw) (by decide)) hk (fun _ h => h.2)) (fun _ h => h.1)) (Kd.R_mono (Kd.R_keep (IsS47.apart (show IsS47 w0 _ g s0_0 qH qI from Z3 HI0) (Z2 iu) (by decide)) hk (fun _ h => h.2)) (fun _ h => h.1)) (KeepBut.trans (Z7) hk (.inl rfl)) (hb) (hi) ?_; clear dw iu HK HB HI0; intro dw iu HK HB HI0; (try clear hb hk hi)))
 go_ret
 exact ⟨Z11, Z3 HI0, Z8, Z7⟩

/-! ### spec_l1Cur_angleOf: function 30 -/
def spec_l1Cur_angleOf.f (s0_0 : List Int) (s0_1 : Int) (s0_2 : Int) : Option (Int × Int × Int) := (spec_l1Cur_pick.f s0_0 s0_1 s0_2 360).bind fun iv => ((spec_l1Cur_among.f s0_0 iv.2.1 iv.2.2 (([360, (-1)] : List Int))).bind fun eJ => ((spec_l1Cur_among.f s0_0 eJ.2.1 eJ.2.2 (([0, 1, 10, 90, iv.1, 359, eJ.1] : List Int))).bind fun df => (some (df.1, df.2.1, df.2.2))))
set_option maxHeartbeats 8000000 in
set_option maxRecDepth 100000 in
theorem spec_l1Cur_angleOf.calls (g : Nat) (s0_0 : List Int) (s0_1 : Int) (s0_2 : Int) (r1 : Int) (r2 : Int) (r3 : Int) (w0 w : World) (hI : IsS47 w0 w g s0_0 s0_1 s0_2) (hB : Below w0.heap.size w0 w) (h : spec_l1Cur_angleOf.f s0_0 s0_1 s0_2 = some (r1, r2, r3)) :
  Calls Tryd.prog 30 #[.pointer (some ⟨g, 0, none⟩)] w fun e w' => e = .returned (.int .i64 r1) ∧ IsS47 w0 w' g s0_0 r2 r3 ∧ Below w0.heap.size w0 w' ∧ KeepBut w w' g none := by
 have HI0 := Aside0.mk hI
 have HK := Aside0.mk (KeepBut.refl w g none)
 have HL := Aside0.mk hB.size
 clear hI
 have HW0 := Aside0.mk hB.size
 have HB := Aside0.mk hB
 clear hB
 have H : ((spec_l1Cur_pick.f s0_0 s0_1 s0_2 360).bind fun iv => ((spec_l1Cur_among.f s0_0 iv.2.1 iv.2.2 (([360, (-1)] : List Int))).bind fun eJ => ((spec_l1Cur_among.f s0_0 eJ.2.1 eJ.2.2 (([0, 1, 10, 90, iv.1, 359, eJ.1] : List Int))).bind fun df => (some (df.1, df.2.1, df.2.2))))) = some (r1, r2, r3) := h
 clear h
 replace H := Option.bind_eq_some_iff.mp H
 obtain ⟨⟨mE, rN, rO⟩, cr, H⟩ := H
 (try dsimp only at H)
 have A2 := Aside0.mk cr
 clear cr
 obtain ⟨vG, lX⟩ : ∃ y_ : List Int, y_ = (([360, (-1)] : List Int)) := ⟨_, rfl⟩
 replace H : ((spec_l1Cur_among.f s0_0 rN rO vG).bind fun eJ => ((spec_l1Cur_among.f s0_0 eJ.2.1 eJ.2.2 (([0, 1, 10, 90, mE, 359, eJ.1] : List Int))).bind fun df => (some (df.1, df.2.1, df.2.2)))) = some (r1, r2, r3) := by first | (rw [lX]; with_reducible exact H) | (have H2_ := (Option.bind_some _ _).symm.trans H; rw [lX]; with_reducible exact H2_) | (have H2_ := (Option.bind_some _ _).symm.trans H; with_reducible exact H2_) | with_reducible exact H | (rw [lX]; exact H) | exact H
 have tY := Aside0.mk lX
 clear lX
 replace H := Option.bind_eq_some_iff.mp H
 obtain ⟨⟨ox, qJ, qK⟩, dF, H⟩ := H
 (try dsimp only at H)
 have A3 := Aside0.mk dF
 clear dF
 obtain ⟨vH, lY⟩ : ∃ y_ : List Int, y_ = (([0, 1, 10, 90, mE, 359, ox] : List Int)) := ⟨_, rfl⟩
 replace H : ((spec_l1Cur_among.f s0_0 qJ qK vH).bind fun df => (some (df.1, df.2.1, df.2.2))) = some (r1, r2, r3) := by first | (rw [lY]; with_reducible exact H) | (have H2_ := (Option.bind_some _ _).symm.trans H; rw [lY]; with_reducible exact H2_) | (have H2_ := (Option.bind_some _ _).symm.trans H; with_reducible exact H2_) | with_reducible exact H | (rw [lY]; exact H) | exact H
 have tZ := Aside0.mk lY
 clear lY
 replace H := Option.bind_eq_some_iff.mp H
 obtain ⟨⟨t309, t310, t311⟩, ff, H⟩ := H
 (try dsimp only at H)
 have A4 := Aside0.mk ff
 clear ff
 simp only [Option.some.injEq, Prod.mk.injEq] at H
 obtain ⟨rfl, rfl, rfl⟩ := H
 go_enter Tryd.func30, Tryd.ntmps30
 go_wp2_with (first | ((with_reducible refine gate_callee (f := 46) rfl ?_); refine gl_ 5 Tryd.func46 #[.pointer (some ⟨g, 0, none⟩), .int .i64 360] ?_; (with_reducible refine (spec_l1Cur_pick.calls g s0_0 s0_1 s0_2 360 mE rN rO w0 _ ?_ ?_ A2.out).mono ?_); exact (Z3 HI0); exact Z8; rintro e w5 ⟨rfl, hi, hb, hk⟩; refine ⟨_, rfl, ?_⟩; refine k3_ (KeepBut.trans (Z7) hk (.inl rfl)) (hb) (hi) ?_; clear HK HB HI0; intro HK HB HI0; (try clear hb hk hi)) | ((with_reducible refine gate_dst (N := 7) rfl ?_); refine Kd.R_lit (Kd.int .i64) _ 3 ?hg (N := 7) ?hd (xs := ([360, (-1)] : List Int)) (inner := [.int .i64 360, .int .i64 (-1)]) (ok := fun _ => True) (okp := fun _ => True) ?hr ?hp (fun _ hk => hk) trivial (Below.refl _ _) (Nat.le_refl _) (by simp) ?_; (case hd => rfl); (case hg => rfl); (case hr => exact Z34); (case hp => exact (Reps.one (show Kd.M (Kd.int .i64) _ _ _ 360 [.int .i64 360] from rfl) (Reps.one (show Kd.M (Kd.int .i64) _ _ _ (-1) [.int .i64 (-1)] from rfl) (Reps.none _ _)))); intro v301 w6 ho7 hb hg_ hnew_; clear hg_ hnew_; (first | rw [← tY.out] at ho7 | (simp only [Int.reduceToNat] at ho7; rw [← tY.out] at ho7)); refine k4_ (Kd.R_lower ho7 (keep_size (w := w) (g := g) (row := none) (Z7))) (IsS47.below (Z3 HI0) hb) (KeepBut.trans (Z7) (KeepBut.of_below hb g none) (.inl rfl)) (below_step (Z8) hb) ?_; clear HI0 HK HB; intro dx HI0 HK HB; clear hb ho7; obtain ⟨yI, yJ, yv⟩ := Kd.R_slice dx.out; subst yv) | ((with_reducible refine gate_callee (f := 53) rfl ?_); refine gl_ 8 Tryd.func53 #[.pointer (some ⟨g, 0, none⟩), .slice yI vG.length yJ] ?_; (with_reducible refine (spec_l1Cur_among.calls g s0_0 rN rO _ _ vG ox qJ qK w0 _ ?_ ?_ ?_ ?_ ?_ A3.out).mono ?_); exact (Z3 HI0); exact Z8; exact (Z4 dx); exact (Kd.R_reads' dx.out).2.1; exact far_slice (IsS47.own_ne HI0.out dx.out (by decide)); rintro e w9 ⟨rfl, hi, hb, hk⟩; refine ⟨_, rfl, ?_⟩; refine k4_ (Kd.R_mono (Kd.R_keep (IsS47.apart (show IsS47 w0 _ g s0_0 rN rO from Z3 HI0) (Z2 dx) (by decide)) hk (fun _ h => h.2)) (fun _ h => h.1)) (KeepBut.trans (Z7) hk (.inl rfl)) (hb) (hi) ?_; clear dx HK HB HI0; intro dx HK HB HI0; (try clear hb hk hi)) | ((with_reducible refine gate_dst (N := 9) rfl ?_); refine Kd.R_lit (Kd.int .i64) _ 3 ?hg (N := 9) ?hd (xs := ([0, 1, 10, 90, mE, 359, ox] : List Int)) (inner := [.int .i64 0, .int .i64 1, .int .i64 10, .int .i64 90, .int .i64 mE, .int .i64 359, .int .i64 ox]) (ok := fun _ => True) (okp := fun _ => True) ?hr ?hp (fun _ hk => hk) trivial (Below.refl _ _) (Nat.le_refl _) (by simp) ?_; (case hd => rfl); (case hg => rfl); (case hr => exact Z34); (case hp => exact (Reps.one (show Kd.M (Kd.int .i64) _ _ _ 0 [.int .i64 0] from rfl) (Reps.one (show Kd.M (Kd.int .i64) _ _ _ 1 [.int .i64 1] from rfl) (Reps.one (show Kd.M (Kd.int .i64) _ _ _ 10 [.int .i64 10] from rfl) (Reps.one (show Kd.M (Kd.int .i64) _ _ _ 90 [.int .i64 90] from rfl) (Reps.one (show Kd.M (Kd.int .i64) _ _ _ mE [.int .i64 mE] from rfl) (Reps.one (show Kd.M (Kd.int .i64) _ _ _ 359 [.int .i64 359] from rfl) (Reps.one (show Kd.M (Kd.int .i64) _ _ _ ox [.int .i64 ox] from rfl) (Reps.none _ _))))))))); intro v307 jE ho11 hb hg_ hnew_; clear hg_ hnew_; (first | rw [← tZ.out] at ho11 | (simp only [Int.reduceToNat] at ho11; rw [← tZ.out] at ho11)); refine k5_ (Kd.R_elder' (Z2 dx) (Kd.R_base ho11) hb) (Kd.R_lower (Kd.R_new' ho11 (Yd_ dx)) (keep_size (w := w) (g := g) (row := none) (Z7))) (IsS47.below (Z3 HI0) hb) (KeepBut.trans (Z7) (KeepBut.of_below hb g none) (.inl rfl)) (below_step (Z8) hb) ?_; clear dx HI0 HK HB; intro dx iw HI0 HK HB; clear hb ho11; obtain ⟨gl, gm, pB⟩ := Kd.R_slice iw.out; subst pB) | ((with_reducible refine gate_callee (f := 53) rfl ?_); refine gl_ 10 Tryd.func53 #[.pointer (some ⟨g, 0, none⟩), .slice gl vH.length gm] ?_; (with_reducible refine (spec_l1Cur_among.calls g s0_0 qJ qK _ _ vH t309 t310 t311 w0 _ ?_ ?_ ?_ ?_ ?_ A4.out).mono ?_); exact (Z3 HI0); exact Z8; exact (Z4 iw); exact (Kd.R_reads' iw.out).2.1; exact far_slice (IsS47.own_ne HI0.out iw.out (by decide)); rintro e fS ⟨rfl, hi, hb, hk⟩; refine ⟨_, rfl, ?_⟩; refine k5_ (Kd.R_mono (Kd.R_keep (IsS47.apart (show IsS47 w0 _ g s0_0 qJ qK from Z3 HI0) (Z2 dx) (by decide)) hk (fun _ h => h.2)) (fun _ h => h.1)) (Kd.R_mono (Kd.R_keep (IsS47.apart (show IsS47 w0 _ g s0_0 qJ qK from Z3 HI0) (Z2 iw) (by decide)) hk (fun _ h => h.2)) (fun _ h => h.1)) (KeepBut.trans (Z7) hk (.inl rfl)) (hb) (hi) ?_; clear dx iw HK HB HI0; intro dx iw HK HB HI0; (try clear hb hk hi)))
 go_ret
 exact ⟨Z11, Z3 HI0, Z8, Z7⟩

/-! ### spec_DrawTurnTune: function 5 -/
def spec_DrawTurnTune.f (k : Nat) (l0 : List Int) : Option ((List (S33)) × Int × Int) := (spec_l1Cur_pins.f k l0 0 0).bind fun ix => ((spec_l1Cur_shiftOf.f l0 ix.2.1 ix.2.2).bind fun iy => ((spec_l1Cur_angleOf.f l0 iy.2.1 iy.2.2).bind fun qL => (some (ix.1, iy.1, qL.1))))
theorem spec_DrawTurnTune.mono : ∀ a0 k, LeO (spec_DrawTurnTune.f k a0) (spec_DrawTurnTune.f (k + 1) a0) := by
 intro a0 k
 unfold spec_DrawTurnTune.f
 exact mo7_
set_option maxHeartbeats 8000000 in
set_option maxRecDepth 100000 in
theorem spec_DrawTurnTune.calls (k : Nat) (A0 : Option Addr) (c0 : Nat) (l0 : List Int) (r1 : List (S33)) (r2 : Int) (r3 : Int) (w : World) (hr0 : Kd.C (Kd.int .u8) w A0 l0.length l0) (hc0 : l0.length ≤ c0) (h : spec_DrawTurnTune.f k l0 = some (r1, r2, r3)) :
  Calls Tryd.prog 5 #[.slice A0 l0.length c0] w fun e w' => ∃ v0_ : Value, e = .returned (.tuple #[v0_, .int .i64 r2, .int .i64 r3]) ∧ Kd.R k33 33 w' w.heap.size (fun _ => True) v0_ r1 ∧ Below w.heap.size w w' := by
 have hu47 := Tryd.underlying47
 have HR0 := Aside0.mk hr0
 have HC0 := Aside0.mk hc0
 clear hr0 hc0
 have HB := Aside0.mk (Below.refl w.heap.size w)
 have H : ((spec_l1Cur_pins.f k l0 0 0).bind fun ix => ((spec_l1Cur_shiftOf.f l0 ix.2.1 ix.2.2).bind fun iy => ((spec_l1Cur_angleOf.f l0 iy.2.1 iy.2.2).bind fun qL => (some (ix.1, iy.1, qL.1))))) = some (r1, r2, r3) := h
 clear h
 replace H := Option.bind_eq_some_iff.mp H
 obtain ⟨⟨t313, vI, vJ⟩, cr, H⟩ := H
 (try dsimp only at H)
 have A2 := Aside0.mk cr
 clear cr
 replace H := Option.bind_eq_some_iff.mp H
 obtain ⟨⟨t318, vK, vL⟩, dF, H⟩ := H
 (try dsimp only at H)
 have A3 := Aside0.mk dF
 clear dF
 replace H := Option.bind_eq_some_iff.mp H
 obtain ⟨⟨t321, t322, t323⟩, ff, H⟩ := H
 (try dsimp only at H)
 have A4 := Aside0.mk ff
 clear ff
 simp only [Option.some.injEq, Prod.mk.injEq] at H
 obtain ⟨rfl, rfl, rfl⟩ := H
 go_enter Tryd.func5, Tryd.ntmps5
 go_wp2_with (first | ((with_reducible refine gate_dst (N := 8) rfl ?_); refine bv_ 8 47 #[.slice A0 l0.length c0, .int .i64 0, .int .u64 0] ?_; intro eK hg w5 hbox hb; refine k4_ (below_step (Z1) hb) ((show IsS47 w w5 eK l0 0 0 from ⟨_, _, hbox, (Z23), HR0.out⟩)) ((Z23 : w.heap.size ≤ eK)) ((Z23 : w.heap.size ≤ eK)) ?_; clear HB; intro HB HI312 GW312 GE312; clear hb hbox hg) | ((with_reducible refine gate_callee (f := 28) rfl ?_); refine gl_ 10 Tryd.func28 #[.pointer (some ⟨eK, 0, none⟩)] ?_; (with_reducible refine (spec_l1Cur_pins.calls k eK l0 0 0 t313 vI vJ w _ ?_ ?_ A2.out).mono ?_); exact (Z3 HI312); exact Z64; rintro e w6 ⟨v314, rfl, ho0, hi, hb, hk⟩; refine ⟨_, rfl, ?_⟩; refine k3_ (Kd.R_lower ho0 (below_size (Z64))) (hb) (hi) ?_; clear HB HI312; intro iz HB HI312; (try clear hb hk hi ho0)) | ((with_reducible refine gate_callee (f := 29) rfl ?_); refine gl_ 12 Tryd.func29 #[.pointer (some ⟨eK, 0, none⟩)] ?_; (with_reducible refine (spec_l1Cur_shiftOf.calls eK l0 vI vJ t318 vK vL w _ ?_ ?_ A3.out).mono ?_); exact (Z3 HI312); exact Z64; rintro e w7 ⟨rfl, hi, hb, hk⟩; refine ⟨_, rfl, ?_⟩; refine k3_ (Kd.R_mono (Kd.R_keep (IsS47.apart (show IsS47 w _ eK l0 vI vJ from Z3 HI312) (Z2 iz) (by decide)) hk (fun _ h => h.2)) (fun _ h => h.1)) (hb) (hi) ?_; clear iz HB HI312; intro iz HB HI312; (try clear hb hk hi)) | ((with_reducible refine gate_callee (f := 30) rfl ?_); refine gl_ 14 Tryd.func30 #[.pointer (some ⟨eK, 0, none⟩)] ?_; (with_reducible refine (spec_l1Cur_angleOf.calls eK l0 vK vL t321 t322 t323 w _ ?_ ?_ A4.out).mono ?_); exact (Z3 HI312); exact Z64; rintro e w8 ⟨rfl, hi, hb, hk⟩; refine ⟨_, rfl, ?_⟩; refine k3_ (Kd.R_mono (Kd.R_keep (IsS47.apart (show IsS47 w _ eK l0 vK vL from Z3 HI312) (Z2 iz) (by decide)) hk (fun _ h => h.2)) (fun _ h => h.1)) (hb) (hi) ?_; clear iz HB HI312; intro iz HB HI312; (try clear hb hk hi)))
 go_ret3
 exact ⟨_, Z11, Z2 iz, Z64⟩

/-! ### impl_isShift: function 31 -/
def impl_isShift.f (a0 : Int) : Option (Bool) := if a0 ≥ 0 then (some (decide (a0 < 4))) else (some false)
set_option maxHeartbeats 8000000 in
set_option maxRecDepth 100000 in
theorem impl_isShift.calls (a0 : Int) (r : Bool) (w : World) (h : impl_isShift.f a0 = some r) :
  Calls Tryd.prog 31 #[.int .i64 a0] w fun e w' => e = .returned (.bool r) ∧ Drawn0 w w' := by
 have H : (if a0 ≥ 0 then (some (decide (a0 < 4))) else (some false)) = some r := h
 clear h
 by_cases c2 : a0 ≥ 0
 ·rw [if_pos c2] at H
  have eN : decide (0 ≤ a0) = true := decide_eq_true c2
  clear c2
  obtain rfl := Option.some.inj H
  go_enter Tryd.func31, Tryd.ntmps31
  go_wp2
  go_ret
  exact ⟨Z14, Z43⟩
 rw [if_neg c2] at H
 have eN : decide (0 ≤ a0) = false := decide_eq_false c2
 clear c2
 obtain rfl := Option.some.inj H
 go_enter Tryd.func31, Tryd.ntmps31
 go_wp2
 go_ret
 exact ⟨Z14, Z43⟩

/-! ### impl_isTrack: function 57 -/
def impl_isTrack.f (a0 : Int) : Option (Bool) := if a0 ≥ 0 then (some (decide (a0 < 20))) else (some false)
set_option maxHeartbeats 8000000 in
set_option maxRecDepth 100000 in
theorem impl_isTrack.calls (a0 : Int) (r : Bool) (w : World) (h : impl_isTrack.f a0 = some r) :
  Calls Tryd.prog 57 #[.int .i64 a0] w fun e w' => e = .returned (.bool r) ∧ Drawn0 w w' := by
 have H : (if a0 ≥ 0 then (some (decide (a0 < 20))) else (some false)) = some r := h
 clear h
 by_cases c2 : a0 ≥ 0
 ·rw [if_pos c2] at H
  have eN : decide (0 ≤ a0) = true := decide_eq_true c2
  clear c2
  obtain rfl := Option.some.inj H
  go_enter Tryd.func57, Tryd.ntmps57
  go_wp2
  go_ret
  exact ⟨Z14, Z43⟩
 rw [if_neg c2] at H
 have eN : decide (0 ≤ a0) = false := decide_eq_false c2
 clear c2
 obtain rfl := Option.some.inj H
 go_enter Tryd.func57, Tryd.ntmps57
 go_wp2
 go_ret
 exact ⟨Z14, Z43⟩

/-! ### impl_isPin: function 39 -/
def impl_isPin.f (a0_0 : Int) (a0_1 : Int) (a0_2 : Int) : Option (Bool) := (impl_isTrack.f a0_0).bind fun qM => (if qM = true then (if a0_1 ≥ 0 then (if a0_1 < 360 then ((impl_isShift.f a0_2).bind fun oy => (some oy)) else (some false)) else (some false)) else (some false))
set_option maxHeartbeats 8000000 in
set_option maxRecDepth 100000 in
theorem impl_isPin.calls (a0_0 : Int) (a0_1 : Int) (a0_2 : Int) (r : Bool) (w : World) (h : impl_isPin.f a0_0 a0_1 a0_2 = some r) :
  Calls Tryd.prog 39 #[.agg #[.int .i64 a0_0, .int .i64 a0_1, .int .i64 a0_2]] w fun e w' => e = .returned (.bool r) ∧ Below w.heap.size w w' := by
 have hu33 := Tryd.underlying33
 have HB := Aside0.mk (Below.refl w.heap.size w)
 have H : ((impl_isTrack.f a0_0).bind fun qM => (if qM = true then (if a0_1 ≥ 0 then (if a0_1 < 360 then ((impl_isShift.f a0_2).bind fun oy => (some oy)) else (some false)) else (some false)) else (some false))) = some r := h
 clear h
 replace H := Option.bind_eq_some_iff.mp H
 obtain ⟨qM, cr, H⟩ := H
 (try dsimp only at H)
 have A2 := Aside0.mk cr
 clear cr
 by_cases c3 : qM = true
 ·subst c3
  rw [if_pos rfl] at H
  by_cases c4 : a0_1 ≥ 0
  ·rw [if_pos c4] at H
   have cy : decide (0 ≤ a0_1) = true := decide_eq_true c4
   clear c4
   by_cases c5 : a0_1 < 360
   ·rw [if_pos c5] at H
    have e3 : decide (a0_1 < 360) = true := decide_eq_true c5
    clear c5
    replace H := Option.bind_eq_some_iff.mp H
    obtain ⟨oy, gW, H⟩ := H
    replace H : (some oy) = some r := H
    have A6 := Aside0.mk gW
    clear gW
    obtain rfl := Option.some.inj H
    go_enter Tryd.func39, Tryd.ntmps39
    go_wp2_with (first | ((with_reducible refine gate_dst (N := 1) rfl ?_); refine bv_ 1 33 #[.int .i64 a0_0, .int .i64 a0_1, .int .i64 a0_2] ?_; intro eL hg w7 hbox hb; refine k4_ (below_step (Z1) hb) (hbox) ((Z23 : w.heap.size ≤ eL)) ((Z23 : w.heap.size ≤ eL)) ?_; clear HB; intro HB iA qN mP; clear hb hbox hg; obtain ⟨jt, ju, jv, mx, jw, jx⟩ := bx3_ (w := w7) iA.out) | ((with_reducible refine gate_callee (f := 57) rfl ?_); refine gl_ 5 Tryd.func57 #[.int .i64 a0_0] ?_; (with_reducible refine (impl_isTrack.calls a0_0 true _ A2.out).mono ?_); rintro e w' ⟨rfl, ⟨nd, rfl⟩⟩; refine ⟨_, rfl, ?_⟩) | (go_at_call 31; (with_reducible refine (impl_isShift.calls a0_2 oy _ A6.out).mono ?_); rintro e w' ⟨rfl, ⟨nd, rfl⟩⟩))
    go_ret
    exact ⟨Z11, Z76⟩
   rw [if_neg c5] at H
   have e3 : decide (a0_1 < 360) = false := decide_eq_false c5
   clear c5
   obtain rfl := Option.some.inj H
   go_enter Tryd.func39, Tryd.ntmps39
   go_wp2_with (first | ((with_reducible refine gate_dst (N := 1) rfl ?_); refine bv_ 1 33 #[.int .i64 a0_0, .int .i64 a0_1, .int .i64 a0_2] ?_; intro eL hg w9 hbox hb; refine k4_ (below_step (Z1) hb) (hbox) ((Z23 : w.heap.size ≤ eL)) ((Z23 : w.heap.size ≤ eL)) ?_; clear HB; intro HB iA qN mP; clear hb hbox hg; obtain ⟨i6, i7, i8, i9, ja, jb⟩ := bx3_ (w := w9) iA.out) | ((with_reducible refine gate_callee (f := 57) rfl ?_); refine gl_ 5 Tryd.func57 #[.int .i64 a0_0] ?_; (with_reducible refine (impl_isTrack.calls a0_0 true _ A2.out).mono ?_); rintro e w' ⟨rfl, ⟨nd, rfl⟩⟩; refine ⟨_, rfl, ?_⟩))
   go_ret
   exact ⟨Z11, Z76⟩
  rw [if_neg c4] at H
  have cy : decide (0 ≤ a0_1) = false := decide_eq_false c4
  clear c4
  obtain rfl := Option.some.inj H
  go_enter Tryd.func39, Tryd.ntmps39
  go_wp2_with (first | ((with_reducible refine gate_dst (N := 1) rfl ?_); refine bv_ 1 33 #[.int .i64 a0_0, .int .i64 a0_1, .int .i64 a0_2] ?_; intro eL hg eV hbox hb; refine k4_ (below_step (Z1) hb) (hbox) ((Z23 : w.heap.size ≤ eL)) ((Z23 : w.heap.size ≤ eL)) ?_; clear HB; intro HB iA qN mP; clear hb hbox hg; obtain ⟨iZ, i1, i2, i3, i4, i5⟩ := bx3_ (w := eV) iA.out) | ((with_reducible refine gate_callee (f := 57) rfl ?_); refine gl_ 5 Tryd.func57 #[.int .i64 a0_0] ?_; (with_reducible refine (impl_isTrack.calls a0_0 true _ A2.out).mono ?_); rintro e w' ⟨rfl, ⟨nd, rfl⟩⟩; refine ⟨_, rfl, ?_⟩))
  go_ret
  exact ⟨Z11, Z76⟩
 replace c3 := Bool.eq_false_iff.mpr c3
 subst c3
 rw [if_neg (show ¬ (false = true) by decide)] at H
 obtain rfl := Option.some.inj H
 go_enter Tryd.func39, Tryd.ntmps39
 go_wp2_with (first | ((with_reducible refine gate_dst (N := 1) rfl ?_); refine bv_ 1 33 #[.int .i64 a0_0, .int .i64 a0_1, .int .i64 a0_2] ?_; intro eL hg fS hbox hb; refine k4_ (below_step (Z1) hb) (hbox) ((Z23 : w.heap.size ≤ eL)) ((Z23 : w.heap.size ≤ eL)) ?_; clear HB; intro HB iA qN mP; clear hb hbox hg; obtain ⟨fv, fw, fx, fy, fz, fA⟩ := bx3_ (w := fS) iA.out) | ((with_reducible refine gate_callee (f := 57) rfl ?_); refine gl_ 5 Tryd.func57 #[.int .i64 a0_0] ?_; (with_reducible refine (impl_isTrack.calls a0_0 false _ A2.out).mono ?_); rintro e w' ⟨rfl, ⟨nd, rfl⟩⟩; refine ⟨_, rfl, ?_⟩))
 go_ret
 exact ⟨Z11, Z76⟩

/-! ### impl_pinLess: function 40 -/
def impl_pinLess.f (a0_0 : Int) (a0_1 : Int) (a0_2 : Int) (a1_0 : Int) (a1_1 : Int) (a1_2 : Int) : Option (Bool) := if a0_2 = a1_2 then (if a0_1 = a1_1 then (some (decide (a0_0 < a1_0))) else (some (decide (a0_1 < a1_1)))) else (some (decide (a0_2 < a1_2)))
set_option maxHeartbeats 8000000 in
set_option maxRecDepth 100000 in
theorem impl_pinLess.calls (a0_0 : Int) (a0_1 : Int) (a0_2 : Int) (a1_0 : Int) (a1_1 : Int) (a1_2 : Int) (r : Bool) (w : World) (h : impl_pinLess.f a0_0 a0_1 a0_2 a1_0 a1_1 a1_2 = some r) :
  Calls Tryd.prog 40 #[.agg #[.int .i64 a0_0, .int .i64 a0_1, .int .i64 a0_2], .agg #[.int .i64 a1_0, .int .i64 a1_1, .int .i64 a1_2]] w fun e w' => e = .returned (.bool r) ∧ Below w.heap.size w w' := by
 have hu33 := Tryd.underlying33
 have HB := Aside0.mk (Below.refl w.heap.size w)
 have H : (if a0_2 = a1_2 then (if a0_1 = a1_1 then (some (decide (a0_0 < a1_0))) else (some (decide (a0_1 < a1_1)))) else (some (decide (a0_2 < a1_2)))) = some r := h
 clear h
 by_cases c3 : a0_2 = a1_2
 ·rw [if_pos c3] at H
  have dE : (a0_2 == a1_2) = true := beq_iff_eq.mpr c3
  have gX : (a0_2 != a1_2) = false := bne_eq_false_iff_eq.mpr c3
  clear c3
  by_cases c4 : a0_1 = a1_1
  ·rw [if_pos c4] at H
   have cy : (a0_1 == a1_1) = true := beq_iff_eq.mpr c4
   have uW : (a0_1 != a1_1) = false := bne_eq_false_iff_eq.mpr c4
   clear c4
   obtain rfl := Option.some.inj H
   go_enter Tryd.func40, Tryd.ntmps40
   go_wp2_with (first | ((with_reducible refine gate_dst (N := 2) rfl ?_); refine bv_ 2 33 #[.int .i64 a0_0, .int .i64 a0_1, .int .i64 a0_2] ?_; intro cC hg w5 hbox hb; refine k4_ (below_step (Z1) hb) (hbox) ((Z23 : w.heap.size ≤ cC)) ((Z23 : w.heap.size ≤ cC)) ?_; clear HB; intro HB cD t0 mM; clear hb hbox hg) | ((with_reducible refine gate_dst (N := 3) rfl ?_); refine bv_ 3 33 #[.int .i64 a1_0, .int .i64 a1_1, .int .i64 a1_2] ?_; intro dy hg w6 hbox hb; refine k7_ (Ye_ cD) (below_step (Z45) hb) (hbox) ((Z109 : w.heap.size ≤ dy)) ((Z109 : w.heap.size ≤ dy)) ((Z95 : cC ≠ dy)) ((Z96 : dy ≠ cC)) ?_; clear cD HB; intro cD HB lZ t1 oJ dV dW; clear hb hbox hg; have hnb7 := dV.out; have hnc7 := dW.out; obtain ⟨jt, ju, jv, mx, jw, jx⟩ := bx3_ (w := w6) cD.out; obtain ⟨qb, qc, qd, hfz9_0, qe, qf⟩ := bx3_ (w := w6) lZ.out))
   go_ret
   exact ⟨Z11, Z87⟩
  rw [if_neg c4] at H
  have cy : (a0_1 == a1_1) = false := beq_eq_false_iff_ne.mpr c4
  have uW : (a0_1 != a1_1) = true := bne_iff_ne.mpr c4
  obtain rfl := Option.some.inj H
  go_enter Tryd.func40, Tryd.ntmps40
  go_wp2_with (first | ((with_reducible refine gate_dst (N := 2) rfl ?_); refine bv_ 2 33 #[.int .i64 a0_0, .int .i64 a0_1, .int .i64 a0_2] ?_; intro cC hg jE hbox hb; refine k4_ (below_step (Z1) hb) (hbox) ((Z23 : w.heap.size ≤ cC)) ((Z23 : w.heap.size ≤ cC)) ?_; clear HB; intro HB cD t0 mM; clear hb hbox hg) | ((with_reducible refine gate_dst (N := 3) rfl ?_); refine bv_ 3 33 #[.int .i64 a1_0, .int .i64 a1_1, .int .i64 a1_2] ?_; intro dy hg eV hbox hb; refine k7_ (Ye_ cD) (below_step (Z45) hb) (hbox) ((Z109 : w.heap.size ≤ dy)) ((Z109 : w.heap.size ≤ dy)) ((Z95 : cC ≠ dy)) ((Z96 : dy ≠ cC)) ?_; clear cD HB; intro cD HB lZ t1 oJ dV dW; clear hb hbox hg; have hnb12 := dV.out; have hnc12 := dW.out; obtain ⟨mV, mW, mX, mY, mZ, m0⟩ := bx3_ (w := eV) cD.out; obtain ⟨fv, fw, fx, fy, fz, fA⟩ := bx3_ (w := eV) lZ.out))
  go_ret
  exact ⟨Z11, Z87⟩
 rw [if_neg c3] at H
 have dE : (a0_2 == a1_2) = false := beq_eq_false_iff_ne.mpr c3
 have gX : (a0_2 != a1_2) = true := bne_iff_ne.mpr c3
 obtain rfl := Option.some.inj H
 go_enter Tryd.func40, Tryd.ntmps40
 go_wp2_with (first | ((with_reducible refine gate_dst (N := 2) rfl ?_); refine bv_ 2 33 #[.int .i64 a0_0, .int .i64 a0_1, .int .i64 a0_2] ?_; intro cC hg l7 hbox hb; refine k4_ (below_step (Z1) hb) (hbox) ((Z23 : w.heap.size ≤ cC)) ((Z23 : w.heap.size ≤ cC)) ?_; clear HB; intro HB cD t0 mM; clear hb hbox hg) | ((with_reducible refine gate_dst (N := 3) rfl ?_); refine bv_ 3 33 #[.int .i64 a1_0, .int .i64 a1_1, .int .i64 a1_2] ?_; intro dy hg oD hbox hb; refine k7_ (Ye_ cD) (below_step (Z45) hb) (hbox) ((Z109 : w.heap.size ≤ dy)) ((Z109 : w.heap.size ≤ dy)) ((Z95 : cC ≠ dy)) ((Z96 : dy ≠ cC)) ?_; clear cD HB; intro cD HB lZ t1 oJ dV dW; clear hb hbox hg; have hnb17 := dV.out; have hnc17 := dW.out; obtain ⟨nu, nv, nw, nx, ny, nz⟩ := bx3_ (w := oD) cD.out; obtain ⟨gG, gH, gI, gJ, gK, gL⟩ := bx3_ (w := oD) lZ.out))
 go_ret
 exact ⟨Z11, Z87⟩

end Go.Proofs.YtdipcpcbclobpaaDoor.PFnPins
