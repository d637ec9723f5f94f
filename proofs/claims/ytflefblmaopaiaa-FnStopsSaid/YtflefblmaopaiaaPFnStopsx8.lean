-- written by a program of this session: the kit's print, with outer functions of the session's own (wip/ext)
import Derived.Test.YtflefblmaopaiaaPFnStopsx0
import Derived.Test.YtflefblmaopaiaaPFnStopsx2
import Derived.Test.YtflefblmaopaiaaPFnStopsx7
namespace Go.Proofs.Ytflefblmaopaiaa.PFnStops
open Go.RowKit Go.Proofs.YtflefblmaopaiaaW.PrintWords Go.Proofs.YtflefblmaopaiaaW.PrintLast Go.Proofs.YtflefblmaopaiaaW.PrintMore
attribute [local go_sem] max2_int min2_int max_two min_two max_three min_three max_four min_four   -- for this text's walks alone
set_option linter.unusedVariables false
set_option linter.unusedSimpArgs false
theorem mo8_ {p : Prop} (h : p := by repeat' first | (with_reducible first | apply ih0 | apply ih0 | apply ih1 | apply ih1 | apply ih2 | apply ih2 | apply spec_l1Cur_madeSheet.mono | apply spec_l1Cur_madeSheet.mono | exact LeO.refl _ | exact LeO.none _ | refine LeO.ite ?_ ?_ | refine LeO.bind ?_ (fun _ => ?_)) | exact LeO.none _ | refine LeO.ite ?_ ?_ | refine LeO.bind ?_ (fun _ => ?_)) : p := h

/-! ### spec_l1Cur_mark: function 26 -/
def spec_l1Cur_mark.f (s0_0 : List Int) (s0_1 : Int) (s0_2 : Int) : Option (Int × Int × Int) := (spec_l1Cur_among.f s0_0 s0_1 s0_2 (([0, 51] : List Int))).bind fun bt350 => ((spec_l1Cur_among.f s0_0 bt350.2.1 bt350.2.2 (([1, 2, 3, 5, 10, 50, bt350.1] : List Int))).bind fun bt356 => (some (bt356.1, bt356.2.1, bt356.2.2)))
set_option maxHeartbeats 8000000 in
set_option maxRecDepth 100000 in
theorem spec_l1Cur_mark.calls (g : Nat) (s0_0 : List Int) (s0_1 : Int) (s0_2 : Int) (r1 : Int) (r2 : Int) (r3 : Int) (w0 w : World) (hI : IsS49 w0 w g s0_0 s0_1 s0_2) (hB : Below w0.heap.size w0 w) (h : spec_l1Cur_mark.f s0_0 s0_1 s0_2 = some (r1, r2, r3)) :
  Calls Try.prog 26 #[.pointer (some ⟨g, 0, none⟩)] w fun e w' => e = .returned (.int .i64 r1) ∧ IsS49 w0 w' g s0_0 r2 r3 ∧ Below w0.heap.size w0 w' ∧ KeepBut w w' g none := by
 have HI0 := Aside0.mk hI
 have HK := Aside0.mk (KeepBut.refl w g none)
 have HL := Aside0.mk hB.size
 clear hI
 have HW0 := Aside0.mk hB.size
 have HB := Aside0.mk hB
 clear hB
 have H : ((spec_l1Cur_among.f s0_0 s0_1 s0_2 (([0, 51] : List Int))).bind fun bt350 => ((spec_l1Cur_among.f s0_0 bt350.2.1 bt350.2.2 (([1, 2, 3, 5, 10, 50, bt350.1] : List Int))).bind fun bt356 => (some (bt356.1, bt356.2.1, bt356.2.2)))) = some (r1, r2, r3) := h
 clear h
 obtain ⟨y347, hy347⟩ : ∃ y_ : List Int, y_ = (([0, 51] : List Int)) := ⟨_, rfl⟩
 replace H : ((spec_l1Cur_among.f s0_0 s0_1 s0_2 y347).bind fun bt350 => ((spec_l1Cur_among.f s0_0 bt350.2.1 bt350.2.2 (([1, 2, 3, 5, 10, 50, bt350.1] : List Int))).bind fun bt356 => (some (bt356.1, bt356.2.1, bt356.2.2)))) = some (r1, r2, r3) := by first | (rw [hy347]; with_reducible exact H) | (have H2_ := (Option.bind_some _ _).symm.trans H; rw [hy347]; with_reducible exact H2_) | (have H2_ := (Option.bind_some _ _).symm.trans H; with_reducible exact H2_) | with_reducible exact H | (rw [hy347]; exact H) | exact H
 have Ny347 := Aside0.mk hy347
 clear hy347
 replace H := Option.bind_eq_some_iff.mp H
 obtain ⟨⟨t350, t351, t352⟩, A20, H⟩ := H
 (try dsimp only at H)
 have A2 := Aside0.mk A20
 clear A20
 obtain ⟨y353, hy353⟩ : ∃ y_ : List Int, y_ = (([1, 2, 3, 5, 10, 50, t350] : List Int)) := ⟨_, rfl⟩
 replace H : ((spec_l1Cur_among.f s0_0 t351 t352 y353).bind fun bt356 => (some (bt356.1, bt356.2.1, bt356.2.2))) = some (r1, r2, r3) := by first | (rw [hy353]; with_reducible exact H) | (have H2_ := (Option.bind_some _ _).symm.trans H; rw [hy353]; with_reducible exact H2_) | (have H2_ := (Option.bind_some _ _).symm.trans H; with_reducible exact H2_) | with_reducible exact H | (rw [hy353]; exact H) | exact H
 have Ny353 := Aside0.mk hy353
 clear hy353
 replace H := Option.bind_eq_some_iff.mp H
 obtain ⟨⟨t356, t357, t358⟩, A30, H⟩ := H
 (try dsimp only at H)
 have A3 := Aside0.mk A30
 clear A30
 simp only [Option.some.injEq, Prod.mk.injEq] at H
 obtain ⟨rfl, rfl, rfl⟩ := H
 go_enter Try.func26, Try.ntmps26
 go_wp2_with (first | ((with_reducible refine gate_dst (N := 5) rfl ?_); refine Kd.R_lit (Kd.int .i64) _ 3 ?hg (N := 5) ?hd (xs := ([0, 51] : List Int)) (inner := [.int .i64 0, .int .i64 51]) (ok := fun _ => True) (okp := fun _ => True) ?hr ?hp (fun _ hk => hk) trivial (Below.refl _ _) (Nat.le_refl _) (by simp) ?_; (case hd => rfl); (case hg => rfl); (case hr => exact Z100); (case hp => exact (Reps.one (show Kd.M (Kd.int .i64) _ _ _ 0 [.int .i64 0] from rfl) (Reps.one (show Kd.M (Kd.int .i64) _ _ _ 51 [.int .i64 51] from rfl) (Reps.none _ _)))); intro v348 w4 ho5 hb hg_ hnew_; clear hg_ hnew_; (first | rw [← Ny347.out] at ho5 | (simp only [Int.reduceToNat] at ho5; rw [← Ny347.out] at ho5)); refine k4_ (Kd.R_lower ho5 (keep_size (w := w) (g := g) (row := none) (Z6))) (IsS49.below (Z4 HI0.out) hb) (KeepBut.trans (Z6) (KeepBut.of_below hb g none) (.inl rfl)) (below_step (Z9) hb) ?_; clear HI0 HK HB; intro HO349 HI0 HK HB; clear hb ho5; obtain ⟨Ao6, co6, eo6⟩ := Kd.R_slice HO349.out; subst eo6) | ((with_reducible refine gate_callee (f := 24) rfl ?_); refine gl_ 6 Try.func24 #[.pointer (some ⟨g, 0, none⟩), .slice Ao6 y347.length co6] ?_; (with_reducible refine (spec_l1Cur_among.calls g s0_0 s0_1 s0_2 _ _ y347 t350 t351 t352 w0 _ ?_ ?_ ?_ ?_ ?_ A2.out).mono ?_); exact Z4 HI0.out; exact Z9; exact Z7 HO349.out; exact (Kd.R_reads' HO349.out).2.1; exact far_slice (IsS49.own_ne HI0.out HO349.out (by decide)); rintro e w7 ⟨rfl, hi, hb, hk⟩; refine ⟨_, rfl, ?_⟩; refine k4_ (Kd.R_mono (Kd.R_keep (IsS49.apart (show IsS49 w0 _ g s0_0 s0_1 s0_2 from Z4 HI0.out) (Z1 HO349.out) (by decide)) hk (fun _ h => h.2)) (fun _ h => h.1)) (KeepBut.trans (Z6) hk (.inl rfl)) (hb) (hi) ?_; clear HO349 HK HB HI0; intro HO349 HK HB HI0; (try clear hb hk hi)) | ((with_reducible refine gate_dst (N := 7) rfl ?_); refine Kd.R_lit (Kd.int .i64) _ 3 ?hg (N := 7) ?hd (xs := ([1, 2, 3, 5, 10, 50, t350] : List Int)) (inner := [.int .i64 1, .int .i64 2, .int .i64 3, .int .i64 5, .int .i64 10, .int .i64 50, .int .i64 t350]) (ok := fun _ => True) (okp := fun _ => True) ?hr ?hp (fun _ hk => hk) trivial (Below.refl _ _) (Nat.le_refl _) (by simp) ?_; (case hd => rfl); (case hg => rfl); (case hr => exact Z100); (case hp => exact (Reps.one (show Kd.M (Kd.int .i64) _ _ _ 1 [.int .i64 1] from rfl) (Reps.one (show Kd.M (Kd.int .i64) _ _ _ 2 [.int .i64 2] from rfl) (Reps.one (show Kd.M (Kd.int .i64) _ _ _ 3 [.int .i64 3] from rfl) (Reps.one (show Kd.M (Kd.int .i64) _ _ _ 5 [.int .i64 5] from rfl) (Reps.one (show Kd.M (Kd.int .i64) _ _ _ 10 [.int .i64 10] from rfl) (Reps.one (show Kd.M (Kd.int .i64) _ _ _ 50 [.int .i64 50] from rfl) (Reps.one (show Kd.M (Kd.int .i64) _ _ _ t350 [.int .i64 t350] from rfl) (Reps.none _ _))))))))); intro v354 w8 ho9 hb hg_ hnew_; clear hg_ hnew_; (first | rw [← Ny353.out] at ho9 | (simp only [Int.reduceToNat] at ho9; rw [← Ny353.out] at ho9)); refine k5_ (Kd.R_elder' (Z1 HO349.out) (Kd.R_base ho9) hb) (Kd.R_lower (Kd.R_new' ho9 (Yd_ HO349.out)) (keep_size (w := w) (g := g) (row := none) (Z6))) (IsS49.below (Z4 HI0.out) hb) (KeepBut.trans (Z6) (KeepBut.of_below hb g none) (.inl rfl)) (below_step (Z9) hb) ?_; clear HO349 HI0 HK HB; intro HO349 HO355 HI0 HK HB; clear hb ho9; obtain ⟨Ao10, co10, eo10⟩ := Kd.R_slice HO355.out; subst eo10) | ((with_reducible refine gate_callee (f := 24) rfl ?_); refine gl_ 8 Try.func24 #[.pointer (some ⟨g, 0, none⟩), .slice Ao10 y353.length co10] ?_; (with_reducible refine (spec_l1Cur_among.calls g s0_0 t351 t352 _ _ y353 t356 t357 t358 w0 _ ?_ ?_ ?_ ?_ ?_ A3.out).mono ?_); exact Z4 HI0.out; exact Z9; exact Z7 HO355.out; exact (Kd.R_reads' HO355.out).2.1; exact far_slice (IsS49.own_ne HI0.out HO355.out (by decide)); rintro e w11 ⟨rfl, hi, hb, hk⟩; refine ⟨_, rfl, ?_⟩; refine k5_ (Kd.R_mono (Kd.R_keep (IsS49.apart (show IsS49 w0 _ g s0_0 t351 t352 from Z4 HI0.out) (Z1 HO349.out) (by decide)) hk (fun _ h => h.2)) (fun _ h => h.1)) (Kd.R_mono (Kd.R_keep (IsS49.apart (show IsS49 w0 _ g s0_0 t351 t352 from Z4 HI0.out) (Z1 HO355.out) (by decide)) hk (fun _ h => h.2)) (fun _ h => h.1)) (KeepBut.trans (Z6) hk (.inl rfl)) (hb) (hi) ?_; clear HO349 HO355 HK HB HI0; intro HO349 HO355 HK HB HI0; (try clear hb hk hi)))
 go_ret
 exact ⟨Z11, Z4 HI0.out, Z9, Z6⟩

/-! ### spec_DrawRunWithStops: function 4 -/
mutual
def spec_DrawRunWithStops.j0 : Nat → List Int → Int → List Int → Int → Int → Option ((List (S64)) × List Int × Int)
 | 0, _, _, _, _, _ => none
 | k + 1, x6, x7, x360000, x360001, x360002 => spec_DrawRunWithStops.l0 k x6 x7 x360000 x360001 x360002
def spec_DrawRunWithStops.l0 : Nat → List Int → Int → List Int → Int → Int → Option ((List (S64)) × List Int × Int)
 | 0, _, _, _, _, _ => none
 | k + 1, x6, x7, x360000, x360001, x360002 => if (x6.length : Int) < x7 then ((spec_l1Cur_pick.f x360000 x360001 x360002 40).bind fun bt369 => ((spec_l1Cur_among.f x360000 bt369.2.1 bt369.2.2 (([0, 1, 3, 7, bt369.1, 200] : List Int))).bind fun bt375 => (if x6.length < 17592186044416 then (spec_DrawRunWithStops.l0 k (x6 ++ [bt375.1]) x7 x360000 bt375.2.1 bt375.2.2) else (none)))) else (if x7 > 0 then ((spec_l1Cur_one.f x360000 x360001 x360002 24).bind fun bt381 => (spec_DrawRunWithStops.j2 k x6 x7 bt381.1 x360000 bt381.2.1 bt381.2.2)) else (spec_DrawRunWithStops.j2 k x6 x7 false x360000 x360001 x360002))
def spec_DrawRunWithStops.j2 : Nat → List Int → Int → Bool → List Int → Int → Int → Option ((List (S64)) × List Int × Int)
 | 0, _, _, _, _, _, _ => none
 | k + 1, x6, x7, x35, x360000, x360001, x360002 => if x35 = true then ((spec_l1Cur_pick.f x360000 x360001 x360002 x7).bind fun bt384 => ((spec_l1Cur_among.f x360000 bt384.2.1 bt384.2.2 (([(-1), 201] : List Int))).bind fun bt390 => (if 0 ≤ bt384.1 then (if bt384.1 < (x6.length : Int) then ((spec_l1Cur_madeSheet.f k x360000 bt390.2.1 bt390.2.2).bind fun bt394 => ((spec_l1Cur_mark.f x360000 bt394.2.1 bt394.2.2).bind fun bt399 => (some (bt394.1, (x6.set (bt384.1 : Int).toNat bt390.1), bt399.1)))) else (none)) else (none)))) else ((spec_l1Cur_madeSheet.f k x360000 x360001 x360002).bind fun bt402 => ((spec_l1Cur_mark.f x360000 bt402.2.1 bt402.2.2).bind fun bt407 => (some (bt402.1, x6, bt407.1))))
end
def spec_DrawRunWithStops.f (k : Nat) (l0 : List Int) : Option ((List (S64)) × List Int × Int) := (spec_l1Cur_pick.f l0 0 0 6).bind fun bt360 => ((spec_l1Cur_one.f l0 bt360.2.1 bt360.2.2 20).bind fun bt363 => (if bt363.1 = true then ((spec_l1Cur_pick.f l0 bt363.2.1 bt363.2.2 2).bind fun bt366 => (spec_DrawRunWithStops.j0 k ([] : List Int) (wrap64 (20 + bt366.1)) l0 bt366.2.1 bt366.2.2)) else (spec_DrawRunWithStops.j0 k ([] : List Int) bt360.1 l0 bt363.2.1 bt363.2.2)))
theorem spec_DrawRunWithStops.mono_l : ∀ k, (∀ y0 y1 y2 y3 y4, LeO (spec_DrawRunWithStops.j0 k y0 y1 y2 y3 y4) (spec_DrawRunWithStops.j0 (k + 1) y0 y1 y2 y3 y4)) ∧ (∀ y0 y1 y2 y3 y4, LeO (spec_DrawRunWithStops.l0 k y0 y1 y2 y3 y4) (spec_DrawRunWithStops.l0 (k + 1) y0 y1 y2 y3 y4)) ∧ (∀ y0 y1 y2 y3 y4 y5, LeO (spec_DrawRunWithStops.j2 k y0 y1 y2 y3 y4 y5) (spec_DrawRunWithStops.j2 (k + 1) y0 y1 y2 y3 y4 y5))
 | 0 => ⟨fun _ _ _ _ _ r h => by simp [spec_DrawRunWithStops.j0] at h, fun _ _ _ _ _ r h => by simp [spec_DrawRunWithStops.l0] at h, fun _ _ _ _ _ _ r h => by simp [spec_DrawRunWithStops.j2] at h⟩
 | k + 1 => by
  obtain ⟨ih0, ih1, ih2⟩ := spec_DrawRunWithStops.mono_l k
  refine ⟨?_, ?_, ?_⟩
  ·intro y0 y1 y2 y3 y4
   unfold spec_DrawRunWithStops.j0
   exact mo8_
  ·intro y0 y1 y2 y3 y4
   unfold spec_DrawRunWithStops.l0
   exact mo8_
  intro y0 y1 y2 y3 y4 y5
  unfold spec_DrawRunWithStops.j2
  exact mo8_
theorem spec_DrawRunWithStops.mono : ∀ a0 k, LeO (spec_DrawRunWithStops.f k a0) (spec_DrawRunWithStops.f (k + 1) a0) := by
 intro a0 k
 obtain ⟨ih0, ih1, ih2⟩ := spec_DrawRunWithStops.mono_l k
 unfold spec_DrawRunWithStops.f
 exact mo8_
set_option maxHeartbeats 8000000 in
set_option maxRecDepth 100000 in
theorem spec_DrawRunWithStops.calls (k : Nat) (A0 : Option Addr) (c0 : Nat) (l0 : List Int) (r1 : List (S64)) (r2 : List Int) (r3 : Int) (w : World) (hr0 : Kd.C (Kd.int .u8) w A0 l0.length l0) (hc0 : l0.length ≤ c0) (h : spec_DrawRunWithStops.f k l0 = some (r1, r2, r3)) :
  Calls Try.prog 4 #[.slice A0 l0.length c0] w fun e w' => ∃ v0_ v1_ : Value, e = .returned (.tuple #[v0_, v1_, .int .i64 r3]) ∧ Kd.R k64 64 w' w.heap.size (fun _ => True) v0_ r1 ∧ Kd.R (Kd.int .i64) 3 w' w.heap.size (fun _ => True) v1_ r2 ∧ Below w.heap.size w w' := by
 have hu49 := Try.underlying49
 have HR0 := Aside0.mk hr0
 have HC0 := Aside0.mk hc0
 clear hr0 hc0
 have HB := Aside0.mk (Below.refl w.heap.size w)
 have H : ((spec_l1Cur_pick.f l0 0 0 6).bind fun bt360 => ((spec_l1Cur_one.f l0 bt360.2.1 bt360.2.2 20).bind fun bt363 => (if bt363.1 = true then ((spec_l1Cur_pick.f l0 bt363.2.1 bt363.2.2 2).bind fun bt366 => (spec_DrawRunWithStops.j0 k ([] : List Int) (wrap64 (20 + bt366.1)) l0 bt366.2.1 bt366.2.2)) else (spec_DrawRunWithStops.j0 k ([] : List Int) bt360.1 l0 bt363.2.1 bt363.2.2)))) = some (r1, r2, r3) := h
 clear h
 replace H := Option.bind_eq_some_iff.mp H
 obtain ⟨⟨t360, t361, t362⟩, A20, H⟩ := H
 (try dsimp only at H)
 have A2 := Aside0.mk A20
 clear A20
 replace H := Option.bind_eq_some_iff.mp H
 obtain ⟨⟨t363, t364, t365⟩, A30, H⟩ := H
 (try dsimp only at H)
 have A3 := Aside0.mk A30
 clear A30
 have HC4 := Aside0.mk H
 clear H
 go_enter Try.func4, Try.ntmps4
 go_upto_if 14 with (first | ((with_reducible refine gate_dst (N := 10) rfl ?_); refine bv_ 10 49 #[.slice A0 l0.length c0, .int .i64 0, .int .u64 0] ?_; intro gb359 hg w5 hbox hb; refine k4_ (below_step (Z3) hb) ((show IsS49 w w5 gb359 l0 0 0 from ⟨_, _, hbox, (Z26), HR0.out⟩)) ((Z26 : w.heap.size ≤ gb359)) ((Z26 : w.heap.size ≤ gb359)) ?_; clear HB; intro HB HI359 GW359 GE359; clear hb hbox hg) | ((with_reducible refine gate_callee (f := 22) rfl ?_); refine gl_ 12 Try.func22 #[.pointer (some ⟨gb359, 0, none⟩), .int .i64 6] ?_; (with_reducible refine (spec_l1Cur_pick.calls gb359 l0 0 0 6 t360 t361 t362 w _ ?_ ?_ A2.out).mono ?_); exact Z4 HI359.out; exact Z25; rintro e w6 ⟨rfl, hi, hb, hk⟩; refine ⟨_, rfl, ?_⟩; refine k2_ (hb) (hi) ?_; clear HB HI359; intro HB HI359; (try clear hb hk hi)) | ((with_reducible refine gate_callee (f := 23) rfl ?_); refine gl_ 14 Try.func23 #[.pointer (some ⟨gb359, 0, none⟩), .int .i64 20] ?_; (with_reducible refine (spec_l1Cur_one.calls gb359 l0 t361 t362 20 t363 t364 t365 w _ ?_ ?_ A3.out).mono ?_); exact Z4 HI359.out; exact Z25; rintro e w7 ⟨rfl, hi, hb, hk⟩; refine ⟨_, rfl, ?_⟩; refine k2_ (hb) (hi) ?_; clear HB HI359; intro HB HI359; (try clear hb hk hi)))
 (try simp only [Act.put, List.setIfInBounds_toArray, List.set_cons_zero, List.set_cons_succ])
 go_cut [7] (fun v7 wc => ∃ (kq : Nat) (x7_3 : Int) (x360001_3 : Int) (x360002_3 : Int), v7 = .int .i64 x7_3 ∧ Aside0 (spec_DrawRunWithStops.j0 kq ([] : List Int) x7_3 l0 x360001_3 x360002_3 = some (r1, r2, r3)) ∧ Aside0 (kq ≤ k) ∧ Aside0 (Kd.R (Kd.int .i64) 3 wc w.heap.size (fun _ => True) (.slice none 0 0) ([] : List Int)) ∧ Aside0 (IsS49 w wc gb359 l0 x360001_3 x360002_3) ∧ Aside0 (Below w.heap.size w wc))
 case first =>
  have H := HC4.out
  clear HC4
  by_cases c8 : t363 = true
  ·subst c8
   rw [if_pos rfl] at H
   replace H := Option.bind_eq_some_iff.mp H
   obtain ⟨⟨t366, t367, t368⟩, A90, H⟩ := H
   (try dsimp only at H)
   have A9 := Aside0.mk A90
   clear A90
   have H' := Aside0.mk H
   clear H
   go_wp2_with (first | ((with_reducible refine gate_callee (f := 22) rfl ?_); refine gl_ 16 Try.func22 #[.pointer (some ⟨gb359, 0, none⟩), .int .i64 2] ?_; (with_reducible refine (spec_l1Cur_pick.calls gb359 l0 t364 t365 2 t366 t367 t368 w _ ?_ ?_ A9.out).mono ?_); exact Z4 HI359.out; exact Z25; rintro e w10 ⟨rfl, hi, hb, hk⟩; refine ⟨_, rfl, ?_⟩; refine k2_ (hb) (hi) ?_; clear HB HI359; intro HB HI359; (try clear hb hk hi)))
   go_meet
   case rel => exact ⟨_, (wrap64 (20 + t366)), (t367), (t368), (Z17), H', ⟨Z110⟩, ⟨Z21⟩, ⟨Z4 HI359.out⟩, ⟨Z25⟩⟩
  replace c8 := Bool.eq_false_iff.mpr c8
  subst c8
  rw [if_neg (show ¬ (false = true) by decide)] at H
  have H' := Aside0.mk H
  clear H
  go_wp2
  go_meet
  case rel => exact ⟨_, (t360), (t364), (t365), (Z17), H', ⟨Z110⟩, ⟨Z21⟩, ⟨Z4 HI359.out⟩, ⟨Z25⟩⟩
 case rest =>
  clear HC4
  (try clear c2); (try clear p2); (try clear c4); (try clear p6); (try clear c8)
  obtain ⟨kq, x7_3, x360001_3, x360002_3, rfl, HA, HJ3, HO_6, HI359, HB⟩ := hcut
  cases kq with
  | zero => exact absurd HA.out (by simp [spec_DrawRunWithStops.j0])
  | succ kj3 =>
   have H := HA.out
   clear HA
   simp only [spec_DrawRunWithStops.j0] at H
   have H' := Aside0.mk H
   clear H
   go_wp2
   go_loopg [6] kj3 (fun kq v6 w' => ∃ (x6_2 : List Int) (x360001_2 : Int) (x360002_2 : Int), Aside0 (spec_DrawRunWithStops.l0 kq x6_2 x7_3 l0 x360001_2 x360002_2 = some (r1, r2, r3)) ∧ Aside0 (kq ≤ kj3) ∧ Aside0 (Kd.R (Kd.int .i64) 3 w' w.heap.size (fun _ => True) v6 x6_2) ∧ Aside0 (IsS49 w w' gb359 l0 x360001_2 x360002_2) ∧ Aside0 (Below w.heap.size w w'))
   case atStart => exact ⟨(([] : List Int)), (x360001_3), (x360002_3), H', ⟨Nat.le_refl _⟩, ⟨Z1 HO_6.out⟩, ⟨Z4 HI359.out⟩, ⟨Z25⟩⟩
   case round =>
    clear H'
    obtain ⟨x6_2, x360001_2, x360002_2, HA, HK2, HO_6, HI359, HB⟩ := hrel
    cases gk with
    | zero => exact absurd HA.out (by simp [spec_DrawRunWithStops.l0])
    | succ k2 =>
     have H := HA.out
     clear HA
     simp only [spec_DrawRunWithStops.l0] at H
     by_cases c11 : (x6_2.length : Int) < x7_3
     ·rw [if_pos c11] at H
      have c11b0 : decide ((x6_2.length : Int) < x7_3) = true := decide_eq_true c11
      clear c11
      replace H := Option.bind_eq_some_iff.mp H
      obtain ⟨⟨t369, t370, t371⟩, A120, H⟩ := H
      (try dsimp only at H)
      have A12 := Aside0.mk A120
      clear A120
      obtain ⟨y372, hy372⟩ : ∃ y_ : List Int, y_ = (([0, 1, 3, 7, t369, 200] : List Int)) := ⟨_, rfl⟩
      replace H : ((spec_l1Cur_among.f l0 t370 t371 y372).bind fun bt375 => (if x6_2.length < 17592186044416 then (spec_DrawRunWithStops.l0 k2 (x6_2 ++ [bt375.1]) x7_3 l0 bt375.2.1 bt375.2.2) else (none))) = some (r1, r2, r3) := by first | (rw [hy372]; with_reducible exact H) | (have H2_ := (Option.bind_some _ _).symm.trans H; rw [hy372]; with_reducible exact H2_) | (have H2_ := (Option.bind_some _ _).symm.trans H; with_reducible exact H2_) | with_reducible exact H | (rw [hy372]; exact H) | exact H
      have Ny372 := Aside0.mk hy372
      clear hy372
      replace H := Option.bind_eq_some_iff.mp H
      obtain ⟨⟨t375, t376, t377⟩, A130, H⟩ := H
      (try dsimp only at H)
      have A13 := Aside0.mk A130
      clear A130
      by_cases c14 : x6_2.length < 17592186044416
      ·rw [if_pos c14] at H
       have LMc14 := Aside0.mk c14
       clear c14
       obtain ⟨y378, hy378⟩ : ∃ y_ : List Int, y_ = (x6_2 ++ [t375]) := ⟨_, rfl⟩
       replace H : (spec_DrawRunWithStops.l0 k2 y378 x7_3 l0 t376 t377) = some (r1, r2, r3) := by first | (rw [hy378]; with_reducible exact H) | (have H2_ := (Option.bind_some _ _).symm.trans H; rw [hy378]; with_reducible exact H2_) | (have H2_ := (Option.bind_some _ _).symm.trans H; with_reducible exact H2_) | with_reducible exact H | (rw [hy378]; exact H) | exact H
       have Ny378 := Aside0.mk hy378
       clear hy378
       have H' := Aside0.mk H
       clear H
       obtain ⟨Ao15, co15, eo15⟩ := Kd.R_slice HO_6.out
       subst eo15
       go_wp2_with (first | ((with_reducible refine gate_callee (f := 22) rfl ?_); refine gl_ 25 Try.func22 #[.pointer (some ⟨gb359, 0, none⟩), .int .i64 40] ?_; (with_reducible refine (spec_l1Cur_pick.calls gb359 l0 x360001_2 x360002_2 40 t369 t370 t371 w _ ?_ ?_ A12.out).mono ?_); exact Z4 HI359.out; exact Z25; rintro e w16 ⟨rfl, hi, hb, hk⟩; refine ⟨_, rfl, ?_⟩; refine k3_ (Kd.R_mono (Kd.R_keep (IsS49.apart (show IsS49 w _ gb359 l0 x360001_2 x360002_2 from Z4 HI359.out) (Z1 HO_6.out) (by decide)) hk (fun _ h => h.2)) (fun _ h => h.1)) (hb) (hi) ?_; clear HO_6 HB HI359; intro HO_6 HB HI359; (try clear hb hk hi)) | ((with_reducible refine gate_dst (N := 26) rfl ?_); refine Kd.R_lit (Kd.int .i64) _ 3 ?hg (N := 26) ?hd (xs := ([0, 1, 3, 7, t369, 200] : List Int)) (inner := [.int .i64 0, .int .i64 1, .int .i64 3, .int .i64 7, .int .i64 t369, .int .i64 200]) (ok := fun _ => True) (okp := fun _ => True) ?hr ?hp (fun _ hk => hk) trivial (Below.refl _ _) (Nat.le_refl _) (by simp) ?_; (case hd => rfl); (case hg => rfl); (case hr => exact Z100); (case hp => exact (Reps.one (show Kd.M (Kd.int .i64) _ _ _ 0 [.int .i64 0] from rfl) (Reps.one (show Kd.M (Kd.int .i64) _ _ _ 1 [.int .i64 1] from rfl) (Reps.one (show Kd.M (Kd.int .i64) _ _ _ 3 [.int .i64 3] from rfl) (Reps.one (show Kd.M (Kd.int .i64) _ _ _ 7 [.int .i64 7] from rfl) (Reps.one (show Kd.M (Kd.int .i64) _ _ _ t369 [.int .i64 t369] from rfl) (Reps.one (show Kd.M (Kd.int .i64) _ _ _ 200 [.int .i64 200] from rfl) (Reps.none _ _)))))))); intro v373 w17 ho18 hb hg_ hnew_; clear hg_ hnew_; (first | rw [← Ny372.out] at ho18 | (simp only [Int.reduceToNat] at ho18; rw [← Ny372.out] at ho18)); refine k4_ (Kd.R_elder' (Z1 HO_6.out) (Kd.R_base ho18) hb) (Kd.R_lower (Kd.R_new' ho18 (Yd_ HO_6.out)) (below_size (Z25))) (IsS49.below (Z4 HI359.out) hb) (below_step (Z25) hb) ?_; clear HO_6 HI359 HB; intro HO_6 HO374 HI359 HB; clear hb ho18; obtain ⟨Ao19, co19, eo19⟩ := Kd.R_slice HO374.out; subst eo19) | ((with_reducible refine gate_callee (f := 24) rfl ?_); refine gl_ 27 Try.func24 #[.pointer (some ⟨gb359, 0, none⟩), .slice Ao19 y372.length co19] ?_; (with_reducible refine (spec_l1Cur_among.calls gb359 l0 t370 t371 _ _ y372 t375 t376 t377 w _ ?_ ?_ ?_ ?_ ?_ A13.out).mono ?_); exact Z4 HI359.out; exact Z25; exact Z7 HO374.out; exact (Kd.R_reads' HO374.out).2.1; exact far_slice (IsS49.own_ne HI359.out HO374.out (by decide)); rintro e w20 ⟨rfl, hi, hb, hk⟩; refine ⟨_, rfl, ?_⟩; refine k4_ (Kd.R_mono (Kd.R_keep (IsS49.apart (show IsS49 w _ gb359 l0 t370 t371 from Z4 HI359.out) (Z1 HO_6.out) (by decide)) hk (fun _ h => h.2)) (fun _ h => h.1)) (Kd.R_mono (Kd.R_keep (IsS49.apart (show IsS49 w _ gb359 l0 t370 t371 from Z4 HI359.out) (Z1 HO374.out) (by decide)) hk (fun _ h => h.2)) (fun _ h => h.1)) (hb) (hi) ?_; clear HO_6 HO374 HB HI359; intro HO_6 HO374 HB HI359; (try clear hb hk hi)) | ((with_reducible refine gate_builtin (b := .append) (xs := #[.tmp 22, .tmp 28]) rfl ?_); at_builtin; refine Kd.R_append (Kd.int .i64) (w0 := w) w.heap.size rfl (.tmp 22) (.tmp 28) 24 3 (.int .i64 0) 8 rfl Try.underlying24 info3 rfl (by decide) (by omega) (.slice Ao15 x6_2.length co15) x6_2 t375 [.int .i64 t375] (fun k_ => some k_ ≠ (.slice Ao19 y372.length co19 : Value).ownBlock) (fun _ => False) rfl rfl ?aP (fun _ hk => hk.elim) ?aF ?aO ?aB ?aS ?aL ?_; (case aP => exact rfl); (case aB => exact Z25); (case aF => exact (fun k_ hk => Kd.fresh' (Yd_ HO374.out) k_ hk)); (case aO => exact Z83 HO_6.out); (case aS => exact (below_size (Z25))); (case aL => have := LMc14.out; omega); intro v379 w21 ho hb hg hat; rw [← Ny378.out] at ho; refine k4_ (IsS49.grown (Z4 HI359.out) hg (IsS49.own_ne HI359.out HO_6.out (by decide))) (Kd.R_after (ok := (fun _ => True)) (Z1 HO374.out) hg hat) (hb) (ho) ?_; clear HI359 HO374 HB HO_6; intro HI359 HO374 HB HO380; clear ho hb hg hat))
       go_roundg k2
       case measure => have := HJ3.out; have := HK2.out; omega
       case rel => exact ⟨(y378), (t376), (t377), H', ⟨Z153 HJ3.out⟩, ⟨Z103 HO380.out⟩, ⟨Z4 HI359.out⟩, ⟨Z25⟩⟩
      rw [if_neg c14] at H
      exact absurd H (by simp)
     rw [if_neg c11] at H
     have c11b0 : decide ((x6_2.length : Int) < x7_3) = false := decide_eq_false c11
     clear c11
     have HC22 := Aside0.mk H
     clear H
     obtain ⟨Ao23, co23, eo23⟩ := Kd.R_slice HO_6.out
     subst eo23
     go_upto_region 8 with (fail)
     go_cut [35] (fun v35 wc => ∃ (kq : Nat) (x35_21 : Bool) (x360001_21 : Int) (x360002_21 : Int), v35 = .bool x35_21 ∧ Aside0 (spec_DrawRunWithStops.j2 kq x6_2 x7_3 x35_21 l0 x360001_21 x360002_21 = some (r1, r2, r3)) ∧ Aside0 (kq ≤ k2) ∧ Aside0 (Kd.R (Kd.int .i64) 3 wc w.heap.size (fun _ => True) (.slice Ao23 x6_2.length co23) x6_2) ∧ Aside0 (IsS49 w wc gb359 l0 x360001_21 x360002_21) ∧ Aside0 (Below w.heap.size w wc))
     case first =>
      have H := HC22.out
      clear HC22
      by_cases c24 : x7_3 > 0
      ·rw [if_pos c24] at H
       have c24b0 : decide (0 < x7_3) = true := decide_eq_true c24
       clear c24
       (first | rw [c24b0] | (simp only [i64_w, i32_w]; rw [c24b0]) | skip)
       replace H := Option.bind_eq_some_iff.mp H
       obtain ⟨⟨t381, t382, t383⟩, A250, H⟩ := H
       (try dsimp only at H)
       have A25 := Aside0.mk A250
       clear A250
       have H' := Aside0.mk H
       clear H
       go_wp2_with (first | (go_at_call 23; (with_reducible refine (spec_l1Cur_one.calls gb359 l0 x360001_2 x360002_2 24 t381 t382 t383 w _ ?_ ?_ A25.out).mono ?_); exact Z4 HI359.out; exact Z25; rintro e w26 ⟨rfl, hi, hb, hk⟩; refine k3_ (Kd.R_mono (Kd.R_keep (IsS49.apart (show IsS49 w _ gb359 l0 x360001_2 x360002_2 from Z4 HI359.out) (Z1 HO_6.out) (by decide)) hk (fun _ h => h.2)) (fun _ h => h.1)) (hb) (hi) ?_; clear HO_6 HB HI359; intro HO_6 HB HI359; (try clear hb hk hi)))
       go_meet
       case rel => exact ⟨_, (t381), (t382), (t383), (Z17), H', ⟨by have := HJ3.out; have := HK2.out; first | omega | exact Nat.le_refl _⟩, ⟨Z1 HO_6.out⟩, ⟨Z4 HI359.out⟩, ⟨Z25⟩⟩
      rw [if_neg c24] at H
      have c24b0 : decide (0 < x7_3) = false := decide_eq_false c24
      clear c24
      (first | rw [c24b0] | (simp only [i64_w, i32_w]; rw [c24b0]) | skip)
      have H' := Aside0.mk H
      clear H
      go_wp2
      go_meet
      case rel => exact ⟨_, (false), (x360001_2), (x360002_2), (Z17), H', ⟨by have := HJ3.out; have := HK2.out; first | omega | exact Nat.le_refl _⟩, ⟨Z1 HO_6.out⟩, ⟨Z4 HI359.out⟩, ⟨Z25⟩⟩
     case rest =>
      clear HC22
      (try clear c1); (try clear c11); (try clear c11b0); (try clear c14); (try clear c22); (try clear c23); (try clear c24); (try clear c24b0)
      obtain ⟨kq, x35_21, x360001_21, x360002_21, rfl, HA, HJ21, HO_6, HI359, HB⟩ := hcut
      cases kq with
      | zero => exact absurd HA.out (by simp [spec_DrawRunWithStops.j2])
      | succ kj21 =>
       have H := HA.out
       clear HA
       simp only [spec_DrawRunWithStops.j2] at H
       by_cases c27 : x35_21 = true
       ·subst c27
        rw [if_pos rfl] at H
        replace H := Option.bind_eq_some_iff.mp H
        obtain ⟨⟨t384, t385, t386⟩, A280, H⟩ := H
        (try dsimp only at H)
        have A28 := Aside0.mk A280
        clear A280
        obtain ⟨y387, hy387⟩ : ∃ y_ : List Int, y_ = (([(-1), 201] : List Int)) := ⟨_, rfl⟩
        replace H : ((spec_l1Cur_among.f l0 t385 t386 y387).bind fun bt390 => (if 0 ≤ t384 then (if t384 < (x6_2.length : Int) then ((spec_l1Cur_madeSheet.f kj21 l0 bt390.2.1 bt390.2.2).bind fun bt394 => ((spec_l1Cur_mark.f l0 bt394.2.1 bt394.2.2).bind fun bt399 => (some (bt394.1, (x6_2.set (t384 : Int).toNat bt390.1), bt399.1)))) else (none)) else (none))) = some (r1, r2, r3) := by first | (rw [hy387]; with_reducible exact H) | (have H2_ := (Option.bind_some _ _).symm.trans H; rw [hy387]; with_reducible exact H2_) | (have H2_ := (Option.bind_some _ _).symm.trans H; with_reducible exact H2_) | with_reducible exact H | (rw [hy387]; exact H) | exact H
        have Ny387 := Aside0.mk hy387
        clear hy387
        replace H := Option.bind_eq_some_iff.mp H
        obtain ⟨⟨t390, t391, t392⟩, A290, H⟩ := H
        (try dsimp only at H)
        have A29 := Aside0.mk A290
        clear A290
        by_cases c30 : 0 ≤ t384
        ·rw [if_pos c30] at H
         have c30b0 : decide (0 ≤ t384) = true := decide_eq_true c30
         clear c30
         by_cases c31 : t384 < (x6_2.length : Int)
         ·rw [if_pos c31] at H
          have c31b0 : decide (t384 < (x6_2.length : Int)) = true := decide_eq_true c31
          clear c31
          obtain ⟨y393, hy393⟩ : ∃ y_ : List Int, y_ = (x6_2.set (t384 : Int).toNat t390) := ⟨_, rfl⟩
          replace H : ((spec_l1Cur_madeSheet.f kj21 l0 t391 t392).bind fun bt394 => ((spec_l1Cur_mark.f l0 bt394.2.1 bt394.2.2).bind fun bt399 => (some (bt394.1, y393, bt399.1)))) = some (r1, r2, r3) := by first | (rw [hy393]; with_reducible exact H) | (have H2_ := (Option.bind_some _ _).symm.trans H; rw [hy393]; with_reducible exact H2_) | (have H2_ := (Option.bind_some _ _).symm.trans H; with_reducible exact H2_) | with_reducible exact H | (rw [hy393]; exact H) | exact H
          have Ny393 := Aside0.mk hy393
          clear hy393
          replace H := Option.bind_eq_some_iff.mp H
          obtain ⟨⟨t394, t397, t398⟩, A330, H⟩ := H
          (try dsimp only at H)
          have A33 := Aside0.mk A330
          clear A330
          replace H := Option.bind_eq_some_iff.mp H
          obtain ⟨⟨t399, t400, t401⟩, A340, H⟩ := H
          (try dsimp only at H)
          have A34 := Aside0.mk A340
          clear A340
          simp only [Option.some.injEq, Prod.mk.injEq] at H
          obtain ⟨rfl, rfl, rfl⟩ := H
          go_wp2_with (first | ((with_reducible refine gate_callee (f := 22) rfl ?_); refine gl_ 39 Try.func22 #[.pointer (some ⟨gb359, 0, none⟩), .int .i64 x7_3] ?_; (with_reducible refine (spec_l1Cur_pick.calls gb359 l0 x360001_21 x360002_21 x7_3 t384 t385 t386 w _ ?_ ?_ A28.out).mono ?_); exact Z4 HI359.out; exact Z25; rintro e w35 ⟨rfl, hi, hb, hk⟩; refine ⟨_, rfl, ?_⟩; refine k3_ (Kd.R_mono (Kd.R_keep (IsS49.apart (show IsS49 w _ gb359 l0 x360001_21 x360002_21 from Z4 HI359.out) (Z1 HO_6.out) (by decide)) hk (fun _ h => h.2)) (fun _ h => h.1)) (hb) (hi) ?_; clear HO_6 HB HI359; intro HO_6 HB HI359; (try clear hb hk hi)) | ((with_reducible refine gate_dst (N := 41) rfl ?_); refine Kd.R_lit (Kd.int .i64) _ 3 ?hg (N := 41) ?hd (xs := ([(-1), 201] : List Int)) (inner := [.int .i64 (-1), .int .i64 201]) (ok := fun _ => True) (okp := fun _ => True) ?hr ?hp (fun _ hk => hk) trivial (Below.refl _ _) (Nat.le_refl _) (by simp) ?_; (case hd => rfl); (case hg => rfl); (case hr => exact Z100); (case hp => exact (Reps.one (show Kd.M (Kd.int .i64) _ _ _ (-1) [.int .i64 (-1)] from rfl) (Reps.one (show Kd.M (Kd.int .i64) _ _ _ 201 [.int .i64 201] from rfl) (Reps.none _ _)))); intro v388 w36 ho37 hb hg_ hnew_; clear hg_ hnew_; (first | rw [← Ny387.out] at ho37 | (simp only [Int.reduceToNat] at ho37; rw [← Ny387.out] at ho37)); refine k4_ (Kd.R_elder' (Z1 HO_6.out) (Kd.R_base ho37) hb) (Kd.R_lower (Kd.R_new' ho37 (Yd_ HO_6.out)) (below_size (Z25))) (IsS49.below (Z4 HI359.out) hb) (below_step (Z25) hb) ?_; clear HO_6 HI359 HB; intro HO_6 HO389 HI359 HB; clear hb ho37; obtain ⟨Ao38, co38, eo38⟩ := Kd.R_slice HO389.out; subst eo38) | ((with_reducible refine gate_callee (f := 24) rfl ?_); refine gl_ 42 Try.func24 #[.pointer (some ⟨gb359, 0, none⟩), .slice Ao38 y387.length co38] ?_; (with_reducible refine (spec_l1Cur_among.calls gb359 l0 t385 t386 _ _ y387 t390 t391 t392 w _ ?_ ?_ ?_ ?_ ?_ A29.out).mono ?_); exact Z4 HI359.out; exact Z25; exact Z7 HO389.out; exact (Kd.R_reads' HO389.out).2.1; exact far_slice (IsS49.own_ne HI359.out HO389.out (by decide)); rintro e w39 ⟨rfl, hi, hb, hk⟩; refine ⟨_, rfl, ?_⟩; refine k4_ (Kd.R_mono (Kd.R_keep (IsS49.apart (show IsS49 w _ gb359 l0 t385 t386 from Z4 HI359.out) (Z1 HO_6.out) (by decide)) hk (fun _ h => h.2)) (fun _ h => h.1)) (Kd.R_mono (Kd.R_keep (IsS49.apart (show IsS49 w _ gb359 l0 t385 t386 from Z4 HI359.out) (Z1 HO389.out) (by decide)) hk (fun _ h => h.2)) (fun _ h => h.1)) (hb) (hi) ?_; clear HO_6 HO389 HB HI359; intro HO_6 HO389 HB HI359; (try clear hb hk hi); have p32 : 0 ≤ (t384 : Int) := of_decide_eq_true (Z18); have q32 : (t384 : Int) < ((x6_2.length : Int) : Int) := of_decide_eq_true (Z18); obtain ⟨go32, co32, eo32, gb32, gl32, cl32, HG32⟩ := Kd.R_form HO_6.out (by omega); (first | cases eo32 | (injection eo32 with ea_ en_ ec_; (first | subst ea_ | (injection ea_ with ea_; subst ea_)); subst ec_; clear en_)); have GB32 := Aside0.mk gb32; have GG32 := Aside0.mk HG32; clear gb32 gl32 HG32; obtain ⟨hx32_0, hf32_0⟩ := Kd.R_celln 0 HO_6.out (t384 : Int) p32 q32; replace p32 := eq_true p32; replace q32 := eq_true q32; have n_ := Aside0.mk (Kd.R_mono (ok' := (fun k_ => some k_ ≠ (.slice Ao38 y387.length co38 : Value).ownBlock)) HO_6.out (fun k_ hk => hk.2)); clear HO_6; have HO_6 := n_; clear n_; obtain ⟨hy40_, hz40_⟩ := Kd.R_celln 0 HO_6.out (t384 : Int) (of_decide_eq_true (Z18)) (of_decide_eq_true (Z18)); have HP40 := Kd.R_putg HO_6.out (t384 : Int) t390) | ((with_reducible refine gate_store (t := 3) (p := 43) rfl ?_); refine store_event (t := 3) (p := 43) (v := ?vo_w41) (w1 := (w39.setCell ⟨go32, (t384 : Int).toNat, none⟩ (.int .i64 t390))) ?hg ?ho ?hn ?hr ?_; (case ho => rfl); (case hg => rfl); (case hn => rfl); (case hr => exact Z100); intro w41 hw; have hg : w39.grownBy w41 (some go32) := (by rw [hw]; exact HP40.2); have hp_ : Kd.R (Kd.int .i64) 3 w41 w.heap.size (fun k_ => some k_ ≠ (.slice Ao38 y387.length co38 : Value).ownBlock) (.slice (some ⟨go32, 0, none⟩) x6_2.length co23) y393 := (by rw [hw, Ny393.out]; exact HP40.1); clear HP40; refine k4_ (hp_) (IsS49.grown (Z4 HI359.out) hg (IsS49.own_ne HI359.out HO_6.out (by decide))) (Kd.R_after (v := (.slice (some ⟨go32, 0, none⟩) x6_2.length co23)) (v1 := (.slice (some ⟨go32, 0, none⟩) x6_2.length co23)) (ok := (fun _ => True)) (Z1 HO389.out) hg (.inl rfl)) ((by rw [hw]; exact below_set (HB.out) GB32.out : Below w.heap.size w w41)) ?_; clear HO_6 HI359 HO389 HB; intro HO_6 HI359 HO389 HB; clear hg hw hp_) | ((with_reducible refine gate_callee (f := 25) rfl ?_); refine gl_ 45 Try.func25 #[.pointer (some ⟨gb359, 0, none⟩)] ?_; (with_reducible refine (spec_l1Cur_madeSheet.calls kj21 gb359 l0 t391 t392 t394 t397 t398 w _ ?_ ?_ A33.out).mono ?_); exact Z4 HI359.out; exact Z25; rintro e w42 ⟨v395, rfl, ho0, hi, hb, hk⟩; refine ⟨_, rfl, ?_⟩; refine k5_ (Kd.R_mono (Kd.R_keep (IsS49.apart (show IsS49 w _ gb359 l0 t391 t392 from Z4 HI359.out) (Z1 HO_6.out) (by decide)) hk (fun _ h => h.2)) (fun _ h => h.1)) (Kd.R_mono (Kd.R_keep (IsS49.apart (show IsS49 w _ gb359 l0 t391 t392 from Z4 HI359.out) (Z1 HO389.out) (by decide)) hk (fun _ h => h.2)) (fun _ h => h.1)) (Kd.R_lower ho0 (below_size (Z25))) (hb) (hi) ?_; clear HO_6 HO389 HB HI359; intro HO_6 HO389 HO396 HB HI359; (try clear hb hk hi ho0)) | ((with_reducible refine gate_callee (f := 26) rfl ?_); refine gl_ 48 Try.func26 #[.pointer (some ⟨gb359, 0, none⟩)] ?_; (with_reducible refine (spec_l1Cur_mark.calls gb359 l0 t397 t398 t399 t400 t401 w _ ?_ ?_ A34.out).mono ?_); exact Z4 HI359.out; exact Z25; rintro e w43 ⟨rfl, hi, hb, hk⟩; refine ⟨_, rfl, ?_⟩; refine k5_ (Kd.R_mono (Kd.R_keep (IsS49.apart (show IsS49 w _ gb359 l0 t397 t398 from Z4 HI359.out) (Z1 HO_6.out) (by decide)) hk (fun _ h => h.2)) (fun _ h => h.1)) (Kd.R_mono (Kd.R_keep (IsS49.apart (show IsS49 w _ gb359 l0 t397 t398 from Z4 HI359.out) (Z1 HO389.out) (by decide)) hk (fun _ h => h.2)) (fun _ h => h.1)) (Kd.R_mono (Kd.R_keep (IsS49.apart (show IsS49 w _ gb359 l0 t397 t398 from Z4 HI359.out) (Z1 HO396.out) (by decide)) hk (fun _ h => h.2)) (fun _ h => h.1)) (hb) (hi) ?_; clear HO_6 HO389 HO396 HB HI359; intro HO_6 HO389 HO396 HB HI359; (try clear hb hk hi)))
          go_ret3
          exact ⟨_, _, Z11, Z1 HO396.out, Z103 HO_6.out, Z25⟩
         rw [if_neg c31] at H
         exact absurd H (by simp)
        rw [if_neg c30] at H
        exact absurd H (by simp)
       replace c27 := Bool.eq_false_iff.mpr c27
       subst c27
       rw [if_neg (show ¬ (false = true) by decide)] at H
       replace H := Option.bind_eq_some_iff.mp H
       obtain ⟨⟨t402, t405, t406⟩, A440, H⟩ := H
       (try dsimp only at H)
       have A44 := Aside0.mk A440
       clear A440
       replace H := Option.bind_eq_some_iff.mp H
       obtain ⟨⟨t407, t408, t409⟩, A450, H⟩ := H
       (try dsimp only at H)
       have A45 := Aside0.mk A450
       clear A450
       simp only [Option.some.injEq, Prod.mk.injEq] at H
       obtain ⟨rfl, rfl, rfl⟩ := H
       go_wp2_with (first | ((with_reducible refine gate_callee (f := 25) rfl ?_); refine gl_ 45 Try.func25 #[.pointer (some ⟨gb359, 0, none⟩)] ?_; (with_reducible refine (spec_l1Cur_madeSheet.calls kj21 gb359 l0 x360001_21 x360002_21 t402 t405 t406 w _ ?_ ?_ A44.out).mono ?_); exact Z4 HI359.out; exact Z25; rintro e w46 ⟨v403, rfl, ho0, hi, hb, hk⟩; refine ⟨_, rfl, ?_⟩; refine k4_ (Kd.R_mono (Kd.R_keep (IsS49.apart (show IsS49 w _ gb359 l0 x360001_21 x360002_21 from Z4 HI359.out) (Z1 HO_6.out) (by decide)) hk (fun _ h => h.2)) (fun _ h => h.1)) (Kd.R_lower ho0 (below_size (Z25))) (hb) (hi) ?_; clear HO_6 HB HI359; intro HO_6 HO404 HB HI359; (try clear hb hk hi ho0)) | ((with_reducible refine gate_callee (f := 26) rfl ?_); refine gl_ 48 Try.func26 #[.pointer (some ⟨gb359, 0, none⟩)] ?_; (with_reducible refine (spec_l1Cur_mark.calls gb359 l0 t405 t406 t407 t408 t409 w _ ?_ ?_ A45.out).mono ?_); exact Z4 HI359.out; exact Z25; rintro e w47 ⟨rfl, hi, hb, hk⟩; refine ⟨_, rfl, ?_⟩; refine k4_ (Kd.R_mono (Kd.R_keep (IsS49.apart (show IsS49 w _ gb359 l0 t405 t406 from Z4 HI359.out) (Z1 HO_6.out) (by decide)) hk (fun _ h => h.2)) (fun _ h => h.1)) (Kd.R_mono (Kd.R_keep (IsS49.apart (show IsS49 w _ gb359 l0 t405 t406 from Z4 HI359.out) (Z1 HO404.out) (by decide)) hk (fun _ h => h.2)) (fun _ h => h.1)) (hb) (hi) ?_; clear HO_6 HO404 HB HI359; intro HO_6 HO404 HB HI359; (try clear hb hk hi)))
       go_ret3
       exact ⟨_, _, Z11, Z1 HO404.out, Z1 HO_6.out, Z25⟩

/-! ### impl_isTrack: function 50 -/
def impl_isTrack.f (a0 : Int) : Option (Bool) := if a0 ≥ 0 then (some (decide (a0 < 20))) else (some false)
set_option maxHeartbeats 8000000 in
set_option maxRecDepth 100000 in
theorem impl_isTrack.calls (a0 : Int) (r : Bool) (w : World) (h : impl_isTrack.f a0 = some r) :
  Calls Try.prog 50 #[.int .i64 a0] w fun e w' => e = .returned (.bool r) ∧ Drawn0 w w' := by
 have H : (if a0 ≥ 0 then (some (decide (a0 < 20))) else (some false)) = some r := h
 clear h
 by_cases c2 : a0 ≥ 0
 ·rw [if_pos c2] at H
  have c2b0 : decide (0 ≤ a0) = true := decide_eq_true c2
  clear c2
  obtain rfl := Option.some.inj H
  go_enter Try.func50, Try.ntmps50
  go_wp2
  go_ret
  exact ⟨Z17, Z75⟩
 rw [if_neg c2] at H
 have c2b0 : decide (0 ≤ a0) = false := decide_eq_false c2
 clear c2
 obtain rfl := Option.some.inj H
 go_enter Try.func50, Try.ntmps50
 go_wp2
 go_ret
 exact ⟨Z17, Z75⟩

/-! ### impl_IsHole: function 39 -/
def impl_IsHole.f (a0_0 : Int) (a0_1 : Int) (a0_2 : Int) : Option (Bool) := (impl_isTrack.f a0_0).bind fun t411 => (if t411 = true then (if a0_1 ≥ 0 then (if a0_1 < a0_2 then (some (decide (a0_2 ≤ 2000))) else (some false)) else (some false)) else (some false))
set_option maxHeartbeats 8000000 in
set_option maxRecDepth 100000 in
theorem impl_IsHole.calls (a0_0 : Int) (a0_1 : Int) (a0_2 : Int) (r : Bool) (w : World) (h : impl_IsHole.f a0_0 a0_1 a0_2 = some r) :
  Calls Try.prog 39 #[.agg #[.int .i64 a0_0, .int .i64 a0_1, .int .i64 a0_2]] w fun e w' => e = .returned (.bool r) ∧ Below w.heap.size w w' := by
 have hu64 := Try.underlying64
 have HB := Aside0.mk (Below.refl w.heap.size w)
 have H : ((impl_isTrack.f a0_0).bind fun t411 => (if t411 = true then (if a0_1 ≥ 0 then (if a0_1 < a0_2 then (some (decide (a0_2 ≤ 2000))) else (some false)) else (some false)) else (some false))) = some r := h
 clear h
 replace H := Option.bind_eq_some_iff.mp H
 obtain ⟨t411, A20, H⟩ := H
 (try dsimp only at H)
 have A2 := Aside0.mk A20
 clear A20
 by_cases c3 : t411 = true
 ·subst c3
  rw [if_pos rfl] at H
  by_cases c4 : a0_1 ≥ 0
  ·rw [if_pos c4] at H
   have c4b0 : decide (0 ≤ a0_1) = true := decide_eq_true c4
   clear c4
   by_cases c5 : a0_1 < a0_2
   ·rw [if_pos c5] at H
    have c5b0 : decide (a0_1 < a0_2) = true := decide_eq_true c5
    clear c5
    obtain rfl := Option.some.inj H
    go_enter Try.func39, Try.ntmps39
    go_wp2_with (first | ((with_reducible refine gate_dst (N := 1) rfl ?_); refine bv_ 1 64 #[.int .i64 a0_0, .int .i64 a0_1, .int .i64 a0_2] ?_; intro gb410 hg w6 hbox hb; refine k4_ (below_step (Z3) hb) (hbox) ((Z26 : w.heap.size ≤ gb410)) ((Z26 : w.heap.size ≤ gb410)) ?_; clear HB; intro HB BK410 GW410 GE410; clear hb hbox hg; obtain ⟨hcz7_0, hcz7_1, hcz7_2, hfz7_0, hfz7_1, hfz7_2⟩ := bx3_ (w := w6) BK410.out) | ((with_reducible refine gate_callee (f := 50) rfl ?_); refine gl_ 5 Try.func50 #[.int .i64 a0_0] ?_; (with_reducible refine (impl_isTrack.calls a0_0 true _ A2.out).mono ?_); rintro e w' ⟨rfl, ⟨nd, rfl⟩⟩; refine ⟨_, rfl, ?_⟩))
    go_ret
    exact ⟨Z11, Z133⟩
   rw [if_neg c5] at H
   have c5b0 : decide (a0_1 < a0_2) = false := decide_eq_false c5
   clear c5
   obtain rfl := Option.some.inj H
   go_enter Try.func39, Try.ntmps39
   go_wp2_with (first | ((with_reducible refine gate_dst (N := 1) rfl ?_); refine bv_ 1 64 #[.int .i64 a0_0, .int .i64 a0_1, .int .i64 a0_2] ?_; intro gb410 hg w8 hbox hb; refine k4_ (below_step (Z3) hb) (hbox) ((Z26 : w.heap.size ≤ gb410)) ((Z26 : w.heap.size ≤ gb410)) ?_; clear HB; intro HB BK410 GW410 GE410; clear hb hbox hg; obtain ⟨hcz9_0, hcz9_1, hcz9_2, hfz9_0, hfz9_1, hfz9_2⟩ := bx3_ (w := w8) BK410.out) | ((with_reducible refine gate_callee (f := 50) rfl ?_); refine gl_ 5 Try.func50 #[.int .i64 a0_0] ?_; (with_reducible refine (impl_isTrack.calls a0_0 true _ A2.out).mono ?_); rintro e w' ⟨rfl, ⟨nd, rfl⟩⟩; refine ⟨_, rfl, ?_⟩))
   go_ret
   exact ⟨Z11, Z133⟩
  rw [if_neg c4] at H
  have c4b0 : decide (0 ≤ a0_1) = false := decide_eq_false c4
  clear c4
  obtain rfl := Option.some.inj H
  go_enter Try.func39, Try.ntmps39
  go_wp2_with (first | ((with_reducible refine gate_dst (N := 1) rfl ?_); refine bv_ 1 64 #[.int .i64 a0_0, .int .i64 a0_1, .int .i64 a0_2] ?_; intro gb410 hg w10 hbox hb; refine k4_ (below_step (Z3) hb) (hbox) ((Z26 : w.heap.size ≤ gb410)) ((Z26 : w.heap.size ≤ gb410)) ?_; clear HB; intro HB BK410 GW410 GE410; clear hb hbox hg; obtain ⟨hcz11_0, hcz11_1, hcz11_2, hfz11_0, hfz11_1, hfz11_2⟩ := bx3_ (w := w10) BK410.out) | ((with_reducible refine gate_callee (f := 50) rfl ?_); refine gl_ 5 Try.func50 #[.int .i64 a0_0] ?_; (with_reducible refine (impl_isTrack.calls a0_0 true _ A2.out).mono ?_); rintro e w' ⟨rfl, ⟨nd, rfl⟩⟩; refine ⟨_, rfl, ?_⟩))
  go_ret
  exact ⟨Z11, Z133⟩
 replace c3 := Bool.eq_false_iff.mpr c3
 subst c3
 rw [if_neg (show ¬ (false = true) by decide)] at H
 obtain rfl := Option.some.inj H
 go_enter Try.func39, Try.ntmps39
 go_wp2_with (first | ((with_reducible refine gate_dst (N := 1) rfl ?_); refine bv_ 1 64 #[.int .i64 a0_0, .int .i64 a0_1, .int .i64 a0_2] ?_; intro gb410 hg w12 hbox hb; refine k4_ (below_step (Z3) hb) (hbox) ((Z26 : w.heap.size ≤ gb410)) ((Z26 : w.heap.size ≤ gb410)) ?_; clear HB; intro HB BK410 GW410 GE410; clear hb hbox hg; obtain ⟨hcz13_0, hcz13_1, hcz13_2, hfz13_0, hfz13_1, hfz13_2⟩ := bx3_ (w := w12) BK410.out) | ((with_reducible refine gate_callee (f := 50) rfl ?_); refine gl_ 5 Try.func50 #[.int .i64 a0_0] ?_; (with_reducible refine (impl_isTrack.calls a0_0 false _ A2.out).mono ?_); rintro e w' ⟨rfl, ⟨nd, rfl⟩⟩; refine ⟨_, rfl, ?_⟩))
 go_ret
 exact ⟨Z11, Z133⟩

/-! ### impl_holeLess: function 40 -/
def impl_holeLess.f (a0_0 : Int) (a0_1 : Int) (a0_2 : Int) (a1_0 : Int) (a1_1 : Int) (a1_2 : Int) : Option (Bool) := if a0_1 = a1_1 then (some (decide (a0_0 < a1_0))) else (some (decide (a0_1 < a1_1)))
set_option maxHeartbeats 8000000 in
set_option maxRecDepth 100000 in
theorem impl_holeLess.calls (a0_0 : Int) (a0_1 : Int) (a0_2 : Int) (a1_0 : Int) (a1_1 : Int) (a1_2 : Int) (r : Bool) (w : World) (h : impl_holeLess.f a0_0 a0_1 a0_2 a1_0 a1_1 a1_2 = some r) :
  Calls Try.prog 40 #[.agg #[.int .i64 a0_0, .int .i64 a0_1, .int .i64 a0_2], .agg #[.int .i64 a1_0, .int .i64 a1_1, .int .i64 a1_2]] w fun e w' => e = .returned (.bool r) ∧ Below w.heap.size w w' := by
 have hu64 := Try.underlying64
 have HB := Aside0.mk (Below.refl w.heap.size w)
 have H : (if a0_1 = a1_1 then (some (decide (a0_0 < a1_0))) else (some (decide (a0_1 < a1_1)))) = some r := h
 clear h
 by_cases c3 : a0_1 = a1_1
 ·rw [if_pos c3] at H
  have c3b0 : (a0_1 == a1_1) = true := beq_iff_eq.mpr c3
  have c3b1 : (a0_1 != a1_1) = false := bne_eq_false_iff_eq.mpr c3
  clear c3
  obtain rfl := Option.some.inj H
  go_enter Try.func40, Try.ntmps40
  go_wp2_with (first | ((with_reducible refine gate_dst (N := 2) rfl ?_); refine bv_ 2 64 #[.int .i64 a0_0, .int .i64 a0_1, .int .i64 a0_2] ?_; intro gb412 hg w4 hbox hb; refine k4_ (below_step (Z3) hb) (hbox) ((Z26 : w.heap.size ≤ gb412)) ((Z26 : w.heap.size ≤ gb412)) ?_; clear HB; intro HB BK412 GW412 GE412; clear hb hbox hg) | ((with_reducible refine gate_dst (N := 3) rfl ?_); refine bv_ 3 64 #[.int .i64 a1_0, .int .i64 a1_1, .int .i64 a1_2] ?_; intro gb413 hg w5 hbox hb; refine k7_ (blk_below (g := gb412) (o := .cells #[.int .i64 a0_0, .int .i64 a0_1, .int .i64 a0_2] 64 (0, 0)) (Z2 BK412.out) hb) (below_step (Z117) hb) (hbox) ((by rw [hg]; exact (below_size (Z117)) : w.heap.size ≤ gb413)) ((by rw [hg]; exact (below_size (Z117)) : w.heap.size ≤ gb413)) ((Z212 : gb412 ≠ gb413)) ((Z213 : gb413 ≠ gb412)) ?_; clear BK412 HB; intro BK412 HB BK413 GW413 GE413 NB412_413 NB413_412; clear hb hbox hg; have hnb6 := NB412_413.out; have hnc6 := NB413_412.out; obtain ⟨hcz7_0, hcz7_1, hcz7_2, hfz7_0, hfz7_1, hfz7_2⟩ := bx3_ (w := w5) BK412.out; obtain ⟨hcz8_0, hcz8_1, hcz8_2, hfz8_0, hfz8_1, hfz8_2⟩ := bx3_ (w := w5) BK413.out))
  go_ret
  exact ⟨Z11, Z179⟩
 rw [if_neg c3] at H
 have c3b0 : (a0_1 == a1_1) = false := beq_eq_false_iff_ne.mpr c3
 have c3b1 : (a0_1 != a1_1) = true := bne_iff_ne.mpr c3
 obtain rfl := Option.some.inj H
 go_enter Try.func40, Try.ntmps40
 go_wp2_with (first | ((with_reducible refine gate_dst (N := 2) rfl ?_); refine bv_ 2 64 #[.int .i64 a0_0, .int .i64 a0_1, .int .i64 a0_2] ?_; intro gb412 hg w9 hbox hb; refine k4_ (below_step (Z3) hb) (hbox) ((Z26 : w.heap.size ≤ gb412)) ((Z26 : w.heap.size ≤ gb412)) ?_; clear HB; intro HB BK412 GW412 GE412; clear hb hbox hg) | ((with_reducible refine gate_dst (N := 3) rfl ?_); refine bv_ 3 64 #[.int .i64 a1_0, .int .i64 a1_1, .int .i64 a1_2] ?_; intro gb413 hg w10 hbox hb; refine k7_ (blk_below (g := gb412) (o := .cells #[.int .i64 a0_0, .int .i64 a0_1, .int .i64 a0_2] 64 (0, 0)) (Z2 BK412.out) hb) (below_step (Z117) hb) (hbox) ((by rw [hg]; exact (below_size (Z117)) : w.heap.size ≤ gb413)) ((by rw [hg]; exact (below_size (Z117)) : w.heap.size ≤ gb413)) ((Z212 : gb412 ≠ gb413)) ((Z213 : gb413 ≠ gb412)) ?_; clear BK412 HB; intro BK412 HB BK413 GW413 GE413 NB412_413 NB413_412; clear hb hbox hg; have hnb11 := NB412_413.out; have hnc11 := NB413_412.out; obtain ⟨hcz12_0, hcz12_1, hcz12_2, hfz12_0, hfz12_1, hfz12_2⟩ := bx3_ (w := w10) BK412.out; obtain ⟨hcz13_0, hcz13_1, hcz13_2, hfz13_0, hfz13_1, hfz13_2⟩ := bx3_ (w := w10) BK413.out))
 go_ret
 exact ⟨Z11, Z179⟩

end Go.Proofs.Ytflefblmaopaiaa.PFnStops
