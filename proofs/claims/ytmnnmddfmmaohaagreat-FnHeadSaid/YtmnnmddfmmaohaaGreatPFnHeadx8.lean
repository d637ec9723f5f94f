-- written by a program of this session: the kit's print, with outer functions of the session's own (wip/ext)
import Derived.Test.YtmnnmddfmmaohaaGreatPFnHeadx0
import Derived.Test.YtmnnmddfmmaohaaGreatPFnHeadx2
import Derived.Test.YtmnnmddfmmaohaaGreatPFnHeadx5
import Derived.Test.YtmnnmddfmmaohaaGreatPFnHeadx7
namespace Go.Proofs.YtmnnmddfmmaohaaGreat.PFnHead
open Go.RowKit Go.Proofs.YtmnnmddfmmaohaaGreatW.PrintWords Go.Proofs.YtmnnmddfmmaohaaGreatW.PrintLast Go.Proofs.YtmnnmddfmmaohaaGreatW.PrintMore
attribute [local go_sem] max2_int min2_int max_two min_two max_three min_three max_four min_four   -- for this text's walks alone
set_option linter.unusedVariables false
set_option linter.unusedSimpArgs false
theorem mo8_ {p : Prop} (h : p := by repeat' first | (with_reducible first | apply ih0 | apply ih0 | apply ih1 | apply ih1 | apply ih2 | apply ih2 | apply ih3 | apply ih3 | apply spec_l1Cur_madeSheet.mono | apply spec_l1Cur_madeSheet.mono | apply spec_l1Cur_strokes.mono | apply spec_l1Cur_strokes.mono | apply spec_puStrokes.mono | apply spec_puStrokes.mono | exact LeO.refl _ | exact LeO.none _ | refine LeO.ite ?_ ?_ | refine LeO.bind ?_ (fun _ => ?_)) | exact LeO.none _ | refine LeO.ite ?_ ?_ | refine LeO.bind ?_ (fun _ => ?_)) : p := h

/-! ### spec_l1Cur_strokes: function 21 -/
mutual
def spec_l1Cur_strokes.j0 : Nat → List (S30) → Bool → List Int → Int → Int → Option ((List (S30)) × Int × Int)
 | 0, _, _, _, _, _ => none
 | k + 1, x3, x19, bm, bH, bI => if x19 = true then ((spec_l1Cur_pick.f bm bH bI 7).bind fun uZ => (spec_l1Cur_strokes.l0 k ([] : List (S30)) uZ.1 bm uZ.2.1 uZ.2.2)) else (spec_l1Cur_strokes.j2 k x3 bm bH bI)
def spec_l1Cur_strokes.j2 : Nat → List (S30) → List Int → Int → Int → Option ((List (S30)) × Int × Int)
 | 0, _, _, _, _ => none
 | k + 1, x3, bm, bH, bI => if (x3.length : Int) > 0 then ((spec_l1Cur_pick.f bm bH bI (x3.length : Int)).bind fun iV => (if 0 ≤ iV.1 then (if iV.1 < (x3.length : Int) then ((spec_l1Cur_pick.f bm iV.2.1 iV.2.2 30).bind fun gj => (if gj.1 = 0 then ((spec_l1Cur_among.f bm gj.2.1 gj.2.2 (([(-1), 19, 20] : List Int))).bind fun ld => (some ((x3.set (iV.1 : Int).toNat (⟨ld.1, (rd_T30 x3 iV.1).f1⟩ : S30)), ld.2.1, ld.2.2))) else (if gj.1 = 1 then ((spec_l1Cur_among.f bm gj.2.1 gj.2.2 (([(-1), 1999, 2000] : List Int))).bind fun lf => (some ((x3.set (iV.1 : Int).toNat (⟨(rd_T30 x3 iV.1).f0, lf.1⟩ : S30)), lf.2.1, lf.2.2))) else (if gj.1 = 2 then ((spec_l1Cur_pick.f bm gj.2.1 gj.2.2 2).bind fun u0 => (spec_l1Cur_strokes.l1 k x3 (wrap64 (200 + u0.1)) bm u0.2.1 u0.2.2)) else (some (x3, gj.2.1, gj.2.2)))))) else (none)) else (none))) else (some (x3, bH, bI))
def spec_l1Cur_strokes.l1 : Nat → List (S30) → Int → List Int → Int → Int → Option ((List (S30)) × Int × Int)
 | 0, _, _, _, _, _ => none
 | k + 1, x3, x7, bm, bH, bI => if (x3.length : Int) < x7 then (if x3.length < 8796093022208 then (spec_l1Cur_strokes.l1 k (x3 ++ [(⟨1, (x3.length : Int)⟩ : S30)]) x7 bm bH bI) else (none)) else (some (x3, bH, bI))
def spec_l1Cur_strokes.l0 : Nat → List (S30) → Int → List Int → Int → Int → Option ((List (S30)) × Int × Int)
 | 0, _, _, _, _, _ => none
 | k + 1, x3, x5, bm, bH, bI => if x5 > 0 then ((spec_l1Cur_pick.f bm bH bI 5).bind fun u1 => ((spec_l1Cur_pick.f bm u1.2.1 u1.2.2 30).bind fun u2 => ((spec_l1Cur_among.f bm u2.2.1 u2.2.2 (([0, 3, 4, u2.1, 1998] : List Int))).bind fun lg => (if x3.length < 8796093022208 then (spec_l1Cur_strokes.l0 k (x3 ++ [(⟨u1.1, lg.1⟩ : S30)]) (wrap64 (x5 - 1)) bm lg.2.1 lg.2.2) else (none))))) else (spec_l1Cur_strokes.j2 k x3 bm bH bI)
end
def spec_l1Cur_strokes.f (k : Nat) (s0_0 : List Int) (s0_1 : Int) (s0_2 : Int) : Option ((List (S30)) × Int × Int) := (spec_l1Cur_madeSheet.f k s0_0 s0_1 s0_2).bind fun gl => ((spec_puStrokes.f k gl.1).bind fun lh => (if lh.2 = true then ((spec_l1Cur_one.f s0_0 gl.2.1 gl.2.2 3).bind fun ll => (spec_l1Cur_strokes.j0 k lh.1 ll.1 s0_0 ll.2.1 ll.2.2)) else (spec_l1Cur_strokes.j0 k lh.1 true s0_0 gl.2.1 gl.2.2)))
theorem spec_l1Cur_strokes.mono_l : ∀ k, (∀ y0 y1 y2 y3 y4, LeO (spec_l1Cur_strokes.j0 k y0 y1 y2 y3 y4) (spec_l1Cur_strokes.j0 (k + 1) y0 y1 y2 y3 y4)) ∧ (∀ y0 y1 y2 y3, LeO (spec_l1Cur_strokes.j2 k y0 y1 y2 y3) (spec_l1Cur_strokes.j2 (k + 1) y0 y1 y2 y3)) ∧ (∀ y0 y1 y2 y3 y4, LeO (spec_l1Cur_strokes.l1 k y0 y1 y2 y3 y4) (spec_l1Cur_strokes.l1 (k + 1) y0 y1 y2 y3 y4)) ∧ (∀ y0 y1 y2 y3 y4, LeO (spec_l1Cur_strokes.l0 k y0 y1 y2 y3 y4) (spec_l1Cur_strokes.l0 (k + 1) y0 y1 y2 y3 y4))
 | 0 => ⟨fun _ _ _ _ _ r h => by simp [spec_l1Cur_strokes.j0] at h, fun _ _ _ _ r h => by simp [spec_l1Cur_strokes.j2] at h, fun _ _ _ _ _ r h => by simp [spec_l1Cur_strokes.l1] at h, fun _ _ _ _ _ r h => by simp [spec_l1Cur_strokes.l0] at h⟩
 | k + 1 => by
  obtain ⟨ih0, ih1, ih2, ih3⟩ := spec_l1Cur_strokes.mono_l k
  refine ⟨?_, ?_, ?_, ?_⟩
  ·intro y0 y1 y2 y3 y4
   unfold spec_l1Cur_strokes.j0
   exact mo8_
  ·intro y0 y1 y2 y3
   unfold spec_l1Cur_strokes.j2
   exact mo8_
  ·intro y0 y1 y2 y3 y4
   unfold spec_l1Cur_strokes.l1
   exact mo8_
  intro y0 y1 y2 y3 y4
  unfold spec_l1Cur_strokes.l0
  exact mo8_
theorem spec_l1Cur_strokes.mono : ∀ a0 a1 a2 k, LeO (spec_l1Cur_strokes.f k a0 a1 a2) (spec_l1Cur_strokes.f (k + 1) a0 a1 a2) := by
 intro a0 a1 a2 k
 obtain ⟨ih0, ih1, ih2, ih3⟩ := spec_l1Cur_strokes.mono_l k
 unfold spec_l1Cur_strokes.f
 exact mo8_
set_option maxHeartbeats 8000000 in
set_option maxRecDepth 100000 in
theorem spec_l1Cur_strokes.calls (k : Nat) (g : Nat) (s0_0 : List Int) (s0_1 : Int) (s0_2 : Int) (r1 : List (S30)) (r2 : Int) (r3 : Int) (w0 w : World) (hI : IsS45 w0 w g s0_0 s0_1 s0_2) (hB : Below w0.heap.size w0 w) (h : spec_l1Cur_strokes.f k s0_0 s0_1 s0_2 = some (r1, r2, r3)) :
  Calls Tryz.prog 21 #[.pointer (some ⟨g, 0, none⟩)] w fun e w' => ∃ v0_ : Value, e = .returned (v0_) ∧ Kd.R k30 30 w' w.heap.size (fun _ => True) v0_ r1 ∧ IsS45 w0 w' g s0_0 r2 r3 ∧ Below w0.heap.size w0 w' ∧ KeepBut w w' g none := by
 have hu30 := Tryz.underlying30
 have HI0 := Aside0.mk hI
 have HK := Aside0.mk (KeepBut.refl w g none)
 have HL := Aside0.mk hB.size
 clear hI
 have HW0 := Aside0.mk hB.size
 have HB := Aside0.mk hB
 clear hB
 have H : ((spec_l1Cur_madeSheet.f k s0_0 s0_1 s0_2).bind fun gl => ((spec_puStrokes.f k gl.1).bind fun lh => (if lh.2 = true then ((spec_l1Cur_one.f s0_0 gl.2.1 gl.2.2 3).bind fun ll => (spec_l1Cur_strokes.j0 k lh.1 ll.1 s0_0 ll.2.1 ll.2.2)) else (spec_l1Cur_strokes.j0 k lh.1 true s0_0 gl.2.1 gl.2.2)))) = some (r1, r2, r3) := h
 clear h
 replace H := Option.bind_eq_some_iff.mp H
 obtain ⟨⟨z2, u5, u6⟩, cK, H⟩ := H
 (try dsimp only at H)
 have A2 := Aside0.mk cK
 clear cK
 replace H := Option.bind_eq_some_iff.mp H
 obtain ⟨⟨wz, CI⟩, fN, H⟩ := H
 (try dsimp only at H)
 have A3 := Aside0.mk fN
 clear fN
 have HC4 := Aside0.mk H
 clear H
 go_enter Tryz.func21, Tryz.ntmps21
 go_upto_region 2 with (first | ((with_reducible refine gate_callee (f := 40) rfl ?_); refine gl_ 10 Tryz.func40 #[.pointer (some ⟨g, 0, none⟩)] ?_; (with_reducible refine (spec_l1Cur_madeSheet.calls k g s0_0 s0_1 s0_2 z2 u5 u6 w0 _ ?_ ?_ A2.out).mono ?_); exact (Z3 HI0); exact Z8; rintro e w5 ⟨v364, rfl, ho0, hi, hb, hk⟩; refine ⟨_, rfl, ?_⟩; refine k4_ (Kd.R_lower ho0 (keep_size (w := w) (g := g) (row := none) (Z7))) (KeepBut.trans (Z7) hk (.inl rfl)) (hb) (hi) ?_; clear HK HB HI0; intro ic HK HB HI0; (try clear hb hk hi ho0); obtain ⟨AN, AO, AP⟩ := Kd.R_slice ic.out; subst AP) | ((with_reducible refine gate_callee (f := 39) rfl ?_); refine gl_ 11 Tryz.func39 #[.slice AN z2.length AO] ?_; (with_reducible refine (spec_puStrokes.calls k _ _ z2 wz CI _ ?_ ?_ A3.out).mono ?_); exact (Z5 ic); exact (Kd.R_reads' ic.out).2.1; rintro e w7 ⟨v370, rfl, ho0, hb⟩; refine ⟨_, rfl, ?_⟩; refine k5_ (Ya_ ic) (Kd.R_lower ho0 (keep_size (w := w) (g := g) (row := none) (Z7))) (IsS45.below (Z3 HI0) hb) (KeepBut.trans (Z7) (KeepBut.of_below hb g none) (.inl rfl)) (below_step (Z8) hb) ?_; clear ic HI0 HK HB; intro ic pg HI0 HK HB; (try clear hb ho0)))
 (try simp only [Act.put, List.setIfInBounds_toArray, List.set_cons_zero, List.set_cons_succ])
 go_cut [19] (fun Dx wc => ∃ (kq : Nat) (rz : Bool) (gs : Int) (gt : Int), Dx = .bool rz ∧ Aside0 (spec_l1Cur_strokes.j0 kq wz rz s0_0 gs gt = some (r1, r2, r3)) ∧ Aside0 (kq ≤ k) ∧ Aside0 (Kd.R k30 30 wc w.heap.size (fun _ => True) v370 wz) ∧ Aside0 (IsS45 w0 wc g s0_0 gs gt) ∧ Aside0 (KeepBut w wc g none) ∧ Aside0 (Below w0.heap.size w0 wc))
 case first =>
  have H := HC4.out
  clear HC4
  by_cases c8 : CI = true
  ·subst c8
   rw [if_pos rfl] at H
   replace H := Option.bind_eq_some_iff.mp H
   obtain ⟨⟨CJ, CK, CL⟩, CM, H⟩ := H
   (try dsimp only at H)
   have A9 := Aside0.mk CM
   clear CM
   have H' := Aside0.mk H
   clear H
   go_wp2_with (go_at_call 41; (with_reducible refine (spec_l1Cur_one.calls g s0_0 u5 u6 3 CJ CK CL w0 _ ?_ ?_ A9.out).mono ?_); exact (Z3 HI0); exact Z8; rintro e ng ⟨rfl, hi, hb, hk⟩; refine k5_ (Kd.R_mono (Kd.R_keep (IsS45.apart (show IsS45 w0 _ g s0_0 u5 u6 from Z3 HI0) (Z1 ic) (by decide)) hk (fun _ h => h.2)) (fun _ h => h.1)) (Kd.R_mono (Kd.R_keep (IsS45.apart (show IsS45 w0 _ g s0_0 u5 u6 from Z3 HI0) (Z1 pg) (by decide)) hk (fun _ h => h.2)) (fun _ h => h.1)) (KeepBut.trans (Z7) hk (.inl rfl)) (hb) (hi) ?_; clear ic pg HK HB HI0; intro ic pg HK HB HI0; (try clear hb hk hi))
   go_meet
   case rel => exact ⟨_, (CJ), (CK), (CL), (Z16), H', ⟨Z68⟩, ⟨Z1 pg⟩, ⟨Z3 HI0⟩, ⟨Z7⟩, ⟨Z8⟩⟩
  replace c8 := Bool.eq_false_iff.mpr c8
  subst c8
  rw [if_neg (show ¬ (false = true) by decide)] at H
  have H' := Aside0.mk H
  clear H
  go_wp2
  go_meet
  case rel => exact ⟨_, (true), (u5), (u6), (Z16), H', ⟨Z68⟩, ⟨Z1 pg⟩, ⟨Z3 HI0⟩, ⟨Z7⟩, ⟨Z8⟩⟩
 case rest =>
  clear HC4
  (try clear c2); (try clear p2); (try clear c3); (try clear c4); (try clear c8)
  obtain ⟨kq, rz, gs, gt, rfl, HA, AE, am, HI0, HK, HB⟩ := hcut
  cases kq with
  | zero => exact absurd HA.out (by simp [spec_l1Cur_strokes.j0])
  | succ DP =>
   have H := HA.out
   clear HA
   simp only [spec_l1Cur_strokes.j0] at H
   have HC11 := Aside0.mk H
   clear H
   go_upto_if 19 with (fail)
   go_cut [3] (fun v3 wc => ∃ (kq : Nat) (bf : List (S30)) (cH : Int) (cI : Int), Aside0 (spec_l1Cur_strokes.j2 kq bf s0_0 cH cI = some (r1, r2, r3)) ∧ Aside0 (kq ≤ DP) ∧ Aside0 (Kd.R k30 30 wc w.heap.size (fun _ => True) v3 bf) ∧ Aside0 (IsS45 w0 wc g s0_0 cH cI) ∧ Aside0 (KeepBut w wc g none) ∧ Aside0 (Below w0.heap.size w0 wc))
   case first =>
    have H := HC11.out
    clear HC11
    by_cases c12 : rz = true
    ·subst c12
     rw [if_pos rfl] at H
     replace H := Option.bind_eq_some_iff.mp H
     obtain ⟨⟨CN, CO, CP⟩, CQ, H⟩ := H
     (try dsimp only at H)
     have A13 := Aside0.mk CQ
     clear CQ
     have H' := Aside0.mk H
     clear H
     go_wp2_with ((with_reducible refine gate_callee (f := 22) rfl ?_); refine gl_ 21 Tryz.func22 #[.pointer (some ⟨g, 0, none⟩), .int .i64 7] ?_; (with_reducible refine (spec_l1Cur_pick.calls g s0_0 gs gt 7 CN CO CP w0 _ ?_ ?_ A13.out).mono ?_); exact (Z3 HI0); exact Z8; rintro e vE ⟨rfl, hi, hb, hk⟩; refine ⟨_, rfl, ?_⟩; refine k4_ (Kd.R_mono (Kd.R_keep (IsS45.apart (show IsS45 w0 _ g s0_0 gs gt from Z3 HI0) (Z1 am) (by decide)) hk (fun _ h => h.2)) (fun _ h => h.1)) (KeepBut.trans (Z7) hk (.inl rfl)) (hb) (hi) ?_; clear am HK HB HI0; intro am HK HB HI0; (try clear hb hk hi))
     (try simp only [Act.put, List.setIfInBounds_toArray, List.set_cons_zero, List.set_cons_succ])
     go_loopg [3, 5] DP (fun kq v3 v5 w' => ∃ (m2 : List (S30)) (m3 : Int) (gu : Int) (gv : Int), v5 = .int .i64 m3 ∧ Aside0 (spec_l1Cur_strokes.l0 kq m2 m3 s0_0 gu gv = some (r1, r2, r3)) ∧ Aside0 (kq ≤ DP) ∧ Aside0 (Kd.R k30 30 w' w.heap.size (fun _ => True) v3 m2) ∧ Aside0 (IsS45 w0 w' g s0_0 gu gv) ∧ Aside0 (KeepBut w w' g none) ∧ Aside0 (Below w0.heap.size w0 w'))
     case atStart => exact ⟨(([] : List (S30))), (CN), (CO), (CP), (Z16), H', ⟨Nat.le_refl _⟩, ⟨Z37⟩, ⟨Z3 HI0⟩, ⟨Z7⟩, ⟨Z8⟩⟩
     case round =>
      clear H'
      (try clear c1); (try clear c12)
      obtain ⟨m2, m3, gu, gv, rfl, HA, HK2, am, HI0, HK, HB⟩ := hrel
      cases gk with
      | zero => exact absurd HA.out (by simp [spec_l1Cur_strokes.l0])
      | succ k2 =>
       have H := HA.out
       clear HA
       simp only [spec_l1Cur_strokes.l0] at H
       by_cases c15 : m3 > 0
       ·rw [if_pos c15] at H
        have fO : decide (0 < m3) = true := decide_eq_true c15
        clear c15
        (first | rw [fO] | (simp only [i64_w, i32_w]; rw [fO]) | skip)
        replace H := Option.bind_eq_some_iff.mp H
        obtain ⟨⟨sn, z3, z4⟩, uW, H⟩ := H
        (try dsimp only at H)
        have DO := Aside0.mk uW
        clear uW
        replace H := Option.bind_eq_some_iff.mp H
        obtain ⟨⟨so, u9, vk⟩, CR, H⟩ := H
        (try dsimp only at H)
        have A17 := Aside0.mk CR
        clear CR
        obtain ⟨z5, ph⟩ : ∃ y_ : List Int, y_ = (([0, 3, 4, so, 1998] : List Int)) := ⟨_, rfl⟩
        replace H : ((spec_l1Cur_among.f s0_0 u9 vk z5).bind fun lg => (if m2.length < 8796093022208 then (spec_l1Cur_strokes.l0 k2 (m2 ++ [(⟨sn, lg.1⟩ : S30)]) (wrap64 (m3 - 1)) s0_0 lg.2.1 lg.2.2) else (none))) = some (r1, r2, r3) := by first | (rw [ph]; with_reducible exact H) | (have H2_ := (Option.bind_some _ _).symm.trans H; rw [ph]; with_reducible exact H2_) | (have H2_ := (Option.bind_some _ _).symm.trans H; with_reducible exact H2_) | with_reducible exact H | (rw [ph]; exact H) | exact H
        have ye := Aside0.mk ph
        clear ph
        replace H := Option.bind_eq_some_iff.mp H
        obtain ⟨⟨vl, z6, z7⟩, CS, H⟩ := H
        (try dsimp only at H)
        have A18 := Aside0.mk CS
        clear CS
        by_cases c19 : m2.length < 8796093022208
        ·rw [if_pos c19] at H
         have uA := Aside0.mk c19
         clear c19
         obtain ⟨CT, pi⟩ : ∃ y_ : List (S30), y_ = (m2 ++ [(⟨sn, vl⟩ : S30)]) := ⟨_, rfl⟩
         replace H : (spec_l1Cur_strokes.l0 k2 CT (wrap64 (m3 - 1)) s0_0 z6 z7) = some (r1, r2, r3) := by first | (rw [pi]; with_reducible exact H) | (have H2_ := (Option.bind_some _ _).symm.trans H; rw [pi]; with_reducible exact H2_) | (have H2_ := (Option.bind_some _ _).symm.trans H; with_reducible exact H2_) | with_reducible exact H | (rw [pi]; exact H) | exact H
         have Ny390 := Aside0.mk pi
         clear pi
         have H' := Aside0.mk H
         clear H
         go_wp2_with (first | ((with_reducible refine gate_callee (f := 22) rfl ?_); refine gl_ 28 Tryz.func22 #[.pointer (some ⟨g, 0, none⟩), .int .i64 5] ?_; (with_reducible refine (spec_l1Cur_pick.calls g s0_0 gu gv 5 sn z3 z4 w0 _ ?_ ?_ DO.out).mono ?_); exact (Z3 HI0); exact Z8; rintro e D8 ⟨rfl, hi, hb, hk⟩; refine ⟨_, rfl, ?_⟩; refine k4_ (Kd.R_mono (Kd.R_keep (IsS45.apart (show IsS45 w0 _ g s0_0 gu gv from Z3 HI0) (Z1 am) (by decide)) hk (fun _ h => h.2)) (fun _ h => h.1)) (KeepBut.trans (Z7) hk (.inl rfl)) (hb) (hi) ?_; clear am HK HB HI0; intro am HK HB HI0; (try clear hb hk hi)) | ((with_reducible refine gate_callee (f := 22) rfl ?_); refine gl_ 31 Tryz.func22 #[.pointer (some ⟨g, 0, none⟩), .int .i64 30] ?_; (with_reducible refine (spec_l1Cur_pick.calls g s0_0 z3 z4 30 so u9 vk w0 _ ?_ ?_ A17.out).mono ?_); exact (Z3 HI0); exact Z8; rintro e w21 ⟨rfl, hi, hb, hk⟩; refine ⟨_, rfl, ?_⟩; refine k4_ (Kd.R_mono (Kd.R_keep (IsS45.apart (show IsS45 w0 _ g s0_0 z3 z4 from Z3 HI0) (Z1 am) (by decide)) hk (fun _ h => h.2)) (fun _ h => h.1)) (KeepBut.trans (Z7) hk (.inl rfl)) (hb) (hi) ?_; clear am HK HB HI0; intro am HK HB HI0; (try clear hb hk hi)) | ((with_reducible refine gate_dst (N := 32) rfl ?_); refine Kd.R_lit (Kd.int .i64) _ 3 ?hg (N := 32) ?hd (xs := ([0, 3, 4, so, 1998] : List Int)) (inner := [.int .i64 0, .int .i64 3, .int .i64 4, .int .i64 so, .int .i64 1998]) (ok := fun _ => True) (okp := fun _ => True) ?hr ?hp (fun _ hk => hk) trivial (Below.refl _ _) (Nat.le_refl _) (by simp) ?_; (case hd => rfl); (case hg => rfl); (case hr => exact Z29); (case hp => exact (Reps.one (show Kd.M (Kd.int .i64) _ _ _ 0 [.int .i64 0] from rfl) (Reps.one (show Kd.M (Kd.int .i64) _ _ _ 3 [.int .i64 3] from rfl) (Reps.one (show Kd.M (Kd.int .i64) _ _ _ 4 [.int .i64 4] from rfl) (Reps.one (show Kd.M (Kd.int .i64) _ _ _ so [.int .i64 so] from rfl) (Reps.one (show Kd.M (Kd.int .i64) _ _ _ 1998 [.int .i64 1998] from rfl) (Reps.none _ _))))))); intro v385 vA ho23 hb hg_ hnew_; clear hg_ hnew_; (first | rw [← ye.out] at ho23 | (simp only [Int.reduceToNat] at ho23; rw [← ye.out] at ho23)); refine k5_ (Ya_ am) (Kd.R_lower ho23 (keep_size (w := w) (g := g) (row := none) (Z7))) (IsS45.below (Z3 HI0) hb) (KeepBut.trans (Z7) (KeepBut.of_below hb g none) (.inl rfl)) (below_step (Z8) hb) ?_; clear am HI0 HK HB; intro am gH HI0 HK HB; clear hb ho23; obtain ⟨zO, zP, zQ⟩ := Kd.R_slice gH.out; subst zQ) | ((with_reducible refine gate_callee (f := 42) rfl ?_); refine gl_ 33 Tryz.func42 #[.pointer (some ⟨g, 0, none⟩), .slice zO z5.length zP] ?_; (with_reducible refine (spec_l1Cur_among.calls g s0_0 u9 vk _ _ z5 vl z6 z7 w0 _ ?_ ?_ ?_ ?_ ?_ A18.out).mono ?_); exact (Z3 HI0); exact Z8; exact (Z5 gH); exact (Kd.R_reads' gH.out).2.1; exact far_slice (IsS45.own_ne HI0.out gH.out (by decide)); rintro e DL ⟨rfl, hi, hb, hk⟩; refine ⟨_, rfl, ?_⟩; refine k5_ (Kd.R_mono (Kd.R_keep (IsS45.apart (show IsS45 w0 _ g s0_0 u9 vk from Z3 HI0) (Z1 am) (by decide)) hk (fun _ h => h.2)) (fun _ h => h.1)) (Kd.R_mono (Kd.R_keep (IsS45.apart (show IsS45 w0 _ g s0_0 u9 vk from Z3 HI0) (Z1 gH) (by decide)) hk (fun _ h => h.2)) (fun _ h => h.1)) (KeepBut.trans (Z7) hk (.inl rfl)) (hb) (hi) ?_; clear am gH HK HB HI0; intro am gH HK HB HI0; (try clear hb hk hi)) | ((with_reducible refine gate_builtin (b := .append) (xs := #[.tmp 26, .tmp 35]) rfl ?_); at_builtin; refine Kd.R_append k30 w.heap.size rfl (.tmp 26) (.tmp 35) 24 30 (.agg #[(.int .i64 0), (.int .i64 0)]) 16 rfl Tryz.underlying24 info30 rfl (by decide) (by omega) u3 m2 (⟨sn, vl⟩ : S30) [.int .i64 sn, .int .i64 vl] (fun _ => True) (fun _ => False) rfl rfl ?aP (fun _ hk => hk.elim) ?aF ?aO (Below.refl _ _) ?aS ?aL ?_; (case aP => exact k30_mkM _ _ _ (⟨sn, vl⟩ : S30)); (case aF => exact (fun _ _ => trivial)); (case aO => exact (Z1 am)); (case aS => exact (keep_size (w := w) (g := g) (row := none) (Z7))); (case aL => exact Z76 uA); intro v391 Dd ho hb hg hat; rw [← Ny390.out] at ho; refine k5_ (IsS45.grown (Z3 HI0) hg (IsS45.own_ne HI0.out am.out (by decide))) (Kd.R_over' (Z1 gH) (Kd.R_typed (Z1 am)) (by decide) hg) (below_weaken (Z8) HL.out hb) (KeepBut.trans (Z7) (KeepBut.of_grown hg g) (Kd.R_base2 am.out)) (ho) ?_; clear HI0 gH HB HK am; intro HI0 gH HB HK HO392; clear ho hb hg hat))
         go_roundg k2
         case measure => have := AE.out; have := HK2.out; omega
         case rel => exact ⟨(CT), (wrap64 (m3 - 1)), (z6), (z7), (Z16), H', ⟨Z115 AE⟩, ⟨Z1 HO392⟩, ⟨Z3 HI0⟩, ⟨Z7⟩, ⟨Z8⟩⟩
        rw [if_neg c19] at H
        exact absurd H (by simp)
       rw [if_neg c15] at H
       have fO : decide (0 < m3) = false := decide_eq_false c15
       clear c15
       (first | rw [fO] | (simp only [i64_w, i32_w]; rw [fO]) | skip)
       have H' := Aside0.mk H
       clear H
       go_wp2
       go_meet
       case rel => exact ⟨_, (m2), (gu), (gv), H', ⟨by have := AE.out; have := HK2.out; first | omega | exact Nat.le_refl _⟩, ⟨Z1 am⟩, ⟨Z3 HI0⟩, ⟨Z7⟩, ⟨Z8⟩⟩
    replace c12 := Bool.eq_false_iff.mpr c12
    subst c12
    rw [if_neg (show ¬ (false = true) by decide)] at H
    have H' := Aside0.mk H
    clear H
    go_wp2
    go_meet
    case rel => exact ⟨_, (wz), (gs), (gt), H', ⟨Z96 AE⟩, ⟨Z1 am⟩, ⟨Z3 HI0⟩, ⟨Z7⟩, ⟨Z8⟩⟩
   case rest =>
    clear HC11
    (try clear c1); (try clear p6); (try clear c12); (try clear c15); (try clear fO); (try clear c19); (try clear c21); (try clear c22)
    obtain ⟨kq, bf, cH, cI, HA, CU, am, HI0, HK, HB⟩ := hcut
    cases kq with
    | zero => exact absurd HA.out (by simp [spec_l1Cur_strokes.j2])
    | succ CV =>
     have H := HA.out
     clear HA
     simp only [spec_l1Cur_strokes.j2] at H
     by_cases c27 : (bf.length : Int) > 0
     ·rw [if_pos c27] at H
      have ek : decide (0 < (bf.length : Int)) = true := decide_eq_true c27
      have jU : decide (0 < bf.length) = true := decide_eq_true (by omega)
      clear c27
      replace H := Option.bind_eq_some_iff.mp H
      obtain ⟨⟨bw, i7, i8⟩, gV, H⟩ := H
      (try dsimp only at H)
      have gW := Aside0.mk gV
      clear gV
      by_cases c29 : 0 ≤ bw
      ·rw [if_pos c29] at H
       have ox : decide (0 ≤ bw) = true := decide_eq_true c29
       clear c29
       by_cases c30 : bw < (bf.length : Int)
       ·rw [if_pos c30] at H
        have xN : decide (bw < (bf.length : Int)) = true := decide_eq_true c30
        clear c30
        replace H := Option.bind_eq_some_iff.mp H
        obtain ⟨⟨fL, ig, ii⟩, CW, H⟩ := H
        (try dsimp only at H)
        have Do := Aside0.mk CW
        clear CW
        by_cases c32 : fL = 0
        ·rw [if_pos c32] at H
         have rp : (fL == 0) = true := beq_iff_eq.mpr c32
         have rq : (fL != 0) = false := bne_eq_false_iff_eq.mpr c32
         clear c32
         obtain ⟨z8, pj⟩ : ∃ y_ : List Int, y_ = (([(-1), 19, 20] : List Int)) := ⟨_, rfl⟩
         replace H : ((spec_l1Cur_among.f s0_0 ig ii z8).bind fun ld => (some ((bf.set (bw : Int).toNat (⟨ld.1, (rd_T30 bf bw).f1⟩ : S30)), ld.2.1, ld.2.2))) = some (r1, r2, r3) := by first | (rw [pj]; with_reducible exact H) | (have H2_ := (Option.bind_some _ _).symm.trans H; rw [pj]; with_reducible exact H2_) | (have H2_ := (Option.bind_some _ _).symm.trans H; with_reducible exact H2_) | with_reducible exact H | (rw [pj]; exact H) | exact H
         have yf := Aside0.mk pj
         clear pj
         replace H := Option.bind_eq_some_iff.mp H
         obtain ⟨⟨sp, CX, CY⟩, CZ, H⟩ := H
         (try dsimp only at H)
         have A34 := Aside0.mk CZ
         clear CZ
         obtain ⟨C0, pk⟩ : ∃ y_ : List (S30), y_ = (bf.set (bw : Int).toNat (⟨sp, (rd_T30 bf bw).f1⟩ : S30)) := ⟨_, rfl⟩
         replace H : (some (C0, CX, CY)) = some (r1, r2, r3) := by first | (rw [pk]; with_reducible exact H) | (have H2_ := (Option.bind_some _ _).symm.trans H; rw [pk]; with_reducible exact H2_) | (have H2_ := (Option.bind_some _ _).symm.trans H; with_reducible exact H2_) | with_reducible exact H | (rw [pk]; exact H) | exact H
         have Ny406 := Aside0.mk pk
         clear pk
         simp only [Option.some.injEq, Prod.mk.injEq] at H
         obtain ⟨rfl, rfl, rfl⟩ := H
         obtain ⟨jX, ia, v8⟩ := Kd.R_slice am.out
         subst v8
         go_wp2_with (first | ((with_reducible refine gate_callee (f := 22) rfl ?_); refine gl_ 44 Tryz.func22 #[.pointer (some ⟨g, 0, none⟩), .int .i64 (bf.length : Int)] ?_; (with_reducible refine (spec_l1Cur_pick.calls g s0_0 cH cI (bf.length : Int) bw i7 i8 w0 _ ?_ ?_ gW.out).mono ?_); exact (Z3 HI0); exact Z8; rintro e eF ⟨rfl, hi, hb, hk⟩; refine ⟨_, rfl, ?_⟩; refine k4_ (Kd.R_mono (Kd.R_keep (IsS45.apart (show IsS45 w0 _ g s0_0 cH cI from Z3 HI0) (Z1 am) (by decide)) hk (fun _ h => h.2)) (fun _ h => h.1)) (KeepBut.trans (Z7) hk (.inl rfl)) (hb) (hi) ?_; clear am HK HB HI0; intro am HK HB HI0; (try clear hb hk hi); have gD : 0 ≤ (bw : Int) := of_decide_eq_true (Z4); have gE : bw < (bf.length : Int) := of_decide_eq_true (Z4); obtain ⟨vm, e396, gw, gx⟩ := at_T30 (Kd.R_reads' am.out).2.2 bw gD gE; cases e396; replace gD := eq_true gD; replace gE := eq_true gE) | ((with_reducible refine gate_callee (f := 22) rfl ?_); refine gl_ 47 Tryz.func22 #[.pointer (some ⟨g, 0, none⟩), .int .i64 30] ?_; (with_reducible refine (spec_l1Cur_pick.calls g s0_0 i7 i8 30 fL ig ii w0 _ ?_ ?_ Do.out).mono ?_); exact (Z3 HI0); exact Z8; rintro e AM ⟨rfl, hi, hb, hk⟩; refine ⟨_, rfl, ?_⟩; refine k4_ (Kd.R_mono (Kd.R_keep (IsS45.apart (show IsS45 w0 _ g s0_0 i7 i8 from Z3 HI0) (Z1 am) (by decide)) hk (fun _ h => h.2)) (fun _ h => h.1)) (KeepBut.trans (Z7) hk (.inl rfl)) (hb) (hi) ?_; clear am HK HB HI0; intro am HK HB HI0; (try clear hb hk hi); have CA : 0 ≤ (bw : Int) := of_decide_eq_true (Z4); have CB : (bw : Int) < ((bf.length : Int) : Int) := of_decide_eq_true (Z4); obtain ⟨go33, co33, C1, C2, gl33, cl33, HG33⟩ := Kd.R_form am.out (by omega); (first | cases C1 | (injection C1 with ea_ en_ ec_; (first | subst ea_ | (injection ea_ with ea_; subst ea_)); subst ec_; clear en_)); have GB33 := Aside0.mk C2; have GG33 := Aside0.mk HG33; clear C2 gl33 HG33; (first | simp only [add_plain] at gw | skip); (first | simp only [add_plain] at gx | skip); obtain ⟨ce33, hcl33, hM33, hcc33, hfr33⟩ := Kd.R_elem am.out z30 (bw : Int) CA CB; obtain rfl := k30_openM hM33; have hx33_0 : AM.cell? ⟨go33, (bw : Int).toNat * 2, none⟩ = some (.int .i64 ((rd_T30 bf bw).f0)) := hcc33 0 _ rfl; have hx33_1 : AM.cell? ⟨go33, (bw : Int).toNat * 2 + 1, none⟩ = some (.int .i64 ((rd_T30 bf bw).f1)) := hcc33 1 _ rfl; have hf33_0 : AM.frozen? ⟨go33, (bw : Int).toNat * 2, none⟩ = false := hfr33 0; have hf33_1 : AM.frozen? ⟨go33, (bw : Int).toNat * 2 + 1, none⟩ = false := hfr33 1; clear hcl33 hcc33 hfr33 hM33; replace CA := eq_true CA; replace CB := eq_true CB) | ((with_reducible refine gate_dst (N := 52) rfl ?_); refine Kd.R_lit (Kd.int .i64) _ 3 ?hg (N := 52) ?hd (xs := ([(-1), 19, 20] : List Int)) (inner := [.int .i64 (-1), .int .i64 19, .int .i64 20]) (ok := fun _ => True) (okp := fun _ => True) ?hr ?hp (fun _ hk => hk) trivial (Below.refl _ _) (Nat.le_refl _) (by simp) ?_; (case hd => rfl); (case hg => rfl); (case hr => exact Z29); (case hp => exact (Reps.one (show Kd.M (Kd.int .i64) _ _ _ (-1) [.int .i64 (-1)] from rfl) (Reps.one (show Kd.M (Kd.int .i64) _ _ _ 19 [.int .i64 19] from rfl) (Reps.one (show Kd.M (Kd.int .i64) _ _ _ 20 [.int .i64 20] from rfl) (Reps.none _ _))))); intro v401 dz ho39 hb hg_ hnew_; clear hg_ hnew_; (first | rw [← yf.out] at ho39 | (simp only [Int.reduceToNat] at ho39; rw [← yf.out] at ho39)); refine k5_ (Ya_ am) (Kd.R_lower ho39 (keep_size (w := w) (g := g) (row := none) (Z7))) (IsS45.below (Z3 HI0) hb) (KeepBut.trans (Z7) (KeepBut.of_below hb g none) (.inl rfl)) (below_step (Z8) hb) ?_; clear am HI0 HK HB; intro am gJ HI0 HK HB; clear hb ho39; obtain ⟨Ao40, co40, eo40⟩ := Kd.R_slice gJ.out; subst eo40) | ((with_reducible refine gate_callee (f := 42) rfl ?_); refine gl_ 53 Tryz.func42 #[.pointer (some ⟨g, 0, none⟩), .slice Ao40 z8.length co40] ?_; (with_reducible refine (spec_l1Cur_among.calls g s0_0 ig ii _ _ z8 sp CX CY w0 _ ?_ ?_ ?_ ?_ ?_ A34.out).mono ?_); exact (Z3 HI0); exact Z8; exact (Z5 gJ); exact (Kd.R_reads' gJ.out).2.1; exact far_slice (IsS45.own_ne HI0.out gJ.out (by decide)); rintro e vB ⟨rfl, hi, hb, hk⟩; refine ⟨_, rfl, ?_⟩; refine k5_ (Kd.R_mono (Kd.R_keep (IsS45.apart (show IsS45 w0 _ g s0_0 ig ii from Z3 HI0) (Z1 am) (by decide)) hk (fun _ h => h.2)) (fun _ h => h.1)) (Kd.R_mono (Kd.R_keep (IsS45.apart (show IsS45 w0 _ g s0_0 ig ii from Z3 HI0) (Z1 gJ) (by decide)) hk (fun _ h => h.2)) (fun _ h => h.1)) (KeepBut.trans (Z7) hk (.inl rfl)) (hb) (hi) ?_; clear am gJ HK HB HI0; intro am gJ HK HB HI0; (try clear hb hk hi); have HX42 := Aside0.mk (show Kd.R k30 30 vB w.heap.size (fun _ => True) (.slice (some ⟨go33, 0, none⟩) bf.length ia) bf from (Z1 am)); obtain ⟨ce42, hcl42, hM42, hcc42, hfr42⟩ := Kd.R_elem HX42.out z30 (bw : Int) (of_decide_eq_true (Z4)) (Z82); obtain rfl := k30_openM hM42; have HP42 := Kd.R_seg HX42.out (bw : Int) (of_decide_eq_true (Z4)) (Z82) (seg := [.int .i64 sp]) (j := 0) hcl42 hcc42 (show 1 ≤ 2 from by decide) (x' := (⟨sp, (rd_T30 bf bw).f1⟩ : S30)) (k30_mkM _ _ _ (⟨sp, (rd_T30 bf bw).f1⟩ : S30) ) (fun _ hk => hk); have vn := hcc42 0 _ rfl; (try simp only [show (k30).sz = 2 from rfl, Nat.mul_one, Nat.add_zero] at vn); have hf42_0 := hfr42 0; (try simp only [show (k30).sz = 2 from rfl, Nat.mul_one, Nat.add_zero] at hf42_0); clear hcl42 hcc42 hfr42 hM42) | ((with_reducible refine gate_store (t := 3) (p := 55) rfl ?_); refine store_event (t := 3) (p := 55) (v := ?vo_w43) (w1 := (vB.setCell ⟨go33, (bw : Int).toNat * 2, none⟩ (.int .i64 sp))) ?hg ?ho ?hn ?hr ?_; (case ho => rfl); (case hg => rfl); (case hn => rfl); (case hr => exact Z29); intro AD hw; have hg : vB.grownBy AD (some go33) := (by rw [hw]; exact HP42.2); have hp_ : Kd.R k30 30 AD w.heap.size (fun _ => True) (.slice (some ⟨go33, 0, none⟩) bf.length ia) C0 := (by rw [hw, Ny406.out]; exact HP42.1); clear HP42; refine k5_ (hp_) (IsS45.grown (Z3 HI0) hg (IsS45.own_ne HI0.out am.out (by decide))) (Kd.R_over' (v := (.slice (some ⟨go33, 0, none⟩) bf.length ia)) (Z1 gJ) (Kd.R_typed am.out) (by decide) hg) ((by rw [hw]; exact below_set (HB.out) (Nat.le_trans HL.out GB33.out) : Below w0.heap.size w0 AD)) (KeepBut.trans (Z7) (KeepBut.of_grown hg g) (Kd.R_base2 am.out)) ?_; clear am HI0 gJ HB HK; intro am HI0 gJ HB HK; clear hg hw hp_))
         go_ret
         exact ⟨_, Z12, Z1 am, Z3 HI0, Z8, Z7⟩
        rw [if_neg c32] at H
        have rp : (fL == 0) = false := beq_eq_false_iff_ne.mpr c32
        have rq : (fL != 0) = true := bne_iff_ne.mpr c32
        by_cases c44 : fL = 1
        ·rw [if_pos c44] at H
         have tG : (fL == 1) = true := beq_iff_eq.mpr c44
         have yg : (fL != 1) = false := bne_eq_false_iff_eq.mpr c44
         clear c44
         obtain ⟨z9, pl⟩ : ∃ y_ : List Int, y_ = (([(-1), 1999, 2000] : List Int)) := ⟨_, rfl⟩
         replace H : ((spec_l1Cur_among.f s0_0 ig ii z9).bind fun lf => (some ((bf.set (bw : Int).toNat (⟨(rd_T30 bf bw).f0, lf.1⟩ : S30)), lf.2.1, lf.2.2))) = some (r1, r2, r3) := by first | (rw [pl]; with_reducible exact H) | (have H2_ := (Option.bind_some _ _).symm.trans H; rw [pl]; with_reducible exact H2_) | (have H2_ := (Option.bind_some _ _).symm.trans H; with_reducible exact H2_) | with_reducible exact H | (rw [pl]; exact H) | exact H
         have yh := Aside0.mk pl
         clear pl
         replace H := Option.bind_eq_some_iff.mp H
         obtain ⟨⟨sq, C3, C4⟩, C5, H⟩ := H
         (try dsimp only at H)
         have A46 := Aside0.mk C5
         clear C5
         obtain ⟨C6, pm⟩ : ∃ y_ : List (S30), y_ = (bf.set (bw : Int).toNat (⟨(rd_T30 bf bw).f0, sq⟩ : S30)) := ⟨_, rfl⟩
         replace H : (some (C6, C3, C4)) = some (r1, r2, r3) := by first | (rw [pm]; with_reducible exact H) | (have H2_ := (Option.bind_some _ _).symm.trans H; rw [pm]; with_reducible exact H2_) | (have H2_ := (Option.bind_some _ _).symm.trans H; with_reducible exact H2_) | with_reducible exact H | (rw [pm]; exact H) | exact H
         have Ny413 := Aside0.mk pm
         clear pm
         simp only [Option.some.injEq, Prod.mk.injEq] at H
         obtain ⟨rfl, rfl, rfl⟩ := H
         obtain ⟨Ao47, Aa, eo47⟩ := Kd.R_slice am.out
         subst eo47
         go_wp2_with (first | ((with_reducible refine gate_callee (f := 22) rfl ?_); refine gl_ 44 Tryz.func22 #[.pointer (some ⟨g, 0, none⟩), .int .i64 (bf.length : Int)] ?_; (with_reducible refine (spec_l1Cur_pick.calls g s0_0 cH cI (bf.length : Int) bw i7 i8 w0 _ ?_ ?_ gW.out).mono ?_); exact (Z3 HI0); exact Z8; rintro e er ⟨rfl, hi, hb, hk⟩; refine ⟨_, rfl, ?_⟩; refine k4_ (Kd.R_mono (Kd.R_keep (IsS45.apart (show IsS45 w0 _ g s0_0 cH cI from Z3 HI0) (Z1 am) (by decide)) hk (fun _ h => h.2)) (fun _ h => h.1)) (KeepBut.trans (Z7) hk (.inl rfl)) (hb) (hi) ?_; clear am HK HB HI0; intro am HK HB HI0; (try clear hb hk hi); have gD : 0 ≤ (bw : Int) := of_decide_eq_true (Z4); have gE : bw < (bf.length : Int) := of_decide_eq_true (Z4); obtain ⟨vm, e396, gw, gx⟩ := at_T30 (Kd.R_reads' am.out).2.2 bw gD gE; cases e396; replace gD := eq_true gD; replace gE := eq_true gE) | ((with_reducible refine gate_callee (f := 22) rfl ?_); refine gl_ 47 Tryz.func22 #[.pointer (some ⟨g, 0, none⟩), .int .i64 30] ?_; (with_reducible refine (spec_l1Cur_pick.calls g s0_0 i7 i8 30 fL ig ii w0 _ ?_ ?_ Do.out).mono ?_); exact (Z3 HI0); exact Z8; rintro e Co ⟨rfl, hi, hb, hk⟩; refine ⟨_, rfl, ?_⟩; refine k4_ (Kd.R_mono (Kd.R_keep (IsS45.apart (show IsS45 w0 _ g s0_0 i7 i8 from Z3 HI0) (Z1 am) (by decide)) hk (fun _ h => h.2)) (fun _ h => h.1)) (KeepBut.trans (Z7) hk (.inl rfl)) (hb) (hi) ?_; clear am HK HB HI0; intro am HK HB HI0; (try clear hb hk hi); have Dp : 0 ≤ (bw : Int) := of_decide_eq_true (Z4); have Dq : (bw : Int) < ((bf.length : Int) : Int) := of_decide_eq_true (Z4); obtain ⟨go45, co45, C7, C8, gl45, cl45, HG45⟩ := Kd.R_form am.out (by omega); (first | cases C7 | (injection C7 with ea_ en_ ec_; (first | subst ea_ | (injection ea_ with ea_; subst ea_)); subst ec_; clear en_)); have GB45 := Aside0.mk C8; have GG45 := Aside0.mk HG45; clear C8 gl45 HG45; (first | simp only [add_plain] at gw | skip); (first | simp only [add_plain] at gx | skip); obtain ⟨ce45, hcl45, hM45, hcc45, hfr45⟩ := Kd.R_elem am.out z30 (bw : Int) Dp Dq; obtain rfl := k30_openM hM45; have hx45_0 : Co.cell? ⟨go45, (bw : Int).toNat * 2, none⟩ = some (.int .i64 ((rd_T30 bf bw).f0)) := hcc45 0 _ rfl; have hx45_1 : Co.cell? ⟨go45, (bw : Int).toNat * 2 + 1, none⟩ = some (.int .i64 ((rd_T30 bf bw).f1)) := hcc45 1 _ rfl; have hf45_0 : Co.frozen? ⟨go45, (bw : Int).toNat * 2, none⟩ = false := hfr45 0; have hf45_1 : Co.frozen? ⟨go45, (bw : Int).toNat * 2 + 1, none⟩ = false := hfr45 1; clear hcl45 hcc45 hfr45 hM45; replace Dp := eq_true Dp; replace Dq := eq_true Dq) | ((with_reducible refine gate_dst (N := 60) rfl ?_); refine Kd.R_lit (Kd.int .i64) _ 3 ?hg (N := 60) ?hd (xs := ([(-1), 1999, 2000] : List Int)) (inner := [.int .i64 (-1), .int .i64 1999, .int .i64 2000]) (ok := fun _ => True) (okp := fun _ => True) ?hr ?hp (fun _ hk => hk) trivial (Below.refl _ _) (Nat.le_refl _) (by simp) ?_; (case hd => rfl); (case hg => rfl); (case hr => exact Z29); (case hp => exact (Reps.one (show Kd.M (Kd.int .i64) _ _ _ (-1) [.int .i64 (-1)] from rfl) (Reps.one (show Kd.M (Kd.int .i64) _ _ _ 1999 [.int .i64 1999] from rfl) (Reps.one (show Kd.M (Kd.int .i64) _ _ _ 2000 [.int .i64 2000] from rfl) (Reps.none _ _))))); intro v408 jI ho51 hb hg_ hnew_; clear hg_ hnew_; (first | rw [← yh.out] at ho51 | (simp only [Int.reduceToNat] at ho51; rw [← yh.out] at ho51)); refine k5_ (Ya_ am) (Kd.R_lower ho51 (keep_size (w := w) (g := g) (row := none) (Z7))) (IsS45.below (Z3 HI0) hb) (KeepBut.trans (Z7) (KeepBut.of_below hb g none) (.inl rfl)) (below_step (Z8) hb) ?_; clear am HI0 HK HB; intro am gK HI0 HK HB; clear hb ho51; obtain ⟨Cp, Cq, zX⟩ := Kd.R_slice gK.out; subst zX) | ((with_reducible refine gate_callee (f := 42) rfl ?_); refine gl_ 61 Tryz.func42 #[.pointer (some ⟨g, 0, none⟩), .slice Cp z9.length Cq] ?_; (with_reducible refine (spec_l1Cur_among.calls g s0_0 ig ii _ _ z9 sq C3 C4 w0 _ ?_ ?_ ?_ ?_ ?_ A46.out).mono ?_); exact (Z3 HI0); exact Z8; exact (Z5 gK); exact (Kd.R_reads' gK.out).2.1; exact far_slice (IsS45.own_ne HI0.out gK.out (by decide)); rintro e pr ⟨rfl, hi, hb, hk⟩; refine ⟨_, rfl, ?_⟩; refine k5_ (Kd.R_mono (Kd.R_keep (IsS45.apart (show IsS45 w0 _ g s0_0 ig ii from Z3 HI0) (Z1 am) (by decide)) hk (fun _ h => h.2)) (fun _ h => h.1)) (Kd.R_mono (Kd.R_keep (IsS45.apart (show IsS45 w0 _ g s0_0 ig ii from Z3 HI0) (Z1 gK) (by decide)) hk (fun _ h => h.2)) (fun _ h => h.1)) (KeepBut.trans (Z7) hk (.inl rfl)) (hb) (hi) ?_; clear am gK HK HB HI0; intro am gK HK HB HI0; (try clear hb hk hi); have HX54 := Aside0.mk (show Kd.R k30 30 pr w.heap.size (fun _ => True) (.slice (some ⟨go45, 0, none⟩) bf.length Aa) bf from (Z1 am)); obtain ⟨ce54, hcl54, hM54, hcc54, hfr54⟩ := Kd.R_elem HX54.out z30 (bw : Int) (of_decide_eq_true (Z4)) (Z82); obtain rfl := k30_openM hM54; have HP54 := Kd.R_seg HX54.out (bw : Int) (of_decide_eq_true (Z4)) (Z82) (seg := [.int .i64 sq]) (j := 1) hcl54 hcc54 (show 2 ≤ 2 from by decide) (x' := (⟨(rd_T30 bf bw).f0, sq⟩ : S30)) (k30_mkM _ _ _ (⟨(rd_T30 bf bw).f0, sq⟩ : S30) ) (fun _ hk => hk); have vo := hcc54 1 _ rfl; (try simp only [show (k30).sz = 2 from rfl, Nat.mul_one, Nat.add_zero] at vo); have hf54_1 := hfr54 1; (try simp only [show (k30).sz = 2 from rfl, Nat.mul_one, Nat.add_zero] at hf54_1); clear hcl54 hcc54 hfr54 hM54) | ((with_reducible refine gate_store (t := 3) (p := 63) rfl ?_); refine store_event (t := 3) (p := 63) (v := ?vo_w55) (w1 := (pr.setCell ⟨go45, (bw : Int).toNat * 2 + 1, none⟩ (.int .i64 sq))) ?hg ?ho ?hn ?hr ?_; (case ho => rfl); (case hg => rfl); (case hn => rfl); (case hr => exact Z29); intro rU hw; have hg : pr.grownBy rU (some go45) := (by rw [hw]; exact HP54.2); have hp_ : Kd.R k30 30 rU w.heap.size (fun _ => True) (.slice (some ⟨go45, 0, none⟩) bf.length Aa) C6 := (by rw [hw, Ny413.out]; exact HP54.1); clear HP54; refine k5_ (hp_) (IsS45.grown (Z3 HI0) hg (IsS45.own_ne HI0.out am.out (by decide))) (Kd.R_over' (v := (.slice (some ⟨go45, 0, none⟩) bf.length Aa)) (Z1 gK) (Kd.R_typed am.out) (by decide) hg) ((by rw [hw]; exact below_set (HB.out) (Nat.le_trans HL.out GB45.out) : Below w0.heap.size w0 rU)) (KeepBut.trans (Z7) (KeepBut.of_grown hg g) (Kd.R_base2 am.out)) ?_; clear am HI0 gK HB HK; intro am HI0 gK HB HK; clear hg hw hp_))
         go_ret
         exact ⟨_, Z12, Z1 am, Z3 HI0, Z8, Z7⟩
        rw [if_neg c44] at H
        have tG : (fL == 1) = false := beq_eq_false_iff_ne.mpr c44
        have yg : (fL != 1) = true := bne_iff_ne.mpr c44
        by_cases c56 : fL = 2
        ·rw [if_pos c56] at H
         have yi : (fL == 2) = true := beq_iff_eq.mpr c56
         have yj : (fL != 2) = false := bne_eq_false_iff_eq.mpr c56
         clear c56
         replace H := Option.bind_eq_some_iff.mp H
         obtain ⟨⟨sr, wA, wB⟩, uG, H⟩ := H
         (try dsimp only at H)
         have Di := Aside0.mk uG
         clear uG
         have H' := Aside0.mk H
         clear H
         obtain ⟨Ao58, co58, eo58⟩ := Kd.R_slice am.out
         subst eo58
         go_wp2_with (first | ((with_reducible refine gate_callee (f := 22) rfl ?_); refine gl_ 44 Tryz.func22 #[.pointer (some ⟨g, 0, none⟩), .int .i64 (bf.length : Int)] ?_; (with_reducible refine (spec_l1Cur_pick.calls g s0_0 cH cI (bf.length : Int) bw i7 i8 w0 _ ?_ ?_ gW.out).mono ?_); exact (Z3 HI0); exact Z8; rintro e DU ⟨rfl, hi, hb, hk⟩; refine ⟨_, rfl, ?_⟩; refine k4_ (Kd.R_mono (Kd.R_keep (IsS45.apart (show IsS45 w0 _ g s0_0 cH cI from Z3 HI0) (Z1 am) (by decide)) hk (fun _ h => h.2)) (fun _ h => h.1)) (KeepBut.trans (Z7) hk (.inl rfl)) (hb) (hi) ?_; clear am HK HB HI0; intro am HK HB HI0; (try clear hb hk hi); have gD : 0 ≤ (bw : Int) := of_decide_eq_true (Z4); have gE : bw < (bf.length : Int) := of_decide_eq_true (Z4); obtain ⟨vm, e396, gw, gx⟩ := at_T30 (Kd.R_reads' am.out).2.2 bw gD gE; cases e396; replace gD := eq_true gD; replace gE := eq_true gE) | ((with_reducible refine gate_callee (f := 22) rfl ?_); refine gl_ 47 Tryz.func22 #[.pointer (some ⟨g, 0, none⟩), .int .i64 30] ?_; (with_reducible refine (spec_l1Cur_pick.calls g s0_0 i7 i8 30 fL ig ii w0 _ ?_ ?_ Do.out).mono ?_); exact (Z3 HI0); exact Z8; rintro e pt ⟨rfl, hi, hb, hk⟩; refine ⟨_, rfl, ?_⟩; refine k4_ (Kd.R_mono (Kd.R_keep (IsS45.apart (show IsS45 w0 _ g s0_0 i7 i8 from Z3 HI0) (Z1 am) (by decide)) hk (fun _ h => h.2)) (fun _ h => h.1)) (KeepBut.trans (Z7) hk (.inl rfl)) (hb) (hi) ?_; clear am HK HB HI0; intro am HK HB HI0; (try clear hb hk hi)) | ((with_reducible refine gate_callee (f := 22) rfl ?_); refine gl_ 67 Tryz.func22 #[.pointer (some ⟨g, 0, none⟩), .int .i64 2] ?_; (with_reducible refine (spec_l1Cur_pick.calls g s0_0 ig ii 2 sr wA wB w0 _ ?_ ?_ Di.out).mono ?_); exact (Z3 HI0); exact Z8; rintro e Dg ⟨rfl, hi, hb, hk⟩; refine ⟨_, rfl, ?_⟩; refine k4_ (Kd.R_mono (Kd.R_keep (IsS45.apart (show IsS45 w0 _ g s0_0 ig ii from Z3 HI0) (Z1 am) (by decide)) hk (fun _ h => h.2)) (fun _ h => h.1)) (KeepBut.trans (Z7) hk (.inl rfl)) (hb) (hi) ?_; clear am HK HB HI0; intro am HK HB HI0; (try clear hb hk hi)))
         (try simp only [Act.put, List.setIfInBounds_toArray, List.set_cons_zero, List.set_cons_succ])
         go_loopg [3] CV (fun kq v3 w' => ∃ (ij : List (S30)), Aside0 (spec_l1Cur_strokes.l1 kq ij (wrap64 (200 + sr)) s0_0 wA wB = some (r1, r2, r3)) ∧ Aside0 (kq ≤ CV) ∧ Aside0 (Kd.R k30 30 w' w.heap.size (fun _ => True) v3 ij) ∧ Aside0 (IsS45 w0 w' g s0_0 wA wB) ∧ Aside0 (KeepBut w w' g none) ∧ Aside0 (Below w0.heap.size w0 w'))
         case atStart => exact ⟨(bf), H', ⟨Nat.le_refl _⟩, ⟨Z1 am⟩, ⟨Z3 HI0⟩, ⟨Z7⟩, ⟨Z8⟩⟩
         case round =>
          clear H'
          (try clear p3); (try clear q3); (try clear hx3); (try clear hf3); (try clear p4); (try clear q4); (try clear hx4); (try clear hf4); (try clear c5); (try clear hx5); (try clear hf5); (try clear c27); (try clear ek); (try clear jU); (try clear c29); (try clear ox); (try clear c30); (try clear xN); (try clear c32); (try clear rp); (try clear rq); (try clear c33); (try clear CA); (try clear CB); (try clear hx33); (try clear hf33); (try clear c39); (try clear p39); (try clear q39); (try clear hx39); (try clear c40); (try clear c42); (try clear hx42); (try clear hf42); (try clear c44); (try clear tG); (try clear yg); (try clear c45); (try clear Dp); (try clear Dq); (try clear hx45); (try clear hf45); (try clear c54); (try clear hx54); (try clear hf54); (try clear c56); (try clear yi); (try clear yj); (try clear hx33_0); (try clear hx33_1); (try clear gw); (try clear gx); (try clear vn); (try clear hx45_0); (try clear hx45_1); (try clear vo); (try clear gD); (try clear gE)
          obtain ⟨ij, HA, HK3, am, HI0, HK, HB⟩ := hrel
          cases gk with
          | zero => exact absurd HA.out (by simp [spec_l1Cur_strokes.l1])
          | succ k3 =>
           have H := HA.out
           clear HA
           simp only [spec_l1Cur_strokes.l1] at H
           by_cases c62 : (ij.length : Int) < (wrap64 (200 + sr))
           ·rw [if_pos c62] at H
            have tI : decide ((ij.length : Int) < (wrap64 (200 + sr))) = true := decide_eq_true c62
            clear c62
            by_cases c63 : ij.length < 8796093022208
            ·rw [if_pos c63] at H
             have LMc63 := Aside0.mk c63
             clear c63
             obtain ⟨C9, pn⟩ : ∃ y_ : List (S30), y_ = (ij ++ [(⟨1, (ij.length : Int)⟩ : S30)]) := ⟨_, rfl⟩
             replace H : (spec_l1Cur_strokes.l1 k3 C9 (wrap64 (200 + sr)) s0_0 wA wB) = some (r1, r2, r3) := by first | (rw [pn]; with_reducible exact H) | (have H2_ := (Option.bind_some _ _).symm.trans H; rw [pn]; with_reducible exact H2_) | (have H2_ := (Option.bind_some _ _).symm.trans H; with_reducible exact H2_) | with_reducible exact H | (rw [pn]; exact H) | exact H
             have Ny417 := Aside0.mk pn
             clear pn
             have H' := Aside0.mk H
             clear H
             obtain ⟨Ao64, co64, eo64⟩ := Kd.R_slice am.out
             subst eo64
             go_wp2_with ((with_reducible refine gate_builtin (b := .append) (xs := #[.tmp 73, .tmp 77]) rfl ?_); at_builtin; refine Kd.R_append k30 w.heap.size rfl (.tmp 73) (.tmp 77) 24 30 (.agg #[(.int .i64 0), (.int .i64 0)]) 16 rfl Tryz.underlying24 info30 rfl (by decide) (by omega) (.slice Ao64 ij.length co64) ij (⟨1, (ij.length : Int)⟩ : S30) [.int .i64 1, .int .i64 (ij.length : Int)] (fun _ => True) (fun _ => False) rfl rfl ?aP (fun _ hk => hk.elim) ?aF ?aO (Below.refl _ _) ?aS ?aL ?_; (case aP => exact k30_mkM _ _ _ (⟨1, (ij.length : Int)⟩ : S30)); (case aF => exact (fun _ _ => trivial)); (case aO => exact (Z1 am)); (case aS => exact (keep_size (w := w) (g := g) (row := none) (Z7))); (case aL => exact Z76 LMc63); intro v418 w65 ho hb hg hat; rw [← Ny417.out] at ho; refine k4_ (IsS45.grown (Z3 HI0) hg (IsS45.own_ne HI0.out am.out (by decide))) (below_weaken (Z8) HL.out hb) (KeepBut.trans (Z7) (KeepBut.of_grown hg g) (Kd.R_base2 am.out)) (ho) ?_; clear HI0 HB HK am; intro HI0 HB HK HO419; clear ho hb hg hat)
             go_roundg k3
             case measure => have := AE.out; have := CU.out; have := HK3.out; omega
             case rel => exact ⟨(C9), H', ⟨by have := AE.out; have := CU.out; have := HK3.out; omega⟩, ⟨Z1 HO419⟩, ⟨Z3 HI0⟩, ⟨Z7⟩, ⟨Z8⟩⟩
            rw [if_neg c63] at H
            exact absurd H (by simp)
           rw [if_neg c62] at H
           have tI : decide ((ij.length : Int) < (wrap64 (200 + sr))) = false := decide_eq_false c62
           clear c62
           simp only [Option.some.injEq, Prod.mk.injEq] at H
           obtain ⟨rfl, rfl, rfl⟩ := H
           obtain ⟨Ao66, co66, eo66⟩ := Kd.R_slice am.out
           subst eo66
           go_wp2
           go_ret
           exact ⟨_, Z12, Z1 am, Z3 HI0, Z8, Z7⟩
        rw [if_neg c56] at H
        have yi : (fL == 2) = false := beq_eq_false_iff_ne.mpr c56
        have yj : (fL != 2) = true := bne_iff_ne.mpr c56
        simp only [Option.some.injEq, Prod.mk.injEq] at H
        obtain ⟨rfl, rfl, rfl⟩ := H
        obtain ⟨Ao67, co67, eo67⟩ := Kd.R_slice am.out
        subst eo67
        go_wp2_with (first | ((with_reducible refine gate_callee (f := 22) rfl ?_); refine gl_ 44 Tryz.func22 #[.pointer (some ⟨g, 0, none⟩), .int .i64 (bf.length : Int)] ?_; (with_reducible refine (spec_l1Cur_pick.calls g s0_0 cH cI (bf.length : Int) bw i7 i8 w0 _ ?_ ?_ gW.out).mono ?_); exact (Z3 HI0); exact Z8; rintro e ev ⟨rfl, hi, hb, hk⟩; refine ⟨_, rfl, ?_⟩; refine k4_ (Kd.R_mono (Kd.R_keep (IsS45.apart (show IsS45 w0 _ g s0_0 cH cI from Z3 HI0) (Z1 am) (by decide)) hk (fun _ h => h.2)) (fun _ h => h.1)) (KeepBut.trans (Z7) hk (.inl rfl)) (hb) (hi) ?_; clear am HK HB HI0; intro am HK HB HI0; (try clear hb hk hi); have gD : 0 ≤ (bw : Int) := of_decide_eq_true (Z4); have gE : bw < (bf.length : Int) := of_decide_eq_true (Z4); obtain ⟨vm, e396, gw, gx⟩ := at_T30 (Kd.R_reads' am.out).2.2 bw gD gE; cases e396; replace gD := eq_true gD; replace gE := eq_true gE) | ((with_reducible refine gate_callee (f := 22) rfl ?_); refine gl_ 47 Tryz.func22 #[.pointer (some ⟨g, 0, none⟩), .int .i64 30] ?_; (with_reducible refine (spec_l1Cur_pick.calls g s0_0 i7 i8 30 fL ig ii w0 _ ?_ ?_ Do.out).mono ?_); exact (Z3 HI0); exact Z8; rintro e w69 ⟨rfl, hi, hb, hk⟩; refine ⟨_, rfl, ?_⟩; refine k4_ (Kd.R_mono (Kd.R_keep (IsS45.apart (show IsS45 w0 _ g s0_0 i7 i8 from Z3 HI0) (Z1 am) (by decide)) hk (fun _ h => h.2)) (fun _ h => h.1)) (KeepBut.trans (Z7) hk (.inl rfl)) (hb) (hi) ?_; clear am HK HB HI0; intro am HK HB HI0; (try clear hb hk hi)))
        go_ret
        exact ⟨_, Z12, Z1 am, Z3 HI0, Z8, Z7⟩
       rw [if_neg c30] at H
       exact absurd H (by simp)
      rw [if_neg c29] at H
      exact absurd H (by simp)
     rw [if_neg c27] at H
     have ek : decide (0 < (bf.length : Int)) = false := decide_eq_false c27
     have jU : decide (0 < bf.length) = false := decide_eq_false (by omega)
     clear c27
     simp only [Option.some.injEq, Prod.mk.injEq] at H
     obtain ⟨rfl, rfl, rfl⟩ := H
     obtain ⟨Ao70, co70, eo70⟩ := Kd.R_slice am.out
     subst eo70
     go_wp2
     go_ret
     exact ⟨_, Z12, Z1 am, Z3 HI0, Z8, Z7⟩

/-! ### spec_l1Cur_across: function 23 -/
def spec_l1Cur_across.f (s0_0 : List Int) (s0_1 : Int) (s0_2 : Int) : Option (Int × Int × Int) := (spec_l1Cur_among.f s0_0 s0_1 s0_2 (([0, 51] : List Int))).bind fun gm => ((spec_l1Cur_among.f s0_0 gm.2.1 gm.2.2 (([1, 2, 5, 50, gm.1] : List Int))).bind fun eu => (some (eu.1, eu.2.1, eu.2.2)))
set_option maxHeartbeats 8000000 in
set_option maxRecDepth 100000 in
theorem spec_l1Cur_across.calls (g : Nat) (s0_0 : List Int) (s0_1 : Int) (s0_2 : Int) (r1 : Int) (r2 : Int) (r3 : Int) (w0 w : World) (hI : IsS45 w0 w g s0_0 s0_1 s0_2) (hB : Below w0.heap.size w0 w) (h : spec_l1Cur_across.f s0_0 s0_1 s0_2 = some (r1, r2, r3)) :
  Calls Tryz.prog 23 #[.pointer (some ⟨g, 0, none⟩)] w fun e w' => e = .returned (.int .i64 r1) ∧ IsS45 w0 w' g s0_0 r2 r3 ∧ Below w0.heap.size w0 w' ∧ KeepBut w w' g none := by
 have HI0 := Aside0.mk hI
 have HK := Aside0.mk (KeepBut.refl w g none)
 have HL := Aside0.mk hB.size
 clear hI
 have HW0 := Aside0.mk hB.size
 have HB := Aside0.mk hB
 clear hB
 have H : ((spec_l1Cur_among.f s0_0 s0_1 s0_2 (([0, 51] : List Int))).bind fun gm => ((spec_l1Cur_among.f s0_0 gm.2.1 gm.2.2 (([1, 2, 5, 50, gm.1] : List Int))).bind fun eu => (some (eu.1, eu.2.1, eu.2.2)))) = some (r1, r2, r3) := h
 clear h
 obtain ⟨Ab, po⟩ : ∃ y_ : List Int, y_ = (([0, 51] : List Int)) := ⟨_, rfl⟩
 replace H : ((spec_l1Cur_among.f s0_0 s0_1 s0_2 Ab).bind fun gm => ((spec_l1Cur_among.f s0_0 gm.2.1 gm.2.2 (([1, 2, 5, 50, gm.1] : List Int))).bind fun eu => (some (eu.1, eu.2.1, eu.2.2)))) = some (r1, r2, r3) := by first | (rw [po]; with_reducible exact H) | (have H2_ := (Option.bind_some _ _).symm.trans H; rw [po]; with_reducible exact H2_) | (have H2_ := (Option.bind_some _ _).symm.trans H; with_reducible exact H2_) | with_reducible exact H | (rw [po]; exact H) | exact H
 have yk := Aside0.mk po
 clear po
 replace H := Option.bind_eq_some_iff.mp H
 obtain ⟨⟨ss, vp, vq⟩, cK, H⟩ := H
 (try dsimp only at H)
 have A2 := Aside0.mk cK
 clear cK
 obtain ⟨Ac, pp⟩ : ∃ y_ : List Int, y_ = (([1, 2, 5, 50, ss] : List Int)) := ⟨_, rfl⟩
 replace H : ((spec_l1Cur_among.f s0_0 vp vq Ac).bind fun eu => (some (eu.1, eu.2.1, eu.2.2))) = some (r1, r2, r3) := by first | (rw [pp]; with_reducible exact H) | (have H2_ := (Option.bind_some _ _).symm.trans H; rw [pp]; with_reducible exact H2_) | (have H2_ := (Option.bind_some _ _).symm.trans H; with_reducible exact H2_) | with_reducible exact H | (rw [pp]; exact H) | exact H
 have yl := Aside0.mk pp
 clear pp
 replace H := Option.bind_eq_some_iff.mp H
 obtain ⟨⟨t429, t430, t431⟩, fN, H⟩ := H
 (try dsimp only at H)
 have A3 := Aside0.mk fN
 clear fN
 simp only [Option.some.injEq, Prod.mk.injEq] at H
 obtain ⟨rfl, rfl, rfl⟩ := H
 go_enter Tryz.func23, Tryz.ntmps23
 go_wp2_with (first | ((with_reducible refine gate_dst (N := 5) rfl ?_); refine Kd.R_lit (Kd.int .i64) _ 3 ?hg (N := 5) ?hd (xs := ([0, 51] : List Int)) (inner := [.int .i64 0, .int .i64 51]) (ok := fun _ => True) (okp := fun _ => True) ?hr ?hp (fun _ hk => hk) trivial (Below.refl _ _) (Nat.le_refl _) (by simp) ?_; (case hd => rfl); (case hg => rfl); (case hr => exact Z29); (case hp => exact (Reps.one (show Kd.M (Kd.int .i64) _ _ _ 0 [.int .i64 0] from rfl) (Reps.one (show Kd.M (Kd.int .i64) _ _ _ 51 [.int .i64 51] from rfl) (Reps.none _ _)))); intro v421 w4 ho5 hb hg_ hnew_; clear hg_ hnew_; (first | rw [← yk.out] at ho5 | (simp only [Int.reduceToNat] at ho5; rw [← yk.out] at ho5)); refine k4_ (Kd.R_lower ho5 (keep_size (w := w) (g := g) (row := none) (Z7))) (IsS45.below (Z3 HI0) hb) (KeepBut.trans (Z7) (KeepBut.of_below hb g none) (.inl rfl)) (below_step (Z8) hb) ?_; clear HI0 HK HB; intro eV HI0 HK HB; clear hb ho5; obtain ⟨AN, AO, AP⟩ := Kd.R_slice eV.out; subst AP) | ((with_reducible refine gate_callee (f := 42) rfl ?_); refine gl_ 6 Tryz.func42 #[.pointer (some ⟨g, 0, none⟩), .slice AN Ab.length AO] ?_; (with_reducible refine (spec_l1Cur_among.calls g s0_0 s0_1 s0_2 _ _ Ab ss vp vq w0 _ ?_ ?_ ?_ ?_ ?_ A2.out).mono ?_); exact (Z3 HI0); exact Z8; exact (Z5 eV); exact (Kd.R_reads' eV.out).2.1; exact far_slice (IsS45.own_ne HI0.out eV.out (by decide)); rintro e w7 ⟨rfl, hi, hb, hk⟩; refine ⟨_, rfl, ?_⟩; refine k4_ (Kd.R_mono (Kd.R_keep (IsS45.apart (show IsS45 w0 _ g s0_0 s0_1 s0_2 from Z3 HI0) (Z1 eV) (by decide)) hk (fun _ h => h.2)) (fun _ h => h.1)) (KeepBut.trans (Z7) hk (.inl rfl)) (hb) (hi) ?_; clear eV HK HB HI0; intro eV HK HB HI0; (try clear hb hk hi)) | ((with_reducible refine gate_dst (N := 7) rfl ?_); refine Kd.R_lit (Kd.int .i64) _ 3 ?hg (N := 7) ?hd (xs := ([1, 2, 5, 50, ss] : List Int)) (inner := [.int .i64 1, .int .i64 2, .int .i64 5, .int .i64 50, .int .i64 ss]) (ok := fun _ => True) (okp := fun _ => True) ?hr ?hp (fun _ hk => hk) trivial (Below.refl _ _) (Nat.le_refl _) (by simp) ?_; (case hd => rfl); (case hg => rfl); (case hr => exact Z29); (case hp => exact (Reps.one (show Kd.M (Kd.int .i64) _ _ _ 1 [.int .i64 1] from rfl) (Reps.one (show Kd.M (Kd.int .i64) _ _ _ 2 [.int .i64 2] from rfl) (Reps.one (show Kd.M (Kd.int .i64) _ _ _ 5 [.int .i64 5] from rfl) (Reps.one (show Kd.M (Kd.int .i64) _ _ _ 50 [.int .i64 50] from rfl) (Reps.one (show Kd.M (Kd.int .i64) _ _ _ ss [.int .i64 ss] from rfl) (Reps.none _ _))))))); intro v427 w8 ho9 hb hg_ hnew_; clear hg_ hnew_; (first | rw [← yl.out] at ho9 | (simp only [Int.reduceToNat] at ho9; rw [← yl.out] at ho9)); refine k5_ (Kd.R_elder' (Z1 eV) (Kd.R_base ho9) hb) (Kd.R_lower (Kd.R_new' ho9 (Yd_ eV)) (keep_size (w := w) (g := g) (row := none) (Z7))) (IsS45.below (Z3 HI0) hb) (KeepBut.trans (Z7) (KeepBut.of_below hb g none) (.inl rfl)) (below_step (Z8) hb) ?_; clear eV HI0 HK HB; intro eV lm HI0 HK HB; clear hb ho9; obtain ⟨dy, aC, g4⟩ := Kd.R_slice lm.out; subst g4) | ((with_reducible refine gate_callee (f := 42) rfl ?_); refine gl_ 8 Tryz.func42 #[.pointer (some ⟨g, 0, none⟩), .slice dy Ac.length aC] ?_; (with_reducible refine (spec_l1Cur_among.calls g s0_0 vp vq _ _ Ac t429 t430 t431 w0 _ ?_ ?_ ?_ ?_ ?_ A3.out).mono ?_); exact (Z3 HI0); exact Z8; exact (Z5 lm); exact (Kd.R_reads' lm.out).2.1; exact far_slice (IsS45.own_ne HI0.out lm.out (by decide)); rintro e lA ⟨rfl, hi, hb, hk⟩; refine ⟨_, rfl, ?_⟩; refine k5_ (Kd.R_mono (Kd.R_keep (IsS45.apart (show IsS45 w0 _ g s0_0 vp vq from Z3 HI0) (Z1 eV) (by decide)) hk (fun _ h => h.2)) (fun _ h => h.1)) (Kd.R_mono (Kd.R_keep (IsS45.apart (show IsS45 w0 _ g s0_0 vp vq from Z3 HI0) (Z1 lm) (by decide)) hk (fun _ h => h.2)) (fun _ h => h.1)) (KeepBut.trans (Z7) hk (.inl rfl)) (hb) (hi) ?_; clear eV lm HK HB HI0; intro eV lm HK HB HI0; (try clear hb hk hi)))
 go_ret
 exact ⟨Z12, Z3 HI0, Z8, Z7⟩

/-! ### spec_DrawSwapGain: function 5 -/
def spec_DrawSwapGain.f (k : Nat) (l0 : List Int) : Option ((List (S30)) × Int × Int × Int) := (spec_l1Cur_strokes.f k l0 0 0).bind fun gn => ((spec_l1Cur_pick.f l0 gn.2.1 gn.2.2 16).bind fun ln => ((spec_l1Cur_pick.f l0 ln.2.1 ln.2.2 (wrap64 ((gn.1.length : Int) + (wrap64 (Int.tdiv ln.1 15))))).bind fun lp => ((spec_l1Cur_pick.f l0 lp.2.1 lp.2.2 24).bind fun lq => ((spec_l1Cur_pick.f l0 lq.2.1 lq.2.2 16).bind fun lr => ((spec_l1Cur_pick.f l0 lr.2.1 lr.2.2 (wrap64 ((gn.1.length : Int) + (wrap64 (Int.tdiv lr.1 15))))).bind fun ls => ((spec_l1Cur_pick.f l0 ls.2.1 ls.2.2 24).bind fun lu => ((spec_l1Cur_across.f l0 lu.2.1 lu.2.2).bind fun vr => (some (gn.1, wrap64 (lp.1 - (wrap64 (Int.tdiv lq.1 23))), wrap64 (ls.1 - (wrap64 (Int.tdiv lu.1 23))), vr.1)))))))))
theorem spec_DrawSwapGain.mono : ∀ a0 k, LeO (spec_DrawSwapGain.f k a0) (spec_DrawSwapGain.f (k + 1) a0) := by
 intro a0 k
 unfold spec_DrawSwapGain.f
 exact mo8_
set_option maxHeartbeats 8000000 in
set_option maxRecDepth 100000 in
theorem spec_DrawSwapGain.calls (k : Nat) (A0 : Option Addr) (c0 : Nat) (l0 : List Int) (r1 : List (S30)) (r2 : Int) (r3 : Int) (r4 : Int) (w : World) (hr0 : Kd.C (Kd.int .u8) w A0 l0.length l0) (hc0 : l0.length ≤ c0) (h : spec_DrawSwapGain.f k l0 = some (r1, r2, r3, r4)) :
  Calls Tryz.prog 5 #[.slice A0 l0.length c0] w fun e w' => ∃ v0_ : Value, e = .returned (.tuple #[v0_, .int .i64 r2, .int .i64 r3, .int .i64 r4]) ∧ Kd.R k30 30 w' w.heap.size (fun _ => True) v0_ r1 ∧ Below w.heap.size w w' := by
 have hu45 := Tryz.underlying45
 have HR0 := Aside0.mk hr0
 have HC0 := Aside0.mk hc0
 clear hr0 hc0
 have HB := Aside0.mk (Below.refl w.heap.size w)
 have H : ((spec_l1Cur_strokes.f k l0 0 0).bind fun gn => ((spec_l1Cur_pick.f l0 gn.2.1 gn.2.2 16).bind fun ln => ((spec_l1Cur_pick.f l0 ln.2.1 ln.2.2 (wrap64 ((gn.1.length : Int) + (wrap64 (Int.tdiv ln.1 15))))).bind fun lp => ((spec_l1Cur_pick.f l0 lp.2.1 lp.2.2 24).bind fun lq => ((spec_l1Cur_pick.f l0 lq.2.1 lq.2.2 16).bind fun lr => ((spec_l1Cur_pick.f l0 lr.2.1 lr.2.2 (wrap64 ((gn.1.length : Int) + (wrap64 (Int.tdiv lr.1 15))))).bind fun ls => ((spec_l1Cur_pick.f l0 ls.2.1 ls.2.2 24).bind fun lu => ((spec_l1Cur_across.f l0 lu.2.1 lu.2.2).bind fun vr => (some (gn.1, wrap64 (lp.1 - (wrap64 (Int.tdiv lq.1 23))), wrap64 (ls.1 - (wrap64 (Int.tdiv lu.1 23))), vr.1)))))))))) = some (r1, r2, r3, r4) := h
 clear h
 replace H := Option.bind_eq_some_iff.mp H
 obtain ⟨⟨vt, Ad, Ae⟩, cK, H⟩ := H
 (try dsimp only at H)
 have A2 := Aside0.mk cK
 clear cK
 replace H := Option.bind_eq_some_iff.mp H
 obtain ⟨⟨Af, Ag, Ah⟩, fN, H⟩ := H
 (try dsimp only at H)
 have A3 := Aside0.mk fN
 clear fN
 replace H := Option.bind_eq_some_iff.mp H
 obtain ⟨⟨t441, Ai, Aj⟩, fW, H⟩ := H
 (try dsimp only at H)
 have A4 := Aside0.mk fW
 clear fW
 replace H := Option.bind_eq_some_iff.mp H
 obtain ⟨⟨t444, Ak, Al⟩, fM, H⟩ := H
 (try dsimp only at H)
 have A5 := Aside0.mk fM
 clear fM
 replace H := Option.bind_eq_some_iff.mp H
 obtain ⟨⟨Am, Ap, Aq⟩, fV, H⟩ := H
 (try dsimp only at H)
 have A6 := Aside0.mk fV
 clear fV
 replace H := Option.bind_eq_some_iff.mp H
 obtain ⟨⟨t450, Ar, As⟩, nq, H⟩ := H
 (try dsimp only at H)
 have A7 := Aside0.mk nq
 clear nq
 replace H := Option.bind_eq_some_iff.mp H
 obtain ⟨⟨t453, At, Au⟩, m7, H⟩ := H
 (try dsimp only at H)
 have A8 := Aside0.mk m7
 clear m7
 replace H := Option.bind_eq_some_iff.mp H
 obtain ⟨⟨t456, t457, t458⟩, CM, H⟩ := H
 (try dsimp only at H)
 have A9 := Aside0.mk CM
 clear CM
 simp only [Option.some.injEq, Prod.mk.injEq] at H
 obtain ⟨rfl, rfl, rfl, rfl⟩ := H
 go_enter Tryz.func5, Tryz.ntmps5
 go_wp2_with (first | ((with_reducible refine gate_dst (N := 10) rfl ?_); refine bv_ 10 45 #[.slice A0 l0.length c0, .int .i64 0, .int .u64 0] ?_; intro ch hg ng hbox hb; refine k4_ (below_step (Z2) hb) ((show IsS45 w ng ch l0 0 0 from ⟨_, _, hbox, (Z38), HR0.out⟩)) ((Z38 : w.heap.size ≤ ch)) ((Z38 : w.heap.size ≤ ch)) ?_; clear HB; intro HB HI432 GW432 GE432; clear hb hbox hg) | ((with_reducible refine gate_callee (f := 21) rfl ?_); refine gl_ 12 Tryz.func21 #[.pointer (some ⟨ch, 0, none⟩)] ?_; (with_reducible refine (spec_l1Cur_strokes.calls k ch l0 0 0 vt Ad Ae w _ ?_ ?_ A2.out).mono ?_); exact (Z3 HI432); exact Z43; rintro e lA ⟨v434, rfl, ho0, hi, hb, hk⟩; refine ⟨_, rfl, ?_⟩; refine k3_ (Kd.R_lower ho0 (below_size (Z43))) (hb) (hi) ?_; clear HB HI432; intro cJ HB HI432; (try clear hb hk hi ho0); obtain ⟨cj, ba, pY⟩ := Kd.R_slice cJ.out; subst pY) | ((with_reducible refine gate_callee (f := 22) rfl ?_); refine gl_ 18 Tryz.func22 #[.pointer (some ⟨ch, 0, none⟩), .int .i64 16] ?_; (with_reducible refine (spec_l1Cur_pick.calls ch l0 Ad Ae 16 Af Ag Ah w _ ?_ ?_ A3.out).mono ?_); exact (Z3 HI432); exact Z43; rintro e m8 ⟨rfl, hi, hb, hk⟩; refine ⟨_, rfl, ?_⟩; refine k3_ (Kd.R_mono (Kd.R_keep (IsS45.apart (show IsS45 w _ ch l0 Ad Ae from Z3 HI432) (Z1 cJ) (by decide)) hk (fun _ h => h.2)) (fun _ h => h.1)) (hb) (hi) ?_; clear cJ HB HI432; intro cJ HB HI432; (try clear hb hk hi)) | ((with_reducible refine gate_callee (f := 22) rfl ?_); refine gl_ 21 Tryz.func22 #[.pointer (some ⟨ch, 0, none⟩), .int .i64 (wrap64 ((vt.length : Int) + (wrap64 (Int.tdiv Af 15))))] ?_; (with_reducible refine (spec_l1Cur_pick.calls ch l0 Ag Ah (wrap64 ((vt.length : Int) + (wrap64 (Int.tdiv Af 15)))) t441 Ai Aj w _ ?_ ?_ A4.out).mono ?_); exact (Z3 HI432); exact Z43; rintro e vE ⟨rfl, hi, hb, hk⟩; refine ⟨_, rfl, ?_⟩; refine k3_ (Kd.R_mono (Kd.R_keep (IsS45.apart (show IsS45 w _ ch l0 Ag Ah from Z3 HI432) (Z1 cJ) (by decide)) hk (fun _ h => h.2)) (fun _ h => h.1)) (hb) (hi) ?_; clear cJ HB HI432; intro cJ HB HI432; (try clear hb hk hi)) | ((with_reducible refine gate_callee (f := 22) rfl ?_); refine gl_ 23 Tryz.func22 #[.pointer (some ⟨ch, 0, none⟩), .int .i64 24] ?_; (with_reducible refine (spec_l1Cur_pick.calls ch l0 Ai Aj 24 t444 Ak Al w _ ?_ ?_ A5.out).mono ?_); exact (Z3 HI432); exact Z43; rintro e l8 ⟨rfl, hi, hb, hk⟩; refine ⟨_, rfl, ?_⟩; refine k3_ (Kd.R_mono (Kd.R_keep (IsS45.apart (show IsS45 w _ ch l0 Ai Aj from Z3 HI432) (Z1 cJ) (by decide)) hk (fun _ h => h.2)) (fun _ h => h.1)) (hb) (hi) ?_; clear cJ HB HI432; intro cJ HB HI432; (try clear hb hk hi)) | ((with_reducible refine gate_callee (f := 22) rfl ?_); refine gl_ 30 Tryz.func22 #[.pointer (some ⟨ch, 0, none⟩), .int .i64 16] ?_; (with_reducible refine (spec_l1Cur_pick.calls ch l0 Ak Al 16 Am Ap Aq w _ ?_ ?_ A6.out).mono ?_); exact (Z3 HI432); exact Z43; rintro e pw ⟨rfl, hi, hb, hk⟩; refine ⟨_, rfl, ?_⟩; refine k3_ (Kd.R_mono (Kd.R_keep (IsS45.apart (show IsS45 w _ ch l0 Ak Al from Z3 HI432) (Z1 cJ) (by decide)) hk (fun _ h => h.2)) (fun _ h => h.1)) (hb) (hi) ?_; clear cJ HB HI432; intro cJ HB HI432; (try clear hb hk hi)) | ((with_reducible refine gate_callee (f := 22) rfl ?_); refine gl_ 33 Tryz.func22 #[.pointer (some ⟨ch, 0, none⟩), .int .i64 (wrap64 ((vt.length : Int) + (wrap64 (Int.tdiv Am 15))))] ?_; (with_reducible refine (spec_l1Cur_pick.calls ch l0 Ap Aq (wrap64 ((vt.length : Int) + (wrap64 (Int.tdiv Am 15)))) t450 Ar As w _ ?_ ?_ A7.out).mono ?_); exact (Z3 HI432); exact Z43; rintro e vC ⟨rfl, hi, hb, hk⟩; refine ⟨_, rfl, ?_⟩; refine k3_ (Kd.R_mono (Kd.R_keep (IsS45.apart (show IsS45 w _ ch l0 Ap Aq from Z3 HI432) (Z1 cJ) (by decide)) hk (fun _ h => h.2)) (fun _ h => h.1)) (hb) (hi) ?_; clear cJ HB HI432; intro cJ HB HI432; (try clear hb hk hi)) | ((with_reducible refine gate_callee (f := 22) rfl ?_); refine gl_ 35 Tryz.func22 #[.pointer (some ⟨ch, 0, none⟩), .int .i64 24] ?_; (with_reducible refine (spec_l1Cur_pick.calls ch l0 Ar As 24 t453 At Au w _ ?_ ?_ A8.out).mono ?_); exact (Z3 HI432); exact Z43; rintro e Da ⟨rfl, hi, hb, hk⟩; refine ⟨_, rfl, ?_⟩; refine k3_ (Kd.R_mono (Kd.R_keep (IsS45.apart (show IsS45 w _ ch l0 Ar As from Z3 HI432) (Z1 cJ) (by decide)) hk (fun _ h => h.2)) (fun _ h => h.1)) (hb) (hi) ?_; clear cJ HB HI432; intro cJ HB HI432; (try clear hb hk hi)) | ((with_reducible refine gate_callee (f := 23) rfl ?_); refine gl_ 39 Tryz.func23 #[.pointer (some ⟨ch, 0, none⟩)] ?_; (with_reducible refine (spec_l1Cur_across.calls ch l0 At Au t456 t457 t458 w _ ?_ ?_ A9.out).mono ?_); exact (Z3 HI432); exact Z43; rintro e DI ⟨rfl, hi, hb, hk⟩; refine ⟨_, rfl, ?_⟩; refine k3_ (Kd.R_mono (Kd.R_keep (IsS45.apart (show IsS45 w _ ch l0 At Au from Z3 HI432) (Z1 cJ) (by decide)) hk (fun _ h => h.2)) (fun _ h => h.1)) (hb) (hi) ?_; clear cJ HB HI432; intro cJ HB HI432; (try clear hb hk hi)))
 refine bodyPost_ret (results_list (rs := [.tmp 2, .tmp 3, .tmp 4, .tmp 5]) rfl (by simp) (.tmp (.tmp (.tmp (.tmp .nil))))) rfl ?_
 exact ⟨_, Z12, Z1 cJ, Z43⟩

/-! ### impl_isTrack: function 44 -/
def impl_isTrack.f (a0 : Int) : Option (Bool) := if a0 ≥ 0 then (some (decide (a0 < 20))) else (some false)
set_option maxHeartbeats 8000000 in
set_option maxRecDepth 100000 in
theorem impl_isTrack.calls (a0 : Int) (r : Bool) (w : World) (h : impl_isTrack.f a0 = some r) :
  Calls Tryz.prog 44 #[.int .i64 a0] w fun e w' => e = .returned (.bool r) ∧ Drawn0 w w' := by
 have H : (if a0 ≥ 0 then (some (decide (a0 < 20))) else (some false)) = some r := h
 clear h
 by_cases c2 : a0 ≥ 0
 ·rw [if_pos c2] at H
  have fi : decide (0 ≤ a0) = true := decide_eq_true c2
  clear c2
  obtain rfl := Option.some.inj H
  go_enter Tryz.func44, Tryz.ntmps44
  go_wp2
  go_ret
  exact ⟨Z16, Z44⟩
 rw [if_neg c2] at H
 have fi : decide (0 ≤ a0) = false := decide_eq_false c2
 clear c2
 obtain rfl := Option.some.inj H
 go_enter Tryz.func44, Tryz.ntmps44
 go_wp2
 go_ret
 exact ⟨Z16, Z44⟩

/-! ### impl_AreStrokes: function 24 -/
def impl_AreStrokes.l0 : Nat → List (S30) → List (S30) → Int → Int → Option (Bool)
 | 0, _, _, _, _ => none
 | k + 1, x0, x5, x6, x7 => if x7 < x6 then (if 0 ≤ x7 then (if x7 < (x5.length : Int) then ((impl_isTrack.f ((rd_T30 x5 x7).f0)).bind fun Av => (if Av = true then (if ((rd_T30 x5 x7).f1) < 0 then (some false) else (if ((rd_T30 x5 x7).f1) ≥ 2000 then (some false) else (impl_AreStrokes.l0 k x0 x5 x6 (wrap64 (x7 + 1))))) else (some false))) else (none)) else (none)) else (some (decide ((x0.length : Int) ≤ 200)))
def impl_AreStrokes.f (k : Nat) (l0 : List (S30)) : Option (Bool) := impl_AreStrokes.l0 k l0 l0 (l0.length : Int) 0
theorem impl_AreStrokes.mono_l : ∀ k, (∀ y0 y1 y2 y3, LeO (impl_AreStrokes.l0 k y0 y1 y2 y3) (impl_AreStrokes.l0 (k + 1) y0 y1 y2 y3))
 | 0 => fun _ _ _ _ r h => by simp [impl_AreStrokes.l0] at h
 | k + 1 => by
  have ih0 := impl_AreStrokes.mono_l k
  ·intro y0 y1 y2 y3
   unfold impl_AreStrokes.l0
   exact mo8_
theorem impl_AreStrokes.mono : ∀ a0 k, LeO (impl_AreStrokes.f k a0) (impl_AreStrokes.f (k + 1) a0) := by
 intro a0 k
 have ih0 := impl_AreStrokes.mono_l k
 unfold impl_AreStrokes.f
 exact mo8_
set_option maxHeartbeats 8000000 in
set_option maxRecDepth 100000 in
theorem impl_AreStrokes.calls (k : Nat) (A0 : Option Addr) (c0 : Nat) (l0 : List (S30)) (r : Bool) (w : World) (hr0 : Kd.C k30 w A0 l0.length l0) (hc0 : l0.length ≤ c0) (h : impl_AreStrokes.f k l0 = some r) :
  Calls Tryz.prog 24 #[.slice A0 l0.length c0] w fun e w' => e = .returned (.bool r) ∧ Below w.heap.size w w' := by
 have hu30 := Tryz.underlying30
 have HR0 := Aside0.mk hr0
 have HC0 := Aside0.mk hc0
 clear hr0 hc0
 have HB := Aside0.mk (Below.refl w.heap.size w)
 have H : (impl_AreStrokes.l0 k l0 l0 (l0.length : Int) 0) = some r := h
 clear h
 have H' := Aside0.mk H
 clear H
 go_enter Tryz.func24, Tryz.ntmps24
 go_wp2
 go_loopg [7] k (fun kq v7 w' => ∃ (bl : Int), v7 = .int .i64 bl ∧ Aside0 (impl_AreStrokes.l0 kq l0 l0 (l0.length : Int) bl = some r) ∧ Aside0 (kq ≤ k) ∧ Aside0 (Below w.heap.size w w'))
 case atStart => exact ⟨(0), (Z16), H', ⟨Nat.le_refl _⟩, ⟨Z2⟩⟩
 case round =>
  clear H'
  obtain ⟨bl, rfl, HA, HK1, HB⟩ := hrel
  cases gk with
  | zero => exact absurd HA.out (by simp [impl_AreStrokes.l0])
  | succ k1 =>
   have H := HA.out
   clear HA
   simp only [impl_AreStrokes.l0] at H
   by_cases c2 : bl < (l0.length : Int)
   ·rw [if_pos c2] at H
    have fi : decide (bl < (l0.length : Int)) = true := decide_eq_true c2
    clear c2
    by_cases c3 : 0 ≤ bl
    ·rw [if_pos c3] at H
     have dj : decide (0 ≤ bl) = true := decide_eq_true c3
     clear c3
     by_cases c4 : bl < (l0.length : Int)
     ·rw [if_pos c4] at H
      have fj : decide (bl < (l0.length : Int)) = true := decide_eq_true c4
      clear c4
      replace H := Option.bind_eq_some_iff.mp H
      obtain ⟨Av, fM, H⟩ := H
      (try dsimp only at H)
      have A5 := Aside0.mk fM
      clear fM
      by_cases c6 : Av = true
      ·subst c6
       rw [if_pos rfl] at H
       by_cases c7 : ((rd_T30 l0 bl).f1) < 0
       ·rw [if_pos c7] at H
        have gX : decide (((rd_T30 l0 bl).f1) < 0) = true := decide_eq_true c7
        clear c7
        obtain rfl := Option.some.inj H
        have gP : 0 ≤ (bl : Int) := of_decide_eq_true (Z4)
        have gQ : bl < (l0.length : Int) := of_decide_eq_true (Z4)
        obtain ⟨vu, e459, ck, cl⟩ := at_T30 HR0.out bl gP gQ
        cases e459
        replace ck := (HB.out.cell (World.block_lt_of_cell? w _ ck)).trans ck
        replace cl := (HB.out.cell (World.block_lt_of_cell? w _ cl)).trans cl
        replace gP := eq_true gP
        replace gQ := eq_true gQ
        go_wp2_with (first | ((with_reducible refine gate_dst (N := 4) rfl ?_); refine bv_ 4 30 #[.int .i64 0, .int .i64 0] ?_; intro go hg w8 hbox hb; refine k4_ (below_step (Z2) hb) (hbox) ((Z38 : w.heap.size ≤ go)) ((Z38 : w.heap.size ≤ go)) ?_; clear HB; intro HB lv vv qH; clear hb hbox hg; obtain ⟨ml, mm, pD, mn⟩ := bx2_ (w := w8) lv.out) | ((with_reducible refine gate_callee (f := 44) rfl ?_); refine gl_ 13 Tryz.func44 #[.int .i64 ((rd_T30 l0 bl).f0)] ?_; (with_reducible refine (impl_isTrack.calls ((rd_T30 l0 bl).f0) true _ A5.out).mono ?_); rintro e w' ⟨rfl, ⟨nd, rfl⟩⟩; refine ⟨_, rfl, ?_⟩))
        go_ret
        exact ⟨Z12, Z78⟩
       rw [if_neg c7] at H
       have gX : decide (((rd_T30 l0 bl).f1) < 0) = false := decide_eq_false c7
       clear c7
       by_cases c10 : ((rd_T30 l0 bl).f1) ≥ 2000
       ·rw [if_pos c10] at H
        have cg : decide (2000 ≤ ((rd_T30 l0 bl).f1)) = true := decide_eq_true c10
        clear c10
        obtain rfl := Option.some.inj H
        have gP : 0 ≤ (bl : Int) := of_decide_eq_true (Z4)
        have gQ : bl < (l0.length : Int) := of_decide_eq_true (Z4)
        obtain ⟨vu, e459, ck, cl⟩ := at_T30 HR0.out bl gP gQ
        cases e459
        replace ck := (HB.out.cell (World.block_lt_of_cell? w _ ck)).trans ck
        replace cl := (HB.out.cell (World.block_lt_of_cell? w _ cl)).trans cl
        replace gP := eq_true gP
        replace gQ := eq_true gQ
        go_wp2_with (first | ((with_reducible refine gate_dst (N := 4) rfl ?_); refine bv_ 4 30 #[.int .i64 0, .int .i64 0] ?_; intro go hg lA hbox hb; refine k4_ (below_step (Z2) hb) (hbox) ((Z38 : w.heap.size ≤ go)) ((Z38 : w.heap.size ≤ go)) ?_; clear HB; intro HB lv vv qH; clear hb hbox hg; obtain ⟨jb, mE, jc, mF⟩ := bx2_ (w := lA) lv.out) | ((with_reducible refine gate_callee (f := 44) rfl ?_); refine gl_ 13 Tryz.func44 #[.int .i64 ((rd_T30 l0 bl).f0)] ?_; (with_reducible refine (impl_isTrack.calls ((rd_T30 l0 bl).f0) true _ A5.out).mono ?_); rintro e w' ⟨rfl, ⟨nd, rfl⟩⟩; refine ⟨_, rfl, ?_⟩))
        go_ret
        exact ⟨Z12, Z78⟩
       rw [if_neg c10] at H
       have cg : decide (2000 ≤ ((rd_T30 l0 bl).f1)) = false := decide_eq_false c10
       clear c10
       have H' := Aside0.mk H
       clear H
       have gP : 0 ≤ (bl : Int) := of_decide_eq_true (Z4)
       have gQ : bl < (l0.length : Int) := of_decide_eq_true (Z4)
       obtain ⟨vu, e459, ck, cl⟩ := at_T30 HR0.out bl gP gQ
       cases e459
       replace ck := (HB.out.cell (World.block_lt_of_cell? w _ ck)).trans ck
       replace cl := (HB.out.cell (World.block_lt_of_cell? w _ cl)).trans cl
       replace gP := eq_true gP
       replace gQ := eq_true gQ
       go_wp2_with (first | ((with_reducible refine gate_dst (N := 4) rfl ?_); refine bv_ 4 30 #[.int .i64 0, .int .i64 0] ?_; intro go hg m8 hbox hb; refine k4_ (below_step (Z2) hb) (hbox) ((Z38 : w.heap.size ≤ go)) ((Z38 : w.heap.size ≤ go)) ?_; clear HB; intro HB lv vv qH; clear hb hbox hg; obtain ⟨rg, rh, ri, rj⟩ := bx2_ (w := m8) lv.out) | ((with_reducible refine gate_callee (f := 44) rfl ?_); refine gl_ 13 Tryz.func44 #[.int .i64 ((rd_T30 l0 bl).f0)] ?_; (with_reducible refine (impl_isTrack.calls ((rd_T30 l0 bl).f0) true _ A5.out).mono ?_); rintro e w' ⟨rfl, ⟨nd, rfl⟩⟩; refine ⟨_, rfl, ?_⟩))
       go_roundg k1
       case measure => have := HK1.out; omega
       case rel => exact ⟨(wrap64 (bl + 1)), (Z16), H', ⟨Z76 HK1⟩, ⟨Z78⟩⟩
      replace c6 := Bool.eq_false_iff.mpr c6
      subst c6
      rw [if_neg (show ¬ (false = true) by decide)] at H
      obtain rfl := Option.some.inj H
      have gP : 0 ≤ (bl : Int) := of_decide_eq_true (Z4)
      have gQ : bl < (l0.length : Int) := of_decide_eq_true (Z4)
      obtain ⟨vu, e459, ck, cl⟩ := at_T30 HR0.out bl gP gQ
      cases e459
      replace ck := (HB.out.cell (World.block_lt_of_cell? w _ ck)).trans ck
      replace cl := (HB.out.cell (World.block_lt_of_cell? w _ cl)).trans cl
      replace gP := eq_true gP
      replace gQ := eq_true gQ
      go_wp2_with (first | ((with_reducible refine gate_dst (N := 4) rfl ?_); refine bv_ 4 30 #[.int .i64 0, .int .i64 0] ?_; intro go hg l8 hbox hb; refine k4_ (below_step (Z2) hb) (hbox) ((Z38 : w.heap.size ≤ go)) ((Z38 : w.heap.size ≤ go)) ?_; clear HB; intro HB lv vv qH; clear hb hbox hg; obtain ⟨hcz16_0, hcz16_1, hfz16_0, hfz16_1⟩ := bx2_ (w := l8) lv.out) | ((with_reducible refine gate_callee (f := 44) rfl ?_); refine gl_ 13 Tryz.func44 #[.int .i64 ((rd_T30 l0 bl).f0)] ?_; (with_reducible refine (impl_isTrack.calls ((rd_T30 l0 bl).f0) false _ A5.out).mono ?_); rintro e w' ⟨rfl, ⟨nd, rfl⟩⟩; refine ⟨_, rfl, ?_⟩))
      go_ret
      exact ⟨Z12, Z78⟩
     rw [if_neg c4] at H
     exact absurd H (by simp)
    rw [if_neg c3] at H
    exact absurd H (by simp)
   rw [if_neg c2] at H
   have fi : decide (bl < (l0.length : Int)) = false := decide_eq_false c2
   clear c2
   obtain rfl := Option.some.inj H
   go_wp2
   go_ret
   exact ⟨Z12, Z2⟩

/-! ### impl_isAcross: function 25 -/
def impl_isAcross.f (a0 : Int) : Option (Bool) := if a0 ≥ 1 then (some (decide (a0 ≤ 50))) else (some false)
set_option maxHeartbeats 8000000 in
set_option maxRecDepth 100000 in
theorem impl_isAcross.calls (a0 : Int) (r : Bool) (w : World) (h : impl_isAcross.f a0 = some r) :
  Calls Tryz.prog 25 #[.int .i64 a0] w fun e w' => e = .returned (.bool r) ∧ Drawn0 w w' := by
 have H : (if a0 ≥ 1 then (some (decide (a0 ≤ 50))) else (some false)) = some r := h
 clear h
 by_cases c2 : a0 ≥ 1
 ·rw [if_pos c2] at H
  have fi : decide (1 ≤ a0) = true := decide_eq_true c2
  clear c2
  obtain rfl := Option.some.inj H
  go_enter Tryz.func25, Tryz.ntmps25
  go_wp2
  go_ret
  exact ⟨Z16, Z44⟩
 rw [if_neg c2] at H
 have fi : decide (1 ≤ a0) = false := decide_eq_false c2
 clear c2
 obtain rfl := Option.some.inj H
 go_enter Tryz.func25, Tryz.ntmps25
 go_wp2
 go_ret
 exact ⟨Z16, Z44⟩

end Go.Proofs.YtmnnmddfmmaohaaGreat.PFnHead
