-- written by a program of this session: the kit's print, with outer functions of the session's own (wip/ext)
import Derived.Test.YtflefblmaopaiaaPFnStopsx0
import Derived.Test.YtflefblmaopaiaaPFnStopsx2
import Derived.Test.YtflefblmaopaiaaPFnStopsx6
import Derived.Test.YtflefblmaopaiaaPFnStopsx9
import Derived.Test.YtflefblmaopaiaaPFnStopsx10
namespace Go.Proofs.Ytflefblmaopaiaa.PFnStops
open Go.RowKit Go.Proofs.YtflefblmaopaiaaW.PrintWords Go.Proofs.YtflefblmaopaiaaW.PrintLast Go.Proofs.YtflefblmaopaiaaW.PrintMore
attribute [local go_sem] max2_int min2_int max_two min_two max_three min_three max_four min_four   -- for this text's walks alone
set_option linter.unusedVariables false
set_option linter.unusedSimpArgs false
theorem mo13_ {p : Prop} (h : p := by repeat' first | (with_reducible first | apply ih0 | apply ih0 | apply ih1 | apply ih1 | apply impl_IsSheet.mono | apply impl_IsSheet.mono | apply spec_l1Cur_anySheet.mono | apply spec_l1Cur_anySheet.mono | exact LeO.refl _ | exact LeO.none _ | refine LeO.ite ?_ ?_ | refine LeO.bind ?_ (fun _ => ?_)) | exact LeO.none _ | refine LeO.ite ?_ ?_ | refine LeO.bind ?_ (fun _ => ?_)) : p := h

/-! ### spec_BestMark: function 9 -/
mutual
def spec_BestMark.j0 : Nat → Int → Int → Int → Bool → Option (Int × Int × Bool)
 | 0, _, _, _, _ => none
 | k + 1, x0, x1, x2, x25 => if x25 = true then (some (0, 0, false)) else (spec_BestMark.l0 k x0 x1 x2 0 (-1) 1)
def spec_BestMark.l0 : Nat → Int → Int → Int → Int → Int → Int → Option (Int × Int × Bool)
 | 0, _, _, _, _, _, _ => none
 | k + 1, x0, x1, x2, x9, x10, x11 => if x11 ≤ 50 then (if x11 = 0 then (none) else (if x10 < 0 then (spec_BestMark.l0 k x0 x1 x2 x11 (wrap64 ((wrap64 ((wrap64 (Int.tdiv x0 x11)) * x1)) + (wrap64 ((wrap64 (x11 - 1)) * x2)))) (wrap64 (x11 + 1))) else (if (wrap64 ((wrap64 ((wrap64 (Int.tdiv x0 x11)) * x1)) + (wrap64 ((wrap64 (x11 - 1)) * x2)))) < x10 then (spec_BestMark.l0 k x0 x1 x2 x11 (wrap64 ((wrap64 ((wrap64 (Int.tdiv x0 x11)) * x1)) + (wrap64 ((wrap64 (x11 - 1)) * x2)))) (wrap64 (x11 + 1))) else (spec_BestMark.l0 k x0 x1 x2 x9 x10 (wrap64 (x11 + 1)))))) else (some (x9, x10, true))
end
def spec_BestMark.f (k : Nat) (a0 : Int) (a1 : Int) (a2 : Int) : Option (Int × Int × Bool) := (spec_l1In.f a0 1 200).bind fun t551 => (if t551 = true then ((spec_l1In.f a1 0 100).bind fun t552 => (if t552 = true then ((spec_l1In.f a2 0 100).bind fun t553 => (spec_BestMark.j0 k a0 a1 a2 (!t553))) else (spec_BestMark.j0 k a0 a1 a2 true))) else (spec_BestMark.j0 k a0 a1 a2 true))
theorem spec_BestMark.mono_l : ∀ k, (∀ y0 y1 y2 y3, LeO (spec_BestMark.j0 k y0 y1 y2 y3) (spec_BestMark.j0 (k + 1) y0 y1 y2 y3)) ∧ (∀ y0 y1 y2 y3 y4 y5, LeO (spec_BestMark.l0 k y0 y1 y2 y3 y4 y5) (spec_BestMark.l0 (k + 1) y0 y1 y2 y3 y4 y5))
 | 0 => ⟨fun _ _ _ _ r h => by simp [spec_BestMark.j0] at h, fun _ _ _ _ _ _ r h => by simp [spec_BestMark.l0] at h⟩
 | k + 1 => by
  obtain ⟨ih0, ih1⟩ := spec_BestMark.mono_l k
  refine ⟨?_, ?_⟩
  ·intro y0 y1 y2 y3
   unfold spec_BestMark.j0
   exact mo13_
  intro y0 y1 y2 y3 y4 y5
  unfold spec_BestMark.l0
  exact mo13_
theorem spec_BestMark.mono : ∀ a0 a1 a2 k, LeO (spec_BestMark.f k a0 a1 a2) (spec_BestMark.f (k + 1) a0 a1 a2) := by
 intro a0 a1 a2 k
 obtain ⟨ih0, ih1⟩ := spec_BestMark.mono_l k
 unfold spec_BestMark.f
 exact mo13_
set_option maxHeartbeats 8000000 in
set_option maxRecDepth 100000 in
theorem spec_BestMark.calls (k : Nat) (a0 : Int) (a1 : Int) (a2 : Int) (r1 : Int) (r2 : Int) (r3 : Bool) (w : World) (h : spec_BestMark.f k a0 a1 a2 = some (r1, r2, r3)) :
  Calls Try.prog 9 #[.int .i64 a0, .int .i64 a1, .int .i64 a2] w fun e w' => e = .returned (.tuple #[.int .i64 r1, .int .i64 r2, .bool r3]) ∧ Drawn0 w w' := by
 have H : ((spec_l1In.f a0 1 200).bind fun t551 => (if t551 = true then ((spec_l1In.f a1 0 100).bind fun t552 => (if t552 = true then ((spec_l1In.f a2 0 100).bind fun t553 => (spec_BestMark.j0 k a0 a1 a2 (!t553))) else (spec_BestMark.j0 k a0 a1 a2 true))) else (spec_BestMark.j0 k a0 a1 a2 true))) = some (r1, r2, r3) := h
 clear h
 have HC4 := Aside0.mk H
 clear H
 go_enter Try.func9, Try.ntmps9
 go_upto_region 1 with (fail)
 go_cut [25] (fun v25 wc => ∃ (kq : Nat) (x25_3 : Bool), v25 = .bool x25_3 ∧ Aside0 (spec_BestMark.j0 kq a0 a1 a2 x25_3 = some (r1, r2, r3)) ∧ Aside0 (kq ≤ k) ∧ Drawn0 w wc)
 case first =>
  have H := HC4.out
  clear HC4
  replace H := Option.bind_eq_some_iff.mp H
  obtain ⟨t551, A50, H⟩ := H
  (try dsimp only at H)
  have A5 := Aside0.mk A50
  clear A50
  by_cases c6 : t551 = true
  ·subst c6
   rw [if_pos rfl] at H
   replace H := Option.bind_eq_some_iff.mp H
   obtain ⟨t552, A70, H⟩ := H
   (try dsimp only at H)
   have A7 := Aside0.mk A70
   clear A70
   by_cases c8 : t552 = true
   ·subst c8
    rw [if_pos rfl] at H
    replace H := Option.bind_eq_some_iff.mp H
    obtain ⟨t553, A90, H⟩ := H
    (try dsimp only at H)
    have A9 := Aside0.mk A90
    clear A90
    have H' := Aside0.mk H
    clear H
    go_wp2_with (first | ((with_reducible refine gate_callee (f := 35) rfl ?_); refine gl_ 14 Try.func35 #[.int .i64 a0, .int .i64 1, .int .i64 200] ?_; (with_reducible refine (spec_l1In.calls a0 1 200 true _ A5.out).mono ?_); rintro e w' ⟨rfl, ⟨nd, rfl⟩⟩; refine ⟨_, rfl, ?_⟩) | (go_at_call 35; (with_reducible refine (spec_l1In.calls a1 0 100 true _ A7.out).mono ?_); rintro e w' ⟨rfl, ⟨nd, rfl⟩⟩) | (go_at_call 35; (with_reducible refine (spec_l1In.calls a2 0 100 t553 _ A9.out).mono ?_); rintro e w' ⟨rfl, ⟨nd, rfl⟩⟩))
    go_meet
    case rel => exact ⟨_, (!t553), (Z17), H', ⟨Z110⟩, Z75⟩
   replace c8 := Bool.eq_false_iff.mpr c8
   subst c8
   rw [if_neg (show ¬ (false = true) by decide)] at H
   have H' := Aside0.mk H
   clear H
   go_wp2_with (first | ((with_reducible refine gate_callee (f := 35) rfl ?_); refine gl_ 14 Try.func35 #[.int .i64 a0, .int .i64 1, .int .i64 200] ?_; (with_reducible refine (spec_l1In.calls a0 1 200 true _ A5.out).mono ?_); rintro e w' ⟨rfl, ⟨nd, rfl⟩⟩; refine ⟨_, rfl, ?_⟩) | (go_at_call 35; (with_reducible refine (spec_l1In.calls a1 0 100 false _ A7.out).mono ?_); rintro e w' ⟨rfl, ⟨nd, rfl⟩⟩))
   go_meet
   case rel => exact ⟨_, (true), (Z17), H', ⟨Z110⟩, Z75⟩
  replace c6 := Bool.eq_false_iff.mpr c6
  subst c6
  rw [if_neg (show ¬ (false = true) by decide)] at H
  have H' := Aside0.mk H
  clear H
  go_wp2_with (first | ((with_reducible refine gate_callee (f := 35) rfl ?_); refine gl_ 14 Try.func35 #[.int .i64 a0, .int .i64 1, .int .i64 200] ?_; (with_reducible refine (spec_l1In.calls a0 1 200 false _ A5.out).mono ?_); rintro e w' ⟨rfl, ⟨nd, rfl⟩⟩; refine ⟨_, rfl, ?_⟩))
  go_meet
  case rel => exact ⟨_, (true), (Z17), H', ⟨Z110⟩, Z75⟩
 case rest =>
  clear HC4
  (try clear p2); (try clear c3); (try clear c6); (try clear c8); (try clear c9)
  obtain ⟨kq, x25_3, rfl, HA, HJ3, ⟨mc3, rfl⟩⟩ := hcut
  cases kq with
  | zero => exact absurd HA.out (by simp [spec_BestMark.j0])
  | succ kj3 =>
   have H := HA.out
   clear HA
   simp only [spec_BestMark.j0] at H
   by_cases c10 : x25_3 = true
   ·subst c10
    rw [if_pos rfl] at H
    simp only [Option.some.injEq, Prod.mk.injEq] at H
    obtain ⟨rfl, rfl, rfl⟩ := H
    go_wp2
    go_ret3
    exact ⟨Z17, Z75⟩
   replace c10 := Bool.eq_false_iff.mpr c10
   subst c10
   rw [if_neg (show ¬ (false = true) by decide)] at H
   have H' := Aside0.mk H
   clear H
   go_wp2
   go_loopg [9, 10, 11] kj3 (fun kq v9 v10 v11 w' => ∃ (x9_2 : Int) (x10_2 : Int) (x11_2 : Int), v9 = .int .i64 x9_2 ∧ v10 = .int .i64 x10_2 ∧ v11 = .int .i64 x11_2 ∧ Aside0 (spec_BestMark.l0 kq a0 a1 a2 x9_2 x10_2 x11_2 = some (r1, r2, r3)) ∧ Aside0 (kq ≤ kj3) ∧ Drawn0 w w')
   case atStart => exact ⟨(0), ((-1)), (1), (Z17), (Z17), (Z17), H', ⟨Nat.le_refl _⟩, Z75⟩
   case round =>
    clear H'
    (try clear c1); (try clear c10)
    obtain ⟨x9_2, x10_2, x11_2, rfl, rfl, rfl, HA, HK2, ⟨m2, rfl⟩⟩ := hrel
    cases gk with
    | zero => exact absurd HA.out (by simp [spec_BestMark.l0])
    | succ k2 =>
     have H := HA.out
     clear HA
     simp only [spec_BestMark.l0] at H
     by_cases c11 : x11_2 ≤ 50
     ·rw [if_pos c11] at H
      have c11b0 : decide (x11_2 ≤ 50) = true := decide_eq_true c11
      clear c11
      by_cases c12 : x11_2 = 0
      ·rw [if_pos c12] at H
       exact absurd H (by simp)
      rw [if_neg c12] at H
      have c12b0 : (x11_2 == 0) = false := beq_eq_false_iff_ne.mpr c12
      have c12b1 : (x11_2 != 0) = true := bne_iff_ne.mpr c12
      by_cases c13 : x10_2 < 0
      ·rw [if_pos c13] at H
       have c13b0 : decide (x10_2 < 0) = true := decide_eq_true c13
       clear c13
       have H' := Aside0.mk H
       clear H
       go_wp2
       go_roundg k2
       case measure => have := HJ3.out; have := HK2.out; omega
       case rel => exact ⟨(x11_2), (wrap64 ((wrap64 ((wrap64 (Int.tdiv a0 x11_2)) * a1)) + (wrap64 ((wrap64 (x11_2 - 1)) * a2)))), (wrap64 (x11_2 + 1)), (Z17), (Z17), (Z17), H', ⟨Z153 HJ3.out⟩, Z75⟩
      rw [if_neg c13] at H
      have c13b0 : decide (x10_2 < 0) = false := decide_eq_false c13
      clear c13
      by_cases c14 : (wrap64 ((wrap64 ((wrap64 (Int.tdiv a0 x11_2)) * a1)) + (wrap64 ((wrap64 (x11_2 - 1)) * a2)))) < x10_2
      ·rw [if_pos c14] at H
       have c14b0 : decide ((wrap64 ((wrap64 ((wrap64 (Int.tdiv a0 x11_2)) * a1)) + (wrap64 ((wrap64 (x11_2 - 1)) * a2)))) < x10_2) = true := decide_eq_true c14
       clear c14
       have H' := Aside0.mk H
       clear H
       go_wp2
       go_roundg k2
       case measure => have := HJ3.out; have := HK2.out; omega
       case rel => exact ⟨(x11_2), (wrap64 ((wrap64 ((wrap64 (Int.tdiv a0 x11_2)) * a1)) + (wrap64 ((wrap64 (x11_2 - 1)) * a2)))), (wrap64 (x11_2 + 1)), (Z17), (Z17), (Z17), H', ⟨Z153 HJ3.out⟩, Z75⟩
      rw [if_neg c14] at H
      have c14b0 : decide ((wrap64 ((wrap64 ((wrap64 (Int.tdiv a0 x11_2)) * a1)) + (wrap64 ((wrap64 (x11_2 - 1)) * a2)))) < x10_2) = false := decide_eq_false c14
      clear c14
      have H' := Aside0.mk H
      clear H
      go_wp2
      go_roundg k2
      case measure => have := HJ3.out; have := HK2.out; omega
      case rel => exact ⟨(x9_2), (x10_2), (wrap64 (x11_2 + 1)), (Z17), (Z17), (Z17), H', ⟨Z153 HJ3.out⟩, Z75⟩
     rw [if_neg c11] at H
     have c11b0 : decide (x11_2 ≤ 50) = false := decide_eq_false c11
     clear c11
     simp only [Option.some.injEq, Prod.mk.injEq] at H
     obtain ⟨rfl, rfl, rfl⟩ := H
     go_wp2
     go_ret3
     exact ⟨Z17, Z75⟩

/-! ### spec_DrawSplitSheet: function 10 -/
def spec_DrawSplitSheet.f (k : Nat) (l0 : List Int) : Option ((List (S64)) × Int) := (spec_l1Cur_anySheet.f k l0 0 0).bind fun bt555 => ((spec_l1Cur_pick.f l0 bt555.2.1 bt555.2.2 (wrap64 ((bt555.1.length : Int) + 1))).bind fun bt560 => ((spec_l1Cur_among.f l0 bt560.2.1 bt560.2.2 (([wrap64 ((bt555.1.length : Int) + 1), (-1)] : List Int))).bind fun bt566 => ((spec_l1Cur_among.f l0 bt566.2.1 bt566.2.2 (([0, bt560.1, (bt555.1.length : Int), bt566.1] : List Int))).bind fun bt572 => (some (bt555.1, bt572.1)))))
theorem spec_DrawSplitSheet.mono : ∀ a0 k, LeO (spec_DrawSplitSheet.f k a0) (spec_DrawSplitSheet.f (k + 1) a0) := by
 intro a0 k
 unfold spec_DrawSplitSheet.f
 exact mo13_
set_option maxHeartbeats 8000000 in
set_option maxRecDepth 100000 in
theorem spec_DrawSplitSheet.calls (k : Nat) (A0 : Option Addr) (c0 : Nat) (l0 : List Int) (r1 : List (S64)) (r2 : Int) (w : World) (hr0 : Kd.C (Kd.int .u8) w A0 l0.length l0) (hc0 : l0.length ≤ c0) (h : spec_DrawSplitSheet.f k l0 = some (r1, r2)) :
  Calls Try.prog 10 #[.slice A0 l0.length c0] w fun e w' => ∃ v0_ : Value, e = .returned (.tuple #[v0_, .int .i64 r2]) ∧ Kd.R k64 64 w' w.heap.size (fun _ => True) v0_ r1 ∧ Below w.heap.size w w' := by
 have hu49 := Try.underlying49
 have HR0 := Aside0.mk hr0
 have HC0 := Aside0.mk hc0
 clear hr0 hc0
 have HB := Aside0.mk (Below.refl w.heap.size w)
 have H : ((spec_l1Cur_anySheet.f k l0 0 0).bind fun bt555 => ((spec_l1Cur_pick.f l0 bt555.2.1 bt555.2.2 (wrap64 ((bt555.1.length : Int) + 1))).bind fun bt560 => ((spec_l1Cur_among.f l0 bt560.2.1 bt560.2.2 (([wrap64 ((bt555.1.length : Int) + 1), (-1)] : List Int))).bind fun bt566 => ((spec_l1Cur_among.f l0 bt566.2.1 bt566.2.2 (([0, bt560.1, (bt555.1.length : Int), bt566.1] : List Int))).bind fun bt572 => (some (bt555.1, bt572.1)))))) = some (r1, r2) := h
 clear h
 replace H := Option.bind_eq_some_iff.mp H
 obtain ⟨⟨t555, t558, t559⟩, A20, H⟩ := H
 (try dsimp only at H)
 have A2 := Aside0.mk A20
 clear A20
 replace H := Option.bind_eq_some_iff.mp H
 obtain ⟨⟨t560, t561, t562⟩, A30, H⟩ := H
 (try dsimp only at H)
 have A3 := Aside0.mk A30
 clear A30
 obtain ⟨y563, hy563⟩ : ∃ y_ : List Int, y_ = (([wrap64 ((t555.length : Int) + 1), (-1)] : List Int)) := ⟨_, rfl⟩
 replace H : ((spec_l1Cur_among.f l0 t561 t562 y563).bind fun bt566 => ((spec_l1Cur_among.f l0 bt566.2.1 bt566.2.2 (([0, t560, (t555.length : Int), bt566.1] : List Int))).bind fun bt572 => (some (t555, bt572.1)))) = some (r1, r2) := by first | (rw [hy563]; with_reducible exact H) | (have H2_ := (Option.bind_some _ _).symm.trans H; rw [hy563]; with_reducible exact H2_) | (have H2_ := (Option.bind_some _ _).symm.trans H; with_reducible exact H2_) | with_reducible exact H | (rw [hy563]; exact H) | exact H
 have Ny563 := Aside0.mk hy563
 clear hy563
 replace H := Option.bind_eq_some_iff.mp H
 obtain ⟨⟨t566, t567, t568⟩, A40, H⟩ := H
 (try dsimp only at H)
 have A4 := Aside0.mk A40
 clear A40
 obtain ⟨y569, hy569⟩ : ∃ y_ : List Int, y_ = (([0, t560, (t555.length : Int), t566] : List Int)) := ⟨_, rfl⟩
 replace H : ((spec_l1Cur_among.f l0 t567 t568 y569).bind fun bt572 => (some (t555, bt572.1))) = some (r1, r2) := by first | (rw [hy569]; with_reducible exact H) | (have H2_ := (Option.bind_some _ _).symm.trans H; rw [hy569]; with_reducible exact H2_) | (have H2_ := (Option.bind_some _ _).symm.trans H; with_reducible exact H2_) | with_reducible exact H | (rw [hy569]; exact H) | exact H
 have Ny569 := Aside0.mk hy569
 clear hy569
 replace H := Option.bind_eq_some_iff.mp H
 obtain ⟨⟨t572, t573, t574⟩, A50, H⟩ := H
 replace H : (some (t555, t572)) = some (r1, r2) := H
 have A5 := Aside0.mk A50
 clear A50
 simp only [Option.some.injEq, Prod.mk.injEq] at H
 obtain ⟨rfl, rfl⟩ := H
 go_enter Try.func10, Try.ntmps10
 go_wp2_with (first | ((with_reducible refine gate_dst (N := 8) rfl ?_); refine bv_ 8 49 #[.slice A0 l0.length c0, .int .i64 0, .int .u64 0] ?_; intro gb554 hg w6 hbox hb; refine k4_ (below_step (Z3) hb) ((show IsS49 w w6 gb554 l0 0 0 from ⟨_, _, hbox, (Z26), HR0.out⟩)) ((Z26 : w.heap.size ≤ gb554)) ((Z26 : w.heap.size ≤ gb554)) ?_; clear HB; intro HB HI554 GW554 GE554; clear hb hbox hg) | ((with_reducible refine gate_callee (f := 36) rfl ?_); refine gl_ 10 Try.func36 #[.pointer (some ⟨gb554, 0, none⟩)] ?_; (with_reducible refine (spec_l1Cur_anySheet.calls k gb554 l0 0 0 t555 t558 t559 w _ ?_ ?_ A2.out).mono ?_); exact Z4 HI554.out; exact Z88; rintro e w7 ⟨v556, rfl, ho0, hi, hb, hk⟩; refine ⟨_, rfl, ?_⟩; refine k3_ (Kd.R_lower ho0 (below_size (Z88))) (hb) (hi) ?_; clear HB HI554; intro HO557 HB HI554; (try clear hb hk hi ho0); obtain ⟨Ao8, co8, eo8⟩ := Kd.R_slice HO557.out; subst eo8) | ((with_reducible refine gate_callee (f := 22) rfl ?_); refine gl_ 17 Try.func22 #[.pointer (some ⟨gb554, 0, none⟩), .int .i64 (wrap64 ((t555.length : Int) + 1))] ?_; (with_reducible refine (spec_l1Cur_pick.calls gb554 l0 t558 t559 (wrap64 ((t555.length : Int) + 1)) t560 t561 t562 w _ ?_ ?_ A3.out).mono ?_); exact Z4 HI554.out; exact Z88; rintro e w9 ⟨rfl, hi, hb, hk⟩; refine ⟨_, rfl, ?_⟩; refine k3_ (Kd.R_mono (Kd.R_keep (IsS49.apart (show IsS49 w _ gb554 l0 t558 t559 from Z4 HI554.out) (Z1 HO557.out) (by decide)) hk (fun _ h => h.2)) (fun _ h => h.1)) (hb) (hi) ?_; clear HO557 HB HI554; intro HO557 HB HI554; (try clear hb hk hi)) | ((with_reducible refine gate_dst (N := 24) rfl ?_); refine Kd.R_lit (Kd.int .i64) _ 3 ?hg (N := 24) ?hd (xs := ([wrap64 ((t555.length : Int) + 1), (-1)] : List Int)) (inner := [.int .i64 (wrap64 ((t555.length : Int) + 1)), .int .i64 (-1)]) (ok := fun _ => True) (okp := fun _ => True) ?hr ?hp (fun _ hk => hk) trivial (Below.refl _ _) (Nat.le_refl _) (by simp) ?_; (case hd => rfl); (case hg => rfl); (case hr => exact Z100); (case hp => exact (Reps.one (show Kd.M (Kd.int .i64) _ _ _ (wrap64 ((t555.length : Int) + 1)) [.int .i64 (wrap64 ((t555.length : Int) + 1))] from rfl) (Reps.one (show Kd.M (Kd.int .i64) _ _ _ (-1) [.int .i64 (-1)] from rfl) (Reps.none _ _)))); intro v564 w10 ho11 hb hg_ hnew_; clear hg_ hnew_; (first | rw [← Ny563.out] at ho11 | (simp only [Int.reduceToNat] at ho11; rw [← Ny563.out] at ho11)); refine k4_ (Ya_ HO557.out) (Kd.R_lower ho11 (below_size (Z88))) (IsS49.below (Z4 HI554.out) hb) (below_step (Z88) hb) ?_; clear HO557 HI554 HB; intro HO557 HO565 HI554 HB; clear hb ho11; obtain ⟨Ao12, co12, eo12⟩ := Kd.R_slice HO565.out; subst eo12) | ((with_reducible refine gate_callee (f := 24) rfl ?_); refine gl_ 25 Try.func24 #[.pointer (some ⟨gb554, 0, none⟩), .slice Ao12 y563.length co12] ?_; (with_reducible refine (spec_l1Cur_among.calls gb554 l0 t561 t562 _ _ y563 t566 t567 t568 w _ ?_ ?_ ?_ ?_ ?_ A4.out).mono ?_); exact Z4 HI554.out; exact Z88; exact Z7 HO565.out; exact (Kd.R_reads' HO565.out).2.1; exact far_slice (IsS49.own_ne HI554.out HO565.out (by decide)); rintro e w13 ⟨rfl, hi, hb, hk⟩; refine ⟨_, rfl, ?_⟩; refine k4_ (Kd.R_mono (Kd.R_keep (IsS49.apart (show IsS49 w _ gb554 l0 t561 t562 from Z4 HI554.out) (Z1 HO557.out) (by decide)) hk (fun _ h => h.2)) (fun _ h => h.1)) (Kd.R_mono (Kd.R_keep (IsS49.apart (show IsS49 w _ gb554 l0 t561 t562 from Z4 HI554.out) (Z1 HO565.out) (by decide)) hk (fun _ h => h.2)) (fun _ h => h.1)) (hb) (hi) ?_; clear HO557 HO565 HB HI554; intro HO557 HO565 HB HI554; (try clear hb hk hi)) | ((with_reducible refine gate_dst (N := 26) rfl ?_); refine Kd.R_lit (Kd.int .i64) _ 3 ?hg (N := 26) ?hd (xs := ([0, t560, (t555.length : Int), t566] : List Int)) (inner := [.int .i64 0, .int .i64 t560, .int .i64 (t555.length : Int), .int .i64 t566]) (ok := fun _ => True) (okp := fun _ => True) ?hr ?hp (fun _ hk => hk) trivial (Below.refl _ _) (Nat.le_refl _) (by simp) ?_; (case hd => rfl); (case hg => rfl); (case hr => exact Z100); (case hp => exact (Reps.one (show Kd.M (Kd.int .i64) _ _ _ 0 [.int .i64 0] from rfl) (Reps.one (show Kd.M (Kd.int .i64) _ _ _ t560 [.int .i64 t560] from rfl) (Reps.one (show Kd.M (Kd.int .i64) _ _ _ (t555.length : Int) [.int .i64 (t555.length : Int)] from rfl) (Reps.one (show Kd.M (Kd.int .i64) _ _ _ t566 [.int .i64 t566] from rfl) (Reps.none _ _)))))); intro v570 w14 ho15 hb hg_ hnew_; clear hg_ hnew_; (first | rw [← Ny569.out] at ho15 | (simp only [Int.reduceToNat] at ho15; rw [← Ny569.out] at ho15)); refine k5_ (Ya_ HO557.out) (Kd.R_elder' (Z1 HO565.out) (Kd.R_base ho15) hb) (Kd.R_lower (Kd.R_new' ho15 (Yd_ HO565.out)) (below_size (Z88))) (IsS49.below (Z4 HI554.out) hb) (below_step (Z88) hb) ?_; clear HO557 HO565 HI554 HB; intro HO557 HO565 HO571 HI554 HB; clear hb ho15; obtain ⟨Ao16, co16, eo16⟩ := Kd.R_slice HO571.out; subst eo16) | ((with_reducible refine gate_callee (f := 24) rfl ?_); refine gl_ 27 Try.func24 #[.pointer (some ⟨gb554, 0, none⟩), .slice Ao16 y569.length co16] ?_; (with_reducible refine (spec_l1Cur_among.calls gb554 l0 t567 t568 _ _ y569 t572 t573 t574 w _ ?_ ?_ ?_ ?_ ?_ A5.out).mono ?_); exact Z4 HI554.out; exact Z88; exact Z7 HO571.out; exact (Kd.R_reads' HO571.out).2.1; exact far_slice (IsS49.own_ne HI554.out HO571.out (by decide)); rintro e w17 ⟨rfl, hi, hb, hk⟩; refine ⟨_, rfl, ?_⟩; refine k5_ (Kd.R_mono (Kd.R_keep (IsS49.apart (show IsS49 w _ gb554 l0 t567 t568 from Z4 HI554.out) (Z1 HO557.out) (by decide)) hk (fun _ h => h.2)) (fun _ h => h.1)) (Kd.R_mono (Kd.R_keep (IsS49.apart (show IsS49 w _ gb554 l0 t567 t568 from Z4 HI554.out) (Z1 HO565.out) (by decide)) hk (fun _ h => h.2)) (fun _ h => h.1)) (Kd.R_mono (Kd.R_keep (IsS49.apart (show IsS49 w _ gb554 l0 t567 t568 from Z4 HI554.out) (Z1 HO571.out) (by decide)) hk (fun _ h => h.2)) (fun _ h => h.1)) (hb) (hi) ?_; clear HO557 HO565 HO571 HB HI554; intro HO557 HO565 HO571 HB HI554; (try clear hb hk hi)))
 go_ret2
 exact ⟨_, Z11, Z1 HO557.out, Z88⟩

/-! ### impl_SplitSheet: function 11 -/
def impl_SplitSheet.j0 : Nat → List (S64) → Int → Bool → Option ((List (S64)) × (List (S64)) × Bool)
 | 0, _, _, _ => none
 | k + 1, x0, x1, x19 => if x19 = true then (some (([] : List (S64)), ([] : List (S64)), false)) else (if 0 ≤ x1 then (if x1 ≤ (x0.length : Int) then ((slices_Clone_Hole.f (x0.take (x1 : Int).toNat)).bind fun t580 => ((slices_Clone_Hole.f (x0.drop (x1 : Int).toNat)).bind fun t587 => (some (t580, t587, true)))) else (none)) else (none))
def impl_SplitSheet.f (k : Nat) (l0 : List (S64)) (a1 : Int) : Option ((List (S64)) × (List (S64)) × Bool) := (impl_IsSheet.f k l0).bind fun t575 => (if t575 = true then (if a1 < 0 then (impl_SplitSheet.j0 k l0 a1 true) else (impl_SplitSheet.j0 k l0 a1 (decide (a1 > (l0.length : Int))))) else (impl_SplitSheet.j0 k l0 a1 true))
theorem impl_SplitSheet.mono_l : ∀ k, (∀ y0 y1 y2, LeO (impl_SplitSheet.j0 k y0 y1 y2) (impl_SplitSheet.j0 (k + 1) y0 y1 y2))
 | 0 => fun _ _ _ r h => by simp [impl_SplitSheet.j0] at h
 | k + 1 => by
  have ih0 := impl_SplitSheet.mono_l k
  ·intro y0 y1 y2
   unfold impl_SplitSheet.j0
   exact mo13_
theorem impl_SplitSheet.mono : ∀ a0 a1 k, LeO (impl_SplitSheet.f k a0 a1) (impl_SplitSheet.f (k + 1) a0 a1) := by
 intro a0 a1 k
 have ih0 := impl_SplitSheet.mono_l k
 unfold impl_SplitSheet.f
 exact mo13_
def impl_SplitSheet.T3 : Bool × List (List Nat × List Nat) := (true, [([], []), ([], []), ([0, 1], [0, 1]), ([2], [2]), ([], []), ([], []), ([4, 5], [4, 5]), ([6, 3], [6]), ([3, 7, 0, 1, 2, 3], [3]), ([7, 8, 0, 1, 2, 3, 4, 5, 6, 7, 8], [7]), ([9, 0, 1, 2, 3, 4, 5, 6, 7, 8, 9], [])])
def impl_SplitSheet.B3 : List Nat := [0, 0, 3, 7, 0, 0, 48, 127, 255, 511, 1023]
theorem impl_SplitSheet.tab3 : rtab .any (opsOf Try.f11 3) = impl_SplitSheet.T3 := by kernel_rfl
theorem impl_SplitSheet.bits3 : waitsOk impl_SplitSheet.T3.2 impl_SplitSheet.B3 = true := by kernel_rfl
set_option maxHeartbeats 8000000 in
set_option maxRecDepth 100000 in
theorem impl_SplitSheet.calls (k : Nat) (A0 : Option Addr) (c0 : Nat) (l0 : List (S64)) (a1 : Int) (r1 : List (S64)) (r2 : List (S64)) (r3 : Bool) (w : World) (hr0 : Kd.C k64 w A0 l0.length l0) (hc0 : l0.length ≤ c0) (h : impl_SplitSheet.f k l0 a1 = some (r1, r2, r3)) :
  Calls Try.prog 11 #[.slice A0 l0.length c0, .int .i64 a1] w fun e w' => ∃ v0_ v1_ : Value, e = .returned (.tuple #[v0_, v1_, .bool r3]) ∧ Kd.R k64 64 w' w.heap.size (fun k_ => some k_ ≠ (v1_ : Value).ownBlock) v0_ r1 ∧ Kd.R k64 64 w' w.heap.size (fun k_ => some k_ ≠ (v0_ : Value).ownBlock) v1_ r2 ∧ Below w.heap.size w w' := by
 have HR0 := Aside0.mk hr0
 have HC0 := Aside0.mk hc0
 clear hr0 hc0
 have HB := Aside0.mk (Below.refl w.heap.size w)
 have H : ((impl_IsSheet.f k l0).bind fun t575 => (if t575 = true then (if a1 < 0 then (impl_SplitSheet.j0 k l0 a1 true) else (impl_SplitSheet.j0 k l0 a1 (decide (a1 > (l0.length : Int))))) else (impl_SplitSheet.j0 k l0 a1 true))) = some (r1, r2, r3) := h
 clear h
 have HC3 := Aside0.mk H
 clear H
 go_enter Try.func11, Try.ntmps11
 go_upto_region 1 with (fail)
 go_cut [19] (fun v19 wc => ∃ (kq : Nat) (x19_2 : Bool), v19 = .bool x19_2 ∧ Aside0 (impl_SplitSheet.j0 kq l0 a1 x19_2 = some (r1, r2, r3)) ∧ Aside0 (kq ≤ k) ∧ Aside0 (Below w.heap.size w wc))
 case first =>
  have H := HC3.out
  clear HC3
  replace H := Option.bind_eq_some_iff.mp H
  obtain ⟨t575, A40, H⟩ := H
  (try dsimp only at H)
  have A4 := Aside0.mk A40
  clear A40
  by_cases c5 : t575 = true
  ·subst c5
   rw [if_pos rfl] at H
   by_cases c6 : a1 < 0
   ·rw [if_pos c6] at H
    have c6b0 : decide (a1 < 0) = true := decide_eq_true c6
    clear c6
    (first | rw [c6b0] | (simp only [i64_w, i32_w]; rw [c6b0]) | skip)
    have H' := Aside0.mk H
    clear H
    go_wp2_with (first | ((with_reducible refine gate_callee (f := 15) rfl ?_); refine gl_ 8 Try.func15 #[.slice A0 l0.length c0] ?_; (with_reducible refine (impl_IsSheet.calls k _ _ l0 true _ ?_ ?_ A4.out).mono ?_); exact Z10 HR0.out; exact HC0.out; rintro e w7 ⟨rfl, hb⟩; refine ⟨_, rfl, ?_⟩; refine k1_ (below_step (Z3) hb) ?_; clear HB; intro HB; (try clear hb)))
    go_meet
    case rel => exact ⟨_, (true), (Z17), H', ⟨Z110⟩, ⟨Z3⟩⟩
   rw [if_neg c6] at H
   have c6b0 : decide (a1 < 0) = false := decide_eq_false c6
   clear c6
   (first | rw [c6b0] | (simp only [i64_w, i32_w]; rw [c6b0]) | skip)
   have H' := Aside0.mk H
   clear H
   go_wp2_with (first | ((with_reducible refine gate_callee (f := 15) rfl ?_); refine gl_ 8 Try.func15 #[.slice A0 l0.length c0] ?_; (with_reducible refine (impl_IsSheet.calls k _ _ l0 true _ ?_ ?_ A4.out).mono ?_); exact Z10 HR0.out; exact HC0.out; rintro e w8 ⟨rfl, hb⟩; refine ⟨_, rfl, ?_⟩; refine k1_ (below_step (Z3) hb) ?_; clear HB; intro HB; (try clear hb)))
   go_meet
   case rel => exact ⟨_, (decide (a1 > (l0.length : Int))), (Z17), H', ⟨Z110⟩, ⟨Z3⟩⟩
  replace c5 := Bool.eq_false_iff.mpr c5
  subst c5
  rw [if_neg (show ¬ (false = true) by decide)] at H
  have H' := Aside0.mk H
  clear H
  go_wp2_with (first | ((with_reducible refine gate_callee (f := 15) rfl ?_); refine gl_ 8 Try.func15 #[.slice A0 l0.length c0] ?_; (with_reducible refine (impl_IsSheet.calls k _ _ l0 false _ ?_ ?_ A4.out).mono ?_); exact Z10 HR0.out; exact HC0.out; rintro e w9 ⟨rfl, hb⟩; refine ⟨_, rfl, ?_⟩; refine k1_ (below_step (Z3) hb) ?_; clear HB; intro HB; (try clear hb)))
  go_meet
  case rel => exact ⟨_, (true), (Z17), H', ⟨Z110⟩, ⟨Z3⟩⟩
 case rest =>
  clear HC3
  (try clear c1); (try clear p2); (try clear c5); (try clear c6); (try clear c6b0)
  obtain ⟨kq, x19_2, rfl, HA, HJ2, HB⟩ := hcut
  cases kq with
  | zero => exact absurd HA.out (by simp [impl_SplitSheet.j0])
  | succ kj2 =>
   have H := HA.out
   clear HA
   simp only [impl_SplitSheet.j0] at H
   by_cases c10 : x19_2 = true
   ·subst c10
    rw [if_pos rfl] at H
    simp only [Option.some.injEq, Prod.mk.injEq] at H
    obtain ⟨rfl, rfl, rfl⟩ := H
    go_wp2
    go_ret3
    exact ⟨_, _, Z11, Z21, Z21, Z3⟩
   replace c10 := Bool.eq_false_iff.mpr c10
   subst c10
   rw [if_neg (show ¬ (false = true) by decide)] at H
   by_cases c11 : 0 ≤ a1
   ·rw [if_pos c11] at H
    have c11b0 := eq_true c11
    have c11b1 : decide (0 ≤ a1) = true := decide_eq_true c11
    clear c11
    by_cases c12 : a1 ≤ (l0.length : Int)
    ·rw [if_pos c12] at H
     have c12b0 := eq_true c12
     have c12b1 : decide (a1 ≤ (l0.length : Int)) = true := decide_eq_true c12
     clear c12
     obtain ⟨y576, hy576⟩ : ∃ y_ : List (S64), y_ = (l0.take (a1 : Int).toNat) := ⟨_, rfl⟩
     replace H : ((slices_Clone_Hole.f y576).bind fun t580 => ((slices_Clone_Hole.f (l0.drop (a1 : Int).toNat)).bind fun t587 => (some (t580, t587, true)))) = some (r1, r2, r3) := by first | (rw [hy576]; with_reducible exact H) | (have H2_ := (Option.bind_some _ _).symm.trans H; rw [hy576]; with_reducible exact H2_) | (have H2_ := (Option.bind_some _ _).symm.trans H; with_reducible exact H2_) | with_reducible exact H | (rw [hy576]; exact H) | exact H
     have Ny576 := Aside0.mk hy576
     clear hy576
     replace H := Option.bind_eq_some_iff.mp H
     obtain ⟨t580, A130, H⟩ := H
     (try dsimp only at H)
     have A13 := Aside0.mk A130
     clear A130
     have c14b0 := eq_true (of_decide_eq_true (Z18) : 0 ≤ a1)
     have c15b0 := eq_true (of_decide_eq_true (Z18) : a1 ≤ (l0.length : Int))
     obtain ⟨y583, hy583⟩ : ∃ y_ : List (S64), y_ = (l0.drop (a1 : Int).toNat) := ⟨_, rfl⟩
     replace H : ((slices_Clone_Hole.f y583).bind fun t587 => (some (t580, t587, true))) = some (r1, r2, r3) := by first | (rw [hy583]; with_reducible exact H) | (have H2_ := (Option.bind_some _ _).symm.trans H; rw [hy583]; with_reducible exact H2_) | (have H2_ := (Option.bind_some _ _).symm.trans H; with_reducible exact H2_) | with_reducible exact H | (rw [hy583]; exact H) | exact H
     have Ny583 := Aside0.mk hy583
     clear hy583
     replace H := Option.bind_eq_some_iff.mp H
     obtain ⟨t587, A160, H⟩ := H
     (try dsimp only at H)
     have A16 := Aside0.mk A160
     clear A160
     simp only [Option.some.injEq, Prod.mk.injEq] at H
     obtain ⟨rfl, rfl, rfl⟩ := H
     try go_wp2
     refine k1_ (below_drew1 HB.out) ?_
     clear HB
     intro HB
     have q18 : (a1 : Int) ≤ ((l0.length : Int) : Int) := of_decide_eq_true (Z18)
     obtain ⟨i018, hi018, _, hsz18, _⟩ := info_parts info64
     have hroom18 : l0.length ≤ c0 := HC0.out
     have hC18 : Kd.C k64 _ A0 l0.length l0 := HR0.out
     have hcut18 := cut_to (P := Try.prog) 23 64 .i64 Try.underlying23 hi018 A0 l0.length c0 a1 (of_decide_eq_true (Z18)) q18 hroom18
     have hr18 := Kd.C_take (m := (a1 : Int).toNat) hC18 (by omega)
     have hy18 : y576.length = (a1 : Int).toNat := (by rw [Ny576.out, List.length_take]; omega)
     rw [← Ny576.out] at hr18
     rw [← hy18] at hcut18
     have HR579 := Aside0.mk hr18
     have HC579 := Aside0.mk (show y576.length ≤ c0 from by omega)
     clear hr18 hC18 hroom18 hi018 hsz18
     have KY18 := Aside0.mk hy18
     clear hy18
     replace q18 := eq_true q18
     have q19 : (a1 : Int) ≤ ((l0.length : Int) : Int) := of_decide_eq_true (Z18)
     obtain ⟨i019, hi019, _, hsz19, _⟩ := info_parts info64
     have hroom19 : l0.length ≤ c0 := HC0.out
     have hC19 : Kd.C k64 _ A0 l0.length l0 := HR0.out
     have q019 : (0 : Int) ≤ (a1 : Int) := of_decide_eq_true (Z18)
     have hcut19 := cut_from (P := Try.prog) 23 64 .i64 Try.underlying23 hi019 3 hsz19 A0 l0.length c0 a1 q019 q19
     have hr19 := Kd.C_drop (m := (a1 : Int).toNat) (c := c0) hC19 (by omega) hroom19
     obtain ⟨A19, hA19⟩ : ∃ A1, A1 = (if c0 = (a1 : Int).toNat then A0 else (A0 : Option Addr).map (·.add ((a1 : Int).toNat * 3))) := ⟨_, rfl⟩
     obtain ⟨c19, hc19⟩ : ∃ c1, c1 = c0 - (a1 : Int).toNat := ⟨_, rfl⟩
     have hy19 : y583.length = l0.length - (a1 : Int).toNat := (by rw [Ny583.out, List.length_drop] <;> omega)
     rw [show (l0).drop (a1 : Int).toNat = y583 from Ny583.out.symm] at hr19
     replace hr19 : Kd.C k64 _ A19 y583.length y583 := (by rw [hA19]; exact hr19)
     rw [← hy19, ← hA19, ← hc19] at hcut19
     have HR586 := Aside0.mk hr19
     have HC586 := Aside0.mk (show y583.length ≤ c19 from by rw [hy19, hc19]; exact Nat.sub_le_sub_right hroom19 _)
     clear hr19 hC19 hroom19 hi019 hsz19 hc19
     have KY19 := Aside0.mk hy19
     have KA19 := Aside0.mk hA19
     clear hy19 hA19
     replace q19 := eq_true q19
     refine start_ (n := 11) (S := fun w' => True) (ds := []) (M_ 0 11) (by kernel_rfl) rfl rfl trivial (fun hHeld => ?_); refine with_tabW impl_SplitSheet.tab3 impl_SplitSheet.bits3 (fun HT_ HW_ => ?_)
     generalize wc.drew = w17 at HB HR579 HR586 hHeld ⊢
     refine pu_ 0 20 (M_ 1 10) ?_
     refine pu_ 1 21 (M_ 2 9) ?_
     refine pu_ 2 22 (M_ 3 8) ?_
     refine pu_ 4 24 (N_ 11 23) ?_
     refine pu_ 5 25 (N_ 11 55) ?_
     refine pu_ 6 26 (N_ 11 119) ?_
     refine one_ (i := 3) (N := some 23) (M_ 7 4) rfl rfl (one_of HT_.out (by kernel_rfl)) (by decide) (fun K hK => ?_)
     refine goes_ Try.func37 (by kernel_rfl) rfl #[.slice A0 y576.length c0] (by rfl) rfl rfl (Z84) ?_
     with_reducible refine (slices_Clone_Hole.calls _ _ y576 t580 _ ?side1 ?side2 A13.out).mono ?_
     (case side1 => exact Z10 HR579.out)
     (case side2 => exact HC579.out)
     rintro e w20 ⟨v581, rfl, ho0, hb⟩
     refine ⟨_, rfl, ?_⟩
     refine k2_ (Kd.R_lower ho0 (below_size (Z3))) (below_step (Z3) hb) ?_
     clear HB
     intro HO582 HB
     (try clear hb)
     (try clear hb2)
     (try clear hk)
     (try clear hi)
     (try clear ho0)
     refine hK.out _ _ trivial (fun hHeld => ?_)
     clear hK K
     refine norm_ (a' := ?_) ?_ ?_
     rotate_left
     ·show Act.put _ (some 23) _ = _
      simp only [Act.put, List.setIfInBounds_toArray, List.set_cons_zero, List.set_cons_succ, i64_w, i32_w]
      rfl
     refine one_ (i := 7) (N := some 27) (M_ 8 3) rfl rfl (one_of HT_.out (by kernel_rfl)) (by decide) (fun K hK => ?_)
     refine goes_ Try.func37 (by kernel_rfl) rfl #[.slice A19 y583.length c19] (by rfl) rfl rfl (Z84) ?_
     with_reducible refine (slices_Clone_Hole.calls _ _ y583 t587 _ ?side1 ?side2 A16.out).mono ?_
     (case side1 => exact Z10 HR586.out)
     (case side2 => exact HC586.out)
     rintro e w21 ⟨v588, rfl, ho0, hb⟩
     refine ⟨_, rfl, ?_⟩
     have n0_ := Aside0.mk (Yb_ HO582.out)
     have n1_ := Aside0.mk (Kd.R_lower (Kd.R_new' ho0 (Yd_ HO582.out)) (below_size (Z3)))
     have n2_ := Aside0.mk (below_step (Z3) hb)
     clear HO582
     clear HB
     have HO582 := n0_
     have HO589 := n1_
     have HB := n2_
     clear n0_ n1_ n2_
     refine hK.out _ _ trivial (fun hHeld => ?_)
     clear hK K
     refine norm_ (a' := ?_) ?_ ?_
     rotate_left
     ·show Act.put _ (some 27) _ = _
      simp only [Act.put, List.setIfInBounds_toArray, List.set_cons_zero, List.set_cons_succ, i64_w, i32_w]
      rfl
     refine pu_ 8 4 (M_ 9 2) ?_
     refine pu_ 9 5 (M_ 10 1) ?_
     refine pu_ 10 6 (M_ 11 0) ?_
     refine done_ (done_of HT_.out (by kernel_rfl)) ?_
     try go_wp2
     go_ret3
     exact ⟨_, _, Z11, Z83 HO582.out, Z83 HO589.out, Z3⟩
    rw [if_neg c12] at H
    exact absurd H (by simp)
   rw [if_neg c11] at H
   exact absurd H (by simp)

end Go.Proofs.Ytflefblmaopaiaa.PFnStops
