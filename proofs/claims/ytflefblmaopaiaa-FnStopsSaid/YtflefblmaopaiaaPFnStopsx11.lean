-- written by a program of this session: the kit's print, with outer functions of the session's own (wip/ext)
import Derived.Test.YtflefblmaopaiaaPFnStopsx0
import Derived.Test.YtflefblmaopaiaaPFnStopsx2
import Derived.Test.YtflefblmaopaiaaPFnStopsx3
import Derived.Test.YtflefblmaopaiaaPFnStopsx10
namespace Go.Proofs.Ytflefblmaopaiaa.PFnStops
open Go.RowKit Go.Proofs.YtflefblmaopaiaaW.PrintWords Go.Proofs.YtflefblmaopaiaaW.PrintLast Go.Proofs.YtflefblmaopaiaaW.PrintMore
attribute [local go_sem] max2_int min2_int max_two min_two max_three min_three max_four min_four   -- for this text's walks alone
set_option linter.unusedVariables false
set_option linter.unusedSimpArgs false
theorem mo11_ {p : Prop} (h : p := by repeat' first | (with_reducible first | apply ih0 | apply ih0 | apply ih1 | apply ih1 | apply ih2 | apply ih2 | apply impl_jobStrokes.mono | apply impl_jobStrokes.mono | apply spec_puHole.mono | apply spec_puHole.mono | apply spec_puStrokes.mono | apply spec_puStrokes.mono | apply spec_shGood.mono | apply spec_shGood.mono | exact LeO.refl _ | exact LeO.none _ | refine LeO.ite ?_ ?_ | refine LeO.bind ?_ (fun _ => ?_)) | exact LeO.none _ | refine LeO.ite ?_ ?_ | refine LeO.bind ?_ (fun _ => ?_)) : p := h

/-! ### impl_RunWithStops: function 5 -/
mutual
def impl_RunWithStops.j0 : Nat → List (S64) → List Int → Int → List (S77) → Bool → Option ((List (S64)) × Int × Int × Bool)
 | 0, _, _, _, _, _ => none
 | k + 1, x0, x1, x2, x9, x35 => if x35 = true then (some (([] : List (S64)), 0, 0, false)) else (impl_RunWithStops.l0 k x0 x1 x2 x9 x1 (x1.length : Int) 0)
def impl_RunWithStops.l0 : Nat → List (S64) → List Int → Int → List (S77) → List Int → Int → Int → Option ((List (S64)) × Int × Int × Bool)
 | 0, _, _, _, _, _, _, _ => none
 | k + 1, x0, x1, x2, x9, x37, x38, x39 => if x39 < x38 then (if 0 ≤ x39 then (if x39 < (x37.length : Int) then (if (rd x37 x39) < 0 then (some (([] : List (S64)), 0, 0, false)) else (if (rd x37 x39) > 200 then (some (([] : List (S64)), 0, 0, false)) else (impl_RunWithStops.l0 k x0 x1 x2 x9 x37 x38 (wrap64 (x39 + 1))))) else (none)) else (none)) else (impl_RunWithStops.l1 k x0 x1 x2 x9 0 0 x1 (x1.length : Int) 0)
def impl_RunWithStops.l1 : Nat → List (S64) → List Int → Int → List (S77) → Int → Int → List Int → Int → Int → Option ((List (S64)) × Int × Int × Bool)
 | 0, _, _, _, _, _, _, _, _, _ => none
 | k + 1, x0, x1, x2, x9, x13, x14, x51, x52, x53 => if x53 < x52 then (if 0 ≤ x53 then (if x53 < (x51.length : Int) then (if (wrap64 (x53 + 1)) < (x1.length : Int) then (if x2 = 0 then (none) else (impl_RunWithStops.l1 k x0 x1 x2 x9 (wrap64 ((wrap64 (x13 + (mn (rd x51 x53) (wrap64 ((x9.length : Int) - x13))))) - (Int.tmod (wrap64 (x13 + (mn (rd x51 x53) (wrap64 ((x9.length : Int) - x13))))) x2))) (wrap64 (x14 + (mn (rd x51 x53) (wrap64 ((x9.length : Int) - x13))))) x51 x52 (wrap64 (x53 + 1)))) else (impl_RunWithStops.l1 k x0 x1 x2 x9 (wrap64 (x13 + (mn (rd x51 x53) (wrap64 ((x9.length : Int) - x13))))) (wrap64 (x14 + (mn (rd x51 x53) (wrap64 ((x9.length : Int) - x13))))) x51 x52 (wrap64 (x53 + 1)))) else (none)) else (none)) else ((impl_jobAt.f x0 x13).bind fun bt466 => (some (bt466.1, bt466.2, x14, true)))
end
def impl_RunWithStops.f (k : Nat) (l0 : List (S64)) (l1 : List Int) (a2 : Int) : Option ((List (S64)) × Int × Int × Bool) := (impl_jobStrokes.f k l0 0).bind fun bt459 => (if bt459.2 = true then (if (l1.length : Int) > 20 then (impl_RunWithStops.j0 k l0 l1 a2 bt459.1 true) else ((impl_isMark.f a2).bind fun t463 => (impl_RunWithStops.j0 k l0 l1 a2 bt459.1 (!t463)))) else (impl_RunWithStops.j0 k l0 l1 a2 bt459.1 true))
theorem impl_RunWithStops.mono_l : ∀ k, (∀ y0 y1 y2 y3 y4, LeO (impl_RunWithStops.j0 k y0 y1 y2 y3 y4) (impl_RunWithStops.j0 (k + 1) y0 y1 y2 y3 y4)) ∧ (∀ y0 y1 y2 y3 y4 y5 y6, LeO (impl_RunWithStops.l0 k y0 y1 y2 y3 y4 y5 y6) (impl_RunWithStops.l0 (k + 1) y0 y1 y2 y3 y4 y5 y6)) ∧ (∀ y0 y1 y2 y3 y4 y5 y6 y7 y8, LeO (impl_RunWithStops.l1 k y0 y1 y2 y3 y4 y5 y6 y7 y8) (impl_RunWithStops.l1 (k + 1) y0 y1 y2 y3 y4 y5 y6 y7 y8))
 | 0 => ⟨fun _ _ _ _ _ r h => by simp [impl_RunWithStops.j0] at h, fun _ _ _ _ _ _ _ r h => by simp [impl_RunWithStops.l0] at h, fun _ _ _ _ _ _ _ _ _ r h => by simp [impl_RunWithStops.l1] at h⟩
 | k + 1 => by
  obtain ⟨ih0, ih1, ih2⟩ := impl_RunWithStops.mono_l k
  refine ⟨?_, ?_, ?_⟩
  ·intro y0 y1 y2 y3 y4
   unfold impl_RunWithStops.j0
   exact mo11_
  ·intro y0 y1 y2 y3 y4 y5 y6
   unfold impl_RunWithStops.l0
   exact mo11_
  intro y0 y1 y2 y3 y4 y5 y6 y7 y8
  unfold impl_RunWithStops.l1
  exact mo11_
theorem impl_RunWithStops.mono : ∀ a0 a1 a2 k, LeO (impl_RunWithStops.f k a0 a1 a2) (impl_RunWithStops.f (k + 1) a0 a1 a2) := by
 intro a0 a1 a2 k
 obtain ⟨ih0, ih1, ih2⟩ := impl_RunWithStops.mono_l k
 unfold impl_RunWithStops.f
 exact mo11_
set_option maxHeartbeats 8000000 in
set_option maxRecDepth 100000 in
theorem impl_RunWithStops.calls (k : Nat) (A0 : Option Addr) (c0 : Nat) (l0 : List (S64)) (A1 : Option Addr) (c1 : Nat) (l1 : List Int) (a2 : Int) (r1 : List (S64)) (r2 : Int) (r3 : Int) (r4 : Bool) (w : World) (hr0 : Kd.C k64 w A0 l0.length l0) (hc0 : l0.length ≤ c0) (hr1 : Kd.C (Kd.int .i64) w A1 l1.length l1) (hc1 : l1.length ≤ c1) (h : impl_RunWithStops.f k l0 l1 a2 = some (r1, r2, r3, r4)) :
  Calls Try.prog 5 #[.slice A0 l0.length c0, .slice A1 l1.length c1, .int .i64 a2] w fun e w' => ∃ v0_ : Value, e = .returned (.tuple #[.agg #[v0_, .int .i64 r2], .int .i64 r3, .bool r4]) ∧ Kd.R k64 64 w' w.heap.size (fun _ => True) v0_ r1 ∧ Below w.heap.size w w' := by
 have hu28 := Try.underlying28
 have HR0 := Aside0.mk hr0
 have HC0 := Aside0.mk hc0
 clear hr0 hc0
 have HR1 := Aside0.mk hr1
 have HC1 := Aside0.mk hc1
 clear hr1 hc1
 have HB := Aside0.mk (Below.refl w.heap.size w)
 have H : ((impl_jobStrokes.f k l0 0).bind fun bt459 => (if bt459.2 = true then (if (l1.length : Int) > 20 then (impl_RunWithStops.j0 k l0 l1 a2 bt459.1 true) else ((impl_isMark.f a2).bind fun t463 => (impl_RunWithStops.j0 k l0 l1 a2 bt459.1 (!t463)))) else (impl_RunWithStops.j0 k l0 l1 a2 bt459.1 true))) = some (r1, r2, r3, r4) := h
 clear h
 replace H := Option.bind_eq_some_iff.mp H
 obtain ⟨⟨t459, t462⟩, A40, H⟩ := H
 (try dsimp only at H)
 have A4 := Aside0.mk A40
 clear A40
 have HC5 := Aside0.mk H
 clear H
 go_enter Try.func5, Try.ntmps5
 go_upto_region 2 with (first | ((with_reducible refine gate_dst (N := 6) rfl ?_); (try (refine gate_guard (by rfl) ?_; dsimp only)); refine bv_ 6 28 #[.slice none 0 0, .int .i64 0] ?_; intro gb458 hg w6 hbox hb; refine k4_ (below_step (Z3) hb) (hbox) ((Z26 : w.heap.size ≤ gb458)) ((Z26 : w.heap.size ≤ gb458)) ?_; clear HB; intro HB BK458 GW458 GE458; clear hb hbox hg) | ((with_reducible refine gate_callee (f := 27) rfl ?_); refine gl_ 21 Try.func27 #[.agg #[.slice A0 l0.length c0, .int .i64 0]] ?_; (with_reducible refine (impl_jobStrokes.calls k _ _ l0 0 t459 t462 _ ?_ ?_ A4.out).mono ?_); exact Z10 HR0.out; exact HC0.out; rintro e w7 ⟨v460, rfl, ho0, hb⟩; refine ⟨_, rfl, ?_⟩; refine k3_ (Kd.R_lower ho0 (below_size (Z68))) (blk_below (g := gb458) (o := .cells #[.slice none 0 0, .int .i64 0] 28 (0, 0)) (Z2 BK458.out) hb) (below_step (Z68) hb) ?_; clear BK458 HB; intro HO461 BK458 HB; (try clear hb ho0)))
 (try simp only [Act.put, List.setIfInBounds_toArray, List.set_cons_zero, List.set_cons_succ])
 go_cut [35] (fun v35 wc => ∃ (kq : Nat) (x35_4 : Bool), v35 = .bool x35_4 ∧ Aside0 (impl_RunWithStops.j0 kq l0 l1 a2 t459 x35_4 = some (r1, r2, r3, r4)) ∧ Aside0 (kq ≤ k) ∧ Aside0 (Kd.R k77 77 wc w.heap.size (fun _ => True) v460 t459) ∧ Aside0 (wc.heap[gb458]? = some (.cells #[(.slice none 0 0), .int .i64 0] 28 (0, 0))) ∧ Aside0 (Below w.heap.size w wc))
 case first =>
  have H := HC5.out
  clear HC5
  by_cases c8 : t462 = true
  ·subst c8
   rw [if_pos rfl] at H
   by_cases c9 : (l1.length : Int) > 20
   ·rw [if_pos c9] at H
    have c9b0 : decide (20 < (l1.length : Int)) = true := decide_eq_true c9
    have c9b1 : decide (20 < l1.length) = true := decide_eq_true (by omega)
    clear c9
    (first | rw [c9b0] | (simp only [i64_w, i32_w]; rw [c9b0]) | skip)
    have H' := Aside0.mk H
    clear H
    go_wp2
    go_meet
    case rel => exact ⟨_, (true), (Z17), H', ⟨Z110⟩, ⟨Z1 HO461.out⟩, ⟨Z2 BK458.out⟩, ⟨Z68⟩⟩
   rw [if_neg c9] at H
   have c9b0 : decide (20 < (l1.length : Int)) = false := decide_eq_false c9
   have c9b1 : decide (20 < l1.length) = false := decide_eq_false (by omega)
   clear c9
   (first | rw [c9b0] | (simp only [i64_w, i32_w]; rw [c9b0]) | skip)
   replace H := Option.bind_eq_some_iff.mp H
   obtain ⟨t463, A100, H⟩ := H
   (try dsimp only at H)
   have A10 := Aside0.mk A100
   clear A100
   have H' := Aside0.mk H
   clear H
   go_wp2_with (first | (go_at_call 28; (with_reducible refine (impl_isMark.calls a2 t463 _ A10.out).mono ?_); rintro e w' ⟨rfl, ⟨nd, rfl⟩⟩))
   go_meet
   case rel => exact ⟨_, (!t463), (Z17), H', ⟨Z110⟩, ⟨Z1 HO461.out⟩, ⟨Z2 BK458.out⟩, ⟨Z68⟩⟩
  replace c8 := Bool.eq_false_iff.mpr c8
  subst c8
  rw [if_neg (show ¬ (false = true) by decide)] at H
  have H' := Aside0.mk H
  clear H
  go_wp2
  go_meet
  case rel => exact ⟨_, (true), (Z17), H', ⟨Z110⟩, ⟨Z1 HO461.out⟩, ⟨Z2 BK458.out⟩, ⟨Z68⟩⟩
 case rest =>
  clear HC5
  (try clear c1); (try clear c2); (try clear p2); (try clear c5); (try clear c8); (try clear c9); (try clear c9b0); (try clear c9b1)
  obtain ⟨kq, x35_4, rfl, HA, HJ4, HO_9, BK458, HB⟩ := hcut
  cases kq with
  | zero => exact absurd HA.out (by simp [impl_RunWithStops.j0])
  | succ kj4 =>
   have H := HA.out
   clear HA
   simp only [impl_RunWithStops.j0] at H
   by_cases c11 : x35_4 = true
   ·subst c11
    rw [if_pos rfl] at H
    simp only [Option.some.injEq, Prod.mk.injEq] at H
    obtain ⟨rfl, rfl, rfl, rfl⟩ := H
    obtain ⟨hcz12_0, hcz12_1, hfz12_0, hfz12_1⟩ := bx2_ (w := wc) BK458.out
    go_wp2
    refine bodyPost_ret (results_ctt rfl _ _ gb458 28 #[.slice none 0 0, .int .i64 0] (0, 0) _ rfl (Z23 BK458.out) Try.underlying28 rfl (by kernel_rfl)) rfl ?_
    exact ⟨_, Z11, Z21, Z68⟩
   replace c11 := Bool.eq_false_iff.mpr c11
   subst c11
   rw [if_neg (show ¬ (false = true) by decide)] at H
   have H' := Aside0.mk H
   clear H
   go_wp2
   go_loopg [39] kj4 (fun kq v39 w' => ∃ (x39_2 : Int) (x459001_2 : Int), v39 = .int .i64 x39_2 ∧ Aside0 (impl_RunWithStops.l0 kq l0 l1 a2 t459 l1 (l1.length : Int) x39_2 = some (r1, r2, r3, r4)) ∧ Aside0 (kq ≤ kj4) ∧ Aside0 (Kd.R k77 77 w' w.heap.size (fun _ => True) v460 t459) ∧ Aside0 (w'.heap[gb458]? = some (.cells #[(.slice none 0 0), .int .i64 x459001_2] 28 (0, 0))) ∧ Aside0 (Below w.heap.size w w'))
   case atStart => exact ⟨(0), (0), (Z17), H', ⟨Nat.le_refl _⟩, ⟨Z1 HO_9.out⟩, ⟨Z2 BK458.out⟩, ⟨Z68⟩⟩
   case round =>
    clear H'
    (try clear c11); (try clear hcz12_0); (try clear hcz12_1); (try clear hfz12_0); (try clear hfz12_1)
    obtain ⟨x39_2, x459001_2, rfl, HA, HK2, HO_9, BK458, HB⟩ := hrel
    cases gk with
    | zero => exact absurd HA.out (by simp [impl_RunWithStops.l0])
    | succ k2 =>
     have H := HA.out
     clear HA
     simp only [impl_RunWithStops.l0] at H
     by_cases c13 : x39_2 < (l1.length : Int)
     ·rw [if_pos c13] at H
      have c13b0 : decide (x39_2 < (l1.length : Int)) = true := decide_eq_true c13
      clear c13
      by_cases c14 : 0 ≤ x39_2
      ·rw [if_pos c14] at H
       have c14b0 : decide (0 ≤ x39_2) = true := decide_eq_true c14
       clear c14
       by_cases c15 : x39_2 < (l1.length : Int)
       ·rw [if_pos c15] at H
        have c15b0 : decide (x39_2 < (l1.length : Int)) = true := decide_eq_true c15
        clear c15
        by_cases c16 : (rd l1 x39_2) < 0
        ·rw [if_pos c16] at H
         have c16b0 : decide ((rd l1 x39_2) < 0) = true := decide_eq_true c16
         clear c16
         simp only [Option.some.injEq, Prod.mk.injEq] at H
         obtain ⟨rfl, rfl, rfl, rfl⟩ := H
         have p464 : 0 ≤ (x39_2 : Int) := of_decide_eq_true (Z18)
         have q464 : x39_2 < (l1.length : Int) := of_decide_eq_true (Z18)
         obtain ⟨ad464, e464, hx464_0⟩ := Kd.at_int HR1.out x39_2 p464 q464
         cases e464
         replace hx464_0 := (HB.out.cell (World.block_lt_of_cell? w _ hx464_0)).trans hx464_0
         replace p464 := eq_true p464
         replace q464 := eq_true q464
         obtain ⟨hcz17_0, hcz17_1, hfz17_0, hfz17_1⟩ := bx2_ (w := wr) BK458.out
         go_wp2
         refine bodyPost_ret (results_ctt rfl _ _ gb458 28 #[.slice none 0 0, .int .i64 0] (0, 0) _ rfl (Z135) Try.underlying28 rfl (by kernel_rfl)) rfl ?_
         exact ⟨_, Z11, Z21, Z68⟩
        rw [if_neg c16] at H
        have c16b0 : decide ((rd l1 x39_2) < 0) = false := decide_eq_false c16
        clear c16
        by_cases c18 : (rd l1 x39_2) > 200
        ·rw [if_pos c18] at H
         have c18b0 : decide (200 < (rd l1 x39_2)) = true := decide_eq_true c18
         clear c18
         simp only [Option.some.injEq, Prod.mk.injEq] at H
         obtain ⟨rfl, rfl, rfl, rfl⟩ := H
         have p464 : 0 ≤ (x39_2 : Int) := of_decide_eq_true (Z18)
         have q464 : x39_2 < (l1.length : Int) := of_decide_eq_true (Z18)
         obtain ⟨ad464, e464, hx464_0⟩ := Kd.at_int HR1.out x39_2 p464 q464
         cases e464
         replace hx464_0 := (HB.out.cell (World.block_lt_of_cell? w _ hx464_0)).trans hx464_0
         replace p464 := eq_true p464
         replace q464 := eq_true q464
         obtain ⟨hcz19_0, hcz19_1, hfz19_0, hfz19_1⟩ := bx2_ (w := wr) BK458.out
         go_wp2
         refine bodyPost_ret (results_ctt rfl _ _ gb458 28 #[.slice none 0 0, .int .i64 0] (0, 0) _ rfl (Z135) Try.underlying28 rfl (by kernel_rfl)) rfl ?_
         exact ⟨_, Z11, Z21, Z68⟩
        rw [if_neg c18] at H
        have c18b0 : decide (200 < (rd l1 x39_2)) = false := decide_eq_false c18
        clear c18
        have H' := Aside0.mk H
        clear H
        have p464 : 0 ≤ (x39_2 : Int) := of_decide_eq_true (Z18)
        have q464 : x39_2 < (l1.length : Int) := of_decide_eq_true (Z18)
        obtain ⟨ad464, e464, hx464_0⟩ := Kd.at_int HR1.out x39_2 p464 q464
        cases e464
        replace hx464_0 := (HB.out.cell (World.block_lt_of_cell? w _ hx464_0)).trans hx464_0
        replace p464 := eq_true p464
        replace q464 := eq_true q464
        go_wp2
        go_roundg k2
        case measure => have := HJ4.out; have := HK2.out; omega
        case rel => exact ⟨(wrap64 (x39_2 + 1)), (x459001_2), (Z17), H', ⟨Z153 HJ4.out⟩, ⟨Z1 HO_9.out⟩, ⟨Z2 BK458.out⟩, ⟨Z68⟩⟩
       rw [if_neg c15] at H
       exact absurd H (by simp)
      rw [if_neg c14] at H
      exact absurd H (by simp)
     rw [if_neg c13] at H
     have c13b0 : decide (x39_2 < (l1.length : Int)) = false := decide_eq_false c13
     clear c13
     have H' := Aside0.mk H
     clear H
     go_wp2
     go_loopg [13, 14, 53] k2 (fun kq v13 v14 v53 w' => ∃ (x13_3 : Int) (x14_3 : Int) (x53_3 : Int), v13 = .int .i64 x13_3 ∧ v14 = .int .i64 x14_3 ∧ v53 = .int .i64 x53_3 ∧ Aside0 (impl_RunWithStops.l1 kq l0 l1 a2 t459 x13_3 x14_3 l1 (l1.length : Int) x53_3 = some (r1, r2, r3, r4)) ∧ Aside0 (kq ≤ k2) ∧ Aside0 (Kd.R k77 77 w' w.heap.size (fun _ => True) v460 t459) ∧ Aside0 (w'.heap[gb458]? = some (.cells #[(.slice none 0 0), .int .i64 x459001_2] 28 (0, 0))) ∧ Aside0 (Below w.heap.size w w'))
     case atStart => exact ⟨(0), (0), (0), (Z17), (Z17), (Z17), H', ⟨Nat.le_refl _⟩, ⟨Z1 HO_9.out⟩, ⟨Z2 BK458.out⟩, ⟨Z68⟩⟩
     case round =>
      clear H'
      (try clear p4); (try clear q4); (try clear hx4); (try clear p6); (try clear c13); (try clear c13b0); (try clear c14); (try clear c14b0); (try clear c15); (try clear c15b0); (try clear c16); (try clear c16b0); (try clear c18); (try clear c18b0); (try clear hcz17_0); (try clear hcz17_1); (try clear hcz19_0); (try clear hcz19_1); (try clear hfz17_0); (try clear hfz17_1); (try clear hfz19_0); (try clear hfz19_1); (try clear hx464_0); (try clear p464); (try clear q464)
      obtain ⟨x13_3, x14_3, x53_3, rfl, rfl, rfl, HA, HK3, HO_9, BK458, HB⟩ := hrel
      cases gk with
      | zero => exact absurd HA.out (by simp [impl_RunWithStops.l1])
      | succ k3 =>
       have H := HA.out
       clear HA
       simp only [impl_RunWithStops.l1] at H
       by_cases c20 : x53_3 < (l1.length : Int)
       ·rw [if_pos c20] at H
        have c20b0 : decide (x53_3 < (l1.length : Int)) = true := decide_eq_true c20
        clear c20
        by_cases c21 : 0 ≤ x53_3
        ·rw [if_pos c21] at H
         have c21b0 : decide (0 ≤ x53_3) = true := decide_eq_true c21
         clear c21
         by_cases c22 : x53_3 < (l1.length : Int)
         ·rw [if_pos c22] at H
          have c22b0 : decide (x53_3 < (l1.length : Int)) = true := decide_eq_true c22
          clear c22
          obtain ⟨ji23, hji23⟩ : ∃ j_ : Int, (mn (rd l1 x53_3) (wrap64 ((t459.length : Int) - x13_3))) = j_ := ⟨_, rfl⟩
          replace H : (if (wrap64 (x53_3 + 1)) < (l1.length : Int) then (if a2 = 0 then (none) else (impl_RunWithStops.l1 k3 l0 l1 a2 t459 (wrap64 ((wrap64 (x13_3 + (ji23))) - (Int.tmod (wrap64 (x13_3 + (ji23))) a2))) (wrap64 (x14_3 + (ji23))) l1 (l1.length : Int) (wrap64 (x53_3 + 1)))) else (impl_RunWithStops.l1 k3 l0 l1 a2 t459 (wrap64 (x13_3 + (ji23))) (wrap64 (x14_3 + (ji23))) l1 (l1.length : Int) (wrap64 (x53_3 + 1)))) = some (r1, r2, r3, r4) := by first | (rw [hji23] at H; exact H) | (simp only [hji23] at H ⊢; exact H)
          have hji23_ : (if (wrap64 ((t459.length : Int) - x13_3)) < (rd l1 x53_3) then (wrap64 ((t459.length : Int) - x13_3)) else (rd l1 x53_3)) = ji23 := hji23
          by_cases c24 : (wrap64 (x53_3 + 1)) < (l1.length : Int)
          ·rw [if_pos c24] at H
           have c24b0 : decide ((wrap64 (x53_3 + 1)) < (l1.length : Int)) = true := decide_eq_true c24
           clear c24
           by_cases c25 : a2 = 0
           ·rw [if_pos c25] at H
            exact absurd H (by simp)
           rw [if_neg c25] at H
           have c25b0 : (a2 == 0) = false := beq_eq_false_iff_ne.mpr c25
           have c25b1 : (a2 != 0) = true := bne_iff_ne.mpr c25
           have H' := Aside0.mk H
           clear H
           have p465 : 0 ≤ (x53_3 : Int) := of_decide_eq_true (Z18)
           have q465 : x53_3 < (l1.length : Int) := of_decide_eq_true (Z18)
           obtain ⟨ad465, e465, hx465_0⟩ := Kd.at_int HR1.out x53_3 p465 q465
           cases e465
           replace hx465_0 := (HB.out.cell (World.block_lt_of_cell? w _ hx465_0)).trans hx465_0
           replace p465 := eq_true p465
           replace q465 := eq_true q465
           obtain ⟨Ao26, co26, eo26⟩ := Kd.R_slice HO_9.out
           subst eo26
           go_wp2
           go_roundg k3
           case measure => have := HJ4.out; have := HK2.out; have := HK3.out; omega
           case rel => exact ⟨(wrap64 ((wrap64 (x13_3 + (ji23))) - (Int.tmod (wrap64 (x13_3 + (ji23))) a2))), (wrap64 (x14_3 + (ji23))), (wrap64 (x53_3 + 1)), (Z167), (Z167), (Z17), H', ⟨by have := HJ4.out; have := HK2.out; have := HK3.out; omega⟩, ⟨Z1 HO_9.out⟩, ⟨Z2 BK458.out⟩, ⟨Z68⟩⟩
          rw [if_neg c24] at H
          have c24b0 : decide ((wrap64 (x53_3 + 1)) < (l1.length : Int)) = false := decide_eq_false c24
          clear c24
          have H' := Aside0.mk H
          clear H
          have p465 : 0 ≤ (x53_3 : Int) := of_decide_eq_true (Z18)
          have q465 : x53_3 < (l1.length : Int) := of_decide_eq_true (Z18)
          obtain ⟨ad465, e465, hx465_0⟩ := Kd.at_int HR1.out x53_3 p465 q465
          cases e465
          replace hx465_0 := (HB.out.cell (World.block_lt_of_cell? w _ hx465_0)).trans hx465_0
          replace p465 := eq_true p465
          replace q465 := eq_true q465
          obtain ⟨Ao27, co27, eo27⟩ := Kd.R_slice HO_9.out
          subst eo27
          go_wp2
          go_roundg k3
          case measure => have := HJ4.out; have := HK2.out; have := HK3.out; omega
          case rel => exact ⟨(wrap64 (x13_3 + (ji23))), (wrap64 (x14_3 + (ji23))), (wrap64 (x53_3 + 1)), (Z167), (Z167), (Z17), H', ⟨by have := HJ4.out; have := HK2.out; have := HK3.out; omega⟩, ⟨Z1 HO_9.out⟩, ⟨Z2 BK458.out⟩, ⟨Z68⟩⟩
         rw [if_neg c22] at H
         exact absurd H (by simp)
        rw [if_neg c21] at H
        exact absurd H (by simp)
       rw [if_neg c20] at H
       have c20b0 : decide (x53_3 < (l1.length : Int)) = false := decide_eq_false c20
       clear c20
       replace H := Option.bind_eq_some_iff.mp H
       obtain ⟨⟨t466, t469⟩, A280, H⟩ := H
       (try dsimp only at H)
       have A28 := Aside0.mk A280
       clear A280
       simp only [Option.some.injEq, Prod.mk.injEq] at H
       obtain ⟨rfl, rfl, rfl, rfl⟩ := H
       go_wp2_with (first | ((with_reducible refine gate_callee (f := 29) rfl ?_); refine gl_ 83 Try.func29 #[.slice A0 l0.length c0, .int .i64 x13_3] ?_; (with_reducible refine (impl_jobAt.calls _ _ l0 x13_3 t466 t469 _ ?_ ?_ A28.out).mono ?_); exact Z10 HR0.out; exact HC0.out; rintro e w29 ⟨v467, rfl, ho0, hb⟩; refine ⟨_, rfl, ?_⟩; refine k4_ (Ya_ HO_9.out) (Kd.R_lower ho0 (below_size (Z68))) (blk_below (g := gb458) (o := .cells #[.slice none 0 0, .int .i64 x459001_2] 28 (0, 0)) (Z2 BK458.out) hb) (below_step (Z68) hb) ?_; clear HO_9 BK458 HB; intro HO_9 HO468 BK458 HB; (try clear hb ho0); obtain ⟨Ao30, co30, eo30⟩ := Kd.R_slice HO468.out; subst eo30; obtain ⟨hcz31_0, hcz31_1, hfz31_0, hfz31_1⟩ := bx2_ (w := w29) BK458.out))
       refine bodyPost_ret (results_ctt rfl _ _ gb458 28 #[.slice Ao30 t466.length co30, .int .i64 t469] (0, 0) _ rfl (by (with_reducible repeat (first | refine blk_drewN ?_ _ | refine blk_drew ?_ | refine blk_alloc ?_ _)); refine blk_put (cs := #[.slice Ao30 t466.length co30, .int .i64 x459001_2]) ?_ 1 _ rfl; (with_reducible repeat (first | refine blk_drewN ?_ _ | refine blk_drew ?_ | refine blk_alloc ?_ _)); refine blk_put (cs := #[.slice none 0 0, .int .i64 x459001_2]) ?_ 0 _ rfl; (with_reducible repeat (first | refine blk_drewN ?_ _ | refine blk_drew ?_ | refine blk_alloc ?_ _)); exact BK458.out) Try.underlying28 rfl (by kernel_rfl)) rfl ?_
       exact ⟨_, Z11, by (with_reducible repeat (first | apply Kd.R_alloc | apply Kd.R_drewN | apply Kd.R_drew)); exact Kd.R_mono (Kd.R_far (p := ⟨gb458, 1, none⟩) (Kd.R_far (p := ⟨gb458, 0, none⟩) (Kd.R_types HO468.out BK458.out (by decide)) (fun _ hk => hk.2) (.slice Ao30 t466.length co30)) (fun _ hk => hk.2) (.int .i64 t469)) (fun _ hk => trivial), Z68⟩

/-! ### spec_puHole: function 54 -/
def spec_puHole.l0 : Nat → List (S77) → Int → Int → Int → Int → Option ((List (S77)))
 | 0, _, _, _, _, _ => none
 | k + 1, x3, x4, x471000, x471001, x471002 => if x4 ≤ (wrap64 (x471002 - 4)) then (if x3.length < 8796093022208 then (spec_puHole.l0 k (x3 ++ [(⟨x471000, x4⟩ : S77)]) (wrap64 (x4 + 4)) x471000 x471001 x471002) else (none)) else (if (x3.length : Int) > 0 then (if 0 ≤ (wrap64 ((x3.length : Int) - 1)) then (if (wrap64 ((x3.length : Int) - 1)) < (x3.length : Int) then (if ((rd_T77 x3 (wrap64 ((x3.length : Int) - 1))).f1) < (wrap64 (x471002 - 4)) then (if x3.length < 8796093022208 then (some (x3 ++ [(⟨x471000, wrap64 (x471002 - 4)⟩ : S77)])) else (none)) else (some x3)) else (none)) else (none)) else (some x3))
def spec_puHole.f (k : Nat) (a0_0 : Int) (a0_1 : Int) (a0_2 : Int) : Option ((List (S77))) := spec_puHole.l0 k ([] : List (S77)) a0_1 a0_0 a0_1 a0_2
theorem spec_puHole.mono_l : ∀ k, (∀ y0 y1 y2 y3 y4, LeO (spec_puHole.l0 k y0 y1 y2 y3 y4) (spec_puHole.l0 (k + 1) y0 y1 y2 y3 y4))
 | 0 => fun _ _ _ _ _ r h => by simp [spec_puHole.l0] at h
 | k + 1 => by
  have ih0 := spec_puHole.mono_l k
  ·intro y0 y1 y2 y3 y4
   unfold spec_puHole.l0
   exact mo11_
theorem spec_puHole.mono : ∀ a0 a1 a2 k, LeO (spec_puHole.f k a0 a1 a2) (spec_puHole.f (k + 1) a0 a1 a2) := by
 intro a0 a1 a2 k
 have ih0 := spec_puHole.mono_l k
 unfold spec_puHole.f
 exact mo11_
set_option maxHeartbeats 8000000 in
set_option maxRecDepth 100000 in
theorem spec_puHole.calls (k : Nat) (a0_0 : Int) (a0_1 : Int) (a0_2 : Int) (r : List (S77)) (w : World) (h : spec_puHole.f k a0_0 a0_1 a0_2 = some r) :
  Calls Try.prog 54 #[.agg #[.int .i64 a0_0, .int .i64 a0_1, .int .i64 a0_2]] w fun e w' => ∃ v0_ : Value, e = .returned (v0_) ∧ Kd.R k77 77 w' w.heap.size (fun _ => True) v0_ r ∧ Below w.heap.size w w' := by
 have hu64 := Try.underlying64
 have hu77 := Try.underlying77
 have HB := Aside0.mk (Below.refl w.heap.size w)
 have H : (spec_puHole.l0 k ([] : List (S77)) a0_1 a0_0 a0_1 a0_2) = some r := h
 clear h
 have H' := Aside0.mk H
 clear H
 go_enter Try.func54, Try.ntmps54
 go_wp2_with (first | ((with_reducible refine gate_dst (N := 1) rfl ?_); refine bv_ 1 64 #[.int .i64 a0_0, .int .i64 a0_1, .int .i64 a0_2] ?_; intro gb470 hg w2 hbox hb; refine k4_ (below_step (Z3) hb) (hbox) ((Z26 : w.heap.size ≤ gb470)) ((Z26 : w.heap.size ≤ gb470)) ?_; clear HB; intro HB BK470 GW470 GE470; clear hb hbox hg; obtain ⟨hcz3_0, hcz3_1, hcz3_2, hfz3_0, hfz3_1, hfz3_2⟩ := bx3_ (w := w2) BK470.out))
 repeat (go_quiet (first | ((with_reducible refine gate_dst (N := 1) rfl ?_); refine bv_ 1 64 #[.int .i64 a0_0, .int .i64 a0_1, .int .i64 a0_2] ?_; intro gb470 hg w2 hbox hb; refine k4_ (below_step (Z3) hb) (hbox) ((Z26 : w.heap.size ≤ gb470)) ((Z26 : w.heap.size ≤ gb470)) ?_; clear HB; intro HB BK470 GW470 GE470; clear hb hbox hg; obtain ⟨hcz3_0, hcz3_1, hcz3_2, hfz3_0, hfz3_1, hfz3_2⟩ := bx3_ (w := w2) BK470.out)); try go_wp2_with (first | ((with_reducible refine gate_dst (N := 1) rfl ?_); refine bv_ 1 64 #[.int .i64 a0_0, .int .i64 a0_1, .int .i64 a0_2] ?_; intro gb470 hg w2 hbox hb; refine k4_ (below_step (Z3) hb) (hbox) ((Z26 : w.heap.size ≤ gb470)) ((Z26 : w.heap.size ≤ gb470)) ?_; clear HB; intro HB BK470 GW470 GE470; clear hb hbox hg; obtain ⟨hcz3_0, hcz3_1, hcz3_2, hfz3_0, hfz3_1, hfz3_2⟩ := bx3_ (w := w2) BK470.out)))
 go_loopg [3, 4] k (fun kq v3 v4 w' => ∃ (x3_1 : List (S77)) (x4_1 : Int), v4 = .int .i64 x4_1 ∧ Aside0 (spec_puHole.l0 kq x3_1 x4_1 a0_0 a0_1 a0_2 = some r) ∧ Aside0 (kq ≤ k) ∧ Aside0 (Kd.R k77 77 w' w.heap.size (fun _ => True) v3 x3_1) ∧ Aside0 (w'.heap[gb470]? = some (.cells #[.int .i64 a0_0, .int .i64 a0_1, .int .i64 a0_2] 64 (0, 0))) ∧ Aside0 (Below w.heap.size w w'))
 case atStart => exact ⟨(([] : List (S77))), (a0_1), (Z17), H', ⟨Nat.le_refl _⟩, ⟨Z21⟩, ⟨Z2 BK470.out⟩, ⟨Z56⟩⟩
 case round =>
  clear H'
  (try clear p2); (try clear hcz3_0); (try clear hcz3_1); (try clear hcz3_2); (try clear hfz3_0); (try clear hfz3_1); (try clear hfz3_2)
  obtain ⟨x3_1, x4_1, rfl, HA, HK1, HO_3, BK470, HB⟩ := hrel
  cases gk with
  | zero => exact absurd HA.out (by simp [spec_puHole.l0])
  | succ k1 =>
   have H := HA.out
   clear HA
   simp only [spec_puHole.l0] at H
   by_cases c4 : x4_1 ≤ (wrap64 (a0_2 - 4))
   ·rw [if_pos c4] at H
    have c4b0 : decide (x4_1 ≤ (wrap64 (a0_2 - 4))) = true := decide_eq_true c4
    clear c4
    by_cases c5 : x3_1.length < 8796093022208
    ·rw [if_pos c5] at H
     have LMc5 := Aside0.mk c5
     clear c5
     obtain ⟨y471, hy471⟩ : ∃ y_ : List (S77), y_ = (x3_1 ++ [(⟨a0_0, x4_1⟩ : S77)]) := ⟨_, rfl⟩
     replace H : (spec_puHole.l0 k1 y471 (wrap64 (x4_1 + 4)) a0_0 a0_1 a0_2) = some r := by first | (rw [hy471]; with_reducible exact H) | (have H2_ := (Option.bind_some _ _).symm.trans H; rw [hy471]; with_reducible exact H2_) | (have H2_ := (Option.bind_some _ _).symm.trans H; with_reducible exact H2_) | with_reducible exact H | (rw [hy471]; exact H) | exact H
     have Ny471 := Aside0.mk hy471
     clear hy471
     have H' := Aside0.mk H
     clear H
     obtain ⟨hcz6_0, hcz6_1, hcz6_2, hfz6_0, hfz6_1, hfz6_2⟩ := bx3_ (w := wr) BK470.out
     go_wp2_with (first | ((with_reducible refine gate_builtin (b := .append) (xs := #[.tmp 15, .tmp 20]) rfl ?_); at_builtin; refine Kd.R_append k77 (w0 := w) w.heap.size rfl (.tmp 15) (.tmp 20) 55 77 (.agg #[(.int .i64 0), (.int .i64 0)]) 16 rfl Try.underlying55 info77 rfl (by decide) (by omega) u3 x3_1 (⟨a0_0, x4_1⟩ : S77) [.int .i64 a0_0, .int .i64 x4_1] (fun _ => True) (fun _ => False) rfl rfl ?aP (fun _ hk => hk.elim) ?aF ?aO ?aB ?aS ?aL ?_; (case aP => exact k77_mkM _ _ _ (⟨a0_0, x4_1⟩ : S77)); (case aB => exact Z56); (case aF => exact (fun _ _ => trivial)); (case aO => exact Z1 HO_3.out); (case aS => exact (below_size (Z56))); (case aL => have := LMc5.out; omega); intro v472 w7 ho hb hg hat; rw [← Ny471.out] at ho; refine k3_ (blk_grown (g := gb470) (o := .cells #[.int .i64 a0_0, .int .i64 a0_1, .int .i64 a0_2] 64 (0, 0)) (Z2 BK470.out) hg (Kd.R_ne HO_3.out BK470.out (by decide))) (hb) (ho) ?_; clear BK470 HB HO_3; intro BK470 HB HO473; clear ho hb hg hat))
     repeat (go_quiet (first | ((with_reducible refine gate_builtin (b := .append) (xs := #[.tmp 15, .tmp 20]) rfl ?_); at_builtin; refine Kd.R_append k77 (w0 := w) w.heap.size rfl (.tmp 15) (.tmp 20) 55 77 (.agg #[(.int .i64 0), (.int .i64 0)]) 16 rfl Try.underlying55 info77 rfl (by decide) (by omega) u3 x3_1 (⟨a0_0, x4_1⟩ : S77) [.int .i64 a0_0, .int .i64 x4_1] (fun _ => True) (fun _ => False) rfl rfl ?aP (fun _ hk => hk.elim) ?aF ?aO ?aB ?aS ?aL ?_; (case aP => exact k77_mkM _ _ _ (⟨a0_0, x4_1⟩ : S77)); (case aB => exact Z56); (case aF => exact (fun _ _ => trivial)); (case aO => exact Z1 HO_3.out); (case aS => exact (below_size (Z56))); (case aL => have := LMc5.out; omega); intro v472 w7 ho hb hg hat; rw [← Ny471.out] at ho; refine k3_ (blk_grown (g := gb470) (o := .cells #[.int .i64 a0_0, .int .i64 a0_1, .int .i64 a0_2] 64 (0, 0)) (Z2 BK470.out) hg (Kd.R_ne HO_3.out BK470.out (by decide))) (hb) (ho) ?_; clear BK470 HB HO_3; intro BK470 HB HO473; clear ho hb hg hat)); try go_wp2_with (first | ((with_reducible refine gate_builtin (b := .append) (xs := #[.tmp 15, .tmp 20]) rfl ?_); at_builtin; refine Kd.R_append k77 (w0 := w) w.heap.size rfl (.tmp 15) (.tmp 20) 55 77 (.agg #[(.int .i64 0), (.int .i64 0)]) 16 rfl Try.underlying55 info77 rfl (by decide) (by omega) u3 x3_1 (⟨a0_0, x4_1⟩ : S77) [.int .i64 a0_0, .int .i64 x4_1] (fun _ => True) (fun _ => False) rfl rfl ?aP (fun _ hk => hk.elim) ?aF ?aO ?aB ?aS ?aL ?_; (case aP => exact k77_mkM _ _ _ (⟨a0_0, x4_1⟩ : S77)); (case aB => exact Z56); (case aF => exact (fun _ _ => trivial)); (case aO => exact Z1 HO_3.out); (case aS => exact (below_size (Z56))); (case aL => have := LMc5.out; omega); intro v472 w7 ho hb hg hat; rw [← Ny471.out] at ho; refine k3_ (blk_grown (g := gb470) (o := .cells #[.int .i64 a0_0, .int .i64 a0_1, .int .i64 a0_2] 64 (0, 0)) (Z2 BK470.out) hg (Kd.R_ne HO_3.out BK470.out (by decide))) (hb) (ho) ?_; clear BK470 HB HO_3; intro BK470 HB HO473; clear ho hb hg hat)))
     go_roundg k1
     case measure => have := HK1.out; omega
     case rel => exact ⟨(y471), (wrap64 (x4_1 + 4)), (Z17), H', ⟨Z187⟩, ⟨Z1 HO473.out⟩, ⟨Z2 BK470.out⟩, ⟨Z56⟩⟩
    rw [if_neg c5] at H
    exact absurd H (by simp)
   rw [if_neg c4] at H
   have c4b0 : decide (x4_1 ≤ (wrap64 (a0_2 - 4))) = false := decide_eq_false c4
   clear c4
   by_cases c8 : (x3_1.length : Int) > 0
   ·rw [if_pos c8] at H
    have c8b0 : decide (0 < (x3_1.length : Int)) = true := decide_eq_true c8
    have c8b1 : decide (0 < x3_1.length) = true := decide_eq_true (by omega)
    clear c8
    obtain ⟨ji9, hji9⟩ : ∃ j_ : Int, (wrap64 ((x3_1.length : Int) - 1)) = j_ := ⟨_, rfl⟩
    replace H : (if 0 ≤ (ji9) then (if (ji9) < (x3_1.length : Int) then (if ((rd_T77 x3_1 (ji9)).f1) < (wrap64 (a0_2 - 4)) then (if x3_1.length < 8796093022208 then (some (x3_1 ++ [(⟨a0_0, wrap64 (a0_2 - 4)⟩ : S77)])) else (none)) else (some x3_1)) else (none)) else (none)) = some r := by first | (rw [hji9] at H; exact H) | (simp only [hji9] at H ⊢; exact H)
    have hji9w : (IntKind.i64.wrap ((x3_1.length : Int) - 1)) = ji9 := (i64_w _).trans hji9
    by_cases c10 : 0 ≤ (ji9)
    ·rw [if_pos c10] at H
     have c10b0 : decide (0 ≤ (ji9)) = true := decide_eq_true c10
     clear c10
     by_cases c11 : (ji9) < (x3_1.length : Int)
     ·rw [if_pos c11] at H
      have c11b0 : decide ((ji9) < (x3_1.length : Int)) = true := decide_eq_true c11
      clear c11
      by_cases c12 : ((rd_T77 x3_1 (ji9)).f1) < (wrap64 (a0_2 - 4))
      ·rw [if_pos c12] at H
       have c12b0 : decide (((rd_T77 x3_1 (ji9)).f1) < (wrap64 (a0_2 - 4))) = true := decide_eq_true c12
       clear c12
       by_cases c13 : x3_1.length < 8796093022208
       ·rw [if_pos c13] at H
        have LMc13 := Aside0.mk c13
        clear c13
        obtain ⟨y475, hy475⟩ : ∃ y_ : List (S77), y_ = (x3_1 ++ [(⟨a0_0, wrap64 (a0_2 - 4)⟩ : S77)]) := ⟨_, rfl⟩
        replace H : (some y475) = some r := by first | (rw [hy475]; with_reducible exact H) | (have H2_ := (Option.bind_some _ _).symm.trans H; rw [hy475]; with_reducible exact H2_) | (have H2_ := (Option.bind_some _ _).symm.trans H; with_reducible exact H2_) | with_reducible exact H | (rw [hy475]; exact H) | exact H
        have Ny475 := Aside0.mk hy475
        clear hy475
        obtain rfl := Option.some.inj H
        obtain ⟨hcz14_0, hcz14_1, hcz14_2, hfz14_0, hfz14_1, hfz14_2⟩ := bx3_ (w := wr) BK470.out
        obtain ⟨Ao15, co15, eo15⟩ := Kd.R_slice HO_3.out
        subst eo15
        have p474 : 0 ≤ ((ji9) : Int) := of_decide_eq_true (Z18)
        have q474 : (ji9) < (x3_1.length : Int) := of_decide_eq_true (Z18)
        obtain ⟨ad474, e474, hx474_0, hx474_1⟩ := at_T77 (Kd.R_reads' HO_3.out).2.2 (ji9) p474 q474
        cases e474
        replace p474 := eq_true p474
        replace q474 := eq_true q474
        go_wp2_with (first | ((with_reducible refine gate_builtin (b := .append) (xs := #[.tmp 38, .tmp 45]) rfl ?_); at_builtin; refine Kd.R_append k77 (w0 := w) w.heap.size rfl (.tmp 38) (.tmp 45) 55 77 (.agg #[(.int .i64 0), (.int .i64 0)]) 16 rfl Try.underlying55 info77 rfl (by decide) (by omega) (.slice (some ad474) x3_1.length co15) x3_1 (⟨a0_0, wrap64 (a0_2 - 4)⟩ : S77) [.int .i64 a0_0, .int .i64 (wrap64 (a0_2 - 4))] (fun _ => True) (fun _ => False) rfl rfl ?aP (fun _ hk => hk.elim) ?aF ?aO ?aB ?aS ?aL ?_; (case aP => exact k77_mkM _ _ _ (⟨a0_0, wrap64 (a0_2 - 4)⟩ : S77)); (case aB => exact Z56); (case aF => exact (fun _ _ => trivial)); (case aO => exact Z1 HO_3.out); (case aS => exact (below_size (Z56))); (case aL => have := LMc13.out; omega); intro v476 w16 ho hb hg hat; rw [← Ny475.out] at ho; refine k3_ (blk_grown (g := gb470) (o := .cells #[.int .i64 a0_0, .int .i64 a0_1, .int .i64 a0_2] 64 (0, 0)) (Z2 BK470.out) hg (Kd.R_ne HO_3.out BK470.out (by decide))) (hb) (ho) ?_; clear BK470 HB HO_3; intro BK470 HB HO477; clear ho hb hg hat))
        repeat (go_quiet (first | ((with_reducible refine gate_builtin (b := .append) (xs := #[.tmp 38, .tmp 45]) rfl ?_); at_builtin; refine Kd.R_append k77 (w0 := w) w.heap.size rfl (.tmp 38) (.tmp 45) 55 77 (.agg #[(.int .i64 0), (.int .i64 0)]) 16 rfl Try.underlying55 info77 rfl (by decide) (by omega) (.slice (some ad474) x3_1.length co15) x3_1 (⟨a0_0, wrap64 (a0_2 - 4)⟩ : S77) [.int .i64 a0_0, .int .i64 (wrap64 (a0_2 - 4))] (fun _ => True) (fun _ => False) rfl rfl ?aP (fun _ hk => hk.elim) ?aF ?aO ?aB ?aS ?aL ?_; (case aP => exact k77_mkM _ _ _ (⟨a0_0, wrap64 (a0_2 - 4)⟩ : S77)); (case aB => exact Z56); (case aF => exact (fun _ _ => trivial)); (case aO => exact Z1 HO_3.out); (case aS => exact (below_size (Z56))); (case aL => have := LMc13.out; omega); intro v476 w16 ho hb hg hat; rw [← Ny475.out] at ho; refine k3_ (blk_grown (g := gb470) (o := .cells #[.int .i64 a0_0, .int .i64 a0_1, .int .i64 a0_2] 64 (0, 0)) (Z2 BK470.out) hg (Kd.R_ne HO_3.out BK470.out (by decide))) (hb) (ho) ?_; clear BK470 HB HO_3; intro BK470 HB HO477; clear ho hb hg hat)); try go_wp2_with (first | ((with_reducible refine gate_builtin (b := .append) (xs := #[.tmp 38, .tmp 45]) rfl ?_); at_builtin; refine Kd.R_append k77 (w0 := w) w.heap.size rfl (.tmp 38) (.tmp 45) 55 77 (.agg #[(.int .i64 0), (.int .i64 0)]) 16 rfl Try.underlying55 info77 rfl (by decide) (by omega) (.slice (some ad474) x3_1.length co15) x3_1 (⟨a0_0, wrap64 (a0_2 - 4)⟩ : S77) [.int .i64 a0_0, .int .i64 (wrap64 (a0_2 - 4))] (fun _ => True) (fun _ => False) rfl rfl ?aP (fun _ hk => hk.elim) ?aF ?aO ?aB ?aS ?aL ?_; (case aP => exact k77_mkM _ _ _ (⟨a0_0, wrap64 (a0_2 - 4)⟩ : S77)); (case aB => exact Z56); (case aF => exact (fun _ _ => trivial)); (case aO => exact Z1 HO_3.out); (case aS => exact (below_size (Z56))); (case aL => have := LMc13.out; omega); intro v476 w16 ho hb hg hat; rw [← Ny475.out] at ho; refine k3_ (blk_grown (g := gb470) (o := .cells #[.int .i64 a0_0, .int .i64 a0_1, .int .i64 a0_2] 64 (0, 0)) (Z2 BK470.out) hg (Kd.R_ne HO_3.out BK470.out (by decide))) (hb) (ho) ?_; clear BK470 HB HO_3; intro BK470 HB HO477; clear ho hb hg hat)))
        go_ret
        exact ⟨_, Z183, Z1 HO477.out, Z56⟩
       rw [if_neg c13] at H
       exact absurd H (by simp)
      rw [if_neg c12] at H
      have c12b0 : decide (((rd_T77 x3_1 (ji9)).f1) < (wrap64 (a0_2 - 4))) = false := decide_eq_false c12
      clear c12
      obtain rfl := Option.some.inj H
      obtain ⟨hcz17_0, hcz17_1, hcz17_2, hfz17_0, hfz17_1, hfz17_2⟩ := bx3_ (w := wr) BK470.out
      obtain ⟨Ao18, co18, eo18⟩ := Kd.R_slice HO_3.out
      subst eo18
      have p474 : 0 ≤ ((ji9) : Int) := of_decide_eq_true (Z18)
      have q474 : (ji9) < (x3_1.length : Int) := of_decide_eq_true (Z18)
      obtain ⟨ad474, e474, hx474_0, hx474_1⟩ := at_T77 (Kd.R_reads' HO_3.out).2.2 (ji9) p474 q474
      cases e474
      replace p474 := eq_true p474
      replace q474 := eq_true q474
      go_wp2
      repeat (go_quiet (fail); try go_wp2)
      go_ret
      exact ⟨_, Z183, Z1 HO_3.out, Z56⟩
     rw [if_neg c11] at H
     exact absurd H (by simp)
    rw [if_neg c10] at H
    exact absurd H (by simp)
   rw [if_neg c8] at H
   have c8b0 : decide (0 < (x3_1.length : Int)) = false := decide_eq_false c8
   have c8b1 : decide (0 < x3_1.length) = false := decide_eq_false (by omega)
   clear c8
   obtain rfl := Option.some.inj H
   obtain ⟨hcz19_0, hcz19_1, hcz19_2, hfz19_0, hfz19_1, hfz19_2⟩ := bx3_ (w := wr) BK470.out
   obtain ⟨Ao20, co20, eo20⟩ := Kd.R_slice HO_3.out
   subst eo20
   go_wp2
   repeat (go_quiet (fail); try go_wp2)
   go_ret
   exact ⟨_, Z11, Z1 HO_3.out, Z56⟩

/-! ### spec_puStrokes: function 46 -/
def spec_puStrokes.l0 : Nat → List (S77) → List (S64) → Int → Int → Option ((List (S77)) × Bool)
 | 0, _, _, _, _ => none
 | k + 1, x4, x8, x9, x10 => if x10 < x9 then (if 0 ≤ x10 then (if x10 < (x8.length : Int) then ((spec_puHole.f k ((rd_T64 x8 x10).f0) ((rd_T64 x8 x10).f1) ((rd_T64 x8 x10).f2)).bind fun t480 => (if (t480.length : Int) = 0 then (some (([] : List (S77)), false)) else (if x4.length + t480.length < 8796093022208 then (spec_puStrokes.l0 k (x4 ++ t480) x8 x9 (wrap64 (x10 + 1))) else (none)))) else (none)) else (none)) else (if (x4.length : Int) > 200 then (some (([] : List (S77)), false)) else (some (x4, true)))
def spec_puStrokes.f (k : Nat) (l0 : List (S64)) : Option ((List (S77)) × Bool) := spec_puStrokes.l0 k ([] : List (S77)) l0 (l0.length : Int) 0
theorem spec_puStrokes.mono_l : ∀ k, (∀ y0 y1 y2 y3, LeO (spec_puStrokes.l0 k y0 y1 y2 y3) (spec_puStrokes.l0 (k + 1) y0 y1 y2 y3))
 | 0 => fun _ _ _ _ r h => by simp [spec_puStrokes.l0] at h
 | k + 1 => by
  have ih0 := spec_puStrokes.mono_l k
  ·intro y0 y1 y2 y3
   unfold spec_puStrokes.l0
   exact mo11_
theorem spec_puStrokes.mono : ∀ a0 k, LeO (spec_puStrokes.f k a0) (spec_puStrokes.f (k + 1) a0) := by
 intro a0 k
 have ih0 := spec_puStrokes.mono_l k
 unfold spec_puStrokes.f
 exact mo11_
set_option maxHeartbeats 8000000 in
set_option maxRecDepth 100000 in
theorem spec_puStrokes.calls (k : Nat) (A0 : Option Addr) (c0 : Nat) (l0 : List (S64)) (r1 : List (S77)) (r2 : Bool) (w : World) (hr0 : Kd.C k64 w A0 l0.length l0) (hc0 : l0.length ≤ c0) (h : spec_puStrokes.f k l0 = some (r1, r2)) :
  Calls Try.prog 46 #[.slice A0 l0.length c0] w fun e w' => ∃ v0_ : Value, e = .returned (.tuple #[v0_, .bool r2]) ∧ Kd.R k77 77 w' w.heap.size (fun _ => True) v0_ r1 ∧ Below w.heap.size w w' := by
 have hu64 := Try.underlying64
 have HR0 := Aside0.mk hr0
 have HC0 := Aside0.mk hc0
 clear hr0 hc0
 have HB := Aside0.mk (Below.refl w.heap.size w)
 have H : (spec_puStrokes.l0 k ([] : List (S77)) l0 (l0.length : Int) 0) = some (r1, r2) := h
 clear h
 have H' := Aside0.mk H
 clear H
 go_enter Try.func46, Try.ntmps46
 go_wp2
 go_loopg [4, 10] k (fun kq v4 v10 w' => ∃ (x4_1 : List (S77)) (x10_1 : Int), v10 = .int .i64 x10_1 ∧ Aside0 (spec_puStrokes.l0 kq x4_1 l0 (l0.length : Int) x10_1 = some (r1, r2)) ∧ Aside0 (kq ≤ k) ∧ Aside0 (Kd.R k77 77 w' w.heap.size (fun _ => True) v4 x4_1) ∧ Aside0 (Below w.heap.size w w'))
 case atStart => exact ⟨(([] : List (S77))), (0), (Z17), H', ⟨Nat.le_refl _⟩, ⟨Z21⟩, ⟨Z3⟩⟩
 case round =>
  clear H'
  obtain ⟨x4_1, x10_1, rfl, HA, HK1, HO_4, HB⟩ := hrel
  cases gk with
  | zero => exact absurd HA.out (by simp [spec_puStrokes.l0])
  | succ k1 =>
   have H := HA.out
   clear HA
   simp only [spec_puStrokes.l0] at H
   by_cases c2 : x10_1 < (l0.length : Int)
   ·rw [if_pos c2] at H
    have c2b0 : decide (x10_1 < (l0.length : Int)) = true := decide_eq_true c2
    clear c2
    by_cases c3 : 0 ≤ x10_1
    ·rw [if_pos c3] at H
     have c3b0 : decide (0 ≤ x10_1) = true := decide_eq_true c3
     clear c3
     by_cases c4 : x10_1 < (l0.length : Int)
     ·rw [if_pos c4] at H
      have c4b0 : decide (x10_1 < (l0.length : Int)) = true := decide_eq_true c4
      clear c4
      replace H := Option.bind_eq_some_iff.mp H
      obtain ⟨t480, A50, H⟩ := H
      (try dsimp only at H)
      have A5 := Aside0.mk A50
      clear A50
      by_cases c6 : (t480.length : Int) = 0
      ·rw [if_pos c6] at H
       have c6b0 : ((t480.length : Int) == 0) = true := beq_iff_eq.mpr c6
       have c6b1 : ((t480.length : Int) != 0) = false := bne_eq_false_iff_eq.mpr c6
       clear c6
       simp only [Option.some.injEq, Prod.mk.injEq] at H
       obtain ⟨rfl, rfl⟩ := H
       have p478 : 0 ≤ (x10_1 : Int) := of_decide_eq_true (Z18)
       have q478 : x10_1 < (l0.length : Int) := of_decide_eq_true (Z18)
       obtain ⟨ad478, e478, hx478_0, hx478_1, hx478_2⟩ := at_T64 HR0.out x10_1 p478 q478
       cases e478
       replace hx478_0 := (HB.out.cell (World.block_lt_of_cell? w _ hx478_0)).trans hx478_0
       replace hx478_1 := (HB.out.cell (World.block_lt_of_cell? w _ hx478_1)).trans hx478_1
       replace hx478_2 := (HB.out.cell (World.block_lt_of_cell? w _ hx478_2)).trans hx478_2
       replace p478 := eq_true p478
       replace q478 := eq_true q478
       go_wp2_with (first | ((with_reducible refine gate_dst (N := 6) rfl ?_); refine bv_ 6 64 #[.int .i64 0, .int .i64 0, .int .i64 0] ?_; intro gb479 hg w7 hbox hb; refine k5_ (Ya_ HO_4.out) (below_step (Z3) hb) (hbox) ((Z26 : w.heap.size ≤ gb479)) ((Z26 : w.heap.size ≤ gb479)) ?_; clear HO_4 HB; intro HO_4 HB BK479 GW479 GE479; clear hb hbox hg; obtain ⟨hcz8_0, hcz8_1, hcz8_2, hfz8_0, hfz8_1, hfz8_2⟩ := bx3_ (w := w7) BK479.out) | ((with_reducible refine gate_callee (f := 54) rfl ?_); refine gl_ 15 Try.func54 #[.agg #[.int .i64 ((rd_T64 l0 x10_1).f0), .int .i64 ((rd_T64 l0 x10_1).f1), .int .i64 ((rd_T64 l0 x10_1).f2)]] ?_; (with_reducible refine (spec_puHole.calls k1 ((rd_T64 l0 x10_1).f0) ((rd_T64 l0 x10_1).f1) ((rd_T64 l0 x10_1).f2) t480 _ A5.out).mono ?_); rintro e w9 ⟨v481, rfl, ho0, hb⟩; refine ⟨_, rfl, ?_⟩; refine k4_ (Kd.R_elder' (Z96) (Kd.R_base ho0) hb) (Kd.R_lower (Kd.R_new' ho0 (Kd.R_lt (Z96))) (below_size (Z105))) (blk_below (g := gb479) (o := .cells #[.int .i64 ((rd_T64 l0 x10_1).f0), .int .i64 ((rd_T64 l0 x10_1).f1), .int .i64 ((rd_T64 l0 x10_1).f2)] 64 (0, 0)) (Z94 BK479.out) hb) (below_step (Z105) hb) ?_; clear HO_4 BK479 HB; intro HO_4 HO482 BK479 HB; (try clear hb ho0); obtain ⟨Ao10, co10, eo10⟩ := Kd.R_slice HO482.out; subst eo10))
       go_ret2
       exact ⟨_, Z11, Z21, Z105⟩
      rw [if_neg c6] at H
      have c6b0 : ((t480.length : Int) == 0) = false := beq_eq_false_iff_ne.mpr c6
      have c6b1 : ((t480.length : Int) != 0) = true := bne_iff_ne.mpr c6
      have c6b2 : ¬ (t480 = []) := fun h_ => c6 (by rw [h_]; rfl)
      by_cases c11 : x4_1.length + t480.length < 8796093022208
      ·rw [if_pos c11] at H
       have LMc11 := Aside0.mk c11
       clear c11
       obtain ⟨y483, hy483⟩ : ∃ y_ : List (S77), y_ = (x4_1 ++ t480) := ⟨_, rfl⟩
       replace H : (spec_puStrokes.l0 k1 y483 l0 (l0.length : Int) (wrap64 (x10_1 + 1))) = some (r1, r2) := by first | (rw [hy483]; with_reducible exact H) | (have H2_ := (Option.bind_some _ _).symm.trans H; rw [hy483]; with_reducible exact H2_) | (have H2_ := (Option.bind_some _ _).symm.trans H; with_reducible exact H2_) | with_reducible exact H | (rw [hy483]; exact H) | exact H
       have Ny483 := Aside0.mk hy483
       clear hy483
       have H' := Aside0.mk H
       clear H
       have p478 : 0 ≤ (x10_1 : Int) := of_decide_eq_true (Z18)
       have q478 : x10_1 < (l0.length : Int) := of_decide_eq_true (Z18)
       obtain ⟨ad478, e478, hx478_0, hx478_1, hx478_2⟩ := at_T64 HR0.out x10_1 p478 q478
       cases e478
       replace hx478_0 := (HB.out.cell (World.block_lt_of_cell? w _ hx478_0)).trans hx478_0
       replace hx478_1 := (HB.out.cell (World.block_lt_of_cell? w _ hx478_1)).trans hx478_1
       replace hx478_2 := (HB.out.cell (World.block_lt_of_cell? w _ hx478_2)).trans hx478_2
       replace p478 := eq_true p478
       replace q478 := eq_true q478
       go_wp2_with (first | ((with_reducible refine gate_dst (N := 6) rfl ?_); refine bv_ 6 64 #[.int .i64 0, .int .i64 0, .int .i64 0] ?_; intro gb479 hg w12 hbox hb; refine k5_ (Ya_ HO_4.out) (below_step (Z3) hb) (hbox) ((Z26 : w.heap.size ≤ gb479)) ((Z26 : w.heap.size ≤ gb479)) ?_; clear HO_4 HB; intro HO_4 HB BK479 GW479 GE479; clear hb hbox hg; obtain ⟨hcz13_0, hcz13_1, hcz13_2, hfz13_0, hfz13_1, hfz13_2⟩ := bx3_ (w := w12) BK479.out) | ((with_reducible refine gate_callee (f := 54) rfl ?_); refine gl_ 15 Try.func54 #[.agg #[.int .i64 ((rd_T64 l0 x10_1).f0), .int .i64 ((rd_T64 l0 x10_1).f1), .int .i64 ((rd_T64 l0 x10_1).f2)]] ?_; (with_reducible refine (spec_puHole.calls k1 ((rd_T64 l0 x10_1).f0) ((rd_T64 l0 x10_1).f1) ((rd_T64 l0 x10_1).f2) t480 _ A5.out).mono ?_); rintro e w14 ⟨v481, rfl, ho0, hb⟩; refine ⟨_, rfl, ?_⟩; refine k4_ (Kd.R_elder' (Z96) (Kd.R_base ho0) hb) (Kd.R_lower (Kd.R_new' ho0 (Kd.R_lt (Z96))) (below_size (Z105))) (blk_below (g := gb479) (o := .cells #[.int .i64 ((rd_T64 l0 x10_1).f0), .int .i64 ((rd_T64 l0 x10_1).f1), .int .i64 ((rd_T64 l0 x10_1).f2)] 64 (0, 0)) (Z94 BK479.out) hb) (below_step (Z105) hb) ?_; clear HO_4 BK479 HB; intro HO_4 HO482 BK479 HB; (try clear hb ho0); obtain ⟨Ao15, co15, eo15⟩ := Kd.R_slice HO482.out; subst eo15) | ((with_reducible refine gate_builtin (b := .append) (xs := #[.tmp 19, .tmp 20]) rfl ?_); at_builtin; refine Kd.R_append_rows k77 (w0 := w) w.heap.size rfl (.tmp 19) (.tmp 20) 55 77 (.agg #[(.int .i64 0), (.int .i64 0)]) 16 rfl Try.underlying55 info77 rfl (by decide) (by omega) u4 x4_1 t480 _ _ _ (fun k_ => some k_ ≠ (.slice Ao15 t480.length co15 : Value).ownBlock) (fun _ => False) rfl rfl ?aO ?aR (fun _ _ h => h) (fun _ h => h.elim) ?aF ?aB ?aS ?aL ?_; (case aR => exact Z7 HO482.out); (case aB => exact Z105); (case aF => exact (fun k_ hk => Kd.fresh' (Yd_ HO482.out) k_ hk)); (case aO => exact Z83 HO_4.out); (case aS => exact (below_size (Z105))); (case aL => have := LMc11.out; omega); intro v484 w16 ho hb hg hat; rw [← Ny483.out] at ho; refine k4_ (blk_grown (g := gb479) (o := .cells #[.int .i64 ((rd_T64 l0 x10_1).f0), .int .i64 ((rd_T64 l0 x10_1).f1), .int .i64 ((rd_T64 l0 x10_1).f2)] 64 (0, 0)) (Z2 BK479.out) hg (Kd.R_ne HO_4.out BK479.out (by decide))) (Kd.R_after (ok := (fun _ => True)) (Z1 HO482.out) hg hat) (hb) (ho) ?_; clear BK479 HO482 HB HO_4; intro BK479 HO482 HB HO485; clear ho hb hg hat))
       go_roundg k1
       case measure => have := HK1.out; omega
       case rel => exact ⟨(y483), (wrap64 (x10_1 + 1)), (Z17), H', ⟨Z187⟩, ⟨Z103 HO485.out⟩, ⟨Z105⟩⟩
      rw [if_neg c11] at H
      exact absurd H (by simp)
     rw [if_neg c4] at H
     exact absurd H (by simp)
    rw [if_neg c3] at H
    exact absurd H (by simp)
   rw [if_neg c2] at H
   have c2b0 : decide (x10_1 < (l0.length : Int)) = false := decide_eq_false c2
   clear c2
   by_cases c17 : (x4_1.length : Int) > 200
   ·rw [if_pos c17] at H
    have c17b0 : decide (200 < (x4_1.length : Int)) = true := decide_eq_true c17
    have c17b1 : decide (200 < x4_1.length) = true := decide_eq_true (by omega)
    clear c17
    simp only [Option.some.injEq, Prod.mk.injEq] at H
    obtain ⟨rfl, rfl⟩ := H
    obtain ⟨Ao18, co18, eo18⟩ := Kd.R_slice HO_4.out
    subst eo18
    go_wp2
    go_ret2
    exact ⟨_, Z11, Z21, Z3⟩
   rw [if_neg c17] at H
   have c17b0 : decide (200 < (x4_1.length : Int)) = false := decide_eq_false c17
   have c17b1 : decide (200 < x4_1.length) = false := decide_eq_false (by omega)
   clear c17
   simp only [Option.some.injEq, Prod.mk.injEq] at H
   obtain ⟨rfl, rfl⟩ := H
   obtain ⟨Ao19, co19, eo19⟩ := Kd.R_slice HO_4.out
   subst eo19
   go_wp2
   go_ret2
   exact ⟨_, Z11, Z1 HO_4.out, Z3⟩

/-! ### spec_jbStrokes: function 30 -/
def spec_jbStrokes.f (k : Nat) (l0_0 : List (S64)) (a0_1 : Int) : Option ((List (S77)) × Bool) := (spec_shGood.f k l0_0).bind fun t487 => (if t487 = true then ((spec_puStrokes.f k l0_0).bind fun bt488 => (if bt488.2 = true then ((spec_l1In.f a0_1 0 (bt488.1.length : Int)).bind fun t492 => (some (bt488.1, t492))) else (some (bt488.1, false)))) else (some (([] : List (S77)), false)))
theorem spec_jbStrokes.mono : ∀ a0 a1 k, LeO (spec_jbStrokes.f k a0 a1) (spec_jbStrokes.f (k + 1) a0 a1) := by
 intro a0 a1 k
 unfold spec_jbStrokes.f
 exact mo11_
set_option maxHeartbeats 8000000 in
set_option maxRecDepth 100000 in
theorem spec_jbStrokes.calls (k : Nat) (A0_0 : Option Addr) (c0_0 : Nat) (l0_0 : List (S64)) (a0_1 : Int) (r1 : List (S77)) (r2 : Bool) (w : World) (hr0_0 : Kd.C k64 w A0_0 l0_0.length l0_0) (hc0_0 : l0_0.length ≤ c0_0) (h : spec_jbStrokes.f k l0_0 a0_1 = some (r1, r2)) :
  Calls Try.prog 30 #[.agg #[.slice A0_0 l0_0.length c0_0, .int .i64 a0_1]] w fun e w' => ∃ v0_ : Value, e = .returned (.tuple #[v0_, .bool r2]) ∧ Kd.R k77 77 w' w.heap.size (fun _ => True) v0_ r1 ∧ Below w.heap.size w w' := by
 have hu28 := Try.underlying28
 have HR0_0 := Aside0.mk hr0_0
 have HC0_0 := Aside0.mk hc0_0
 clear hr0_0 hc0_0
 have HB := Aside0.mk (Below.refl w.heap.size w)
 have H : ((spec_shGood.f k l0_0).bind fun t487 => (if t487 = true then ((spec_puStrokes.f k l0_0).bind fun bt488 => (if bt488.2 = true then ((spec_l1In.f a0_1 0 (bt488.1.length : Int)).bind fun t492 => (some (bt488.1, t492))) else (some (bt488.1, false)))) else (some (([] : List (S77)), false)))) = some (r1, r2) := h
 clear h
 replace H := Option.bind_eq_some_iff.mp H
 obtain ⟨t487, A20, H⟩ := H
 (try dsimp only at H)
 have A2 := Aside0.mk A20
 clear A20
 by_cases c3 : t487 = true
 ·subst c3
  rw [if_pos rfl] at H
  replace H := Option.bind_eq_some_iff.mp H
  obtain ⟨⟨t488, t489⟩, A40, H⟩ := H
  (try dsimp only at H)
  have A4 := Aside0.mk A40
  clear A40
  by_cases c5 : t489 = true
  ·subst c5
   rw [if_pos rfl] at H
   replace H := Option.bind_eq_some_iff.mp H
   obtain ⟨t492, A60, H⟩ := H
   replace H : (some (t488, t492)) = some (r1, r2) := H
   have A6 := Aside0.mk A60
   clear A60
   simp only [Option.some.injEq, Prod.mk.injEq] at H
   obtain ⟨rfl, rfl⟩ := H
   go_enter Try.func30, Try.ntmps30
   go_wp2_with (first | ((with_reducible refine gate_dst (N := 1) rfl ?_); (try (refine gate_guard (by rfl) ?_; dsimp only)); refine bv_ 1 28 #[.slice A0_0 l0_0.length c0_0, .int .i64 a0_1] ?_; intro gb486 hg w7 hbox hb; refine k4_ (below_step (Z3) hb) (hbox) ((Z26 : w.heap.size ≤ gb486)) ((Z26 : w.heap.size ≤ gb486)) ?_; clear HB; intro HB BK486 GW486 GE486; clear hb hbox hg; obtain ⟨hcz8_0, hcz8_1, hfz8_0, hfz8_1⟩ := bx2_ (w := w7) BK486.out) | ((with_reducible refine gate_callee (f := 38) rfl ?_); refine gl_ 8 Try.func38 #[.slice A0_0 l0_0.length c0_0] ?_; (with_reducible refine (spec_shGood.calls k _ _ l0_0 true _ ?_ ?_ A2.out).mono ?_); exact Z10 HR0_0.out; exact HC0_0.out; rintro e w9 ⟨rfl, hb⟩; refine ⟨_, rfl, ?_⟩; refine k2_ (blk_below (g := gb486) (o := .cells #[.slice A0_0 l0_0.length c0_0, .int .i64 a0_1] 28 (0, 0)) (Z2 BK486.out) hb) (below_step (Z90) hb) ?_; clear BK486 HB; intro BK486 HB; (try clear hb); obtain ⟨hcz10_0, hcz10_1, hfz10_0, hfz10_1⟩ := bx2_ (w := w9) BK486.out) | ((with_reducible refine gate_callee (f := 46) rfl ?_); refine gl_ 13 Try.func46 #[.slice A0_0 l0_0.length c0_0] ?_; (with_reducible refine (spec_puStrokes.calls k _ _ l0_0 t488 true _ ?_ ?_ A4.out).mono ?_); exact Z10 HR0_0.out; exact HC0_0.out; rintro e w11 ⟨v490, rfl, ho0, hb⟩; refine ⟨_, rfl, ?_⟩; refine k3_ (Kd.R_lower ho0 (below_size (Z90))) (blk_below (g := gb486) (o := .cells #[.slice A0_0 l0_0.length c0_0, .int .i64 a0_1] 28 (0, 0)) (Z2 BK486.out) hb) (below_step (Z90) hb) ?_; clear BK486 HB; intro HO491 BK486 HB; (try clear hb ho0); obtain ⟨hcz12_0, hcz12_1, hfz12_0, hfz12_1⟩ := bx2_ (w := w11) BK486.out; obtain ⟨Ao13, co13, eo13⟩ := Kd.R_slice HO491.out; subst eo13) | (go_at_call 35; (with_reducible refine (spec_l1In.calls a0_1 0 (t488.length : Int) t492 _ A6.out).mono ?_); rintro e w' ⟨rfl, ⟨nd, rfl⟩⟩))
   go_ret2
   exact ⟨_, Z11, Z1 HO491.out, Z90⟩
  replace c5 := Bool.eq_false_iff.mpr c5
  subst c5
  rw [if_neg (show ¬ (false = true) by decide)] at H
  simp only [Option.some.injEq, Prod.mk.injEq] at H
  obtain ⟨rfl, rfl⟩ := H
  go_enter Try.func30, Try.ntmps30
  go_wp2_with (first | ((with_reducible refine gate_dst (N := 1) rfl ?_); (try (refine gate_guard (by rfl) ?_; dsimp only)); refine bv_ 1 28 #[.slice A0_0 l0_0.length c0_0, .int .i64 a0_1] ?_; intro gb486 hg w14 hbox hb; refine k4_ (below_step (Z3) hb) (hbox) ((Z26 : w.heap.size ≤ gb486)) ((Z26 : w.heap.size ≤ gb486)) ?_; clear HB; intro HB BK486 GW486 GE486; clear hb hbox hg; obtain ⟨hcz15_0, hcz15_1, hfz15_0, hfz15_1⟩ := bx2_ (w := w14) BK486.out) | ((with_reducible refine gate_callee (f := 38) rfl ?_); refine gl_ 8 Try.func38 #[.slice A0_0 l0_0.length c0_0] ?_; (with_reducible refine (spec_shGood.calls k _ _ l0_0 true _ ?_ ?_ A2.out).mono ?_); exact Z10 HR0_0.out; exact HC0_0.out; rintro e w16 ⟨rfl, hb⟩; refine ⟨_, rfl, ?_⟩; refine k2_ (blk_below (g := gb486) (o := .cells #[.slice A0_0 l0_0.length c0_0, .int .i64 a0_1] 28 (0, 0)) (Z2 BK486.out) hb) (below_step (Z90) hb) ?_; clear BK486 HB; intro BK486 HB; (try clear hb); obtain ⟨hcz17_0, hcz17_1, hfz17_0, hfz17_1⟩ := bx2_ (w := w16) BK486.out) | ((with_reducible refine gate_callee (f := 46) rfl ?_); refine gl_ 13 Try.func46 #[.slice A0_0 l0_0.length c0_0] ?_; (with_reducible refine (spec_puStrokes.calls k _ _ l0_0 t488 false _ ?_ ?_ A4.out).mono ?_); exact Z10 HR0_0.out; exact HC0_0.out; rintro e w18 ⟨v490, rfl, ho0, hb⟩; refine ⟨_, rfl, ?_⟩; refine k3_ (Kd.R_lower ho0 (below_size (Z90))) (blk_below (g := gb486) (o := .cells #[.slice A0_0 l0_0.length c0_0, .int .i64 a0_1] 28 (0, 0)) (Z2 BK486.out) hb) (below_step (Z90) hb) ?_; clear BK486 HB; intro HO491 BK486 HB; (try clear hb ho0)))
  go_ret2
  exact ⟨_, Z11, Z1 HO491.out, Z90⟩
 replace c3 := Bool.eq_false_iff.mpr c3
 subst c3
 rw [if_neg (show ¬ (false = true) by decide)] at H
 simp only [Option.some.injEq, Prod.mk.injEq] at H
 obtain ⟨rfl, rfl⟩ := H
 go_enter Try.func30, Try.ntmps30
 go_wp2_with (first | ((with_reducible refine gate_dst (N := 1) rfl ?_); (try (refine gate_guard (by rfl) ?_; dsimp only)); refine bv_ 1 28 #[.slice A0_0 l0_0.length c0_0, .int .i64 a0_1] ?_; intro gb486 hg w19 hbox hb; refine k4_ (below_step (Z3) hb) (hbox) ((Z26 : w.heap.size ≤ gb486)) ((Z26 : w.heap.size ≤ gb486)) ?_; clear HB; intro HB BK486 GW486 GE486; clear hb hbox hg; obtain ⟨hcz20_0, hcz20_1, hfz20_0, hfz20_1⟩ := bx2_ (w := w19) BK486.out) | ((with_reducible refine gate_callee (f := 38) rfl ?_); refine gl_ 8 Try.func38 #[.slice A0_0 l0_0.length c0_0] ?_; (with_reducible refine (spec_shGood.calls k _ _ l0_0 false _ ?_ ?_ A2.out).mono ?_); exact Z10 HR0_0.out; exact HC0_0.out; rintro e w21 ⟨rfl, hb⟩; refine ⟨_, rfl, ?_⟩; refine k2_ (blk_below (g := gb486) (o := .cells #[.slice A0_0 l0_0.length c0_0, .int .i64 a0_1] 28 (0, 0)) (Z2 BK486.out) hb) (below_step (Z90) hb) ?_; clear BK486 HB; intro BK486 HB; (try clear hb)))
 go_ret2
 exact ⟨_, Z11, Z21, Z90⟩

end Go.Proofs.Ytflefblmaopaiaa.PFnStops
