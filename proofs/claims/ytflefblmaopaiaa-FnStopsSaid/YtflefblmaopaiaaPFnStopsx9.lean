-- written by a program of this session: the kit's print, with outer functions of the session's own (wip/ext)
import Derived.Test.YtflefblmaopaiaaPFnStopsx0
import Derived.Test.YtflefblmaopaiaaPFnStopsx8
namespace Go.Proofs.Ytflefblmaopaiaa.PFnStops
open Go.RowKit Go.Proofs.YtflefblmaopaiaaW.PrintWords Go.Proofs.YtflefblmaopaiaaW.PrintLast Go.Proofs.YtflefblmaopaiaaW.PrintMore
attribute [local go_sem] max2_int min2_int max_two min_two max_three min_three max_four min_four   -- for this text's walks alone
set_option linter.unusedVariables false
set_option linter.unusedSimpArgs false
theorem mo9_ {p : Prop} (h : p := by repeat' first | (with_reducible first | apply ih0 | apply ih0 | apply ih1 | apply ih1 | apply ih2 | apply ih2 | exact LeO.refl _ | exact LeO.none _ | refine LeO.ite ?_ ?_ | refine LeO.bind ?_ (fun _ => ?_)) | exact LeO.none _ | refine LeO.ite ?_ ?_ | refine LeO.bind ?_ (fun _ => ?_)) : p := h

/-! ### impl_IsSheet: function 15 -/
mutual
def impl_IsSheet.l0 : Nat → List (S64) → List (S64) → Int → Int → Option (Bool)
 | 0, _, _, _, _ => none
 | k + 1, x0, x10, x11, x12 => if x12 < x11 then (if 0 ≤ x12 then (if x12 < (x10.length : Int) then ((impl_IsHole.f ((rd_T64 x10 x12).f0) ((rd_T64 x10 x12).f1) ((rd_T64 x10 x12).f2)).bind fun t416 => (if t416 = true then (if x12 > 0 then (if 0 ≤ (wrap64 (x12 - 1)) then (if (wrap64 (x12 - 1)) < (x0.length : Int) then ((impl_holeLess.f ((rd_T64 x0 (wrap64 (x12 - 1))).f0) ((rd_T64 x0 (wrap64 (x12 - 1))).f1) ((rd_T64 x0 (wrap64 (x12 - 1))).f2) ((rd_T64 x10 x12).f0) ((rd_T64 x10 x12).f1) ((rd_T64 x10 x12).f2)).bind fun t418 => (impl_IsSheet.j1 k x0 x12 x10 x11 x12 (!t418) ((rd_T64 x10 x12).f0) ((rd_T64 x10 x12).f1) ((rd_T64 x10 x12).f2))) else (none)) else (none)) else (impl_IsSheet.j1 k x0 x12 x10 x11 x12 false ((rd_T64 x10 x12).f0) ((rd_T64 x10 x12).f1) ((rd_T64 x10 x12).f2))) else (impl_IsSheet.j1 k x0 x12 x10 x11 x12 true ((rd_T64 x10 x12).f0) ((rd_T64 x10 x12).f1) ((rd_T64 x10 x12).f2)))) else (none)) else (none)) else (some true)
def impl_IsSheet.j1 : Nat → List (S64) → Int → List (S64) → Int → Int → Bool → Int → Int → Int → Option (Bool)
 | 0, _, _, _, _, _, _, _, _, _ => none
 | k + 1, x0, x3, x10, x11, x12, x33, x416000, x416001, x416002 => if x33 = true then (some false) else (if 0 ≤ x3 then (if x3 ≤ (x0.length : Int) then ((some (x0.take (x3 : Int).toNat : List (S64))).bind fun y419 => (impl_IsSheet.l1 k x0 x10 x11 x12 y419 (y419.length : Int) 0 x416000 x416001 x416002)) else (none)) else (none))
def impl_IsSheet.l1 : Nat → List (S64) → List (S64) → Int → Int → List (S64) → Int → Int → Int → Int → Int → Option (Bool)
 | 0, _, _, _, _, _, _, _, _, _, _ => none
 | k + 1, x0, x10, x11, x12, x36, x37, x38, x416000, x416001, x416002 => if x38 < x37 then (if 0 ≤ x38 then (if x38 < (x36.length : Int) then (if ((rd_T64 x36 x38).f0) = x416000 then (if ((rd_T64 x36 x38).f2) ≥ x416001 then (some false) else (impl_IsSheet.l1 k x0 x10 x11 x12 x36 x37 (wrap64 (x38 + 1)) x416000 x416001 x416002)) else (impl_IsSheet.l1 k x0 x10 x11 x12 x36 x37 (wrap64 (x38 + 1)) x416000 x416001 x416002)) else (none)) else (none)) else (impl_IsSheet.l0 k x0 x10 x11 (wrap64 (x12 + 1)))
end
def impl_IsSheet.f (k : Nat) (l0 : List (S64)) : Option (Bool) := if (l0.length : Int) > 60 then (some false) else (impl_IsSheet.l0 k l0 l0 (l0.length : Int) 0)
theorem impl_IsSheet.mono_l : ∀ k, (∀ y0 y1 y2 y3, LeO (impl_IsSheet.l0 k y0 y1 y2 y3) (impl_IsSheet.l0 (k + 1) y0 y1 y2 y3)) ∧ (∀ y0 y1 y2 y3 y4 y5 y6 y7 y8, LeO (impl_IsSheet.j1 k y0 y1 y2 y3 y4 y5 y6 y7 y8) (impl_IsSheet.j1 (k + 1) y0 y1 y2 y3 y4 y5 y6 y7 y8)) ∧ (∀ y0 y1 y2 y3 y4 y5 y6 y7 y8 y9, LeO (impl_IsSheet.l1 k y0 y1 y2 y3 y4 y5 y6 y7 y8 y9) (impl_IsSheet.l1 (k + 1) y0 y1 y2 y3 y4 y5 y6 y7 y8 y9))
 | 0 => ⟨fun _ _ _ _ r h => by simp [impl_IsSheet.l0] at h, fun _ _ _ _ _ _ _ _ _ r h => by simp [impl_IsSheet.j1] at h, fun _ _ _ _ _ _ _ _ _ _ r h => by simp [impl_IsSheet.l1] at h⟩
 | k + 1 => by
  obtain ⟨ih0, ih1, ih2⟩ := impl_IsSheet.mono_l k
  refine ⟨?_, ?_, ?_⟩
  ·intro y0 y1 y2 y3
   unfold impl_IsSheet.l0
   exact mo9_
  ·intro y0 y1 y2 y3 y4 y5 y6 y7 y8
   unfold impl_IsSheet.j1
   exact mo9_
  intro y0 y1 y2 y3 y4 y5 y6 y7 y8 y9
  unfold impl_IsSheet.l1
  exact mo9_
theorem impl_IsSheet.mono : ∀ a0 k, LeO (impl_IsSheet.f k a0) (impl_IsSheet.f (k + 1) a0) := by
 intro a0 k
 obtain ⟨ih0, ih1, ih2⟩ := impl_IsSheet.mono_l k
 unfold impl_IsSheet.f
 exact mo9_
def impl_IsSheet.T6 : Bool × List (List Nat × List Nat) := (true, [([], []), ([0], [0]), ([1], [1]), ([2, 1], [2]), ([3], [3]), ([4, 3], [3, 4]), ([5, 3, 3], [3, 5]), ([6], [6]), ([6], [6]), ([8, 6], [6, 8]), ([7, 9, 6], [6, 7, 9]), ([10, 6], [6, 10]), ([6], [6]), ([11, 12, 6, 6], [6, 11, 12]), ([13, 6], [6, 13]), ([6, 14, 3], [3, 6, 14]), ([3, 15], [3, 15])])
def impl_IsSheet.B6 : List Nat := [0, 1, 3, 7, 15, 31, 63, 127, 127, 383, 1023, 2047, 127, 8191, 16383, 32767, 65535]
theorem impl_IsSheet.tab6 : rtab .any (opsOf Try.f15 6) = impl_IsSheet.T6 := by kernel_rfl
theorem impl_IsSheet.bits6 : waitsOk impl_IsSheet.T6.2 impl_IsSheet.B6 = true := by kernel_rfl
set_option maxHeartbeats 8000000 in
set_option maxRecDepth 100000 in
theorem impl_IsSheet.calls (k : Nat) (A0 : Option Addr) (c0 : Nat) (l0 : List (S64)) (r : Bool) (w : World) (hr0 : Kd.C k64 w A0 l0.length l0) (hc0 : l0.length ≤ c0) (h : impl_IsSheet.f k l0 = some r) :
  Calls Try.prog 15 #[.slice A0 l0.length c0] w fun e w' => e = .returned (.bool r) ∧ Below w.heap.size w w' := by
 have hu64 := Try.underlying64
 have HR0 := Aside0.mk hr0
 have HC0 := Aside0.mk hc0
 clear hr0 hc0
 have HB := Aside0.mk (Below.refl w.heap.size w)
 have H : (if (l0.length : Int) > 60 then (some false) else (impl_IsSheet.l0 k l0 l0 (l0.length : Int) 0)) = some r := h
 clear h
 by_cases c2 : (l0.length : Int) > 60
 ·rw [if_pos c2] at H
  have c2b0 : decide (60 < (l0.length : Int)) = true := decide_eq_true c2
  have c2b1 : decide (60 < l0.length) = true := decide_eq_true (by omega)
  clear c2
  obtain rfl := Option.some.inj H
  go_enter Try.func15, Try.ntmps15
  go_wp2
  go_ret
  exact ⟨Z11, Z3⟩
 rw [if_neg c2] at H
 have c2b0 : decide (60 < (l0.length : Int)) = false := decide_eq_false c2
 have c2b1 : decide (60 < l0.length) = false := decide_eq_false (by omega)
 clear c2
 have H' := Aside0.mk H
 clear H
 go_enter Try.func15, Try.ntmps15
 go_wp2
 go_loopg [12] k (fun kq v12 w' => ∃ (x12_1 : Int), v12 = .int .i64 x12_1 ∧ Aside0 (impl_IsSheet.l0 kq l0 l0 (l0.length : Int) x12_1 = some r) ∧ Aside0 (kq ≤ k) ∧ Aside0 (Below w.heap.size w w'))
 case atStart => exact ⟨(0), (Z17), H', ⟨Nat.le_refl _⟩, ⟨Z3⟩⟩
 case round =>
  clear H'
  (try clear c1); (try clear c2); (try clear c2b0); (try clear c2b1); (try clear p2)
  obtain ⟨x12_1, rfl, HA, HK1, HB⟩ := hrel
  cases gk with
  | zero => exact absurd HA.out (by simp [impl_IsSheet.l0])
  | succ k1 =>
   have H := HA.out
   clear HA
   simp only [impl_IsSheet.l0] at H
   by_cases c3 : x12_1 < (l0.length : Int)
   ·rw [if_pos c3] at H
    have c3b0 : decide (x12_1 < (l0.length : Int)) = true := decide_eq_true c3
    clear c3
    by_cases c4 : 0 ≤ x12_1
    ·rw [if_pos c4] at H
     have c4b0 : decide (0 ≤ x12_1) = true := decide_eq_true c4
     clear c4
     by_cases c5 : x12_1 < (l0.length : Int)
     ·rw [if_pos c5] at H
      have c5b0 : decide (x12_1 < (l0.length : Int)) = true := decide_eq_true c5
      clear c5
      have HC6 := Aside0.mk H
      clear H
      have p414 : 0 ≤ (x12_1 : Int) := of_decide_eq_true (Z18)
      have q414 : x12_1 < (l0.length : Int) := of_decide_eq_true (Z18)
      obtain ⟨ad414, e414, hx414_0, hx414_1, hx414_2⟩ := at_T64 HR0.out x12_1 p414 q414
      cases e414
      replace hx414_0 := (HB.out.cell (World.block_lt_of_cell? w _ hx414_0)).trans hx414_0
      replace hx414_1 := (HB.out.cell (World.block_lt_of_cell? w _ hx414_1)).trans hx414_1
      replace hx414_2 := (HB.out.cell (World.block_lt_of_cell? w _ hx414_2)).trans hx414_2
      replace p414 := eq_true p414
      replace q414 := eq_true q414
      go_upto_region 6 with (first | ((with_reducible refine gate_dst (N := 4) rfl ?_); refine bv_ 4 64 #[.int .i64 0, .int .i64 0, .int .i64 0] ?_; intro gb415 hg w7 hbox hb; refine k4_ (below_step (Z3) hb) (hbox) ((Z26 : w.heap.size ≤ gb415)) ((Z26 : w.heap.size ≤ gb415)) ?_; clear HB; intro HB BK415 GW415 GE415; clear hb hbox hg; obtain ⟨hcz8_0, hcz8_1, hcz8_2, hfz8_0, hfz8_1, hfz8_2⟩ := bx3_ (w := w7) BK415.out))
      (try simp only [Act.put, List.setIfInBounds_toArray, List.set_cons_zero, List.set_cons_succ])
      go_cut [33] (fun v33 wc => ∃ (kq : Nat) (x33_5 : Bool), v33 = .bool x33_5 ∧ Aside0 (impl_IsSheet.j1 kq l0 x12_1 l0 (l0.length : Int) x12_1 x33_5 ((rd_T64 l0 x12_1).f0) ((rd_T64 l0 x12_1).f1) ((rd_T64 l0 x12_1).f2) = some r) ∧ Aside0 (kq ≤ k1) ∧ Aside0 (wc.heap[gb415]? = some (.cells #[.int .i64 ((rd_T64 l0 x12_1).f0), .int .i64 ((rd_T64 l0 x12_1).f1), .int .i64 ((rd_T64 l0 x12_1).f2)] 64 (0, 0))) ∧ Aside0 (Below w.heap.size w wc))
      case first =>
       have H := HC6.out
       clear HC6
       replace H := Option.bind_eq_some_iff.mp H
       obtain ⟨t416, A90, H⟩ := H
       (try dsimp only at H)
       have A9 := Aside0.mk A90
       clear A90
       by_cases c10 : t416 = true
       ·subst c10
        rw [if_pos rfl] at H
        by_cases c11 : x12_1 > 0
        ·rw [if_pos c11] at H
         have c11b0 : decide (0 < x12_1) = true := decide_eq_true c11
         clear c11
         (first | rw [c11b0] | (simp only [i64_w, i32_w]; rw [c11b0]) | skip)
         obtain ⟨ji12, hji12⟩ : ∃ j_ : Int, (wrap64 (x12_1 - 1)) = j_ := ⟨_, rfl⟩
         replace H : (if 0 ≤ (ji12) then (if (ji12) < (l0.length : Int) then ((impl_holeLess.f ((rd_T64 l0 (ji12)).f0) ((rd_T64 l0 (ji12)).f1) ((rd_T64 l0 (ji12)).f2) ((rd_T64 l0 x12_1).f0) ((rd_T64 l0 x12_1).f1) ((rd_T64 l0 x12_1).f2)).bind fun t418 => (impl_IsSheet.j1 k1 l0 x12_1 l0 (l0.length : Int) x12_1 (!t418) ((rd_T64 l0 x12_1).f0) ((rd_T64 l0 x12_1).f1) ((rd_T64 l0 x12_1).f2))) else (none)) else (none)) = some r := by first | (rw [hji12] at H; exact H) | (simp only [hji12] at H ⊢; exact H)
         (try rw [hji12] at A9)
         have hji12w : (IntKind.i64.wrap (x12_1 - 1)) = ji12 := (i64_w _).trans hji12
         by_cases c13 : 0 ≤ (ji12)
         ·rw [if_pos c13] at H
          have c13b0 : decide (0 ≤ (ji12)) = true := decide_eq_true c13
          clear c13
          by_cases c14 : (ji12) < (l0.length : Int)
          ·rw [if_pos c14] at H
           have c14b0 : decide ((ji12) < (l0.length : Int)) = true := decide_eq_true c14
           clear c14
           replace H := Option.bind_eq_some_iff.mp H
           obtain ⟨t418, A150, H⟩ := H
           (try dsimp only at H)
           have A15 := Aside0.mk A150
           clear A150
           have H' := Aside0.mk H
           clear H
           try go_wp2
           have n0_ : Aside0 ((((w7.setCell ⟨gb415, 0, none⟩ (.int .i64 ((rd_T64 l0 x12_1).f0))).setCell ⟨gb415, 1, none⟩ (.int .i64 ((rd_T64 l0 x12_1).f1))).setCell ⟨gb415, 2, none⟩ (.int .i64 ((rd_T64 l0 x12_1).f2))).heap[gb415]? = some (.cells #[.int .i64 ((rd_T64 l0 x12_1).f0), .int .i64 ((rd_T64 l0 x12_1).f1), .int .i64 ((rd_T64 l0 x12_1).f2)] 64 (0, 0))) := ⟨Z50 BK415.out⟩
           have n1_ : Aside0 (Below w.heap.size w (((w7.setCell ⟨gb415, 0, none⟩ (.int .i64 ((rd_T64 l0 x12_1).f0))).setCell ⟨gb415, 1, none⟩ (.int .i64 ((rd_T64 l0 x12_1).f1))).setCell ⟨gb415, 2, none⟩ (.int .i64 ((rd_T64 l0 x12_1).f2)))) := ⟨Z43⟩
           (try clear BK415)
           (try clear HB)
           generalize (((w7.setCell ⟨gb415, 0, none⟩ (.int .i64 ((rd_T64 l0 x12_1).f0))).setCell ⟨gb415, 1, none⟩ (.int .i64 ((rd_T64 l0 x12_1).f1))).setCell ⟨gb415, 2, none⟩ (.int .i64 ((rd_T64 l0 x12_1).f2))) = w16 at n0_ n1_ ⊢
           have BK415 := n0_
           have HB := n1_
           clear n0_ n1_
           refine k2_ (blk_drew BK415.out) (below_drew1 HB.out) ?_
           clear BK415 HB
           intro BK415 HB
           have p417 : 0 ≤ ((ji12) : Int) := of_decide_eq_true (Z18)
           have q417 : (ji12) < (l0.length : Int) := of_decide_eq_true (Z18)
           obtain ⟨ad417, e417, hx417_0, hx417_1, hx417_2⟩ := at_T64 HR0.out (ji12) p417 q417
           have hw417_2 := hx417_2
           have hw417_1 := hx417_1
           have hw417_0 := hx417_0
           obtain rfl : ad414 = ad417 := (by injection e417)
           replace hx417_0 := (HB.out.cell (World.block_lt_of_cell? w _ hx417_0)).trans hx417_0
           replace hx417_1 := (HB.out.cell (World.block_lt_of_cell? w _ hx417_1)).trans hx417_1
           replace hx417_2 := (HB.out.cell (World.block_lt_of_cell? w _ hx417_2)).trans hx417_2
           replace p417 := eq_true p417
           replace q417 := eq_true q417
           refine start_ (n := 17) (S := fun w' => w'.cell? ⟨gb415, 0, none⟩ = some (.int .i64 ((rd_T64 l0 x12_1).f0)) ∧ w'.cell? ⟨gb415, 1, none⟩ = some (.int .i64 ((rd_T64 l0 x12_1).f1)) ∧ w'.cell? ⟨gb415, 2, none⟩ = some (.int .i64 ((rd_T64 l0 x12_1).f2)) ∧ w'.cell? (ad414.add (((ji12)).toNat * 3)) = some (.int .i64 ((rd_T64 l0 (ji12)).f0)) ∧ w'.cell? ⟨(ad414.add (((ji12)).toNat * 3)).block, (ad414.add (((ji12)).toNat * 3)).off + 1, none⟩ = some (.int .i64 ((rd_T64 l0 (ji12)).f1)) ∧ w'.cell? ⟨(ad414.add (((ji12)).toNat * 3)).block, (ad414.add (((ji12)).toNat * 3)).off + 2, none⟩ = some (.int .i64 ((rd_T64 l0 (ji12)).f2))) (ds := []) (M_ 0 17) (by kernel_rfl) rfl rfl ⟨(blk_cell BK415.out 0).trans rfl, (blk_cell BK415.out 1).trans rfl, (blk_cell BK415.out 2).trans rfl, ((HB.out.cell (World.block_lt_of_cell? w _ hw417_0)).trans hw417_0), ((HB.out.cell (World.block_lt_of_cell? w _ hw417_1)).trans hw417_1), ((HB.out.cell (World.block_lt_of_cell? w _ hw417_2)).trans hw417_2)⟩ (fun hHeld => ?_); refine with_tabW impl_IsSheet.tab6 impl_IsSheet.bits6 (fun HT_ HW_ => ?_)
           generalize w16.drew = w17 at BK415 HB hx417_0 hx417_1 hx417_2 hHeld ⊢
           refine tk6_ 0 17 (M_ 1 16) hHeld ?_
           refine one_ (i := 1) (N := some 18) (M_ 2 15) rfl rfl (one_of HT_.out (by kernel_rfl)) (by decide) (fun K hK => ?_)
           refine goes_ Try.func39 (by kernel_rfl) rfl #[.agg #[.int .i64 ((rd_T64 l0 x12_1).f0), .int .i64 ((rd_T64 l0 x12_1).f1), .int .i64 ((rd_T64 l0 x12_1).f2)]] (by rfl) rfl rfl (Z84) ?_
           with_reducible refine (impl_IsHole.calls ((rd_T64 l0 x12_1).f0) ((rd_T64 l0 x12_1).f1) ((rd_T64 l0 x12_1).f2) true _ A9.out).mono ?_
           rintro e w18 ⟨rfl, hb⟩
           refine ⟨_, rfl, ?_⟩
           have n0_ := Aside0.mk (blk_below (g := gb415) (o := .cells #[.int .i64 ((rd_T64 l0 x12_1).f0), .int .i64 ((rd_T64 l0 x12_1).f1), .int .i64 ((rd_T64 l0 x12_1).f2)] 64 (0, 0)) (Z2 BK415.out) hb)
           have n1_ := Aside0.mk (below_step (Z43) hb)
           clear BK415
           clear HB
           have BK415 := n0_
           have HB := n1_
           clear n0_ n1_
           (try clear hb)
           (try clear hb2)
           (try clear hk)
           (try clear hi)
           refine hK.out _ _ ⟨(blk_cell BK415.out 0).trans rfl, (blk_cell BK415.out 1).trans rfl, (blk_cell BK415.out 2).trans rfl, ((HB.out.cell (World.block_lt_of_cell? w _ hw417_0)).trans hw417_0), ((HB.out.cell (World.block_lt_of_cell? w _ hw417_1)).trans hw417_1), ((HB.out.cell (World.block_lt_of_cell? w _ hw417_2)).trans hw417_2)⟩ (fun hHeld => ?_)
           clear hK K
           refine norm_ (a' := ?_) ?_ ?_
           rotate_left
           ·show Act.put _ (some 18) _ = _
            simp only [Act.put, List.setIfInBounds_toArray, List.set_cons_zero, List.set_cons_succ, i64_w, i32_w]
            rfl
           refine pu_ 2 19 (M_ 3 14) ?_
           refine pu_ 3 20 (M_ 4 13) ?_
           refine pu_ 4 21 (M_ 5 12) ?_
           refine pu_ 5 22 (M_ 6 11) ?_
           refine pu_ 6 23 (M_ 7 10) ?_
           refine pu_ 7 24 (M_ 8 9) ?_
           refine pu_ 8 25 (M_ 9 8) ?_
           refine pu_ 9 26 (M_ 10 7) ?_
           refine pu_ 10 27 (M_ 11 6) ?_
           refine tk6_ 11 28 (M_ 12 5) hHeld ?_
           refine tk6_ 12 29 (M_ 13 4) hHeld ?_
           refine one_ (i := 13) (N := some 30) (M_ 14 3) rfl rfl (one_of HT_.out (by kernel_rfl)) (by decide) (fun K hK => ?_)
           refine goes_ Try.func40 (by kernel_rfl) rfl #[.agg #[.int .i64 ((rd_T64 l0 (ji12)).f0), .int .i64 ((rd_T64 l0 (ji12)).f1), .int .i64 ((rd_T64 l0 (ji12)).f2)], .agg #[.int .i64 ((rd_T64 l0 x12_1).f0), .int .i64 ((rd_T64 l0 x12_1).f1), .int .i64 ((rd_T64 l0 x12_1).f2)]] (by rfl) rfl rfl (by (try simp only [List.map_toArray, List.map_cons, List.map_nil]); first | done | (simp only [hji12]; rfl) | rfl | (simp only [List.length_drop, List.length_take]; rfl)) ?_
           with_reducible refine (impl_holeLess.calls ((rd_T64 l0 (ji12)).f0) ((rd_T64 l0 (ji12)).f1) ((rd_T64 l0 (ji12)).f2) ((rd_T64 l0 x12_1).f0) ((rd_T64 l0 x12_1).f1) ((rd_T64 l0 x12_1).f2) t418 _ A15.out).mono ?_
           rintro e w19 ⟨rfl, hb⟩
           refine ⟨_, rfl, ?_⟩
           have n0_ := Aside0.mk (blk_below (g := gb415) (o := .cells #[.int .i64 ((rd_T64 l0 x12_1).f0), .int .i64 ((rd_T64 l0 x12_1).f1), .int .i64 ((rd_T64 l0 x12_1).f2)] 64 (0, 0)) (Z2 BK415.out) hb)
           have n1_ := Aside0.mk (below_step (Z43) hb)
           clear BK415
           clear HB
           have BK415 := n0_
           have HB := n1_
           clear n0_ n1_
           refine hK.out _ _ ⟨(blk_cell BK415.out 0).trans rfl, (blk_cell BK415.out 1).trans rfl, (blk_cell BK415.out 2).trans rfl, ((HB.out.cell (World.block_lt_of_cell? w _ hw417_0)).trans hw417_0), ((HB.out.cell (World.block_lt_of_cell? w _ hw417_1)).trans hw417_1), ((HB.out.cell (World.block_lt_of_cell? w _ hw417_2)).trans hw417_2)⟩ (fun hHeld => ?_)
           clear hK K
           refine norm_ (a' := ?_) ?_ ?_
           rotate_left
           ·show Act.put _ (some 30) _ = _
            simp only [Act.put, List.setIfInBounds_toArray, List.set_cons_zero, List.set_cons_succ, i64_w, i32_w]
            rfl
           refine pu_ 14 31 (M_ 15 2) ?_
           refine pu_ 15 32 (M_ 16 1) ?_
           refine pu_ 16 33 (M_ 17 0) ?_
           refine done_ (done_of HT_.out (by kernel_rfl)) ?_
           try go_wp2
           go_meet
           case rel => exact ⟨_, (!t418), (Z17), H', ⟨Z137⟩, ⟨Z2 BK415.out⟩, ⟨Z43⟩⟩
          rw [if_neg c14] at H
          exact absurd H (by simp)
         rw [if_neg c13] at H
         exact absurd H (by simp)
        rw [if_neg c11] at H
        have c11b0 : decide (0 < x12_1) = false := decide_eq_false c11
        clear c11
        (first | rw [c11b0] | (simp only [i64_w, i32_w]; rw [c11b0]) | skip)
        have H' := Aside0.mk H
        clear H
        try go_wp2
        have n0_ : Aside0 ((((w7.setCell ⟨gb415, 0, none⟩ (.int .i64 ((rd_T64 l0 x12_1).f0))).setCell ⟨gb415, 1, none⟩ (.int .i64 ((rd_T64 l0 x12_1).f1))).setCell ⟨gb415, 2, none⟩ (.int .i64 ((rd_T64 l0 x12_1).f2))).heap[gb415]? = some (.cells #[.int .i64 ((rd_T64 l0 x12_1).f0), .int .i64 ((rd_T64 l0 x12_1).f1), .int .i64 ((rd_T64 l0 x12_1).f2)] 64 (0, 0))) := ⟨Z50 BK415.out⟩
        have n1_ : Aside0 (Below w.heap.size w (((w7.setCell ⟨gb415, 0, none⟩ (.int .i64 ((rd_T64 l0 x12_1).f0))).setCell ⟨gb415, 1, none⟩ (.int .i64 ((rd_T64 l0 x12_1).f1))).setCell ⟨gb415, 2, none⟩ (.int .i64 ((rd_T64 l0 x12_1).f2)))) := ⟨Z43⟩
        (try clear BK415)
        (try clear HB)
        generalize (((w7.setCell ⟨gb415, 0, none⟩ (.int .i64 ((rd_T64 l0 x12_1).f0))).setCell ⟨gb415, 1, none⟩ (.int .i64 ((rd_T64 l0 x12_1).f1))).setCell ⟨gb415, 2, none⟩ (.int .i64 ((rd_T64 l0 x12_1).f2))) = w20 at n0_ n1_ ⊢
        have BK415 := n0_
        have HB := n1_
        clear n0_ n1_
        refine k2_ (blk_drew BK415.out) (below_drew1 HB.out) ?_
        clear BK415 HB
        intro BK415 HB
        refine start_ (n := 17) (S := fun w' => w'.cell? ⟨gb415, 0, none⟩ = some (.int .i64 ((rd_T64 l0 x12_1).f0)) ∧ w'.cell? ⟨gb415, 1, none⟩ = some (.int .i64 ((rd_T64 l0 x12_1).f1)) ∧ w'.cell? ⟨gb415, 2, none⟩ = some (.int .i64 ((rd_T64 l0 x12_1).f2))) (ds := []) (M_ 0 17) (by kernel_rfl) rfl rfl ⟨(blk_cell BK415.out 0).trans rfl, (blk_cell BK415.out 1).trans rfl, (blk_cell BK415.out 2).trans rfl⟩ (fun hHeld => ?_); refine with_tabW impl_IsSheet.tab6 impl_IsSheet.bits6 (fun HT_ HW_ => ?_)
        generalize w20.drew = w21 at BK415 HB hHeld ⊢
        refine tk3_ 0 17 (M_ 1 16) hHeld ?_
        refine one_ (i := 1) (N := some 18) (M_ 2 15) rfl rfl (one_of HT_.out (by kernel_rfl)) (by decide) (fun K hK => ?_)
        refine goes_ Try.func39 (by kernel_rfl) rfl #[.agg #[.int .i64 ((rd_T64 l0 x12_1).f0), .int .i64 ((rd_T64 l0 x12_1).f1), .int .i64 ((rd_T64 l0 x12_1).f2)]] (by rfl) rfl rfl (Z84) ?_
        with_reducible refine (impl_IsHole.calls ((rd_T64 l0 x12_1).f0) ((rd_T64 l0 x12_1).f1) ((rd_T64 l0 x12_1).f2) true _ A9.out).mono ?_
        rintro e w22 ⟨rfl, hb⟩
        refine ⟨_, rfl, ?_⟩
        have n0_ := Aside0.mk (blk_below (g := gb415) (o := .cells #[.int .i64 ((rd_T64 l0 x12_1).f0), .int .i64 ((rd_T64 l0 x12_1).f1), .int .i64 ((rd_T64 l0 x12_1).f2)] 64 (0, 0)) (Z2 BK415.out) hb)
        have n1_ := Aside0.mk (below_step (Z43) hb)
        clear BK415
        clear HB
        have BK415 := n0_
        have HB := n1_
        clear n0_ n1_
        (try clear hb)
        (try clear hb2)
        (try clear hk)
        (try clear hi)
        refine hK.out _ _ ⟨(blk_cell BK415.out 0).trans rfl, (blk_cell BK415.out 1).trans rfl, (blk_cell BK415.out 2).trans rfl⟩ (fun hHeld => ?_)
        clear hK K
        refine norm_ (a' := ?_) ?_ ?_
        rotate_left
        ·show Act.put _ (some 18) _ = _
         simp only [Act.put, List.setIfInBounds_toArray, List.set_cons_zero, List.set_cons_succ, i64_w, i32_w]
         rfl
        refine pu_ 2 19 (M_ 3 14) ?_
        refine pu_ 3 20 (M_ 4 13) ?_
        refine pu_ 4 21 (M_ 5 12) ?_
        refine pu_ 5 22 (M_ 6 11) ?_
        refine pu_ 6 23 (M_ 7 10) ?_
        refine pn_ 7 24 (M_ 8 9) ?_
        refine pn_ 8 25 (M_ 9 8) ?_
        refine pn_ 9 26 (M_ 10 7) ?_
        refine pn_ 10 27 (M_ 11 6) ?_
        refine pn_ 11 28 (M_ 12 5) ?_
        refine pn_ 12 29 (M_ 13 4) ?_
        refine pn_ 13 30 (M_ 14 3) ?_
        refine pn_ 14 31 (M_ 15 2) ?_
        refine pu_ 15 32 (M_ 16 1) ?_
        refine pu_ 16 33 (M_ 17 0) ?_
        refine done_ (done_of HT_.out (by kernel_rfl)) ?_
        try go_wp2
        go_meet
        case rel => exact ⟨_, (false), (Z17), H', ⟨Z137⟩, ⟨Z2 BK415.out⟩, ⟨Z43⟩⟩
       replace c10 := Bool.eq_false_iff.mpr c10
       subst c10
       rw [if_neg (show ¬ (false = true) by decide)] at H
       have H' := Aside0.mk H
       clear H
       try go_wp2
       have n0_ : Aside0 ((((w7.setCell ⟨gb415, 0, none⟩ (.int .i64 ((rd_T64 l0 x12_1).f0))).setCell ⟨gb415, 1, none⟩ (.int .i64 ((rd_T64 l0 x12_1).f1))).setCell ⟨gb415, 2, none⟩ (.int .i64 ((rd_T64 l0 x12_1).f2))).heap[gb415]? = some (.cells #[.int .i64 ((rd_T64 l0 x12_1).f0), .int .i64 ((rd_T64 l0 x12_1).f1), .int .i64 ((rd_T64 l0 x12_1).f2)] 64 (0, 0))) := ⟨Z50 BK415.out⟩
       have n1_ : Aside0 (Below w.heap.size w (((w7.setCell ⟨gb415, 0, none⟩ (.int .i64 ((rd_T64 l0 x12_1).f0))).setCell ⟨gb415, 1, none⟩ (.int .i64 ((rd_T64 l0 x12_1).f1))).setCell ⟨gb415, 2, none⟩ (.int .i64 ((rd_T64 l0 x12_1).f2)))) := ⟨Z43⟩
       (try clear BK415)
       (try clear HB)
       generalize (((w7.setCell ⟨gb415, 0, none⟩ (.int .i64 ((rd_T64 l0 x12_1).f0))).setCell ⟨gb415, 1, none⟩ (.int .i64 ((rd_T64 l0 x12_1).f1))).setCell ⟨gb415, 2, none⟩ (.int .i64 ((rd_T64 l0 x12_1).f2))) = w23 at n0_ n1_ ⊢
       have BK415 := n0_
       have HB := n1_
       clear n0_ n1_
       refine k2_ (blk_drew BK415.out) (below_drew1 HB.out) ?_
       clear BK415 HB
       intro BK415 HB
       refine start_ (n := 17) (S := fun w' => w'.cell? ⟨gb415, 0, none⟩ = some (.int .i64 ((rd_T64 l0 x12_1).f0)) ∧ w'.cell? ⟨gb415, 1, none⟩ = some (.int .i64 ((rd_T64 l0 x12_1).f1)) ∧ w'.cell? ⟨gb415, 2, none⟩ = some (.int .i64 ((rd_T64 l0 x12_1).f2))) (ds := []) (M_ 0 17) (by kernel_rfl) rfl rfl ⟨(blk_cell BK415.out 0).trans rfl, (blk_cell BK415.out 1).trans rfl, (blk_cell BK415.out 2).trans rfl⟩ (fun hHeld => ?_); refine with_tabW impl_IsSheet.tab6 impl_IsSheet.bits6 (fun HT_ HW_ => ?_)
       generalize w23.drew = w24 at BK415 HB hHeld ⊢
       refine tk3_ 0 17 (M_ 1 16) hHeld ?_
       refine one_ (i := 1) (N := some 18) (M_ 2 15) rfl rfl (one_of HT_.out (by kernel_rfl)) (by decide) (fun K hK => ?_)
       refine goes_ Try.func39 (by kernel_rfl) rfl #[.agg #[.int .i64 ((rd_T64 l0 x12_1).f0), .int .i64 ((rd_T64 l0 x12_1).f1), .int .i64 ((rd_T64 l0 x12_1).f2)]] (by rfl) rfl rfl (Z84) ?_
       with_reducible refine (impl_IsHole.calls ((rd_T64 l0 x12_1).f0) ((rd_T64 l0 x12_1).f1) ((rd_T64 l0 x12_1).f2) false _ A9.out).mono ?_
       rintro e w25 ⟨rfl, hb⟩
       refine ⟨_, rfl, ?_⟩
       have n0_ := Aside0.mk (blk_below (g := gb415) (o := .cells #[.int .i64 ((rd_T64 l0 x12_1).f0), .int .i64 ((rd_T64 l0 x12_1).f1), .int .i64 ((rd_T64 l0 x12_1).f2)] 64 (0, 0)) (Z2 BK415.out) hb)
       have n1_ := Aside0.mk (below_step (Z43) hb)
       clear BK415
       clear HB
       have BK415 := n0_
       have HB := n1_
       clear n0_ n1_
       (try clear hb)
       (try clear hb2)
       (try clear hk)
       (try clear hi)
       refine hK.out _ _ ⟨(blk_cell BK415.out 0).trans rfl, (blk_cell BK415.out 1).trans rfl, (blk_cell BK415.out 2).trans rfl⟩ (fun hHeld => ?_)
       clear hK K
       refine norm_ (a' := ?_) ?_ ?_
       rotate_left
       ·show Act.put _ (some 18) _ = _
        simp only [Act.put, List.setIfInBounds_toArray, List.set_cons_zero, List.set_cons_succ, i64_w, i32_w]
        rfl
       refine pu_ 2 19 (M_ 3 14) ?_
       refine pu_ 3 20 (M_ 4 13) ?_
       refine pn_ 4 21 (M_ 5 12) ?_
       refine pn_ 5 22 (M_ 6 11) ?_
       refine pn_ 6 23 (M_ 7 10) ?_
       refine pn_ 7 24 (M_ 8 9) ?_
       refine pn_ 8 25 (M_ 9 8) ?_
       refine pn_ 9 26 (M_ 10 7) ?_
       refine pn_ 10 27 (M_ 11 6) ?_
       refine pn_ 11 28 (M_ 12 5) ?_
       refine pn_ 12 29 (M_ 13 4) ?_
       refine pn_ 13 30 (M_ 14 3) ?_
       refine pn_ 14 31 (M_ 15 2) ?_
       refine pn_ 15 32 (M_ 16 1) ?_
       refine pu_ 16 33 (M_ 17 0) ?_
       refine done_ (done_of HT_.out (by kernel_rfl)) ?_
       try go_wp2
       go_meet
       case rel => exact ⟨_, (true), (Z17), H', ⟨Z137⟩, ⟨Z2 BK415.out⟩, ⟨Z43⟩⟩
      case rest =>
       clear HC6
       (try clear c3); (try clear c3b0); (try clear c4); (try clear c4b0); (try clear p4); (try clear q4); (try clear hx4); (try clear c5); (try clear c5b0); (try clear p6); (try clear c10); (try clear c11); (try clear c11b0); (try clear c13); (try clear c13b0); (try clear c14); (try clear c14b0); (try clear c15); (try clear hcz8_0); (try clear hcz8_1); (try clear hcz8_2); (try clear hfz8_0); (try clear hfz8_1); (try clear hfz8_2); (try clear hx414_0); (try clear hx414_1); (try clear hx414_2); (try clear hx417_0); (try clear hx417_1); (try clear hx417_2); (try clear p414); (try clear p417); (try clear q414); (try clear q417)
       obtain ⟨kq, x33_5, rfl, HA, HJ5, BK415, HB⟩ := hcut
       cases kq with
       | zero => exact absurd HA.out (by simp [impl_IsSheet.j1])
       | succ kj5 =>
        have H := HA.out
        clear HA
        simp only [impl_IsSheet.j1] at H
        by_cases c26 : x33_5 = true
        ·subst c26
         rw [if_pos rfl] at H
         obtain rfl := Option.some.inj H
         go_wp2
         go_ret
         exact ⟨Z11, Z43⟩
        replace c26 := Bool.eq_false_iff.mpr c26
        subst c26
        rw [if_neg (show ¬ (false = true) by decide)] at H
        by_cases c27 : 0 ≤ x12_1
        ·rw [if_pos c27] at H
         have c27b0 := eq_true c27
         have c27b1 : decide (0 ≤ x12_1) = true := decide_eq_true c27
         clear c27
         by_cases c28 : x12_1 ≤ (l0.length : Int)
         ·rw [if_pos c28] at H
          have c28b0 := eq_true c28
          have c28b1 : decide (x12_1 ≤ (l0.length : Int)) = true := decide_eq_true c28
          clear c28
          obtain ⟨y419, hy419⟩ : ∃ y_ : List (S64), y_ = (l0.take (x12_1 : Int).toNat) := ⟨_, rfl⟩
          replace H : (impl_IsSheet.l1 kj5 l0 l0 (l0.length : Int) x12_1 y419 (y419.length : Int) 0 ((rd_T64 l0 x12_1).f0) ((rd_T64 l0 x12_1).f1) ((rd_T64 l0 x12_1).f2)) = some r := by first | (rw [hy419]; with_reducible exact H) | (have H2_ := (Option.bind_some _ _).symm.trans H; rw [hy419]; with_reducible exact H2_) | (have H2_ := (Option.bind_some _ _).symm.trans H; with_reducible exact H2_) | with_reducible exact H | (rw [hy419]; exact H) | exact H
          have Ny419 := Aside0.mk hy419
          clear hy419
          have H' := Aside0.mk H
          clear H
          have q29 : (x12_1 : Int) ≤ ((l0.length : Int) : Int) := of_decide_eq_true (Z18)
          obtain ⟨i029, hi029, _, hsz29, _⟩ := info_parts info64
          have hroom29 : l0.length ≤ c0 := HC0.out
          have hC29 : Kd.C k64 _ (some ad414) l0.length l0 := HR0.out
          have hcut29 := cut_to (P := Try.prog) 23 64 .i64 Try.underlying23 hi029 (some ad414) l0.length c0 x12_1 (of_decide_eq_true (Z18)) q29 hroom29
          have hr29 := Kd.C_take (m := (x12_1 : Int).toNat) hC29 (by omega)
          have hy29 : y419.length = (x12_1 : Int).toNat := (by rw [Ny419.out, List.length_take]; omega)
          rw [← Ny419.out] at hr29
          rw [← hy29] at hcut29
          have HR422 := Aside0.mk hr29
          have HC422 := Aside0.mk (show y419.length ≤ c0 from by omega)
          clear hr29 hC29 hroom29 hi029 hsz29
          have KY29 := Aside0.mk hy29
          clear hy29
          replace q29 := eq_true q29
          go_wp2
          go_loopg [38] kj5 (fun kq v38 w' => ∃ (x38_3 : Int), v38 = .int .i64 x38_3 ∧ Aside0 (impl_IsSheet.l1 kq l0 l0 (l0.length : Int) x12_1 y419 (y419.length : Int) x38_3 ((rd_T64 l0 x12_1).f0) ((rd_T64 l0 x12_1).f1) ((rd_T64 l0 x12_1).f2) = some r) ∧ Aside0 (kq ≤ kj5) ∧ Aside0 (w'.heap[gb415]? = some (.cells #[.int .i64 ((rd_T64 l0 x12_1).f0), .int .i64 ((rd_T64 l0 x12_1).f1), .int .i64 ((rd_T64 l0 x12_1).f2)] 64 (0, 0))) ∧ Aside0 (Below w.heap.size w w'))
          case atStart => exact ⟨(0), (Z17), H', ⟨Nat.le_refl _⟩, ⟨Z2 BK415.out⟩, ⟨Z43⟩⟩
          case round =>
           clear H'
           (try clear q2); (try clear c26); (try clear c27); (try clear c27b0); (try clear c27b1); (try clear c28); (try clear c28b0); (try clear c28b1); (try clear q29)
           obtain ⟨x38_3, rfl, HA, HK3, BK415, HB⟩ := hrel
           cases gk with
           | zero => exact absurd HA.out (by simp [impl_IsSheet.l1])
           | succ k3 =>
            have H := HA.out
            clear HA
            simp only [impl_IsSheet.l1] at H
            by_cases c30 : x38_3 < (y419.length : Int)
            ·rw [if_pos c30] at H
             have c30b0 : decide (x38_3 < (y419.length : Int)) = true := decide_eq_true c30
             clear c30
             by_cases c31 : 0 ≤ x38_3
             ·rw [if_pos c31] at H
              have c31b0 : decide (0 ≤ x38_3) = true := decide_eq_true c31
              clear c31
              by_cases c32 : x38_3 < (y419.length : Int)
              ·rw [if_pos c32] at H
               have c32b0 : decide (x38_3 < (y419.length : Int)) = true := decide_eq_true c32
               clear c32
               by_cases c33 : ((rd_T64 y419 x38_3).f0) = ((rd_T64 l0 x12_1).f0)
               ·rw [if_pos c33] at H
                have c33b0 : (((rd_T64 y419 x38_3).f0) == ((rd_T64 l0 x12_1).f0)) = true := beq_iff_eq.mpr c33
                have c33b1 : (((rd_T64 y419 x38_3).f0) != ((rd_T64 l0 x12_1).f0)) = false := bne_eq_false_iff_eq.mpr c33
                clear c33
                by_cases c34 : ((rd_T64 y419 x38_3).f2) ≥ ((rd_T64 l0 x12_1).f1)
                ·rw [if_pos c34] at H
                 have c34b0 : decide (((rd_T64 l0 x12_1).f1) ≤ ((rd_T64 y419 x38_3).f2)) = true := decide_eq_true c34
                 clear c34
                 obtain rfl := Option.some.inj H
                 have p423 : 0 ≤ (x38_3 : Int) := of_decide_eq_true (Z18)
                 have q423 : x38_3 < (y419.length : Int) := of_decide_eq_true (Z18)
                 obtain ⟨ad423, e423, hx423_0, hx423_1, hx423_2⟩ := at_T64 HR422.out x38_3 p423 q423
                 obtain rfl : ad414 = ad423 := (by injection e423)
                 replace hx423_0 := (HB.out.cell (World.block_lt_of_cell? w _ hx423_0)).trans hx423_0
                 replace hx423_1 := (HB.out.cell (World.block_lt_of_cell? w _ hx423_1)).trans hx423_1
                 replace hx423_2 := (HB.out.cell (World.block_lt_of_cell? w _ hx423_2)).trans hx423_2
                 replace p423 := eq_true p423
                 replace q423 := eq_true q423
                 go_wp2_with (first | ((with_reducible refine gate_dst (N := 6) rfl ?_); refine bv_ 6 64 #[.int .i64 0, .int .i64 0, .int .i64 0] ?_; intro gb424 hg w35 hbox hb; refine k7_ (blk_below (g := gb415) (o := .cells #[.int .i64 ((rd_T64 l0 x12_1).f0), .int .i64 ((rd_T64 l0 x12_1).f1), .int .i64 ((rd_T64 l0 x12_1).f2)] 64 (0, 0)) (Z2 BK415.out) hb) (below_step (Z43) hb) (hbox) ((Z190 : w.heap.size ≤ gb424)) ((Z190 : w.heap.size ≤ gb424)) ((Z151 : gb415 ≠ gb424)) ((Z152 : gb424 ≠ gb415)) ?_; clear BK415 HB; intro BK415 HB BK424 GW424 GE424 NB415_424 NB424_415; clear hb hbox hg; have hnb36 := NB424_415.out; have hnc36 := NB415_424.out; obtain ⟨hcz37_0, hcz37_1, hcz37_2, hfz37_0, hfz37_1, hfz37_2⟩ := bx3_ (w := w35) BK424.out; obtain ⟨hcz38_0, hcz38_1, hcz38_2, hfz38_0, hfz38_1, hfz38_2⟩ := bx3_ (w := w35) BK415.out))
                 go_ret
                 exact ⟨Z11, Z148⟩
                rw [if_neg c34] at H
                have c34b0 : decide (((rd_T64 l0 x12_1).f1) ≤ ((rd_T64 y419 x38_3).f2)) = false := decide_eq_false c34
                clear c34
                have H' := Aside0.mk H
                clear H
                have p423 : 0 ≤ (x38_3 : Int) := of_decide_eq_true (Z18)
                have q423 : x38_3 < (y419.length : Int) := of_decide_eq_true (Z18)
                obtain ⟨ad423, e423, hx423_0, hx423_1, hx423_2⟩ := at_T64 HR422.out x38_3 p423 q423
                obtain rfl : ad414 = ad423 := (by injection e423)
                replace hx423_0 := (HB.out.cell (World.block_lt_of_cell? w _ hx423_0)).trans hx423_0
                replace hx423_1 := (HB.out.cell (World.block_lt_of_cell? w _ hx423_1)).trans hx423_1
                replace hx423_2 := (HB.out.cell (World.block_lt_of_cell? w _ hx423_2)).trans hx423_2
                replace p423 := eq_true p423
                replace q423 := eq_true q423
                go_wp2_with (first | ((with_reducible refine gate_dst (N := 6) rfl ?_); refine bv_ 6 64 #[.int .i64 0, .int .i64 0, .int .i64 0] ?_; intro gb424 hg w39 hbox hb; refine k7_ (blk_below (g := gb415) (o := .cells #[.int .i64 ((rd_T64 l0 x12_1).f0), .int .i64 ((rd_T64 l0 x12_1).f1), .int .i64 ((rd_T64 l0 x12_1).f2)] 64 (0, 0)) (Z2 BK415.out) hb) (below_step (Z43) hb) (hbox) ((Z190 : w.heap.size ≤ gb424)) ((Z190 : w.heap.size ≤ gb424)) ((Z151 : gb415 ≠ gb424)) ((Z152 : gb424 ≠ gb415)) ?_; clear BK415 HB; intro BK415 HB BK424 GW424 GE424 NB415_424 NB424_415; clear hb hbox hg; have hnb40 := NB424_415.out; have hnc40 := NB415_424.out; obtain ⟨hcz41_0, hcz41_1, hcz41_2, hfz41_0, hfz41_1, hfz41_2⟩ := bx3_ (w := w39) BK424.out; obtain ⟨hcz42_0, hcz42_1, hcz42_2, hfz42_0, hfz42_1, hfz42_2⟩ := bx3_ (w := w39) BK415.out))
                go_roundg k3
                case measure => have := HK1.out; have := HJ5.out; have := HK3.out; omega
                case rel => exact ⟨(wrap64 (x38_3 + 1)), (Z17), H', ⟨Z222⟩, ⟨Z130⟩, ⟨Z148⟩⟩
               rw [if_neg c33] at H
               have c33b0 : (((rd_T64 y419 x38_3).f0) == ((rd_T64 l0 x12_1).f0)) = false := beq_eq_false_iff_ne.mpr c33
               have c33b1 : (((rd_T64 y419 x38_3).f0) != ((rd_T64 l0 x12_1).f0)) = true := bne_iff_ne.mpr c33
               have H' := Aside0.mk H
               clear H
               have p423 : 0 ≤ (x38_3 : Int) := of_decide_eq_true (Z18)
               have q423 : x38_3 < (y419.length : Int) := of_decide_eq_true (Z18)
               obtain ⟨ad423, e423, hx423_0, hx423_1, hx423_2⟩ := at_T64 HR422.out x38_3 p423 q423
               obtain rfl : ad414 = ad423 := (by injection e423)
               replace hx423_0 := (HB.out.cell (World.block_lt_of_cell? w _ hx423_0)).trans hx423_0
               replace hx423_1 := (HB.out.cell (World.block_lt_of_cell? w _ hx423_1)).trans hx423_1
               replace hx423_2 := (HB.out.cell (World.block_lt_of_cell? w _ hx423_2)).trans hx423_2
               replace p423 := eq_true p423
               replace q423 := eq_true q423
               go_wp2_with (first | ((with_reducible refine gate_dst (N := 6) rfl ?_); refine bv_ 6 64 #[.int .i64 0, .int .i64 0, .int .i64 0] ?_; intro gb424 hg w43 hbox hb; refine k7_ (blk_below (g := gb415) (o := .cells #[.int .i64 ((rd_T64 l0 x12_1).f0), .int .i64 ((rd_T64 l0 x12_1).f1), .int .i64 ((rd_T64 l0 x12_1).f2)] 64 (0, 0)) (Z2 BK415.out) hb) (below_step (Z43) hb) (hbox) ((Z190 : w.heap.size ≤ gb424)) ((Z190 : w.heap.size ≤ gb424)) ((Z151 : gb415 ≠ gb424)) ((Z152 : gb424 ≠ gb415)) ?_; clear BK415 HB; intro BK415 HB BK424 GW424 GE424 NB415_424 NB424_415; clear hb hbox hg; have hnb44 := NB424_415.out; have hnc44 := NB415_424.out; obtain ⟨hcz45_0, hcz45_1, hcz45_2, hfz45_0, hfz45_1, hfz45_2⟩ := bx3_ (w := w43) BK424.out; obtain ⟨hcz46_0, hcz46_1, hcz46_2, hfz46_0, hfz46_1, hfz46_2⟩ := bx3_ (w := w43) BK415.out))
               go_roundg k3
               case measure => have := HK1.out; have := HJ5.out; have := HK3.out; omega
               case rel => exact ⟨(wrap64 (x38_3 + 1)), (Z17), H', ⟨Z222⟩, ⟨Z130⟩, ⟨Z148⟩⟩
              rw [if_neg c32] at H
              exact absurd H (by simp)
             rw [if_neg c31] at H
             exact absurd H (by simp)
            rw [if_neg c30] at H
            have c30b0 : decide (x38_3 < (y419.length : Int)) = false := decide_eq_false c30
            clear c30
            have H' := Aside0.mk H
            clear H
            go_wp2
            go_roundg k3
            case measure => have := HK1.out; have := HJ5.out; have := HK3.out; omega
            case rel => exact ⟨(wrap64 (x12_1 + 1)), (Z17), H', ⟨Z222⟩, ⟨Z43⟩⟩
         rw [if_neg c28] at H
         exact absurd H (by simp)
        rw [if_neg c27] at H
        exact absurd H (by simp)
     rw [if_neg c5] at H
     exact absurd H (by simp)
    rw [if_neg c4] at H
    exact absurd H (by simp)
   rw [if_neg c3] at H
   have c3b0 : decide (x12_1 < (l0.length : Int)) = false := decide_eq_false c3
   clear c3
   obtain rfl := Option.some.inj H
   go_wp2
   go_ret
   exact ⟨Z11, Z3⟩

end Go.Proofs.Ytflefblmaopaiaa.PFnStops
