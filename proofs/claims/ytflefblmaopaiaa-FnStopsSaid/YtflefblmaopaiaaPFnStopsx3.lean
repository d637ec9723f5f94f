-- written by a program of this session: the kit's print, with outer functions of the session's own (wip/ext)
import Derived.Test.YtflefblmaopaiaaPFnStopsx0
import Derived.Test.YtflefblmaopaiaaPFnStopsx2
namespace Go.Proofs.Ytflefblmaopaiaa.PFnStops
open Go.RowKit Go.Proofs.YtflefblmaopaiaaW.PrintWords Go.Proofs.YtflefblmaopaiaaW.PrintLast Go.Proofs.YtflefblmaopaiaaW.PrintMore
attribute [local go_sem] max2_int min2_int max_two min_two max_three min_three max_four min_four   -- for this text's walks alone
set_option linter.unusedVariables false
set_option linter.unusedSimpArgs false
theorem mo3_ {p : Prop} (h : p := by repeat' first | (with_reducible first | apply ih0 | apply ih0 | apply ih1 | apply ih1 | apply ih2 | apply ih2 | exact LeO.refl _ | exact LeO.none _ | refine LeO.ite ?_ ?_ | refine LeO.bind ?_ (fun _ => ?_)) | exact LeO.none _ | refine LeO.ite ?_ ?_ | refine LeO.bind ?_ (fun _ => ?_)) : p := h

/-! ### spec_shGood: function 38 -/
mutual
def spec_shGood.l0 : Nat → List (S64) → List (S64) → Int → Int → Option (Bool)
 | 0, _, _, _, _ => none
 | k + 1, x0, x7, x8, x9 => if x9 < x8 then (if 0 ≤ x9 then (if x9 < (x7.length : Int) then ((spec_shHole.f ((rd_T64 x7 x9).f0) ((rd_T64 x7 x9).f1) ((rd_T64 x7 x9).f2)).bind fun t123 => (if t123 = true then (if x9 > 0 then (if 0 ≤ (wrap64 (x9 - 1)) then (if (wrap64 (x9 - 1)) < (x0.length : Int) then ((spec_shBefore.f ((rd_T64 x0 (wrap64 (x9 - 1))).f0) ((rd_T64 x0 (wrap64 (x9 - 1))).f1) ((rd_T64 x0 (wrap64 (x9 - 1))).f2) ((rd_T64 x7 x9).f0) ((rd_T64 x7 x9).f1) ((rd_T64 x7 x9).f2)).bind fun t125 => (spec_shGood.j1 k x0 x9 x7 x8 x9 (!t125) ((rd_T64 x7 x9).f0) ((rd_T64 x7 x9).f1) ((rd_T64 x7 x9).f2))) else (none)) else (none)) else (spec_shGood.j1 k x0 x9 x7 x8 x9 false ((rd_T64 x7 x9).f0) ((rd_T64 x7 x9).f1) ((rd_T64 x7 x9).f2))) else (spec_shGood.j1 k x0 x9 x7 x8 x9 true ((rd_T64 x7 x9).f0) ((rd_T64 x7 x9).f1) ((rd_T64 x7 x9).f2)))) else (none)) else (none)) else (some (decide ((x0.length : Int) ≤ 60)))
def spec_shGood.j1 : Nat → List (S64) → Int → List (S64) → Int → Int → Bool → Int → Int → Int → Option (Bool)
 | 0, _, _, _, _, _, _, _, _, _ => none
 | k + 1, x0, x3, x7, x8, x9, x30, x123000, x123001, x123002 => if x30 = true then (some false) else (if 0 ≤ x3 then (if x3 ≤ (x0.length : Int) then ((some (x0.take (x3 : Int).toNat : List (S64))).bind fun y126 => (spec_shGood.l1 k x0 x7 x8 x9 y126 (y126.length : Int) 0 x123000 x123001 x123002)) else (none)) else (none))
def spec_shGood.l1 : Nat → List (S64) → List (S64) → Int → Int → List (S64) → Int → Int → Int → Int → Int → Option (Bool)
 | 0, _, _, _, _, _, _, _, _, _, _ => none
 | k + 1, x0, x7, x8, x9, x33, x34, x35, x123000, x123001, x123002 => if x35 < x34 then (if 0 ≤ x35 then (if x35 < (x33.length : Int) then (if x123000 = ((rd_T64 x33 x35).f0) then (if ((rd_T64 x33 x35).f2) ≥ x123001 then (some false) else (spec_shGood.l1 k x0 x7 x8 x9 x33 x34 (wrap64 (x35 + 1)) x123000 x123001 x123002)) else (spec_shGood.l1 k x0 x7 x8 x9 x33 x34 (wrap64 (x35 + 1)) x123000 x123001 x123002)) else (none)) else (none)) else (spec_shGood.l0 k x0 x7 x8 (wrap64 (x9 + 1)))
end
def spec_shGood.f (k : Nat) (l0 : List (S64)) : Option (Bool) := spec_shGood.l0 k l0 l0 (l0.length : Int) 0
theorem spec_shGood.mono_l : ∀ k, (∀ y0 y1 y2 y3, LeO (spec_shGood.l0 k y0 y1 y2 y3) (spec_shGood.l0 (k + 1) y0 y1 y2 y3)) ∧ (∀ y0 y1 y2 y3 y4 y5 y6 y7 y8, LeO (spec_shGood.j1 k y0 y1 y2 y3 y4 y5 y6 y7 y8) (spec_shGood.j1 (k + 1) y0 y1 y2 y3 y4 y5 y6 y7 y8)) ∧ (∀ y0 y1 y2 y3 y4 y5 y6 y7 y8 y9, LeO (spec_shGood.l1 k y0 y1 y2 y3 y4 y5 y6 y7 y8 y9) (spec_shGood.l1 (k + 1) y0 y1 y2 y3 y4 y5 y6 y7 y8 y9))
 | 0 => ⟨fun _ _ _ _ r h => by simp [spec_shGood.l0] at h, fun _ _ _ _ _ _ _ _ _ r h => by simp [spec_shGood.j1] at h, fun _ _ _ _ _ _ _ _ _ _ r h => by simp [spec_shGood.l1] at h⟩
 | k + 1 => by
  obtain ⟨ih0, ih1, ih2⟩ := spec_shGood.mono_l k
  refine ⟨?_, ?_, ?_⟩
  ·intro y0 y1 y2 y3
   unfold spec_shGood.l0
   exact mo3_
  ·intro y0 y1 y2 y3 y4 y5 y6 y7 y8
   unfold spec_shGood.j1
   exact mo3_
  intro y0 y1 y2 y3 y4 y5 y6 y7 y8 y9
  unfold spec_shGood.l1
  exact mo3_
theorem spec_shGood.mono : ∀ a0 k, LeO (spec_shGood.f k a0) (spec_shGood.f (k + 1) a0) := by
 intro a0 k
 obtain ⟨ih0, ih1, ih2⟩ := spec_shGood.mono_l k
 unfold spec_shGood.f
 exact mo3_
def spec_shGood.T4 : Bool × List (List Nat × List Nat) := (true, [([], []), ([0], [0]), ([1], [1]), ([2, 1], [2]), ([3], [3]), ([4, 3], [3, 4]), ([5, 3, 3], [3, 5]), ([6], [6]), ([6], [6]), ([8, 6], [6, 8]), ([7, 9, 6], [6, 7, 9]), ([10, 6], [6, 10]), ([6], [6]), ([11, 12, 6, 6], [6, 11, 12]), ([13, 6], [6, 13]), ([6, 14, 3], [3, 6, 14]), ([3, 15], [3, 15])])
def spec_shGood.B4 : List Nat := [0, 1, 3, 7, 15, 31, 63, 127, 127, 383, 1023, 2047, 127, 8191, 16383, 32767, 65535]
theorem spec_shGood.tab4 : rtab .any (opsOf Try.f38 4) = spec_shGood.T4 := by kernel_rfl
theorem spec_shGood.bits4 : waitsOk spec_shGood.T4.2 spec_shGood.B4 = true := by kernel_rfl
set_option maxHeartbeats 8000000 in
set_option maxRecDepth 100000 in
theorem spec_shGood.calls (k : Nat) (A0 : Option Addr) (c0 : Nat) (l0 : List (S64)) (r : Bool) (w : World) (hr0 : Kd.C k64 w A0 l0.length l0) (hc0 : l0.length ≤ c0) (h : spec_shGood.f k l0 = some r) :
  Calls Try.prog 38 #[.slice A0 l0.length c0] w fun e w' => e = .returned (.bool r) ∧ Below w.heap.size w w' := by
 have hu64 := Try.underlying64
 have HR0 := Aside0.mk hr0
 have HC0 := Aside0.mk hc0
 clear hr0 hc0
 have HB := Aside0.mk (Below.refl w.heap.size w)
 have H : (spec_shGood.l0 k l0 l0 (l0.length : Int) 0) = some r := h
 clear h
 have H' := Aside0.mk H
 clear H
 go_enter Try.func38, Try.ntmps38
 go_wp2
 go_loopg [9] k (fun kq v9 w' => ∃ (x9_1 : Int), v9 = .int .i64 x9_1 ∧ Aside0 (spec_shGood.l0 kq l0 l0 (l0.length : Int) x9_1 = some r) ∧ Aside0 (kq ≤ k) ∧ Aside0 (Below w.heap.size w w'))
 case atStart => exact ⟨(0), (Z17), H', ⟨Nat.le_refl _⟩, ⟨Z3⟩⟩
 case round =>
  clear H'
  obtain ⟨x9_1, rfl, HA, HK1, HB⟩ := hrel
  cases gk with
  | zero => exact absurd HA.out (by simp [spec_shGood.l0])
  | succ k1 =>
   have H := HA.out
   clear HA
   simp only [spec_shGood.l0] at H
   by_cases c2 : x9_1 < (l0.length : Int)
   ·rw [if_pos c2] at H
    have c2b0 : decide (x9_1 < (l0.length : Int)) = true := decide_eq_true c2
    clear c2
    by_cases c3 : 0 ≤ x9_1
    ·rw [if_pos c3] at H
     have c3b0 : decide (0 ≤ x9_1) = true := decide_eq_true c3
     clear c3
     by_cases c4 : x9_1 < (l0.length : Int)
     ·rw [if_pos c4] at H
      have c4b0 : decide (x9_1 < (l0.length : Int)) = true := decide_eq_true c4
      clear c4
      have HC5 := Aside0.mk H
      clear H
      have p121 : 0 ≤ (x9_1 : Int) := of_decide_eq_true (Z18)
      have q121 : x9_1 < (l0.length : Int) := of_decide_eq_true (Z18)
      obtain ⟨ad121, e121, hx121_0, hx121_1, hx121_2⟩ := at_T64 HR0.out x9_1 p121 q121
      cases e121
      replace hx121_0 := (HB.out.cell (World.block_lt_of_cell? w _ hx121_0)).trans hx121_0
      replace hx121_1 := (HB.out.cell (World.block_lt_of_cell? w _ hx121_1)).trans hx121_1
      replace hx121_2 := (HB.out.cell (World.block_lt_of_cell? w _ hx121_2)).trans hx121_2
      replace p121 := eq_true p121
      replace q121 := eq_true q121
      go_upto_region 4 with (first | ((with_reducible refine gate_dst (N := 4) rfl ?_); refine bv_ 4 64 #[.int .i64 0, .int .i64 0, .int .i64 0] ?_; intro gb122 hg w6 hbox hb; refine k4_ (below_step (Z3) hb) (hbox) ((Z26 : w.heap.size ≤ gb122)) ((Z26 : w.heap.size ≤ gb122)) ?_; clear HB; intro HB BK122 GW122 GE122; clear hb hbox hg; obtain ⟨hcz7_0, hcz7_1, hcz7_2, hfz7_0, hfz7_1, hfz7_2⟩ := bx3_ (w := w6) BK122.out))
      (try simp only [Act.put, List.setIfInBounds_toArray, List.set_cons_zero, List.set_cons_succ])
      go_cut [30] (fun v30 wc => ∃ (kq : Nat) (x30_4 : Bool), v30 = .bool x30_4 ∧ Aside0 (spec_shGood.j1 kq l0 x9_1 l0 (l0.length : Int) x9_1 x30_4 ((rd_T64 l0 x9_1).f0) ((rd_T64 l0 x9_1).f1) ((rd_T64 l0 x9_1).f2) = some r) ∧ Aside0 (kq ≤ k1) ∧ Aside0 (wc.heap[gb122]? = some (.cells #[.int .i64 ((rd_T64 l0 x9_1).f0), .int .i64 ((rd_T64 l0 x9_1).f1), .int .i64 ((rd_T64 l0 x9_1).f2)] 64 (0, 0))) ∧ Aside0 (Below w.heap.size w wc))
      case first =>
       have H := HC5.out
       clear HC5
       replace H := Option.bind_eq_some_iff.mp H
       obtain ⟨t123, A80, H⟩ := H
       (try dsimp only at H)
       have A8 := Aside0.mk A80
       clear A80
       by_cases c9 : t123 = true
       ·subst c9
        rw [if_pos rfl] at H
        by_cases c10 : x9_1 > 0
        ·rw [if_pos c10] at H
         have c10b0 : decide (0 < x9_1) = true := decide_eq_true c10
         clear c10
         (first | rw [c10b0] | (simp only [i64_w, i32_w]; rw [c10b0]) | skip)
         obtain ⟨ji11, hji11⟩ : ∃ j_ : Int, (wrap64 (x9_1 - 1)) = j_ := ⟨_, rfl⟩
         replace H : (if 0 ≤ (ji11) then (if (ji11) < (l0.length : Int) then ((spec_shBefore.f ((rd_T64 l0 (ji11)).f0) ((rd_T64 l0 (ji11)).f1) ((rd_T64 l0 (ji11)).f2) ((rd_T64 l0 x9_1).f0) ((rd_T64 l0 x9_1).f1) ((rd_T64 l0 x9_1).f2)).bind fun t125 => (spec_shGood.j1 k1 l0 x9_1 l0 (l0.length : Int) x9_1 (!t125) ((rd_T64 l0 x9_1).f0) ((rd_T64 l0 x9_1).f1) ((rd_T64 l0 x9_1).f2))) else (none)) else (none)) = some r := by first | (rw [hji11] at H; exact H) | (simp only [hji11] at H ⊢; exact H)
         (try rw [hji11] at A8)
         have hji11w : (IntKind.i64.wrap (x9_1 - 1)) = ji11 := (i64_w _).trans hji11
         by_cases c12 : 0 ≤ (ji11)
         ·rw [if_pos c12] at H
          have c12b0 : decide (0 ≤ (ji11)) = true := decide_eq_true c12
          clear c12
          by_cases c13 : (ji11) < (l0.length : Int)
          ·rw [if_pos c13] at H
           have c13b0 : decide ((ji11) < (l0.length : Int)) = true := decide_eq_true c13
           clear c13
           replace H := Option.bind_eq_some_iff.mp H
           obtain ⟨t125, A140, H⟩ := H
           (try dsimp only at H)
           have A14 := Aside0.mk A140
           clear A140
           have H' := Aside0.mk H
           clear H
           try go_wp2
           have n0_ : Aside0 ((((w6.setCell ⟨gb122, 0, none⟩ (.int .i64 ((rd_T64 l0 x9_1).f0))).setCell ⟨gb122, 1, none⟩ (.int .i64 ((rd_T64 l0 x9_1).f1))).setCell ⟨gb122, 2, none⟩ (.int .i64 ((rd_T64 l0 x9_1).f2))).heap[gb122]? = some (.cells #[.int .i64 ((rd_T64 l0 x9_1).f0), .int .i64 ((rd_T64 l0 x9_1).f1), .int .i64 ((rd_T64 l0 x9_1).f2)] 64 (0, 0))) := ⟨Z92⟩
           have n1_ : Aside0 (Below w.heap.size w (((w6.setCell ⟨gb122, 0, none⟩ (.int .i64 ((rd_T64 l0 x9_1).f0))).setCell ⟨gb122, 1, none⟩ (.int .i64 ((rd_T64 l0 x9_1).f1))).setCell ⟨gb122, 2, none⟩ (.int .i64 ((rd_T64 l0 x9_1).f2)))) := ⟨Z42⟩
           (try clear BK122)
           (try clear HB)
           generalize (((w6.setCell ⟨gb122, 0, none⟩ (.int .i64 ((rd_T64 l0 x9_1).f0))).setCell ⟨gb122, 1, none⟩ (.int .i64 ((rd_T64 l0 x9_1).f1))).setCell ⟨gb122, 2, none⟩ (.int .i64 ((rd_T64 l0 x9_1).f2))) = w15 at n0_ n1_ ⊢
           have BK122 := n0_
           have HB := n1_
           clear n0_ n1_
           refine k2_ (blk_drew BK122.out) (below_drew1 HB.out) ?_
           clear BK122 HB
           intro BK122 HB
           have p124 : 0 ≤ ((ji11) : Int) := of_decide_eq_true (Z18)
           have q124 : (ji11) < (l0.length : Int) := of_decide_eq_true (Z18)
           obtain ⟨ad124, e124, hx124_0, hx124_1, hx124_2⟩ := at_T64 HR0.out (ji11) p124 q124
           have hw124_2 := hx124_2
           have hw124_1 := hx124_1
           have hw124_0 := hx124_0
           obtain rfl : ad121 = ad124 := (by injection e124)
           replace hx124_0 := (HB.out.cell (World.block_lt_of_cell? w _ hx124_0)).trans hx124_0
           replace hx124_1 := (HB.out.cell (World.block_lt_of_cell? w _ hx124_1)).trans hx124_1
           replace hx124_2 := (HB.out.cell (World.block_lt_of_cell? w _ hx124_2)).trans hx124_2
           replace p124 := eq_true p124
           replace q124 := eq_true q124
           refine start_ (n := 17) (S := fun w' => w'.cell? ⟨gb122, 0, none⟩ = some (.int .i64 ((rd_T64 l0 x9_1).f0)) ∧ w'.cell? ⟨gb122, 1, none⟩ = some (.int .i64 ((rd_T64 l0 x9_1).f1)) ∧ w'.cell? ⟨gb122, 2, none⟩ = some (.int .i64 ((rd_T64 l0 x9_1).f2)) ∧ w'.cell? (ad121.add (((ji11)).toNat * 3)) = some (.int .i64 ((rd_T64 l0 (ji11)).f0)) ∧ w'.cell? ⟨(ad121.add (((ji11)).toNat * 3)).block, (ad121.add (((ji11)).toNat * 3)).off + 1, none⟩ = some (.int .i64 ((rd_T64 l0 (ji11)).f1)) ∧ w'.cell? ⟨(ad121.add (((ji11)).toNat * 3)).block, (ad121.add (((ji11)).toNat * 3)).off + 2, none⟩ = some (.int .i64 ((rd_T64 l0 (ji11)).f2))) (ds := []) (M_ 0 17) (by kernel_rfl) rfl rfl ⟨(blk_cell BK122.out 0).trans rfl, (blk_cell BK122.out 1).trans rfl, (blk_cell BK122.out 2).trans rfl, ((HB.out.cell (World.block_lt_of_cell? w _ hw124_0)).trans hw124_0), ((HB.out.cell (World.block_lt_of_cell? w _ hw124_1)).trans hw124_1), ((HB.out.cell (World.block_lt_of_cell? w _ hw124_2)).trans hw124_2)⟩ (fun hHeld => ?_); refine with_tabW spec_shGood.tab4 spec_shGood.bits4 (fun HT_ HW_ => ?_)
           generalize w15.drew = w16 at BK122 HB hx124_0 hx124_1 hx124_2 hHeld ⊢
           refine tk6_ 0 14 (M_ 1 16) hHeld ?_
           refine one_ (i := 1) (N := some 15) (M_ 2 15) rfl rfl (one_of HT_.out (by kernel_rfl)) (by decide) (fun K hK => ?_)
           refine goes_ Try.func48 (by kernel_rfl) rfl #[.agg #[.int .i64 ((rd_T64 l0 x9_1).f0), .int .i64 ((rd_T64 l0 x9_1).f1), .int .i64 ((rd_T64 l0 x9_1).f2)]] (by rfl) rfl rfl (Z84) ?_
           with_reducible refine (spec_shHole.calls ((rd_T64 l0 x9_1).f0) ((rd_T64 l0 x9_1).f1) ((rd_T64 l0 x9_1).f2) true _ A8.out).mono ?_
           rintro e w17 ⟨rfl, hb⟩
           refine ⟨_, rfl, ?_⟩
           have n0_ := Aside0.mk (blk_below (g := gb122) (o := .cells #[.int .i64 ((rd_T64 l0 x9_1).f0), .int .i64 ((rd_T64 l0 x9_1).f1), .int .i64 ((rd_T64 l0 x9_1).f2)] 64 (0, 0)) (Z2 BK122.out) hb)
           have n1_ := Aside0.mk (below_step (Z42) hb)
           clear BK122
           clear HB
           have BK122 := n0_
           have HB := n1_
           clear n0_ n1_
           (try clear hb)
           (try clear hb2)
           (try clear hk)
           (try clear hi)
           refine hK.out _ _ ⟨(blk_cell BK122.out 0).trans rfl, (blk_cell BK122.out 1).trans rfl, (blk_cell BK122.out 2).trans rfl, ((HB.out.cell (World.block_lt_of_cell? w _ hw124_0)).trans hw124_0), ((HB.out.cell (World.block_lt_of_cell? w _ hw124_1)).trans hw124_1), ((HB.out.cell (World.block_lt_of_cell? w _ hw124_2)).trans hw124_2)⟩ (fun hHeld => ?_)
           clear hK K
           refine norm_ (a' := ?_) ?_ ?_
           rotate_left
           ·show Act.put _ (some 15) _ = _
            simp only [Act.put, List.setIfInBounds_toArray, List.set_cons_zero, List.set_cons_succ, i64_w, i32_w]
            rfl
           refine pu_ 2 16 (M_ 3 14) ?_
           refine pu_ 3 17 (M_ 4 13) ?_
           refine pu_ 4 18 (M_ 5 12) ?_
           refine pu_ 5 19 (M_ 6 11) ?_
           refine pu_ 6 20 (M_ 7 10) ?_
           refine pu_ 7 21 (M_ 8 9) ?_
           refine pu_ 8 22 (M_ 9 8) ?_
           refine pu_ 9 23 (M_ 10 7) ?_
           refine pu_ 10 24 (M_ 11 6) ?_
           refine tk6_ 11 25 (M_ 12 5) hHeld ?_
           refine tk6_ 12 26 (M_ 13 4) hHeld ?_
           refine one_ (i := 13) (N := some 27) (M_ 14 3) rfl rfl (one_of HT_.out (by kernel_rfl)) (by decide) (fun K hK => ?_)
           refine goes_ Try.func49 (by kernel_rfl) rfl #[.agg #[.int .i64 ((rd_T64 l0 (ji11)).f0), .int .i64 ((rd_T64 l0 (ji11)).f1), .int .i64 ((rd_T64 l0 (ji11)).f2)], .agg #[.int .i64 ((rd_T64 l0 x9_1).f0), .int .i64 ((rd_T64 l0 x9_1).f1), .int .i64 ((rd_T64 l0 x9_1).f2)]] (by rfl) rfl rfl (by (try simp only [List.map_toArray, List.map_cons, List.map_nil]); first | done | (simp only [hji11]; rfl) | rfl | (simp only [List.length_drop, List.length_take]; rfl)) ?_
           with_reducible refine (spec_shBefore.calls ((rd_T64 l0 (ji11)).f0) ((rd_T64 l0 (ji11)).f1) ((rd_T64 l0 (ji11)).f2) ((rd_T64 l0 x9_1).f0) ((rd_T64 l0 x9_1).f1) ((rd_T64 l0 x9_1).f2) t125 _ A14.out).mono ?_
           rintro e w18 ⟨rfl, hb⟩
           refine ⟨_, rfl, ?_⟩
           have n0_ := Aside0.mk (blk_below (g := gb122) (o := .cells #[.int .i64 ((rd_T64 l0 x9_1).f0), .int .i64 ((rd_T64 l0 x9_1).f1), .int .i64 ((rd_T64 l0 x9_1).f2)] 64 (0, 0)) (Z2 BK122.out) hb)
           have n1_ := Aside0.mk (below_step (Z42) hb)
           clear BK122
           clear HB
           have BK122 := n0_
           have HB := n1_
           clear n0_ n1_
           refine hK.out _ _ ⟨(blk_cell BK122.out 0).trans rfl, (blk_cell BK122.out 1).trans rfl, (blk_cell BK122.out 2).trans rfl, ((HB.out.cell (World.block_lt_of_cell? w _ hw124_0)).trans hw124_0), ((HB.out.cell (World.block_lt_of_cell? w _ hw124_1)).trans hw124_1), ((HB.out.cell (World.block_lt_of_cell? w _ hw124_2)).trans hw124_2)⟩ (fun hHeld => ?_)
           clear hK K
           refine norm_ (a' := ?_) ?_ ?_
           rotate_left
           ·show Act.put _ (some 27) _ = _
            simp only [Act.put, List.setIfInBounds_toArray, List.set_cons_zero, List.set_cons_succ, i64_w, i32_w]
            rfl
           refine pu_ 14 28 (M_ 15 2) ?_
           refine pu_ 15 29 (M_ 16 1) ?_
           refine pu_ 16 30 (M_ 17 0) ?_
           refine done_ (done_of HT_.out (by kernel_rfl)) ?_
           try go_wp2
           go_meet
           case rel => exact ⟨_, (!t125), (Z17), H', ⟨Z137⟩, ⟨Z2 BK122.out⟩, ⟨Z42⟩⟩
          rw [if_neg c13] at H
          exact absurd H (by simp)
         rw [if_neg c12] at H
         exact absurd H (by simp)
        rw [if_neg c10] at H
        have c10b0 : decide (0 < x9_1) = false := decide_eq_false c10
        clear c10
        (first | rw [c10b0] | (simp only [i64_w, i32_w]; rw [c10b0]) | skip)
        have H' := Aside0.mk H
        clear H
        try go_wp2
        have n0_ : Aside0 ((((w6.setCell ⟨gb122, 0, none⟩ (.int .i64 ((rd_T64 l0 x9_1).f0))).setCell ⟨gb122, 1, none⟩ (.int .i64 ((rd_T64 l0 x9_1).f1))).setCell ⟨gb122, 2, none⟩ (.int .i64 ((rd_T64 l0 x9_1).f2))).heap[gb122]? = some (.cells #[.int .i64 ((rd_T64 l0 x9_1).f0), .int .i64 ((rd_T64 l0 x9_1).f1), .int .i64 ((rd_T64 l0 x9_1).f2)] 64 (0, 0))) := ⟨Z92⟩
        have n1_ : Aside0 (Below w.heap.size w (((w6.setCell ⟨gb122, 0, none⟩ (.int .i64 ((rd_T64 l0 x9_1).f0))).setCell ⟨gb122, 1, none⟩ (.int .i64 ((rd_T64 l0 x9_1).f1))).setCell ⟨gb122, 2, none⟩ (.int .i64 ((rd_T64 l0 x9_1).f2)))) := ⟨Z42⟩
        (try clear BK122)
        (try clear HB)
        generalize (((w6.setCell ⟨gb122, 0, none⟩ (.int .i64 ((rd_T64 l0 x9_1).f0))).setCell ⟨gb122, 1, none⟩ (.int .i64 ((rd_T64 l0 x9_1).f1))).setCell ⟨gb122, 2, none⟩ (.int .i64 ((rd_T64 l0 x9_1).f2))) = w19 at n0_ n1_ ⊢
        have BK122 := n0_
        have HB := n1_
        clear n0_ n1_
        refine k2_ (blk_drew BK122.out) (below_drew1 HB.out) ?_
        clear BK122 HB
        intro BK122 HB
        refine start_ (n := 17) (S := fun w' => w'.cell? ⟨gb122, 0, none⟩ = some (.int .i64 ((rd_T64 l0 x9_1).f0)) ∧ w'.cell? ⟨gb122, 1, none⟩ = some (.int .i64 ((rd_T64 l0 x9_1).f1)) ∧ w'.cell? ⟨gb122, 2, none⟩ = some (.int .i64 ((rd_T64 l0 x9_1).f2))) (ds := []) (M_ 0 17) (by kernel_rfl) rfl rfl ⟨(blk_cell BK122.out 0).trans rfl, (blk_cell BK122.out 1).trans rfl, (blk_cell BK122.out 2).trans rfl⟩ (fun hHeld => ?_); refine with_tabW spec_shGood.tab4 spec_shGood.bits4 (fun HT_ HW_ => ?_)
        generalize w19.drew = w20 at BK122 HB hHeld ⊢
        refine tk3_ 0 14 (M_ 1 16) hHeld ?_
        refine one_ (i := 1) (N := some 15) (M_ 2 15) rfl rfl (one_of HT_.out (by kernel_rfl)) (by decide) (fun K hK => ?_)
        refine goes_ Try.func48 (by kernel_rfl) rfl #[.agg #[.int .i64 ((rd_T64 l0 x9_1).f0), .int .i64 ((rd_T64 l0 x9_1).f1), .int .i64 ((rd_T64 l0 x9_1).f2)]] (by rfl) rfl rfl (Z84) ?_
        with_reducible refine (spec_shHole.calls ((rd_T64 l0 x9_1).f0) ((rd_T64 l0 x9_1).f1) ((rd_T64 l0 x9_1).f2) true _ A8.out).mono ?_
        rintro e w21 ⟨rfl, hb⟩
        refine ⟨_, rfl, ?_⟩
        have n0_ := Aside0.mk (blk_below (g := gb122) (o := .cells #[.int .i64 ((rd_T64 l0 x9_1).f0), .int .i64 ((rd_T64 l0 x9_1).f1), .int .i64 ((rd_T64 l0 x9_1).f2)] 64 (0, 0)) (Z2 BK122.out) hb)
        have n1_ := Aside0.mk (below_step (Z42) hb)
        clear BK122
        clear HB
        have BK122 := n0_
        have HB := n1_
        clear n0_ n1_
        (try clear hb)
        (try clear hb2)
        (try clear hk)
        (try clear hi)
        refine hK.out _ _ ⟨(blk_cell BK122.out 0).trans rfl, (blk_cell BK122.out 1).trans rfl, (blk_cell BK122.out 2).trans rfl⟩ (fun hHeld => ?_)
        clear hK K
        refine norm_ (a' := ?_) ?_ ?_
        rotate_left
        ·show Act.put _ (some 15) _ = _
         simp only [Act.put, List.setIfInBounds_toArray, List.set_cons_zero, List.set_cons_succ, i64_w, i32_w]
         rfl
        refine pu_ 2 16 (M_ 3 14) ?_
        refine pu_ 3 17 (M_ 4 13) ?_
        refine pu_ 4 18 (M_ 5 12) ?_
        refine pu_ 5 19 (M_ 6 11) ?_
        refine pu_ 6 20 (M_ 7 10) ?_
        refine pn_ 7 21 (M_ 8 9) ?_
        refine pn_ 8 22 (M_ 9 8) ?_
        refine pn_ 9 23 (M_ 10 7) ?_
        refine pn_ 10 24 (M_ 11 6) ?_
        refine pn_ 11 25 (M_ 12 5) ?_
        refine pn_ 12 26 (M_ 13 4) ?_
        refine pn_ 13 27 (M_ 14 3) ?_
        refine pn_ 14 28 (M_ 15 2) ?_
        refine pu_ 15 29 (M_ 16 1) ?_
        refine pu_ 16 30 (M_ 17 0) ?_
        refine done_ (done_of HT_.out (by kernel_rfl)) ?_
        try go_wp2
        go_meet
        case rel => exact ⟨_, (false), (Z17), H', ⟨Z137⟩, ⟨Z2 BK122.out⟩, ⟨Z42⟩⟩
       replace c9 := Bool.eq_false_iff.mpr c9
       subst c9
       rw [if_neg (show ¬ (false = true) by decide)] at H
       have H' := Aside0.mk H
       clear H
       try go_wp2
       have n0_ : Aside0 ((((w6.setCell ⟨gb122, 0, none⟩ (.int .i64 ((rd_T64 l0 x9_1).f0))).setCell ⟨gb122, 1, none⟩ (.int .i64 ((rd_T64 l0 x9_1).f1))).setCell ⟨gb122, 2, none⟩ (.int .i64 ((rd_T64 l0 x9_1).f2))).heap[gb122]? = some (.cells #[.int .i64 ((rd_T64 l0 x9_1).f0), .int .i64 ((rd_T64 l0 x9_1).f1), .int .i64 ((rd_T64 l0 x9_1).f2)] 64 (0, 0))) := ⟨Z92⟩
       have n1_ : Aside0 (Below w.heap.size w (((w6.setCell ⟨gb122, 0, none⟩ (.int .i64 ((rd_T64 l0 x9_1).f0))).setCell ⟨gb122, 1, none⟩ (.int .i64 ((rd_T64 l0 x9_1).f1))).setCell ⟨gb122, 2, none⟩ (.int .i64 ((rd_T64 l0 x9_1).f2)))) := ⟨Z42⟩
       (try clear BK122)
       (try clear HB)
       generalize (((w6.setCell ⟨gb122, 0, none⟩ (.int .i64 ((rd_T64 l0 x9_1).f0))).setCell ⟨gb122, 1, none⟩ (.int .i64 ((rd_T64 l0 x9_1).f1))).setCell ⟨gb122, 2, none⟩ (.int .i64 ((rd_T64 l0 x9_1).f2))) = w22 at n0_ n1_ ⊢
       have BK122 := n0_
       have HB := n1_
       clear n0_ n1_
       refine k2_ (blk_drew BK122.out) (below_drew1 HB.out) ?_
       clear BK122 HB
       intro BK122 HB
       refine start_ (n := 17) (S := fun w' => w'.cell? ⟨gb122, 0, none⟩ = some (.int .i64 ((rd_T64 l0 x9_1).f0)) ∧ w'.cell? ⟨gb122, 1, none⟩ = some (.int .i64 ((rd_T64 l0 x9_1).f1)) ∧ w'.cell? ⟨gb122, 2, none⟩ = some (.int .i64 ((rd_T64 l0 x9_1).f2))) (ds := []) (M_ 0 17) (by kernel_rfl) rfl rfl ⟨(blk_cell BK122.out 0).trans rfl, (blk_cell BK122.out 1).trans rfl, (blk_cell BK122.out 2).trans rfl⟩ (fun hHeld => ?_); refine with_tabW spec_shGood.tab4 spec_shGood.bits4 (fun HT_ HW_ => ?_)
       generalize w22.drew = w23 at BK122 HB hHeld ⊢
       refine tk3_ 0 14 (M_ 1 16) hHeld ?_
       refine one_ (i := 1) (N := some 15) (M_ 2 15) rfl rfl (one_of HT_.out (by kernel_rfl)) (by decide) (fun K hK => ?_)
       refine goes_ Try.func48 (by kernel_rfl) rfl #[.agg #[.int .i64 ((rd_T64 l0 x9_1).f0), .int .i64 ((rd_T64 l0 x9_1).f1), .int .i64 ((rd_T64 l0 x9_1).f2)]] (by rfl) rfl rfl (Z84) ?_
       with_reducible refine (spec_shHole.calls ((rd_T64 l0 x9_1).f0) ((rd_T64 l0 x9_1).f1) ((rd_T64 l0 x9_1).f2) false _ A8.out).mono ?_
       rintro e w24 ⟨rfl, hb⟩
       refine ⟨_, rfl, ?_⟩
       have n0_ := Aside0.mk (blk_below (g := gb122) (o := .cells #[.int .i64 ((rd_T64 l0 x9_1).f0), .int .i64 ((rd_T64 l0 x9_1).f1), .int .i64 ((rd_T64 l0 x9_1).f2)] 64 (0, 0)) (Z2 BK122.out) hb)
       have n1_ := Aside0.mk (below_step (Z42) hb)
       clear BK122
       clear HB
       have BK122 := n0_
       have HB := n1_
       clear n0_ n1_
       (try clear hb)
       (try clear hb2)
       (try clear hk)
       (try clear hi)
       refine hK.out _ _ ⟨(blk_cell BK122.out 0).trans rfl, (blk_cell BK122.out 1).trans rfl, (blk_cell BK122.out 2).trans rfl⟩ (fun hHeld => ?_)
       clear hK K
       refine norm_ (a' := ?_) ?_ ?_
       rotate_left
       ·show Act.put _ (some 15) _ = _
        simp only [Act.put, List.setIfInBounds_toArray, List.set_cons_zero, List.set_cons_succ, i64_w, i32_w]
        rfl
       refine pu_ 2 16 (M_ 3 14) ?_
       refine pu_ 3 17 (M_ 4 13) ?_
       refine pn_ 4 18 (M_ 5 12) ?_
       refine pn_ 5 19 (M_ 6 11) ?_
       refine pn_ 6 20 (M_ 7 10) ?_
       refine pn_ 7 21 (M_ 8 9) ?_
       refine pn_ 8 22 (M_ 9 8) ?_
       refine pn_ 9 23 (M_ 10 7) ?_
       refine pn_ 10 24 (M_ 11 6) ?_
       refine pn_ 11 25 (M_ 12 5) ?_
       refine pn_ 12 26 (M_ 13 4) ?_
       refine pn_ 13 27 (M_ 14 3) ?_
       refine pn_ 14 28 (M_ 15 2) ?_
       refine pn_ 15 29 (M_ 16 1) ?_
       refine pu_ 16 30 (M_ 17 0) ?_
       refine done_ (done_of HT_.out (by kernel_rfl)) ?_
       try go_wp2
       go_meet
       case rel => exact ⟨_, (true), (Z17), H', ⟨Z137⟩, ⟨Z2 BK122.out⟩, ⟨Z42⟩⟩
      case rest =>
       clear HC5
       (try clear c1); (try clear p1); (try clear q1); (try clear hx1); (try clear c2); (try clear c2b0); (try clear p2); (try clear c3); (try clear c3b0); (try clear c4); (try clear c4b0); (try clear p6); (try clear c9); (try clear c10); (try clear c10b0); (try clear c12); (try clear c12b0); (try clear p12); (try clear q12); (try clear hx12); (try clear c13); (try clear c13b0); (try clear hcz7_0); (try clear hcz7_1); (try clear hcz7_2); (try clear hfz7_0); (try clear hfz7_1); (try clear hfz7_2); (try clear hx121_0); (try clear hx121_1); (try clear hx121_2); (try clear hx124_0); (try clear hx124_1); (try clear hx124_2); (try clear p121); (try clear p124); (try clear q121); (try clear q124)
       obtain ⟨kq, x30_4, rfl, HA, HJ4, BK122, HB⟩ := hcut
       cases kq with
       | zero => exact absurd HA.out (by simp [spec_shGood.j1])
       | succ kj4 =>
        have H := HA.out
        clear HA
        simp only [spec_shGood.j1] at H
        by_cases c25 : x30_4 = true
        ·subst c25
         rw [if_pos rfl] at H
         obtain rfl := Option.some.inj H
         go_wp2
         go_ret
         exact ⟨Z11, Z42⟩
        replace c25 := Bool.eq_false_iff.mpr c25
        subst c25
        rw [if_neg (show ¬ (false = true) by decide)] at H
        by_cases c26 : 0 ≤ x9_1
        ·rw [if_pos c26] at H
         have c26b0 := eq_true c26
         have c26b1 : decide (0 ≤ x9_1) = true := decide_eq_true c26
         clear c26
         by_cases c27 : x9_1 ≤ (l0.length : Int)
         ·rw [if_pos c27] at H
          have c27b0 := eq_true c27
          have c27b1 : decide (x9_1 ≤ (l0.length : Int)) = true := decide_eq_true c27
          clear c27
          obtain ⟨y126, hy126⟩ : ∃ y_ : List (S64), y_ = (l0.take (x9_1 : Int).toNat) := ⟨_, rfl⟩
          replace H : (spec_shGood.l1 kj4 l0 l0 (l0.length : Int) x9_1 y126 (y126.length : Int) 0 ((rd_T64 l0 x9_1).f0) ((rd_T64 l0 x9_1).f1) ((rd_T64 l0 x9_1).f2)) = some r := by first | (rw [hy126]; with_reducible exact H) | (have H2_ := (Option.bind_some _ _).symm.trans H; rw [hy126]; with_reducible exact H2_) | (have H2_ := (Option.bind_some _ _).symm.trans H; with_reducible exact H2_) | with_reducible exact H | (rw [hy126]; exact H) | exact H
          have Ny126 := Aside0.mk hy126
          clear hy126
          have H' := Aside0.mk H
          clear H
          have q28 : (x9_1 : Int) ≤ ((l0.length : Int) : Int) := of_decide_eq_true (Z18)
          obtain ⟨i028, hi028, _, hsz28, _⟩ := info_parts info64
          have hroom28 : l0.length ≤ c0 := HC0.out
          have hC28 : Kd.C k64 _ (some ad121) l0.length l0 := HR0.out
          have hcut28 := cut_to (P := Try.prog) 23 64 .i64 Try.underlying23 hi028 (some ad121) l0.length c0 x9_1 (of_decide_eq_true (Z18)) q28 hroom28
          have hr28 := Kd.C_take (m := (x9_1 : Int).toNat) hC28 (by omega)
          have hy28 : y126.length = (x9_1 : Int).toNat := (by rw [Ny126.out, List.length_take]; omega)
          rw [← Ny126.out] at hr28
          rw [← hy28] at hcut28
          have HR129 := Aside0.mk hr28
          have HC129 := Aside0.mk (show y126.length ≤ c0 from by omega)
          clear hr28 hC28 hroom28 hi028 hsz28
          have KY28 := Aside0.mk hy28
          clear hy28
          replace q28 := eq_true q28
          go_wp2
          go_loopg [35] kj4 (fun kq v35 w' => ∃ (x35_3 : Int), v35 = .int .i64 x35_3 ∧ Aside0 (spec_shGood.l1 kq l0 l0 (l0.length : Int) x9_1 y126 (y126.length : Int) x35_3 ((rd_T64 l0 x9_1).f0) ((rd_T64 l0 x9_1).f1) ((rd_T64 l0 x9_1).f2) = some r) ∧ Aside0 (kq ≤ kj4) ∧ Aside0 (w'.heap[gb122]? = some (.cells #[.int .i64 ((rd_T64 l0 x9_1).f0), .int .i64 ((rd_T64 l0 x9_1).f1), .int .i64 ((rd_T64 l0 x9_1).f2)] 64 (0, 0))) ∧ Aside0 (Below w.heap.size w w'))
          case atStart => exact ⟨(0), (Z17), H', ⟨Nat.le_refl _⟩, ⟨Z2 BK122.out⟩, ⟨Z42⟩⟩
          case round =>
           clear H'
           (try clear q2); (try clear c25); (try clear c26); (try clear c26b0); (try clear c26b1); (try clear c27); (try clear c27b0); (try clear c27b1); (try clear q28)
           obtain ⟨x35_3, rfl, HA, HK3, BK122, HB⟩ := hrel
           cases gk with
           | zero => exact absurd HA.out (by simp [spec_shGood.l1])
           | succ k3 =>
            have H := HA.out
            clear HA
            simp only [spec_shGood.l1] at H
            by_cases c29 : x35_3 < (y126.length : Int)
            ·rw [if_pos c29] at H
             have c29b0 : decide (x35_3 < (y126.length : Int)) = true := decide_eq_true c29
             clear c29
             by_cases c30 : 0 ≤ x35_3
             ·rw [if_pos c30] at H
              have c30b0 : decide (0 ≤ x35_3) = true := decide_eq_true c30
              clear c30
              by_cases c31 : x35_3 < (y126.length : Int)
              ·rw [if_pos c31] at H
               have c31b0 : decide (x35_3 < (y126.length : Int)) = true := decide_eq_true c31
               clear c31
               by_cases c32 : ((rd_T64 l0 x9_1).f0) = ((rd_T64 y126 x35_3).f0)
               ·rw [if_pos c32] at H
                have c32b0 : (((rd_T64 l0 x9_1).f0) == ((rd_T64 y126 x35_3).f0)) = true := beq_iff_eq.mpr c32
                have c32b1 : (((rd_T64 l0 x9_1).f0) != ((rd_T64 y126 x35_3).f0)) = false := bne_eq_false_iff_eq.mpr c32
                clear c32
                by_cases c33 : ((rd_T64 y126 x35_3).f2) ≥ ((rd_T64 l0 x9_1).f1)
                ·rw [if_pos c33] at H
                 have c33b0 : decide (((rd_T64 l0 x9_1).f1) ≤ ((rd_T64 y126 x35_3).f2)) = true := decide_eq_true c33
                 clear c33
                 obtain rfl := Option.some.inj H
                 have p130 : 0 ≤ (x35_3 : Int) := of_decide_eq_true (Z18)
                 have q130 : x35_3 < (y126.length : Int) := of_decide_eq_true (Z18)
                 obtain ⟨ad130, e130, hx130_0, hx130_1, hx130_2⟩ := at_T64 HR129.out x35_3 p130 q130
                 obtain rfl : ad121 = ad130 := (by injection e130)
                 replace hx130_0 := (HB.out.cell (World.block_lt_of_cell? w _ hx130_0)).trans hx130_0
                 replace hx130_1 := (HB.out.cell (World.block_lt_of_cell? w _ hx130_1)).trans hx130_1
                 replace hx130_2 := (HB.out.cell (World.block_lt_of_cell? w _ hx130_2)).trans hx130_2
                 replace p130 := eq_true p130
                 replace q130 := eq_true q130
                 go_wp2_with (first | ((with_reducible refine gate_dst (N := 6) rfl ?_); refine bv_ 6 64 #[.int .i64 0, .int .i64 0, .int .i64 0] ?_; intro gb131 hg w34 hbox hb; refine k7_ (blk_below (g := gb122) (o := .cells #[.int .i64 ((rd_T64 l0 x9_1).f0), .int .i64 ((rd_T64 l0 x9_1).f1), .int .i64 ((rd_T64 l0 x9_1).f2)] 64 (0, 0)) (Z2 BK122.out) hb) (below_step (Z42) hb) (hbox) ((Z189 : w.heap.size ≤ gb131)) ((Z189 : w.heap.size ≤ gb131)) ((Z154 : gb122 ≠ gb131)) ((Z155 : gb131 ≠ gb122)) ?_; clear BK122 HB; intro BK122 HB BK131 GW131 GE131 NB122_131 NB131_122; clear hb hbox hg; have hnb35 := NB131_122.out; have hnc35 := NB122_131.out; obtain ⟨hcz36_0, hcz36_1, hcz36_2, hfz36_0, hfz36_1, hfz36_2⟩ := bx3_ (w := w34) BK131.out; obtain ⟨hcz37_0, hcz37_1, hcz37_2, hfz37_0, hfz37_1, hfz37_2⟩ := bx3_ (w := w34) BK122.out))
                 go_ret
                 exact ⟨Z11, Z147⟩
                rw [if_neg c33] at H
                have c33b0 : decide (((rd_T64 l0 x9_1).f1) ≤ ((rd_T64 y126 x35_3).f2)) = false := decide_eq_false c33
                clear c33
                have H' := Aside0.mk H
                clear H
                have p130 : 0 ≤ (x35_3 : Int) := of_decide_eq_true (Z18)
                have q130 : x35_3 < (y126.length : Int) := of_decide_eq_true (Z18)
                obtain ⟨ad130, e130, hx130_0, hx130_1, hx130_2⟩ := at_T64 HR129.out x35_3 p130 q130
                obtain rfl : ad121 = ad130 := (by injection e130)
                replace hx130_0 := (HB.out.cell (World.block_lt_of_cell? w _ hx130_0)).trans hx130_0
                replace hx130_1 := (HB.out.cell (World.block_lt_of_cell? w _ hx130_1)).trans hx130_1
                replace hx130_2 := (HB.out.cell (World.block_lt_of_cell? w _ hx130_2)).trans hx130_2
                replace p130 := eq_true p130
                replace q130 := eq_true q130
                go_wp2_with (first | ((with_reducible refine gate_dst (N := 6) rfl ?_); refine bv_ 6 64 #[.int .i64 0, .int .i64 0, .int .i64 0] ?_; intro gb131 hg w38 hbox hb; refine k7_ (blk_below (g := gb122) (o := .cells #[.int .i64 ((rd_T64 l0 x9_1).f0), .int .i64 ((rd_T64 l0 x9_1).f1), .int .i64 ((rd_T64 l0 x9_1).f2)] 64 (0, 0)) (Z2 BK122.out) hb) (below_step (Z42) hb) (hbox) ((Z189 : w.heap.size ≤ gb131)) ((Z189 : w.heap.size ≤ gb131)) ((Z154 : gb122 ≠ gb131)) ((Z155 : gb131 ≠ gb122)) ?_; clear BK122 HB; intro BK122 HB BK131 GW131 GE131 NB122_131 NB131_122; clear hb hbox hg; have hnb39 := NB131_122.out; have hnc39 := NB122_131.out; obtain ⟨hcz40_0, hcz40_1, hcz40_2, hfz40_0, hfz40_1, hfz40_2⟩ := bx3_ (w := w38) BK131.out; obtain ⟨hcz41_0, hcz41_1, hcz41_2, hfz41_0, hfz41_1, hfz41_2⟩ := bx3_ (w := w38) BK122.out))
                go_roundg k3
                case measure => have := HK1.out; have := HJ4.out; have := HK3.out; omega
                case rel => exact ⟨(wrap64 (x35_3 + 1)), (Z17), H', ⟨Z221⟩, ⟨Z129⟩, ⟨Z147⟩⟩
               rw [if_neg c32] at H
               have c32b0 : (((rd_T64 l0 x9_1).f0) == ((rd_T64 y126 x35_3).f0)) = false := beq_eq_false_iff_ne.mpr c32
               have c32b1 : (((rd_T64 l0 x9_1).f0) != ((rd_T64 y126 x35_3).f0)) = true := bne_iff_ne.mpr c32
               have H' := Aside0.mk H
               clear H
               have p130 : 0 ≤ (x35_3 : Int) := of_decide_eq_true (Z18)
               have q130 : x35_3 < (y126.length : Int) := of_decide_eq_true (Z18)
               obtain ⟨ad130, e130, hx130_0, hx130_1, hx130_2⟩ := at_T64 HR129.out x35_3 p130 q130
               obtain rfl : ad121 = ad130 := (by injection e130)
               replace hx130_0 := (HB.out.cell (World.block_lt_of_cell? w _ hx130_0)).trans hx130_0
               replace hx130_1 := (HB.out.cell (World.block_lt_of_cell? w _ hx130_1)).trans hx130_1
               replace hx130_2 := (HB.out.cell (World.block_lt_of_cell? w _ hx130_2)).trans hx130_2
               replace p130 := eq_true p130
               replace q130 := eq_true q130
               go_wp2_with (first | ((with_reducible refine gate_dst (N := 6) rfl ?_); refine bv_ 6 64 #[.int .i64 0, .int .i64 0, .int .i64 0] ?_; intro gb131 hg w42 hbox hb; refine k7_ (blk_below (g := gb122) (o := .cells #[.int .i64 ((rd_T64 l0 x9_1).f0), .int .i64 ((rd_T64 l0 x9_1).f1), .int .i64 ((rd_T64 l0 x9_1).f2)] 64 (0, 0)) (Z2 BK122.out) hb) (below_step (Z42) hb) (hbox) ((Z189 : w.heap.size ≤ gb131)) ((Z189 : w.heap.size ≤ gb131)) ((Z154 : gb122 ≠ gb131)) ((Z155 : gb131 ≠ gb122)) ?_; clear BK122 HB; intro BK122 HB BK131 GW131 GE131 NB122_131 NB131_122; clear hb hbox hg; have hnb43 := NB131_122.out; have hnc43 := NB122_131.out; obtain ⟨hcz44_0, hcz44_1, hcz44_2, hfz44_0, hfz44_1, hfz44_2⟩ := bx3_ (w := w42) BK131.out; obtain ⟨hcz45_0, hcz45_1, hcz45_2, hfz45_0, hfz45_1, hfz45_2⟩ := bx3_ (w := w42) BK122.out))
               go_roundg k3
               case measure => have := HK1.out; have := HJ4.out; have := HK3.out; omega
               case rel => exact ⟨(wrap64 (x35_3 + 1)), (Z17), H', ⟨Z221⟩, ⟨Z129⟩, ⟨Z147⟩⟩
              rw [if_neg c31] at H
              exact absurd H (by simp)
             rw [if_neg c30] at H
             exact absurd H (by simp)
            rw [if_neg c29] at H
            have c29b0 : decide (x35_3 < (y126.length : Int)) = false := decide_eq_false c29
            clear c29
            have H' := Aside0.mk H
            clear H
            go_wp2
            go_roundg k3
            case measure => have := HK1.out; have := HJ4.out; have := HK3.out; omega
            case rel => exact ⟨(wrap64 (x9_1 + 1)), (Z17), H', ⟨Z221⟩, ⟨Z42⟩⟩
         rw [if_neg c27] at H
         exact absurd H (by simp)
        rw [if_neg c26] at H
        exact absurd H (by simp)
     rw [if_neg c4] at H
     exact absurd H (by simp)
    rw [if_neg c3] at H
    exact absurd H (by simp)
   rw [if_neg c2] at H
   have c2b0 : decide (x9_1 < (l0.length : Int)) = false := decide_eq_false c2
   clear c2
   obtain rfl := Option.some.inj H
   go_wp2
   go_ret
   exact ⟨Z11, Z3⟩

end Go.Proofs.Ytflefblmaopaiaa.PFnStops
