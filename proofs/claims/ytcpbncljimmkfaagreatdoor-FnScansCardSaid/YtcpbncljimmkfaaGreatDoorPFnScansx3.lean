-- written by a program of this session: the kit's print, with outer functions of the session's own (wip/ext)
import Derived.Test.YtcpbncljimmkfaaGreatDoorPFnScansx0
import Derived.Test.YtcpbncljimmkfaaGreatDoorPFnScansx2
namespace Go.Proofs.YtcpbncljimmkfaaGreatDoor.PFnScans
open Go.RowKit Go.Proofs.YtcpbncljimmkfaaGreatDoorW.PrintWords Go.Proofs.YtcpbncljimmkfaaGreatDoorW.PrintLast Go.Proofs.YtcpbncljimmkfaaGreatDoorW.PrintMore
attribute [local go_sem] max2_int min2_int max_two min_two max_three min_three max_four min_four   -- for this text's walks alone
set_option linter.unusedVariables false
set_option linter.unusedSimpArgs false
theorem mo3_ {p : Prop} (h : p := by repeat' first | (with_reducible first | apply ih0 | apply ih0 | apply ih1 | apply ih1 | apply ih2 | apply ih2 | exact LeO.refl _ | exact LeO.none _ | refine LeO.ite ?_ ?_ | refine LeO.bind ?_ (fun _ => ?_)) | exact LeO.none _ | refine LeO.ite ?_ ?_ | refine LeO.bind ?_ (fun _ => ?_)) : p := h

/-! ### spec_shGood: function 32 -/
mutual
def spec_shGood.l0 : Nat → List (S55) → List (S55) → Int → Int → Option (Bool)
 | 0, _, _, _, _ => none
 | k + 1, x0, x7, x8, x9 => if x9 < x8 then (if 0 ≤ x9 then (if x9 < (x7.length : Int) then ((spec_shHole.f ((rd_T55 x7 x9).f0) ((rd_T55 x7 x9).f1) ((rd_T55 x7 x9).f2)).bind fun zb => (if zb = true then (if x9 > 0 then (if 0 ≤ (wrap64 (x9 - 1)) then (if (wrap64 (x9 - 1)) < (x0.length : Int) then ((spec_shBefore.f ((rd_T55 x0 (wrap64 (x9 - 1))).f0) ((rd_T55 x0 (wrap64 (x9 - 1))).f1) ((rd_T55 x0 (wrap64 (x9 - 1))).f2) ((rd_T55 x7 x9).f0) ((rd_T55 x7 x9).f1) ((rd_T55 x7 x9).f2)).bind fun qX => (spec_shGood.j1 k x0 x9 x7 x8 x9 (!qX) ((rd_T55 x7 x9).f0) ((rd_T55 x7 x9).f1) ((rd_T55 x7 x9).f2))) else (none)) else (none)) else (spec_shGood.j1 k x0 x9 x7 x8 x9 false ((rd_T55 x7 x9).f0) ((rd_T55 x7 x9).f1) ((rd_T55 x7 x9).f2))) else (spec_shGood.j1 k x0 x9 x7 x8 x9 true ((rd_T55 x7 x9).f0) ((rd_T55 x7 x9).f1) ((rd_T55 x7 x9).f2)))) else (none)) else (none)) else (some (decide ((x0.length : Int) ≤ 60)))
def spec_shGood.j1 : Nat → List (S55) → Int → List (S55) → Int → Int → Bool → Int → Int → Int → Option (Bool)
 | 0, _, _, _, _, _, _, _, _, _ => none
 | k + 1, x0, x3, x7, x8, x9, x30, gB, gC, iw => if x30 = true then (some false) else (if 0 ≤ x3 then (if x3 ≤ (x0.length : Int) then ((some (x0.take (x3 : Int).toNat : List (S55))).bind fun dw => (spec_shGood.l1 k x0 x7 x8 x9 dw (dw.length : Int) 0 gB gC iw)) else (none)) else (none))
def spec_shGood.l1 : Nat → List (S55) → List (S55) → Int → Int → List (S55) → Int → Int → Int → Int → Int → Option (Bool)
 | 0, _, _, _, _, _, _, _, _, _, _ => none
 | k + 1, x0, x7, x8, x9, x33, x34, x35, gB, gC, iw => if x35 < x34 then (if 0 ≤ x35 then (if x35 < (x33.length : Int) then (if gB = ((rd_T55 x33 x35).f0) then (if ((rd_T55 x33 x35).f2) ≥ gC then (some false) else (spec_shGood.l1 k x0 x7 x8 x9 x33 x34 (wrap64 (x35 + 1)) gB gC iw)) else (spec_shGood.l1 k x0 x7 x8 x9 x33 x34 (wrap64 (x35 + 1)) gB gC iw)) else (none)) else (none)) else (spec_shGood.l0 k x0 x7 x8 (wrap64 (x9 + 1)))
end
def spec_shGood.f (k : Nat) (l0 : List (S55)) : Option (Bool) := spec_shGood.l0 k l0 l0 (l0.length : Int) 0
theorem spec_shGood.mono_l : ∀ k, (∀ y0 y1 y2 y3, LeO (spec_shGood.l0 k y0 y1 y2 y3) (spec_shGood.l0 (k + 1) y0 y1 y2 y3)) ∧ (∀ y0 y1 y2 y3 y4 y5 y6 y7 y8, LeO (spec_shGood.j1 k y0 y1 y2 y3 y4 y5 y6 y7 y8) (spec_shGood.j1 (k + 1) y0 y1 y2 y3 y4 y5 y6 y7 y8)) ∧ (∀ y0 y1 y2 y3 y4 y5 y6 y7 y8 y9, LeO (spec_shGood.l1 k y0 y1 y2 y3 y4 y5 y6 y7 y8 y9) (spec_shGood.l1 (k + 1) y0 y1 y2 y3 y4 y5 y6 y7 y8 y9))
 | 0 => ⟨fun _ _ _ _ r h => by simp [spec_shGood.l0] at h, fun _ _ _ _ _ _ _ _ _ r h => by simp [spec_shGood.j1] at h, fun _ _ _ _ _ _ _ _ _ _ r h => by simp [spec_shGood.l1] at h⟩
 | k + 1 => by
  obtain ⟨ih0, ih1, ih2⟩ := spec_shGood.mono_l k
  refine ⟨?_, ?_, ?_⟩
  ·intro y0 y1 y2 y3
   unfold spec_shGood.l0
   exact mo3_
  ·intro y0 y1 y2 y3 y4 y5 y6 y7 y8
   unfold spec_shGood.j1
   exact mo3_
  intro y0 y1 y2 y3 y4 y5 y6 y7 y8 y9
  unfold spec_shGood.l1
  exact mo3_
theorem spec_shGood.mono : ∀ a0 k, LeO (spec_shGood.f k a0) (spec_shGood.f (k + 1) a0) := by
 intro a0 k
 obtain ⟨ih0, ih1, ih2⟩ := spec_shGood.mono_l k
 unfold spec_shGood.f
 exact mo3_
def spec_shGood.T4 : Bool × List (List Nat × List Nat) := (true, [([], []), ([0], [0]), ([1], [1]), ([2, 1], [2]), ([3], [3]), ([4, 3], [3, 4]), ([5, 3, 3], [3, 5]), ([6], [6]), ([6], [6]), ([8, 6], [6, 8]), ([7, 9, 6], [6, 7, 9]), ([10, 6], [6, 10]), ([6], [6]), ([11, 12, 6, 6], [6, 11, 12]), ([13, 6], [6, 13]), ([6, 14, 3], [3, 6, 14]), ([3, 15], [3, 15])])
def spec_shGood.B4 : List Nat := [0, 1, 3, 7, 15, 31, 63, 127, 127, 383, 1023, 2047, 127, 8191, 16383, 32767, 65535]
theorem spec_shGood.tab4 : rtab .any (opsOf Tryz.f32 4) = spec_shGood.T4 := by kernel_rfl
theorem spec_shGood.bits4 : waitsOk spec_shGood.T4.2 spec_shGood.B4 = true := by kernel_rfl
set_option maxHeartbeats 8000000 in
set_option maxRecDepth 100000 in
theorem spec_shGood.calls (k : Nat) (A0 : Option Addr) (c0 : Nat) (l0 : List (S55)) (r : Bool) (w : World) (hr0 : Kd.C k55 w A0 l0.length l0) (hc0 : l0.length ≤ c0) (h : spec_shGood.f k l0 = some r) :
  Calls Tryz.prog 32 #[.slice A0 l0.length c0] w fun e w' => e = .returned (.bool r) ∧ Below w.heap.size w w' := by
 have hu55 := Tryz.underlying55
 have HR0 := Aside0.mk hr0
 have HC0 := Aside0.mk hc0
 clear hr0 hc0
 have HB := Aside0.mk (Below.refl w.heap.size w)
 have H : (spec_shGood.l0 k l0 l0 (l0.length : Int) 0) = some r := h
 clear h
 have H' := Aside0.mk H
 clear H
 go_enter Tryz.func32, Tryz.ntmps32
 go_wp2
 go_loopg [9] k (fun kq v9 w' => ∃ (aj : Int), v9 = .int .i64 aj ∧ Aside0 (spec_shGood.l0 kq l0 l0 (l0.length : Int) aj = some r) ∧ Aside0 (kq ≤ k) ∧ Aside0 (Below w.heap.size w w'))
 case atStart => exact ⟨(0), (Z11), H', ⟨Nat.le_refl _⟩, ⟨Z2⟩⟩
 case round =>
  clear H'
  obtain ⟨aj, rfl, HA, HK1, HB⟩ := hrel
  cases gk with
  | zero => exact absurd HA.out (by simp [spec_shGood.l0])
  | succ k1 =>
   have H := HA.out
   clear HA
   simp only [spec_shGood.l0] at H
   by_cases c2 : aj < (l0.length : Int)
   ·rw [if_pos c2] at H
    have eu : decide (aj < (l0.length : Int)) = true := decide_eq_true c2
    clear c2
    by_cases c3 : 0 ≤ aj
    case neg => rw [if_neg c3] at H; exact absurd H (by simp)
    rw [if_pos c3] at H
    have bA : decide (0 ≤ aj) = true := decide_eq_true c3
    clear c3
    by_cases c4 : aj < (l0.length : Int)
    case neg => rw [if_neg c4] at H; exact absurd H (by simp)
    rw [if_pos c4] at H
    have bZ : decide (aj < (l0.length : Int)) = true := decide_eq_true c4
    clear c4
    have HC5 := Aside0.mk H
    clear H
    have uU : 0 ≤ (aj : Int) := of_decide_eq_true (Z8)
    have uV : aj < (l0.length : Int) := of_decide_eq_true (Z8)
    obtain ⟨fj, e117, ix, iy, iz⟩ := at_T55 HR0.out aj uU uV
    cases e117
    replace ix := (HB.out.cell (World.block_lt_of_cell? w _ ix)).trans ix
    replace iy := (HB.out.cell (World.block_lt_of_cell? w _ iy)).trans iy
    replace iz := (HB.out.cell (World.block_lt_of_cell? w _ iz)).trans iz
    replace uU := eq_true uU
    replace uV := eq_true uV
    go_upto_region 4 with ((with_reducible refine gate_dst (N := 4) rfl ?_); refine bv_ 4 55 #[.int .i64 0, .int .i64 0, .int .i64 0] ?_; intro aQ hg w6 hbox hb; refine k4_ (below_step (Z2) hb) (hbox) ((Z33 : w.heap.size ≤ aQ)) ((Z33 : w.heap.size ≤ aQ)) ?_; clear HB; intro HB ay GW118 vK; clear hb hbox hg; obtain ⟨je, jf, jg, jh, ji, jj⟩ := bx3_ (w := w6) ay.out)
    (try simp only [Act.put, List.setIfInBounds_toArray, List.set_cons_zero, List.set_cons_succ])
    go_cut [30] (fun v30 wc => ∃ (kq : Nat) (qk : Bool), v30 = .bool qk ∧ Aside0 (spec_shGood.j1 kq l0 aj l0 (l0.length : Int) aj qk ((rd_T55 l0 aj).f0) ((rd_T55 l0 aj).f1) ((rd_T55 l0 aj).f2) = some r) ∧ Aside0 (kq ≤ k1) ∧ Aside0 (wc.heap[aQ]? = some (.cells #[.int .i64 ((rd_T55 l0 aj).f0), .int .i64 ((rd_T55 l0 aj).f1), .int .i64 ((rd_T55 l0 aj).f2)] 55 (0, 0))) ∧ Aside0 (Below w.heap.size w wc))
    case first =>
     have H := HC5.out
     clear HC5
     obtain ⟨zb, A8, H⟩ := bd_ H
     (try dsimp only at H)
     by_cases c9 : zb = true
     ·subst c9
      rw [if_pos rfl] at H
      by_cases c10 : aj > 0
      ·rw [if_pos c10] at H
       have b7 : decide (0 < aj) = true := decide_eq_true c10
       clear c10
       (first | rw [b7] | (simp only [i64_w, i32_w]; rw [b7]) | skip)
       obtain ⟨di, hji11⟩ : ∃ j_ : Int, (wrap64 (aj - 1)) = j_ := ⟨_, rfl⟩
       replace H : (if 0 ≤ (di) then (if (di) < (l0.length : Int) then ((spec_shBefore.f ((rd_T55 l0 (di)).f0) ((rd_T55 l0 (di)).f1) ((rd_T55 l0 (di)).f2) ((rd_T55 l0 aj).f0) ((rd_T55 l0 aj).f1) ((rd_T55 l0 aj).f2)).bind fun qX => (spec_shGood.j1 k1 l0 aj l0 (l0.length : Int) aj (!qX) ((rd_T55 l0 aj).f0) ((rd_T55 l0 aj).f1) ((rd_T55 l0 aj).f2))) else (none)) else (none)) = some r := by first | (rw [hji11] at H; exact H) | (simp only [hji11] at H ⊢; exact H)
       (try rw [hji11] at A8)
       have hji11w : (IntKind.i64.wrap (aj - 1)) = di := (i64_w _).trans hji11
       by_cases c12 : 0 ≤ (di)
       case neg => rw [if_neg c12] at H; exact absurd H (by simp)
       rw [if_pos c12] at H
       have dp : decide (0 ≤ (di)) = true := decide_eq_true c12
       clear c12
       by_cases c13 : (di) < (l0.length : Int)
       case neg => rw [if_neg c13] at H; exact absurd H (by simp)
       rw [if_pos c13] at H
       have cq : decide ((di) < (l0.length : Int)) = true := decide_eq_true c13
       clear c13
       obtain ⟨qX, lu, H⟩ := bd_ H
       (try dsimp only at H)
       have H' := Aside0.mk H
       clear H
       try go_wp2
       have n0_ : Aside0 ((((w6.setCell ⟨aQ, 0, none⟩ (.int .i64 ((rd_T55 l0 aj).f0))).setCell ⟨aQ, 1, none⟩ (.int .i64 ((rd_T55 l0 aj).f1))).setCell ⟨aQ, 2, none⟩ (.int .i64 ((rd_T55 l0 aj).f2))).heap[aQ]? = some (.cells #[.int .i64 ((rd_T55 l0 aj).f0), .int .i64 ((rd_T55 l0 aj).f1), .int .i64 ((rd_T55 l0 aj).f2)] 55 (0, 0))) := ⟨Z39⟩
       have n1_ : Aside0 (Below w.heap.size w (((w6.setCell ⟨aQ, 0, none⟩ (.int .i64 ((rd_T55 l0 aj).f0))).setCell ⟨aQ, 1, none⟩ (.int .i64 ((rd_T55 l0 aj).f1))).setCell ⟨aQ, 2, none⟩ (.int .i64 ((rd_T55 l0 aj).f2)))) := ⟨Z18⟩
       (try clear ay)
       (try clear HB)
       generalize (((w6.setCell ⟨aQ, 0, none⟩ (.int .i64 ((rd_T55 l0 aj).f0))).setCell ⟨aQ, 1, none⟩ (.int .i64 ((rd_T55 l0 aj).f1))).setCell ⟨aQ, 2, none⟩ (.int .i64 ((rd_T55 l0 aj).f2))) = il at n0_ n1_ ⊢
       have ay := n0_
       have HB := n1_
       clear n0_ n1_
       refine k2_ (blk_drew ay.out) (below_drew1 HB.out) ?_
       clear ay HB
       intro ay HB
       have uW : 0 ≤ ((di) : Int) := of_decide_eq_true (Z8)
       have uX : (di) < (l0.length : Int) := of_decide_eq_true (Z8)
       obtain ⟨ad120, e120, fC, fD, fE⟩ := at_T55 HR0.out (di) uW uX
       have hw120_2 := fE
       have hw120_1 := fD
       have hw120_0 := fC
       obtain rfl : fj = ad120 := (by injection e120)
       replace fC := (HB.out.cell (World.block_lt_of_cell? w _ fC)).trans fC
       replace fD := (HB.out.cell (World.block_lt_of_cell? w _ fD)).trans fD
       replace fE := (HB.out.cell (World.block_lt_of_cell? w _ fE)).trans fE
       replace uW := eq_true uW
       replace uX := eq_true uX
       refine start_ (n := 17) (S := fun w' => w'.cell? ⟨aQ, 0, none⟩ = some (.int .i64 ((rd_T55 l0 aj).f0)) ∧ w'.cell? ⟨aQ, 1, none⟩ = some (.int .i64 ((rd_T55 l0 aj).f1)) ∧ w'.cell? ⟨aQ, 2, none⟩ = some (.int .i64 ((rd_T55 l0 aj).f2)) ∧ w'.cell? (fj.add (((di)).toNat * 3)) = some (.int .i64 ((rd_T55 l0 (di)).f0)) ∧ w'.cell? ⟨(fj.add (((di)).toNat * 3)).block, (fj.add (((di)).toNat * 3)).off + 1, none⟩ = some (.int .i64 ((rd_T55 l0 (di)).f1)) ∧ w'.cell? ⟨(fj.add (((di)).toNat * 3)).block, (fj.add (((di)).toNat * 3)).off + 2, none⟩ = some (.int .i64 ((rd_T55 l0 (di)).f2))) (ds := []) (M_ 0 17) (by kernel_rfl) rfl rfl ⟨(blk_cell ay.out 0).trans rfl, (blk_cell ay.out 1).trans rfl, (blk_cell ay.out 2).trans rfl, ((HB.out.cell (World.block_lt_of_cell? w _ hw120_0)).trans hw120_0), ((HB.out.cell (World.block_lt_of_cell? w _ hw120_1)).trans hw120_1), ((HB.out.cell (World.block_lt_of_cell? w _ hw120_2)).trans hw120_2)⟩ (fun hHeld => ?_); refine with_tabW spec_shGood.tab4 spec_shGood.bits4 (fun HT_ HW_ => ?_)
       generalize il.drew = mx at ay HB fC fD fE hHeld ⊢
       refine tk6_ 0 14 (M_ 1 16) hHeld ?_
       refine one_ (i := 1) (N := some 15) (M_ 2 15) rfl rfl (one_of HT_.out (by kernel_rfl)) (by decide) (fun K hK => ?_)
       refine goes_ Tryz.func56 (by kernel_rfl) rfl #[.agg #[.int .i64 ((rd_T55 l0 aj).f0), .int .i64 ((rd_T55 l0 aj).f1), .int .i64 ((rd_T55 l0 aj).f2)]] (by rfl) rfl rfl (Z46) ?_
       with_reducible refine (spec_shHole.calls ((rd_T55 l0 aj).f0) ((rd_T55 l0 aj).f1) ((rd_T55 l0 aj).f2) true _ A8.out).mono ?_
       rintro e uY ⟨rfl, hb⟩
       refine ⟨_, rfl, ?_⟩
       have n0_ := Aside0.mk (Ye_ ay)
       have n1_ := Aside0.mk (below_step (Z18) hb)
       clear ay
       clear HB
       have ay := n0_
       have HB := n1_
       clear n0_ n1_
       (try clear hb)
       refine hK.out _ _ ⟨(blk_cell ay.out 0).trans rfl, (blk_cell ay.out 1).trans rfl, (blk_cell ay.out 2).trans rfl, ((HB.out.cell (World.block_lt_of_cell? w _ hw120_0)).trans hw120_0), ((HB.out.cell (World.block_lt_of_cell? w _ hw120_1)).trans hw120_1), ((HB.out.cell (World.block_lt_of_cell? w _ hw120_2)).trans hw120_2)⟩ (fun hHeld => ?_)
       clear hK K
       refine norm_ (a' := ?_) ?_ ?_
       rotate_left
       ·show Act.put _ (some 15) _ = _
        simp only [Act.put, List.setIfInBounds_toArray, List.set_cons_zero, List.set_cons_succ, i64_w, i32_w]
        rfl
       refine pu_ 2 16 (M_ 3 14) ?_
       refine pu_ 3 17 (M_ 4 13) ?_
       refine pu_ 4 18 (M_ 5 12) ?_
       refine pu_ 5 19 (M_ 6 11) ?_
       refine pu_ 6 20 (M_ 7 10) ?_
       refine pu_ 7 21 (M_ 8 9) ?_
       refine pu_ 8 22 (M_ 9 8) ?_
       refine pu_ 9 23 (M_ 10 7) ?_
       refine pu_ 10 24 (M_ 11 6) ?_
       refine tk6_ 11 25 (M_ 12 5) hHeld ?_
       refine tk6_ 12 26 (M_ 13 4) hHeld ?_
       refine one_ (i := 13) (N := some 27) (M_ 14 3) rfl rfl (one_of HT_.out (by kernel_rfl)) (by decide) (fun K hK => ?_)
       refine goes_ Tryz.func57 (by kernel_rfl) rfl #[.agg #[.int .i64 ((rd_T55 l0 (di)).f0), .int .i64 ((rd_T55 l0 (di)).f1), .int .i64 ((rd_T55 l0 (di)).f2)], .agg #[.int .i64 ((rd_T55 l0 aj).f0), .int .i64 ((rd_T55 l0 aj).f1), .int .i64 ((rd_T55 l0 aj).f2)]] (by rfl) rfl rfl (by (try simp only [List.map_toArray, List.map_cons, List.map_nil]); first | done | (simp only [hji11]; rfl) | rfl | (simp only [List.length_drop, List.length_take]; rfl)) ?_
       with_reducible refine (spec_shBefore.calls ((rd_T55 l0 (di)).f0) ((rd_T55 l0 (di)).f1) ((rd_T55 l0 (di)).f2) ((rd_T55 l0 aj).f0) ((rd_T55 l0 aj).f1) ((rd_T55 l0 aj).f2) qX _ lu.out).mono ?_
       rintro e yy ⟨rfl, hb⟩
       refine ⟨_, rfl, ?_⟩
       have n0_ := Aside0.mk (Ye_ ay)
       have n1_ := Aside0.mk (below_step (Z18) hb)
       clear ay
       clear HB
       have ay := n0_
       have HB := n1_
       clear n0_ n1_
       refine hK.out _ _ ⟨(blk_cell ay.out 0).trans rfl, (blk_cell ay.out 1).trans rfl, (blk_cell ay.out 2).trans rfl, ((HB.out.cell (World.block_lt_of_cell? w _ hw120_0)).trans hw120_0), ((HB.out.cell (World.block_lt_of_cell? w _ hw120_1)).trans hw120_1), ((HB.out.cell (World.block_lt_of_cell? w _ hw120_2)).trans hw120_2)⟩ (fun hHeld => ?_)
       clear hK K
       refine norm_ (a' := ?_) ?_ ?_
       rotate_left
       ·show Act.put _ (some 27) _ = _
        simp only [Act.put, List.setIfInBounds_toArray, List.set_cons_zero, List.set_cons_succ, i64_w, i32_w]
        rfl
       refine pu_ 14 28 (M_ 15 2) ?_
       refine pu_ 15 29 (M_ 16 1) ?_
       refine pu_ 16 30 (M_ 17 0) ?_
       refine done_ (done_of HT_.out (by kernel_rfl)) ?_
       try go_wp2
       go_meet
       case rel => exact ⟨_, (!qX), (Z11), H', ⟨Z60 HK1⟩, ⟨Z7 ay⟩, ⟨Z18⟩⟩
      rw [if_neg c10] at H
      have b7 : decide (0 < aj) = false := decide_eq_false c10
      clear c10
      (first | rw [b7] | (simp only [i64_w, i32_w]; rw [b7]) | skip)
      have H' := Aside0.mk H
      clear H
      try go_wp2
      have n0_ : Aside0 ((((w6.setCell ⟨aQ, 0, none⟩ (.int .i64 ((rd_T55 l0 aj).f0))).setCell ⟨aQ, 1, none⟩ (.int .i64 ((rd_T55 l0 aj).f1))).setCell ⟨aQ, 2, none⟩ (.int .i64 ((rd_T55 l0 aj).f2))).heap[aQ]? = some (.cells #[.int .i64 ((rd_T55 l0 aj).f0), .int .i64 ((rd_T55 l0 aj).f1), .int .i64 ((rd_T55 l0 aj).f2)] 55 (0, 0))) := ⟨Z39⟩
      have n1_ : Aside0 (Below w.heap.size w (((w6.setCell ⟨aQ, 0, none⟩ (.int .i64 ((rd_T55 l0 aj).f0))).setCell ⟨aQ, 1, none⟩ (.int .i64 ((rd_T55 l0 aj).f1))).setCell ⟨aQ, 2, none⟩ (.int .i64 ((rd_T55 l0 aj).f2)))) := ⟨Z18⟩
      (try clear ay)
      (try clear HB)
      generalize (((w6.setCell ⟨aQ, 0, none⟩ (.int .i64 ((rd_T55 l0 aj).f0))).setCell ⟨aQ, 1, none⟩ (.int .i64 ((rd_T55 l0 aj).f1))).setCell ⟨aQ, 2, none⟩ (.int .i64 ((rd_T55 l0 aj).f2))) = uk at n0_ n1_ ⊢
      have ay := n0_
      have HB := n1_
      clear n0_ n1_
      refine k2_ (blk_drew ay.out) (below_drew1 HB.out) ?_
      clear ay HB
      intro ay HB
      refine start_ (n := 17) (S := fun w' => w'.cell? ⟨aQ, 0, none⟩ = some (.int .i64 ((rd_T55 l0 aj).f0)) ∧ w'.cell? ⟨aQ, 1, none⟩ = some (.int .i64 ((rd_T55 l0 aj).f1)) ∧ w'.cell? ⟨aQ, 2, none⟩ = some (.int .i64 ((rd_T55 l0 aj).f2))) (ds := []) (M_ 0 17) (by kernel_rfl) rfl rfl ⟨(blk_cell ay.out 0).trans rfl, (blk_cell ay.out 1).trans rfl, (blk_cell ay.out 2).trans rfl⟩ (fun hHeld => ?_); refine with_tabW spec_shGood.tab4 spec_shGood.bits4 (fun HT_ HW_ => ?_)
      generalize uk.drew = yC at ay HB hHeld ⊢
      refine tk3_ 0 14 (M_ 1 16) hHeld ?_
      refine one_ (i := 1) (N := some 15) (M_ 2 15) rfl rfl (one_of HT_.out (by kernel_rfl)) (by decide) (fun K hK => ?_)
      refine goes_ Tryz.func56 (by kernel_rfl) rfl #[.agg #[.int .i64 ((rd_T55 l0 aj).f0), .int .i64 ((rd_T55 l0 aj).f1), .int .i64 ((rd_T55 l0 aj).f2)]] (by rfl) rfl rfl (Z46) ?_
      with_reducible refine (spec_shHole.calls ((rd_T55 l0 aj).f0) ((rd_T55 l0 aj).f1) ((rd_T55 l0 aj).f2) true _ A8.out).mono ?_
      rintro e vP ⟨rfl, hb⟩
      refine ⟨_, rfl, ?_⟩
      have n0_ := Aside0.mk (Ye_ ay)
      have n1_ := Aside0.mk (below_step (Z18) hb)
      clear ay
      clear HB
      have ay := n0_
      have HB := n1_
      clear n0_ n1_
      (try clear hb)
      refine hK.out _ _ ⟨(blk_cell ay.out 0).trans rfl, (blk_cell ay.out 1).trans rfl, (blk_cell ay.out 2).trans rfl⟩ (fun hHeld => ?_)
      clear hK K
      refine norm_ (a' := ?_) ?_ ?_
      rotate_left
      ·show Act.put _ (some 15) _ = _
       simp only [Act.put, List.setIfInBounds_toArray, List.set_cons_zero, List.set_cons_succ, i64_w, i32_w]
       rfl
      refine pu_ 2 16 (M_ 3 14) ?_
      refine pu_ 3 17 (M_ 4 13) ?_
      refine pu_ 4 18 (M_ 5 12) ?_
      refine pu_ 5 19 (M_ 6 11) ?_
      refine pu_ 6 20 (M_ 7 10) ?_
      refine pn_ 7 21 (M_ 8 9) ?_
      refine pn_ 8 22 (M_ 9 8) ?_
      refine pn_ 9 23 (M_ 10 7) ?_
      refine pn_ 10 24 (M_ 11 6) ?_
      refine pn_ 11 25 (M_ 12 5) ?_
      refine pn_ 12 26 (M_ 13 4) ?_
      refine pn_ 13 27 (M_ 14 3) ?_
      refine pn_ 14 28 (M_ 15 2) ?_
      refine pu_ 15 29 (M_ 16 1) ?_
      refine pu_ 16 30 (M_ 17 0) ?_
      refine done_ (done_of HT_.out (by kernel_rfl)) ?_
      try go_wp2
      go_meet
      case rel => exact ⟨_, (false), (Z11), H', ⟨Z60 HK1⟩, ⟨Z7 ay⟩, ⟨Z18⟩⟩
     replace c9 := Bool.eq_false_iff.mpr c9
     subst c9
     rw [if_neg (show ¬ (false = true) by decide)] at H
     have H' := Aside0.mk H
     clear H
     try go_wp2
     have n0_ : Aside0 ((((w6.setCell ⟨aQ, 0, none⟩ (.int .i64 ((rd_T55 l0 aj).f0))).setCell ⟨aQ, 1, none⟩ (.int .i64 ((rd_T55 l0 aj).f1))).setCell ⟨aQ, 2, none⟩ (.int .i64 ((rd_T55 l0 aj).f2))).heap[aQ]? = some (.cells #[.int .i64 ((rd_T55 l0 aj).f0), .int .i64 ((rd_T55 l0 aj).f1), .int .i64 ((rd_T55 l0 aj).f2)] 55 (0, 0))) := ⟨Z39⟩
     have n1_ : Aside0 (Below w.heap.size w (((w6.setCell ⟨aQ, 0, none⟩ (.int .i64 ((rd_T55 l0 aj).f0))).setCell ⟨aQ, 1, none⟩ (.int .i64 ((rd_T55 l0 aj).f1))).setCell ⟨aQ, 2, none⟩ (.int .i64 ((rd_T55 l0 aj).f2)))) := ⟨Z18⟩
     (try clear ay)
     (try clear HB)
     generalize (((w6.setCell ⟨aQ, 0, none⟩ (.int .i64 ((rd_T55 l0 aj).f0))).setCell ⟨aQ, 1, none⟩ (.int .i64 ((rd_T55 l0 aj).f1))).setCell ⟨aQ, 2, none⟩ (.int .i64 ((rd_T55 l0 aj).f2))) = xX at n0_ n1_ ⊢
     have ay := n0_
     have HB := n1_
     clear n0_ n1_
     refine k2_ (blk_drew ay.out) (below_drew1 HB.out) ?_
     clear ay HB
     intro ay HB
     refine start_ (n := 17) (S := fun w' => w'.cell? ⟨aQ, 0, none⟩ = some (.int .i64 ((rd_T55 l0 aj).f0)) ∧ w'.cell? ⟨aQ, 1, none⟩ = some (.int .i64 ((rd_T55 l0 aj).f1)) ∧ w'.cell? ⟨aQ, 2, none⟩ = some (.int .i64 ((rd_T55 l0 aj).f2))) (ds := []) (M_ 0 17) (by kernel_rfl) rfl rfl ⟨(blk_cell ay.out 0).trans rfl, (blk_cell ay.out 1).trans rfl, (blk_cell ay.out 2).trans rfl⟩ (fun hHeld => ?_); refine with_tabW spec_shGood.tab4 spec_shGood.bits4 (fun HT_ HW_ => ?_)
     generalize xX.drew = mm at ay HB hHeld ⊢
     refine tk3_ 0 14 (M_ 1 16) hHeld ?_
     refine one_ (i := 1) (N := some 15) (M_ 2 15) rfl rfl (one_of HT_.out (by kernel_rfl)) (by decide) (fun K hK => ?_)
     refine goes_ Tryz.func56 (by kernel_rfl) rfl #[.agg #[.int .i64 ((rd_T55 l0 aj).f0), .int .i64 ((rd_T55 l0 aj).f1), .int .i64 ((rd_T55 l0 aj).f2)]] (by rfl) rfl rfl (Z46) ?_
     with_reducible refine (spec_shHole.calls ((rd_T55 l0 aj).f0) ((rd_T55 l0 aj).f1) ((rd_T55 l0 aj).f2) false _ A8.out).mono ?_
     rintro e mn ⟨rfl, hb⟩
     refine ⟨_, rfl, ?_⟩
     have n0_ := Aside0.mk (Ye_ ay)
     have n1_ := Aside0.mk (below_step (Z18) hb)
     clear ay
     clear HB
     have ay := n0_
     have HB := n1_
     clear n0_ n1_
     (try clear hb)
     refine hK.out _ _ ⟨(blk_cell ay.out 0).trans rfl, (blk_cell ay.out 1).trans rfl, (blk_cell ay.out 2).trans rfl⟩ (fun hHeld => ?_)
     clear hK K
     refine norm_ (a' := ?_) ?_ ?_
     rotate_left
     ·show Act.put _ (some 15) _ = _
      simp only [Act.put, List.setIfInBounds_toArray, List.set_cons_zero, List.set_cons_succ, i64_w, i32_w]
      rfl
     refine pu_ 2 16 (M_ 3 14) ?_
     refine pu_ 3 17 (M_ 4 13) ?_
     refine pn_ 4 18 (M_ 5 12) ?_
     refine pn_ 5 19 (M_ 6 11) ?_
     refine pn_ 6 20 (M_ 7 10) ?_
     refine pn_ 7 21 (M_ 8 9) ?_
     refine pn_ 8 22 (M_ 9 8) ?_
     refine pn_ 9 23 (M_ 10 7) ?_
     refine pn_ 10 24 (M_ 11 6) ?_
     refine pn_ 11 25 (M_ 12 5) ?_
     refine pn_ 12 26 (M_ 13 4) ?_
     refine pn_ 13 27 (M_ 14 3) ?_
     refine pn_ 14 28 (M_ 15 2) ?_
     refine pn_ 15 29 (M_ 16 1) ?_
     refine pu_ 16 30 (M_ 17 0) ?_
     refine done_ (done_of HT_.out (by kernel_rfl)) ?_
     try go_wp2
     go_meet
     case rel => exact ⟨_, (true), (Z11), H', ⟨Z60 HK1⟩, ⟨Z7 ay⟩, ⟨Z18⟩⟩
    case rest =>
     clear HC5
     (try clear c2); (try clear eu); (try clear c3); (try clear bA); (try clear c4); (try clear bZ); (try clear je); (try clear jf); (try clear jg); (try clear jh); (try clear ji); (try clear jj); (try clear ix); (try clear iy); (try clear iz); (try clear uU); (try clear uV)
     obtain ⟨kq, qk, rfl, HA, ud, ay, HB⟩ := hcut
     cases kq with
     | zero => exact absurd HA.out (by simp [spec_shGood.j1])
     | succ vT =>
      have H := HA.out
      clear HA
      simp only [spec_shGood.j1] at H
      by_cases c25 : qk = true
      ·subst c25
       rw [if_pos rfl] at H
       obtain rfl := Option.some.inj H
       go_wp2
       go_ret
       exact ⟨Z9, Z18⟩
      replace c25 := Bool.eq_false_iff.mpr c25
      subst c25
      rw [if_neg (show ¬ (false = true) by decide)] at H
      by_cases c26 : 0 ≤ aj
      case neg => rw [if_neg c26] at H; exact absurd H (by simp)
      rw [if_pos c26] at H
      have c26b0 := eq_true c26
      have c26b1 : decide (0 ≤ aj) = true := decide_eq_true c26
      clear c26
      by_cases c27 : aj ≤ (l0.length : Int)
      case neg => rw [if_neg c27] at H; exact absurd H (by simp)
      rw [if_pos c27] at H
      have lm := eq_true c27
      have ln : decide (aj ≤ (l0.length : Int)) = true := decide_eq_true c27
      clear c27
      obtain ⟨dw, ny⟩ : ∃ y_ : List (S55), y_ = (l0.take (aj : Int).toNat) := ⟨_, rfl⟩
      replace H : (spec_shGood.l1 vT l0 l0 (l0.length : Int) aj dw (dw.length : Int) 0 ((rd_T55 l0 aj).f0) ((rd_T55 l0 aj).f1) ((rd_T55 l0 aj).f2)) = some r := by first | (rw [ny]; with_reducible exact H) | (have H2_ := (Option.bind_some _ _).symm.trans H; rw [ny]; with_reducible exact H2_) | (have H2_ := (Option.bind_some _ _).symm.trans H; with_reducible exact H2_) | with_reducible exact H | (rw [ny]; exact H) | exact H
      have xv := Aside0.mk ny
      clear ny
      have H' := Aside0.mk H
      clear H
      have Co : (aj : Int) ≤ ((l0.length : Int) : Int) := of_decide_eq_true (Z8)
      obtain ⟨i028, hi028, _, hsz28, _⟩ := info_parts info55
      have hroom28 : l0.length ≤ c0 := HC0.out
      have hC28 : Kd.C k55 _ (some fj) l0.length l0 := HR0.out
      have hcut28 := cut_to (P := Tryz.prog) 24 55 .i64 Tryz.underlying24 hi028 (some fj) l0.length c0 aj (of_decide_eq_true (Z8)) Co hroom28
      have hr28 := Kd.C_take (m := (aj : Int).toNat) hC28 (by omega)
      have zc : dw.length = (aj : Int).toNat := (Z118 xv)
      rw [← xv.out] at hr28
      rw [← zc] at hcut28
      have HR125 := Aside0.mk hr28
      have HC125 := Aside0.mk (show dw.length ≤ c0 from by omega)
      clear hr28 hC28 hroom28 hi028 hsz28
      have KY28 := Aside0.mk zc
      clear zc
      replace Co := eq_true Co
      go_wp2
      go_loopg [35] vT (fun kq v35 w' => ∃ (bP : Int), v35 = .int .i64 bP ∧ Aside0 (spec_shGood.l1 kq l0 l0 (l0.length : Int) aj dw (dw.length : Int) bP ((rd_T55 l0 aj).f0) ((rd_T55 l0 aj).f1) ((rd_T55 l0 aj).f2) = some r) ∧ Aside0 (kq ≤ vT) ∧ Aside0 (w'.heap[aQ]? = some (.cells #[.int .i64 ((rd_T55 l0 aj).f0), .int .i64 ((rd_T55 l0 aj).f1), .int .i64 ((rd_T55 l0 aj).f2)] 55 (0, 0))) ∧ Aside0 (Below w.heap.size w w'))
      case atStart => exact ⟨(0), (Z11), H', ⟨Nat.le_refl _⟩, ⟨Z7 ay⟩, ⟨Z18⟩⟩
      case round =>
       clear H'
       (try clear c25); (try clear c26); (try clear c26b0); (try clear c26b1); (try clear c27); (try clear lm); (try clear ln); (try clear Co)
       obtain ⟨bP, rfl, HA, HK3, ay, HB⟩ := hrel
       cases gk with
       | zero => exact absurd HA.out (by simp [spec_shGood.l1])
       | succ k3 =>
        have H := HA.out
        clear HA
        simp only [spec_shGood.l1] at H
        by_cases c29 : bP < (dw.length : Int)
        ·rw [if_pos c29] at H
         have mu : decide (bP < (dw.length : Int)) = true := decide_eq_true c29
         clear c29
         by_cases c30 : 0 ≤ bP
         case neg => rw [if_neg c30] at H; exact absurd H (by simp)
         rw [if_pos c30] at H
         have pO : decide (0 ≤ bP) = true := decide_eq_true c30
         clear c30
         by_cases c31 : bP < (dw.length : Int)
         case neg => rw [if_neg c31] at H; exact absurd H (by simp)
         rw [if_pos c31] at H
         have lb : decide (bP < (dw.length : Int)) = true := decide_eq_true c31
         clear c31
         by_cases c32 : ((rd_T55 l0 aj).f0) = ((rd_T55 dw bP).f0)
         ·rw [if_pos c32] at H
          have m9 : (((rd_T55 l0 aj).f0) == ((rd_T55 dw bP).f0)) = true := beq_iff_eq.mpr c32
          have c32b1 : (((rd_T55 l0 aj).f0) != ((rd_T55 dw bP).f0)) = false := bne_eq_false_iff_eq.mpr c32
          clear c32
          by_cases c33 : ((rd_T55 dw bP).f2) ≥ ((rd_T55 l0 aj).f1)
          ·rw [if_pos c33] at H
           have iO : decide (((rd_T55 l0 aj).f1) ≤ ((rd_T55 dw bP).f2)) = true := decide_eq_true c33
           clear c33
           obtain rfl := Option.some.inj H
           have js : 0 ≤ (bP : Int) := of_decide_eq_true (Z8)
           have jt : bP < (dw.length : Int) := of_decide_eq_true (Z8)
           obtain ⟨nz, e126, cL, cM, cN⟩ := at_T55 HR125.out bP js jt
           obtain rfl : fj = nz := (by injection e126)
           replace cL := (HB.out.cell (World.block_lt_of_cell? w _ cL)).trans cL
           replace cM := (HB.out.cell (World.block_lt_of_cell? w _ cM)).trans cM
           replace cN := (HB.out.cell (World.block_lt_of_cell? w _ cN)).trans cN
           replace js := eq_true js
           replace jt := eq_true jt
           go_wp2_with ((with_reducible refine gate_dst (N := 6) rfl ?_); refine bv_ 6 55 #[.int .i64 0, .int .i64 0, .int .i64 0] ?_; intro d0 hg ub hbox hb; refine k7_ (Ye_ ay) (below_step (Z18) hb) (hbox) ((Z111 : w.heap.size ≤ d0)) ((Z111 : w.heap.size ≤ d0)) ((Z81 : aQ ≠ d0)) ((Z82 : d0 ≠ aQ)) ?_; clear ay HB; intro ay HB nA xw rF cC ej; clear hb hbox hg; have hnb35 := ej.out; have hnc35 := cC.out; obtain ⟨hcz36_0, hcz36_1, hcz36_2, hfz36_0, hfz36_1, hfz36_2⟩ := bx3_ (w := ub) nA.out; obtain ⟨hcz37_0, hcz37_1, hcz37_2, hfz37_0, hfz37_1, hfz37_2⟩ := bx3_ (w := ub) ay.out)
           go_ret
           exact ⟨Z9, Z75⟩
          rw [if_neg c33] at H
          have iO : decide (((rd_T55 l0 aj).f1) ≤ ((rd_T55 dw bP).f2)) = false := decide_eq_false c33
          clear c33
          have H' := Aside0.mk H
          clear H
          have js : 0 ≤ (bP : Int) := of_decide_eq_true (Z8)
          have jt : bP < (dw.length : Int) := of_decide_eq_true (Z8)
          obtain ⟨nz, e126, cL, cM, cN⟩ := at_T55 HR125.out bP js jt
          obtain rfl : fj = nz := (by injection e126)
          replace cL := (HB.out.cell (World.block_lt_of_cell? w _ cL)).trans cL
          replace cM := (HB.out.cell (World.block_lt_of_cell? w _ cM)).trans cM
          replace cN := (HB.out.cell (World.block_lt_of_cell? w _ cN)).trans cN
          replace js := eq_true js
          replace jt := eq_true jt
          go_wp2_with ((with_reducible refine gate_dst (N := 6) rfl ?_); refine bv_ 6 55 #[.int .i64 0, .int .i64 0, .int .i64 0] ?_; intro d0 hg ru hbox hb; refine k7_ (Ye_ ay) (below_step (Z18) hb) (hbox) ((Z111 : w.heap.size ≤ d0)) ((Z111 : w.heap.size ≤ d0)) ((Z81 : aQ ≠ d0)) ((Z82 : d0 ≠ aQ)) ?_; clear ay HB; intro ay HB nA xw rF cC ej; clear hb hbox hg; have hnb39 := ej.out; have hnc39 := cC.out; obtain ⟨hcz40_0, hcz40_1, hcz40_2, hfz40_0, hfz40_1, hfz40_2⟩ := bx3_ (w := ru) nA.out; obtain ⟨hcz41_0, hcz41_1, hcz41_2, hfz41_0, hfz41_1, hfz41_2⟩ := bx3_ (w := ru) ay.out)
          go_roundg k3
          case measure => have := HK1.out; have := ud.out; have := HK3.out; omega
          case rel => exact ⟨(wrap64 (bP + 1)), (Z11), H', ⟨Z124⟩, ⟨Z62⟩, ⟨Z75⟩⟩
         rw [if_neg c32] at H
         have m9 : (((rd_T55 l0 aj).f0) == ((rd_T55 dw bP).f0)) = false := beq_eq_false_iff_ne.mpr c32
         have c32b1 : (((rd_T55 l0 aj).f0) != ((rd_T55 dw bP).f0)) = true := bne_iff_ne.mpr c32
         have H' := Aside0.mk H
         clear H
         have js : 0 ≤ (bP : Int) := of_decide_eq_true (Z8)
         have jt : bP < (dw.length : Int) := of_decide_eq_true (Z8)
         obtain ⟨nz, e126, cL, cM, cN⟩ := at_T55 HR125.out bP js jt
         obtain rfl : fj = nz := (by injection e126)
         replace cL := (HB.out.cell (World.block_lt_of_cell? w _ cL)).trans cL
         replace cM := (HB.out.cell (World.block_lt_of_cell? w _ cM)).trans cM
         replace cN := (HB.out.cell (World.block_lt_of_cell? w _ cN)).trans cN
         replace js := eq_true js
         replace jt := eq_true jt
         go_wp2_with ((with_reducible refine gate_dst (N := 6) rfl ?_); refine bv_ 6 55 #[.int .i64 0, .int .i64 0, .int .i64 0] ?_; intro d0 hg Dc hbox hb; refine k7_ (Ye_ ay) (below_step (Z18) hb) (hbox) ((Z111 : w.heap.size ≤ d0)) ((Z111 : w.heap.size ≤ d0)) ((Z81 : aQ ≠ d0)) ((Z82 : d0 ≠ aQ)) ?_; clear ay HB; intro ay HB nA xw rF cC ej; clear hb hbox hg; have hnb43 := ej.out; have hnc43 := cC.out; obtain ⟨hcz44_0, hcz44_1, hcz44_2, hfz44_0, hfz44_1, hfz44_2⟩ := bx3_ (w := Dc) nA.out; obtain ⟨hcz45_0, hcz45_1, hcz45_2, hfz45_0, hfz45_1, hfz45_2⟩ := bx3_ (w := Dc) ay.out)
         go_roundg k3
         case measure => have := HK1.out; have := ud.out; have := HK3.out; omega
         case rel => exact ⟨(wrap64 (bP + 1)), (Z11), H', ⟨Z124⟩, ⟨Z62⟩, ⟨Z75⟩⟩
        rw [if_neg c29] at H
        have mu : decide (bP < (dw.length : Int)) = false := decide_eq_false c29
        clear c29
        have H' := Aside0.mk H
        clear H
        go_wp2
        go_roundg k3
        case measure => have := HK1.out; have := ud.out; have := HK3.out; omega
        case rel => exact ⟨(wrap64 (aj + 1)), (Z11), H', ⟨Z124⟩, ⟨Z18⟩⟩
   rw [if_neg c2] at H
   have eu : decide (aj < (l0.length : Int)) = false := decide_eq_false c2
   clear c2
   obtain rfl := Option.some.inj H
   go_wp2
   go_ret
   exact ⟨Z9, Z2⟩

end Go.Proofs.YtcpbncljimmkfaaGreatDoor.PFnScans
