-- written by a program of this session: the kit's print, with outer functions of the session's own (wip/ext)
import Derived.Test.YtmnnmddfmmaohaaPFnPunchJobsx0
import Derived.Test.YtmnnmddfmmaohaaPFnPunchJobsx2
namespace Go.Proofs.Ytmnnmddfmmaohaa.PFnPunchJobs
open Go.RowKit Go.Proofs.YtmnnmddfmmaohaaW.PrintWords Go.Proofs.YtmnnmddfmmaohaaW.PrintLast Go.Proofs.YtmnnmddfmmaohaaW.PrintMore
attribute [local go_sem] max2_int min2_int max_two min_two max_three min_three max_four min_four   -- for this text's walks alone
set_option linter.unusedVariables false
set_option linter.unusedSimpArgs false
theorem mo3_ {p : Prop} (h : p := by repeat' first | (with_reducible first | apply ih0 | apply ih0 | apply ih1 | apply ih1 | apply ih2 | apply ih2 | exact LeO.refl _ | exact LeO.none _ | refine LeO.ite ?_ ?_ | refine LeO.bind ?_ (fun _ => ?_)) | exact LeO.none _ | refine LeO.ite ?_ ?_ | refine LeO.bind ?_ (fun _ => ?_)) : p := h

/-! ### spec_shGood: function 84 -/
mutual
def spec_shGood.l0 : Nat → List (S90) → List (S90) → Int → Int → Option (Bool)
 | 0, _, _, _, _ => none
 | k + 1, x0, x7, x8, x9 => if x9 < x8 then (if 0 ≤ x9 then (if x9 < (x7.length : Int) then ((spec_shHole.f ((rd_T90 x7 x9).f0) ((rd_T90 x7 x9).f1) ((rd_T90 x7 x9).f2)).bind fun Ge => (if Ge = true then (if x9 > 0 then (if 0 ≤ (wrap64 (x9 - 1)) then (if (wrap64 (x9 - 1)) < (x0.length : Int) then ((spec_shBefore.f ((rd_T90 x0 (wrap64 (x9 - 1))).f0) ((rd_T90 x0 (wrap64 (x9 - 1))).f1) ((rd_T90 x0 (wrap64 (x9 - 1))).f2) ((rd_T90 x7 x9).f0) ((rd_T90 x7 x9).f1) ((rd_T90 x7 x9).f2)).bind fun yi => (spec_shGood.j1 k x0 x9 x7 x8 x9 (!yi) ((rd_T90 x7 x9).f0) ((rd_T90 x7 x9).f1) ((rd_T90 x7 x9).f2))) else (none)) else (none)) else (spec_shGood.j1 k x0 x9 x7 x8 x9 false ((rd_T90 x7 x9).f0) ((rd_T90 x7 x9).f1) ((rd_T90 x7 x9).f2))) else (spec_shGood.j1 k x0 x9 x7 x8 x9 true ((rd_T90 x7 x9).f0) ((rd_T90 x7 x9).f1) ((rd_T90 x7 x9).f2)))) else (none)) else (none)) else (some (decide ((x0.length : Int) ≤ 60)))
def spec_shGood.j1 : Nat → List (S90) → Int → List (S90) → Int → Int → Bool → Int → Int → Int → Option (Bool)
 | 0, _, _, _, _, _, _, _, _, _ => none
 | k + 1, x0, x3, x7, x8, x9, x30, nE, nF, o5 => if x30 = true then (some false) else (if 0 ≤ x3 then (if x3 ≤ (x0.length : Int) then ((some (x0.take (x3 : Int).toNat : List (S90))).bind fun gO => (spec_shGood.l1 k x0 x7 x8 x9 gO (gO.length : Int) 0 nE nF o5)) else (none)) else (none))
def spec_shGood.l1 : Nat → List (S90) → List (S90) → Int → Int → List (S90) → Int → Int → Int → Int → Int → Option (Bool)
 | 0, _, _, _, _, _, _, _, _, _, _ => none
 | k + 1, x0, x7, x8, x9, x33, x34, x35, nE, nF, o5 => if x35 < x34 then (if 0 ≤ x35 then (if x35 < (x33.length : Int) then (if nE = ((rd_T90 x33 x35).f0) then (if ((rd_T90 x33 x35).f2) ≥ nF then (some false) else (spec_shGood.l1 k x0 x7 x8 x9 x33 x34 (wrap64 (x35 + 1)) nE nF o5)) else (spec_shGood.l1 k x0 x7 x8 x9 x33 x34 (wrap64 (x35 + 1)) nE nF o5)) else (none)) else (none)) else (spec_shGood.l0 k x0 x7 x8 (wrap64 (x9 + 1)))
end
def spec_shGood.f (k : Nat) (l0 : List (S90)) : Option (Bool) := spec_shGood.l0 k l0 l0 (l0.length : Int) 0
theorem spec_shGood.mono_l : ∀ k, (∀ y0 y1 y2 y3, LeO (spec_shGood.l0 k y0 y1 y2 y3) (spec_shGood.l0 (k + 1) y0 y1 y2 y3)) ∧ (∀ y0 y1 y2 y3 y4 y5 y6 y7 y8, LeO (spec_shGood.j1 k y0 y1 y2 y3 y4 y5 y6 y7 y8) (spec_shGood.j1 (k + 1) y0 y1 y2 y3 y4 y5 y6 y7 y8)) ∧ (∀ y0 y1 y2 y3 y4 y5 y6 y7 y8 y9, LeO (spec_shGood.l1 k y0 y1 y2 y3 y4 y5 y6 y7 y8 y9) (spec_shGood.l1 (k + 1) y0 y1 y2 y3 y4 y5 y6 y7 y8 y9))
 | 0 => ⟨fun _ _ _ _ r h => by simp [spec_shGood.l0] at h, fun _ _ _ _ _ _ _ _ _ r h => by simp [spec_shGood.j1] at h, fun _ _ _ _ _ _ _ _ _ _ r h => by simp [spec_shGood.l1] at h⟩
 | k + 1 => by
  obtain ⟨ih0, ih1, ih2⟩ := spec_shGood.mono_l k
  refine ⟨?_, ?_, ?_⟩
  ·intro y0 y1 y2 y3
   unfold spec_shGood.l0
   exact mo3_
  ·intro y0 y1 y2 y3 y4 y5 y6 y7 y8
   unfold spec_shGood.j1
   exact mo3_
  intro y0 y1 y2 y3 y4 y5 y6 y7 y8 y9
  unfold spec_shGood.l1
  exact mo3_
theorem spec_shGood.mono : ∀ a0 k, LeO (spec_shGood.f k a0) (spec_shGood.f (k + 1) a0) := by
 intro a0 k
 obtain ⟨ih0, ih1, ih2⟩ := spec_shGood.mono_l k
 unfold spec_shGood.f
 exact mo3_
def spec_shGood.T4 : Bool × List (List Nat × List Nat) := (true, [([], []), ([0], [0]), ([1], [1]), ([2, 1], [2]), ([3], [3]), ([4, 3], [3, 4]), ([5, 3, 3], [3, 5]), ([6], [6]), ([6], [6]), ([8, 6], [6, 8]), ([7, 9, 6], [6, 7, 9]), ([10, 6], [6, 10]), ([6], [6]), ([11, 12, 6, 6], [6, 11, 12]), ([13, 6], [6, 13]), ([6, 14, 3], [3, 6, 14]), ([3, 15], [3, 15])])
def spec_shGood.B4 : List Nat := [0, 1, 3, 7, 15, 31, 63, 127, 127, 383, 1023, 2047, 127, 8191, 16383, 32767, 65535]
theorem spec_shGood.tab4 : rtab .any (opsOf Try.f84 4) = spec_shGood.T4 := by kernel_rfl
theorem spec_shGood.bits4 : waitsOk spec_shGood.T4.2 spec_shGood.B4 = true := by kernel_rfl
set_option maxHeartbeats 8000000 in
set_option maxRecDepth 100000 in
theorem spec_shGood.calls (k : Nat) (A0 : Option Addr) (c0 : Nat) (l0 : List (S90)) (r : Bool) (w : World) (hr0 : Kd.C k90 w A0 l0.length l0) (hc0 : l0.length ≤ c0) (h : spec_shGood.f k l0 = some r) :
  Calls Try.prog 84 #[.slice A0 l0.length c0] w fun e w' => e = .returned (.bool r) ∧ Below w.heap.size w w' := by
 have hu90 := Try.underlying90
 have HR0 := Aside0.mk hr0
 have HC0 := Aside0.mk hc0
 clear hr0 hc0
 have HB := Aside0.mk (Below.refl w.heap.size w)
 have H : (spec_shGood.l0 k l0 l0 (l0.length : Int) 0) = some r := h
 clear h
 have H' := Aside0.mk H
 clear H
 go_enter Try.func84, Try.ntmps84
 go_wp2
 go_loopg [9] k (fun kq v9 w' => ∃ (bA : Int), v9 = .int .i64 bA ∧ Aside0 (spec_shGood.l0 kq l0 l0 (l0.length : Int) bA = some r) ∧ Aside0 (kq ≤ k) ∧ Aside0 (Below w.heap.size w w'))
 case atStart => exact ⟨(0), (Z41), H', ⟨Nat.le_refl _⟩, ⟨Z5⟩⟩
 case round =>
  clear H'
  obtain ⟨bA, rfl, HA, HK1, HB⟩ := hrel
  cases gk with
  | zero => exact absurd HA.out (by simp [spec_shGood.l0])
  | succ k1 =>
   have H := HA.out
   clear HA
   simp only [spec_shGood.l0] at H
   by_cases c2 : bA < (l0.length : Int)
   ·rw [if_pos c2] at H
    have hP : decide (bA < (l0.length : Int)) = true := decide_eq_true c2
    clear c2
    by_cases c3 : 0 ≤ bA
    case neg => rw [if_neg c3] at H; exact absurd H (by simp)
    rw [if_pos c3] at H
    have f5 : decide (0 ≤ bA) = true := decide_eq_true c3
    clear c3
    by_cases c4 : bA < (l0.length : Int)
    case neg => rw [if_neg c4] at H; exact absurd H (by simp)
    rw [if_pos c4] at H
    have go : decide (bA < (l0.length : Int)) = true := decide_eq_true c4
    clear c4
    have HC5 := Aside0.mk H
    clear H
    have CJ : 0 ≤ (bA : Int) := of_decide_eq_true (Z21)
    have CK : bA < (l0.length : Int) := of_decide_eq_true (Z21)
    obtain ⟨lr, e118, o6, o7, o8⟩ := at_T90 HR0.out bA CJ CK
    cases e118
    replace o6 := (HB.out.cell (World.block_lt_of_cell? w _ o6)).trans o6
    replace o7 := (HB.out.cell (World.block_lt_of_cell? w _ o7)).trans o7
    replace o8 := (HB.out.cell (World.block_lt_of_cell? w _ o8)).trans o8
    replace CJ := eq_true CJ
    replace CK := eq_true CK
    go_upto_region 4 with ((with_reducible refine gate_dst (N := 4) rfl ?_); refine bv_ 4 90 #[.int .i64 0, .int .i64 0, .int .i64 0] ?_; intro dA hg w6 hbox hb; refine k4_ (below_step (Z5) hb) (hbox) ((Z38 : w.heap.size ≤ dA)) ((Z38 : w.heap.size ≤ dA)) ?_; clear HB; intro HB bY GW119 Dl; clear hb hbox hg; obtain ⟨mw, my, rP, mz, mA, rQ⟩ := bx3_ (w := w6) bY.out)
    (try simp only [Act.put, List.setIfInBounds_toArray, List.set_cons_zero, List.set_cons_succ])
    go_cut [30] (fun v30 wc => ∃ (kq : Nat) (xA : Bool), v30 = .bool xA ∧ Aside0 (spec_shGood.j1 kq l0 bA l0 (l0.length : Int) bA xA ((rd_T90 l0 bA).f0) ((rd_T90 l0 bA).f1) ((rd_T90 l0 bA).f2) = some r) ∧ Aside0 (kq ≤ k1) ∧ Aside0 (wc.heap[dA]? = some (.cells #[.int .i64 ((rd_T90 l0 bA).f0), .int .i64 ((rd_T90 l0 bA).f1), .int .i64 ((rd_T90 l0 bA).f2)] 90 (0, 0))) ∧ Aside0 (Below w.heap.size w wc))
    case first =>
     have H := HC5.out
     clear HC5
     obtain ⟨Ge, A8, H⟩ := bd_ H
     (try dsimp only at H)
     by_cases c9 : Ge = true
     ·subst c9
      rw [if_pos rfl] at H
      by_cases c10 : bA > 0
      ·rw [if_pos c10] at H
       have ga : decide (0 < bA) = true := decide_eq_true c10
       clear c10
       (first | rw [ga] | (simp only [i64_w, i32_w]; rw [ga]) | skip)
       obtain ⟨gz, hji11⟩ : ∃ j_ : Int, (wrap64 (bA - 1)) = j_ := ⟨_, rfl⟩
       replace H : (if 0 ≤ (gz) then (if (gz) < (l0.length : Int) then ((spec_shBefore.f ((rd_T90 l0 (gz)).f0) ((rd_T90 l0 (gz)).f1) ((rd_T90 l0 (gz)).f2) ((rd_T90 l0 bA).f0) ((rd_T90 l0 bA).f1) ((rd_T90 l0 bA).f2)).bind fun yi => (spec_shGood.j1 k1 l0 bA l0 (l0.length : Int) bA (!yi) ((rd_T90 l0 bA).f0) ((rd_T90 l0 bA).f1) ((rd_T90 l0 bA).f2))) else (none)) else (none)) = some r := by first | (rw [hji11] at H; exact H) | (simp only [hji11] at H ⊢; exact H)
       (try rw [hji11] at A8)
       have hji11w : (IntKind.i64.wrap (bA - 1)) = gz := (i64_w _).trans hji11
       by_cases c12 : 0 ≤ (gz)
       case neg => rw [if_neg c12] at H; exact absurd H (by simp)
       rw [if_pos c12] at H
       have na : decide (0 ≤ (gz)) = true := decide_eq_true c12
       clear c12
       by_cases c13 : (gz) < (l0.length : Int)
       case neg => rw [if_neg c13] at H; exact absurd H (by simp)
       rw [if_pos c13] at H
       have yY : decide ((gz) < (l0.length : Int)) = true := decide_eq_true c13
       clear c13
       obtain ⟨yi, Jm, H⟩ := bd_ H
       (try dsimp only at H)
       have H' := Aside0.mk H
       clear H
       try go_wp2
       have n0_ : Aside0 ((((w6.setCell ⟨dA, 0, none⟩ (.int .i64 ((rd_T90 l0 bA).f0))).setCell ⟨dA, 1, none⟩ (.int .i64 ((rd_T90 l0 bA).f1))).setCell ⟨dA, 2, none⟩ (.int .i64 ((rd_T90 l0 bA).f2))).heap[dA]? = some (.cells #[.int .i64 ((rd_T90 l0 bA).f0), .int .i64 ((rd_T90 l0 bA).f1), .int .i64 ((rd_T90 l0 bA).f2)] 90 (0, 0))) := ⟨Z113⟩
       have n1_ : Aside0 (Below w.heap.size w (((w6.setCell ⟨dA, 0, none⟩ (.int .i64 ((rd_T90 l0 bA).f0))).setCell ⟨dA, 1, none⟩ (.int .i64 ((rd_T90 l0 bA).f1))).setCell ⟨dA, 2, none⟩ (.int .i64 ((rd_T90 l0 bA).f2)))) := ⟨Z56⟩
       (try clear bY)
       (try clear HB)
       generalize (((w6.setCell ⟨dA, 0, none⟩ (.int .i64 ((rd_T90 l0 bA).f0))).setCell ⟨dA, 1, none⟩ (.int .i64 ((rd_T90 l0 bA).f1))).setCell ⟨dA, 2, none⟩ (.int .i64 ((rd_T90 l0 bA).f2))) = qt at n0_ n1_ ⊢
       have bY := n0_
       have HB := n1_
       clear n0_ n1_
       refine k2_ (blk_drew bY.out) (below_drew1 HB.out) ?_
       clear bY HB
       intro bY HB
       have CL : 0 ≤ ((gz) : Int) := of_decide_eq_true (Z21)
       have CM : (gz) < (l0.length : Int) := of_decide_eq_true (Z21)
       obtain ⟨ad121, e121, lV, lW, lX⟩ := at_T90 HR0.out (gz) CL CM
       have hw121_2 := lX
       have hw121_1 := lW
       have hw121_0 := lV
       obtain rfl : lr = ad121 := (by injection e121)
       replace lV := (HB.out.cell (World.block_lt_of_cell? w _ lV)).trans lV
       replace lW := (HB.out.cell (World.block_lt_of_cell? w _ lW)).trans lW
       replace lX := (HB.out.cell (World.block_lt_of_cell? w _ lX)).trans lX
       replace CL := eq_true CL
       replace CM := eq_true CM
       refine start_ (n := 17) (S := fun w' => w'.cell? ⟨dA, 0, none⟩ = some (.int .i64 ((rd_T90 l0 bA).f0)) ∧ w'.cell? ⟨dA, 1, none⟩ = some (.int .i64 ((rd_T90 l0 bA).f1)) ∧ w'.cell? ⟨dA, 2, none⟩ = some (.int .i64 ((rd_T90 l0 bA).f2)) ∧ w'.cell? (lr.add (((gz)).toNat * 3)) = some (.int .i64 ((rd_T90 l0 (gz)).f0)) ∧ w'.cell? ⟨(lr.add (((gz)).toNat * 3)).block, (lr.add (((gz)).toNat * 3)).off + 1, none⟩ = some (.int .i64 ((rd_T90 l0 (gz)).f1)) ∧ w'.cell? ⟨(lr.add (((gz)).toNat * 3)).block, (lr.add (((gz)).toNat * 3)).off + 2, none⟩ = some (.int .i64 ((rd_T90 l0 (gz)).f2))) (ds := []) (M_ 0 17) (by kernel_rfl) rfl rfl ⟨(blk_cell bY.out 0).trans rfl, (blk_cell bY.out 1).trans rfl, (blk_cell bY.out 2).trans rfl, ((HB.out.cell (World.block_lt_of_cell? w _ hw121_0)).trans hw121_0), ((HB.out.cell (World.block_lt_of_cell? w _ hw121_1)).trans hw121_1), ((HB.out.cell (World.block_lt_of_cell? w _ hw121_2)).trans hw121_2)⟩ (fun hHeld => ?_); refine with_tabW spec_shGood.tab4 spec_shGood.bits4 (fun HT_ HW_ => ?_)
       generalize qt.drew = mT at bY HB lV lW lX hHeld ⊢
       refine tk6_ 0 14 (M_ 1 16) hHeld ?_
       refine one_ (i := 1) (N := some 15) (M_ 2 15) rfl rfl (one_of HT_.out (by kernel_rfl)) (by decide) (fun K hK => ?_)
       refine goes_ Try.func108 (by kernel_rfl) rfl #[.agg #[.int .i64 ((rd_T90 l0 bA).f0), .int .i64 ((rd_T90 l0 bA).f1), .int .i64 ((rd_T90 l0 bA).f2)]] (by rfl) rfl rfl (Z107) ?_
       with_reducible refine (spec_shHole.calls ((rd_T90 l0 bA).f0) ((rd_T90 l0 bA).f1) ((rd_T90 l0 bA).f2) true _ A8.out).mono ?_
       rintro e ws ⟨rfl, hb⟩
       refine ⟨_, rfl, ?_⟩
       have n0_ := Aside0.mk (Ye_ bY)
       have n1_ := Aside0.mk (below_step (Z56) hb)
       clear bY
       clear HB
       have bY := n0_
       have HB := n1_
       clear n0_ n1_
       (try clear hb)
       (try clear hb2)
       (try clear hk)
       (try clear hi)
       refine hK.out _ _ ⟨(blk_cell bY.out 0).trans rfl, (blk_cell bY.out 1).trans rfl, (blk_cell bY.out 2).trans rfl, ((HB.out.cell (World.block_lt_of_cell? w _ hw121_0)).trans hw121_0), ((HB.out.cell (World.block_lt_of_cell? w _ hw121_1)).trans hw121_1), ((HB.out.cell (World.block_lt_of_cell? w _ hw121_2)).trans hw121_2)⟩ (fun hHeld => ?_)
       clear hK K
       refine norm_ (a' := ?_) ?_ ?_
       rotate_left
       ·show Act.put _ (some 15) _ = _
        simp only [Act.put, List.setIfInBounds_toArray, List.set_cons_zero, List.set_cons_succ, i64_w, i32_w]
        rfl
       refine pu_ 2 16 (M_ 3 14) ?_
       refine pu_ 3 17 (M_ 4 13) ?_
       refine pu_ 4 18 (M_ 5 12) ?_
       refine pu_ 5 19 (M_ 6 11) ?_
       refine pu_ 6 20 (M_ 7 10) ?_
       refine pu_ 7 21 (M_ 8 9) ?_
       refine pu_ 8 22 (M_ 9 8) ?_
       refine pu_ 9 23 (M_ 10 7) ?_
       refine pu_ 10 24 (M_ 11 6) ?_
       refine tk6_ 11 25 (M_ 12 5) hHeld ?_
       refine tk6_ 12 26 (M_ 13 4) hHeld ?_
       refine one_ (i := 13) (N := some 27) (M_ 14 3) rfl rfl (one_of HT_.out (by kernel_rfl)) (by decide) (fun K hK => ?_)
       refine goes_ Try.func109 (by kernel_rfl) rfl #[.agg #[.int .i64 ((rd_T90 l0 (gz)).f0), .int .i64 ((rd_T90 l0 (gz)).f1), .int .i64 ((rd_T90 l0 (gz)).f2)], .agg #[.int .i64 ((rd_T90 l0 bA).f0), .int .i64 ((rd_T90 l0 bA).f1), .int .i64 ((rd_T90 l0 bA).f2)]] (by rfl) rfl rfl (by (try simp only [List.map_toArray, List.map_cons, List.map_nil]); first | done | (simp only [hji11]; rfl) | rfl | (simp only [List.length_drop, List.length_take]; rfl)) ?_
       with_reducible refine (spec_shBefore.calls ((rd_T90 l0 (gz)).f0) ((rd_T90 l0 (gz)).f1) ((rd_T90 l0 (gz)).f2) ((rd_T90 l0 bA).f0) ((rd_T90 l0 bA).f1) ((rd_T90 l0 bA).f2) yi _ Jm.out).mono ?_
       rintro e B2 ⟨rfl, hb⟩
       refine ⟨_, rfl, ?_⟩
       have n0_ := Aside0.mk (Ye_ bY)
       have n1_ := Aside0.mk (below_step (Z56) hb)
       clear bY
       clear HB
       have bY := n0_
       have HB := n1_
       clear n0_ n1_
       refine hK.out _ _ ⟨(blk_cell bY.out 0).trans rfl, (blk_cell bY.out 1).trans rfl, (blk_cell bY.out 2).trans rfl, ((HB.out.cell (World.block_lt_of_cell? w _ hw121_0)).trans hw121_0), ((HB.out.cell (World.block_lt_of_cell? w _ hw121_1)).trans hw121_1), ((HB.out.cell (World.block_lt_of_cell? w _ hw121_2)).trans hw121_2)⟩ (fun hHeld => ?_)
       clear hK K
       refine norm_ (a' := ?_) ?_ ?_
       rotate_left
       ·show Act.put _ (some 27) _ = _
        simp only [Act.put, List.setIfInBounds_toArray, List.set_cons_zero, List.set_cons_succ, i64_w, i32_w]
        rfl
       refine pu_ 14 28 (M_ 15 2) ?_
       refine pu_ 15 29 (M_ 16 1) ?_
       refine pu_ 16 30 (M_ 17 0) ?_
       refine done_ (done_of HT_.out (by kernel_rfl)) ?_
       try go_wp2
       go_meet
       case rel => exact ⟨_, (!yi), (Z41), H', ⟨Z186 HK1⟩, ⟨Z1 bY⟩, ⟨Z56⟩⟩
      rw [if_neg c10] at H
      have ga : decide (0 < bA) = false := decide_eq_false c10
      clear c10
      (first | rw [ga] | (simp only [i64_w, i32_w]; rw [ga]) | skip)
      have H' := Aside0.mk H
      clear H
      try go_wp2
      have n0_ : Aside0 ((((w6.setCell ⟨dA, 0, none⟩ (.int .i64 ((rd_T90 l0 bA).f0))).setCell ⟨dA, 1, none⟩ (.int .i64 ((rd_T90 l0 bA).f1))).setCell ⟨dA, 2, none⟩ (.int .i64 ((rd_T90 l0 bA).f2))).heap[dA]? = some (.cells #[.int .i64 ((rd_T90 l0 bA).f0), .int .i64 ((rd_T90 l0 bA).f1), .int .i64 ((rd_T90 l0 bA).f2)] 90 (0, 0))) := ⟨Z113⟩
      have n1_ : Aside0 (Below w.heap.size w (((w6.setCell ⟨dA, 0, none⟩ (.int .i64 ((rd_T90 l0 bA).f0))).setCell ⟨dA, 1, none⟩ (.int .i64 ((rd_T90 l0 bA).f1))).setCell ⟨dA, 2, none⟩ (.int .i64 ((rd_T90 l0 bA).f2)))) := ⟨Z56⟩
      (try clear bY)
      (try clear HB)
      generalize (((w6.setCell ⟨dA, 0, none⟩ (.int .i64 ((rd_T90 l0 bA).f0))).setCell ⟨dA, 1, none⟩ (.int .i64 ((rd_T90 l0 bA).f1))).setCell ⟨dA, 2, none⟩ (.int .i64 ((rd_T90 l0 bA).f2))) = yZ at n0_ n1_ ⊢
      have bY := n0_
      have HB := n1_
      clear n0_ n1_
      refine k2_ (blk_drew bY.out) (below_drew1 HB.out) ?_
      clear bY HB
      intro bY HB
      refine start_ (n := 17) (S := fun w' => w'.cell? ⟨dA, 0, none⟩ = some (.int .i64 ((rd_T90 l0 bA).f0)) ∧ w'.cell? ⟨dA, 1, none⟩ = some (.int .i64 ((rd_T90 l0 bA).f1)) ∧ w'.cell? ⟨dA, 2, none⟩ = some (.int .i64 ((rd_T90 l0 bA).f2))) (ds := []) (M_ 0 17) (by kernel_rfl) rfl rfl ⟨(blk_cell bY.out 0).trans rfl, (blk_cell bY.out 1).trans rfl, (blk_cell bY.out 2).trans rfl⟩ (fun hHeld => ?_); refine with_tabW spec_shGood.tab4 spec_shGood.bits4 (fun HT_ HW_ => ?_)
      generalize yZ.drew = ss at bY HB hHeld ⊢
      refine tk3_ 0 14 (M_ 1 16) hHeld ?_
      refine one_ (i := 1) (N := some 15) (M_ 2 15) rfl rfl (one_of HT_.out (by kernel_rfl)) (by decide) (fun K hK => ?_)
      refine goes_ Try.func108 (by kernel_rfl) rfl #[.agg #[.int .i64 ((rd_T90 l0 bA).f0), .int .i64 ((rd_T90 l0 bA).f1), .int .i64 ((rd_T90 l0 bA).f2)]] (by rfl) rfl rfl (Z107) ?_
      with_reducible refine (spec_shHole.calls ((rd_T90 l0 bA).f0) ((rd_T90 l0 bA).f1) ((rd_T90 l0 bA).f2) true _ A8.out).mono ?_
      rintro e DD ⟨rfl, hb⟩
      refine ⟨_, rfl, ?_⟩
      have n0_ := Aside0.mk (Ye_ bY)
      have n1_ := Aside0.mk (below_step (Z56) hb)
      clear bY
      clear HB
      have bY := n0_
      have HB := n1_
      clear n0_ n1_
      (try clear hb)
      (try clear hb2)
      (try clear hk)
      (try clear hi)
      refine hK.out _ _ ⟨(blk_cell bY.out 0).trans rfl, (blk_cell bY.out 1).trans rfl, (blk_cell bY.out 2).trans rfl⟩ (fun hHeld => ?_)
      clear hK K
      refine norm_ (a' := ?_) ?_ ?_
      rotate_left
      ·show Act.put _ (some 15) _ = _
       simp only [Act.put, List.setIfInBounds_toArray, List.set_cons_zero, List.set_cons_succ, i64_w, i32_w]
       rfl
      refine pu_ 2 16 (M_ 3 14) ?_
      refine pu_ 3 17 (M_ 4 13) ?_
      refine pu_ 4 18 (M_ 5 12) ?_
      refine pu_ 5 19 (M_ 6 11) ?_
      refine pu_ 6 20 (M_ 7 10) ?_
      refine pn_ 7 21 (M_ 8 9) ?_
      refine pn_ 8 22 (M_ 9 8) ?_
      refine pn_ 9 23 (M_ 10 7) ?_
      refine pn_ 10 24 (M_ 11 6) ?_
      refine pn_ 11 25 (M_ 12 5) ?_
      refine pn_ 12 26 (M_ 13 4) ?_
      refine pn_ 13 27 (M_ 14 3) ?_
      refine pn_ 14 28 (M_ 15 2) ?_
      refine pu_ 15 29 (M_ 16 1) ?_
      refine pu_ 16 30 (M_ 17 0) ?_
      refine done_ (done_of HT_.out (by kernel_rfl)) ?_
      try go_wp2
      go_meet
      case rel => exact ⟨_, (false), (Z41), H', ⟨Z186 HK1⟩, ⟨Z1 bY⟩, ⟨Z56⟩⟩
     replace c9 := Bool.eq_false_iff.mpr c9
     subst c9
     rw [if_neg (show ¬ (false = true) by decide)] at H
     have H' := Aside0.mk H
     clear H
     try go_wp2
     have n0_ : Aside0 ((((w6.setCell ⟨dA, 0, none⟩ (.int .i64 ((rd_T90 l0 bA).f0))).setCell ⟨dA, 1, none⟩ (.int .i64 ((rd_T90 l0 bA).f1))).setCell ⟨dA, 2, none⟩ (.int .i64 ((rd_T90 l0 bA).f2))).heap[dA]? = some (.cells #[.int .i64 ((rd_T90 l0 bA).f0), .int .i64 ((rd_T90 l0 bA).f1), .int .i64 ((rd_T90 l0 bA).f2)] 90 (0, 0))) := ⟨Z113⟩
     have n1_ : Aside0 (Below w.heap.size w (((w6.setCell ⟨dA, 0, none⟩ (.int .i64 ((rd_T90 l0 bA).f0))).setCell ⟨dA, 1, none⟩ (.int .i64 ((rd_T90 l0 bA).f1))).setCell ⟨dA, 2, none⟩ (.int .i64 ((rd_T90 l0 bA).f2)))) := ⟨Z56⟩
     (try clear bY)
     (try clear HB)
     generalize (((w6.setCell ⟨dA, 0, none⟩ (.int .i64 ((rd_T90 l0 bA).f0))).setCell ⟨dA, 1, none⟩ (.int .i64 ((rd_T90 l0 bA).f1))).setCell ⟨dA, 2, none⟩ (.int .i64 ((rd_T90 l0 bA).f2))) = iU at n0_ n1_ ⊢
     have bY := n0_
     have HB := n1_
     clear n0_ n1_
     refine k2_ (blk_drew bY.out) (below_drew1 HB.out) ?_
     clear bY HB
     intro bY HB
     refine start_ (n := 17) (S := fun w' => w'.cell? ⟨dA, 0, none⟩ = some (.int .i64 ((rd_T90 l0 bA).f0)) ∧ w'.cell? ⟨dA, 1, none⟩ = some (.int .i64 ((rd_T90 l0 bA).f1)) ∧ w'.cell? ⟨dA, 2, none⟩ = some (.int .i64 ((rd_T90 l0 bA).f2))) (ds := []) (M_ 0 17) (by kernel_rfl) rfl rfl ⟨(blk_cell bY.out 0).trans rfl, (blk_cell bY.out 1).trans rfl, (blk_cell bY.out 2).trans rfl⟩ (fun hHeld => ?_); refine with_tabW spec_shGood.tab4 spec_shGood.bits4 (fun HT_ HW_ => ?_)
     generalize iU.drew = st at bY HB hHeld ⊢
     refine tk3_ 0 14 (M_ 1 16) hHeld ?_
     refine one_ (i := 1) (N := some 15) (M_ 2 15) rfl rfl (one_of HT_.out (by kernel_rfl)) (by decide) (fun K hK => ?_)
     refine goes_ Try.func108 (by kernel_rfl) rfl #[.agg #[.int .i64 ((rd_T90 l0 bA).f0), .int .i64 ((rd_T90 l0 bA).f1), .int .i64 ((rd_T90 l0 bA).f2)]] (by rfl) rfl rfl (Z107) ?_
     with_reducible refine (spec_shHole.calls ((rd_T90 l0 bA).f0) ((rd_T90 l0 bA).f1) ((rd_T90 l0 bA).f2) false _ A8.out).mono ?_
     rintro e fE ⟨rfl, hb⟩
     refine ⟨_, rfl, ?_⟩
     have n0_ := Aside0.mk (Ye_ bY)
     have n1_ := Aside0.mk (below_step (Z56) hb)
     clear bY
     clear HB
     have bY := n0_
     have HB := n1_
     clear n0_ n1_
     (try clear hb)
     (try clear hb2)
     (try clear hk)
     (try clear hi)
     refine hK.out _ _ ⟨(blk_cell bY.out 0).trans rfl, (blk_cell bY.out 1).trans rfl, (blk_cell bY.out 2).trans rfl⟩ (fun hHeld => ?_)
     clear hK K
     refine norm_ (a' := ?_) ?_ ?_
     rotate_left
     ·show Act.put _ (some 15) _ = _
      simp only [Act.put, List.setIfInBounds_toArray, List.set_cons_zero, List.set_cons_succ, i64_w, i32_w]
      rfl
     refine pu_ 2 16 (M_ 3 14) ?_
     refine pu_ 3 17 (M_ 4 13) ?_
     refine pn_ 4 18 (M_ 5 12) ?_
     refine pn_ 5 19 (M_ 6 11) ?_
     refine pn_ 6 20 (M_ 7 10) ?_
     refine pn_ 7 21 (M_ 8 9) ?_
     refine pn_ 8 22 (M_ 9 8) ?_
     refine pn_ 9 23 (M_ 10 7) ?_
     refine pn_ 10 24 (M_ 11 6) ?_
     refine pn_ 11 25 (M_ 12 5) ?_
     refine pn_ 12 26 (M_ 13 4) ?_
     refine pn_ 13 27 (M_ 14 3) ?_
     refine pn_ 14 28 (M_ 15 2) ?_
     refine pn_ 15 29 (M_ 16 1) ?_
     refine pu_ 16 30 (M_ 17 0) ?_
     refine done_ (done_of HT_.out (by kernel_rfl)) ?_
     try go_wp2
     go_meet
     case rel => exact ⟨_, (true), (Z41), H', ⟨Z186 HK1⟩, ⟨Z1 bY⟩, ⟨Z56⟩⟩
    case rest =>
     clear HC5
     (try clear c1); (try clear p1); (try clear q1); (try clear hx1); (try clear c2); (try clear hP); (try clear p2); (try clear c3); (try clear f5); (try clear c4); (try clear go); (try clear p6); (try clear c8); (try clear c9); (try clear c10); (try clear ga); (try clear Ib); (try clear xW); (try clear hx11); (try clear c12); (try clear na); (try clear p12); (try clear q12); (try clear hx12); (try clear c13); (try clear yY); (try clear mw); (try clear my); (try clear rP); (try clear mz); (try clear mA); (try clear rQ); (try clear o6); (try clear o7); (try clear o8); (try clear lV); (try clear lW); (try clear lX); (try clear CJ); (try clear CL); (try clear CK); (try clear CM)
     obtain ⟨kq, xA, rfl, HA, IU, bY, HB⟩ := hcut
     cases kq with
     | zero => exact absurd HA.out (by simp [spec_shGood.j1])
     | succ Jr =>
      have H := HA.out
      clear HA
      simp only [spec_shGood.j1] at H
      by_cases c25 : xA = true
      ·subst c25
       rw [if_pos rfl] at H
       obtain rfl := Option.some.inj H
       go_wp2
       go_ret
       exact ⟨Z11, Z56⟩
      replace c25 := Bool.eq_false_iff.mpr c25
      subst c25
      rw [if_neg (show ¬ (false = true) by decide)] at H
      by_cases c26 : 0 ≤ bA
      case neg => rw [if_neg c26] at H; exact absurd H (by simp)
      rw [if_pos c26] at H
      have c26b0 := eq_true c26
      have c26b1 : decide (0 ≤ bA) = true := decide_eq_true c26
      clear c26
      by_cases c27 : bA ≤ (l0.length : Int)
      case neg => rw [if_neg c27] at H; exact absurd H (by simp)
      rw [if_pos c27] at H
      have iZ := eq_true c27
      have qO : decide (bA ≤ (l0.length : Int)) = true := decide_eq_true c27
      clear c27
      obtain ⟨gO, tP⟩ : ∃ y_ : List (S90), y_ = (l0.take (bA : Int).toNat) := ⟨_, rfl⟩
      replace H : (spec_shGood.l1 Jr l0 l0 (l0.length : Int) bA gO (gO.length : Int) 0 ((rd_T90 l0 bA).f0) ((rd_T90 l0 bA).f1) ((rd_T90 l0 bA).f2)) = some r := hx_ tP H
      have EQ := Aside0.mk tP
      clear tP
      have H' := Aside0.mk H
      clear H
      have I3 : (bA : Int) ≤ ((l0.length : Int) : Int) := of_decide_eq_true (Z21)
      obtain ⟨i028, hi028, _, hsz28, _⟩ := info_parts info90
      have hroom28 : l0.length ≤ c0 := HC0.out
      have hC28 : Kd.C k90 _ (some lr) l0.length l0 := HR0.out
      have hcut28 := cut_to (P := Try.prog) 42 90 .i64 Try.underlying42 hi028 (some lr) l0.length c0 bA (of_decide_eq_true (Z21)) I3 hroom28
      have hr28 := Kd.C_take (m := (bA : Int).toNat) hC28 (by omega)
      have Gf : gO.length = (bA : Int).toNat := (Z263 EQ)
      rw [← EQ.out] at hr28
      rw [← Gf] at hcut28
      have HR126 := Aside0.mk hr28
      have HC126 := Aside0.mk (show gO.length ≤ c0 from by omega)
      clear hr28 hC28 hroom28 hi028 hsz28
      have KY28 := Aside0.mk Gf
      clear Gf
      replace I3 := eq_true I3
      go_wp2
      go_loopg [35] Jr (fun kq v35 w' => ∃ (eY : Int), v35 = .int .i64 eY ∧ Aside0 (spec_shGood.l1 kq l0 l0 (l0.length : Int) bA gO (gO.length : Int) eY ((rd_T90 l0 bA).f0) ((rd_T90 l0 bA).f1) ((rd_T90 l0 bA).f2) = some r) ∧ Aside0 (kq ≤ Jr) ∧ Aside0 (w'.heap[dA]? = some (.cells #[.int .i64 ((rd_T90 l0 bA).f0), .int .i64 ((rd_T90 l0 bA).f1), .int .i64 ((rd_T90 l0 bA).f2)] 90 (0, 0))) ∧ Aside0 (Below w.heap.size w w'))
      case atStart => exact ⟨(0), (Z41), H', ⟨Nat.le_refl _⟩, ⟨Z1 bY⟩, ⟨Z56⟩⟩
      case round =>
       clear H'
       (try clear q2); (try clear c25); (try clear c26); (try clear c26b0); (try clear c26b1); (try clear c27); (try clear iZ); (try clear qO); (try clear I3)
       obtain ⟨eY, rfl, HA, HK3, bY, HB⟩ := hrel
       cases gk with
       | zero => exact absurd HA.out (by simp [spec_shGood.l1])
       | succ k3 =>
        have H := HA.out
        clear HA
        simp only [spec_shGood.l1] at H
        by_cases c29 : eY < (gO.length : Int)
        ·rw [if_pos c29] at H
         have tl : decide (eY < (gO.length : Int)) = true := decide_eq_true c29
         clear c29
         by_cases c30 : 0 ≤ eY
         case neg => rw [if_neg c30] at H; exact absurd H (by simp)
         rw [if_pos c30] at H
         have wt : decide (0 ≤ eY) = true := decide_eq_true c30
         clear c30
         by_cases c31 : eY < (gO.length : Int)
         case neg => rw [if_neg c31] at H; exact absurd H (by simp)
         rw [if_pos c31] at H
         have c31b0 : decide (eY < (gO.length : Int)) = true := decide_eq_true c31
         clear c31
         by_cases c32 : ((rd_T90 l0 bA).f0) = ((rd_T90 gO eY).f0)
         ·rw [if_pos c32] at H
          have DF : (((rd_T90 l0 bA).f0) == ((rd_T90 gO eY).f0)) = true := beq_iff_eq.mpr c32
          have c32b1 : (((rd_T90 l0 bA).f0) != ((rd_T90 gO eY).f0)) = false := bne_eq_false_iff_eq.mpr c32
          clear c32
          by_cases c33 : ((rd_T90 gO eY).f2) ≥ ((rd_T90 l0 bA).f1)
          ·rw [if_pos c33] at H
           have za : decide (((rd_T90 l0 bA).f1) ≤ ((rd_T90 gO eY).f2)) = true := decide_eq_true c33
           clear c33
           obtain rfl := Option.some.inj H
           have qa : 0 ≤ (eY : Int) := of_decide_eq_true (Z21)
           have qb : eY < (gO.length : Int) := of_decide_eq_true (Z21)
           obtain ⟨tQ, e127, gg, gh, gi⟩ := at_T90 HR126.out eY qa qb
           obtain rfl : lr = tQ := (by injection e127)
           replace gg := (HB.out.cell (World.block_lt_of_cell? w _ gg)).trans gg
           replace gh := (HB.out.cell (World.block_lt_of_cell? w _ gh)).trans gh
           replace gi := (HB.out.cell (World.block_lt_of_cell? w _ gi)).trans gi
           replace qa := eq_true qa
           replace qb := eq_true qb
           go_wp2_with ((with_reducible refine gate_dst (N := 6) rfl ?_); refine bv_ 6 90 #[.int .i64 0, .int .i64 0, .int .i64 0] ?_; intro iF hg Gg hbox hb; refine k7_ (Ye_ bY) (below_step (Z56) hb) (hbox) ((Z248 : w.heap.size ≤ iF)) ((Z248 : w.heap.size ≤ iF)) ((Z208 : dA ≠ iF)) ((Z209 : iF ≠ dA)) ?_; clear bY HB; intro bY HB tR ER yO fZ jb; clear hb hbox hg; have Et := jb.out; have Eu := fZ.out; obtain ⟨lP, lQ, hcz36_2, lR, lS, hfz36_2⟩ := bx3_ (w := Gg) tR.out; obtain ⟨wu, wv, hcz37_2, ww, wx, hfz37_2⟩ := bx3_ (w := Gg) bY.out)
           go_ret
           exact ⟨Z11, Z202⟩
          rw [if_neg c33] at H
          have za : decide (((rd_T90 l0 bA).f1) ≤ ((rd_T90 gO eY).f2)) = false := decide_eq_false c33
          clear c33
          have H' := Aside0.mk H
          clear H
          have qa : 0 ≤ (eY : Int) := of_decide_eq_true (Z21)
          have qb : eY < (gO.length : Int) := of_decide_eq_true (Z21)
          obtain ⟨tQ, e127, gg, gh, gi⟩ := at_T90 HR126.out eY qa qb
          obtain rfl : lr = tQ := (by injection e127)
          replace gg := (HB.out.cell (World.block_lt_of_cell? w _ gg)).trans gg
          replace gh := (HB.out.cell (World.block_lt_of_cell? w _ gh)).trans gh
          replace gi := (HB.out.cell (World.block_lt_of_cell? w _ gi)).trans gi
          replace qa := eq_true qa
          replace qb := eq_true qb
          go_wp2_with ((with_reducible refine gate_dst (N := 6) rfl ?_); refine bv_ 6 90 #[.int .i64 0, .int .i64 0, .int .i64 0] ?_; intro iF hg Ct hbox hb; refine k7_ (Ye_ bY) (below_step (Z56) hb) (hbox) ((Z248 : w.heap.size ≤ iF)) ((Z248 : w.heap.size ≤ iF)) ((Z208 : dA ≠ iF)) ((Z209 : iF ≠ dA)) ?_; clear bY HB; intro bY HB tR ER yO fZ jb; clear hb hbox hg; have hnb39 := jb.out; have hnc39 := fZ.out; obtain ⟨hcz40_0, hcz40_1, hcz40_2, hfz40_0, hfz40_1, hfz40_2⟩ := bx3_ (w := Ct) tR.out; obtain ⟨oP, oQ, hcz41_2, oR, oS, hfz41_2⟩ := bx3_ (w := Ct) bY.out)
          go_roundg k3
          case measure => have := HK1.out; have := IU.out; have := HK3.out; omega
          case rel => exact ⟨(wrap64 (eY + 1)), (Z41), H', ⟨Z270⟩, ⟨Z171⟩, ⟨Z202⟩⟩
         rw [if_neg c32] at H
         have DF : (((rd_T90 l0 bA).f0) == ((rd_T90 gO eY).f0)) = false := beq_eq_false_iff_ne.mpr c32
         have c32b1 : (((rd_T90 l0 bA).f0) != ((rd_T90 gO eY).f0)) = true := bne_iff_ne.mpr c32
         have H' := Aside0.mk H
         clear H
         have qa : 0 ≤ (eY : Int) := of_decide_eq_true (Z21)
         have qb : eY < (gO.length : Int) := of_decide_eq_true (Z21)
         obtain ⟨tQ, e127, gg, gh, gi⟩ := at_T90 HR126.out eY qa qb
         obtain rfl : lr = tQ := (by injection e127)
         replace gg := (HB.out.cell (World.block_lt_of_cell? w _ gg)).trans gg
         replace gh := (HB.out.cell (World.block_lt_of_cell? w _ gh)).trans gh
         replace gi := (HB.out.cell (World.block_lt_of_cell? w _ gi)).trans gi
         replace qa := eq_true qa
         replace qb := eq_true qb
         go_wp2_with ((with_reducible refine gate_dst (N := 6) rfl ?_); refine bv_ 6 90 #[.int .i64 0, .int .i64 0, .int .i64 0] ?_; intro iF hg I2 hbox hb; refine k7_ (Ye_ bY) (below_step (Z56) hb) (hbox) ((Z248 : w.heap.size ≤ iF)) ((Z248 : w.heap.size ≤ iF)) ((Z208 : dA ≠ iF)) ((Z209 : iF ≠ dA)) ?_; clear bY HB; intro bY HB tR ER yO fZ jb; clear hb hbox hg; have hnb43 := jb.out; have hnc43 := fZ.out; obtain ⟨hcz44_0, hcz44_1, hcz44_2, hfz44_0, hfz44_1, hfz44_2⟩ := bx3_ (w := I2) tR.out; obtain ⟨hcz45_0, hcz45_1, hcz45_2, hfz45_0, hfz45_1, hfz45_2⟩ := bx3_ (w := I2) bY.out)
         go_roundg k3
         case measure => have := HK1.out; have := IU.out; have := HK3.out; omega
         case rel => exact ⟨(wrap64 (eY + 1)), (Z41), H', ⟨Z270⟩, ⟨Z171⟩, ⟨Z202⟩⟩
        rw [if_neg c29] at H
        have tl : decide (eY < (gO.length : Int)) = false := decide_eq_false c29
        clear c29
        have H' := Aside0.mk H
        clear H
        go_wp2
        go_roundg k3
        case measure => have := HK1.out; have := IU.out; have := HK3.out; omega
        case rel => exact ⟨(wrap64 (bA + 1)), (Z41), H', ⟨Z270⟩, ⟨Z56⟩⟩
   rw [if_neg c2] at H
   have hP : decide (bA < (l0.length : Int)) = false := decide_eq_false c2
   clear c2
   obtain rfl := Option.some.inj H
   go_wp2
   go_ret
   exact ⟨Z11, Z5⟩

end Go.Proofs.Ytmnnmddfmmaohaa.PFnPunchJobs
