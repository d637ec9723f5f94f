-- written by a program of this session: the kit's print, with outer functions of the session's own (wip/ext)
import Derived.Test.YtdipcpcbclobpaaDoorPFnPinsx0
import Derived.Test.YtdipcpcbclobpaaDoorPFnPinsx2
namespace Go.Proofs.YtdipcpcbclobpaaDoor.PFnPins
open Go.RowKit Go.Proofs.YtdipcpcbclobpaaDoorW.PrintWords Go.Proofs.YtdipcpcbclobpaaDoorW.PrintLast Go.Proofs.YtdipcpcbclobpaaDoorW.PrintMore
attribute [local go_sem] max2_int min2_int max_two min_two max_three min_three max_four min_four   -- for this text's walks alone
set_option linter.unusedVariables false
set_option linter.unusedSimpArgs false
theorem mo3_ {p : Prop} (h : p := by repeat' first | (with_reducible first | apply ih0 | apply ih0 | exact LeO.refl _ | exact LeO.none _ | refine LeO.ite ?_ ?_ | refine LeO.bind ?_ (fun _ => ?_)) | exact LeO.none _ | refine LeO.ite ?_ ?_ | refine LeO.bind ?_ (fun _ => ?_)) : p := h

/-! ### spec_cyGood: function 33 -/
def spec_cyGood.l0 : Nat → List (S33) → List (S33) → Int → Int → Option (Bool)
 | 0, _, _, _, _ => none
 | k + 1, x0, x5, x6, x7 => if x7 < x6 then (if 0 ≤ x7 then (if x7 < (x5.length : Int) then ((spec_cyPin.f ((rd_T33 x5 x7).f0) ((rd_T33 x5 x7).f1) ((rd_T33 x5 x7).f2)).bind fun uX => (if uX = true then (if x7 > 0 then (if 0 ≤ (wrap64 (x7 - 1)) then (if (wrap64 (x7 - 1)) < (x0.length : Int) then ((spec_cyBefore.f ((rd_T33 x0 (wrap64 (x7 - 1))).f0) ((rd_T33 x0 (wrap64 (x7 - 1))).f1) ((rd_T33 x0 (wrap64 (x7 - 1))).f2) ((rd_T33 x5 x7).f0) ((rd_T33 x5 x7).f1) ((rd_T33 x5 x7).f2)).bind fun qg => (if qg = true then (spec_cyGood.l0 k x0 x5 x6 (wrap64 (x7 + 1))) else (some false))) else (none)) else (none)) else (spec_cyGood.l0 k x0 x5 x6 (wrap64 (x7 + 1)))) else (some false))) else (none)) else (none)) else (some (decide ((x0.length : Int) ≤ 60)))
def spec_cyGood.f (k : Nat) (l0 : List (S33)) : Option (Bool) := spec_cyGood.l0 k l0 l0 (l0.length : Int) 0
theorem spec_cyGood.mono_l : ∀ k, (∀ y0 y1 y2 y3, LeO (spec_cyGood.l0 k y0 y1 y2 y3) (spec_cyGood.l0 (k + 1) y0 y1 y2 y3))
 | 0 => fun _ _ _ _ r h => by simp [spec_cyGood.l0] at h
 | k + 1 => by
  have ih0 := spec_cyGood.mono_l k
  ·intro y0 y1 y2 y3
   unfold spec_cyGood.l0
   exact mo3_
theorem spec_cyGood.mono : ∀ a0 k, LeO (spec_cyGood.f k a0) (spec_cyGood.f (k + 1) a0) := by
 intro a0 k
 have ih0 := spec_cyGood.mono_l k
 unfold spec_cyGood.f
 exact mo3_
def spec_cyGood.T4 : Bool × List (List Nat × List Nat) := (true, [([], []), ([0], [0]), ([1], [1]), ([2, 1], [2]), ([3], [3]), ([4, 3], [3, 4]), ([5, 3, 3], [3, 5]), ([6], [6]), ([6], [6]), ([8, 6], [6, 8]), ([7, 9, 6], [6, 7, 9]), ([10, 6], [6, 10]), ([6], [6]), ([11, 12, 6, 6], [6, 11, 12]), ([13, 6], [6, 13]), ([6, 14, 3], [3, 6, 14]), ([3, 15], [3, 15])])
def spec_cyGood.B4 : List Nat := [0, 1, 3, 7, 15, 31, 63, 127, 127, 383, 1023, 2047, 127, 8191, 16383, 32767, 65535]
theorem spec_cyGood.tab4 : rtab .any (opsOf Tryd.f33 4) = spec_cyGood.T4 := by kernel_rfl
theorem spec_cyGood.bits4 : waitsOk spec_cyGood.T4.2 spec_cyGood.B4 = true := by kernel_rfl
set_option maxHeartbeats 8000000 in
set_option maxRecDepth 100000 in
theorem spec_cyGood.calls (k : Nat) (A0 : Option Addr) (c0 : Nat) (l0 : List (S33)) (r : Bool) (w : World) (hr0 : Kd.C k33 w A0 l0.length l0) (hc0 : l0.length ≤ c0) (h : spec_cyGood.f k l0 = some r) :
  Calls Tryd.prog 33 #[.slice A0 l0.length c0] w fun e w' => e = .returned (.bool r) ∧ Below w.heap.size w w' := by
 have hu33 := Tryd.underlying33
 have HR0 := Aside0.mk hr0
 have HC0 := Aside0.mk hc0
 clear hr0 hc0
 have HB := Aside0.mk (Below.refl w.heap.size w)
 have H : (spec_cyGood.l0 k l0 l0 (l0.length : Int) 0) = some r := h
 clear h
 have H' := Aside0.mk H
 clear H
 go_enter Tryd.func33, Tryd.ntmps33
 go_wp2
 go_loopg [7] k (fun kq v7 w' => ∃ (ag : Int), v7 = .int .i64 ag ∧ Aside0 (spec_cyGood.l0 kq l0 l0 (l0.length : Int) ag = some r) ∧ Aside0 (kq ≤ k) ∧ Aside0 (Below w.heap.size w w'))
 case atStart => exact ⟨(0), (Z14), H', ⟨Nat.le_refl _⟩, ⟨Z1⟩⟩
 case round =>
  clear H'
  obtain ⟨ag, rfl, HA, HK1, HB⟩ := hrel
  cases gk with
  | zero => exact absurd HA.out (by simp [spec_cyGood.l0])
  | succ k1 =>
   have H := HA.out
   clear HA
   simp only [spec_cyGood.l0] at H
   by_cases c2 : ag < (l0.length : Int)
   ·rw [if_pos c2] at H
    have eN : decide (ag < (l0.length : Int)) = true := decide_eq_true c2
    clear c2
    by_cases c3 : 0 ≤ ag
    ·rw [if_pos c3] at H
     have dE : decide (0 ≤ ag) = true := decide_eq_true c3
     clear c3
     by_cases c4 : ag < (l0.length : Int)
     ·rw [if_pos c4] at H
      have cy : decide (ag < (l0.length : Int)) = true := decide_eq_true c4
      clear c4
      replace H := Option.bind_eq_some_iff.mp H
      obtain ⟨uX, dG, H⟩ := H
      (try dsimp only at H)
      have A5 := Aside0.mk dG
      clear dG
      by_cases c6 : uX = true
      ·subst c6
       rw [if_pos rfl] at H
       by_cases c7 : ag > 0
       ·rw [if_pos c7] at H
        have dz : decide (0 < ag) = true := decide_eq_true c7
        clear c7
        obtain ⟨bo, hji8⟩ : ∃ j_ : Int, (wrap64 (ag - 1)) = j_ := ⟨_, rfl⟩
        replace H : (if 0 ≤ (bo) then (if (bo) < (l0.length : Int) then ((spec_cyBefore.f ((rd_T33 l0 (bo)).f0) ((rd_T33 l0 (bo)).f1) ((rd_T33 l0 (bo)).f2) ((rd_T33 l0 ag).f0) ((rd_T33 l0 ag).f1) ((rd_T33 l0 ag).f2)).bind fun qg => (if qg = true then (spec_cyGood.l0 k1 l0 l0 (l0.length : Int) (wrap64 (ag + 1))) else (some false))) else (none)) else (none)) = some r := by first | (rw [hji8] at H; exact H) | (simp only [hji8] at H ⊢; exact H)
        (try rw [hji8] at A5)
        have hji8w : (IntKind.i64.wrap (ag - 1)) = bo := (i64_w _).trans hji8
        by_cases c9 : 0 ≤ (bo)
        ·rw [if_pos c9] at H
         have fT : decide (0 ≤ (bo)) = true := decide_eq_true c9
         clear c9
         by_cases c10 : (bo) < (l0.length : Int)
         ·rw [if_pos c10] at H
          have fZ : decide ((bo) < (l0.length : Int)) = true := decide_eq_true c10
          clear c10
          replace H := Option.bind_eq_some_iff.mp H
          obtain ⟨qg, iF, H⟩ := H
          (try dsimp only at H)
          have ut := Aside0.mk iF
          clear iF
          by_cases c12 : qg = true
          ·subst c12
           rw [if_pos rfl] at H
           have H' := Aside0.mk H
           clear H
           have e9 : 0 ≤ (ag : Int) := of_decide_eq_true (Z12)
           have fa : ag < (l0.length : Int) := of_decide_eq_true (Z12)
           obtain ⟨cX, e108, bH, bI, bJ⟩ := at_T33 HR0.out ag e9 fa
           cases e108
           replace bH := (HB.out.cell (World.block_lt_of_cell? w _ bH)).trans bH
           replace bI := (HB.out.cell (World.block_lt_of_cell? w _ bI)).trans bI
           replace bJ := (HB.out.cell (World.block_lt_of_cell? w _ bJ)).trans bJ
           replace e9 := eq_true e9
           replace fa := eq_true fa
           try go_wp2_with (first | ((with_reducible refine gate_dst (N := 4) rfl ?_); refine bv_ 4 33 #[.int .i64 0, .int .i64 0, .int .i64 0] ?_; intro aD hg fS hbox hb; refine k4_ (below_step (Z1) hb) (hbox) ((Z23 : w.heap.size ≤ aD)) ((Z23 : w.heap.size ≤ aD)) ?_; clear HB; intro HB aw qh mR; clear hb hbox hg; obtain ⟨fv, fw, fx, fy, fz, fA⟩ := bx3_ (w := fS) aw.out))
           have n0_ : Aside0 ((((fS.setCell ⟨aD, 0, none⟩ (.int .i64 ((rd_T33 l0 ag).f0))).setCell ⟨aD, 1, none⟩ (.int .i64 ((rd_T33 l0 ag).f1))).setCell ⟨aD, 2, none⟩ (.int .i64 ((rd_T33 l0 ag).f2))).heap[aD]? = some (.cells #[.int .i64 ((rd_T33 l0 ag).f0), .int .i64 ((rd_T33 l0 ag).f1), .int .i64 ((rd_T33 l0 ag).f2)] 33 (0, 0))) := ⟨Z18 aw⟩
           have n1_ : Aside0 (Below w.heap.size w (((fS.setCell ⟨aD, 0, none⟩ (.int .i64 ((rd_T33 l0 ag).f0))).setCell ⟨aD, 1, none⟩ (.int .i64 ((rd_T33 l0 ag).f1))).setCell ⟨aD, 2, none⟩ (.int .i64 ((rd_T33 l0 ag).f2)))) := ⟨Z30⟩
           (try clear aw)
           (try clear HB)
           generalize (((fS.setCell ⟨aD, 0, none⟩ (.int .i64 ((rd_T33 l0 ag).f0))).setCell ⟨aD, 1, none⟩ (.int .i64 ((rd_T33 l0 ag).f1))).setCell ⟨aD, 2, none⟩ (.int .i64 ((rd_T33 l0 ag).f2))) = l7 at n0_ n1_ ⊢
           have aw := n0_
           have HB := n1_
           clear n0_ n1_
           refine k2_ (blk_drew aw.out) (below_drew1 HB.out) ?_
           clear aw HB
           intro aw HB
           have my : 0 ≤ ((bo) : Int) := of_decide_eq_true (Z12)
           have mz : (bo) < (l0.length : Int) := of_decide_eq_true (Z12)
           obtain ⟨qi, e111, cg, ch, ci⟩ := at_T33 HR0.out (bo) my mz
           have hw111_2 := ci
           have hw111_1 := ch
           have hw111_0 := cg
           obtain rfl : cX = qi := (by injection e111)
           replace cg := (HB.out.cell (World.block_lt_of_cell? w _ cg)).trans cg
           replace ch := (HB.out.cell (World.block_lt_of_cell? w _ ch)).trans ch
           replace ci := (HB.out.cell (World.block_lt_of_cell? w _ ci)).trans ci
           replace my := eq_true my
           replace mz := eq_true mz
           refine start_ (n := 17) (S := fun w' => w'.cell? ⟨aD, 0, none⟩ = some (.int .i64 ((rd_T33 l0 ag).f0)) ∧ w'.cell? ⟨aD, 1, none⟩ = some (.int .i64 ((rd_T33 l0 ag).f1)) ∧ w'.cell? ⟨aD, 2, none⟩ = some (.int .i64 ((rd_T33 l0 ag).f2)) ∧ w'.cell? (cX.add (((bo)).toNat * 3)) = some (.int .i64 ((rd_T33 l0 (bo)).f0)) ∧ w'.cell? ⟨(cX.add (((bo)).toNat * 3)).block, (cX.add (((bo)).toNat * 3)).off + 1, none⟩ = some (.int .i64 ((rd_T33 l0 (bo)).f1)) ∧ w'.cell? ⟨(cX.add (((bo)).toNat * 3)).block, (cX.add (((bo)).toNat * 3)).off + 2, none⟩ = some (.int .i64 ((rd_T33 l0 (bo)).f2))) (ds := []) (M_ 0 17) (by kernel_rfl) rfl rfl ⟨(blk_cell aw.out 0).trans rfl, (blk_cell aw.out 1).trans rfl, (blk_cell aw.out 2).trans rfl, ((HB.out.cell (World.block_lt_of_cell? w _ hw111_0)).trans hw111_0), ((HB.out.cell (World.block_lt_of_cell? w _ hw111_1)).trans hw111_1), ((HB.out.cell (World.block_lt_of_cell? w _ hw111_2)).trans hw111_2)⟩ (fun hHeld => ?_); refine with_tabW spec_cyGood.tab4 spec_cyGood.bits4 (fun HT_ HW_ => ?_)
           generalize l7.drew = oD at aw HB cg ch ci hHeld ⊢
           refine tk6_ 0 12 (M_ 1 16) hHeld ?_
           refine one_ (i := 1) (N := some 13) (M_ 2 15) rfl rfl (one_of HT_.out (by kernel_rfl)) (by decide) (fun K hK => ?_)
           refine goes_ Tryd.func54 (by kernel_rfl) rfl #[.agg #[.int .i64 ((rd_T33 l0 ag).f0), .int .i64 ((rd_T33 l0 ag).f1), .int .i64 ((rd_T33 l0 ag).f2)]] (by rfl) rfl rfl (Z27) ?_
           with_reducible refine (spec_cyPin.calls ((rd_T33 l0 ag).f0) ((rd_T33 l0 ag).f1) ((rd_T33 l0 ag).f2) true _ A5.out).mono ?_
           rintro e mh ⟨rfl, hb⟩
           refine ⟨_, rfl, ?_⟩
           have n0_ := Aside0.mk (Ye_ aw)
           have n1_ := Aside0.mk (below_step (Z30) hb)
           clear aw
           clear HB
           have aw := n0_
           have HB := n1_
           clear n0_ n1_
           (try clear hb)
           (try clear hb2)
           (try clear hk)
           (try clear hi)
           refine hK.out _ _ ⟨(blk_cell aw.out 0).trans rfl, (blk_cell aw.out 1).trans rfl, (blk_cell aw.out 2).trans rfl, ((HB.out.cell (World.block_lt_of_cell? w _ hw111_0)).trans hw111_0), ((HB.out.cell (World.block_lt_of_cell? w _ hw111_1)).trans hw111_1), ((HB.out.cell (World.block_lt_of_cell? w _ hw111_2)).trans hw111_2)⟩ (fun hHeld => ?_)
           clear hK K
           refine norm_ (a' := ?_) ?_ ?_
           rotate_left
           ·show Act.put _ (some 13) _ = _
            simp only [Act.put, List.setIfInBounds_toArray, List.set_cons_zero, List.set_cons_succ, i64_w, i32_w]
            rfl
           refine pu_ 2 14 (M_ 3 14) ?_
           refine pu_ 3 15 (M_ 4 13) ?_
           refine pu_ 4 16 (M_ 5 12) ?_
           refine pu_ 5 17 (M_ 6 11) ?_
           refine pu_ 6 18 (M_ 7 10) ?_
           refine pu_ 7 19 (M_ 8 9) ?_
           refine pu_ 8 20 (M_ 9 8) ?_
           refine pu_ 9 21 (M_ 10 7) ?_
           refine pu_ 10 22 (M_ 11 6) ?_
           refine tk6_ 11 23 (M_ 12 5) hHeld ?_
           refine tk6_ 12 24 (M_ 13 4) hHeld ?_
           refine one_ (i := 13) (N := some 25) (M_ 14 3) rfl rfl (one_of HT_.out (by kernel_rfl)) (by decide) (fun K hK => ?_)
           refine goes_ Tryd.func55 (by kernel_rfl) rfl #[.agg #[.int .i64 ((rd_T33 l0 (bo)).f0), .int .i64 ((rd_T33 l0 (bo)).f1), .int .i64 ((rd_T33 l0 (bo)).f2)], .agg #[.int .i64 ((rd_T33 l0 ag).f0), .int .i64 ((rd_T33 l0 ag).f1), .int .i64 ((rd_T33 l0 ag).f2)]] (by rfl) rfl rfl (Z75) ?_
           with_reducible refine (spec_cyBefore.calls ((rd_T33 l0 (bo)).f0) ((rd_T33 l0 (bo)).f1) ((rd_T33 l0 (bo)).f2) ((rd_T33 l0 ag).f0) ((rd_T33 l0 ag).f1) ((rd_T33 l0 ag).f2) true _ ut.out).mono ?_
           rintro e yf ⟨rfl, hb⟩
           refine ⟨_, rfl, ?_⟩
           have n0_ := Aside0.mk (Ye_ aw)
           have n1_ := Aside0.mk (below_step (Z30) hb)
           clear aw
           clear HB
           have aw := n0_
           have HB := n1_
           clear n0_ n1_
           refine hK.out _ _ ⟨(blk_cell aw.out 0).trans rfl, (blk_cell aw.out 1).trans rfl, (blk_cell aw.out 2).trans rfl, ((HB.out.cell (World.block_lt_of_cell? w _ hw111_0)).trans hw111_0), ((HB.out.cell (World.block_lt_of_cell? w _ hw111_1)).trans hw111_1), ((HB.out.cell (World.block_lt_of_cell? w _ hw111_2)).trans hw111_2)⟩ (fun hHeld => ?_)
           clear hK K
           refine norm_ (a' := ?_) ?_ ?_
           rotate_left
           ·show Act.put _ (some 25) _ = _
            simp only [Act.put, List.setIfInBounds_toArray, List.set_cons_zero, List.set_cons_succ, i64_w, i32_w]
            rfl
           refine pu_ 14 26 (M_ 15 2) ?_
           refine pu_ 15 27 (M_ 16 1) ?_
           refine pu_ 16 28 (M_ 17 0) ?_
           refine done_ (done_of HT_.out (by kernel_rfl)) ?_
           try go_wp2
           go_roundg k1
           case measure => have := HK1.out; omega
           case rel => exact ⟨(wrap64 (ag + 1)), (Z14), H', ⟨Z82 HK1⟩, ⟨Z30⟩⟩
          replace c12 := Bool.eq_false_iff.mpr c12
          subst c12
          rw [if_neg (show ¬ (false = true) by decide)] at H
          obtain rfl := Option.some.inj H
          have e9 : 0 ≤ (ag : Int) := of_decide_eq_true (Z12)
          have fa : ag < (l0.length : Int) := of_decide_eq_true (Z12)
          obtain ⟨cX, e108, bH, bI, bJ⟩ := at_T33 HR0.out ag e9 fa
          cases e108
          replace bH := (HB.out.cell (World.block_lt_of_cell? w _ bH)).trans bH
          replace bI := (HB.out.cell (World.block_lt_of_cell? w _ bI)).trans bI
          replace bJ := (HB.out.cell (World.block_lt_of_cell? w _ bJ)).trans bJ
          replace e9 := eq_true e9
          replace fa := eq_true fa
          try go_wp2_with (first | ((with_reducible refine gate_dst (N := 4) rfl ?_); refine bv_ 4 33 #[.int .i64 0, .int .i64 0, .int .i64 0] ?_; intro aD hg jO hbox hb; refine k4_ (below_step (Z1) hb) (hbox) ((Z23 : w.heap.size ≤ aD)) ((Z23 : w.heap.size ≤ aD)) ?_; clear HB; intro HB aw qh mR; clear hb hbox hg; obtain ⟨gA, gB, gC, gD, gE, gF⟩ := bx3_ (w := jO) aw.out))
          have n0_ : Aside0 ((((jO.setCell ⟨aD, 0, none⟩ (.int .i64 ((rd_T33 l0 ag).f0))).setCell ⟨aD, 1, none⟩ (.int .i64 ((rd_T33 l0 ag).f1))).setCell ⟨aD, 2, none⟩ (.int .i64 ((rd_T33 l0 ag).f2))).heap[aD]? = some (.cells #[.int .i64 ((rd_T33 l0 ag).f0), .int .i64 ((rd_T33 l0 ag).f1), .int .i64 ((rd_T33 l0 ag).f2)] 33 (0, 0))) := ⟨Z18 aw⟩
          have n1_ : Aside0 (Below w.heap.size w (((jO.setCell ⟨aD, 0, none⟩ (.int .i64 ((rd_T33 l0 ag).f0))).setCell ⟨aD, 1, none⟩ (.int .i64 ((rd_T33 l0 ag).f1))).setCell ⟨aD, 2, none⟩ (.int .i64 ((rd_T33 l0 ag).f2)))) := ⟨Z30⟩
          (try clear aw)
          (try clear HB)
          generalize (((jO.setCell ⟨aD, 0, none⟩ (.int .i64 ((rd_T33 l0 ag).f0))).setCell ⟨aD, 1, none⟩ (.int .i64 ((rd_T33 l0 ag).f1))).setCell ⟨aD, 2, none⟩ (.int .i64 ((rd_T33 l0 ag).f2))) = ug at n0_ n1_ ⊢
          have aw := n0_
          have HB := n1_
          clear n0_ n1_
          refine k2_ (blk_drew aw.out) (below_drew1 HB.out) ?_
          clear aw HB
          intro aw HB
          have my : 0 ≤ ((bo) : Int) := of_decide_eq_true (Z12)
          have mz : (bo) < (l0.length : Int) := of_decide_eq_true (Z12)
          obtain ⟨qi, e111, cg, ch, ci⟩ := at_T33 HR0.out (bo) my mz
          have hw111_2 := ci
          have hw111_1 := ch
          have hw111_0 := cg
          obtain rfl : cX = qi := (by injection e111)
          replace cg := (HB.out.cell (World.block_lt_of_cell? w _ cg)).trans cg
          replace ch := (HB.out.cell (World.block_lt_of_cell? w _ ch)).trans ch
          replace ci := (HB.out.cell (World.block_lt_of_cell? w _ ci)).trans ci
          replace my := eq_true my
          replace mz := eq_true mz
          refine start_ (n := 17) (S := fun w' => w'.cell? ⟨aD, 0, none⟩ = some (.int .i64 ((rd_T33 l0 ag).f0)) ∧ w'.cell? ⟨aD, 1, none⟩ = some (.int .i64 ((rd_T33 l0 ag).f1)) ∧ w'.cell? ⟨aD, 2, none⟩ = some (.int .i64 ((rd_T33 l0 ag).f2)) ∧ w'.cell? (cX.add (((bo)).toNat * 3)) = some (.int .i64 ((rd_T33 l0 (bo)).f0)) ∧ w'.cell? ⟨(cX.add (((bo)).toNat * 3)).block, (cX.add (((bo)).toNat * 3)).off + 1, none⟩ = some (.int .i64 ((rd_T33 l0 (bo)).f1)) ∧ w'.cell? ⟨(cX.add (((bo)).toNat * 3)).block, (cX.add (((bo)).toNat * 3)).off + 2, none⟩ = some (.int .i64 ((rd_T33 l0 (bo)).f2))) (ds := []) (M_ 0 17) (by kernel_rfl) rfl rfl ⟨(blk_cell aw.out 0).trans rfl, (blk_cell aw.out 1).trans rfl, (blk_cell aw.out 2).trans rfl, ((HB.out.cell (World.block_lt_of_cell? w _ hw111_0)).trans hw111_0), ((HB.out.cell (World.block_lt_of_cell? w _ hw111_1)).trans hw111_1), ((HB.out.cell (World.block_lt_of_cell? w _ hw111_2)).trans hw111_2)⟩ (fun hHeld => ?_); refine with_tabW spec_cyGood.tab4 spec_cyGood.bits4 (fun HT_ HW_ => ?_)
          generalize ug.drew = r9 at aw HB cg ch ci hHeld ⊢
          refine tk6_ 0 12 (M_ 1 16) hHeld ?_
          refine one_ (i := 1) (N := some 13) (M_ 2 15) rfl rfl (one_of HT_.out (by kernel_rfl)) (by decide) (fun K hK => ?_)
          refine goes_ Tryd.func54 (by kernel_rfl) rfl #[.agg #[.int .i64 ((rd_T33 l0 ag).f0), .int .i64 ((rd_T33 l0 ag).f1), .int .i64 ((rd_T33 l0 ag).f2)]] (by rfl) rfl rfl (Z27) ?_
          with_reducible refine (spec_cyPin.calls ((rd_T33 l0 ag).f0) ((rd_T33 l0 ag).f1) ((rd_T33 l0 ag).f2) true _ A5.out).mono ?_
          rintro e oB ⟨rfl, hb⟩
          refine ⟨_, rfl, ?_⟩
          have n0_ := Aside0.mk (Ye_ aw)
          have n1_ := Aside0.mk (below_step (Z30) hb)
          clear aw
          clear HB
          have aw := n0_
          have HB := n1_
          clear n0_ n1_
          (try clear hb)
          (try clear hb2)
          (try clear hk)
          (try clear hi)
          refine hK.out _ _ ⟨(blk_cell aw.out 0).trans rfl, (blk_cell aw.out 1).trans rfl, (blk_cell aw.out 2).trans rfl, ((HB.out.cell (World.block_lt_of_cell? w _ hw111_0)).trans hw111_0), ((HB.out.cell (World.block_lt_of_cell? w _ hw111_1)).trans hw111_1), ((HB.out.cell (World.block_lt_of_cell? w _ hw111_2)).trans hw111_2)⟩ (fun hHeld => ?_)
          clear hK K
          refine norm_ (a' := ?_) ?_ ?_
          rotate_left
          ·show Act.put _ (some 13) _ = _
           simp only [Act.put, List.setIfInBounds_toArray, List.set_cons_zero, List.set_cons_succ, i64_w, i32_w]
           rfl
          refine pu_ 2 14 (M_ 3 14) ?_
          refine pu_ 3 15 (M_ 4 13) ?_
          refine pu_ 4 16 (M_ 5 12) ?_
          refine pu_ 5 17 (M_ 6 11) ?_
          refine pu_ 6 18 (M_ 7 10) ?_
          refine pu_ 7 19 (M_ 8 9) ?_
          refine pu_ 8 20 (M_ 9 8) ?_
          refine pu_ 9 21 (M_ 10 7) ?_
          refine pu_ 10 22 (M_ 11 6) ?_
          refine tk6_ 11 23 (M_ 12 5) hHeld ?_
          refine tk6_ 12 24 (M_ 13 4) hHeld ?_
          refine one_ (i := 13) (N := some 25) (M_ 14 3) rfl rfl (one_of HT_.out (by kernel_rfl)) (by decide) (fun K hK => ?_)
          refine goes_ Tryd.func55 (by kernel_rfl) rfl #[.agg #[.int .i64 ((rd_T33 l0 (bo)).f0), .int .i64 ((rd_T33 l0 (bo)).f1), .int .i64 ((rd_T33 l0 (bo)).f2)], .agg #[.int .i64 ((rd_T33 l0 ag).f0), .int .i64 ((rd_T33 l0 ag).f1), .int .i64 ((rd_T33 l0 ag).f2)]] (by rfl) rfl rfl (Z75) ?_
          with_reducible refine (spec_cyBefore.calls ((rd_T33 l0 (bo)).f0) ((rd_T33 l0 (bo)).f1) ((rd_T33 l0 (bo)).f2) ((rd_T33 l0 ag).f0) ((rd_T33 l0 ag).f1) ((rd_T33 l0 ag).f2) false _ ut.out).mono ?_
          rintro e nZ ⟨rfl, hb⟩
          refine ⟨_, rfl, ?_⟩
          have n0_ := Aside0.mk (Ye_ aw)
          have n1_ := Aside0.mk (below_step (Z30) hb)
          clear aw
          clear HB
          have aw := n0_
          have HB := n1_
          clear n0_ n1_
          refine hK.out _ _ ⟨(blk_cell aw.out 0).trans rfl, (blk_cell aw.out 1).trans rfl, (blk_cell aw.out 2).trans rfl, ((HB.out.cell (World.block_lt_of_cell? w _ hw111_0)).trans hw111_0), ((HB.out.cell (World.block_lt_of_cell? w _ hw111_1)).trans hw111_1), ((HB.out.cell (World.block_lt_of_cell? w _ hw111_2)).trans hw111_2)⟩ (fun hHeld => ?_)
          clear hK K
          refine norm_ (a' := ?_) ?_ ?_
          rotate_left
          ·show Act.put _ (some 25) _ = _
           simp only [Act.put, List.setIfInBounds_toArray, List.set_cons_zero, List.set_cons_succ, i64_w, i32_w]
           rfl
          refine pu_ 14 26 (M_ 15 2) ?_
          refine pu_ 15 27 (M_ 16 1) ?_
          refine pu_ 16 28 (M_ 17 0) ?_
          refine done_ (done_of HT_.out (by kernel_rfl)) ?_
          try go_wp2
          go_ret
          exact ⟨Z103, Z30⟩
         rw [if_neg c10] at H
         exact absurd H (by simp)
        rw [if_neg c9] at H
        exact absurd H (by simp)
       rw [if_neg c7] at H
       have dz : decide (0 < ag) = false := decide_eq_false c7
       clear c7
       have H' := Aside0.mk H
       clear H
       have e9 : 0 ≤ (ag : Int) := of_decide_eq_true (Z12)
       have fa : ag < (l0.length : Int) := of_decide_eq_true (Z12)
       obtain ⟨cX, e108, bH, bI, bJ⟩ := at_T33 HR0.out ag e9 fa
       cases e108
       replace bH := (HB.out.cell (World.block_lt_of_cell? w _ bH)).trans bH
       replace bI := (HB.out.cell (World.block_lt_of_cell? w _ bI)).trans bI
       replace bJ := (HB.out.cell (World.block_lt_of_cell? w _ bJ)).trans bJ
       replace e9 := eq_true e9
       replace fa := eq_true fa
       try go_wp2_with (first | ((with_reducible refine gate_dst (N := 4) rfl ?_); refine bv_ 4 33 #[.int .i64 0, .int .i64 0, .int .i64 0] ?_; intro aD hg n5 hbox hb; refine k4_ (below_step (Z1) hb) (hbox) ((Z23 : w.heap.size ≤ aD)) ((Z23 : w.heap.size ≤ aD)) ?_; clear HB; intro HB aw qh mR; clear hb hbox hg; obtain ⟨nk, nl, nn, no, np, nq⟩ := bx3_ (w := n5) aw.out))
       have n0_ : Aside0 ((((n5.setCell ⟨aD, 0, none⟩ (.int .i64 ((rd_T33 l0 ag).f0))).setCell ⟨aD, 1, none⟩ (.int .i64 ((rd_T33 l0 ag).f1))).setCell ⟨aD, 2, none⟩ (.int .i64 ((rd_T33 l0 ag).f2))).heap[aD]? = some (.cells #[.int .i64 ((rd_T33 l0 ag).f0), .int .i64 ((rd_T33 l0 ag).f1), .int .i64 ((rd_T33 l0 ag).f2)] 33 (0, 0))) := ⟨Z18 aw⟩
       have n1_ : Aside0 (Below w.heap.size w (((n5.setCell ⟨aD, 0, none⟩ (.int .i64 ((rd_T33 l0 ag).f0))).setCell ⟨aD, 1, none⟩ (.int .i64 ((rd_T33 l0 ag).f1))).setCell ⟨aD, 2, none⟩ (.int .i64 ((rd_T33 l0 ag).f2)))) := ⟨Z30⟩
       (try clear aw)
       (try clear HB)
       generalize (((n5.setCell ⟨aD, 0, none⟩ (.int .i64 ((rd_T33 l0 ag).f0))).setCell ⟨aD, 1, none⟩ (.int .i64 ((rd_T33 l0 ag).f1))).setCell ⟨aD, 2, none⟩ (.int .i64 ((rd_T33 l0 ag).f2))) = qY at n0_ n1_ ⊢
       have aw := n0_
       have HB := n1_
       clear n0_ n1_
       refine k2_ (blk_drew aw.out) (below_drew1 HB.out) ?_
       clear aw HB
       intro aw HB
       refine start_ (n := 17) (S := fun w' => w'.cell? ⟨aD, 0, none⟩ = some (.int .i64 ((rd_T33 l0 ag).f0)) ∧ w'.cell? ⟨aD, 1, none⟩ = some (.int .i64 ((rd_T33 l0 ag).f1)) ∧ w'.cell? ⟨aD, 2, none⟩ = some (.int .i64 ((rd_T33 l0 ag).f2))) (ds := []) (M_ 0 17) (by kernel_rfl) rfl rfl ⟨(blk_cell aw.out 0).trans rfl, (blk_cell aw.out 1).trans rfl, (blk_cell aw.out 2).trans rfl⟩ (fun hHeld => ?_); refine with_tabW spec_cyGood.tab4 spec_cyGood.bits4 (fun HT_ HW_ => ?_)
       generalize qY.drew = q0 at aw HB hHeld ⊢
       refine tk3_ 0 12 (M_ 1 16) hHeld ?_
       refine one_ (i := 1) (N := some 13) (M_ 2 15) rfl rfl (one_of HT_.out (by kernel_rfl)) (by decide) (fun K hK => ?_)
       refine goes_ Tryd.func54 (by kernel_rfl) rfl #[.agg #[.int .i64 ((rd_T33 l0 ag).f0), .int .i64 ((rd_T33 l0 ag).f1), .int .i64 ((rd_T33 l0 ag).f2)]] (by rfl) rfl rfl (Z27) ?_
       with_reducible refine (spec_cyPin.calls ((rd_T33 l0 ag).f0) ((rd_T33 l0 ag).f1) ((rd_T33 l0 ag).f2) true _ A5.out).mono ?_
       rintro e ye ⟨rfl, hb⟩
       refine ⟨_, rfl, ?_⟩
       have n0_ := Aside0.mk (Ye_ aw)
       have n1_ := Aside0.mk (below_step (Z30) hb)
       clear aw
       clear HB
       have aw := n0_
       have HB := n1_
       clear n0_ n1_
       (try clear hb)
       (try clear hb2)
       (try clear hk)
       (try clear hi)
       refine hK.out _ _ ⟨(blk_cell aw.out 0).trans rfl, (blk_cell aw.out 1).trans rfl, (blk_cell aw.out 2).trans rfl⟩ (fun hHeld => ?_)
       clear hK K
       refine norm_ (a' := ?_) ?_ ?_
       rotate_left
       ·show Act.put _ (some 13) _ = _
        simp only [Act.put, List.setIfInBounds_toArray, List.set_cons_zero, List.set_cons_succ, i64_w, i32_w]
        rfl
       refine pu_ 2 14 (M_ 3 14) ?_
       refine pu_ 3 15 (M_ 4 13) ?_
       refine pu_ 4 16 (M_ 5 12) ?_
       refine pu_ 5 17 (M_ 6 11) ?_
       refine pu_ 6 18 (M_ 7 10) ?_
       refine pn_ 7 19 (M_ 8 9) ?_
       refine pn_ 8 20 (M_ 9 8) ?_
       refine pn_ 9 21 (M_ 10 7) ?_
       refine pn_ 10 22 (M_ 11 6) ?_
       refine pn_ 11 23 (M_ 12 5) ?_
       refine pn_ 12 24 (M_ 13 4) ?_
       refine pn_ 13 25 (M_ 14 3) ?_
       refine pn_ 14 26 (M_ 15 2) ?_
       refine pu_ 15 27 (M_ 16 1) ?_
       refine pu_ 16 28 (M_ 17 0) ?_
       refine done_ (done_of HT_.out (by kernel_rfl)) ?_
       try go_wp2
       go_roundg k1
       case measure => have := HK1.out; omega
       case rel => exact ⟨(wrap64 (ag + 1)), (Z14), H', ⟨Z82 HK1⟩, ⟨Z30⟩⟩
      replace c6 := Bool.eq_false_iff.mpr c6
      subst c6
      rw [if_neg (show ¬ (false = true) by decide)] at H
      obtain rfl := Option.some.inj H
      have e9 : 0 ≤ (ag : Int) := of_decide_eq_true (Z12)
      have fa : ag < (l0.length : Int) := of_decide_eq_true (Z12)
      obtain ⟨cX, e108, bH, bI, bJ⟩ := at_T33 HR0.out ag e9 fa
      cases e108
      replace bH := (HB.out.cell (World.block_lt_of_cell? w _ bH)).trans bH
      replace bI := (HB.out.cell (World.block_lt_of_cell? w _ bI)).trans bI
      replace bJ := (HB.out.cell (World.block_lt_of_cell? w _ bJ)).trans bJ
      replace e9 := eq_true e9
      replace fa := eq_true fa
      try go_wp2_with (first | ((with_reducible refine gate_dst (N := 4) rfl ?_); refine bv_ 4 33 #[.int .i64 0, .int .i64 0, .int .i64 0] ?_; intro aD hg jB hbox hb; refine k4_ (below_step (Z1) hb) (hbox) ((Z23 : w.heap.size ≤ aD)) ((Z23 : w.heap.size ≤ aD)) ?_; clear HB; intro HB aw qh mR; clear hb hbox hg; obtain ⟨hcz31_0, hcz31_1, hcz31_2, hfz31_0, hfz31_1, hfz31_2⟩ := bx3_ (w := jB) aw.out))
      have n0_ : Aside0 ((((jB.setCell ⟨aD, 0, none⟩ (.int .i64 ((rd_T33 l0 ag).f0))).setCell ⟨aD, 1, none⟩ (.int .i64 ((rd_T33 l0 ag).f1))).setCell ⟨aD, 2, none⟩ (.int .i64 ((rd_T33 l0 ag).f2))).heap[aD]? = some (.cells #[.int .i64 ((rd_T33 l0 ag).f0), .int .i64 ((rd_T33 l0 ag).f1), .int .i64 ((rd_T33 l0 ag).f2)] 33 (0, 0))) := ⟨Z18 aw⟩
      have n1_ : Aside0 (Below w.heap.size w (((jB.setCell ⟨aD, 0, none⟩ (.int .i64 ((rd_T33 l0 ag).f0))).setCell ⟨aD, 1, none⟩ (.int .i64 ((rd_T33 l0 ag).f1))).setCell ⟨aD, 2, none⟩ (.int .i64 ((rd_T33 l0 ag).f2)))) := ⟨Z30⟩
      (try clear aw)
      (try clear HB)
      generalize (((jB.setCell ⟨aD, 0, none⟩ (.int .i64 ((rd_T33 l0 ag).f0))).setCell ⟨aD, 1, none⟩ (.int .i64 ((rd_T33 l0 ag).f1))).setCell ⟨aD, 2, none⟩ (.int .i64 ((rd_T33 l0 ag).f2))) = pH at n0_ n1_ ⊢
      have aw := n0_
      have HB := n1_
      clear n0_ n1_
      refine k2_ (blk_drew aw.out) (below_drew1 HB.out) ?_
      clear aw HB
      intro aw HB
      refine start_ (n := 17) (S := fun w' => w'.cell? ⟨aD, 0, none⟩ = some (.int .i64 ((rd_T33 l0 ag).f0)) ∧ w'.cell? ⟨aD, 1, none⟩ = some (.int .i64 ((rd_T33 l0 ag).f1)) ∧ w'.cell? ⟨aD, 2, none⟩ = some (.int .i64 ((rd_T33 l0 ag).f2))) (ds := []) (M_ 0 17) (by kernel_rfl) rfl rfl ⟨(blk_cell aw.out 0).trans rfl, (blk_cell aw.out 1).trans rfl, (blk_cell aw.out 2).trans rfl⟩ (fun hHeld => ?_); refine with_tabW spec_cyGood.tab4 spec_cyGood.bits4 (fun HT_ HW_ => ?_)
      generalize pH.drew = oC at aw HB hHeld ⊢
      refine tk3_ 0 12 (M_ 1 16) hHeld ?_
      refine one_ (i := 1) (N := some 13) (M_ 2 15) rfl rfl (one_of HT_.out (by kernel_rfl)) (by decide) (fun K hK => ?_)
      refine goes_ Tryd.func54 (by kernel_rfl) rfl #[.agg #[.int .i64 ((rd_T33 l0 ag).f0), .int .i64 ((rd_T33 l0 ag).f1), .int .i64 ((rd_T33 l0 ag).f2)]] (by rfl) rfl rfl (Z27) ?_
      with_reducible refine (spec_cyPin.calls ((rd_T33 l0 ag).f0) ((rd_T33 l0 ag).f1) ((rd_T33 l0 ag).f2) false _ A5.out).mono ?_
      rintro e yg ⟨rfl, hb⟩
      refine ⟨_, rfl, ?_⟩
      have n0_ := Aside0.mk (Ye_ aw)
      have n1_ := Aside0.mk (below_step (Z30) hb)
      clear aw
      clear HB
      have aw := n0_
      have HB := n1_
      clear n0_ n1_
      (try clear hb)
      (try clear hb2)
      (try clear hk)
      (try clear hi)
      refine hK.out _ _ ⟨(blk_cell aw.out 0).trans rfl, (blk_cell aw.out 1).trans rfl, (blk_cell aw.out 2).trans rfl⟩ (fun hHeld => ?_)
      clear hK K
      refine norm_ (a' := ?_) ?_ ?_
      rotate_left
      ·show Act.put _ (some 13) _ = _
       simp only [Act.put, List.setIfInBounds_toArray, List.set_cons_zero, List.set_cons_succ, i64_w, i32_w]
       rfl
      refine pu_ 2 14 (M_ 3 14) ?_
      refine pu_ 3 15 (M_ 4 13) ?_
      refine pn_ 4 16 (M_ 5 12) ?_
      refine pn_ 5 17 (M_ 6 11) ?_
      refine pn_ 6 18 (M_ 7 10) ?_
      refine pn_ 7 19 (M_ 8 9) ?_
      refine pn_ 8 20 (M_ 9 8) ?_
      refine pn_ 9 21 (M_ 10 7) ?_
      refine pn_ 10 22 (M_ 11 6) ?_
      refine pn_ 11 23 (M_ 12 5) ?_
      refine pn_ 12 24 (M_ 13 4) ?_
      refine pn_ 13 25 (M_ 14 3) ?_
      refine pn_ 14 26 (M_ 15 2) ?_
      refine pn_ 15 27 (M_ 16 1) ?_
      refine pu_ 16 28 (M_ 17 0) ?_
      refine done_ (done_of HT_.out (by kernel_rfl)) ?_
      try go_wp2
      go_ret
      exact ⟨Z11, Z30⟩
     rw [if_neg c4] at H
     exact absurd H (by simp)
    rw [if_neg c3] at H
    exact absurd H (by simp)
   rw [if_neg c2] at H
   have eN : decide (ag < (l0.length : Int)) = false := decide_eq_false c2
   clear c2
   obtain rfl := Option.some.inj H
   go_wp2
   go_ret
   exact ⟨Z11, Z1⟩

end Go.Proofs.YtdipcpcbclobpaaDoor.PFnPins
